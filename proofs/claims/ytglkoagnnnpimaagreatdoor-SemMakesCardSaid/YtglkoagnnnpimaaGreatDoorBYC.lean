/- Contracts of functions and plain laws. -/
import Derived.Test.YtglkoagnnnpimaaGreatDoorBYB
import Derived.Test.YtglkoagnnnpimaaGreatDoorBYA
import Derived.Test.YtglkoagnnnpimaaGreatDoorBZI
set_option linter.unusedVariables false
set_option linter.unusedSimpArgs false
namespace Go.Proofs.YtglkoagnnnpimaaGreatDoor.Fw
attribute [local irreducible] Ev
attribute [local go_sem] nQ AL List.toList_toArray B0 evG evK Wg E0 LC IE G5 GU RW LB CS Di Oe DK Cr frz rT Gm DX BB Fz Ba AV.frz AV.frzs AV.drp AV.drps AV.names AV.namess aq Gn Kz K2 TX Jg Bv B3 KV EJ Jj EK Jl Jk Jm We RM HS MN F1 EZ Wf SH qUn KW I1 NX FM D8 Jn K4 Ep TZ Cz Eq FN SI I2 Oc FO Ob RP SJ M7 Jo K5 DY DD K0 D9 Ic DS FP DT Er GT DK C2 OZ SG QH G0 Ji Jh K3 Od RS M8 Nb NZ K7 Ta Na K8 bJ RU RT AV.trn AV.trns EI Cy Obj.trn Kd jZ DV Dt DU Es CX FQ Af lk H9 Gt Ia bin rR Yu rV TY TV zfx AV.cellss rS zfs pfs AV.cells CO Eo I0 F2 RR CP Oa Ty.cell1 Jf E3 D7 GR IZ Em Kt M6 OY GQ Gz NW TT Wd Mu Ks bF iW TW IA C3 HR RV.flat Ty.flat Ty.size St.add upd del Bd Value.oneCell' Ys Ty.dflt Jd Sp I8 Sw List.take_succ_cons List.take_zero List.length_cons nU nV Sv LT PC JA Ma A36 G6 Oz O2 O3 O4 Tz T6 O5 Jy ZH Option.map_some Option.map_none Option.bind_some Option.getD_some Option.getD_none Option.isNone_none Option.isNone_some Bool.and_true Bool.true_and Bool.and_false Bool.false_and Bool.not_true Bool.not_false if_true if_false List.length_cons List.length_nil and_true true_and and_self List.all_cons List.all_nil List.append_nil List.nil_append List.cons_append List.getElem?_cons_zero List.getElem?_cons_succ List.getElem?_nil List.map_cons List.map_nil List.set_cons_zero List.set_cons_succ List.isEmpty_nil List.isEmpty_cons decide_true decide_false beq_self_eq_true bne_self_eq_false Nat.zero_add Nat.add_zero Nat.sub_zero Int.toNat_natCast Int.toNat_zero Int.toNat_one List.take_length List.length_append List.length_singleton true_or or_true or_self false_or or_false Ty.agg.injEq Ty.slice.injEq Ty.prod.injEq Ty.int.injEq Option.some.injEq beq_iff_eq LR evMG evMQ opM Im NC CB Kb G7 UA Ka Il Jz MY LQ QQ O8 QR UB O7 Sr Ss MX Ac Al Op.operands Call.operands List.filterMap_cons List.filterMap_nil List.append_eq Bool.cond_false_right Bool.cond_true_left cond_true cond_false implies_true decide_eq_true_eq beq_true beq_false Bool.or_true Bool.or_false Bool.true_or Bool.false_or Option.isSome_some Array.empty_append List.append_toArray F0 Og FT IB bI RQ bH GS HI HH I3 Ib K6 NY Yv rU HG inB K9 GM G1 LA Ai nZ List.drop_zero D4 IH cL C5 Nq Cq AV.fgt AV.fgts Obj.fgt A0 Ax Ac EP LV Bw LX List.any_cons List.any_nil n6 jS cN jT Mv SM qs List.flatMap_cons List.flatMap_nil List.cons_append tn cU ND List.take_succ_cons List.drop_succ_cons cW Hf Bb x8 Qa CR Cm Ao FW LL B5 matchAVs DE Ik Jw Ha Jx
attribute [local go_sem] ty1 s9 ty3 ty4 ty5 ty9 A6A A6B A6C A6D A6E A6F A6G A6H A6I A6J A6K A6L A6M A6N A6O A6P A6Q A6R A6S A6T A6U A6V A6W A6X A6Y A6Z A70 A71 yH yI yJ yK yL yM yN yO yP yQ yR yS yT yU yV yW yX yY yZ y3 y4 y5 y6 y7 y8 y9 zA zB zC zD zE zF zG zH zI zJ zK zL
set_option maxRecDepth 100000
set_option maxHeartbeats 4000000
variable {f Z:List AD} {h:AE} {i k:Nat} {v y:ByteArray} {L M:List Int} {n:Int} {m:Bj} {R:Exit->Act->World->Prop} {d:List AJ} {Y:Array Oper} {X:List Oper} {W:Type} {P:Program} {V:List Ce} {t:TypeId}
section
attribute [local go_sem] OJ OI Va
theorem mS (h:AE) (f:List AD) (n:Int) (k:AX f) (H:Db h f) (n0:0<=n) (n1:n<(f.length:Int)):A5 Tryz.prog 130 [.p FK h,.p Fm f,.p T3 n] [] [] (λres am=>res=.tup [.p Br (BK h f n).1,.p C6 (BK h f n).2]):=by
 refine fKR [0,1,2,3,4,6,7,8,9,10,11,12,13,14,15,22,39,44,45,50,59,63,67] [78] [] Tryz.func130 Tryz.ntmps130 (AF A0U (AF fW (AF Z2 AH))) ?_;intro w0 K O0 ρ0 c ah ai;simp only[Ai];have S:(h.1,h.2)=h:=rfl;repeat'(first|exact trivial|apply eS rfl|apply AB|refine rX c ?_ ?_|refine rC ?_ ?_<;>intro d<;>try(cases d;done))
 all_goals simp only[S]at *
 .have l:SX h=false:=by
   cases j:SX h with
   | true=>rw[j]at d;exact absurd rfl d
   | false=>rfl
  have s:BK h f n=([],5):=by unfold BK;rw[l,As sc]
  simp only[l,AAT,AB1,s];exact XY c [.cell 6 101,.cell 7 35] rfl (.inl rfl) (.tup [.p Br [],.p C6 5]) eT rfl
 .exact⟨k,n0,n1⟩
 .have l:SX h=true:=by
   have q:((if SX h=true then (0:Int) else 5) != 0)=false:=by assumption
   cases j:SX h with
   | false=>rw[j]at q;exact absurd q dg
   | true=>rfl
  simp only[BY l,wdF]at *;have s:BK h f n=([],13):=by unfold BK;rw[BY l];exact BY d
  rw[s];exact XY c [.cell 6 101,.cell 7 35] rfl (.inl rfl) (.tup [.p Br [],.p C6 13]) eT rfl
 have l:SX h=true:=by
  have q:((if SX h=true then (0:Int) else 5) != 0)=false:=by assumption
  cases j:SX h with
  | false=>rw[j]at q;exact absurd q dg
  | true=>rfl
 simp only[BY l,wdF]at *;have E:=A0Q l;have D:=A0T h;have I:WOk h (EF h):=⟨⟨E.2.1,D.1.2.1⟩,E.2.2.1,D.1.2.2.1⟩;have C:BK h f n=Fi h (EF h) f (Bz (Av f n).2 (EF h).last) (f.length+1) [] [] (Bz (Av f n).2 (EF h).head):=by
  unfold BK;rw[BY l];exact As (λq=>q.elim (λq=>absurd d.1 (ACO.2 q)) λq=>absurd d.2 (ACO.2 q))
 have u:Bz (Av f n).2 (EF h).head<(f.length:Int):=Pp O1 _ λx Z=>(Pq k n.toNat x Z).2;have t:0<=Bz (Av f n).2 (EF h).head:=d.1;have G:f.getD n.toNat (0,[])=Av f n:=rfl;simp only[G]at *;rw[C];generalize af:EF h=w at *;generalize Bz (Av f n).2 w.head=a at *;generalize Bz (Av f n).2 w.last=la at *;clear G C d n0 n1;refine Ev.ent (σ':=⟨[(10,.p T3 a),(4,.bp 4 [] 0),(6,.bp 6 [] 0),(7,.bp 7 [] 0),(8,.bp 8 [] 0),(11,.bp 11 [] 0),(12,.bp 12 [] 0),(13,.bp 13 [] 0)],[(6,.box 101 false [.raw (.slice none 0 0)]),(7,.box 35 false [.p C6 0]),(8,Dd h w),(4,.box 34 true [.p JD f]),(11,.box 3 false [.p T3 la]),(12,.box 101 false [.raw (.slice none 0 0)]),(13,.box 215 false [.mp 24]),(24,.mapo T3 .bool [])]⟩) ?_ (AC [(6,.nm 6),(7,.nm 7),(8,.nm 8),(4,.nm 4),(11,.nm 11),(12,.nm 12),(13,.nm 13),(24,.nm 40)] rfl rfl ?_ ?_)
 .simp only[Dd];refine cP 3 c ?_ ?_
  .trivial
  refine rM c (A1B h w f a) [] [] ?_ ?_ ?_
  .simp only[wdF];first|exact eN|refine eM ?_
  .first|exact eN|refine eM ?_
  rintro _ _ ⟨rfl,rfl⟩;refine⟨[(50,.nm 5),(52,.nm 4),(51,.nm 3)],.clo 187 [50,51,52],[(50,.box 3 false [.p T3 a]),(52,.box 34 true [.p JD f]),(51,Dd h w)],rfl,rfl,?_,?_,rfl,rfl,E2 ?_⟩
  .simp only[Dd];first|exact eN|refine eM ?_
  .first|exact eN|refine eM ?_
  simp only[Dd];repeat'(first|exact trivial|apply eS rfl|apply AB|refine rX c ?_ ?_|refine rC ?_ ?_<;>intro d<;>try(cases d;done))
  refine dA c rfl rfl (by simp only[go_sem,Nat.reduceEqDiff,reduceCtorEq,Nat.reduceAdd,Nat.reduceSub,Nat.reduceMul,Nat.reduceLeDiff,Nat.reduceLT,Int.reduceLE,Int.reduceToNat,Int.reduceNeg,↓reduceIte];rfl) 101 103 102 rfl rfl rfl rfl ?_;intro L o B M N O P Q Y;refine⟨_,dO h w f L o la (CN h w f a 0) a (.raw (.slice none 0 0)) 0,[50,51,52,101,102,6,7,8,4,11,12,13,24],_,[(50,.nm 50),(51,.nm 51),(52,.nm 52),(101,.nm 101),(102,.nm 102),(6,.nm 6),(7,.nm 7),(8,.nm 8),(4,.nm 4),(11,.nm 11),(60,.nil),(12,.nm 12),(13,.nm 13),(24,.nm 24)],[60],vI h w f la a I k H t u L o ?_,rfl,rfl,?_,?_,rfl,?_⟩
  .intro i hi;obtain⟨J,ad,A,ae⟩:=TK k t u i (aI hi);have ag:=J.len;have v:=A47 (CN h w f a i).1 (CN h w f a i).2.2.2;have V:lwO (h,w.list,w.cons,w.null,w.dlist,w.first,w.rest,w.head,w.last)=w:=rfl;have W:Kp (CN h w f a (i+1)).1=E4 T3 .bool (CN h w f a i).2.2.2 true (Kp (CN h w f a i).1):=by
    show Kp ((CN h w f a i).1++[(CN h w f a i).2.2.2])=_;simp[Kp]
   have hT:=c.T;have hF:=c.F;refine cX (fr:=102) rfl rfl B O P Q N Y rfl (by kernel_rfl) sc rfl rfl (by kernel_rfl) (by kernel_rfl) hT hF ?_;intro an aa ab ao al c aj ak j;simp only[dO,Dd,dE,Hf];repeat'(first|exact trivial|apply eS rfl|apply AB|refine rX c ?_ ?_|refine rC ?_ ?_<;>intro d<;>try(cases d;done))
   refine⟨rfl,?_⟩;repeat'(first|exact trivial|apply eS rfl|apply AB|refine rX c ?_ ?_|refine rC ?_ ?_<;>intro d<;>try(cases d;done))
   all_goals try simp only[V]at *
   all_goals try simp only[show ∀m:Int,f.getD m.toNat (0,[])=Av f m from λ_=>rfl]at *
   .exact⟨I,k,H,A⟩
   .have g:NT h w f la (CN h w f a i)=some ((CN h w f a i).2.1,0):=(BY d.1).trans (by rw[BY d.2]);refine Ev.ent (σ':=⟨[],dO h w f { L with state:=.busy } o la (CN h w f a i) (CN h w f a i).2.2.2 (.sr 60 T3 0 (CN h w f a i).2.1.length) 0⟩) ?_ (AC [(50,.nm 50),(51,.nm 51),(52,.nm 52),(101,.nm 101),(102,.nm 102),(6,.nm 6),(7,.nm 7),(8,.nm 8),(4,.nm 4),(11,.nm 11),(60,.nm 60),(12,.nm 12),(13,.nm 13),(24,.nm 24)] rfl rfl ?_ ?_)
    .refine Mc c (yn:=101) rfl rfl sc j ⟨false,rfl,.inl ⟨g,rfl,?_⟩⟩;simp only[dO,Dd,dE,Gy,go_sem,Nat.reduceEqDiff,reduceCtorEq,Nat.reduceAdd,Nat.reduceSub,Nat.reduceMul,Nat.reduceLeDiff,Nat.reduceLT,Int.reduceLE,Int.reduceToNat,Int.reduceNeg,↓reduceIte]
    .simp only[dO,Dd,dE];first|exact eN|refine eM ?_
    first|exact eN|refine eM ?_
   .have g:NT h w f la (CN h w f a i)=some ([],13):=(BY (by assumption)).trans (by rw[As (d (by assumption))]);refine Ev.ent (σ':=⟨[],dO h w f { L with state:=.busy } o la (CN h w f a i) (CN h w f a i).2.2.2 (.raw (.slice none 0 0)) 13⟩) ?_ (AC [(50,.nm 50),(51,.nm 51),(52,.nm 52),(101,.nm 101),(102,.nm 102),(6,.nm 6),(7,.nm 7),(8,.nm 8),(4,.nm 4),(11,.nm 11),(60,.nm 60),(12,.nm 12),(13,.nm 13),(24,.nm 24)] rfl rfl ?_ ?_)
    .refine Mc c (yn:=101) rfl rfl sc j ⟨false,rfl,.inr (.inl ⟨13,g,rfl,?_⟩)⟩;simp only[dO,Dd,dE,Gy,go_sem,Nat.reduceEqDiff,reduceCtorEq,Nat.reduceAdd,Nat.reduceSub,Nat.reduceMul,Nat.reduceLeDiff,Nat.reduceLT,Int.reduceLE,Int.reduceToNat,Int.reduceNeg,↓reduceIte]
    .simp only[dO,Dd,dE];first|exact eN|refine eM ?_
    first|exact eN|refine eM ?_
   .have U:(CN h w f a i).2.2.2∈(CN h w f a i).1:=by
     have r:(BS T3 .bool (CN h w f a i).2.2.2 (Kp (CN h w f a i).1)).getD false=true:=by assumption
     rw[v]at r;simpa[inF] using r
    have g:NT h w f la (CN h w f a i)=some ([],6):=(As (by assumption)).trans (BY U);refine Ev.ent (σ':=⟨[],dO h w f { L with state:=.busy } o la (CN h w f a i) (CN h w f a i).2.2.2 (.raw (.slice none 0 0)) 6⟩) ?_ (AC [(50,.nm 50),(51,.nm 51),(52,.nm 52),(101,.nm 101),(102,.nm 102),(6,.nm 6),(7,.nm 7),(8,.nm 8),(4,.nm 4),(11,.nm 11),(60,.nm 60),(12,.nm 12),(13,.nm 13),(24,.nm 24)] rfl rfl ?_ ?_)
    .refine Mc c (yn:=101) rfl rfl sc j ⟨false,rfl,.inr (.inl ⟨6,g,rfl,?_⟩)⟩;simp only[dO,Dd,dE,Gy,go_sem,Nat.reduceEqDiff,reduceCtorEq,Nat.reduceAdd,Nat.reduceSub,Nat.reduceMul,Nat.reduceLeDiff,Nat.reduceLT,Int.reduceLE,Int.reduceToNat,Int.reduceNeg,↓reduceIte]
    .simp only[dO,Dd,dE];first|exact eN|refine eM ?_
    first|exact eN|refine eM ?_
   .have z:(CN h w f a i).2.2.2∉(CN h w f a i).1:=by
     have r:(BS T3 .bool (CN h w f a i).2.2.2 (Kp (CN h w f a i).1)).getD false=false:=by assumption
     rw[v]at r;intro y;have:=ACC.1 r _ y;simp at this
    have g:NT h w f la (CN h w f a i)=some ([],13):=(As (by assumption)).trans ((As z).trans (As (by assumption)));refine Ev.ent (σ':=⟨[],dO h w f { L with state:=.busy } o la (CN h w f a i) (CN h w f a i).2.2.2 (.raw (.slice none 0 0)) 13⟩) ?_ (AC [(50,.nm 50),(51,.nm 51),(52,.nm 52),(101,.nm 101),(102,.nm 102),(6,.nm 6),(7,.nm 7),(8,.nm 8),(4,.nm 4),(11,.nm 11),(60,.nm 60),(12,.nm 12),(13,.nm 13),(24,.nm 24)] rfl rfl ?_ ?_)
    .refine Mc c (yn:=101) rfl rfl sc j ⟨false,rfl,.inr (.inl ⟨13,g,rfl,?_⟩)⟩;simp only[dO,Dd,dE,Gy,go_sem,Nat.reduceEqDiff,reduceCtorEq,Nat.reduceAdd,Nat.reduceSub,Nat.reduceMul,Nat.reduceLeDiff,Nat.reduceLT,Int.reduceLE,Int.reduceToNat,Int.reduceNeg,↓reduceIte]
    .simp only[dO,Dd,dE];first|exact eN|refine eM ?_
    first|exact eN|refine eM ?_
   .refine⟨⟨k,A⟩,?_⟩;have:=k.1;simp only[AO];omega
   have z:(CN h w f a i).2.2.2∉(CN h w f a i).1:=by
    have r:(BS T3 .bool (CN h w f a i).2.2.2 (Kp (CN h w f a i).1)).getD false=false:=by assumption
    rw[v]at r;intro y;have:=ACC.1 r _ y;simp at this
   have hk:Fx h w (Av f (CN h w f a i).2.2.2)=2:=by simpa using d
   have g:NT h w f la (CN h w f a i)=none:=(As (by assumption)).trans ((As z).trans (BY hk));have X:(CN h w f a (i+1)).2.1=(CN h w f a i).2.1++[Bz (Av f (CN h w f a i).2.2.2).2 w.first]:=BY hk;refine Ev.ent (σ':=⟨[],dO h w f { L with state:=.busy } o la (CN h w f a (i+1)) (CN h w f a i).2.2.2 (.raw (.slice none 0 0)) 0⟩) ?_ (AC [(50,.nm 50),(51,.nm 51),(52,.nm 52),(101,.nm 101),(102,.nm 102),(6,.nm 6),(7,.nm 7),(8,.nm 8),(4,.nm 4),(11,.nm 11),(60,.nm 60),(12,.nm 12),(13,.nm 13),(24,.nm 24)] rfl rfl ?_ ?_)
   .refine XW c (yn:=101) rfl rfl sc j ⟨true,rfl,.inr (.inr ⟨g,rfl,?_⟩)⟩;simp only[dO,Dd,dE,go_sem,Nat.reduceEqDiff,reduceCtorEq,Nat.reduceAdd,Nat.reduceSub,Nat.reduceMul,Nat.reduceLeDiff,Nat.reduceLT,Int.reduceLE,Int.reduceToNat,Int.reduceNeg,↓reduceIte,fF B M]
   .simp only[dO,Dd,dE,W,X];first|exact eN|refine eM ?_
   first|exact eN|refine eM ?_
  .simp only[Bb,dO,Dd,dE,CN];first|exact eN|refine eM ?_
  .simp only[Bb,dO,Dd,dE,CN];first|exact eN|refine eM ?_
   rfl
  rintro _ _ ⟨rfl,i,hi,R⟩;rcases R with ⟨g,-,rfl⟩|⟨e,g,-,rfl⟩|⟨g,q,rfl⟩
  .have s:=Yd k t u hi g;refine⟨[(50,.nm 50),(51,.nm 51),(52,.nm 52),(101,.nm 101),(102,.nm 102),(6,.nm 6),(7,.nm 7),(8,.nm 8),(4,.nm 4),(11,.nm 11),(60,.nm 60),(12,.nm 12),(13,.nm 13),(24,.nm 24)],dO h w f (Gy L) o la (CN h w f a i) (CN h w f a i).2.2.2 (.sr 60 T3 0 (CN h w f a i).2.1.length) 0,Gy L,rfl,rfl,?_,rfl,rfl,rfl,rfl,?_⟩
   .simp only[dO,Dd,dE];first|exact eN|refine eM ?_
   intro b;simp only[Gy,EvJ,dO,Dd,dE,Bb,go_sem,Nat.reduceEqDiff,reduceCtorEq,Nat.reduceAdd,Nat.reduceSub,Nat.reduceMul,Nat.reduceLeDiff,Nat.reduceLT,Int.reduceLE,Int.reduceToNat,Int.reduceNeg,↓reduceIte];replace c:=Qb (dn:=103) (b:=b) c;refine CK [60] ?_;repeat'(first|exact trivial|apply eS rfl|apply AB|refine rX c ?_ ?_|refine rC ?_ ?_<;>intro d<;>try(cases d;done))
   refine Ev.ent (σ':=⟨[(6,.bp 6 [] 0),(7,.bp 7 [] 0)],[(6,.box 101 false [.p Br (CN h w f a i).2.1]),(7,.box 35 false [.p C6 0]),(103,.dfr)]⟩) ?_ (AC [(6,.nm 6),(7,.nm 7),(103,.nm 103)] rfl rfl ?_ ?_)
   .rw[s];exact UZ c [.cell 6 101,.cell 7 35] rfl (.inl rfl) rfl rfl (.tup [.p Br (CN h w f a i).2.1,.p C6 0]) eT rfl
   .first|exact eN|refine eM ?_
   first|exact eN|refine eM ?_
  .have s:=Yd k t u hi g;refine⟨[(50,.nm 50),(51,.nm 51),(52,.nm 52),(101,.nm 101),(102,.nm 102),(6,.nm 6),(7,.nm 7),(8,.nm 8),(4,.nm 4),(11,.nm 11),(60,.nm 60),(12,.nm 12),(13,.nm 13),(24,.nm 24)],dO h w f (Gy L) o la (CN h w f a i) (CN h w f a i).2.2.2 (.raw (.slice none 0 0)) e,Gy L,rfl,rfl,?_,rfl,rfl,rfl,rfl,?_⟩
   .simp only[dO,Dd,dE];first|exact eN|refine eM ?_
   intro b;simp only[Gy,EvJ,dO,Dd,dE,Bb,go_sem,Nat.reduceEqDiff,reduceCtorEq,Nat.reduceAdd,Nat.reduceSub,Nat.reduceMul,Nat.reduceLeDiff,Nat.reduceLT,Int.reduceLE,Int.reduceToNat,Int.reduceNeg,↓reduceIte];replace c:=Qb (dn:=103) (b:=b) c;repeat'(first|exact trivial|apply eS rfl|apply AB|refine rX c ?_ ?_|refine rC ?_ ?_<;>intro d<;>try(cases d;done))
   refine Ev.ent (σ':=⟨[(6,.bp 6 [] 0),(7,.bp 7 [] 0)],[(6,.box 101 false [.p Br []]),(7,.box 35 false [.p C6 e]),(103,.dfr)]⟩) ?_ (AC [(6,.nm 6),(7,.nm 7),(103,.nm 103)] rfl rfl ?_ ?_)
   .rw[s];exact UZ c [.cell 6 101,.cell 7 35] rfl (.inl rfl) rfl rfl (.tup [.p Br [],.p C6 e]) eT rfl
   .first|exact eN|refine eM ?_
   first|exact eN|refine eM ?_
  cases q
 .simp only[Dd];first|exact eN|refine eM ?_
 first|exact eN|refine eM ?_
end
section
attribute [local go_sem] WC mQ aG aH WD A1C Jc Iu
def MC:AW:={ ins:=[FK,Fm,T3],pre:=λ(h,f,n,_)=>AX f/\Db h f/\(0:Int)<=n/\n<(List.length f:Int),out:=λ(h,f,n,_)=>[.p Br (BK h f n).1,.p C6 (BK h f n).2] }
attribute [local go_sem] MC
theorem gW:AY Tryz.prog 130 MC:=by
 refine Wl ⟨_,Tryz.func130,by kernel_rfl,by kernel_rfl⟩ (λds e=>?_) (λds r a=>?_)
 .obtain⟨h,f,n,u⟩:=ds;obtain⟨h1,b,c,d⟩:=e;refine⟨[.p FK h,.p Fm f,.p T3 n],λw O t g=>?_,mS h f n h1 b c d⟩;obtain⟨v1,o,rfl,i,l,q,rfl,j,m,s,rfl,k,rfl⟩:=g;exact⟨v1,_,rfl,Ue i,l,_,rfl,Ue j,m,_,rfl,Ue k,rfl⟩
 simp only[MC,DO,ABF,ACP]at a;rcases a with rfl|rfl
 .exact⟨_,_,rfl⟩
 exact⟨_,_,rfl⟩
end
section
attribute [local go_sem] gU Xe Kw Kh My Jc Iu NH
def Sa (h:AE) (f:List AD):Prop:=∀x∈f,∀a∈x.2,0<=a.1/\a.1<(h.2.length:Int)
def A1D (h:AE) (a:Int×Int):ByteArray:=(h.2.getD a.1.toNat (ByteArray.empty,0)).1
def nmN (h:AE) (f:List AD) (n:Int):ByteArray:=(h.1.getD (Av f n).1.toNat NK).1
theorem WE (a:AX f) (n:Int) (s:ByteArray) (h0:0<f.length):Cw h f n s<(f.length:Int):=by
 unfold Cw;split
 .exact Pp O1 _ λx b=>(Pq a n.toNat x b).2
 omega
end
section
attribute [local go_sem] MC
theorem Ye {h:AE} {w:LW} {f:List AD} {la:Int} (hf:AX f):∀(k:Nat) (c out:List Int) (n:Int),(∀x∈out,0<=x/\x<(f.length:Int))->(∀x∈(Fi h w f la k c out n).1,0<=x/\x<(f.length:Int))/\(Fi h w f la k c out n).1.length<=out.length+k/\((Fi h w f la k c out n).2≠0->(Fi h w f la k c out n).1=[])
 | 0,_,_,_,_=>⟨λx b=>(by cases b),By _,λ_=>rfl⟩
 | k+1,c,out,n,i=>by
  have d:∀e:Int,(∀x∈(([],e):List Int×Int).1,0<=x/\x<(f.length:Int))/\(([],e):List Int×Int).1.length<=out.length+(k+1)/\((([],e):List Int×Int).2≠0->(([],e):List Int×Int).1=[]):=λe=>⟨λx b=>(by cases b),By _,λ_=>rfl⟩;rw[Fi];cases a:gV h w f la c out n with
  | some r =>
   unfold gV at a;simp only;split at a
   .cases a;split
    .exact⟨i,Nat.le_add_right _ _,λq=>absurd rfl q⟩
    exact d 13
   split at a
   .cases a;exact d 6
   split at a
   .cases a
   cases a;exact d 13
  | none =>
   have hk:=(Ja a).2.2;have l:0<=Bz (Av f n).2 w.first/\Bz (Av f n).2 w.first<(f.length:Int):=by
    have j:=(YH hk).1;have m:f.length≠0:=by
     intro q;have:f=[]:=List.length_eq_zero_iff.1 q;subst this;simp[Bz,Av]at j
    exact⟨j,Pp O1 _ λx b=>(Pq hf n.toNat x b).2⟩
   have g:=Ye (h:=h) (w:=w) (la:=la) hf k (c++[n]) (out++[Bz (Av f n).2 w.first]) (Bz (Av f n).2 w.rest) (λx b=>by
    rcases Is.1 b with q|q
    .exact i x q
    rw[oN.1 q];exact l)
   refine⟨g.1,?_,g.2.2⟩;have:=g.2.1;rw[Do,nO]at this;simp only;omega
theorem SD (hf:AX f) (n:Int):((∀x∈(BK h f n).1,0<=x/\x<(f.length:Int))/\(BK h f n).1.length<=200000)/\((BK h f n).2≠0->(BK h f n).1=[]):=by
 unfold BK;split
 .split
  .exact⟨⟨λx a=>(by cases a),By _⟩,λ_=>rfl⟩
  have:=Ye (h:=h) (w:=EF h) (la:=Bz (Av f n).2 (EF h).last) hf (f.length+1) [] [] (Bz (Av f n).2 (EF h).head) (λx a=>by cases a);have b:=hf.1;refine⟨⟨this.1,?_⟩,this.2.2⟩;have:=this.2.1;simp only[AAl]at this;omega
 exact⟨⟨λx a=>(by cases a),By _⟩,λ_=>rfl⟩
end
section
attribute [local go_sem] gU Qm Kw Kh My Jc Iu NH
theorem P5 {a b:ByteArray} (h:AM a b=true):a=b:=by
 have h:=GB.1 h;rw[ByteArray.toList_eq,ByteArray.toList_eq]at h;exact AAS ByteArray.mk (Array.toList_inj.1 h)
def zM:Bj:=(0,0,[],[],[])
end
section
attribute [local go_sem] Pr NL Kw Kh My Jc Iu NH
def A1E (h:AE):Prop:=0<=Ae h ⟨#[104,97,110,100,108,101]⟩/\0<=Ae h ⟨#[101,118,101,110,116]⟩/\0<=Ae h ⟨#[101,110,116,105,116,121]⟩/\0<=Ae h ⟨#[105,110,100,101,120]⟩
def Iv:List (ByteArray×ByteArray):=[(⟨#[104]⟩,⟨#[104,97,110,100,108,101]⟩),(⟨#[101]⟩,⟨#[101,118,101,110,116]⟩),(⟨#[120]⟩,⟨#[101,110,116,105,116,121]⟩),(⟨#[105]⟩,⟨#[105,110,100,101,120]⟩)]
def mT (h:AE) (t:Int) (i:Nat):Option ByteArray:=if Aa h (Ae h (Iv.getD i (ByteArray.empty,ByteArray.empty)).2) t=true then some (Iv.getD i (ByteArray.empty,ByteArray.empty)).1 else none
theorem A1F (hs:A1E h) (t:Int):BC (mT h t) ⟨#[]⟩ 4 0=Cb h t:=by
 obtain⟨h1,e,f,g⟩:=hs;have a:mT h t 0=if OP h ⟨#[104,97,110,100,108,101]⟩ t=true then some ⟨#[104]⟩ else none:=by unfold OP;rw[AB0 h1];rfl
 have b:mT h t 1=if OP h ⟨#[101,118,101,110,116]⟩ t=true then some ⟨#[101]⟩ else none:=by unfold OP;rw[AB0 e];rfl
 have c:mT h t 2=if OP h ⟨#[101,110,116,105,116,121]⟩ t=true then some ⟨#[120]⟩ else none:=by unfold OP;rw[AB0 f];rfl
 have d:mT h t 3=if OP h ⟨#[105,110,100,101,120]⟩ t=true then some ⟨#[105]⟩ else none:=by unfold OP;rw[AB0 g];rfl
 simp only[BC,Cb,a,b,c,d,AAH,Nat.reduceAdd];split<;>rename_i q
 .split at q<;>cases q;rename_i q;rw[BY q]
 split at q<;>cases q;rename_i q;rw[As q];split<;>rename_i q
 .split at q<;>cases q;rename_i q;rw[BY q]
 split at q<;>cases q;rename_i q;rw[As q];split<;>rename_i q
 .split at q<;>cases q;rename_i q;rw[BY q]
 split at q<;>cases q;rename_i q;rw[As q];split<;>rename_i q
 .split at q<;>cases q;rename_i q;rw[BY q]
 split at q<;>cases q;rename_i q;rw[As q]
theorem A9Z (hs:A1E h) (hi:i<4):0<=Ae h (Iv.getD i (ByteArray.empty,ByteArray.empty)).2:=by
 obtain⟨h1,a,b,c⟩:=hs;match i,hi with
 | 0,_=>exact h1
 | 1,_=>exact a
 | 2,_=>exact b
 | 3,_=>exact c
def aJ:AW:={ ins:=[FK,T3],pre:=λ(h,t,_)=>A1E h/\(0:Int)<=t/\t<(List.length (h:AE).1:Int),out:=λ(h,t,_)=>[.p T9 (Cb h t)],lend:=true }
theorem gX:AY Tryz.prog 11 aJ:=by
 refine fK [0,1,2,4,6,7,8,9,10,19] Tryz.func11 Tryz.ntmps11 (AF Ps (AF Pe AH)) ?_;rintro w0 O0 ⟨h,t,u⟩ a-⟨hs,h0,h1⟩;have hs:A1E h:=hs;have h0:0<=t:=h0;have h1:t<(h.1.length:Int):=h1;have d:(h.1,h.2)=h:=rfl;simp only[aJ,AL];repeat'(first|exact trivial|apply eS rfl|apply AB|refine rP a ?_ ?_|fail)
 refine cP 0 a ?_ ?_
 .trivial
 refine A8y a ?_;refine rL a ?_ ?_
 .trivial
 repeat'(first|exact trivial|apply eS rfl|apply AB|refine rP a ?_ ?_|fail)
 rw[<-A1F hs t];generalize e:BC (mT h t) ⟨#[]⟩ 4 0=S;refine AI (ι:={i:Nat//i<=4/\BC (mT h t) ⟨#[]⟩ (4-i) i=S}) (λi=>⟨[(1,.p T3 t),(2,.bp 2 [] 0),(7,.p T71 Iv),(8,.p (.int .i64) 4),(9,.p (.int .i64) (i.1:Int))],[(2,.box 26 true [.p OW h.1,.p QC h.2])]⟩) (λi=>4-i.1) ⟨0,By _,e⟩ (AC [(2,.nm 2)] rfl rfl ?_ ?_) (λi=>?_)
 .first|exact eN|refine eM ?_
 .first|exact eN|refine eM ?_
  exact⟨rfl,rfl⟩
 obtain⟨i,hi,c⟩:=i;simp only;repeat'(first|exact trivial|apply eS rfl|apply AB|refine rX a ?_ ?_|refine rC ?_ ?_<;>intro b<;>try(cases b;done))
 all_goals have d:(h.1,h.2)=h:=rfl
 all_goals try simp only[d]at *
 .exact b
 .exact⟨⟨A9Z hs O1,Fh h _⟩,h0,h1⟩
 .rw[CU c O1 (BY b)];exact fI a [.tmp 4]
 .omega
 .refine⟨⟨i+1,by omega,DB c O1 (As (by rw[b];simp))⟩,by simp only;omega,AC [(2,.nm 2)] rfl rfl ?_ ?_⟩
  .first|exact eN|refine eM ?_
  first|exact eN|refine eM ?_
 rw[Dx c O1];exact fI a [.tmp 4]
end
section
attribute [local go_sem] oH oI A3m Kw Kh My Jc Iu NH
def A1G:AW:={ ins:=[Ty.int .i32],pre:=λ_=>True,out:=λ(c,_)=>[.p .bool (CH 97 122 c)] }
attribute [local go_sem] A1G
theorem A4G:AY Tryz.prog 197 A1G:=by
 refine fK [0,2] Tryz.func197 Tryz.ntmps197 AH ?_;rintro w0 O0 ⟨c,u⟩ a - -;simp only[A1G,AL];repeat'(first|exact trivial|apply eS rfl|apply AB|refine rX a ?_ ?_|refine rC ?_ ?_<;>intro b<;>try(cases b;done))
 exact fI a [.tmp 2] (by unfold CH;exact eR)
def A1H:AW:={ ins:=[Ty.int .i32],pre:=λ_=>True,out:=λ(c,_)=>[.p .bool (CH 48 57 c)] }
attribute [local go_sem] A1H
theorem A4H:AY Tryz.prog 211 A1H:=by
 refine fK [0,2] Tryz.func211 Tryz.ntmps211 AH ?_;rintro w0 O0 ⟨c,u⟩ a - -;simp only[A1H,AL];repeat'(first|exact trivial|apply eS rfl|apply AB|refine rX a ?_ ?_|refine rC ?_ ?_<;>intro b<;>try(cases b;done))
 exact fI a [.tmp 2] (by unfold CH;exact eR)
def flB (s:ByteArray) (i:Nat):Bool:=CH 97 122 (NF s i)||(decide (i≠0)&&(CH 48 57 (NF s i)||NF s i==45))
theorem WF (s:ByteArray):BM s false=(decide (1<=s.size/\s.size<=32)&&(List.range s.size).all (flB s)):=by
 rw[ABB];simp only[BM,Ny,An,bY,AAj,TO,If,ON,tO];constructor
 .rintro⟨⟨⟨⟨h1,c⟩,d⟩,e⟩,a⟩;refine⟨⟨by omega,by omega⟩,λi hi=>?_⟩;have:=a i hi;unfold Nx at this;unfold flB;by_cases h0:i=0
  .subst h0;rw[d,e]at this;simpa using this
  simp only[Bool.false_and,ABZ,AC9,ABY,vW]at this;simp only[ne_eq,h0,ACA,decide_true,ABY,vW];rcases this with (h|h)|h
  .exact .inr (.inl h)
  .exact .inr (.inr h)
  exact .inl h
 rintro⟨⟨h1,c⟩,a⟩;have h0:=a 0 O1;simp only[flB,ne_eq,ABK,decide_false,Bool.false_and,ABZ]at h0;have b:=h0;simp only[CH,An,If]at b;refine⟨⟨⟨⟨by omega,by omega⟩,?_⟩,?_⟩,λi hi=>?_⟩
 .simp only[CH,AAO,TO];right;omega
 .simp only[AAY];omega
 have:=a i hi;unfold flB at this;unfold Nx;simp only[Bool.false_and,ABZ,AC9,ABY,vW];simp only[vW,An]at this;rcases this with h|⟨-,h|h⟩
 .exact .inr h
 .exact .inl (.inl h)
 exact .inl (.inr h)
theorem A4J (s:ByteArray) (p:Nat) (h:p<s.size):NF s p=((s[p]'h).toNat:Int):=by
 have a:p<s.data.size:=h;show ((s.data.getD p 0).toNat:Int)=_;simp only[Array.getD_eq_getD_getElem?,AAs a,ABE];rfl
theorem A4K {s:ByteArray} {p:Nat} (h:p<s.size) {q:Nat} {r:Int} (h1:(s[p]'h).toNat<128->q=p+1/\r=((s[p]'h).toNat:Int)) (b:128<=(s[p]'h).toNat->128<=r) :
  (CH 97 122 r||(decide (p≠0)&&(CH 48 57 r||r==45)))=flB s p/\(flB s p=true->q=p+1):=by
 unfold flB;rw[A4J s p h];by_cases c:(s[p]'h).toNat<128
 .obtain⟨d,a⟩:=h1 c;rw[a];exact⟨rfl,λ_=>d⟩
 have a:=b O1;have f:∀x:Int,128<=x->(CH 97 122 x||(decide (p≠0)&&(CH 48 57 x||x==45)))=false:=by
  intro x e;simp only[CH,AAj,AAO,TO,AAY];exact⟨.inr O1,.inr ⟨.inr O1,by omega⟩⟩
 rw[f r a,f _ O1];exact⟨rfl,λh=>by cases h⟩
theorem mU (s:ByteArray):A5 Tryz.prog 196 [.p T9 s,.fn 197] [] [] (λres _=>res=.p .bool (BM s false)):=by
 refine Ix [0,1,4,5,6,14,16,17,18,37] [] [] Tryz.func196 Tryz.ntmps196 (AF A4G (AF A4H AH)) ?_;intro w0 K O0 ρ0 a n t;have o:s.size<=AO:=n.1;simp only[Ai];repeat'(first|exact trivial|apply eS rfl|apply AB|refine rX a ?_ ?_|refine rC ?_ ?_<;>intro b<;>try(cases b;done))
 .have hf:BM s false=false:=by
   rw[WF,AAO];exact .inl (ACk O1)
  exact fM a [.tmp 4] (.p .bool false) eT (by rw[hf])
 refine cP 1 a ?_ ?_
 .trivial
 refine A9P a (by kernel_rfl) ?_;refine E2 ?_;repeat'(first|exact trivial|apply eS rfl|apply AB|refine rP a ?_ ?_|fail)
 refine AI (ι:={p:Nat//p<=s.size/\∀i,i<p->flB s i=true}) (λp=>⟨[(0,.p T9 s),(1,.fn 197),(16,.bp 16 [] 0)],[(16,.sit s p.1)]⟩) (λp=>s.size-p.1) ⟨0,By _,λ_ h=>by omega⟩ (AC [(16,.nm 16)] rfl rfl ?_ ?_) (λp=>?_)
 .first|exact eN|refine eM ?_
 .first|exact eN|refine eM ?_
 obtain⟨p,u,f⟩:=p;simp only;repeat'(first|exact trivial|apply eS rfl|apply AB|refine rP a ?_ ?_|fail)
 refine cP 0 a ?_ ?_
 .trivial
 refine A9Q a o (λh=>?_) (λh q r x h1 j hi=>?_)
 .refine rL a ?_ ?_
  .trivial
  repeat'(first|exact trivial|apply eS rfl|apply AB|refine rX a ?_ ?_|refine rC ?_ ?_<;>intro b<;>try(cases b;done))
  have w:p=s.size:=by omega
  have hf:BM s false=true:=by
   rw[WF,An];exact⟨AB0 O1,ON.2 λi hi=>f i (by rw[tO]at hi;omega)⟩
  exact fM a [.tmp 4] (.p .bool true) eT (by rw[hf])
 have d:=A4K h h1 j;refine rL a ?_ ?_
 .trivial
 repeat'(first|exact trivial|apply eS rfl|apply AB|refine rX a ?_ ?_|refine rC ?_ ?_<;>intro b<;>try(cases b;done))
 .have hf:BM s false=false:=by
   rw[WF,AAO];refine .inr (ABC.2 λl=>?_);have:=ON.1 l p (tO.2 h);rw[<-d.1]at this;simp only[vW,An,If,AAc]at this;rcases b with ⟨ha,c⟩
   rw[ha]at this;rcases this with h|⟨v,h⟩
   .cases h
   rcases c with e|⟨e,g⟩
   .omega
   rw[e]at h;rcases h with h|h
   .cases h
   exact g h
  exact fM a [.tmp 4] (.p .bool false) eT (by rw[hf])
 have hf:flB s p=true:=by
  rw[<-d.1];simp only[vW,An,If,AAc];cases ha:CH 97 122 r
  .obtain⟨h0,k⟩:=b ha;refine .inr ⟨by omega,?_⟩;cases c:CH 48 57 r
   .have:=k c;exact .inr (by simpa using this)
   exact .inl rfl
  exact .inl rfl
 obtain rfl:=d.2 hf;refine⟨⟨p+1,by omega,λi hi=>?_⟩,by simp only;omega,AC [(16,.nm 16)] rfl rfl ?_ ?_⟩
 .by_cases m:i=p
  .rw[m];exact hf
  exact f i O1
 .first|exact eN|refine eM ?_
 first|exact eN|refine eM ?_
def aK:AW:={ ins:=[T9],pre:=λ_=>True,out:=λ(s,_)=>[.p .bool (BM s false)] }
attribute [local go_sem] aK
theorem A1I:AY Tryz.prog 186 aK:=by
 refine fK [0,2] Tryz.func186 Tryz.ntmps186 AH ?_;rintro w0 O0 ⟨s,u⟩ a - -;simp only[aK,AL];repeat'(first|exact trivial|apply eS rfl|apply AB|refine rX a ?_ ?_|refine rC ?_ ?_<;>intro b<;>try(cases b;done))
 refine cP 1 a ?_ ?_
 .trivial
 refine rM a (mU s) [] [] ?_ ?_ ?_
 .exact eN
 .exact eN
 rintro _ _ rfl;refine⟨[],.p .bool (BM s false),[],rfl,rfl,?_,?_,rfl,rfl,?_⟩
 .exact eN
 .exact eN
 refine rL a ?_ ?_
 .trivial
 repeat'(first|exact trivial|apply eS rfl|apply AB|refine rX a ?_ ?_|refine rC ?_ ?_<;>intro b<;>try(cases b;done))
 exact fI a [.tmp 2]
end
section
attribute [local go_sem] nmS aJ Pr NL aK Kw Kh My Jc Iu NH
theorem H1 (h:(match P.underlying t with|some (.struct _)=>true|_=>false)=true):∃fs,P.underlying t=some (.struct fs):=by
 cases e:P.underlying t with
 | none=>rw[e]at h;cases h
 | some u =>
  rw[e]at h;cases u<;>first|exact⟨_,rfl⟩|cases h
theorem qH {nm:String} {f:FuncId} (hs:∃fs,P.underlying t=some (.struct fs))
  (h:(match P.info? t with|some i=>(match i.methods.find? (·.name==nm) with|some m=>m.path.toList.isEmpty&&(m.func==some (f,false))|none=>false)|none=>false)=true) (w:World) (v:Value) :
  (method (P.types.size+Made.depth) t v nm).run P w=.ok (f,v) w:=by
 obtain⟨fs,hs⟩:=hs;cases hi:P.info? t with
 | none=>rw[hi]at h;cases h
 | some i =>
  rw[hi]at h;simp only at h;cases a:i.methods.find? (·.name==nm) with
  | none=>rw[a]at h;cases h
  | some m =>
   rw[a]at h;simp only[An,List.isEmpty_iff,AAc]at h;obtain⟨h1,b⟩:=h;have hk:P.types.size+Made.depth=(P.types.size+(Made.depth-1))+1:=rfl;rw[hk];have c:(typeInfo t).run P w=.ok i w:=by simp[typeInfo,Sem.run,program,hi]
   simp[method,c,a,h1,b,follow,receiverAt,aT hs,Place.get]
theorem A1J:AY Tryz.prog 234 nmS:=by
 refine fK [0,1,2] Tryz.func234 Tryz.ntmps234 AH ?_;rintro w0 O0 ⟨s,u⟩ a - -;simp only[nmS,AL];repeat'(first|exact trivial|apply eS rfl|apply AB|refine rX a ?_ ?_|refine rC ?_ ?_<;>intro b<;>try(cases b;done))
 exact fI a [.tmp 2]
theorem A1K:AY Tryz.prog 235 nmS:=by
 refine fK [0,1,2] Tryz.func235 Tryz.ntmps235 AH ?_;rintro w0 O0 ⟨s,u⟩ a - -;simp only[nmS,AL];repeat'(first|exact trivial|apply eS rfl|apply AB|refine rX a ?_ ?_|refine rC ?_ ?_<;>intro b<;>try(cases b;done))
 exact fI a [.tmp 2]
def mV (h:AE):Prop:=A1E h/\0<=Ae h ⟨#[114,101,108]⟩/\0<=Ae h ⟨#[113,101,113]⟩
def Sb (h:AE) (f:List AD) (n:Int):List QF:=if AM (Cb h (Av f n).1) ⟨#[]⟩=false then [some (241,some (Cb h (Av f n).1))] else []
def WG (h:AE) (f:List AD) (n:Int):Bool:=Aa h (Ae h ⟨#[114,101,108]⟩) (Av f n).1&&BM (nmN h f n) false
def Sc (h:AE) (f:List AD) (n:Int):List QF:=if WG h f n=true then [some (244,some (nmN h f n))] else []
def Sd (h:AE) (f:List AD) (n:Int):List QF:=if Aa h (Ae h ⟨#[113,101,113]⟩) (Av f n).1=true then [some (246,none)] else []
def Gi (h:AE) (f:List AD) (n:Int):List QF:=Sb h f n++Sc h f n++Sd h f n
def FA (h:AE) (f:List AD) (a b:Int) (e:List (Int×Int)) (d:List ByteArray) (c:List G8) (qs:List SU):List (Nat×Obj) :=
  [(1,.box 81 true [.p FK h,.p Fm f,.mp 2,.ag [.p T3 a,.p T3 b,.sr 3 T9 0 d.length,.sr 4 T54 0 c.length,.sr 5 T93 0 qs.length]]),
   (2,.mapo T3 T3 e),(3,.arr 9 T9 d),(4,.arr 54 T54 c),(5,.arr 93 T93 qs)]
theorem P6 (q:Aa h (Ae h ⟨#[114,101,108]⟩) (Av f n).1=true/\BM (nmN h f n) false=true):WG h f n=true:=by
 unfold WG;rw[q.1,q.2];rfl
theorem P7 (q:Aa h (Ae h ⟨#[114,101,108]⟩) (Av f n).1=true->BM (nmN h f n) false=false):¬WG h f n=true:=by
 unfold WG;rw[An];rintro⟨a,b⟩;rw[q a]at b;cases b
theorem A1L (hs:mV h) (o:Db h f) (h0:0<=n) (h1:n<(f.length:Int)) (a b:Int) (l:List (Int×Int)) (m:List ByteArray) (k:List G8) (qs:List SU) :
  A5 Tryz.prog 167 [.bp 1 [] 0,.p T3 n] (FA h f a b l m k qs) [1,2]
  (λres q=>res=.p Qd (Gi h f n)/\q=FA h f a b l m k qs):=by
 refine Ix [0,1,4,5,6,7,8,25,55,72] [30,60,76] [] Tryz.func167 Tryz.ntmps167 (AF gX (AF Ps (AF Pe (AF A1I AH)))) ?_;intro w0 K O0 ρ0 c r s;simp only[Ai,FA];have j:0<=(f.getD n.toNat (0,[])).1/\(f.getD n.toNat (0,[])).1<(h.1.length:Int):=o _ (AG f (0,[]) (L1 ⟨h0,h1⟩));repeat'(first|exact trivial|apply eS rfl|apply AB|refine rX c ?_ ?_|refine rC ?_ ?_<;>intro d<;>try(cases d;done))
 .exact⟨h0,h1⟩
 .exact⟨hs.1,j⟩
 .refine cP 3 c ?_ ?_
  .trivial
  refine A6v c (H1 (by kernel_rfl)) ?_;refine rL c ?_ ?_
  .trivial
  repeat'(first|exact trivial|apply eS rfl|apply AB|refine rX c ?_ ?_|refine rC ?_ ?_<;>intro d<;>try(cases d;done))
  .exact j
  .exact⟨⟨hs.2.1,Fh h _⟩,j⟩
  .refine cP 3 c ?_ ?_
   .trivial
   refine A6v c (H1 (by kernel_rfl)) ?_;refine rL c ?_ ?_
   .trivial
   repeat'(first|exact trivial|apply eS rfl|apply AB|refine rX c ?_ ?_|refine rC ?_ ?_<;>intro d<;>try(cases d;done))
   .exact⟨⟨hs.2.2,Fh h _⟩,j⟩
   .refine cP 1 c ?_ ?_
    .trivial
    refine A3k c (H1 (by kernel_rfl)) (λw=>run_build w _ #[] #[] (by kernel_rfl)) dg ?_;refine rL c ?_ ?_
    .trivial
    repeat'(first|exact trivial|apply eS rfl|apply AB|refine rX c ?_ ?_|refine rC ?_ ?_<;>intro d<;>try(cases d;done))
    rename_i g i;have e:Gi h f n=[some (241,some (Cb h (f.getD n.toNat (0,[])).1)),some (244,some (List.getD h.1 (Int.toNat (f.getD n.toNat (0,[])).1) (ByteArray.empty,[],[],[])).1),some (246,none)]:=by
     unfold Gi Sb Sc Sd;rw[BY (show AM (Cb h (Av f n).1) ⟨#[]⟩=false from g),BY (P6 i),BY (show Aa h (Ae h ⟨#[113,101,113]⟩) (Av f n).1=true from d)];rfl
    refine CK [31] ?_;exact fM c [.tmp 4] (.p Qd [some (241,some (Cb h (f.getD n.toNat (0,[])).1)),some (244,some (List.getD h.1 (Int.toNat (f.getD n.toNat (0,[])).1) (ByteArray.empty,[],[],[])).1),some (246,none)]) eT ⟨by rw[e],rfl⟩
   skip
   rename_i g i;have e:Gi h f n=[some (241,some (Cb h (f.getD n.toNat (0,[])).1)),some (244,some (List.getD h.1 (Int.toNat (f.getD n.toNat (0,[])).1) (ByteArray.empty,[],[],[])).1)]:=by
    unfold Gi Sb Sc Sd;rw[BY (show AM (Cb h (Av f n).1) ⟨#[]⟩=false from g),BY (P6 i),As (show ¬Aa h (Ae h ⟨#[113,101,113]⟩) (Av f n).1=true by rw[show Aa h (Ae h ⟨#[113,101,113]⟩) (Av f n).1=false from d];simp)];rfl
   refine CK [31] ?_;exact fM c [.tmp 4] (.p Qd [some (241,some (Cb h (f.getD n.toNat (0,[])).1)),some (244,some (List.getD h.1 (Int.toNat (f.getD n.toNat (0,[])).1) (ByteArray.empty,[],[],[])).1)]) eT ⟨by rw[e],rfl⟩
  .exact⟨⟨hs.2.2,Fh h _⟩,j⟩
  .refine cP 1 c ?_ ?_
   .trivial
   refine A3k c (H1 (by kernel_rfl)) (λw=>run_build w _ #[] #[] (by kernel_rfl)) dg ?_;refine rL c ?_ ?_
   .trivial
   repeat'(first|exact trivial|apply eS rfl|apply AB|refine rX c ?_ ?_|refine rC ?_ ?_<;>intro d<;>try(cases d;done))
   rename_i g i;have e:Gi h f n=[some (241,some (Cb h (f.getD n.toNat (0,[])).1)),some (246,none)]:=by
    unfold Gi Sb Sc Sd;rw[BY (show AM (Cb h (Av f n).1) ⟨#[]⟩=false from g),As (P7 i),BY (show Aa h (Ae h ⟨#[113,101,113]⟩) (Av f n).1=true from d)];rfl
   refine CK [31] ?_;exact fM c [.tmp 4] (.p Qd [some (241,some (Cb h (f.getD n.toNat (0,[])).1)),some (246,none)]) eT ⟨by rw[e],rfl⟩
  skip
  rename_i g i;have e:Gi h f n=[some (241,some (Cb h (f.getD n.toNat (0,[])).1))]:=by
   unfold Gi Sb Sc Sd;rw[BY (show AM (Cb h (Av f n).1) ⟨#[]⟩=false from g),As (P7 i),As (show ¬Aa h (Ae h ⟨#[113,101,113]⟩) (Av f n).1=true by rw[show Aa h (Ae h ⟨#[113,101,113]⟩) (Av f n).1=false from d];simp)];rfl
  refine CK [31] ?_;exact fM c [.tmp 4] (.p Qd [some (241,some (Cb h (f.getD n.toNat (0,[])).1))]) eT ⟨by rw[e],rfl⟩
 .exact j
 .exact⟨⟨hs.2.1,Fh h _⟩,j⟩
 .refine cP 3 c ?_ ?_
  .trivial
  refine A6v c (H1 (by kernel_rfl)) ?_;refine rL c ?_ ?_
  .trivial
  repeat'(first|exact trivial|apply eS rfl|apply AB|refine rX c ?_ ?_|refine rC ?_ ?_<;>intro d<;>try(cases d;done))
  .exact⟨⟨hs.2.2,Fh h _⟩,j⟩
  .refine cP 1 c ?_ ?_
   .trivial
   refine A3k c (H1 (by kernel_rfl)) (λw=>run_build w _ #[] #[] (by kernel_rfl)) dg ?_;refine rL c ?_ ?_
   .trivial
   repeat'(first|exact trivial|apply eS rfl|apply AB|refine rX c ?_ ?_|refine rC ?_ ?_<;>intro d<;>try(cases d;done))
   rename_i g i;have e:Gi h f n=[some (244,some (List.getD h.1 (Int.toNat (f.getD n.toNat (0,[])).1) (ByteArray.empty,[],[],[])).1),some (246,none)]:=by
    unfold Gi Sb Sc Sd;rw[As (show ¬AM (Cb h (Av f n).1) ⟨#[]⟩=false by rw[show AM (Cb h (Av f n).1) ⟨#[]⟩=true from g];simp),BY (P6 i),BY (show Aa h (Ae h ⟨#[113,101,113]⟩) (Av f n).1=true from d)];rfl
   refine CK [61] ?_;exact fM c [.tmp 4] (.p Qd [some (244,some (List.getD h.1 (Int.toNat (f.getD n.toNat (0,[])).1) (ByteArray.empty,[],[],[])).1),some (246,none)]) eT ⟨by rw[e],rfl⟩
  skip
  rename_i g i;have e:Gi h f n=[some (244,some (List.getD h.1 (Int.toNat (f.getD n.toNat (0,[])).1) (ByteArray.empty,[],[],[])).1)]:=by
   unfold Gi Sb Sc Sd;rw[As (show ¬AM (Cb h (Av f n).1) ⟨#[]⟩=false by rw[show AM (Cb h (Av f n).1) ⟨#[]⟩=true from g];simp),BY (P6 i),As (show ¬Aa h (Ae h ⟨#[113,101,113]⟩) (Av f n).1=true by rw[show Aa h (Ae h ⟨#[113,101,113]⟩) (Av f n).1=false from d];simp)];rfl
  refine CK [61] ?_;exact fM c [.tmp 4] (.p Qd [some (244,some (List.getD h.1 (Int.toNat (f.getD n.toNat (0,[])).1) (ByteArray.empty,[],[],[])).1)]) eT ⟨by rw[e],rfl⟩
 .exact⟨⟨hs.2.2,Fh h _⟩,j⟩
 .refine cP 1 c ?_ ?_
  .trivial
  refine A3k c (H1 (by kernel_rfl)) (λw=>run_build w _ #[] #[] (by kernel_rfl)) dg ?_;refine rL c ?_ ?_
  .trivial
  repeat'(first|exact trivial|apply eS rfl|apply AB|refine rX c ?_ ?_|refine rC ?_ ?_<;>intro d<;>try(cases d;done))
  rename_i g i;have e:Gi h f n=[some (246,none)]:=by
   unfold Gi Sb Sc Sd;rw[As (show ¬AM (Cb h (Av f n).1) ⟨#[]⟩=false by rw[show AM (Cb h (Av f n).1) ⟨#[]⟩=true from g];simp),As (P7 i),BY (show Aa h (Ae h ⟨#[113,101,113]⟩) (Av f n).1=true from d)];rfl
  refine CK [77] ?_;exact fM c [.tmp 4] (.p Qd [some (246,none)]) eT ⟨by rw[e],rfl⟩
 skip
 rename_i g i;have e:Gi h f n=[]:=by
  unfold Gi Sb Sc Sd;rw[As (show ¬AM (Cb h (Av f n).1) ⟨#[]⟩=false by rw[show AM (Cb h (Av f n).1) ⟨#[]⟩=true from g];simp),As (P7 i),As (show ¬Aa h (Ae h ⟨#[113,101,113]⟩) (Av f n).1=true by rw[show Aa h (Ae h ⟨#[113,101,113]⟩) (Av f n).1=false from d];simp)];rfl
 exact fM c [.tmp 4] (.p Qd []) eT ⟨by rw[e],rfl⟩
end
section
attribute [local go_sem] nmS FA Kw Kh My Jc Iu NH
def Gq (s:ByteArray×ByteArray×Bool):QF->ByteArray×ByteArray×Bool
 | some (t,some x)=>if t=241 then (x,s.2.1,s.2.2) else if t=244 then (s.1,x,s.2.2) else s
 | some (t,none)=>if t=246 then (s.1,s.2.1,true) else s
 | none=>s
def OX (h:AE) (f:List AD) (n:Int):ByteArray×ByteArray×Bool:=(Cb h (Av f n).1,if WG h f n=true then nmN h f n else ⟨#[]⟩,Aa h (Ae h ⟨#[113,101,113]⟩) (Av f n).1)
theorem A4L (h:AE) (f:List AD) (n:Int):(Gi h f n).foldl Gq (⟨#[]⟩,⟨#[]⟩,false)=OX h f n:=by
 unfold Gi Sb Sc Sd OX;cases a:AM (Cb h (Av f n).1) ⟨#[]⟩<;>cases b:WG h f n<;>cases c:Aa h (Ae h ⟨#[113,101,113]⟩) (Av f n).1<;>simp[Gq];all_goals exact(P5 a).symm
theorem A4M {r:QF} (a:r∈Gi h f n):(∃s,r=some (241,some s))\/(∃s,r=some (244,some s))\/r=some (246,none):=by
 unfold Gi Sb Sc Sd at a;simp only[Is]at a;rcases a with (a|a)|a<;>split at a
 .exact .inl ⟨_,oN.1 a⟩
 .cases a
 .exact .inr (.inl ⟨_,oN.1 a⟩)
 .cases a
 .exact .inr (.inr (oN.1 a))
 cases a
theorem A4N (h:AE) (f:List AD) (n:Int):(Gi h f n).length<=3:=by
 unfold Gi Sb Sc Sd;simp only[Do];split<;>split<;>split<;>simp
theorem qI (hs:mV h) (u:Db h f) (h0:0<=n) (h1:n<(f.length:Int)) (a b:Int) (k:List (Int×Int)) (l:List ByteArray) (g:List G8) (qs:List SU) :
  A5 Tryz.prog 129 [.bp 1 [] 0,.p T3 n] (FA h f a b k l g qs) [1,2]
  (λres v=>res=.tup [.p T9 (OX h f n).1,.p T9 (OX h f n).2.1,.p .bool (OX h f n).2.2]/\v=FA h f a b k l g qs):=by
 refine Ix [0,1,4,5,6,8,11,12,13,14,17,19,24,29] [] [] Tryz.func129 Tryz.ntmps129 AH ?_;intro w0 K O0 ρ0 c y z;simp only[Ai,FA];repeat'(first|exact trivial|apply eS rfl|apply AB|refine rP c ?_ ?_|fail)
 refine cP 2 c ?_ ?_
 .trivial
 refine rM c (A1L hs u h0 h1 a b k l g qs) [(1,.nm 1),(2,.nm 2),(3,.nm 3),(4,.nm 4),(5,.nm 5)] [3,4,5] ?_ ?_ ?_
 .first|exact eN|refine eM ?_
 .first|exact eN|refine eM ?_
 rintro _ _ ⟨rfl,rfl⟩;refine⟨[(1,.nm 1),(2,.nm 2),(3,.nm 3),(4,.nm 4),(5,.nm 5)],.p Qd (Gi h f n),FA h f a b k l g qs,rfl,rfl,?_,?_,rfl,rfl,?_⟩
 .first|exact eN|refine eM ?_
 .first|exact eN|refine eM ?_
 simp only[FA];refine rL c ?_ ?_
 .trivial
 repeat'(first|exact trivial|apply eS rfl|apply AB|refine rP c ?_ ?_|fail)
 have q:=λr (t:r∈Gi h f n)=>A4M t;have o:=A4L h f n;have x:=A4N h f n;generalize Gi h f n=L at *;refine AI (ι:={i:Nat//i<=L.length}) (λi=>⟨[(0,.bp 1 [] 0),(4,.p T9 ((L.take i.1).foldl Gq (⟨#[]⟩,⟨#[]⟩,false)).1),(5,.p T9 ((L.take i.1).foldl Gq (⟨#[]⟩,⟨#[]⟩,false)).2.1),(6,.p .bool ((L.take i.1).foldl Gq (⟨#[]⟩,⟨#[]⟩,false)).2.2),(11,.p Qd L),(12,.p (.int .i64) (L.length:Int)),(13,.p (.int .i64) (i.1:Int))],FA h f a b k l g qs⟩) (λi=>L.length-i.1) ⟨0,By _⟩ (AC [(1,.nm 1),(2,.nm 2),(3,.nm 3),(4,.nm 4),(5,.nm 5)] rfl rfl ?_ ?_) (λi=>?_)
 .first|exact eN|refine eM ?_
 .first|exact eN|refine eM ?_
  exact⟨rfl,rfl,rfl⟩
 obtain⟨i,hi⟩:=i;have j:i<L.length->(L.take (i+1)).foldl Gq (⟨#[]⟩,⟨#[]⟩,false)=Gq ((L.take i).foldl Gq (⟨#[]⟩,⟨#[]⟩,false)) (L.getD i none):=by
  intro e;rw[AC5,AT e,ABl,AS,AT e];rfl
 have m:i<L.length->L.getD i none∈L:=by
  intro e;rw[AS,AT e];exact AAm e
 simp only[FA];repeat'(first|exact trivial|apply eS rfl|apply AB|refine rX c ?_ ?_|refine rC ?_ ?_<;>intro d<;>try(cases d;done))
 .exact d
 .have e:i<L.length:=by omega
  have j:=j e;generalize (L.take i).foldl Gq (⟨#[]⟩,⟨#[]⟩,false)=Z at *;have m:=q _ (m e);generalize L.getD i none=r at *;rcases m with ⟨s,rfl⟩|⟨s,rfl⟩|rfl
  .skip
   refine cP 0 c ?_ ?_
   .trivial
   refine s8 c (H1 (by kernel_rfl)) ⟨_,λw=>rfl⟩ ?_;refine rL c ?_ ?_
   .trivial
   repeat'(first|exact trivial|apply eS rfl|apply AB|refine rX c ?_ ?_|refine rC ?_ ?_<;>intro d<;>try(cases d;done))
   refine cP 1 c ?_ ?_
   .trivial
   refine A8z c A1J (qH (H1 (by kernel_rfl)) (by kernel_rfl)) ?_;refine rL c ?_ ?_
   .trivial
   repeat'(first|exact trivial|apply eS rfl|apply AB|refine rX c ?_ ?_|refine rC ?_ ?_<;>intro d<;>try(cases d;done))
   .exact eV
   refine⟨⟨i+1,by omega⟩,by simp only;omega,AC [(1,.nm 1),(2,.nm 2),(3,.nm 3),(4,.nm 4),(5,.nm 5)] rfl rfl ?_ ?_⟩
   .first|exact eN|refine eM ?_
   simp only[j,Gq];first|exact eN|refine eM ?_
  .skip
   refine cP 0 c ?_ ?_
   .trivial
   refine s8 c (H1 (by kernel_rfl)) ⟨_,λw=>rfl⟩ ?_;refine rL c ?_ ?_
   .trivial
   repeat'(first|exact trivial|apply eS rfl|apply AB|refine rX c ?_ ?_|refine rC ?_ ?_<;>intro d<;>try(cases d;done))
   refine cP 0 c ?_ ?_
   .trivial
   refine s8 c (H1 (by kernel_rfl)) ⟨_,λw=>rfl⟩ ?_;refine rL c ?_ ?_
   .trivial
   repeat'(first|exact trivial|apply eS rfl|apply AB|refine rX c ?_ ?_|refine rC ?_ ?_<;>intro d<;>try(cases d;done))
   refine cP 1 c ?_ ?_
   .trivial
   refine A8z c A1K (qH (H1 (by kernel_rfl)) (by kernel_rfl)) ?_;refine rL c ?_ ?_
   .trivial
   repeat'(first|exact trivial|apply eS rfl|apply AB|refine rX c ?_ ?_|refine rC ?_ ?_<;>intro d<;>try(cases d;done))
   .exact eV
   refine⟨⟨i+1,by omega⟩,by simp only;omega,AC [(1,.nm 1),(2,.nm 2),(3,.nm 3),(4,.nm 4),(5,.nm 5)] rfl rfl ?_ ?_⟩
   .first|exact eN|refine eM ?_
   simp only[j,Gq];first|exact eN|refine eM ?_
  skip
  refine cP 0 c ?_ ?_
  .trivial
  refine s8 c (H1 (by kernel_rfl)) ⟨_,λw=>rfl⟩ ?_;refine rL c ?_ ?_
  .trivial
  repeat'(first|exact trivial|apply eS rfl|apply AB|refine rX c ?_ ?_|refine rC ?_ ?_<;>intro d<;>try(cases d;done))
  refine cP 0 c ?_ ?_
  .trivial
  refine s8 c (H1 (by kernel_rfl)) ⟨_,λw=>rfl⟩ ?_;refine rL c ?_ ?_
  .trivial
  repeat'(first|exact trivial|apply eS rfl|apply AB|refine rX c ?_ ?_|refine rC ?_ ?_<;>intro d<;>try(cases d;done))
  refine cP 0 c ?_ ?_
  .trivial
  refine s8 c (H1 (by kernel_rfl)) ⟨_,λw=>rfl⟩ ?_;refine rL c ?_ ?_
  .trivial
  repeat'(first|exact trivial|apply eS rfl|apply AB|refine rX c ?_ ?_|refine rC ?_ ?_<;>intro d<;>try(cases d;done))
  .exact eV
  refine⟨⟨i+1,by omega⟩,by simp only;omega,AC [(1,.nm 1),(2,.nm 2),(3,.nm 3),(4,.nm 4),(5,.nm 5)] rfl rfl ?_ ?_⟩
  .first|exact eN|refine eM ?_
  simp only[j,Gq];first|exact eN|refine eM ?_
 have e:i=L.length:=by omega
 subst e;rw[oF,o];exact fM c [.tmp 4,.tmp 5,.tmp 6] (.tup [.p T9 (OX h f n).1,.p T9 (OX h f n).2.1,.p .bool (OX h f n).2.2]) eT ⟨rfl,rfl⟩
end
section
attribute [local go_sem] JV FA Kw Kh My Jc Iu NH
theorem A4O {l:List (Int×Int)} (h:∀a∈l,0<=a.1):Bz l (-1)=-1:=by
 induction l with
 | nil=>rfl
 | cons a l d =>
  have:=h a iT;unfold Bz;rw[As O1];exact d λb c=>h b (IF _ c)
theorem qJ (ha:Sa h f) (n:Int) (s:ByteArray):Cw h f n s=Bz (Av f n).2 (A9 h s):=by
 unfold Cw;split
 .rfl
 have h1:=(GP h s).1;rw[show A9 h s=-1 by omega,A4O];intro a b;by_cases c:n.toNat<f.length
 .exact(ha _ (by unfold Av;rw[AS,AT c];exact AAm c) a b).1
 have:Av f n=(0,[]):=by unfold Av;rw[AS,oS O1];rfl
 rw[this]at b;cases b
def P8 (h:AE) (f:List AD) (n:Int) (s:ByteArray):Int×Bool:=if Cw h f n s<0 then (0,false) else (Cw h f n s,true)
theorem aL (r:AX f) (ha:Sa h f) (h0:0<=n) (h1:n<(f.length:Int)) (s:ByteArray) (a b:Int) (i:List (Int×Int)) (j:List ByteArray) (d:List G8) (qs:List SU) :
  A5 Tryz.prog 83 [.bp 1 [] 0,.p T3 n,.p T9 s] (FA h f a b i j d qs) [1,2]
  (λres v=>res=.tup [.p T3 (P8 h f n s).1,.p .bool (P8 h f n s).2]/\v=FA h f a b i j d qs):=by
 refine Ix [0,1,2,6,7,8,10,25,26,27,28,34] [] [] Tryz.func83 Tryz.ntmps83 (AF VZ AH) ?_;intro w0 K O0 ρ0 g x y;have z:=(r.2 _ (AG f (0,[]) (L1 ⟨h0,h1⟩))).1;have u:Cw h f n s=Bz (f.getD n.toNat (0,[])).2 (A9 h s):=qJ ha n s;simp only[Ai,FA];repeat'(first|exact trivial|apply eS rfl|apply AB|refine rX g ?_ ?_|refine rC ?_ ?_<;>intro c<;>try(cases c;done))
 .exact⟨h0,h1⟩
 refine AI (ι:={k:Nat//k<=(f.getD n.toNat (0,[])).2.length/\Bz (f.getD n.toNat (0,[])).2 (A9 h s)=Bz ((f.getD n.toNat (0,[])).2.drop k) (A9 h s)}) (λk=>⟨[(0,.bp 1 [] 0),(8,.p T3 (A9 h s)),(25,.p Mx (f.getD n.toNat (0,[])).2),(26,.p (.int .i64) ((f.getD n.toNat (0,[])).2.length:Int)),(27,.p (.int .i64) (k.1:Int))],FA h f a b i j d qs⟩) (λk=>(f.getD n.toNat (0,[])).2.length-k.1) ⟨0,By _,rfl⟩ (AC [(1,.nm 1),(2,.nm 2),(3,.nm 3),(4,.nm 4),(5,.nm 5)] rfl rfl ?_ ?_) (λk=>?_)
 .first|exact eN|refine eM ?_
 .first|exact eN|refine eM ?_
 obtain⟨k,hk,o⟩:=k;have t:=λe:k<(f.getD n.toNat (0,[])).2.length=>YC (A9 h s) (f.getD n.toNat (0,[])).2 e;simp only[FA];repeat'(first|exact trivial|apply eS rfl|apply AB|refine rX g ?_ ?_|refine rC ?_ ?_<;>intro c<;>try(cases c;done))
 .exact c
 .rename_i q;have e:k<(f.getD n.toNat (0,[])).2.length:=by omega
  have l:Cw h f n s=((f.getD n.toNat (0,[])).2.getD k (0,0)).2:=by rw[u,o,t e,BY c]
  have w:0<=Cw h f n s:=by rw[l];exact((r.2 _ (AG f (0,[]) (L1 ⟨h0,h1⟩))).2 _ (AG _ (0,0) e)).1
  have m:P8 h f n s=(((f.getD n.toNat (0,[])).2.getD k (0,0)).2,true):=by unfold P8;rw[As O1,l]
  refine Ev.ent (σ':=⟨[(6,.p (.int .i64) ((f.getD n.toNat (0,[])).2.getD k (0,0)).2),(7,.p .bool true)],FA h f a b i j d qs⟩) ?_ (AC [(1,.nm 1),(2,.nm 2),(3,.nm 3),(4,.nm 4),(5,.nm 5)] rfl rfl ?_ ?_)
  .exact fM g [.tmp 6,.tmp 7] (.tup [.p T3 (((f.getD n.toNat (0,[])).2.getD k (0,0)).2),.p .bool true]) eT ⟨by rw[m],rfl⟩
  .first|exact eN|refine eM ?_
  first|exact eN|refine eM ?_
 .exact eV
 .rename_i q;refine⟨⟨k+1,by exact eV,o.trans ((t (by exact eV)).trans (As c))⟩,by simp only;omega,AC [(1,.nm 1),(2,.nm 2),(3,.nm 3),(4,.nm 4),(5,.nm 5)] rfl rfl ?_ ?_⟩
  .first|exact eN|refine eM ?_
  first|exact eN|refine eM ?_
 have l:Cw h f n s=-1:=by
  rw[u,o,NO O1];rfl
 have m:P8 h f n s=(0,false):=by unfold P8;rw[BY O1]
 exact fM g [.tmp 6,.tmp 7] (.tup [.p T3 (0:Int),.p .bool false]) eT ⟨by rw[m],rfl⟩
end
section
attribute [local go_sem] FA Kw Kh My Jc Iu NH
def NU:Nat->List Int->List (Int×Int)
 | _,[]=>[]
 | k,x :: r=>(x,(k:Int)) :: NU (k+1) r
def H8 (ns:List Int):List (Int×Int):=NU 0 ns
theorem WH (x:Int):∀(l:List Int) (k:Nat),BS T3 T3 x (NU k l)=if H6 x k l<0 then none else some (H6 x k l)
 | [],k=>rfl
 | y :: l,k=>by
  have b:=WH x l (k+1);unfold NU BS H6;by_cases h:y=x
  .subst h;simp[HG]
  have a:¬x=y:=λe=>h e.symm;simp only[HG,If,h,a,AB1];simpa[a] using b
theorem qK (x:Int) (v:Int):∀(l:List Int) (k:Nat),H6 x k l<0->E4 T3 T3 x v (NU k l)=NU k l++[(x,v)]
 | [],k,_=>rfl
 | y :: l,k,h=>by
  unfold H6 at h;by_cases e:y=x
  .rw[BY e]at h;omega
  rw[As e]at h;have b:=qK x v l (k+1) h;have a:¬x=y:=λq=>e q.symm;unfold NU E4;simp only[HG,If,a,AB1];simpa[a] using b
theorem gY (x:Int):∀(l:List Int) (k:Nat),NU k (l++[x])=NU k l++[(x,((k+l.length:Nat):Int))]
 | [],k=>rfl
 | y :: l,k=>by
  have a:=gY x l (k+1);simp only[WY,NU,a,IS];rw[show k+1+l.length=k+(l.length+1) by omega]
theorem gZ (x:Int):∀(l:List Int) (k:Nat),H6 x k l<0->H6 x k (l++[x])=((k+l.length:Nat):Int)
 | [],k,_=>by simp[H6]
 | y :: l,k,h=>by
  unfold H6 at h;by_cases e:y=x
  .rw[BY e]at h;omega
  rw[As e]at h;have a:=gZ x l (k+1) h;simp only[WY,H6,As e,a,IS];rw[show k+1+l.length=k+(l.length+1) by omega]
def Gr (f:List AD) (ns:List Int):Prop:=ns.Nodup/\∀x∈ns,0<=x/\x<(f.length:Int)
theorem qL {x:Int}:∀(l:List Int) (k:Nat),H6 x k l<0->x∉l
 | [],_,_=>by simp
 | y :: l,k,h=>by
  unfold H6 at h;by_cases e:y=x
  .rw[BY e]at h;omega
  rw[As e]at h;have a:=qL l (k+1) h;simp only[DO,not_or];exact⟨λq=>e q.symm,a⟩
theorem A4P {ns:List Int} (h:Gr f ns) (h0:0<=n) (h1:n<(f.length:Int)):Gr f (Ej ns n):=by
 unfold Ej;split
 .rename_i q;refine⟨?_,λx c=>?_⟩
  .have:=qL ns 0 q;exact AAR.2 ⟨h.1,by simp,by rintro a ha b d rfl;rw[oN]at d;subst d;exact this ha⟩
  rcases Is.1 c with c|c
  .exact h.2 x c
  rw[oN.1 c];exact⟨h0,h1⟩
 exact h
theorem A7y {ns:List Int} (h:Gr f ns):ns.length<=f.length:=by
 have h1:(ns.map Int.toNat).Nodup:=by
  refine AAA.2 (h.1.imp_of_mem ?_);intro a b ha d j e;have:=h.2 a ha;have:=h.2 b d;omega
 have c:=Da f.length _ h1 (λx g=>by
  obtain⟨y,i,rfl⟩:=IN.1 g;have:=h.2 y i;omega)
 simpa using c
def EY (h:AE) (f:List AD) (a b:Int) (ns:List Int) (c:List G8) (qs:List SU):List (Nat×Obj):=FA h f a b (H8 ns) (ns.map (M4 h f)) c qs
def SE (h:AE) (f:List AD) (ns:List Int) (n:Int):(Int×Bool)×List Int:=if AM (M4 h f n) ⟨#[]⟩=true then ((0,false),ns) else ((oU (Ej ns n) n,true),Ej ns n)
theorem aM (hs:mV h) (t:AX f) (u:Db h f) (h0:0<=n) (h1:n<(f.length:Int)) {ns:List Int} (hn:Gr f ns) (a b:Int) (i:List G8) (qs:List SU) :
  A5 Tryz.prog 84 [.bp 1 [] 0,.p T3 n] (EY h f a b ns i qs) [1,2]
  (λres v=>res=.tup [.p T3 (SE h f ns n).1.1,.p .bool (SE h f ns n).1.2]/\v=EY h f a b (SE h f ns n).2 i qs):=by
 refine Ix [0,1,4,5,6,9,10,19,30] [50] [] Tryz.func84 Tryz.ntmps84 AH ?_;intro w0 K O0 ρ0 c y z;have k:M4 h f n=Cb h (Av f n).1:=As O1;have x:=A7y hn;have w:=t.1;simp only[Ai,EY,FA];repeat'(first|exact trivial|apply eS rfl|apply AB|refine rP c ?_ ?_|fail)
 refine cP 2 c ?_ ?_
 .trivial
 refine rM c (qI hs u h0 h1 a b (H8 ns) (ns.map (M4 h f)) i qs) [(1,.nm 1),(2,.nm 2),(3,.nm 3),(4,.nm 4),(5,.nm 5)] [3,4,5] ?_ ?_ ?_
 .first|exact eN|refine eM ?_
 .first|exact eN|refine eM ?_
 rintro _ _ ⟨rfl,rfl⟩;refine⟨[(1,.nm 1),(2,.nm 2),(3,.nm 3),(4,.nm 4),(5,.nm 5)],.tup [.p T9 (OX h f n).1,.p T9 (OX h f n).2.1,.p .bool (OX h f n).2.2],FA h f a b (H8 ns) (ns.map (M4 h f)) i qs,rfl,rfl,?_,?_,rfl,rfl,?_⟩
 .first|exact eN|refine eM ?_
 .first|exact eN|refine eM ?_
 simp only[FA];refine rL c ?_ ?_
 .trivial
 repeat'(first|exact trivial|apply eS rfl|apply AB|refine rX c ?_ ?_|refine rC ?_ ?_<;>intro d<;>try(cases d;done))
 .have e:SE h f ns n=((0,false),ns):=BY (by rw[k];exact d);exact fM c [.tmp 4,.tmp 5] (.tup [.p T3 (0:Int),.p .bool false]) eT ⟨by rw[e],by rw[e]⟩
 .simp only[aS,AO];omega
 .rename_i q;have q:¬AM (M4 h f n) ⟨#[]⟩=true:=by rw[k];rw[show AM (Cb h (Av f n).1) ⟨#[]⟩=false from q];simp
  have g:oU ns n<0:=by
   have:=WH n ns 0;by_cases j:H6 n 0 ns<0
   .exact j
   rw[As j]at this;rw[show BS T3 T3 n (H8 ns)=some (H6 n 0 ns) from this]at d;cases d
  have l:Ej ns n=ns++[n]:=BY g;have e:SE h f ns n=(((ns.length:Int),true),ns++[n]):=by
   unfold SE;rw[As q,l];have:=gZ n ns 0 g;rw[AAH]at this;rw[show oU (ns++[n]) n=(ns.length:Int) from this]
  have m:E4 T3 T3 n (((ns.map (M4 h f)).length:Int)) (H8 ns)=H8 (ns++[n]):=by
   have h1:=qK n (ns.length:Int) ns 0 g;have o:=gY n ns 0;rw[AAH]at o;rw[aS];exact h1.trans o.symm
  have r:ns.map (M4 h f)++[(OX h f n).1]=(ns++[n]).map (M4 h f):=by
   rw[AAF,List.map_singleton,k];rfl
  have s:(ns.map (M4 h f)).length+1=((ns++[n]).map (M4 h f)).length:=by simp
  rw[m,r,s];exact fM c [.tmp 4,.tmp 5] (.tup [.p T3 ((ns.map (M4 h f)).length:Int),.p .bool true]) eT ⟨by rw[e,aS],by rw[e]⟩
 rename_i q;have q:¬AM (M4 h f n) ⟨#[]⟩=true:=by rw[k];rw[show AM (Cb h (Av f n).1) ⟨#[]⟩=false from q];simp
 have hf:=WH n ns 0;have g:¬oU ns n<0:=by
  intro j;rw[BY (show H6 n 0 ns<0 from j)]at hf;rw[show BS T3 T3 n (H8 ns)=none from hf]at d;cases d
 rw[As (show ¬H6 n 0 ns<0 from g)]at hf;have l:Ej ns n=ns:=As g;have e:SE h f ns n=((oU ns n,true),ns):=by unfold SE;rw[As q,l]
 have m:(BS T3 T3 n (H8 ns)).getD 0=oU ns n:=by rw[show BS T3 T3 n (H8 ns)=some (H6 n 0 ns) from hf];rfl
 rw[m];exact fM c [.tmp 4,.tmp 5] (.tup [.p T3 (oU ns n),.p .bool true]) eT ⟨by rw[e],by rw[e]⟩
end
section
attribute [local go_sem] FA EY Kw Kh My Jc Iu NH
def Cc (h:AE) (f:List AD) (ns:List Int) (n:Int) (s:ByteArray):(Int×Bool)×List Int :=
 if Cw h f n s<0 then ((0,false),ns) else if AM (M4 h f (Cw h f n s)) ⟨#[104]⟩=false then ((0,false),ns) else SE h f ns (Cw h f n s)
theorem TL (hs:mV h) (i:AX f) (l:Db h f) (ha:Sa h f) (h0:0<=n) (h1:n<(f.length:Int)) (s:ByteArray) {ns:List Int} (hn:Gr f ns) (a b:Int) (g:List G8) (qs:List SU) :
  A5 Tryz.prog 82 [.bp 1 [] 0,.p T3 n,.p T9 s] (EY h f a b ns g qs) [1,2]
  (λres r=>res=.tup [.p T3 (Cc h f ns n s).1.1,.p .bool (Cc h f ns n s).1.2]/\r=EY h f a b (Cc h f ns n s).2 g qs):=by
 refine Ix [0,1,2,6,7,8,9,10,21,30] [] [] Tryz.func82 Tryz.ntmps82 AH ?_;intro w0 K O0 ρ0 c t u;have m:=WE (h:=h) i n s O1;simp only[Ai,EY,FA];repeat'(first|exact trivial|apply eS rfl|apply AB|refine rP c ?_ ?_|fail)
 refine cP 3 c ?_ ?_
 .trivial
 refine rM c (aL i ha h0 h1 s a b (H8 ns) (ns.map (M4 h f)) g qs) [(1,.nm 1),(2,.nm 2),(3,.nm 3),(4,.nm 4),(5,.nm 5)] [3,4,5] ?_ ?_ ?_
 .first|exact eN|refine eM ?_
 .first|exact eN|refine eM ?_
 rintro _ _ ⟨rfl,rfl⟩;refine⟨[(1,.nm 1),(2,.nm 2),(3,.nm 3),(4,.nm 4),(5,.nm 5)],.tup [.p T3 (P8 h f n s).1,.p .bool (P8 h f n s).2],FA h f a b (H8 ns) (ns.map (M4 h f)) g qs,rfl,rfl,?_,?_,rfl,rfl,?_⟩
 .first|exact eN|refine eM ?_
 .first|exact eN|refine eM ?_
 simp only[EY,FA];refine rL c ?_ ?_
 .trivial
 repeat'(first|exact trivial|apply eS rfl|apply AB|refine rX c ?_ ?_|refine rC ?_ ?_<;>intro d<;>try(cases d;done))
 .have q:Cw h f n s<0:=by
   unfold P8 at d;split at d
   .assumption
   cases d
  have e:Cc h f ns n s=((0,false),ns):=BY q;exact fM c [.tmp 6,.tmp 7] (.tup [.p T3 (0:Int),.p .bool false]) eT ⟨by rw[e],by rw[e]⟩
 have q:0<=Cw h f n s/\(P8 h f n s).1=Cw h f n s:=by
  unfold P8 at d ⊢;split
  .rename_i q;rw[BY q]at d;cases d
  exact⟨by omega,rfl⟩
 rw[q.2];have o:=q.1;have k:M4 h f (Cw h f n s)=(OX h f (Cw h f n s)).1:=As O1;have j:Cc h f ns n s=if AM (M4 h f (Cw h f n s)) ⟨#[104]⟩=false then ((0,false),ns) else SE h f ns (Cw h f n s):=As O1
 generalize Cw h f n s=v at *;refine cP 2 c ?_ ?_
 .trivial
 refine rM c (qI hs l o m a b (H8 ns) (ns.map (M4 h f)) g qs) [(1,.nm 1),(2,.nm 2),(3,.nm 3),(4,.nm 4),(5,.nm 5)] [3,4,5] ?_ ?_ ?_
 .first|exact eN|refine eM ?_
 .first|exact eN|refine eM ?_
 rintro _ _ ⟨rfl,rfl⟩;refine⟨[(1,.nm 1),(2,.nm 2),(3,.nm 3),(4,.nm 4),(5,.nm 5)],.tup [.p T9 (OX h f v).1,.p T9 (OX h f v).2.1,.p .bool (OX h f v).2.2],FA h f a b (H8 ns) (ns.map (M4 h f)) g qs,rfl,rfl,?_,?_,rfl,rfl,?_⟩
 .first|exact eN|refine eM ?_
 .first|exact eN|refine eM ?_
 simp only[EY,FA];refine rL c ?_ ?_
 .trivial
 repeat'(first|exact trivial|apply eS rfl|apply AB|refine rX c ?_ ?_|refine rC ?_ ?_<;>intro d<;>try(cases d;done))
 .have e:Cc h f ns n s=((0,false),ns):=j.trans (BY (by rw[k];exact d));exact fM c [.tmp 6,.tmp 7] (.tup [.p T3 (0:Int),.p .bool false]) eT ⟨by rw[e],by rw[e]⟩
 have e:Cc h f ns n s=SE h f ns v:=j.trans (As (by rw[k];rw[d];simp));rw[e];refine cP 2 c ?_ ?_
 .trivial
 refine rM c (aM hs i l o m hn a b g qs) [(1,.nm 1),(2,.nm 2),(3,.nm 3),(4,.nm 4),(5,.nm 5)] [3,4,5] ?_ ?_ ?_
 .first|exact eN|refine eM ?_
 .first|exact eN|refine eM ?_
 rintro _ _ ⟨rfl,rfl⟩;refine⟨[(1,.nm 1),(2,.nm 2),(3,.nm 3),(4,.nm 4),(5,.nm 5)],.tup [.p T3 (SE h f ns v).1.1,.p .bool (SE h f ns v).1.2],EY h f a b (SE h f ns v).2 g qs,rfl,rfl,?_,?_,rfl,rfl,?_⟩
 .first|exact eN|refine eM ?_
 .first|exact eN|refine eM ?_
 simp only[EY,FA];refine rL c ?_ ?_
 .trivial
 repeat'(first|exact trivial|apply eS rfl|apply AB|refine rX c ?_ ?_|refine rC ?_ ?_<;>intro d<;>try(cases d;done))
 exact fM c [.tmp 6,.tmp 7] (.tup [.p T3 (SE h f ns v).1.1,.p .bool (SE h f ns v).1.2]) eT ⟨rfl,rfl⟩
end
section
attribute [local go_sem] FA EY Kw Kh My Jc Iu NH
def MD (h:AE) (f:List AD) (st:List Int×List ST) (a:Int×Int):List Int×List ST :=
 if AM (A1D h a) ⟨#[76,65,66,69,76]⟩=true then st else ((SE h f st.1 a.2).2,if (SE h f st.1 a.2).1.2=true then st.2++[(A1D h a,(SE h f st.1 a.2).1.1)] else st.2)
def WI (h:AE) (f:List AD) (ns:List Int) (a:List G8) (n:Int):Bool×List Int×List G8 :=
 if AM (OX h f n).2.1 ⟨#[]⟩=true\/(Cc h f ns n ⟨#[76,65,66,69,76]⟩).1.2=false then (false,(Cc h f ns n ⟨#[76,65,66,69,76]⟩).2,a)
 else (true,((Av f n).2.foldl (MD h f) ((Cc h f ns n ⟨#[76,65,66,69,76]⟩).2,[])).1,a++[((OX h f n).2.1,(Cc h f ns n ⟨#[76,65,66,69,76]⟩).1.1,((Av f n).2.foldl (MD h f) ((Cc h f ns n ⟨#[76,65,66,69,76]⟩).2,[])).2)])
theorem qM {ns:List Int} (hn:Gr f ns) (h:AE) (h0:0<=n) (h1:n<(f.length:Int)):Gr f (SE h f ns n).2:=by
 unfold SE;split
 .exact hn
 exact A4P hn h0 h1
theorem OQ {ns:List Int} (hn:Gr f ns) (b:AX f) (n:Int) (s:ByteArray) (h0:0<f.length):Gr f (Cc h f ns n s).2:=by
 unfold Cc;have a:=WE (h:=h) b n s h0;split
 .exact hn
 split
 .exact hn
 exact qM hn h O1 a
theorem qO (l:List (Int×Int)):∀(st:List Int×List ST),Gr f st.1->(∀a∈l,0<=a.2/\a.2<(f.length:Int))->Gr f (l.foldl (MD h f) st).1/\(l.foldl (MD h f) st).2.length<=st.2.length+l.length:=by
 induction l with
 | nil=>intro st h _;exact⟨h,by simp⟩
 | cons a l g =>
  intro st d ha;have h1:Gr f (MD h f st a).1/\(MD h f st a).2.length<=st.2.length+1:=by
   unfold MD;split
   .exact⟨d,by omega⟩
   refine⟨qM d h (ha a iT).1 (ha a iT).2,?_⟩;dsimp only;split
   .simp
   omega
  have c:=g (MD h f st a) h1.1 (λb e=>ha b (IF _ e));refine⟨c.1,?_⟩;have:=c.2;have:=h1.2;simp only[OS,IS];omega
theorem A4Q (hs:mV h) (m:AX f) (u:Db h f) (ha:Sa h f) (h0:0<=n) (h1:n<(f.length:Int)) {ns:List Int} (hn:Gr f ns) (a b:Int) (c:List G8) (H:c.length<=200000) (qs:List SU) :
  A5 Tryz.prog 86 [.bp 1 [] 0,.p T3 n] (EY h f a b ns c qs) [1,2]
  (λres F=>res=.p .bool (WI h f ns c n).1/\F=EY h f a b (WI h f ns c n).2.1 (WI h f ns c n).2.2 qs):=by
 refine Ix [0,1,4,6,8,9,10,12,13,14,15,34,46,47,48,49,63,71] [77,88] [] Tryz.func86 Tryz.ntmps86 AH ?_;intro w0 K O0 ρ0 d I J;have t:=AG f (0,[]) (L1 ⟨h0,h1⟩);have G:=(m.2 _ t).1;have v:=(m.2 _ t).2;have B:=ha _ t;have C:0<f.length:=by omega
 have hh:=OQ (h:=h) hn m n ⟨#[76,65,66,69,76]⟩ C;have r:WI h f ns c n=if AM (OX h f n).2.1 ⟨#[]⟩=true\/(Cc h f ns n ⟨#[76,65,66,69,76]⟩).1.2=false then (false,(Cc h f ns n ⟨#[76,65,66,69,76]⟩).2,c)
  else (true,((Av f n).2.foldl (MD h f) ((Cc h f ns n ⟨#[76,65,66,69,76]⟩).2,[])).1,c++[((OX h f n).2.1,(Cc h f ns n ⟨#[76,65,66,69,76]⟩).1.1,((Av f n).2.foldl (MD h f) ((Cc h f ns n ⟨#[76,65,66,69,76]⟩).2,[])).2)]):=rfl
 simp only[Ai,EY,FA];repeat'(first|exact trivial|apply eS rfl|apply AB|refine rP d ?_ ?_|fail)
 refine cP 2 d ?_ ?_
 .trivial
 refine rM d (qI hs u h0 h1 a b (H8 ns) (ns.map (M4 h f)) c qs) [(1,.nm 1),(2,.nm 2),(3,.nm 3),(4,.nm 4),(5,.nm 5)] [3,4,5] ?_ ?_ ?_
 .first|exact eN|refine eM ?_
 .first|exact eN|refine eM ?_
 rintro _ _ ⟨rfl,rfl⟩;refine⟨[(1,.nm 1),(2,.nm 2),(3,.nm 3),(4,.nm 4),(5,.nm 5)],.tup [.p T9 (OX h f n).1,.p T9 (OX h f n).2.1,.p .bool (OX h f n).2.2],FA h f a b (H8 ns) (ns.map (M4 h f)) c qs,rfl,rfl,?_,?_,rfl,rfl,?_⟩
 .first|exact eN|refine eM ?_
 .first|exact eN|refine eM ?_
 simp only[EY,FA];refine rL d ?_ ?_
 .trivial
 repeat'(first|exact trivial|apply eS rfl|apply AB|refine rX d ?_ ?_|refine rC ?_ ?_<;>intro g<;>try(cases g;done))
 generalize (OX h f n).2.1=p at *;refine cP 2 d ?_ ?_
 .trivial
 refine rM d (TL hs m u ha h0 h1 ⟨#[76,65,66,69,76]⟩ hn a b c qs) [(1,.nm 1),(2,.nm 2),(3,.nm 3),(4,.nm 4),(5,.nm 5)] [3,4,5] ?_ ?_ ?_
 .first|exact eN|refine eM ?_
 .first|exact eN|refine eM ?_
 rintro _ _ ⟨rfl,rfl⟩;refine⟨[(1,.nm 1),(2,.nm 2),(3,.nm 3),(4,.nm 4),(5,.nm 5)],.tup [.p T3 (Cc h f ns n ⟨#[76,65,66,69,76]⟩).1.1,.p .bool (Cc h f ns n ⟨#[76,65,66,69,76]⟩).1.2],EY h f a b (Cc h f ns n ⟨#[76,65,66,69,76]⟩).2 c qs,rfl,rfl,?_,?_,rfl,rfl,?_⟩
 .first|exact eN|refine eM ?_
 .first|exact eN|refine eM ?_
 simp only[EY,FA];generalize Cc h f ns n ⟨#[76,65,66,69,76]⟩=j at *;refine rL d ?_ ?_
 .trivial
 repeat'(first|exact trivial|apply eS rfl|apply AB|refine rX d ?_ ?_|refine rC ?_ ?_<;>intro g<;>try(cases g;done))
 .have e:WI h f ns c n=(false,j.2,c):=r.trans (BY (by revert g;simp));exact fM d [.tmp 4] (.p .bool false) eT ⟨by rw[e],by rw[e]⟩
 .exact⟨h0,h1⟩
 have e:=r.trans (As (by revert g;simp));rw[e];clear e r g;have D:f.getD n.toNat (0,[])=Av f n:=rfl;simp only[D]at *;refine AI (ι:={k:Nat//k<=(Av f n).2.length}) (λk=>⟨[(0,.bp 1 [] 0),(10,.bp 10 [] 0),(46,.p Mx (Av f n).2),(47,.p (.int .i64) ((Av f n).2.length:Int)),(48,.p (.int .i64) (k.1:Int))],(10,.box 54 true [.p T9 p,.p T3 j.1.1,.sr 78 T91 0 (((Av f n).2.take k.1).foldl (MD h f) (j.2,[])).2.length]) :: (78,.arr 91 T91 (((Av f n).2.take k.1).foldl (MD h f) (j.2,[])).2) :: EY h f a b (((Av f n).2.take k.1).foldl (MD h f) (j.2,[])).1 c qs⟩) (λk=>(Av f n).2.length-k.1) ⟨0,By _⟩ (AC [(1,.nm 1),(2,.nm 2),(3,.nm 3),(4,.nm 4),(5,.nm 5),(10,.nm 10),(78,.nil)] rfl rfl ?_ ?_) (λk=>?_)
 .first|exact eN|refine eM ?_
  exact⟨rfl,rfl,rfl,rfl,rfl⟩
 .first|exact eN|refine eM ?_
 obtain⟨k,hk⟩:=k;have i:=λq:k<(Av f n).2.length=>dY (MD h f) (Av f n).2 (0,0) (j.2,[]) q;have w:=λq:k<(Av f n).2.length=>AG (Av f n).2 (0,0) q;have s:=qO (h:=h) ((Av f n).2.take k) (j.2,[]) hh (λx E=>v x (AAp E));generalize z:((Av f n).2.take k).foldl (MD h f) (j.2,[])=Z at *;simp only[EY,FA];repeat'(first|exact trivial|apply eS rfl|apply AB|refine rX d ?_ ?_|refine rC ?_ ?_<;>intro g<;>try(cases g;done))
 .exact g
 .exact B _ (w (by exact eV))
 .exact eV
 .have i:=i (by exact eV);rw[show MD h f Z ((Av f n).2.getD k (0,0))=Z from BY g]at i;refine⟨⟨k+1,by exact eV⟩,by simp only;omega,AC [(1,.nm 1),(2,.nm 2),(3,.nm 3),(4,.nm 4),(5,.nm 5),(10,.nm 10),(78,.nm 78)] rfl rfl ?_ ?_⟩
  .simp only[i];first|exact eN|refine eM ?_
  simp only[i,EY,FA];first|exact eN|refine eM ?_
 .rename_i M;have l:k<(Av f n).2.length:=by omega
  have o:=v _ (w l);have i:=(i l).trans (As (show ¬AM (A1D h ((Av f n).2.getD k (0,0))) ⟨#[76,65,66,69,76]⟩=true by unfold A1D;rw[g];simp));have L:=qM s.1 h o.1 o.2;refine cP 3 d ?_ ?_
  .trivial
  refine rM d (aM hs m u o.1 o.2 s.1 a b c qs) [(1,.nm 1),(2,.nm 2),(3,.nm 3),(4,.nm 4),(5,.nm 5)] [3,4,5] ?_ ?_ ?_
  .first|exact eN|refine eM ?_
  .first|exact eN|refine eM ?_
  rintro _ _ ⟨rfl,rfl⟩;refine⟨[(1,.nm 1),(2,.nm 2),(3,.nm 3),(4,.nm 4),(5,.nm 5)],.tup [.p T3 (SE h f Z.1 ((Av f n).2.getD k (0,0)).2).1.1,.p .bool (SE h f Z.1 ((Av f n).2.getD k (0,0)).2).1.2],EY h f a b (SE h f Z.1 ((Av f n).2.getD k (0,0)).2).2 c qs,rfl,rfl,?_,?_,rfl,rfl,?_⟩
  .first|exact eN|refine eM ?_
  .first|exact eN|refine eM ?_
  simp only[EY,FA];generalize SE h f Z.1 ((Av f n).2.getD k (0,0)).2=V at *;refine rL d ?_ ?_
  .trivial
  repeat'(first|exact trivial|apply eS rfl|apply AB|refine rX d ?_ ?_|refine rC ?_ ?_<;>intro g<;>try(cases g;done))
  .simp only[AO];have:=s.2;simp only[OR,AAl]at this;omega
  .exact eV
  .rw[g,BY rfl]at i;refine⟨⟨k+1,l⟩,by simp only;omega,AC [(1,.nm 1),(2,.nm 2),(3,.nm 3),(4,.nm 4),(5,.nm 5),(10,.nm 10),(78,.nm 78)] rfl rfl ?_ ?_⟩
   .simp only[i,EY,FA,A1D];first|exact eN|refine eM ?_
   simp only[i,EY,FA];first|exact eN|refine eM ?_
  .exact eV
  rw[g,As sc]at i;refine⟨⟨k+1,l⟩,by simp only;omega,AC [(1,.nm 1),(2,.nm 2),(3,.nm 3),(4,.nm 4),(5,.nm 5),(10,.nm 10),(78,.nm 78)] rfl rfl ?_ ?_⟩
  .simp only[i,EY,FA];first|exact eN|refine eM ?_
  simp only[i,EY,FA];first|exact eN|refine eM ?_
 have l:(Av f n).2.take k=(Av f n).2:=At (by exact eV);refine CK [78] ?_;refine J3 drawsAny d 9 [([1,2,3,4,5,6,7],8)] [0] (by kernel_rfl) (mxA ?_ ?_)
 .trivial
 refine mxL d [4] ?_ ?_
 .simp only[AO];omega
 refine mxE d ?_ ?_ ?_
 .trivial
 .trivial
 repeat'(first|exact trivial|apply eS rfl|apply AB|refine rX d ?_ ?_|refine rC ?_ ?_<;>intro g<;>try(cases g;done))
 have A:(Av f n).2.foldl (MD h f) (j.2,[])=Z:=by rw[<-z,l]
 rw[A];have y:c.length+1=(c++[(p,j.1.1,Z.2)]).length:=by simp
 rw[y];refine Ev.ent (σ':=⟨[(4,.p .bool true)],EY h f a b Z.1 (c++[(p,j.1.1,Z.2)]) qs⟩) ?_ (AC [(1,.nm 1),(2,.nm 2),(3,.nm 3),(4,.nm 4),(5,.nm 5)] rfl rfl ?_ ?_)
 .exact fM d [.tmp 4] (.p .bool true) eT ⟨rfl,rfl⟩
 .first|exact eN|refine eM ?_
 first|exact eN|refine eM ?_
end
section
attribute [local go_sem] FA EY Kw Kh My Jc Iu NH
def WJ (h:AE) (f:List AD) (ns:List Int) (qs:List SU) (n:Int):Bool×List Int×List SU :=
 if (OX h f n).2.2=false\/(Cc h f ns n ⟨#[72,73,71,72]⟩).1.2=false then (false,(Cc h f ns n ⟨#[72,73,71,72]⟩).2,qs)
 else ((Cc h f (Cc h f ns n ⟨#[72,73,71,72]⟩).2 n ⟨#[76,79,87]⟩).1.2,(Cc h f (Cc h f ns n ⟨#[72,73,71,72]⟩).2 n ⟨#[76,79,87]⟩).2,qs++[((Cc h f ns n ⟨#[72,73,71,72]⟩).1.1,(Cc h f (Cc h f ns n ⟨#[72,73,71,72]⟩).2 n ⟨#[76,79,87]⟩).1.1)])
theorem A4R (hs:mV h) (j:AX f) (l:Db h f) (ha:Sa h f) (h0:0<=n) (h1:n<(f.length:Int)) {ns:List Int} (hn:Gr f ns) (a b:Int) (g:List G8) (qs:List SU) (v:qs.length<=200000) :
  A5 Tryz.prog 87 [.bp 1 [] 0,.p T3 n] (EY h f a b ns g qs) [1,2]
  (λres r=>res=.p .bool (WJ h f ns qs n).1/\r=EY h f a b (WJ h f ns qs n).2.1 g (WJ h f ns qs n).2.2):=by
 refine Ix [0,1,4,7,8,9,10,29] [45] [] Tryz.func87 Tryz.ntmps87 AH ?_;intro w0 K O0 ρ0 c t u;have o:0<f.length:=by omega
 have hh:=OQ (h:=h) hn j n ⟨#[72,73,71,72]⟩ o;have s:=OQ (h:=h) hh j n ⟨#[76,79,87]⟩ o;have k:WJ h f ns qs n=if (OX h f n).2.2=false\/(Cc h f ns n ⟨#[72,73,71,72]⟩).1.2=false then (false,(Cc h f ns n ⟨#[72,73,71,72]⟩).2,qs)
  else ((Cc h f (Cc h f ns n ⟨#[72,73,71,72]⟩).2 n ⟨#[76,79,87]⟩).1.2,(Cc h f (Cc h f ns n ⟨#[72,73,71,72]⟩).2 n ⟨#[76,79,87]⟩).2,qs++[((Cc h f ns n ⟨#[72,73,71,72]⟩).1.1,(Cc h f (Cc h f ns n ⟨#[72,73,71,72]⟩).2 n ⟨#[76,79,87]⟩).1.1)]):=rfl
 simp only[Ai,EY,FA];repeat'(first|exact trivial|apply eS rfl|apply AB|refine rP c ?_ ?_|fail)
 refine cP 2 c ?_ ?_
 .trivial
 refine rM c (qI hs l h0 h1 a b (H8 ns) (ns.map (M4 h f)) g qs) [(1,.nm 1),(2,.nm 2),(3,.nm 3),(4,.nm 4),(5,.nm 5)] [3,4,5] ?_ ?_ ?_
 .first|exact eN|refine eM ?_
 .first|exact eN|refine eM ?_
 rintro _ _ ⟨rfl,rfl⟩;refine⟨[(1,.nm 1),(2,.nm 2),(3,.nm 3),(4,.nm 4),(5,.nm 5)],.tup [.p T9 (OX h f n).1,.p T9 (OX h f n).2.1,.p .bool (OX h f n).2.2],FA h f a b (H8 ns) (ns.map (M4 h f)) g qs,rfl,rfl,?_,?_,rfl,rfl,?_⟩
 .first|exact eN|refine eM ?_
 .first|exact eN|refine eM ?_
 simp only[EY,FA];refine rL c ?_ ?_
 .trivial
 repeat'(first|exact trivial|apply eS rfl|apply AB|refine rX c ?_ ?_|refine rC ?_ ?_<;>intro d<;>try(cases d;done))
 generalize (OX h f n).2.2=p at *;refine cP 2 c ?_ ?_
 .trivial
 refine rM c (TL hs j l ha h0 h1 ⟨#[72,73,71,72]⟩ hn a b g qs) [(1,.nm 1),(2,.nm 2),(3,.nm 3),(4,.nm 4),(5,.nm 5)] [3,4,5] ?_ ?_ ?_
 .first|exact eN|refine eM ?_
 .first|exact eN|refine eM ?_
 rintro _ _ ⟨rfl,rfl⟩;refine⟨[(1,.nm 1),(2,.nm 2),(3,.nm 3),(4,.nm 4),(5,.nm 5)],.tup [.p T3 (Cc h f ns n ⟨#[72,73,71,72]⟩).1.1,.p .bool (Cc h f ns n ⟨#[72,73,71,72]⟩).1.2],EY h f a b (Cc h f ns n ⟨#[72,73,71,72]⟩).2 g qs,rfl,rfl,?_,?_,rfl,rfl,?_⟩
 .first|exact eN|refine eM ?_
 .first|exact eN|refine eM ?_
 simp only[EY,FA];generalize Cc h f ns n ⟨#[72,73,71,72]⟩=i at *;refine rL c ?_ ?_
 .trivial
 repeat'(first|exact trivial|apply eS rfl|apply AB|refine rX c ?_ ?_|refine rC ?_ ?_<;>intro d<;>try(cases d;done))
 .have e:WJ h f ns qs n=(false,i.2,qs):=k.trans (BY (by revert d;simp));exact fM c [.tmp 4] (.p .bool false) eT ⟨by rw[e],by rw[e]⟩
 have e:=k.trans (As (by revert d;simp));rw[e];clear e k d;refine cP 2 c ?_ ?_
 .trivial
 refine rM c (TL hs j l ha h0 h1 ⟨#[76,79,87]⟩ hh a b g qs) [(1,.nm 1),(2,.nm 2),(3,.nm 3),(4,.nm 4),(5,.nm 5)] [3,4,5] ?_ ?_ ?_
 .first|exact eN|refine eM ?_
 .first|exact eN|refine eM ?_
 rintro _ _ ⟨rfl,rfl⟩;refine⟨[(1,.nm 1),(2,.nm 2),(3,.nm 3),(4,.nm 4),(5,.nm 5)],.tup [.p T3 (Cc h f i.2 n ⟨#[76,79,87]⟩).1.1,.p .bool (Cc h f i.2 n ⟨#[76,79,87]⟩).1.2],EY h f a b (Cc h f i.2 n ⟨#[76,79,87]⟩).2 g qs,rfl,rfl,?_,?_,rfl,rfl,?_⟩
 .first|exact eN|refine eM ?_
 .first|exact eN|refine eM ?_
 simp only[EY,FA];generalize Cc h f i.2 n ⟨#[76,79,87]⟩=m at *;refine rL c ?_ ?_
 .trivial
 repeat'(first|exact trivial|apply eS rfl|apply AB|refine rX c ?_ ?_|refine rC ?_ ?_<;>intro d<;>try(cases d;done))
 .simp only[AO];omega
 have q:qs.length+1=(qs++[(i.1.1,m.1.1)]).length:=by simp
 rw[q];exact fM c [.tmp 4] (.p .bool m.1.2) eT ⟨rfl,rfl⟩
end
section
attribute [local go_sem] FA EY MC Kw Kh My Jc Iu NH
abbrev Ek:=List Int×List G8×List SU
def Kr (G:Ek->Int->Bool×Ek):List Int->Ek->Bool×Ek
 | [],st=>(true,st)
 | x :: l,st=>if (G st x).1=true then Kr G l (G st x).2 else (false,(G st x).2)
theorem mW (G:Ek->Int->Bool×Ek) (l:List Int) (st:Ek) {k:Nat} (h:k<l.length):Kr G (l.drop k) st=if (G st (l.getD k 0)).1=true then Kr G (l.drop (k+1)) (G st (l.getD k 0)).2 else (false,(G st (l.getD k 0)).2):=by
 rw[OF h,AS,AT h];rfl
def ME (h:AE) (f:List AD) (G:Ek->Int->Bool×Ek) (st:Ek) (n:Int) (s:ByteArray):Int×Ek :=
 if Cw h f n s<0 then (13,st) else if (BK h f (Cw h f n s)).2≠0 then ((BK h f (Cw h f n s)).2,st)
 else (if (Kr G (BK h f (Cw h f n s)).1 st).1=true then 0 else 13,(Kr G (BK h f (Cw h f n s)).1 st).2)
theorem WK (u:AX f) (E:Db h f) (ha:Sa h f) (h0:0<=n) (h1:n<(f.length:Int)) (s:ByteArray) (a b:Int) (g:Nat) (G:Ek->Int->Bool×Ek) (Q:Nat->Ek->Prop)
  (hG:∀k st x,Q k st->k<200000->0<=x->x<(f.length:Int)->A5 Tryz.prog g [.bp 1 [] 0,.p T3 x] (EY h f a b st.1 st.2.1 st.2.2) [1,2] (λres z=>res=.p .bool (G st x).1/\z=EY h f a b (G st x).2.1 (G st x).2.2.1 (G st x).2.2.2))
  (w:∀k st x,Q k st->0<=x->x<(f.length:Int)->Q (k+1) (G st x).2) (st:Ek) (A:Q 0 st) :
  A5 Tryz.prog 85 [.bp 1 [] 0,.p T3 n,.p T9 s,.clo (1000000+g) [1]] (EY h f a b st.1 st.2.1 st.2.2) [1,2]
  (λres z=>res=.p C6 (ME h f G st n s).1/\z=EY h f a b (ME h f G st n s).2.1 (ME h f G st n s).2.2.1 (ME h f G st n s).2.2.2):=by
 refine Ix [0,1,2,3,8,9,10,11,12,14,23,38,40,41,42,43,49] [] [] Tryz.func85 Tryz.ntmps85 (AF gW AH) ?_;intro w0 K O0 ρ0 d I J;have C:0<f.length:=by omega
 have F:=WE (h:=h) u n s C;have r:ME h f G st n s=if Cw h f n s<0 then (13,st) else if (BK h f (Cw h f n s)).2≠0 then ((BK h f (Cw h f n s)).2,st)
  else (if (Kr G (BK h f (Cw h f n s)).1 st).1=true then 0 else 13,(Kr G (BK h f (Cw h f n s)).1 st).2):=rfl
 simp only[Ai,EY,FA];repeat'(first|exact trivial|apply eS rfl|apply AB|refine rP d ?_ ?_|fail)
 refine cP 3 d ?_ ?_
 .trivial
 refine rM d (aL u ha h0 h1 s a b (H8 st.1) (st.1.map (M4 h f)) st.2.1 st.2.2) [(1,.nm 1),(2,.nm 2),(3,.nm 3),(4,.nm 4),(5,.nm 5)] [3,4,5] ?_ ?_ ?_
 .first|exact eN|refine eM ?_
 .first|exact eN|refine eM ?_
 rintro _ _ ⟨rfl,rfl⟩;refine⟨[(1,.nm 1),(2,.nm 2),(3,.nm 3),(4,.nm 4),(5,.nm 5)],.tup [.p T3 (P8 h f n s).1,.p .bool (P8 h f n s).2],FA h f a b (H8 st.1) (st.1.map (M4 h f)) st.2.1 st.2.2,rfl,rfl,?_,?_,rfl,rfl,?_⟩
 .first|exact eN|refine eM ?_
 .first|exact eN|refine eM ?_
 simp only[EY,FA];generalize m:P8 h f n s=V at *;refine rL d ?_ ?_
 .trivial
 repeat'(first|exact trivial|apply eS rfl|apply AB|refine rX d ?_ ?_|refine rC ?_ ?_<;>intro c<;>try(cases c;done))
 .have q:Cw h f n s<0:=by
   rw[<-m]at c;unfold P8 at c;split at c
   .assumption
   cases c
  have e:ME h f G st n s=(13,st):=r.trans (BY q);exact fM d [.tmp 8] (.p C6 (13:Int)) eT ⟨by rw[e],by rw[e]⟩
 .have q:0<=Cw h f n s/\V.1=Cw h f n s:=by
   rw[<-m]at c ⊢;unfold P8 at c ⊢;split
   .rename_i q;rw[BY q]at c;cases c
   exact⟨by omega,rfl⟩
  rw[q.2];exact⟨u,E,q.1,F⟩
 .rename_i i;have q:0<=Cw h f n s/\V.1=Cw h f n s:=by
   rw[<-m]at i ⊢;unfold P8 at i ⊢;split
   .rename_i q;rw[BY q]at i;cases i
   exact⟨by omega,rfl⟩
  rw[q.2]at c ⊢;have e:ME h f G st n s=((BK h f (Cw h f n s)).2,st):=r.trans ((As O1).trans (BY (by simpa using c)));exact fM d [.tmp 8] (.p C6 (BK h f (Cw h f n s)).2) eT ⟨by rw[e],by rw[e]⟩
 rename_i i;have q:0<=Cw h f n s/\V.1=Cw h f n s:=by
  rw[<-m]at i ⊢;unfold P8 at i ⊢;split
  .rename_i q;rw[BY q]at i;cases i
  exact⟨by omega,rfl⟩
 rw[q.2]at c ⊢;have e:=r.trans ((As O1).trans (As (by simpa using c)));rw[e];clear e r i m;obtain⟨⟨B,H⟩,-⟩:=SD (h:=h) u (Cw h f n s);clear c;generalize (BK h f (Cw h f n s)).1=l at *;refine AI (ι:={x:Nat×Ek//x.1<=l.length/\Kr G (l.drop x.1) x.2=Kr G l st/\Q x.1 x.2}) (λx=>⟨[(0,.bp 1 [] 0),(3,.clo (1000000+g) [1]),(40,.p Br l),(41,.p (.int .i64) (l.length:Int)),(42,.p (.int .i64) (x.1.1:Int))],EY h f a b x.1.2.1 x.1.2.2.1 x.1.2.2.2⟩) (λx=>l.length-x.1.1) ⟨(0,st),By _,rfl,A⟩ (AC [(1,.nm 1),(2,.nm 2),(3,.nm 3),(4,.nm 4),(5,.nm 5)] rfl rfl ?_ ?_) (λx=>?_)
 .first|exact eN|refine eM ?_
 .first|exact eN|refine eM ?_
 obtain⟨⟨k,Z⟩,hk,t,y⟩:=x;simp only at hk t y;have o:=λj:k<l.length=>mW G l Z j;simp only[EY,FA];repeat'(first|exact trivial|apply eS rfl|apply AB|refine rX d ?_ ?_|refine rC ?_ ?_<;>intro c<;>try(cases c;done))
 .exact c
 .have j:k<l.length:=by omega
  have v:=B _ (AG l 0 j);have o:=o j;have hG:=hG k Z (l.getD k 0) y O1 v.1 v.2;have w:=w k Z (l.getD k 0) y v.1 v.2;refine cP 2 d ?_ ?_
  .trivial
  refine A3l d (f:=g) (n:=1) (aw:=[.p T3 (l.getD k 0)]) ?_ ?_ hG [(1,.nm 1),(2,.nm 2),(3,.nm 3),(4,.nm 4),(5,.nm 5)] [3,4,5] rfl rfl rfl ?_ ?_ ?_
  .rfl
  .rfl
  .first|exact eN|refine eM ?_
  .first|exact eN|refine eM ?_
  rintro _ _ ⟨rfl,rfl⟩;refine⟨[(1,.nm 1),(2,.nm 2),(3,.nm 3),(4,.nm 4),(5,.nm 5)],.p .bool (G Z (l.getD k 0)).1,EY h f a b (G Z (l.getD k 0)).2.1 (G Z (l.getD k 0)).2.2.1 (G Z (l.getD k 0)).2.2.2,rfl,rfl,?_,?_,rfl,rfl,?_⟩
  .first|exact eN|refine eM ?_
  .first|exact eN|refine eM ?_
  simp only[EY,FA];refine rL d ?_ ?_
  .trivial
  repeat'(first|exact trivial|apply eS rfl|apply AB|refine rX d ?_ ?_|refine rC ?_ ?_<;>intro c<;>try(cases c;done))
  .have e:Kr G l st=(false,(G Z (l.getD k 0)).2):=by rw[<-t,o,As (by rw[c];simp)]
   rw[e];exact fM d [.tmp 8] (.p C6 (13:Int)) eT ⟨rfl,rfl⟩
  .exact eV
  rw[BY c]at o;refine⟨⟨(k+1,(G Z (l.getD k 0)).2),j,by rw[<-t,o],w⟩,by simp only;omega,AC [(1,.nm 1),(2,.nm 2),(3,.nm 3),(4,.nm 4),(5,.nm 5)] rfl rfl ?_ ?_⟩
  .first|exact eN|refine eM ?_
  first|exact eN|refine eM ?_
 have D:l.drop k=[]:=NO O1;rw[<-t,D];exact fM d [.tmp 8] (.p C6 (0:Int)) eT ⟨rfl,rfl⟩
end
section
attribute [local go_sem] FA EY JV atS Kw Kh My Jc Iu NH
theorem g8 (e:Int):∀ {l:List (Int×Int)},(∀a∈l,0<=a.2)->Fy l e=if Bz l e<0 then (0,false) else (Bz l e,true)
 | [],_=>rfl
 | a :: l,h=>by
  unfold Fy Bz;split
  .have:=h a iT;rw[As O1]
  exact g8 e λb c=>h b (IF _ c)
theorem A4S (c:AX f) (ha:Sa h f) (s:ByteArray) (hf:0<f.length):SZ f 0 [A9 h s]=P8 h f 0 s:=by
 have h1:=g8 (A9 h s) (l:=(Av f 0).2) (λa q=>((c.2 _ (AG f (0,[]) (L1 ⟨ABf 0,iF.2 hf⟩))).2 a q).1);have b:SZ f 0 [A9 h s]=if (Fy (Av f 0).2 (A9 h s)).2=true then ((Fy (Av f 0).2 (A9 h s)).1,true) else (0,false):=rfl
 rw[b,h1];unfold P8;rw[qJ ha];split<;>rfl
def A4T (h:AE) (f:List AD) (st:Ek) (x:Int):Bool×Ek:=((WI h f st.1 st.2.1 x).1,(WI h f st.1 st.2.1 x).2.1,(WI h f st.1 st.2.1 x).2.2,st.2.2)
def A9e (h:AE) (f:List AD) (st:Ek) (x:Int):Bool×Ek:=((WJ h f st.1 st.2.2 x).1,(WJ h f st.1 st.2.2 x).2.1,st.2.1,(WJ h f st.1 st.2.2 x).2.2)
def bE (h:AE) (f:List AD):Int:=Cw h f 0 ⟨#[83,69,77]⟩
def MF (h:AE) (f:List AD):(Int×Bool)×List Int:=Cc h f [] (bE h f) ⟨#[84,79,80]⟩
def smX (h:AE) (f:List AD):Int:=Cw h f (bE h f) ⟨#[73,78,68,69,88]⟩
def TM (h:AE) (f:List AD):(Int×Bool)×List Int:=SE h f (MF h f).2 (smX h f)
def WL (h:AE) (f:List AD):Int×Ek:=ME h f (A4T h f) ((TM h f).2,[],[]) (bE h f) ⟨#[82,69,76,83]⟩
def RF (h:AE) (f:List AD):Int×Ek:=ME h f (A9e h f) (WL h f).2 (bE h f) ⟨#[67,79,78,83]⟩
def M5 (h:AE) (f:List AD):Int :=
 if bE h f<0 then 13 else if (MF h f).1.2=false then 13 else if smX h f<0 then 13 else if (TM h f).1.2=false then 13
 else if (WL h f).1≠0 then (WL h f).1 else if (RF h f).1≠0 then (RF h f).1
 else if 16<(RF h f).2.2.1.length\/16<(RF h f).2.2.2.length\/256<(RF h f).2.1.length then 7 else 0
def vJ (h:AE) (f:List AD):Int×Int×Ek:=((MF h f).1.1,(TM h f).1.1,(RF h f).2)
def AA0 (h:AE) (f:List AD) (res:AV) (a:List (Nat×Obj)):Prop:=res=.p C6 (M5 h f)/\∃x:Int×Int×Ek,a=EY h f x.1 x.2.1 x.2.2.1 x.2.2.2.1 x.2.2.2.2/\(M5 h f=0->x=vJ h f)
theorem A5T {s:ByteArray} (q:(P8 h f n s).2=true):0<=Cw h f n s/\(P8 h f n s).1=Cw h f n s:=by
 unfold P8 at q ⊢;split
 .rename_i p;rw[BY p]at q;cases q
 exact⟨by omega,rfl⟩
theorem A5U {s:ByteArray} (q:(P8 h f n s).2=false):Cw h f n s<0:=by
 unfold P8 at q;split at q
 .assumption
 cases q
theorem A5V (b:AX f) {ns:List Int} (hn:Gr f ns) (a:List G8) {x:Int} (d:0<=x) (e:x<(f.length:Int)):Gr f (WI h f ns a x).2.1/\(WI h f ns a x).2.2.length<=a.length+1:=by
 have hh:=OQ (h:=h) hn b x ⟨#[76,65,66,69,76]⟩ O1;have c:=(b.2 _ (AG f (0,[]) (L1 ⟨d,e⟩))).2;unfold WI;split
 .exact⟨hh,by simp⟩
 exact⟨(qO (h:=h) (Av f x).2 (_,[]) hh c).1,by simp⟩
theorem A9f (a:AX f) {ns:List Int} (hn:Gr f ns) (qs:List SU) {x:Int} (c:0<=x) (d:x<(f.length:Int)):Gr f (WJ h f ns qs x).2.1/\(WJ h f ns qs x).2.2.length<=qs.length+1:=by
 have hh:=OQ (h:=h) hn a x ⟨#[72,73,71,72]⟩ O1;have b:=OQ (h:=h) hh a x ⟨#[76,79,87]⟩ O1;unfold WJ;split
 .exact⟨hh,by simp⟩
 exact⟨b,by simp⟩
theorem qP {f:List AD} (G:Ek->Int->Bool×Ek) (P:Ek->Prop) (hG:∀st x,P st->0<=x->x<(f.length:Int)->P (G st x).2):∀(l:List Int) (st:Ek),(∀x∈l,0<=x/\x<(f.length:Int))->P st->P (Kr G l st).2
 | [],st,_,h=>h
 | x :: l,st,b,h=>by
  have c:=b x iT;have a:=hG st x h c.1 c.2;unfold Kr;split
  .exact qP G P hG l _ (λy d=>b y (IF _ d)) a
  exact a
theorem qQ (a:AX f) (G:Ek->Int->Bool×Ek) (P:Ek->Prop) (hG:∀st x,P st->0<=x->x<(f.length:Int)->P (G st x).2) (st:Ek) (n:Int) (s:ByteArray) (h0:P st):P (ME h f G st n s).2:=by
 unfold ME;split
 .exact h0
 split
 .exact h0
 exact qP G P hG _ st (SD (h:=h) a _).1.1 h0
theorem A4U (hs:mV h) (d:AX f) (o:Db h f) (ha:Sa h f) (h0:0<f.length) :
  A5 Tryz.prog 38 [.bp 1 [] 0] (EY h f 0 0 [] [] []) [1,2]
  (AA0 h f):=by
 refine Ix [0,2,3,4,5,6,7,23,35,43,55,62,70,96] [18] [] Tryz.func38 Tryz.ntmps38 (AF VZ (AF A9c AH)) ?_;intro w0 K O0 ρ0 a N O;simp only[Ai,EY,FA];have u:SZ f 0 [A9 h ⟨#[83,69,77]⟩]=P8 h f 0 ⟨#[83,69,77]⟩:=A4S d ha ⟨#[83,69,77]⟩ h0;have t:bE h f<(f.length:Int):=WE d 0 ⟨#[83,69,77]⟩ h0;have w:smX h f<(f.length:Int):=WE d (bE h f) ⟨#[73,78,68,69,88]⟩ h0;have y:Gr f []:=⟨List.Pairwise.nil,λx G=>by cases G⟩;have B:Gr f (MF h f).2:=OQ y d (bE h f) ⟨#[84,79,80]⟩ h0;have c:M5 h f=if bE h f<0 then 13 else if (MF h f).1.2=false then 13 else if smX h f<0 then 13 else if (TM h f).1.2=false then 13
  else if (WL h f).1≠0 then (WL h f).1 else if (RF h f).1≠0 then (RF h f).1
  else if 16<(RF h f).2.2.1.length\/16<(RF h f).2.2.2.length\/256<(RF h f).2.1.length then 7 else 0:=rfl
 repeat'(first|exact trivial|apply eS rfl|apply AB|refine rX a ?_ ?_|refine rC ?_ ?_<;>intro b<;>try(cases b;done))
 .exact⟨d,h0⟩
 .have q:bE h f<0:=A5U (by rw[<-u];exact b);have e:M5 h f=13:=c.trans (BY q);exact fM a [.tmp 2] (.p C6 (13:Int)) eT ⟨by rw[e],(0,0,[],[],[]),rfl,λz=>by rw[e]at z;cases z⟩
 have q:=A5T (h:=h) (f:=f) (n:=0) (s:=⟨#[83,69,77]⟩) (by rw[<-u];exact b);have v:0<=bE h f:=q.1;have r:(SZ f 0 [A9 h ⟨#[83,69,77]⟩]).1=bE h f:=by rw[u];exact q.2
 rw[r];replace c:=c.trans (As O1);clear q r b u;have H:A5 Tryz.prog 82 [.bp 1 [] 0,.p T3 (bE h f),.p T9 ⟨#[84,79,80]⟩] (EY h f 0 0 [] [] []) [1,2]
  (λres l=>res=.tup [.p T3 (MF h f).1.1,.p .bool (MF h f).1.2]/\l=EY h f 0 0 (MF h f).2 [] []):=TL hs d o ha v t ⟨#[84,79,80]⟩ y 0 0 [] []
 refine cP 3 a ?_ ?_
 .trivial
 refine rM a (H) [(1,.nm 1),(2,.nm 2),(3,.nm 3),(4,.nm 4),(5,.nm 5)] [3,4,5] ?_ ?_ ?_
 .first|exact eN|refine eM ?_
 .first|exact eN|refine eM ?_
 rintro _ _ ⟨rfl,rfl⟩;refine⟨[(1,.nm 1),(2,.nm 2),(3,.nm 3),(4,.nm 4),(5,.nm 5)],.tup [.p T3 (MF h f).1.1,.p .bool (MF h f).1.2],EY h f 0 0 (MF h f).2 [] [],rfl,rfl,?_,?_,rfl,rfl,?_⟩
 .first|exact eN|refine eM ?_
 .first|exact eN|refine eM ?_
 simp only[EY,FA];refine rL a ?_ ?_
 .trivial
 repeat'(first|exact trivial|apply eS rfl|apply AB|refine rX a ?_ ?_|refine rC ?_ ?_<;>intro b<;>try(cases b;done))
 .have e:M5 h f=13:=c.trans (BY b);exact fM a [.tmp 2] (.p C6 (13:Int)) eT ⟨by rw[e],((MF h f).1.1,0,(MF h f).2,[],[]),rfl,λz=>by rw[e]at z;cases z⟩
 replace c:=c.trans (As (by rw[b];simp));clear b;refine cP 2 a ?_ ?_
 .trivial
 refine rM a (aL d ha v t ⟨#[73,78,68,69,88]⟩ (MF h f).1.1 0 (H8 (MF h f).2) ((MF h f).2.map (M4 h f)) [] []) [(1,.nm 1),(2,.nm 2),(3,.nm 3),(4,.nm 4),(5,.nm 5)] [3,4,5] ?_ ?_ ?_
 .first|exact eN|refine eM ?_
 .first|exact eN|refine eM ?_
 rintro _ _ ⟨rfl,rfl⟩;refine⟨[(1,.nm 1),(2,.nm 2),(3,.nm 3),(4,.nm 4),(5,.nm 5)],.tup [.p T3 (P8 h f (bE h f) ⟨#[73,78,68,69,88]⟩).1,.p .bool (P8 h f (bE h f) ⟨#[73,78,68,69,88]⟩).2],FA h f (MF h f).1.1 0 (H8 (MF h f).2) ((MF h f).2.map (M4 h f)) [] [],rfl,rfl,?_,?_,rfl,rfl,?_⟩
 .first|exact eN|refine eM ?_
 .first|exact eN|refine eM ?_
 simp only[EY,FA];refine rL a ?_ ?_
 .trivial
 repeat'(first|exact trivial|apply eS rfl|apply AB|refine rX a ?_ ?_|refine rC ?_ ?_<;>intro b<;>try(cases b;done))
 .have e:M5 h f=13:=c.trans (BY (A5U b));exact fM a [.tmp 2] (.p C6 (13:Int)) eT ⟨by rw[e],((MF h f).1.1,0,(MF h f).2,[],[]),rfl,λz=>by rw[e]at z;cases z⟩
 have q:=A5T b;have r:0<=smX h f:=q.1;have C:(P8 h f (bE h f) ⟨#[73,78,68,69,88]⟩).1=smX h f:=q.2;rw[C];replace c:=c.trans (As O1);clear q C b;have A:Gr f (TM h f).2:=qM B h r w;have I:A5 Tryz.prog 84 [.bp 1 [] 0,.p T3 (smX h f)] (EY h f (MF h f).1.1 0 (MF h f).2 [] []) [1,2] (λres l=>res=.tup [.p T3 (TM h f).1.1,.p .bool (TM h f).1.2]/\l=EY h f (MF h f).1.1 0 (TM h f).2 [] []):=aM hs d o r w B _ 0 [] [];refine cP 3 a ?_ ?_
 .trivial
 refine rM a (I) [(1,.nm 1),(2,.nm 2),(3,.nm 3),(4,.nm 4),(5,.nm 5)] [3,4,5] ?_ ?_ ?_
 .first|exact eN|refine eM ?_
 .first|exact eN|refine eM ?_
 rintro _ _ ⟨rfl,rfl⟩;refine⟨[(1,.nm 1),(2,.nm 2),(3,.nm 3),(4,.nm 4),(5,.nm 5)],.tup [.p T3 (TM h f).1.1,.p .bool (TM h f).1.2],EY h f (MF h f).1.1 0 (TM h f).2 [] [],rfl,rfl,?_,?_,rfl,rfl,?_⟩
 .first|exact eN|refine eM ?_
 .first|exact eN|refine eM ?_
 simp only[EY,FA];refine rL a ?_ ?_
 .trivial
 repeat'(first|exact trivial|apply eS rfl|apply AB|refine rX a ?_ ?_|refine rC ?_ ?_<;>intro b<;>try(cases b;done))
 .have e:M5 h f=13:=c.trans (BY b);exact fM a [.tmp 2] (.p C6 (13:Int)) eT ⟨by rw[e],((MF h f).1.1,(TM h f).1.1,(TM h f).2,[],[]),rfl,λz=>by rw[e]at z;cases z⟩
 replace c:=c.trans (As (by rw[b];simp));clear b;have J:A5 Tryz.prog 85 [.bp 1 [] 0,.p T3 (bE h f),.p T9 ⟨#[82,69,76,83]⟩,.clo (1000000+86) [1]] (EY h f (MF h f).1.1 (TM h f).1.1 (TM h f).2 [] []) [1,2] (λres l=>res=.p C6 (WL h f).1/\l=EY h f (MF h f).1.1 (TM h f).1.1 (WL h f).2.1 (WL h f).2.2.1 (WL h f).2.2.2) :=
  WK d o ha v t ⟨#[82,69,76,83]⟩ (MF h f).1.1 (TM h f).1.1 _ (A4T h f) (λk st=>Gr f st.1/\st.2.1.length<=k) (λk st x g hk i j=>A4Q hs d o ha i j g.1 _ _ st.2.1 O1 st.2.2) (λk st x g i j=>by have:=A5V (h:=h) d g.1 st.2.1 i j;exact⟨this.1,gO this.2 O1⟩) ((TM h f).2,[],[]) ⟨A,By _⟩
 have E:Gr f (WL h f).2.1:=qQ d (A4T h f) (λst=>Gr f st.1) (λst x g i j=>(A5V d g st.2.1 i j).1) _ _ _ A;refine cP 4 a ?_ ?_
 .trivial
 refine rM a (J) [(1,.nm 1),(2,.nm 2),(3,.nm 3),(4,.nm 4),(5,.nm 5)] [3,4,5] ?_ ?_ ?_
 .first|exact eN|refine eM ?_
 .first|exact eN|refine eM ?_
 rintro _ _ ⟨rfl,rfl⟩;refine⟨[(1,.nm 1),(2,.nm 2),(3,.nm 3),(4,.nm 4),(5,.nm 5)],.p C6 (WL h f).1,EY h f (MF h f).1.1 (TM h f).1.1 (WL h f).2.1 (WL h f).2.2.1 (WL h f).2.2.2,rfl,rfl,?_,?_,rfl,rfl,?_⟩
 .first|exact eN|refine eM ?_
 .first|exact eN|refine eM ?_
 simp only[EY,FA];refine rL a ?_ ?_
 .trivial
 repeat'(first|exact trivial|apply eS rfl|apply AB|refine rX a ?_ ?_|refine rC ?_ ?_<;>intro b<;>try(cases b;done))
 .have e:M5 h f=(WL h f).1:=c.trans (BY b);exact fM a [.tmp 2] (.p C6 (WL h f).1) eT ⟨by rw[e],((MF h f).1.1,(TM h f).1.1,(WL h f).2),rfl,λz=>by rw[e]at z;exact absurd z b⟩
 have M:(WL h f).1=0:=by simpa using b
 replace c:=c.trans (As (by rw[M];simp));clear b;have F:(WL h f).2.2.2=[]:=qQ d (A4T h f) (λst=>st.2.2=[]) (λst x g _ _=>g) _ _ _ rfl;have L:A5 Tryz.prog 85 [.bp 1 [] 0,.p T3 (bE h f),.p T9 ⟨#[67,79,78,83]⟩,.clo (1000000+87) [1]] (EY h f (MF h f).1.1 (TM h f).1.1 (WL h f).2.1 (WL h f).2.2.1 (WL h f).2.2.2) [1,2] (λres l=>res=.p C6 (RF h f).1/\l=EY h f (MF h f).1.1 (TM h f).1.1 (RF h f).2.1 (RF h f).2.2.1 (RF h f).2.2.2) :=
  WK d o ha v t ⟨#[67,79,78,83]⟩ (MF h f).1.1 (TM h f).1.1 _ (A9e h f) (λk st=>Gr f st.1/\st.2.2.length<=k) (λk st x g hk i j=>A4R hs d o ha i j g.1 _ _ st.2.1 st.2.2 O1) (λk st x g i j=>by have:=A9f (h:=h) d g.1 st.2.2 i j;exact⟨this.1,gO this.2 O1⟩) (WL h f).2 ⟨E,by rw[F];exact Of 0⟩
 refine cP 4 a ?_ ?_
 .trivial
 refine rM a (L) [(1,.nm 1),(2,.nm 2),(3,.nm 3),(4,.nm 4),(5,.nm 5)] [3,4,5] ?_ ?_ ?_
 .first|exact eN|refine eM ?_
 .first|exact eN|refine eM ?_
 rintro _ _ ⟨rfl,rfl⟩;refine⟨[(1,.nm 1),(2,.nm 2),(3,.nm 3),(4,.nm 4),(5,.nm 5)],.p C6 (RF h f).1,EY h f (MF h f).1.1 (TM h f).1.1 (RF h f).2.1 (RF h f).2.2.1 (RF h f).2.2.2,rfl,rfl,?_,?_,rfl,rfl,?_⟩
 .first|exact eN|refine eM ?_
 .first|exact eN|refine eM ?_
 simp only[EY,FA];refine rL a ?_ ?_
 .trivial
 repeat'(first|exact trivial|apply eS rfl|apply AB|refine rX a ?_ ?_|refine rC ?_ ?_<;>intro b<;>try(cases b;done))
 .have e:M5 h f=(RF h f).1:=c.trans (BY b);exact fM a [.tmp 2] (.p C6 (RF h f).1) eT ⟨by rw[e],vJ h f,rfl,λ_=>rfl⟩
 .rename_i m;have m:(RF h f).1=0:=by simpa using m
  have D:((RF h f).2.1.map (M4 h f)).length=(RF h f).2.1.length:=aS _;have e:M5 h f=7:=c.trans ((As (by rw[m];simp)).trans (BY O1));exact fM a [.tmp 2] (.p C6 (7:Int)) eT ⟨by rw[e],vJ h f,rfl,λ_=>rfl⟩
 rename_i m;have m:(RF h f).1=0:=by simpa using m
 have D:((RF h f).2.1.map (M4 h f)).length=(RF h f).2.1.length:=aS _;have e:M5 h f=0:=c.trans ((As (by rw[m];simp)).trans (As O1));exact fM a [.tmp 2] (.p C6 (0:Int)) eT ⟨by rw[e],vJ h f,rfl,λ_=>rfl⟩
end
section
attribute [local go_sem] FA EY Kw Kh My Jc Iu NH
theorem WM {c:Cx} {k:List Ce} {ops:Array Oper} {rest:List Oper} {d:Nat} {av:AV} {env:List (Nat×AV)} {objs:List (Nat×Obj)} (t:Ty) (x:t.den)
  (hk:D3 c R k ops rest ⟨(d,.p t x) :: env,objs⟩) (h:IZ false ⟨(d,av) :: env,objs⟩ t av=some x:=by simp only[go_sem,Nat.reduceEqDiff,reduceCtorEq,Nat.reduceAdd,Nat.reduceSub,Nat.reduceMul,Nat.reduceLeDiff,Nat.reduceLT,Int.reduceLE,Int.reduceToNat,Int.reduceNeg,↓reduceIte]):D3 c R k ops rest ⟨(d,av) :: env,objs⟩:=by
 intro f g a w i;obtain⟨ρ,b⟩:=i;refine hk f g a w ⟨ρ,b.frm,b.nt,b.defers,b.pin,b.objs,b.free,b.dist,λs v hs=>?_⟩;by_cases e:s=d
 .subst e;simp only[lk,AAJ,AAQ]at hs;subst hs;exact FB (V:=vw w c.O0 ⟨(s,av) :: env,objs⟩ ρ) (O':=own c.O0 ⟨(s,av) :: env,objs⟩ ρ) (λ_ h=>h) (λh=>by cases h) b.objs h (b.env s av (by simp only[lk,AAJ]))
 exact b.env s v (by simp only[lk,As e]at hs ⊢;exact hs)
def A7A (h:AE) (f:List AD) (x:Int×Int×Ek):Bj:=(x.1,x.2.1,x.2.2.1.map (M4 h f),x.2.2.2.1,x.2.2.2.2)
def RG (h:AE) (f:List AD):Bj×Int:=if M5 h f≠0 then (zM,M5 h f) else (A7A h f (vJ h f),0)
def A7B:AW:={ ins:=[FK,Fm],pre:=λ(h,f,_)=>mV h/\AX f/\Db h f/\Sa h f/\0<List.length f,out:=λ(h,f,_)=>[.p XZ (RG h f).1,.p C6 (RG h f).2] }
theorem A7C:AY Tryz.prog 15 A7B:=by
 refine fKP [0,1,2,3,4,5,6,7,16] [11] [] Tryz.func15 Tryz.ntmps15 AH ?_;rintro w0 O0 ⟨h,f,u⟩ a-⟨hs,c,d,ha,h0⟩;have hs:mV h:=hs;have c:AX f:=c;have d:Db h f:=d;have ha:Sa h f:=ha;have h0:0<f.length:=h0;have i:(h.1,h.2)=h:=rfl;simp only[A7B,AL];repeat'(first|exact trivial|apply eS rfl|apply AB|refine rP a ?_ ?_|fail)
 refine cP 1 a ?_ ?_
 .trivial
 refine WM FK h ?_;refine rN 1 a ?_ ?_
 .trivial
 refine WM Fm f ?_;refine rL a ?_ ?_
 .trivial
 repeat'(first|exact trivial|apply eS rfl|apply AB|refine rP a ?_ ?_|fail)
 refine cP 1 a ?_ ?_
 .trivial
 refine rM a (A4U hs c d ha h0) [(1,.nm 12),(2,.nm 10),(3,.nil),(4,.nil),(5,.nil)] [] ?_ ?_ ?_
 .first|exact eN|refine eM ?_
 .first|exact eN|refine eM ?_
  rfl
 rintro _ _ ⟨rfl,x,rfl,g⟩;refine⟨[(12,.nm 1),(10,.nm 2),(103,.nm 3),(104,.nm 4),(105,.nm 5)],.p C6 (M5 h f),[(12,.box 81 true [.p FK h,.p Fm f,.mp 10,.ag [.p T3 x.1,.p T3 x.2.1,.sr 103 T9 0 (x.2.2.1.map (M4 h f)).length,.sr 104 T54 0 x.2.2.2.1.length,.sr 105 T93 0 x.2.2.2.2.length]]),(10,.mapo T3 T3 (H8 x.2.2.1)),(103,.arr 9 T9 (x.2.2.1.map (M4 h f))),(104,.arr 54 T54 x.2.2.2.1),(105,.arr 93 T93 x.2.2.2.2)],rfl,rfl,?_,?_,rfl,rfl,?_⟩
 .first|exact eN|refine eM ?_
 .first|exact eN|refine eM ?_
 refine rL a ?_ ?_
 .trivial
 repeat'(first|exact trivial|apply eS rfl|apply AB|refine rX a ?_ ?_|refine rC ?_ ?_<;>intro b<;>try(cases b;done))
 .have e:RG h f=(zM,M5 h f):=BY b;exact fI a [.cell 4 41,.tmp 5] (by rw[e];first|exact eR|refine Kv ?_;rfl)
 have z:M5 h f=0:=by simpa using b
 have e:RG h f=(A7A h f (vJ h f),0):=As (by rw[z];simp);rw[e,<-g z];refine CK [103,104,105] ?_;exact fI a [.cell 4 41,.tmp 5] (by unfold A7A;exact eR)
end
def A4V (a b:List Int):Prop:=∀y,0<=oU a y->oU b y=oU a y
theorem A4V.trans {a b c:List Int} (h:A4V a b) (k:A4V b c):A4V a c:=λy d=>by
 have:=h y d;rw[k y O1,this]
theorem A1M:∀(x y:List UInt8),Op.bytesLess x y=true↔x<y
 | _,[]=>by
  unfold Op.bytesLess;simp
 | [],b :: y=>by
  unfold Op.bytesLess;simp
 | a :: x,b :: y=>by
  unfold Op.bytesLess;rw[vW,An,A1M x y,List.cons_lt_cons_iff];simp
theorem GL {x:ByteArray}:CJ x y=true↔x.toList<y.toList:=A1M _ _
theorem MG {x z:ByteArray} (h1:CJ x y=true) (a:CJ y z=true):CJ x z=true:=GL.2 (List.lt_trans (GL.1 h1) (GL.1 a))
theorem g9 {x:ByteArray} (h1:¬CJ x y=true) (c:¬AM x y=true):CJ y x=true:=by
 refine GL.2 ?_;have a:¬x.toList<y.toList:=λq=>h1 (GL.2 q);have b:¬x.toList=y.toList:=λq=>c (by unfold AM;rw[q];exact beq_self_eq_true _);exact GO λq=>b (List.le_antisymm (List.not_lt.1 q) (List.not_lt.1 a))
def mX (l:List ByteArray):Prop:=l.Pairwise λa b=>CJ a b=true
theorem A1N {l:List ByteArray} (d:mX l) (s:ByteArray):mX (Dl l s):=by
 unfold Dl;split
 .exact d
 rename_i hn;have k:l.take (WZ l s)=l.takeWhile λx=>CJ x s:=by
  unfold WZ;exact(List.prefix_iff_eq_take.1 (List.takeWhile_prefix _)).symm
 have h1:∀x∈l.take (WZ l s),CJ x s=true:=λx c=>by
  rw[k]at c;have:=List.all_takeWhile (p:=λx=>CJ x s) (l:=l);rw[ON]at this;exact this x c
 have h:∀x∈l.drop (WZ l s),CJ s x=true:=by
  by_cases f:WZ l s<l.length
  .have j:=OF f;have e:l.getD (WZ l s) ByteArray.empty=l[WZ l s]:=by simp[AS,f]
   have hh:CJ s l[WZ l s]=true:=by
    refine g9 (λq=>?_) λq=>hn ?_
    .have:=(kI (λx=>CJ x s) ByteArray.empty l (WZ l s) (Of _)).1 ⟨f,by rw[e];exact q⟩;exact absurd this (by unfold WZ;omega)
    rw[An,If,e];exact⟨f,q⟩
   intro x c;have i:(l.drop (WZ l s)).Pairwise λa b=>CJ a b=true:=d.drop;rw[j]at c i;rcases DO.1 c with rfl|c
   .exact hh
   exact MG hh ((AAo.1 i).1 x c)
  rw[NO O1];exact λx c=>by cases c
 show List.Pairwise _ _;rw[AA9,ABx];refine⟨d.take,AAo.2 ⟨h,d.drop⟩,λa ha b g=>?_⟩;rcases DO.1 g with rfl|g
 .exact h1 a ha
 exact MG (h1 a ha) (h b g)
theorem vK (d:List AJ):mX (BG d):=by
 have b:∀(l:List (ByteArray×ByteArray)) (o:List ByteArray),mX o->mX (l.foldl JJ o):=by
  intro l;induction l with
  | nil=>exact λo h=>h
  | cons x l a=>exact λo h=>a _ (A1N h x.1)
 have c:∀(l:List AJ) (o:List ByteArray),mX o->mX (l.foldl It o):=by
  intro l;induction l with
  | nil=>exact λo h=>h
  | cons x l a=>exact λo h=>a _ (b x.2.2 o h)
 exact c d [] .nil
def A4W (h:AE):Prop:=h.2.Pairwise λa b=>CJ a.1 b.1=true
theorem hJ (d:List AJ):A4W (Ab d).1:=by
 unfold Ab;split
 .exact .nil
 show List.Pairwise _ (DC d).1;unfold DC;split
 .exact .nil
 show List.Pairwise _ ((BG d).map (Lq d));rw[AAA];exact vK d
theorem MH (s:ByteArray):∀(l:List R4) (k:Nat),0<=iV s k l->∃i,i<l.length/\iV s k l=((k+i:Nat):Int)/\∃x,l[i]?=some x/\AM x.1 s=true
 | [],k,h=>absurd h (by unfold iV;decide)
 | x :: l,k,h=>by
  unfold iV at h ⊢;split
  .rename_i e;exact⟨0,by simp,by omega,x,rfl,e⟩
  rename_i e;rw[As e]at h;obtain⟨i,h1,a,y,b,c⟩:=MH s l (k+1) h;exact⟨i+1,by simp only[IS];omega,by rw[a];omega,y,by rw[List.getElem?_cons_succ];exact b,c⟩
theorem A9g (hs:A4W h) {s t:ByteArray} (e:CJ s t=true) (h1:0<=A9 h s) (n:0<=A9 h t):A9 h s<A9 h t:=by
 obtain⟨i,f,p,x,g,r⟩:=MH s h.2 0 h1;obtain⟨j,k,u,y,b,v⟩:=MH t h.2 0 n;have ex:x.1.toList=s.toList:=AAc.1 r;have c:y.1.toList=t.toList:=AAc.1 v;have d:=GL.1 e;unfold A9;rw[p,u];by_cases w:i<j
 .omega
 exfalso;by_cases o:i=j
 .subst o;rw[g]at b;injection b with b
  subst b;rw[ex]at c;rw[c]at d;exact List.lt_irrefl _ d
 have a:=oR.1 hs j i k f O1;have l:h.2[i]=x:=by have:=AT f;rw[g]at this;injection this with q;exact q.symm
 have m:h.2[j]=y:=by have:=AT k;rw[b]at this;injection this with q;exact q.symm
 rw[l,m]at a;have a:=GL.1 a;rw[ex,c]at a;exact List.lt_irrefl _ (List.lt_trans a d)
theorem WN (s:ByteArray):∀(l:List EU) (k:Nat),0<=YD s k l->∃i,i<l.length/\YD s k l=((k+i:Nat):Int)/\∃x,l[i]?=some x/\AM x.1 s=true
 | [],k,h=>absurd h (by unfold YD;decide)
 | x :: l,k,h=>by
  unfold YD at h ⊢;split
  .rename_i e;exact⟨0,by simp,by omega,x,rfl,e⟩
  rename_i e;rw[As e]at h;obtain⟨i,h1,a,y,b,c⟩:=WN s l (k+1) h;exact⟨i+1,by simp only[IS];omega,by rw[a];omega,y,by rw[List.getElem?_cons_succ];exact b,c⟩
theorem A9h {s t:ByteArray} (e:AM s t=false) (h1:0<=Ae h s):Ae h s≠Ae h t:=λq=>by
 obtain⟨i,m,c,x,d,f⟩:=WN s h.1 0 h1;obtain⟨j,n,g,y,a,k⟩:=WN t h.1 0 (show 0<=Ae h t by rw[<-q];exact h1);have l:((0+i:Nat):Int)=((0+j:Nat):Int):=c.symm.trans (q.trans g);have:i=j:=by omega
 subst this;rw[d]at a;injection a with a
 subst a;have ex:x.1.toList=s.toList:=AAc.1 f;have b:x.1.toList=t.toList:=AAc.1 k;have:AM s t=true:=by
  unfold AM;rw[<-ex,<-b];exact beq_self_eq_true _
 rw[e]at this;cases this
structure LOk (h:AE):Prop where
 lw:SX h=true
 srt:A4W h
theorem LOk.ne (l:LOk h):(EF h).list≠(EF h).null:=A9h (by decide +kernel) (A0Q l.lw).2.2.2.1
theorem LOk.rng (l:LOk h):((EF h).list<(h.1.length:Int)/\(EF h).cons<(h.1.length:Int)/\(EF h).null<(h.1.length:Int)/\(EF h).dlist<(h.1.length:Int))/\(EF h).first<(h.2.length:Int)/\(EF h).rest<(h.2.length:Int)/\(EF h).head<(h.2.length:Int)/\(EF h).last<(h.2.length:Int) :=
 ⟨⟨(DI h _).2,(DI h _).2,(DI h _).2,(DI h _).2⟩,(GP h _).2,(GP h _).2,(GP h _).2,(GP h _).2⟩
theorem LOk.sub (l:LOk h):Aa h (EF h).list (EF h).cons=true/\Aa h (EF h).list (EF h).null=true:=by
 have e:=l.lw;unfold SX at e;rw[An,An]at e;exact⟨e.1.2,e.2⟩
theorem A1O {all:List ByteArray} {l:List FV}:∀ {r:List FV} {k:Nat},o5 all l k r=0->∀y∈r,BM y.1 true=true
 | [],_,_,y,a=>by cases a
 | x :: r,k,h,y,a=>by
  simp only[o5]at h;split at h
  .cases h
  rename_i h0;split at h
  .cases h
  split at h
  .cases h
  rcases DO.1 a with rfl|a
  .simpa using h0
  exact A1O h y a
theorem qR {all:List ByteArray}:∀ {l:List AJ},Uz all l=0->∀x∈l,∀y∈x.2.2,BM y.1 true=true
 | [],_,x,a=>by cases a
 | z :: l,h,x,a=>by
  simp only[Uz]at h;split at h
  .rename_i h1;exact absurd h h1
  rename_i h1;rcases DO.1 a with rfl|a
  .exact A1O (GO h1)
  exact qR h x a
theorem Yf:∀(l:List (ByteArray×ByteArray)) (o:List ByteArray),∀s∈l.foldl JJ o,s∈o\/∃y∈l,y.1=s
 | [],o,s,h=>.inl h
 | x :: l,o,s,h=>by
  rcases Yf l _ s h with h|⟨y,a,e⟩
  .rcases Fa h with h|h
   .exact .inl h
   exact .inr ⟨x,iT,h.symm⟩
  exact .inr ⟨y,IF _ a,e⟩
theorem WO:∀(l:List AJ) (o:List ByteArray),∀s∈l.foldl It o,s∈o\/∃x∈l,∃y∈x.2.2,y.1=s
 | [],o,s,h=>.inl h
 | x :: l,o,s,h=>by
  rcases WO l _ s h with h|⟨z,b,y,a,e⟩
  .rcases Yf x.2.2 o s h with h|⟨y,a,e⟩
   .exact .inl h
   exact .inr ⟨x,iT,y,a,e⟩
  exact .inr ⟨z,IF _ b,y,a,e⟩
def A9i (h:AE):Prop:=∀x∈h.2,BM x.1 true=true
theorem mY (d:List AJ):A9i (Ab d).1:=by
 by_cases a:Am d=0
 .rw[KQ a];obtain⟨-,-,c,-,-⟩:=Vr a;intro x b;rw[L6 a]at b;obtain⟨s,hs,rfl⟩:=IN.1 b;rcases WO d [] s hs with h|⟨z,g,y,f,e⟩
  .cases h
  show BM s true=true;rw[<-e];exact qR c z g y f
 have:(Ab d).1=([],[]):=by
  unfold Ab A4;rw[BY a,BY a]
 rw[this];exact λx b=>by cases b
section
attribute [local go_sem] Pr JV Kw Kh My Jc Iu NH
def H2 (h:AE) (a:List AD):List (Nat×Obj) :=
 [(1,.box 98 true [.p FK h,.ag [.sr 2 Md 0 a.length]]),(2,.nest 57 59 T3 C7 a none)]
def Dz (a:List AD) (n e m:Int):List AD:=a.set n.toNat ((a.getD n.toNat (0,[])).1,(a.getD n.toNat (0,[])).2++[(e,m)])
def Iy (h:AE) (a:List AD) (s:ByteArray):List AD:=a++[(Ae h s,[])]
theorem Gj (h:AE) (a:List AD) (g:a.length<=100000) (s:ByteArray):A5 Tryz.prog 46 [.bp 1 [] 0,.p T9 s] (H2 h a) [1]
  (λres f=>res=.p T3 (a.length:Int)/\f=H2 h (Iy h a s)):=by
 refine Ix [0,1,4] [] [(18,59)] Tryz.func46 Tryz.ntmps46 (AF Ps AH) ?_;intro w0 K O0 ρ0 b i j;simp only[Ai,H2];repeat'(first|exact trivial|apply eS rfl|apply AB|refine rP b ?_ ?_|fail)
 refine J3 drawsAny b 15 [([1,2,3,4,5,6,7,8,9,10,11,12,13],14)] [0] (by kernel_rfl) (mxA ?_ ?_)
 .trivial
 refine mxL b [2,18] ?_ ?_
 .simp only[AO];omega
 refine mxE b ?_ ?_ ?_
 .trivial
 .trivial
 repeat'(first|exact trivial|apply eS rfl|apply AB|refine rX b ?_ ?_|refine rC ?_ ?_<;>intro c<;>try(cases c;done))
 .omega
 have d:a.length+1=(a++[(Ae h s,([]:List (Int×Int)))]).length:=by simp
 have e:(a.length:Int)+1-1=a.length:=by omega
 rw[e,d];refine Ev.ent (σ':=⟨[(4,.p (.int .i64) (a.length:Int))],H2 h (a++[(Ae h s,[])])⟩) ?_ (AC [(1,.nm 1),(2,.nm 2)] rfl rfl ?_ ?_)
 .exact fM b [.tmp 4] (.p T3 (a.length:Int)) eT ⟨rfl,rfl⟩
 .simp only[H2];first|exact eN|refine eM ?_
 first|exact eN|refine eM ?_
attribute [local go_sem] Uc j7 ne_eq not_false_eq_true
theorem Ef (h:AE) (a:List AD) (f:a.length<=100000) (h0:0<=n) (h1:n<(a.length:Int)) (j:(a.getD n.toNat (0,[])).2.length<=100000) (s:ByteArray) (m:Int):A5 Tryz.prog 47 [.bp 1 [] 0,.p T3 n,.p T9 s,.p T3 m] (H2 h a) [1]
  (λres e=>res=.raw (.tuple #[])/\e=H2 h (Dz a n (A9 h s) m)):=by
 refine Ix [0,1,2,3] [31] [] Tryz.func47 Tryz.ntmps47 (AF VZ AH) ?_;intro w0 K O0 ρ0 b g i;simp only[Ai,H2];repeat'(first|exact trivial|apply eS rfl|apply AB|refine rP b ?_ ?_|fail)
 refine J3 drawsAny b 25 [([6,7,8,9,10,11,12,13,14,15,16,17,18,19,20,21,22,23],24)] [0,1,2,3,4,5] (by kernel_rfl) (mxA ?_ ?_)
 .exact⟨h0,h1⟩
 refine mxN b 2 ?_ ?_
 .simp only[AO];dsimp only[Ty.den]at *;omega
 refine mxE b ?_ ?_ ?_
 .trivial
 .exact⟨h0,h1⟩
 repeat'(first|exact trivial|apply eS rfl|apply AB|refine rX b ?_ ?_|refine rC ?_ ?_<;>intro c<;>try(cases c;done))
 have d:a.length=(Dz a n (A9 h s) m).length:=(AAk ..).symm;rw[d];refine Ev.ent (σ':=⟨[],H2 h (Dz a n (A9 h s) m)⟩) ?_ (AC [(1,.nm 1),(2,.nm 2)] rfl rfl ?_ ?_)
 .exact fM b [] (.raw (.tuple #[])) rfl ⟨rfl,rfl⟩
 .simp only[H2];first|exact eN|refine eM ?_
  rfl
 first|exact eN|refine eM ?_
end
section
attribute [local go_sem] H2 Kw Kh My Jc Iu NH
def Jb (K:Nat) (a:List AD):Prop:=∀x∈a,x.2.length<=K
theorem OT (h:AE) (a:List AD) (s:ByteArray):(Iy h a s).length=a.length+1:=by simp[Iy]
theorem A4X {b:List AD} {K:Nat} (hk:Jb K b) (s:ByteArray):Jb K (Iy h b s):=by
 intro x a;rcases Is.1 a with a|a
 .exact hk x a
 rw[oN.1 a];exact By _
theorem aN (a:List AD) (n e m:Int):(Dz a n e m).length=a.length:=AAk ..
theorem iA {a:List AD} {K:Nat} (hk:Jb K a) (n:Int):(a.getD n.toNat (0,[])).2.length<=K:=by
 by_cases h:n.toNat<a.length
 .exact hk _ (AG a (0,[]) h)
 rw[AS,oS O1];exact By _
theorem A4Y {b:List AD} {K:Nat} (hk:Jb K b) (n e m:Int):Jb (K+1) (Dz b n e m):=by
 intro x a;rcases AAV a with a|rfl
 .have:=hk x a;omega
 have:=iA hk n;simp only[Do,nO];omega
def EW (h:AE) (st:List AD×Int×ByteArray) (x:Int):List AD×Int×ByteArray :=
 (Dz (Dz (Iy h st.1 ⟨#[99,111,110,115]⟩) st.2.1 (A9 h st.2.2) (st.1.length:Int)) (st.1.length:Int) (A9 h ⟨#[70,73,82,83,84]⟩) x,(st.1.length:Int),⟨#[82,69,83,84]⟩)
def qS (h:AE) (d:Int) (st:List AD×Int×ByteArray):List AD :=
 Dz (Dz (Iy h st.1 ⟨#[108,105,115,116]⟩) st.2.1 (A9 h st.2.2) (st.1.length:Int)) d (A9 h ⟨#[76,65,83,84]⟩) (st.1.length:Int)
def iB (h:AE) (a:List AD) (l:List Int):List AD:=qS h (a.length:Int) (l.foldl (EW h) (Iy h a ⟨#[100,108,105,115,116]⟩,(a.length:Int),⟨#[76,73,83,84]⟩))
theorem A1P {α β:Type} (g:β->α->β) (l:List α) (d:α) (b:β) {k:Nat} (h:k<l.length):(l.drop k).foldl g b=(l.drop (k+1)).foldl g (g b (l.getD k d)):=by
 rw[OF h,AS,AT h];rfl
theorem A1Q {st:List AD×Int×ByteArray} {L K:Nat} (h1:st.1.length=L) (a:Jb K st.1) (b:0<=st.2.1/\st.2.1<(st.1.length:Int)) (x:Int) :
  (EW h st x).1.length=L+1/\Jb (K+2) (EW h st x).1/\0<=(EW h st x).2.1/\(EW h st x).2.1<((EW h st x).1.length:Int):=by
 refine⟨by simp only[EW,aN,OT,h1],A4Y (A4Y (A4X a _) _ _ _) _ _ _,by simp only[EW];omega,?_⟩;simp only[EW,aN,OT];omega
theorem iC (h:AE) (b:List AD) (I:b.length<=1000) {K:Nat} (y:Jb K b) (G:K<=1000) (l:List Int) (J:l.length<=1000):A5 Tryz.prog 48 [.bp 1 [] 0,.p Br l] (H2 h b) [1]
  (λres E=>res=.p T3 (b.length:Int)/\E=H2 h (iB h b l)):=by
 refine Ix [0,1,4,5,6,7,9,10,11,15,16,17,18] [] [] Tryz.func48 Tryz.ntmps48 AH ?_;intro w0 F O0 ρ0 a L M;have B:iB h b l=qS h (b.length:Int) (l.foldl (EW h) (Iy h b ⟨#[100,108,105,115,116]⟩,(b.length:Int),⟨#[76,73,83,84]⟩)):=rfl;simp only[Ai,H2];repeat'(first|exact trivial|apply eS rfl|apply AB|refine rP a ?_ ?_|fail)
 refine cP 1 a ?_ ?_
 .trivial
 refine rM a (Gj h b O1 ⟨#[100,108,105,115,116]⟩) [(1,.nm 1),(2,.nm 2)] [2] ?_ ?_ ?_
 .first|exact eN|refine eM ?_
 .first|exact eN|refine eM ?_
 rintro _ _ ⟨rfl,rfl⟩;refine⟨[(1,.nm 1),(2,.nm 2)],.p T3 (b.length:Int),H2 h (Iy h b ⟨#[100,108,105,115,116]⟩),rfl,rfl,?_,?_,rfl,rfl,?_⟩
 .first|exact eN|refine eM ?_
 .first|exact eN|refine eM ?_
 simp only[H2];refine rL a ?_ ?_
 .trivial
 repeat'(first|exact trivial|apply eS rfl|apply AB|refine rX a ?_ ?_|refine rC ?_ ?_<;>intro c<;>try(cases c;done))
 have u:=OT h b ⟨#[100,108,105,115,116]⟩;have C:=A4X (h:=h) y ⟨#[100,108,105,115,116]⟩;generalize Iy h b ⟨#[100,108,105,115,116]⟩=s at *;refine AI (ι:={x:Nat×List AD×Int×ByteArray//x.1<=l.length/\(l.drop x.1).foldl (EW h) x.2=l.foldl (EW h) (s,(b.length:Int),⟨#[76,73,83,84]⟩)/\x.2.1.length=b.length+1+x.1/\Jb (K+2*x.1) x.2.1/\0<=x.2.2.1/\x.2.2.1<(x.2.1.length:Int)}) (λx=>⟨[(0,.bp 1 [] 0),(5,.p T3 (b.length:Int)),(6,.p T3 x.1.2.2.1),(7,.p T9 x.1.2.2.2),(15,.p Br l),(16,.p (.int .i64) (l.length:Int)),(17,.p (.int .i64) (x.1.1:Int))],H2 h x.1.2.1⟩) (λx=>l.length-x.1.1) ⟨(0,s,(b.length:Int),⟨#[76,73,83,84]⟩),By _,rfl,by simpa using u,by simpa using C,by simp,by simp only[u];omega⟩ (AC [(1,.nm 1),(2,.nm 2)] rfl rfl ?_ ?_) (λx=>?_)
 .first|exact eN|refine eM ?_
 .first|exact eN|refine eM ?_
 obtain⟨⟨i,Z⟩,hi,k,v,f,g,w⟩:=x;simp only at hi k v f g w;have r:=λq:i<l.length=>A1P (EW h) l 0 Z q;simp only[H2];repeat'(first|exact trivial|apply eS rfl|apply AB|refine rX a ?_ ?_|refine rC ?_ ?_<;>intro c<;>try(cases c;done))
 .exact c
 .have t:i<l.length:=by omega
  have r:=r t;have e:=A1Q (h:=h) v f ⟨g,w⟩ (l.getD i 0);have D:=OT h Z.1 ⟨#[99,111,110,115]⟩;have d:=A4X (h:=h) f ⟨#[99,111,110,115]⟩;refine cP 1 a ?_ ?_
  .trivial
  refine rM a (Gj h Z.1 O1 ⟨#[99,111,110,115]⟩) [(1,.nm 1),(2,.nm 2)] [2] ?_ ?_ ?_
  .first|exact eN|refine eM ?_
  .first|exact eN|refine eM ?_
  rintro _ _ ⟨rfl,rfl⟩;refine⟨[(1,.nm 1),(2,.nm 2)],.p T3 (Z.1.length:Int),H2 h (Iy h Z.1 ⟨#[99,111,110,115]⟩),rfl,rfl,?_,?_,rfl,rfl,?_⟩
  .first|exact eN|refine eM ?_
  .first|exact eN|refine eM ?_
  simp only[H2];refine rL a ?_ ?_
  .trivial
  repeat'(first|exact trivial|apply eS rfl|apply AB|refine rX a ?_ ?_|refine rC ?_ ?_<;>intro c<;>try(cases c;done))
  have m:=iA d Z.2.1;have A:=aN (Iy h Z.1 ⟨#[99,111,110,115]⟩) Z.2.1 (A9 h Z.2.2) (Z.1.length:Int);have j:=A4Y d Z.2.1 (A9 h Z.2.2) (Z.1.length:Int);have o:=iA j (Z.1.length:Int);refine cP 4 a ?_ ?_
  .trivial
  refine rM a (Ef h (Iy h Z.1 ⟨#[99,111,110,115]⟩) O1 g O1 (gO m O1) Z.2.2 (Z.1.length:Int)) [(1,.nm 1),(2,.nm 2)] [2] ?_ ?_ ?_
  .first|exact eN|refine eM ?_
  .first|exact eN|refine eM ?_
  rintro _ _ ⟨rfl,rfl⟩;refine⟨[(1,.nm 1),(2,.nm 2)],.raw (.tuple #[]),H2 h (Dz (Iy h Z.1 ⟨#[99,111,110,115]⟩) Z.2.1 (A9 h Z.2.2) (Z.1.length:Int)),rfl,rfl,?_,?_,rfl,rfl,?_⟩
  .first|exact eN|refine eM ?_
  .first|exact eN|refine eM ?_
  simp only[H2];refine rL a ?_ ?_
  .trivial
  repeat'(first|exact trivial|apply eS rfl|apply AB|refine rX a ?_ ?_|refine rC ?_ ?_<;>intro c<;>try(cases c;done))
  refine cP 3 a ?_ ?_
  .trivial
  refine rM a (Ef h (Dz (Iy h Z.1 ⟨#[99,111,110,115]⟩) Z.2.1 (A9 h Z.2.2) (Z.1.length:Int)) O1 (n:=(Z.1.length:Int)) O1 O1 (gO o O1) ⟨#[70,73,82,83,84]⟩ (l.getD i 0)) [(1,.nm 1),(2,.nm 2)] [2] ?_ ?_ ?_
  .first|exact eN|refine eM ?_
  .first|exact eN|refine eM ?_
  rintro _ _ ⟨rfl,rfl⟩;refine⟨[(1,.nm 1),(2,.nm 2)],.raw (.tuple #[]),H2 h (Dz (Dz (Iy h Z.1 ⟨#[99,111,110,115]⟩) Z.2.1 (A9 h Z.2.2) (Z.1.length:Int)) (Z.1.length:Int) (A9 h ⟨#[70,73,82,83,84]⟩) (l.getD i 0)),rfl,rfl,?_,?_,rfl,rfl,?_⟩
  .first|exact eN|refine eM ?_
  .first|exact eN|refine eM ?_
  simp only[H2];refine rL a ?_ ?_
  .trivial
  repeat'(first|exact trivial|apply eS rfl|apply AB|refine rX a ?_ ?_|refine rC ?_ ?_<;>intro c<;>try(cases c;done))
  .exact eV
  refine⟨⟨(i+1,EW h Z (l.getD i 0)),t,by rw[<-k,r],by simp only;rw[e.1];omega,by have:=e.2.1;rw[show K+2*i+2=K+2*(i+1) by omega]at this;exact this,e.2.2.1,e.2.2.2⟩,by simp only;omega,AC [(1,.nm 1),(2,.nm 2)] rfl rfl ?_ ?_⟩
  .simp only[EW];first|exact eN|refine eM ?_
  simp only[EW];first|exact eN|refine eM ?_
 have H:i=l.length:=by omega
 have z:iB h b l=qS h (b.length:Int) Z:=by rw[B,<-k,NO O1];rfl
 have D:=OT h Z.1 ⟨#[108,105,115,116]⟩;have d:=A4X (h:=h) f ⟨#[108,105,115,116]⟩;refine cP 1 a ?_ ?_
 .trivial
 refine rM a (Gj h Z.1 O1 ⟨#[108,105,115,116]⟩) [(1,.nm 1),(2,.nm 2)] [2] ?_ ?_ ?_
 .first|exact eN|refine eM ?_
 .first|exact eN|refine eM ?_
 rintro _ _ ⟨rfl,rfl⟩;refine⟨[(1,.nm 1),(2,.nm 2)],.p T3 (Z.1.length:Int),H2 h (Iy h Z.1 ⟨#[108,105,115,116]⟩),rfl,rfl,?_,?_,rfl,rfl,?_⟩
 .first|exact eN|refine eM ?_
 .first|exact eN|refine eM ?_
 simp only[H2];refine rL a ?_ ?_
 .trivial
 repeat'(first|exact trivial|apply eS rfl|apply AB|refine rX a ?_ ?_|refine rC ?_ ?_<;>intro c<;>try(cases c;done))
 have m:=iA d Z.2.1;have A:=aN (Iy h Z.1 ⟨#[108,105,115,116]⟩) Z.2.1 (A9 h Z.2.2) (Z.1.length:Int);have j:=A4Y d Z.2.1 (A9 h Z.2.2) (Z.1.length:Int);have o:=iA j (b.length:Int);refine cP 4 a ?_ ?_
 .trivial
 refine rM a (Ef h (Iy h Z.1 ⟨#[108,105,115,116]⟩) O1 g O1 (gO m O1) Z.2.2 (Z.1.length:Int)) [(1,.nm 1),(2,.nm 2)] [2] ?_ ?_ ?_
 .first|exact eN|refine eM ?_
 .first|exact eN|refine eM ?_
 rintro _ _ ⟨rfl,rfl⟩;refine⟨[(1,.nm 1),(2,.nm 2)],.raw (.tuple #[]),H2 h (Dz (Iy h Z.1 ⟨#[108,105,115,116]⟩) Z.2.1 (A9 h Z.2.2) (Z.1.length:Int)),rfl,rfl,?_,?_,rfl,rfl,?_⟩
 .first|exact eN|refine eM ?_
 .first|exact eN|refine eM ?_
 simp only[H2];refine rL a ?_ ?_
 .trivial
 repeat'(first|exact trivial|apply eS rfl|apply AB|refine rX a ?_ ?_|refine rC ?_ ?_<;>intro c<;>try(cases c;done))
 refine cP 3 a ?_ ?_
 .trivial
 refine rM a (Ef h (Dz (Iy h Z.1 ⟨#[108,105,115,116]⟩) Z.2.1 (A9 h Z.2.2) (Z.1.length:Int)) O1 (n:=(b.length:Int)) O1 O1 (gO o O1) ⟨#[76,65,83,84]⟩ (Z.1.length:Int)) [(1,.nm 1),(2,.nm 2)] [2] ?_ ?_ ?_
 .first|exact eN|refine eM ?_
 .first|exact eN|refine eM ?_
 rintro _ _ ⟨rfl,rfl⟩;refine⟨[(1,.nm 1),(2,.nm 2)],.raw (.tuple #[]),H2 h (Dz (Dz (Iy h Z.1 ⟨#[108,105,115,116]⟩) Z.2.1 (A9 h Z.2.2) (Z.1.length:Int)) (b.length:Int) (A9 h ⟨#[76,65,83,84]⟩) (Z.1.length:Int)),rfl,rfl,?_,?_,rfl,rfl,?_⟩
 .first|exact eN|refine eM ?_
 .first|exact eN|refine eM ?_
 simp only[H2];refine rL a ?_ ?_
 .trivial
 repeat'(first|exact trivial|apply eS rfl|apply AB|refine rX a ?_ ?_|refine rC ?_ ?_<;>intro c<;>try(cases c;done))
 rw[z];exact fM a [.tmp 4] (.p T3 (b.length:Int)) eT ⟨rfl,rfl⟩
end
section
attribute [local go_sem] Pr JV NL Kw Kh My Jc Iu NH
def OU (h:AE):List ST->Bool
 | []=>false
 | a :: l=>if A9 h a.1<0 then true else OU h l
def DJ (h:AE):List G8->Int
 | []=>0
 | e :: l=>if Ae h e.1<0 then 5 else if Aa h (Ae h ⟨#[114,101,108]⟩) (Ae h e.1)=false then 13 else if OU h e.2.2=true then 5 else DJ h l
theorem Yg (h:AE) (l:List ST) {k:Nat} (q:k<l.length):OU h (l.drop k)=if A9 h (l.getD k (ByteArray.empty,0)).1<0 then true else OU h (l.drop (k+1)):=by
 rw[OF q,AS,AT q];rfl
theorem Yh (h:AE) (l:List G8) {k:Nat} (q:k<l.length):DJ h (l.drop k)=if Ae h (l.getD k (ByteArray.empty,0,[])).1<0 then 5 else if Aa h (Ae h ⟨#[114,101,108]⟩) (Ae h (l.getD k (ByteArray.empty,0,[])).1)=false then 13 else if OU h (l.getD k (ByteArray.empty,0,[])).2.2=true then 5 else DJ h (l.drop (k+1)):=by
 rw[OF q,AS,AT q];rfl
def aO:AW:={ ins:=[FK,XZ],pre:=λ(h,m,_)=>mV h/\Mz m,out:=λ(h,m,_)=>[.p C6 (DJ h (m:Bj).2.2.2.1)],lend:=true }
theorem vL:AY Tryz.prog 45 aO:=by
 refine fK [0,1,2,3,4,6,7,9,11,12,13,14,22,28,30,31,32,33,40] Tryz.func45 Tryz.ntmps45 (AF Ps (AF VZ (AF Pe AH))) ?_;rintro w0 O0 ⟨h,m,u⟩ j-⟨hs,t⟩;have hs:mV h:=hs;have t:Mz m:=t;have o:(h.1,h.2)=h:=rfl;obtain⟨w,x,v,y⟩:=t;obtain⟨a,b,C,c,qs⟩:=m;simp only at w x v y;simp only[aO,AL];repeat'(first|exact trivial|apply eS rfl|apply AB|refine rX j ?_ ?_|refine rC ?_ ?_<;>intro d<;>try(cases d;done))
 refine AI (ι:={i:Nat//i<=c.length/\DJ h (c.drop i)=DJ h c}) (λi=>⟨[(2,.bp 2 [] 0),(11,.p JE c),(12,.p (.int .i64) (c.length:Int)),(13,.p (.int .i64) (i.1:Int))],[(2,.box 26 true [.p OW h.1,.p QC h.2])]⟩) (λi=>c.length-i.1) ⟨0,By _,rfl⟩ (AC [(2,.nm 2)] rfl rfl ?_ ?_) (λi=>?_)
 .first|exact eN|refine eM ?_
 .first|exact eN|refine eM ?_
 obtain⟨i,hi,l⟩:=i;have g:=λq:i<c.length=>Yh h c q;simp only;repeat'(first|exact trivial|apply eS rfl|apply AB|refine rX j ?_ ?_|refine rC ?_ ?_<;>intro d<;>try(cases d;done))
 all_goals have o:(h.1,h.2)=h:=rfl
 all_goals try simp only[o]at *
 .exact d
 .have e:DJ h c=5:=by rw[<-l,g O1,BY d]
  exact fI j [.tmp 4] (by rw[e];exact eR)
 .exact⟨⟨hs.2.1,Fh h _⟩,d,Fh h _⟩
 .rename_i z A;have e:DJ h c=13:=by rw[<-l,g O1,As O1,BY d]
  exact fI j [.tmp 4] (by rw[e];exact eR)
 .rename_i z A;have g:=g O1;rw[As O1,As (by rw[d];simp)]at g;have B:(c.getD i (ByteArray.empty,0,[])).2.2.length<=100000:=v _ (AG c (ByteArray.empty,0,[]) O1);generalize (c.getD i (ByteArray.empty,0,[])).2.2=f at *;refine AI (ι:={k:Nat//k<=f.length/\OU h (f.drop k)=OU h f}) (λk=>⟨[(2,.bp 2 [] 0),(11,.p JE c),(12,.p (.int .i64) (c.length:Int)),(13,.p (.int .i64) (i:Int)),(30,.p T52 f),(31,.p (.int .i64) (f.length:Int)),(32,.p (.int .i64) (k.1:Int))],[(2,.box 26 true [.p OW h.1,.p QC h.2])]⟩) (λk=>f.length-k.1) ⟨0,By _,rfl⟩ (AC [(2,.nm 2)] rfl rfl ?_ ?_) (λk=>?_)
  .first|exact eN|refine eM ?_
  .first|exact eN|refine eM ?_
  obtain⟨k,hk,s⟩:=k;have n:=λq:k<f.length=>Yg h f q;simp only;repeat'(first|exact trivial|apply eS rfl|apply AB|refine rX j ?_ ?_|refine rC ?_ ?_<;>intro d<;>try(cases d;done))
  all_goals have o:(h.1,h.2)=h:=rfl
  all_goals try simp only[o]at *
  .exact d
  .have r:OU h f=true:=by rw[<-s,n O1,BY d]
   have e:DJ h c=5:=by rw[<-l,g,BY r]
   exact fI j [.tmp 4] (by rw[e];exact eR)
  .exact eV
  .have n:=n O1;rw[As O1]at n;refine⟨⟨k+1,by omega,by rw[<-s,n]⟩,by simp only;omega,AC [(2,.nm 2)] rfl rfl ?_ ?_⟩
   .first|exact eN|refine eM ?_
   first|exact eN|refine eM ?_
  .exact eV
  have r:OU h f=false:=by rw[<-s,NO O1];rfl
  rw[As (by rw[r];simp)]at g;refine⟨⟨i+1,by omega,by rw[<-l,g]⟩,by simp only;omega,AC [(2,.nm 2)] rfl rfl ?_ ?_⟩
  .first|exact eN|refine eM ?_
  first|exact eN|refine eM ?_
 have e:DJ h c=0:=by rw[<-l,NO (AAe.1 d)];rfl
 exact fI j [.tmp 4] (by rw[e];exact eR)
end
section
attribute [local go_sem] NQ JV gU Kw Kh My Jc Iu NH
def aP:AW:={ ins:=[FK,T9,T3],pre:=λ_=>True,out:=λ(h,s,m,_)=>[.p C7 (A9 h s,m)] }
theorem iD:AY Tryz.prog 54 aP:=by
 refine fK [0,1,2,3,6] Tryz.func54 Tryz.ntmps54 (AF A0R AH) ?_;rintro w0 O0 ⟨h,s,m,u⟩ a - -;have c:(h.1,h.2)=h:=rfl;simp only[aP,AL];repeat'(first|exact trivial|apply eS rfl|apply AB|refine rX a ?_ ?_|refine rC ?_ ?_<;>intro b<;>try(cases b;done))
 all_goals try simp only[c]at *
 exact fI a [.cell 6 59]
def MJ (h:AE) (v:ByteArray):Int:=if AM v ⟨#[104]⟩=true then Ae h ⟨#[104,97,110,100,108,101]⟩ else if AM v ⟨#[101]⟩=true then Ae h ⟨#[101,118,101,110,116]⟩ else if AM v ⟨#[120]⟩=true then Ae h ⟨#[101,110,116,105,116,121]⟩ else Ae h ⟨#[105,110,100,101,120]⟩
def aQ:AW:={ ins:=[FK,T9],pre:=λ_=>True,out:=λ(h,v,_)=>[.p T3 (MJ h v)] }
theorem vM:AY Tryz.prog 56 aQ:=by
 refine fK [0,1,2,4,5,6,10,14] Tryz.func56 Tryz.ntmps56 (AF Mm AH) ?_;rintro w0 O0 ⟨h,v,u⟩ b - -;have f:(h.1,h.2)=h:=rfl;simp only[aQ,AL];repeat'(first|exact trivial|apply eS rfl|apply AB|refine rX b ?_ ?_|refine rC ?_ ?_<;>intro a<;>try(cases a;done))
 all_goals try simp only[f]at *
 .have e:MJ h v=Ae h ⟨#[104,97,110,100,108,101]⟩:=BY a;exact fI b [.tmp 4] (by rw[e];exact eR)
 .rename_i c;have e:MJ h v=Ae h ⟨#[101,118,101,110,116]⟩:=(As (by rw[c];simp)).trans (BY a);exact fI b [.tmp 4] (by rw[e];exact eR)
 .rename_i c d;have e:MJ h v=Ae h ⟨#[101,110,116,105,116,121]⟩:=(As (by rw[c];simp)).trans ((As (by rw[d];simp)).trans (BY a));exact fI b [.tmp 4] (by rw[e];exact eR)
 rename_i c d;have e:MJ h v=Ae h ⟨#[105,110,100,101,120]⟩:=(As (by rw[c];simp)).trans ((As (by rw[d];simp)).trans (As (by rw[a];simp)));exact fI b [.tmp 4] (by rw[e];exact eR)
def aR:AW:={ ins:=[Fm,Md],pre:=λ(f,_,_)=>List.length f<=100000,out:=λ(f,x,_)=>[.p Fm ((f:List AD)++[(x:AD)])] }
theorem iE:AY Tryz.prog 55 aR:=by
 refine fKP [0,1,2,3,4,5,6,12] [22,28] [] Tryz.func55 Tryz.ntmps55 AH ?_;rintro w0 O0 ⟨f,x,u⟩ a-hf;have hf:f.length<=100000:=hf;simp only[aR,AL];repeat'(first|exact trivial|apply eS rfl|apply AB|refine rX a ?_ ?_|refine rC ?_ ?_<;>intro b<;>try(cases b;done))
 refine AI (ι:={i:Nat//i<=f.length}) (λi=>⟨[(2,.bp 2 [] 0),(3,.bp 3 [] 0),(4,.bp 4 [] 0),(5,.bp 5 [] 0),(6,.p (.int .i64) (i.1:Int))],[(5,.box 34 true [.sr 23 Md 0 (f.take i.1).length]),(23,.arr 57 Md (f.take i.1)),(4,.box 34 true [.raw (.slice none 0 0)]),(3,.box 57 true [.p T3 x.1,.p Mx x.2]),(2,.box 34 true [.p JD f])]⟩) (λi=>f.length-i.1) ⟨0,By _⟩ (AC [(2,.nm 2),(3,.nm 3),(4,.nm 4),(5,.nm 5),(23,.nil)] rfl rfl ?_ ?_) (λi=>?_)
 .first|exact eN|refine eM ?_
 .first|exact eN|refine eM ?_
 obtain⟨i,hi⟩:=i;have g:(f.take i).length=i:=by rw[OR];omega
 simp only;repeat'(first|exact trivial|apply eS rfl|apply AB|refine rP a ?_ ?_|fail)
 refine rC ?_ ?_<;>intro b
 .have c:i<f.length:=by exact eV
  repeat'(first|exact trivial|apply eS rfl|apply AB|refine rP a ?_ ?_|fail)
  refine J3 drawsAny a 9 [([0,1,2,3,4,5,6,7],8)] [] (by kernel_rfl) (mxA ?_ ?_)
  .exact b
  refine mxL a [23] ?_ ?_
  .simp only[AO];omega
  refine mxE a ?_ ?_ ?_
  .trivial
  .trivial
  repeat'(first|exact trivial|apply eS rfl|apply AB|refine rX a ?_ ?_|refine rC ?_ ?_<;>intro b<;>try(cases b;done))
  .exact eV
  have e:f.take (i+1)=f.take i++[f.getD i (0,[])]:=by rw[AC5,AT c,AS,AT c];rfl
  refine⟨⟨i+1,c⟩,by simp only;omega,AC [(2,.nm 2),(3,.nm 3),(4,.nm 4),(5,.nm 5),(23,.nm 23)] rfl rfl ?_ ?_⟩
  .simp only[e];first|exact eN|refine eM ?_
  first|exact eN|refine eM ?_
 repeat'(first|exact trivial|apply eS rfl|apply AB|refine rX a ?_ ?_|refine rC ?_ ?_<;>intro b<;>try(cases b;done))
 .simp only[AO];omega
 have d:f.take i=f:=At (AAe.1 b);rw[d];refine CK [23] ?_;exact fI a [.cell 4 34] (by first|exact eR|refine Kv ?_;rfl)
end
section
attribute [local go_sem] NQ JV aP aR Kw Kh My Jc Iu NH
def chS (h:AE) (x:Int) (st:List AD×Int):List AD×Int:=(st.1++[(Ae h ⟨#[99,111,110,115]⟩,[(A9 h ⟨#[70,73,82,83,84]⟩,x),(A9 h ⟨#[82,69,83,84]⟩,st.2)])],(st.1.length:Int))
def mZ (h:AE) (f:List AD) (l:List Int):List AD×Int:=l.foldr (chS h) (f++[(Ae h ⟨#[108,105,115,116]⟩,[])],(f.length:Int))
def H3 (h:AE) (f:List AD) (l:List Int):List AD×Int :=
 ((mZ h f l).1++[(Ae h ⟨#[100,108,105,115,116]⟩,[(A9 h ⟨#[76,73,83,84]⟩,(mZ h f l).2),(A9 h ⟨#[76,65,83,84]⟩,(f.length:Int))])],((mZ h f l).1.length:Int))
def WP:AW:={ ins:=[FK,Fm,Br],pre:=λ(_,f,l,_)=>List.length f<=10000/\List.length l<=10000,out:=λ(h,f,l,_)=>[.p Fm (H3 h f l).1,.p T3 (H3 h f l).2] }
theorem vN {α β:Type} (g:α->β->β) (l:List α) (d:α) (b:β) {k:Nat} (h:k<l.length):(l.take (k+1)).foldr g b=(l.take k).foldr g (g (l.getD k d) b):=by
 rw[AC5,AT h,List.foldr_append,AS,AT h];rfl
theorem m3:AY Tryz.prog 57 WP:=by
 refine fKP [0,1,2,3,4,6,7,8,9,10,11,12,26] [40,48,65,73] [] Tryz.func57 Tryz.ntmps57 (AF Mm (AF iD (AF iE AH))) ?_;rintro w0 O0 ⟨h,f,l,u⟩ a-⟨hf,g⟩;have hf:f.length<=10000:=hf;have g:l.length<=10000:=g;have c:(h.1,h.2)=h:=rfl;simp only[WP,AL];repeat'(first|exact trivial|apply eS rfl|apply AB|refine rX a ?_ ?_|refine rC ?_ ?_<;>intro b<;>try(cases b;done))
 .omega
 .omega
 simp only[c];refine AI (ι:={x:Nat×List AD×Int//x.1<=l.length/\(l.take x.1).foldr (chS h) x.2=mZ h f l/\x.2.1.length+x.1=f.length+1+l.length}) (λx=>⟨[(2,.p Br l),(3,.bp 3 [] 0),(4,.bp 4 [] 0),(6,.bp 6 [] 0),(8,.p T3 (f.length:Int)),(9,.p T3 x.1.2.2),(10,.p (.int .i64) ((x.1.1:Int)-1))],[(4,.box 34 true [.p JD x.1.2.1]),(6,.box 34 true [.raw (.slice none 0 0)]),(3,.box 26 true [.p OW h.1,.p QC h.2])]⟩) (λx=>x.1.1) ⟨(l.length,f++[(Ae h ⟨#[108,105,115,116]⟩,[])],(f.length:Int)),Of _,by rw[oF];rfl,by simp⟩ (AC [(3,.nm 3),(4,.nm 4),(6,.nm 6)] rfl rfl ?_ ?_) (λx=>?_)
 .first|exact eN|refine eM ?_
 .first|exact eN|refine eM ?_
 obtain⟨⟨i,Z⟩,hi,d,q⟩:=x;simp only at hi d q;simp only;repeat'(first|exact trivial|apply eS rfl|apply AB|refine rX a ?_ ?_|refine rC ?_ ?_<;>intro b<;>try(cases b;done))
 .dsimp only[Ty.den]at *;exact⟨⟨b,by omega⟩,by decide⟩
 .decide
 .refine CK [41] ?_;simp only[c];repeat'(first|exact trivial|apply eS rfl|apply AB|refine rX a ?_ ?_|refine rC ?_ ?_<;>intro b<;>try(cases b;done))
  .omega
  .omega
  obtain⟨j,rfl⟩:∃j,i=j+1:=⟨i-1,by omega⟩;have n:j<l.length:=by omega
  have o:=vN (chS h) l 0 Z n;have k:(((j+1:Nat):Int)-1).toNat=j:=by omega
  have m:((j+1:Nat):Int)-1=(j:Int):=by omega
  rw[k,m];refine⟨⟨(j,chS h (l.getD j 0) Z),by omega,by rw[<-o];exact d,by simp only[chS,Do,nO];omega⟩,by simp only;omega,AC [(3,.nm 3),(4,.nm 4),(6,.nm 6)] rfl rfl ?_ ?_⟩
  .simp only[chS];first|exact eN|refine eM ?_
  simp only[chS];first|exact eN|refine eM ?_
 .decide
 .decide
 refine CK [66] ?_;simp only[c];repeat'(first|exact trivial|apply eS rfl|apply AB|refine rP a ?_ ?_|fail)
 refine J3 drawsAny a 7 [([0,1,2],6)] [3,4,5] (by kernel_rfl) (mxA ?_ ?_)
 .omega
 refine mxL a [] ?_ ?_
 .trivial
 refine mxE a ?_ ?_ ?_
 .trivial
 .trivial
 repeat'(first|exact trivial|apply eS rfl|apply AB|refine rX a ?_ ?_|refine rC ?_ ?_<;>intro b<;>try(cases b;done))
 have s:i=0:=by omega
 subst s;have r:Z=mZ h f l:=d;have e:H3 h f l=(Z.1++[(Ae h ⟨#[100,108,105,115,116]⟩,[(A9 h ⟨#[76,73,83,84]⟩,Z.2),(A9 h ⟨#[76,65,83,84]⟩,(f.length:Int))])],(Z.1.length:Int)):=by unfold H3;rw[<-r]
 exact fI a [.cell 6 34,.tmp 7] (by rw[e];first|exact eR|refine Kv ?_;rfl)
end
section
attribute [local go_sem] NQ JV gU Kw Kh My Jc Iu NH
theorem iG (hs:mV h) (t:Int):OP h ⟨#[114,101,108]⟩ t=Aa h (Ae h ⟨#[114,101,108]⟩) t:=by
 unfold OP;rw[AB0 hs.2.1,ABY]
def aU:AW:={ ins:=[FK,XZ],pre:=λ(h,m,_)=>mV h/\Fd h/\Mz m,out:=λ(h,m,_)=>[.p C6 (DJ h (m:Bj).2.2.2.1)],lend:=true }
theorem vO:AY Tryz.prog 53 aU:=by
 refine fK [0,1,2,3,4,5,6,7,12,24,28,37,52] Tryz.func53 Tryz.ntmps53 (AF Mm (AF A0R (AF A7x AH))) ?_;rintro w0 O0 ⟨h,m,u⟩ g-⟨hs,hk,t⟩;have hs:mV h:=hs;have hk:Fd h:=hk;have t:Mz m:=t;have n:(h.1,h.2)=h:=rfl;obtain⟨z,A,v,B⟩:=t;obtain⟨a,b,y,c,qs⟩:=m;simp only at z A v B;simp only[aU,AL];repeat'(first|exact trivial|apply eS rfl|apply AB|refine rX g ?_ ?_|refine rC ?_ ?_<;>intro d<;>try(cases d;done))
 refine AI (ι:={i:Nat//i<=c.length/\DJ h (c.drop i)=DJ h c}) (λi=>⟨[(2,.bp 2 [] 0),(3,.bp 3 [] 0),(5,.p (.int .i64) (i.1:Int))],[(3,.box 41 true [.p T3 a,.p T3 b,.p CL y,.p JE c,.p Ke qs]),(2,.box 26 true [.p OW h.1,.p QC h.2])]⟩) (λi=>c.length-i.1) ⟨0,By _,rfl⟩ (AC [(2,.nm 2),(3,.nm 3)] rfl rfl ?_ ?_) (λi=>?_)
 .first|exact eN|refine eM ?_
 .first|exact eN|refine eM ?_
 obtain⟨i,hi,j⟩:=i;have f:=λq:i<c.length=>Yh h c q;simp only;repeat'(first|exact trivial|apply eS rfl|apply AB|refine rX g ?_ ?_|refine rC ?_ ?_<;>intro d<;>try(cases d;done))
 all_goals have n:(h.1,h.2)=h:=rfl
 all_goals try simp only[n]at *
 .exact d
 .have e:DJ h c=5:=by rw[<-j,f O1,BY d]
  exact fI g [.tmp 4] (by rw[e];exact eR)
 .exact⟨hk,d,Fh h _⟩
 .rename_i w x;rw[iG hs]at d;have e:DJ h c=13:=by rw[<-j,f O1,As O1,BY d]
  exact fI g [.tmp 4] (by rw[e];exact eR)
 .rename_i w x;rw[iG hs]at d;have s:i<c.length:=by omega
  have f:=f s;rw[As O1,As (by rw[d];simp)]at f;have D:(c.getD i (ByteArray.empty,0,[])).2.2.length<=100000:=v _ (AG c (ByteArray.empty,0,[]) s);clear d x w;refine AI (ι:={k:Nat//k<=(c.getD i (ByteArray.empty,0,[])).2.2.length/\OU h ((c.getD i (ByteArray.empty,0,[])).2.2.drop k)=OU h (c.getD i (ByteArray.empty,0,[])).2.2}) (λk=>⟨[(2,.bp 2 [] 0),(3,.bp 3 [] 0),(5,.p (.int .i64) (i:Int)),(7,.p (.int .i64) (k.1:Int))],[(3,.box 41 true [.p T3 a,.p T3 b,.p CL y,.p JE c,.p Ke qs]),(2,.box 26 true [.p OW h.1,.p QC h.2])]⟩) (λk=>(c.getD i (ByteArray.empty,0,[])).2.2.length-k.1) ⟨0,By _,rfl⟩ (AC [(2,.nm 2),(3,.nm 3)] rfl rfl ?_ ?_) (λk=>?_)
  .first|exact eN|refine eM ?_
  .first|exact eN|refine eM ?_
  obtain⟨k,C,r⟩:=k;have l:=λq:k<(c.getD i (ByteArray.empty,0,[])).2.2.length=>Yg h (c.getD i (ByteArray.empty,0,[])).2.2 q;simp only;repeat'(first|exact trivial|apply eS rfl|apply AB|refine rX g ?_ ?_|refine rC ?_ ?_<;>intro d<;>try(cases d;done))
  all_goals have n:(h.1,h.2)=h:=rfl
  all_goals try simp only[n]at *
  .assumption
  .exact⟨iF.2 s,d⟩
  .have o:OU h (c.getD i (ByteArray.empty,0,[])).2.2=true:=by rw[<-r,l O1,BY d]
   have e:DJ h c=5:=by rw[<-j,f,BY o]
   exact fI g [.tmp 4] (by rw[e];exact eR)
  .exact eV
  .have l:=l O1;rw[As O1]at l;refine⟨⟨k+1,by omega,by rw[<-r,l]⟩,by simp only;omega,AC [(2,.nm 2),(3,.nm 3)] rfl rfl ?_ ?_⟩
   .first|exact eN|refine eM ?_
   first|exact eN|refine eM ?_
  .exact eV
  have o:OU h (c.getD i (ByteArray.empty,0,[])).2.2=false:=by rw[<-r,NO (AAe.1 d)];rfl
  rw[As (by rw[o];simp)]at f;refine⟨⟨i+1,by omega,by rw[<-j,f]⟩,by simp only;omega,AC [(2,.nm 2),(3,.nm 3)] rfl rfl ?_ ?_⟩
  .first|exact eN|refine eM ?_
  first|exact eN|refine eM ?_
 have e:DJ h c=0:=by rw[<-j,NO (AAe.1 d)];rfl
 exact fI g [.tmp 4] (by rw[e];exact eR)
end
section
attribute [local go_sem] Kh Iu
def Iw (m:Bj) (n:Int):Bool:=!decide ((n<(m.2.2.2.1.length:Int)\/n<(m.2.2.2.2.length:Int))\/300<(m.2.2.1.length:Int))&&BC (λi=>if 10<((m.2.2.2.1.getD i (ByteArray.empty,0,[])).2.2.length:Int) then some false else none) true m.2.2.2.1.length 0
def P9:AW:={ ins:=[XZ,T3],pre:=λ_=>True,out:=λ(m,n,_)=>[.p .bool (Iw m n)] }
theorem m4:AY Tryz.prog 44 P9:=by
 refine fK [0,1,2,4,5,23,28,38] Tryz.func44 Tryz.ntmps44 AH ?_;rintro w0 O0 ⟨⟨tp,ix,f,a,cs⟩,n,u⟩ c ⟨⟨-,-,-,⟨h,-⟩,-⟩,-⟩ -;simp only[AO]at h;simp only[P9,AL];repeat'(first|exact trivial|apply eS rfl|apply AB|refine rX c ?_ ?_|refine rC ?_ ?_<;>intro b<;>try(cases b;done))
 .have e:Iw (tp,ix,f,a,cs) n=false:=by
   unfold Iw;rw[AB0 (by simpa using b)];rfl
  exact fI c [.tmp 4] (by rw[e];exact eR)
 have e:Iw (tp,ix,f,a,cs) n=BC (λi=>if 10<((a.getD i (ByteArray.empty,0,[])).2.2.length:Int) then some false else none) true a.length 0:=by
  unfold Iw;rw[ACk (by simp only[not_or,AAU];exact b)];rfl
 rw[e];generalize g:BC (λi=>if 10<((a.getD i (ByteArray.empty,0,[])).2.2.length:Int) then some false else none) true a.length 0=S;refine AI (ι:={i:Nat//i<=a.length/\BC (λi=>if 10<((a.getD i (ByteArray.empty,0,[])).2.2.length:Int) then some false else none) true (a.length-i) i=S}) (λi=>⟨[(2,.bp 2 [] 0),(5,.p (.int .i64) (i.1:Int))],[(2,.box 41 true [.p T3 tp,.p T3 ix,.p CL f,.p JE a,.p Ke cs])]⟩) (λi=>a.length-i.1) ⟨0,By _,g⟩ (AC [(2,.nm 2)] rfl rfl ?_ ?_) (λi=>?_)
 .first|exact eN|refine eM ?_
 .first|exact eN|refine eM ?_
 obtain⟨i,hi,d⟩:=i;simp only;repeat'(first|exact trivial|apply eS rfl|apply AB|refine rX c ?_ ?_|refine rC ?_ ?_<;>intro b<;>try(cases b;done))
 .exact b
 .rw[CU d (by exact eV) (BY b)];exact fI c [.tmp 4]
 .omega
 .refine⟨⟨i+1,by exact eV,DB d (by exact eV) (As (AAU.2 b))⟩,by simp only;omega,AC [(2,.nm 2)] rfl rfl ?_ ?_⟩
  .first|exact eN|refine eM ?_
  first|exact eN|refine eM ?_
 rw[Dx d (by exact eV)];exact fI c [.tmp 4]
def eqV (a b:List ByteArray) (i:Nat):Option Bool:=if AM (a.getD i ByteArray.empty) (b.getD i ByteArray.empty)=true then none else some false
def eqA (a b:List ST) (i:Nat):Option Bool:=if (AM (a.getD i (ByteArray.empty,0)).1 (b.getD i (ByteArray.empty,0)).1&&(a.getD i (ByteArray.empty,0)).2==(b.getD i (ByteArray.empty,0)).2)=true then none else some false
def vP (x y:G8):Bool:=AM x.1 y.1&&x.2.1==y.2.1&&decide ((x.2.2.length:Int)=(y.2.2.length:Int))&&BC (eqA x.2.2 y.2.2) true x.2.2.length 0
def eqR (a b:List G8) (i:Nat):Option Bool:=if vP (a.getD i (ByteArray.empty,0,[])) (b.getD i (ByteArray.empty,0,[]))=true then none else some false
def eqQ (a b:List SU) (i:Nat):Option Bool:=if ((a.getD i (0,0)).1==(b.getD i (0,0)).1&&(a.getD i (0,0)).2==(b.getD i (0,0)).2)=true then none else some false
def vQ (a b:Bj):Bool:=a.1==b.1&&a.2.1==b.2.1&&decide ((a.2.2.1.length:Int)=(b.2.2.1.length:Int))&&decide ((a.2.2.2.1.length:Int)=(b.2.2.2.1.length:Int))&&decide ((a.2.2.2.2.length:Int)=(b.2.2.2.2.length:Int))
def Yi (a b:Bj):Bool:=vQ a b&&BC (eqV a.2.2.1 b.2.2.1) true a.2.2.1.length 0&&BC (eqR a.2.2.2.1 b.2.2.2.1) true a.2.2.2.1.length 0&&BC (eqQ a.2.2.2.2 b.2.2.2.2) true a.2.2.2.2.length 0
def A1R:AW:={ ins:=[XZ,XZ],pre:=λ_=>True,out:=λ(a,b,_)=>[.p .bool (Yi a b)] }
theorem A4Z:AY Tryz.prog 17 A1R:=by
 refine fK [0,1,2,3,4,5,6,7,8,9,10,49,54,67,72,105,110,123,128,141] Tryz.func17 Tryz.ntmps17 AH ?_;rintro w0 O0 ⟨⟨tp,ix,f,a,cs⟩,⟨r,o,n,c,m⟩,u⟩ d ⟨⟨-,-,⟨N,-⟩,⟨L,M⟩,⟨K,-⟩⟩,-⟩ -;simp only[AO]at N L K;simp only[A1R,AL];repeat'(first|exact trivial|apply eS rfl|apply AB|refine rX d ?_ ?_|refine rC ?_ ?_<;>intro b<;>try(cases b;done))
 .have e:Yi (tp,ix,f,a,cs) (r,o,n,c,m)=false:=by
   have q:vQ (tp,ix,f,a,cs) (r,o,n,c,m)=false:=by
    cases v:vQ (tp,ix,f,a,cs) (r,o,n,c,m) with
    | false=>rfl
    | true =>
     simp only[vQ,An,AAc,If]at v;obtain⟨⟨⟨⟨s,t⟩,w⟩,y⟩,z⟩:=v;rcases b with (((h|h)|h)|h)|h
     .exact absurd s h
     .exact absurd t h
     .exact absurd w h
     .exact absurd y h
     exact absurd z h
   unfold Yi;rw[q];rfl
  exact fI d [.tmp 4] (by rw[e];exact eR)
 simp only[ABT]at b;obtain⟨⟨⟨⟨s,t⟩,w⟩,y⟩,z⟩:=b;have e:Yi (tp,ix,f,a,cs) (r,o,n,c,m)=(BC (eqV f n) true f.length 0&&BC (eqR a c) true a.length 0&&BC (eqQ cs m) true cs.length 0):=by
  have q:vQ (tp,ix,f,a,cs) (r,o,n,c,m)=true:=by
   simp only[vQ,An,AAc,If];exact⟨⟨⟨⟨s,t⟩,w⟩,y⟩,z⟩
  unfold Yi;rw[q];rfl
 rw[e];clear e s t;generalize D:BC (eqV f n) true f.length 0=V;generalize C:BC (eqR a c) true a.length 0=R;generalize H:BC (eqQ cs m) true cs.length 0=Q;refine AI (ι:={i:Nat//i<=f.length/\BC (eqV f n) true (f.length-i) i=V}) (λi=>⟨[(2,.bp 2 [] 0),(3,.bp 3 [] 0),(5,.p (.int .i64) (i.1:Int))],[(3,.box 41 true [.p T3 r,.p T3 o,.p CL n,.p JE c,.p Ke m]),(2,.box 41 true [.p T3 tp,.p T3 ix,.p CL f,.p JE a,.p Ke cs])]⟩) (λi=>f.length-i.1) ⟨0,By _,D⟩ (AC [(2,.nm 2),(3,.nm 3)] rfl rfl ?_ ?_) (λi=>?_)
 .first|exact eN|refine eM ?_
 .first|exact eN|refine eM ?_
 obtain⟨i,hi,g⟩:=i;simp only;repeat'(first|exact trivial|apply eS rfl|apply AB|refine rX d ?_ ?_|refine rC ?_ ?_<;>intro b<;>try(cases b;done))
 .exact⟨b,by exact eV⟩
 .rw[CU g (by exact eV) (As (by rw[b];simp))];exact fI d [.tmp 4]
 .omega
 .refine⟨⟨i+1,by exact eV,DB g (by exact eV) (BY b)⟩,by simp only;omega,AC [(2,.nm 2),(3,.nm 3)] rfl rfl ?_ ?_⟩
  .first|exact eN|refine eM ?_
  first|exact eN|refine eM ?_
 rw[Dx g (by exact eV)];clear g D;refine AI (ι:={j:Nat//j<=a.length/\BC (eqR a c) true (a.length-j) j=R}) (λj=>⟨[(2,.bp 2 [] 0),(3,.bp 3 [] 0),(6,.p (.int .i64) (j.1:Int))],[(3,.box 41 true [.p T3 r,.p T3 o,.p CL n,.p JE c,.p Ke m]),(2,.box 41 true [.p T3 tp,.p T3 ix,.p CL f,.p JE a,.p Ke cs])]⟩) (λj=>a.length-j.1) ⟨0,By _,C⟩ (AC [(2,.nm 2),(3,.nm 3)] rfl rfl ?_ ?_) (λj=>?_)
 .first|exact eN|refine eM ?_
 .first|exact eN|refine eM ?_
 obtain⟨j,S,g⟩:=j;simp only;repeat'(first|exact trivial|apply eS rfl|apply AB|refine rX d ?_ ?_|refine rC ?_ ?_<;>intro b<;>try(cases b;done))
 .exact b
 .exact eV
 .have q:vP (a.getD j (ByteArray.empty,0,[])) (c.getD j (ByteArray.empty,0,[]))=false:=by
   cases v:vP (a.getD j (ByteArray.empty,0,[])) (c.getD j (ByteArray.empty,0,[])) with
   | false=>rfl
   | true =>
    simp only[vP,An,AAc,If]at v;obtain⟨⟨⟨s,t⟩,w⟩,-⟩:=v;rcases b with (h|h)|h
    .rw[s]at h;cases h
    .exact absurd t h
    exact absurd w h
  rw[CU g (by exact eV) (As (by rw[q];simp))];exact fI d [.tmp 4]
 .have J:j<a.length:=by exact eV
  have I:(a.getD j (ByteArray.empty,0,[])).2.2.length<=AO:=(M _ (AG a (ByteArray.empty,0,[]) J)).2.2.1;simp only[AO]at I;obtain⟨⟨O,P⟩,B⟩:=b;have q:vP (a.getD j (ByteArray.empty,0,[])) (c.getD j (ByteArray.empty,0,[]))=BC (eqA (a.getD j (ByteArray.empty,0,[])).2.2 (c.getD j (ByteArray.empty,0,[])).2.2) true (a.getD j (ByteArray.empty,0,[])).2.2.length 0:=by
   unfold vP;rw[O,AAc.2 (ABT.1 P),AB0 (ABT.1 B)];rfl
  have B:=ABT.1 B;generalize E:BC (eqA (a.getD j (ByteArray.empty,0,[])).2.2 (c.getD j (ByteArray.empty,0,[])).2.2) true (a.getD j (ByteArray.empty,0,[])).2.2.length 0=A at q;refine AI (ι:={k:Nat//k<=(a.getD j (ByteArray.empty,0,[])).2.2.length/\BC (eqA (a.getD j (ByteArray.empty,0,[])).2.2 (c.getD j (ByteArray.empty,0,[])).2.2) true ((a.getD j (ByteArray.empty,0,[])).2.2.length-k) k=A}) (λk=>⟨[(2,.bp 2 [] 0),(3,.bp 3 [] 0),(6,.p (.int .i64) (j:Int)),(7,.bp 7 [] 0),(8,.bp 8 [] 0),(9,.p (.int .i64) (k.1:Int))],[(8,.box 54 true [.p T9 (c.getD j (ByteArray.empty,0,[])).1,.p T3 (c.getD j (ByteArray.empty,0,[])).2.1,.p T52 (c.getD j (ByteArray.empty,0,[])).2.2]),(7,.box 54 true [.p T9 (a.getD j (ByteArray.empty,0,[])).1,.p T3 (a.getD j (ByteArray.empty,0,[])).2.1,.p T52 (a.getD j (ByteArray.empty,0,[])).2.2]),(3,.box 41 true [.p T3 r,.p T3 o,.p CL n,.p JE c,.p Ke m]),(2,.box 41 true [.p T3 tp,.p T3 ix,.p CL f,.p JE a,.p Ke cs])]⟩) (λk=>(a.getD j (ByteArray.empty,0,[])).2.2.length-k.1) ⟨0,By _,E⟩ (AC [(2,.nm 2),(3,.nm 3),(7,.nm 7),(8,.nm 8)] rfl rfl ?_ ?_) (λk=>?_)
  .first|exact eN|refine eM ?_
  .first|exact eN|refine eM ?_
  obtain⟨k,hk,x⟩:=k;simp only;repeat'(first|exact trivial|apply eS rfl|apply AB|refine rX d ?_ ?_|refine rC ?_ ?_<;>intro b<;>try(cases b;done))
  .refine cD 10 d ?_ ?_
   .exact⟨b,by exact eV⟩
   refine A8A (j:=.i64) d (by kernel_rfl) ?_;refine rL d ?_ ?_
   .trivial
   repeat'(first|exact trivial|apply eS rfl|apply AB|refine rX d ?_ ?_|refine rC ?_ ?_<;>intro b<;>try(cases b;done))
   .have F:=CU x (by exact eV) (As (by simp only[An,AAc];exact λh=>b h.1 h.2));rw[CU g (by exact eV) (As (by rw[q,F];simp))];exact fI d [.tmp 4]
   .exact eV
   refine⟨⟨k+1,by exact eV,DB x (by exact eV) (BY (by simp only[An,AAc];exact b))⟩,by simp only;omega,AC [(2,.nm 2),(3,.nm 3),(7,.nm 7),(8,.nm 8)] rfl rfl ?_ ?_⟩
   .first|exact eN|refine eM ?_
   first|exact eN|refine eM ?_
  .omega
  have G:=Dx x (by exact eV);refine⟨⟨j+1,by exact eV,DB g (by exact eV) (BY (q.trans G))⟩,by simp only;omega,AC [(2,.nm 2),(3,.nm 3)] rfl rfl ?_ ?_⟩
  .first|exact eN|refine eM ?_
  first|exact eN|refine eM ?_
 rw[Dx g (by exact eV)];clear g C;refine AI (ι:={l:Nat//l<=cs.length/\BC (eqQ cs m) true (cs.length-l) l=Q}) (λl=>⟨[(2,.bp 2 [] 0),(3,.bp 3 [] 0),(10,.p (.int .i64) (l.1:Int))],[(3,.box 41 true [.p T3 r,.p T3 o,.p CL n,.p JE c,.p Ke m]),(2,.box 41 true [.p T3 tp,.p T3 ix,.p CL f,.p JE a,.p Ke cs])]⟩) (λl=>cs.length-l.1) ⟨0,By _,H⟩ (AC [(2,.nm 2),(3,.nm 3)] rfl rfl ?_ ?_) (λl=>?_)
 .first|exact eN|refine eM ?_
 .first|exact eN|refine eM ?_
 obtain⟨l,T,g⟩:=l;simp only;repeat'(first|exact trivial|apply eS rfl|apply AB|refine rX d ?_ ?_|refine rC ?_ ?_<;>intro b<;>try(cases b;done))
 .refine cD 10 d ?_ ?_
  .exact⟨b,by exact eV⟩
  refine A8B d ?_;refine rL d ?_ ?_
  .trivial
  repeat'(first|exact trivial|apply eS rfl|apply AB|refine rX d ?_ ?_|refine rC ?_ ?_<;>intro b<;>try(cases b;done))
  .rw[CU g (by exact eV) (As (by simp only[An,AAc];exact λh=>b h.1 h.2))];exact fI d [.tmp 4]
  .omega
  refine⟨⟨l+1,by exact eV,DB g (by exact eV) (BY (by simp only[An,AAc];exact b))⟩,by simp only;omega,AC [(2,.nm 2),(3,.nm 3)] rfl rfl ?_ ?_⟩
  .first|exact eN|refine eM ?_
  first|exact eN|refine eM ?_
 rw[Dx g (by exact eV)];exact fI d [.tmp 4]
end
section
attribute [local go_sem] P9 Qm Fb Hs Kw Kh My Jc Iu NH
def aV (m:Bj):Bool:=Iw m 4&&(N3 m==0)
theorem A1S (h:Iw m 4=true):m.2.2.2.1.length<=4/\m.2.2.2.2.length<=4/\m.2.2.1.length<=300/\∀e∈m.2.2.2.1,e.2.2.length<=10:=by
 unfold Iw at h;simp only[An,bY,TO]at h;refine⟨by omega,by omega,by omega,λe b=>?_⟩;obtain⟨j,c,rfl⟩:=AAq.1 b;have h1:=JN (λi r a=>by split at a<;>cases a;simp) _ 0 h.2 j (By _) O1;split at h1
 .cases h1
 rename_i q;simp only[AS,AT c,ABE]at q;omega
theorem A7D (h:Iw m 4=true):Mz m:=by
 obtain⟨h1,c,-,a⟩:=A1S h;exact⟨trivial,by omega,λe b=>by have:=a e b;omega,by omega⟩
def m5:AW:={ ins:=[XZ],pre:=λ_=>True,out:=λ(m,_)=>[.p .bool (aV m)] }
theorem A1T:AY Tryz.prog 18 m5:=by
 refine fK [0,1,2] Tryz.func18 Tryz.ntmps18 (AF m4 (AF d6 AH)) ?_;rintro w0 O0 ⟨m,u⟩ a - -;have c:aV m=(Iw (m.1,m.2.1,m.2.2.1,m.2.2.2.1,m.2.2.2.2) 4&&(N3 (m.1,m.2.1,m.2.2.1,m.2.2.2.1,m.2.2.2.2)==0)):=rfl;simp only[m5,AL];repeat'(first|exact trivial|apply eS rfl|apply AB|refine rX a ?_ ?_|refine rC ?_ ?_<;>intro b<;>try(cases b;done))
 .exact λq=>A7D q
 exact fI a [.tmp 2] (by rw[c];exact eR)
end
section
attribute [local go_sem] P9 Qm Fb o6 Kw Kh My Jc Iu NH
theorem A1U:A5 Tryz.prog 29 [] [] [] (λres c=>res=.sr 20 yG 0 Bm.length/\c=[(20,.arr 65 yG Bm)]):=by
 refine Ix [0] [3,6,12,14,16,18] [] Tryz.func29 Tryz.ntmps29 (AF o7 AH) ?_;intro w0 K O0 ρ0 a d e;simp only[Ai];repeat'(first|exact trivial|apply eS rfl|apply AB|refine rX a ?_ ?_|refine rC ?_ ?_<;>intro b<;>try(cases b;done))
 exact fM a [.tmp 0] (.sr 20 yG 0 13) eT ⟨rfl,rfl⟩
def dcB (d:List AJ) (i:Nat):Bool:=decide (8<((d.getD i (ByteArray.empty,[],[])).2.1.length:Int))||decide (8<((d.getD i (ByteArray.empty,[],[])).2.2.length:Int))
def aW (d:List AJ):Bool:=decide (d.length<=8)&&(List.range d.length).all λi=>!dcB d i
def WQ (d:List AJ):AE×Bool:=if aW d=true then ((Ab (Bm++d)).1,(Ab (Bm++d)).2==0) else (([],[]),false)
def m6:AW:={ ins:=[Et],pre:=λ_=>True,out:=λ(d,_)=>[.p FK (WQ d).1,.p .bool (WQ d).2] }
theorem AA1 {c:Cx} {k:List Ce} {ops:Array Oper} {rest:List Oper} {σ a:St} (l:List Nat) (hk:D3 c R k ops rest a) (h:Cr l σ=a:=by simp only[go_sem,Nat.reduceEqDiff,reduceCtorEq,Nat.reduceAdd,Nat.reduceSub,Nat.reduceMul,Nat.reduceLeDiff,Nat.reduceLT,Int.reduceLE,Int.reduceToNat,Int.reduceNeg,↓reduceIte];rfl):D3 c R k ops rest σ:=A3b hk (ZJ l h λ_ _ h=>h)
theorem A1V:AY Tryz.prog 9 m6:=by
 refine fK [0,2,3,4,5,6,9,12,13,14,31] Tryz.func9 Tryz.ntmps9 (AF U3 AH) ?_;rintro w0 O0 ⟨d,u⟩ a - -;simp only[m6,AL];repeat'(first|exact trivial|apply eS rfl|apply AB|refine rX a ?_ ?_|refine rC ?_ ?_<;>intro b<;>try(cases b;done))
 .have e:WQ d=(([],[]),false):=As (by unfold aW;rw[ACk O1];simp);exact fI a [.cell 2 26,.tmp 3] (by rw[e];first|exact eR|refine Kv ?_;rfl)
 refine AI (ι:={i:Nat//i<=d.length/\∀j,j<i->dcB d j=false}) (λi=>⟨[(0,.p Et d),(2,.bp 2 [] 0),(12,.p (.int .i64) (d.length:Int)),(13,.p (.int .i64) (i.1:Int))],[(2,.box 26 true [.raw (.slice none 0 0),.raw (.slice none 0 0)])]⟩) (λi=>d.length-i.1) ⟨0,By _,λ_ h=>by omega⟩ (AC [(2,.nm 2)] rfl rfl ?_ ?_) (λi=>?_)
 .first|exact eN|refine eM ?_
 .first|exact eN|refine eM ?_
 obtain⟨i,hi,c⟩:=i;simp only;repeat'(first|exact trivial|apply eS rfl|apply AB|refine rX a ?_ ?_|refine rC ?_ ?_<;>intro b<;>try(cases b;done))
 .exact⟨b,λ_=>b⟩
 .have f:dcB d i=true:=by unfold dcB;rw[vW,If,If];exact b
  have e:WQ d=(([],[]),false):=by
   refine As λq=>?_;unfold aW at q;have:=ON.1 (Bool.and_eq_true_iff.1 q).2 i (tO.2 O1);rw[f]at this;cases this
  exact fI a [.cell 2 26,.tmp 3] (by rw[e];first|exact eR|refine Kv ?_;rfl)
 .exact eV
 .have f:dcB d i=false:=by unfold dcB;rw[AAj,TO,TO];exact⟨AAU.2 b.1,AAU.2 b.2⟩
  refine⟨⟨i+1,by omega,λj g=>?_⟩,by simp only;omega,AC [(2,.nm 2)] rfl rfl ?_ ?_⟩
  .by_cases e:j=i
   .rw[e];exact f
   exact c j O1
  .first|exact eN|refine eM ?_
  first|exact eN|refine eM ?_
 have e:WQ d=((Ab (Bm++d)).1,(Ab (Bm++d)).2==0):=by
  refine BY ?_;unfold aW;rw[An];refine⟨AB0 O1,ON.2 λj g=>?_⟩;rw[tO]at g;rw[c j O1];rfl
 rw[e];have k:=A1U;have l:Bm.length=13:=rfl;clear e c;generalize Bm=p at *;repeat'(first|exact trivial|apply eS rfl|apply AB|refine rP a ?_ ?_|fail)
 refine cP 0 a ?_ ?_
 .trivial
 refine rM a (k) [] [] ?_ ?_ ?_
 .first|exact eN|refine eM ?_
 .first|exact eN|refine eM ?_
 rintro _ _ ⟨rfl,rfl⟩;refine⟨[(20,.nm 20)],.sr 20 yG 0 p.length,[(20,.arr 65 yG p)],rfl,rfl,?_,?_,rfl,rfl,?_⟩
 .first|exact eN|refine eM ?_
 .first|exact eN|refine eM ?_
 refine rN 2 a ?_ ?_
 .have m:d.length<=8:=by exact eV
  rw[l];simp only[AO];dsimp only[Ty.den]at *;omega
 refine AA1 [20] ?_;refine rL a ?_ ?_
 .trivial
 repeat'(first|exact trivial|apply eS rfl|apply AB|refine rX a ?_ ?_|refine rC ?_ ?_<;>intro b<;>try(cases b;done))
 exact fI a [.cell 2 26,.tmp 3]
end
theorem qT (s:ByteArray):∀(l:List EU) (r:List AQ) (k:Nat),(l.map λx=>x.1)=(r.map λx=>x.1)->YD s k l=KA s k r
 | [],[],_,_=>rfl
 | x :: l,y :: r,k,h=>by
  simp only[iS,ABc]at h;unfold YD KA;rw[h.1,qT s l r (k+1) h.2]
 | [],y :: r,_,h=>by simp at h
 | x :: l,[],_,h=>by simp at h
theorem A50 (d:List AJ) (s:ByteArray):Ae (Bi d) s=BH (AK d) s:=by
 refine qT s _ _ 0 (AAx (by simp[Vq d]) λi h1 a=>?_);have hi:i<(AK d).length:=by simpa using a
 have b:i<(Bi d).1.length:=by simpa using h1
 have:=AAS (λx:EU=>x.1) (mE d hi);simpa[AS,hi,b] using this
theorem A1W (s:ByteArray):∀(l:List R4) (k:Nat),(∃x∈l,AM x.1 s=true)->0<=iV s k l
 | [],_,h=>by obtain⟨x,a,-⟩:=h;cases a
 | y :: l,k,h=>by
  unfold iV;split
  .omega
  rename_i q;obtain⟨x,a,e⟩:=h;rcases DO.1 a with rfl|a
  .exact absurd e q
  exact A1W s l (k+1) ⟨x,a,e⟩
theorem OV {s:ByteArray}:∀(l:List (ByteArray×ByteArray)) (o:List ByteArray),AU o s=true->AU (l.foldl JJ o) s=true
 | [],_,h=>h
 | x :: l,o,h=>OV l _ (HL (λ_=>JO) h)
theorem Yj {y:ByteArray×ByteArray}:∀(l:List (ByteArray×ByteArray)) (o:List ByteArray),y∈l->AU (l.foldl JJ o) y.1=true
 | x :: l,o,h=>by
  rcases DO.1 h with rfl|h
  .exact OV l _ Ln
  exact Yj l _ h
theorem SF {s:ByteArray}:∀(l:List AJ) (o:List ByteArray),AU o s=true->AU (l.foldl It o) s=true
 | [],_,h=>h
 | x :: l,o,h=>SF l _ (OV x.2.2 o h)
theorem WR {x:AJ} {y:ByteArray×ByteArray} (a:y∈x.2.2):∀(l:List AJ) (o:List ByteArray),x∈l->AU (l.foldl It o) y.1=true
 | z :: l,o,h=>by
  rcases DO.1 h with rfl|h
  .exact SF l _ (Yj _ o a)
  exact WR a l _ h
def A5X:List ByteArray:=Bm.map λx=>x.1
def A5Y:List ByteArray:=Bm.flatMap λx=>x.2.2.map λy=>y.1
structure Dh (h:AE):Prop where
 h14:H14 h
 srt:A4W h
 nm:A9i h
 ty:∀s,(A5X.any λx=>AM x s)=true->0<=Ae h s
 ft:∀s,(A5Y.any λx=>AM x s)=true->0<=A9 h s
theorem vR (a:(A4 d).2=0):Am d=0:=by
 unfold A4 at a;split at a
 .rename_i h;exact absurd a h
 rename_i h;exact GO h
theorem vS (h:(Ab d).2=0):Am d=0:=by
 unfold Ab at h;split at h
 .rename_i q;exact absurd h q
 rename_i q;exact vR (GO q)
theorem A1X (d:List AJ) (h:(Ab (Bm++d)).2=0):Dh (Ab (Bm++d)).1:=by
 have b:=vS h;obtain⟨g,-,k,-,-⟩:=Vr b;refine⟨V1 _,hJ _,mY _,λs hs=>?_,λs hs=>?_⟩
 .obtain⟨x,a,e⟩:=To.1 hs;obtain⟨y,c,rfl⟩:=IN.1 a;rw[KQ b,A50,<-P5 e];exact Lp g (AA2 _ c)
 obtain⟨x,a,e⟩:=To.1 hs;obtain⟨z,j,a⟩:=ABe.1 a;obtain⟨y,c,rfl⟩:=IN.1 a;rw[KQ b,<-P5 e];have:=WR c (Bm++d) [] (AA2 _ j);obtain⟨w,i,f⟩:=To.1 this;refine A1W _ _ 0 ⟨Lq (Bm++d) w,?_,f⟩;rw[L6 b];exact List.mem_map_of_mem i
theorem A51 (h:(WQ d).2=true):Dh (WQ d).1:=by
 unfold WQ at h ⊢;split at h
 .rename_i q;rw[BY q];exact A1X d (AAc.1 h)
 cases h
theorem Dh.so (p:Dh h):mV h:=⟨⟨p.ty _ (by decide +kernel),p.ty _ (by decide +kernel),p.ty _ (by decide +kernel),p.ty _ (by decide +kernel)⟩,p.ty _ (by decide +kernel),p.ty _ (by decide +kernel)⟩
def qU (h:AE):Nat->List Int->List AD
 | _,[]=>[(Ae h ⟨#[108,105,115,116]⟩,[])]
 | b,x :: l=>(Ae h ⟨#[99,111,110,115]⟩,[(A9 h ⟨#[70,73,82,83,84]⟩,x),(A9 h ⟨#[82,69,83,84]⟩,((b+1:Nat):Int))]) :: qU h (b+1) l
def QD (h:AE) (n:Nat) (l:List Int):List AD:=(Ae h ⟨#[100,108,105,115,116]⟩,[(A9 h ⟨#[76,73,83,84]⟩,((n+1:Nat):Int)),(A9 h ⟨#[76,65,83,84]⟩,((n+1+l.length:Nat):Int))]) :: qU h (n+1) l
theorem HE (A B:List AD) (t:Int) (L:List (Int×Int)) (n e m:Int) (hn:n=(A.length:Int)):Dz (A++(t,L) :: B) n e m=A++(t,L++[(e,m)]) :: B:=by
 subst hn;unfold Dz;rw[iN,AS,rQ (Of _),AB7,List.set_append,As (Nat.lt_irrefl _),AB7];rfl
theorem Yk (h:AE):∀(l:List Int) (A:List AD) (t:Int) (L:List (Int×Int)) (s:ByteArray),
  Dz (Iy h (l.foldl (EW h) (A++[(t,L)],(A.length:Int),s)).1 ⟨#[108,105,115,116]⟩) (l.foldl (EW h) (A++[(t,L)],(A.length:Int),s)).2.1 (A9 h (l.foldl (EW h) (A++[(t,L)],(A.length:Int),s)).2.2) ((l.foldl (EW h) (A++[(t,L)],(A.length:Int),s)).1.length:Int)=A++(t,L++[(A9 h s,((A.length+1:Nat):Int))]) :: qU h (A.length+1) l /\
  (l.foldl (EW h) (A++[(t,L)],(A.length:Int),s)).1.length=A.length+1+l.length
 | [],A,t,L,s=>by
  refine⟨?_,by simp⟩;simp only[List.foldl_nil];unfold Iy;rw[AA9];rw[show [(t,L)]++[(Ae h ⟨#[108,105,115,116]⟩,([]:List (Int×Int)))]=(t,L) :: [(Ae h ⟨#[108,105,115,116]⟩,[])] from rfl,HE A _ t L _ _ _ rfl];simp only[Do,IS,AAl];rfl
 | x :: l,A,t,L,s=>by
  have e:EW h (A++[(t,L)],(A.length:Int),s) x=((A++[(t,L++[(A9 h s,((A.length+1:Nat):Int))])])++[(Ae h ⟨#[99,111,110,115]⟩,[(A9 h ⟨#[70,73,82,83,84]⟩,x)])],((A++[(t,L++[(A9 h s,((A.length+1:Nat):Int))])]).length:Int),⟨#[82,69,83,84]⟩):=by
   unfold EW Iy;simp only;rw[AA9,show [(t,L)]++[(Ae h ⟨#[99,111,110,115]⟩,([]:List (Int×Int)))]=(t,L) :: [(Ae h ⟨#[99,111,110,115]⟩,[])] from rfl,HE A _ t L _ _ _ rfl];have a:(A++[(t,L)]).length=A.length+1:=by simp
   rw[a];have b:A++(t,L++[(A9 h s,((A.length+1:Nat):Int))]) :: [(Ae h ⟨#[99,111,110,115]⟩,([]:List (Int×Int)))]=(A++[(t,L++[(A9 h s,((A.length+1:Nat):Int))])])++(Ae h ⟨#[99,111,110,115]⟩,[]) :: []:=by simp
   rw[b,HE _ [] _ _ _ _ _ sc];simp
  rw[OS,e];obtain⟨h1,c⟩:=Yk h l (A++[(t,L++[(A9 h s,((A.length+1:Nat):Int))])]) (Ae h ⟨#[99,111,110,115]⟩) [(A9 h ⟨#[70,73,82,83,84]⟩,x)] ⟨#[82,69,83,84]⟩;refine⟨?_,?_⟩
  .rw[h1,qU];simp
  rw[c];simp;omega
theorem qV (h:AE) (a:List AD) (l:List Int):iB h a l=a++QD h a.length l:=by
 obtain⟨h1,b⟩:=Yk h l a (Ae h ⟨#[100,108,105,115,116]⟩) [] ⟨#[76,73,83,84]⟩;unfold iB qS;rw[show Iy h a ⟨#[100,108,105,115,116]⟩=a++[(Ae h ⟨#[100,108,105,115,116]⟩,[])] from rfl,h1,b,HE _ _ _ _ _ _ _ rfl];rfl
def chN (h:AE) (n:Nat):List Int->List AD
 | []=>[(Ae h ⟨#[108,105,115,116]⟩,[])]
 | x :: l=>chN h n l++[(Ae h ⟨#[99,111,110,115]⟩,[(A9 h ⟨#[70,73,82,83,84]⟩,x),(A9 h ⟨#[82,69,83,84]⟩,((n+l.length:Nat):Int))])]
theorem TN (h:AE) (n:Nat):∀l:List Int,(chN h n l).length=l.length+1
 | []=>rfl
 | x :: l=>by simp[chN,TN h n l]
def Wb (h:AE) (n:Nat) (l:List Int):List AD:=chN h n l++[(Ae h ⟨#[100,108,105,115,116]⟩,[(A9 h ⟨#[76,73,83,84]⟩,((n+l.length:Nat):Int)),(A9 h ⟨#[76,65,83,84]⟩,(n:Int))])]
theorem A1Y (h:AE) (f:List AD):∀l:List Int,mZ h f l=(f++chN h f.length l,((f.length+l.length:Nat):Int))
 | []=>rfl
 | x :: l=>by
  have a:=A1Y h f l;unfold mZ at a ⊢;rw[List.foldr_cons,a];unfold chS;simp only[Do,TN,chN,AA9,IS]
theorem A1Z (h:AE) (f:List AD) (l:List Int):H3 h f l=(f++Wb h f.length l,((f.length+l.length+1:Nat):Int)):=by
 unfold H3;rw[A1Y];simp only[Do,TN,Wb,AA9,ACj]
def Se (ψ:Int->Int) (x:AD):AD:=(x.1,x.2.map λa=>(a.1,ψ a.2))
theorem A20 (h:AE) (n:Nat) (ψ:Int->Int):∀(l:List Int) (b:Nat),(∀x∈l,ψ x=x)->(∀i:Int,(b:Int)<=i->i<=((b+l.length:Nat):Int)->ψ i=((n+b+l.length:Nat):Int)-i) ->
  (chN h n l).reverse=(qU h b l).map (Se ψ)
 | [],b,_,_=>rfl
 | x :: l,b,c,a=>by
  rw[chN,List.reverse_append,A20 h n ψ l (b+1) (λy d=>c y (IF _ d)) λi h1 f=>by
   rw[a i O1 (by simp only[IS];omega)];simp only[IS];omega]
  have e:=a ((b+1:Nat):Int) O1 (by simp only[IS];omega);rw[qU,iS];unfold Se;simp only[iS,AB9,c x iT,e,IS,List.reverse_cons,ACG,f5,AB8];rw[show ((n+b+(l.length+1):Nat):Int)-((b+1:Nat):Int)=((n+l.length:Nat):Int) by omega]
theorem qW (h:AE):∀(l:List Int) (b:Nat),(qU h b l).length=l.length+1
 | [],_=>rfl
 | x :: l,b=>by simp[qU,qW h l]
theorem Mt (h:AE) (n:Nat) (l:List Int):(QD h n l).length=l.length+2:=by simp[QD,qW]
theorem KU (h:AE) (n:Nat) (l:List Int):(Wb h n l).length=l.length+2:=by simp[Wb,TN]
theorem A7E (h:AE) (n:Nat) (ψ:Int->Int) (l:List Int) (d:∀x∈l,ψ x=x) (a:∀i:Int,(n:Int)<=i->i<=((n+l.length+1:Nat):Int)->ψ i=((2*n+l.length+1:Nat):Int)-i) :
  (Wb h n l).reverse=(QD h n l).map (Se ψ):=by
 unfold Wb QD;rw[List.reverse_append,A20 h n ψ l (n+1) d λi h1 e=>by rw[a i O1 O1];omega];have b:=a ((n+1:Nat):Int) O1 O1;have c:=a ((n+1+l.length:Nat):Int) O1 O1;rw[iS];simp only[Se,iS,AB9,b,c,List.reverse_cons,ACG,f5,AB8];rw[show ((2*n+l.length+1:Nat):Int)-((n+1:Nat):Int)=((n+l.length:Nat):Int) by omega,show ((2*n+l.length+1:Nat):Int)-((n+1+l.length:Nat):Int)=(n:Int) by omega]
theorem A21 (h:AE) (n:Nat) (ψ:Int->Int) (l:List Int) (d:∀x∈l,ψ x=x) (c:∀i:Int,(n:Int)<=i->i<=((n+l.length+1:Nat):Int)->ψ i=((2*n+l.length+1:Nat):Int)-i) {j:Nat} (a:j<l.length+2) :
  (Wb h n l).getD (l.length+1-j) (0,[])=Se ψ ((QD h n l).getD j (0,[])):=by
 have e:=AAS (λz=>z.getD j (0,[])) (A7E h n ψ l d c);have h1:j<(Wb h n l).length:=by rw[KU];exact a
 have b:j<(QD h n l).length:=by rw[Mt];exact a
 simp only[AS,List.getElem?_reverse h1,KU,AAw,AT b,ABm,ABE]at e ⊢;rw[<-e,show l.length+2-1-j=l.length+1-j by omega]
def rkF (h:AE) (e:G8):AD:=(Ae h e.1,(A9 h ⟨#[76,65,66,69,76]⟩,2+e.2.1) :: e.2.2.map λa=>(A9 h a.1,2+a.2))
def ckF (h:AE) (q:SU):AD:=(Ae h ⟨#[113,101,113]⟩,[(A9 h ⟨#[72,73,71,72]⟩,2+q.1),(A9 h ⟨#[76,79,87]⟩,2+q.2)])
def vkF (h:AE) (v:ByteArray):AD:=(MJ h v,[])
def WT (h:AE) (m:Bj):List AD:=m.2.2.1.map (vkF h)++m.2.2.2.1.map (rkF h)++m.2.2.2.2.map (ckF h)
def Sf (h:AE) (m:Bj) (r c:Int):List AD:=(Ae h ⟨#[115,105,103,110]⟩,[(A9 h ⟨#[83,69,77]⟩,1)]) :: (Ae h ⟨#[115,101,109]⟩,[(A9 h ⟨#[84,79,80]⟩,2+m.1),(A9 h ⟨#[73,78,68,69,88]⟩,2+m.2.1),(A9 h ⟨#[82,69,76,83]⟩,r),(A9 h ⟨#[67,79,78,83]⟩,c)]) :: WT h m
def EH (b k:Nat):List Int:=(List.range k).map λi=>((b+i:Nat):Int)
def pN (m:Bj):Nat:=2+m.2.2.1.length+m.2.2.2.1.length+m.2.2.2.2.length
def qN (m:Bj):Nat:=pN m+m.2.2.2.1.length+2
def RH (m:Bj):List Int:=EH (2+m.2.2.1.length) m.2.2.2.1.length
def WU (m:Bj):List Int:=EH (2+m.2.2.1.length+m.2.2.2.1.length) m.2.2.2.2.length
def Bp (h:AE) (m:Bj):List AD:=Sf h m (pN m:Int) (qN m:Int)++QD h (pN m) (RH m)++QD h (qN m) (WU m)
def El (h:AE) (m:Bj):List AD:=Sf h m ((pN m+m.2.2.2.1.length+1:Nat):Int) ((qN m+m.2.2.2.2.length+1:Nat):Int)++Wb h (pN m) (RH m)++Wb h (qN m) (WU m)
theorem DW (b k:Nat):(EH b k).length=k:=by simp[EH]
theorem TP (h:AE) (m:Bj):(WT h m).length=pN m-2:=by simp[WT,pN];omega
theorem Fj (h:AE) (m:Bj) (r c:Int):(Sf h m r c).length=pN m:=by
 have:=TP h m;have:2<=pN m:=by unfold pN;omega
 simp[Sf,TP];omega
theorem H4 (h:AE) (m:Bj):(Bp h m).length=qN m+m.2.2.2.2.length+2:=by
 simp only[Bp,Do,Fj,Mt,RH,WU,DW,qN];omega
theorem Yl (h:AE) (m:Bj):(El h m).length=qN m+m.2.2.2.2.length+2:=by
 simp only[El,Do,Fj,KU,RH,WU,DW,qN];omega
def RI (m:Bj) (i:Int):Int :=
 if (pN m:Int)<=i/\i<(qN m:Int) then ((pN m+qN m-1:Nat):Int)-i
 else if (qN m:Int)<=i/\i<((qN m+m.2.2.2.2.length+2:Nat):Int) then ((2*qN m+m.2.2.2.2.length+1:Nat):Int)-i else i
theorem Fk {i:Int} (h:i<(pN m:Int)):RI m i=i:=by
 have:pN m<=qN m:=by unfold qN;omega
 unfold RI;rw[As O1,As O1]
theorem Ym {i:Int} (h1:(pN m:Int)<=i) (a:i<(qN m:Int)):RI m i=((pN m+qN m-1:Nat):Int)-i:=BY ⟨h1,a⟩
theorem Yn {i:Int} (h1:(qN m:Int)<=i) (a:i<((qN m+m.2.2.2.2.length+2:Nat):Int)):RI m i=((2*qN m+m.2.2.2.2.length+1:Nat):Int)-i:=by
 unfold RI;rw[As O1,BY ⟨h1,a⟩]
theorem A52 (m:Bj) (i j:Int) (h:RI m i=RI m j):i=j:=by
 have:pN m+2<=qN m:=by unfold qN;omega
 unfold RI at h;split at h<;>split at h<;>(try split at h)<;>(try split at h)<;>omega
def RJ (m:Bj):Prop:=∀x∈Ex m,0<=x/\x<(m.2.2.1.length:Int)
theorem A23 {e:G8} (b:e∈m.2.2.2.1):e.2.1∈Ex m/\∀a∈e.2.2,a.2∈Ex m:=by
 refine⟨?_,λa ha=>?_⟩
 .refine AA2 _ (AAI _ (ABe.2 ⟨e,b,?_⟩));exact iT
 refine AA2 _ (AAI _ (ABe.2 ⟨e,b,?_⟩));exact IF _ (List.mem_map_of_mem ha)
theorem A24 {q:SU} (a:q∈m.2.2.2.2):q.1∈Ex m/\q.2∈Ex m:=by
 refine⟨AAI _ (ABe.2 ⟨q,a,?_⟩),AAI _ (ABe.2 ⟨q,a,?_⟩)⟩<;>simp[JM]
theorem qX (m:Bj):m.1∈Ex m/\m.2.1∈Ex m:=by
 refine⟨?_,?_⟩<;>exact AA2 _ (AA2 _ sc)
theorem qY (d:RJ m):∀x∈WT h m,∀a∈x.2,2<=a.2/\a.2<((2+m.2.2.1.length:Nat):Int):=by
 intro x c a ha;unfold WT at c;rw[Is,Is]at c;rcases c with (c|c)|c
 .obtain⟨v,d,rfl⟩:=IN.1 c;cases ha
 .obtain⟨e,j,rfl⟩:=IN.1 c;obtain⟨f,g⟩:=A23 j;rcases DO.1 ha with rfl|ha
  .have:=d _ f;simp only;omega
  obtain⟨b,i,rfl⟩:=IN.1 ha;have:=d _ (g b i);simp only;omega
 obtain⟨q,k,rfl⟩:=IN.1 c;obtain⟨f,g⟩:=A24 k;have v1:=d _ f;have l:=d _ g;unfold ckF at ha;simp only[DO,ABF,ACP]at ha;rcases ha with rfl|rfl<;>simp only<;>omega
theorem A53 (b:RJ m):Sf h m ((pN m+m.2.2.2.1.length+1:Nat):Int) ((qN m+m.2.2.2.2.length+1:Nat):Int)=(Sf h m (pN m:Int) (qN m:Int)).map (Se (RI m)):=by
 have j:pN m=2+m.2.2.1.length+m.2.2.2.1.length+m.2.2.2.2.length:=rfl;have k:qN m=pN m+m.2.2.2.1.length+2:=rfl;have c:(WT h m).map (Se (RI m))=WT h m:=by
  refine(AAd λx d=>?_).trans (List.map_id _);have:=qY b x d;show (x.1,x.2.map _)=x;rw[AAd (g:=id) λa ha=>by
   have:=this a ha;show (a.1,RI m a.2)=a;rw[Fk O1],List.map_id]
 obtain⟨e,f⟩:=qX m;have v1:=b _ e;have l:=b _ f;unfold Sf;rw[iS,iS,c];simp only[Se,iS,AB9];rw[Fk (i:=1) O1,Fk (i:=2+m.1) O1,Fk (i:=2+m.2.1) O1,Ym (i:=(pN m:Int)) O1 O1,Yn (i:=(qN m:Int)) O1 O1];rw[show ((pN m+qN m-1:Nat):Int)-(pN m:Int)=((pN m+m.2.2.2.1.length+1:Nat):Int) by omega,show ((2*qN m+m.2.2.2.2.length+1:Nat):Int)-(qN m:Int)=((qN m+m.2.2.2.2.length+1:Nat):Int) by omega]
theorem aX {b:Nat} {x:Int} (h:x∈EH b k):(b:Int)<=x/\x<((b+k:Nat):Int):=by
 obtain⟨i,hi,rfl⟩:=IN.1 h;have:=tO.1 hi;omega
theorem qZ (g:RJ m) (hi:i<(Bp h m).length):(El h m).getD (RI m (i:Int)).toNat (0,[])=Se (RI m) ((Bp h m).getD i (0,[])):=by
 have n:pN m=2+m.2.2.1.length+m.2.2.2.1.length+m.2.2.2.2.length:=rfl;have o:qN m=pN m+m.2.2.2.1.length+2:=rfl;have f:(RH m).length=m.2.2.2.1.length:=DW _ _;have p:(WU m).length=m.2.2.2.2.length:=DW _ _;rw[H4]at hi;unfold El Bp;by_cases h1:i<pN m
 .rw[Fk O1,iN,A53 g,AA9,AA9];have a:i<(Sf h m (pN m:Int) (qN m:Int)).length:=by rw[Fj];exact h1
  simp only[AS];rw[AA8 (by rw[aS];exact a),AA8 a,AAw,AT a];rfl
 by_cases l:i<qN m
 .rw[Ym O1 O1];have:=A21 h (pN m) (RI m) (RH m) (λx b=>by
   have:=aX b;exact Fk O1) (λj c k=>by
   rw[Ym c O1];omega) (j:=i-pN m) O1
  rw[show (((pN m+qN m-1:Nat):Int)-(i:Int)).toNat=pN m+((RH m).length+1-(i-pN m)) by omega];simp only[AS]at this ⊢;rw[AA8 (by rw[Do,Fj,KU];omega),rQ (by rw[Fj];omega),Fj,ABh];rw[AA8 (by rw[Do,Fj,Mt];omega),rQ (by rw[Fj];omega),Fj];exact this
 rw[Yn O1 O1];have:=A21 h (qN m) (RI m) (WU m) (λx b=>by
  have:=aX b;exact Fk O1) (λj c k=>by
  rw[Yn c O1];omega) (j:=i-qN m) O1
 rw[show (((2*qN m+m.2.2.2.2.length+1:Nat):Int)-(i:Int)).toNat=qN m+((WU m).length+1-(i-qN m)) by omega];have d:(Sf h m ((pN m+m.2.2.2.1.length+1:Nat):Int) ((qN m+m.2.2.2.2.length+1:Nat):Int)++Wb h (pN m) (RH m)).length=qN m:=by rw[Do,Fj,KU,f];omega
 have e:(Sf h m (pN m:Int) (qN m:Int)++QD h (pN m) (RH m)).length=qN m:=by rw[Do,Fj,Mt,f];omega
 simp only[AS]at this ⊢;rw[rQ (by rw[d];omega),d,ABh,rQ (by rw[e];omega),e];exact this
theorem q9 (ψ:Int->Int) (x:Int×Int) (s:List (Int×Int)):∀n,n<=s.length->JS (x.1,ψ x.2) (s.map λa=>(a.1,ψ a.2)) n=JS x s n
 | 0,_=>rfl
 | n+1,h=>by
  unfold JS;have e:((s.map λa=>(a.1,ψ a.2)).getD n (0,0)).1=(s.getD n (0,0)).1:=by simp[AS,show n<s.length by omega]
  rw[e,q9 ψ x s n O1]
theorem A54 (ψ:Int->Int) (x:Int×Int) (s:List (Int×Int)):Kx (s.map λa=>(a.1,ψ a.2)) (x.1,ψ x.2)=(Kx s x).map λa=>(a.1,ψ a.2):=by
 unfold Kx;rw[aS,q9 ψ x s _ (Of _)];simp only[AAF,List.map_take,List.map_drop,iS,AB9]
theorem iH (ψ:Int->Int):∀(l s:List (Int×Int)),(l.map λa=>(a.1,ψ a.2)).foldl Kx (s.map λa=>(a.1,ψ a.2))=(l.foldl Kx s).map λa=>(a.1,ψ a.2)
 | [],_=>rfl
 | x :: l,s=>by
  rw[iS,OS,OS,A54];exact iH ψ l _
theorem m7 (ψ:Int->Int) (l:List (Int×Int)):AZ (l.map λa=>(a.1,ψ a.2))=(AZ l).map λa=>(a.1,ψ a.2):=iH ψ l []
theorem NV {s t:ByteArray} (e:AM s t=false) (h1:0<=A9 h s):A9 h s≠A9 h t:=λq=>by
 obtain⟨i,l,b,x,c,d⟩:=MH s h.2 0 h1;obtain⟨j,m,f,y,a,g⟩:=MH t h.2 0 (show 0<=A9 h t by rw[<-q];exact h1);have k:((0+i:Nat):Int)=((0+j:Nat):Int):=b.symm.trans (q.trans f);have:i=j:=by omega
 subst this;rw[c]at a;injection a with a
 subst a;have:=BI (Bt d) g;rw[e]at this;cases this
structure Wc (m:Bj):Prop where
 loose:FZ m=0
 chk:N3 m=0
 rels:m.2.2.2.1.length<=4
 cons:m.2.2.2.2.length<=4
 vars:m.2.2.1.length<=256
 args:∀e∈m.2.2.2.1,e.2.2.length<=10
theorem Wc.prd (k:Wc m):∀e∈m.2.2.2.1,dZ e=0:=by
 have l:=k.loose;unfold FZ at l;split at l
 .cases l
 split at l
 .cases l
 split at l
 .rename_i q;exact absurd l q
 rename_i q;intro e b;obtain⟨j,c,rfl⟩:=AAq.1 b;have h1:=JN (λi r a=>by unfold d5 at a;split at a<;>cases a;assumption) _ 0 (GO q) j (By _) O1;unfold d5 at h1;split at h1
 .rename_i d;simpa[AS,c] using d
 cases h1
theorem Wc.rng (k:Wc m):RJ m:=by
 have l:=k.loose;unfold FZ at l;split at l
 .cases l
 split at l
 .cases l
 split at l
 .rename_i q;exact absurd l q
 split at l
 .cases l
 rename_i q;exact oW (GO q)
theorem Wc.srt (k:Wc m):∀v∈m.2.2.1,Ze v=true:=by
 have l:=k.loose;unfold FZ at l;split at l
 .cases l
 split at l
 .cases l
 rename_i q;intro v c;obtain⟨j,b,rfl⟩:=AAq.1 c;have h1:=JN (λi r a=>by unfold tQ at a;split at a<;>cases a;decide) _ 0 (GO q) j (By _) O1;unfold tQ at h1;split at h1
 .rename_i d;simpa[AS,b] using d
 cases h1
theorem vT {e:G8} (h:dZ e=0):BM e.1 false=true/\(∀a∈e.2.2,BM a.1 true=true/\AM a.1 ⟨#[76,65,66,69,76]⟩=false)/\e.2.2.Pairwise λa b=>CJ a.1 b.1=true:=by
 unfold dZ at h;split at h
 .rename_i q;have key:∀j,(c:j<e.2.2.length)->A0a e.2.2 j=none:=λj c=>JN (λi r f=>by unfold A0a at f;split at f<;>(try split at f)<;>cases f<;>decide) _ 0 h j (By _) O1;have d:∀j,(c:j<e.2.2.length)->BM (e.2.2[j]).1 true=true/\AM (e.2.2[j]).1 ⟨#[76,65,66,69,76]⟩=false/\(0<j->CJ (e.2.2[j-1]).1 (e.2.2[j]).1=true):=by
   intro j c;have:=key j c;unfold A0a at this;split at this
   .cases this
   rename_i m;split at this
   .cases this
   rename_i g;have n:e.2.2.getD j (ByteArray.empty,0)=e.2.2[j]:=by simp[AS,c]
   have o:e.2.2.getD (j-1) (ByteArray.empty,0)=e.2.2[j-1]:=by simp[AS,show j-1<e.2.2.length by omega]
   rw[n]at m g;rw[o]at g;refine⟨?_,?_,λh0=>?_⟩
   .cases l:BM (e.2.2[j]).1 true with
    | true=>rfl
    | false=>exact absurd (.inl l) m
   .cases l:AM (e.2.2[j]).1 ⟨#[76,65,66,69,76]⟩ with
    | true=>exact absurd (.inr l) m
    | false=>rfl
   refine g9 (λz=>g ⟨by omega,.inl z⟩) (λz=>g ⟨by omega,.inr z⟩)
  refine⟨q,λa ha=>?_,?_⟩
  .obtain⟨j,c,rfl⟩:=AAq.1 ha;exact⟨(d j c).1,(d j c).2.1⟩
  rw[oR];intro i j hi c s;have step:∀k,(hk:i+k+1<e.2.2.length)->CJ (e.2.2[i]).1 (e.2.2[i+k+1]).1=true:=by
   intro k;induction k with
   | zero=>exact λhk=>(d (i+1) hk).2.2 O1
   | succ k p =>
    intro hk;exact MG (p O1) ((d (i+k+2) hk).2.2 O1)
  have:=step (j-i-1) O1;simpa[show i+(j-i-1)+1=j by omega] using this
 cases h
theorem Yo {h:AE}:∀ {l:List G8},DJ h l=0->∀e∈l,0<=Ae h e.1/\Aa h (Ae h ⟨#[114,101,108]⟩) (Ae h e.1)=true/\∀a∈e.2.2,0<=A9 h a.1
 | [],_,e,c=>by cases c
 | x :: l,b,e,c=>by
  unfold DJ at b;split at b
  .cases b
  rename_i h1;split at b
  .cases b
  rename_i f;split at b
  .cases b
  rename_i g;rcases DO.1 c with rfl|c
  .refine⟨by omega,by simpa using f,?_⟩;have key:∀l:List ST,OU h l=false->∀a∈l,0<=A9 h a.1:=by
    intro l;induction l with
    | nil=>exact λ_ a ha=>by cases ha
    | cons y l i =>
     intro d a ha;unfold OU at d;split at d
     .cases d
     rcases DO.1 ha with rfl|ha
     .omega
     exact i d a ha
   exact key _ (by simpa using g)
  exact Yo b e c
structure NOk (h:AE) (n:Nat) (x:AD):Prop where
 ty:0<=x.1/\x.1<(h.1.length:Int)
 nd:Zu x.2
 len:x.2.length<=12
 arc:∀a∈x.2,(0<=a.1/\a.1<(h.2.length:Int))/\0<=a.2/\a.2<(n:Int)
theorem nd2 {a b:Int×Int} (e:a.1≠b.1):Zu [a,b]:=by
 unfold Zu;simp[e]
theorem Dh.tyr (p:Dh h) (s:ByteArray) (q:(A5X.any λx=>AM x s)=true):0<=Ae h s/\Ae h s<(h.1.length:Int):=⟨p.ty s q,(DI h s).2⟩
theorem Dh.ftr (p:Dh h) (s:ByteArray) (q:(A5Y.any λx=>AM x s)=true):0<=A9 h s/\A9 h s<(h.2.length:Int):=⟨p.ft s q,(GP h s).2⟩
theorem A25 {h:AE} (p:Dh h) {n:Nat}:∀(l:List Int) (b:Nat),(∀x∈l,0<=x/\x<(n:Int))->b+l.length<n->∀x∈qU h b l,NOk h n x
 | [],b,_,_,x,c=>by
  rw[qU,oN]at c;subst c;exact⟨p.tyr _ (by decide +kernel),List.Pairwise.nil,by simp,λa ha=>by cases ha⟩
 | y :: l,b,d,e,x,c=>by
  rw[qU,DO]at c;simp only[IS]at e;rcases c with rfl|c
  .refine⟨p.tyr _ (by decide +kernel),nd2 (NV (by decide +kernel) (p.ft _ (by decide +kernel))),by simp,λa ha=>?_⟩;simp only[DO,ABF,ACP]at ha;rcases ha with rfl|rfl
   .exact⟨p.ftr _ (by decide +kernel),d y iT⟩
   exact⟨p.ftr _ (by decide +kernel),by simp only;omega,by simp only;omega⟩
  exact A25 p l (b+1) (λz f=>d z (IF _ f)) O1 x c
theorem A26 (p:Dh h) {n b:Nat} {l:List Int} (d:∀x∈l,0<=x/\x<(n:Int)) (e:b+1+l.length<n):∀x∈QD h b l,NOk h n x:=by
 intro x c;rw[QD,DO]at c;rcases c with rfl|c
 .refine⟨p.tyr _ (by decide +kernel),nd2 (NV (by decide +kernel) (p.ft _ (by decide +kernel))),by simp,λa ha=>?_⟩;simp only[DO,ABF,ACP]at ha;rcases ha with rfl|rfl
  .exact⟨p.ftr _ (by decide +kernel),by simp only;omega,by simp only;omega⟩
  exact⟨p.ftr _ (by decide +kernel),by simp only;omega,by simp only;omega⟩
 exact A25 p l (b+1) d O1 x c
theorem A55 (p:Dh h) (v:ByteArray):0<=MJ h v/\MJ h v<(h.1.length:Int):=by
 unfold MJ;split
 .exact p.tyr _ (by decide +kernel)
 split
 .exact p.tyr _ (by decide +kernel)
 split
 .exact p.tyr _ (by decide +kernel)
 exact p.tyr _ (by decide +kernel)
theorem A60 {b n:Nat} (hn:b+k<=n):∀x∈EH b k,0<=x/\x<(n:Int):=λx a=>by
 have:=aX a;omega
theorem QA (p:Dh h) (k:Wc m) (G:DJ h m.2.2.2.1=0):∀x∈Bp h m,NOk h (Bp h m).length x:=by
 have o:=k.rng;have O:pN m=2+m.2.2.1.length+m.2.2.2.1.length+m.2.2.2.2.length:=rfl;have F:qN m=pN m+m.2.2.2.1.length+2:=rfl;have I:(RH m).length=m.2.2.2.1.length:=DW _ _;have H:(WU m).length=m.2.2.2.2.length:=DW _ _;rw[H4];intro x d;unfold Bp at d;rw[Is,Is]at d;rcases d with (d|d)|d
 .unfold Sf at d;rw[DO,DO]at d;rcases d with rfl|rfl|d
  .refine⟨p.tyr _ (by decide +kernel),List.pairwise_singleton _ _,by simp,λa ha=>?_⟩;rw[oN]at ha;subst ha;exact⟨p.ftr _ (by decide +kernel),by simp only;omega,by simp only;omega⟩
  .obtain⟨L,M⟩:=qX m;have v1:=o _ L;have Q:=o _ M;refine⟨p.tyr _ (by decide +kernel),?_,by simp,λa ha=>?_⟩
   .have g:=p.ft ⟨#[84,79,80]⟩ (by decide +kernel);have u:=p.ft ⟨#[73,78,68,69,88]⟩ (by decide +kernel);have D:=p.ft ⟨#[82,69,76,83]⟩ (by decide +kernel);have w:=NV (h:=h) (s:=⟨#[84,79,80]⟩) (t:=⟨#[73,78,68,69,88]⟩) (by decide +kernel) g;have y:=NV (h:=h) (s:=⟨#[84,79,80]⟩) (t:=⟨#[82,69,76,83]⟩) (by decide +kernel) g;have z:=NV (h:=h) (s:=⟨#[84,79,80]⟩) (t:=⟨#[67,79,78,83]⟩) (by decide +kernel) g;have A:=NV (h:=h) (s:=⟨#[73,78,68,69,88]⟩) (t:=⟨#[82,69,76,83]⟩) (by decide +kernel) u;have B:=NV (h:=h) (s:=⟨#[73,78,68,69,88]⟩) (t:=⟨#[67,79,78,83]⟩) (by decide +kernel) u;have C:=NV (h:=h) (s:=⟨#[82,69,76,83]⟩) (t:=⟨#[67,79,78,83]⟩) (by decide +kernel) D;unfold Zu;simp[w,y,z,A,B,C]
   simp only[DO,ABF,ACP]at ha;rcases ha with rfl|rfl|rfl|rfl
   .exact⟨p.ftr _ (by decide +kernel),by simp only;omega,by simp only;omega⟩
   .exact⟨p.ftr _ (by decide +kernel),by simp only;omega,by simp only;omega⟩
   .exact⟨p.ftr _ (by decide +kernel),by simp only;omega,by simp only;omega⟩
   exact⟨p.ftr _ (by decide +kernel),by simp only;omega,by simp only;omega⟩
  have f:=qY (h:=h) o x d;unfold WT at d;rw[Is,Is]at d;rcases d with (d|d)|d
  .obtain⟨v,-,rfl⟩:=IN.1 d;exact⟨A55 p v,List.Pairwise.nil,by simp[vkF],λa ha=>by cases ha⟩
  .obtain⟨e,n,rfl⟩:=IN.1 d;obtain⟨N,-,r⟩:=Yo G e n;obtain⟨-,J,K⟩:=vT (k.prd e n);have P:=k.args e n;refine⟨⟨N,(DI h _).2⟩,?_,by simp[rkF];omega,λa ha=>⟨?_,by have:=f a ha;omega,by have:=f a ha;omega⟩⟩
   .show Zu ((A9 h ⟨#[76,65,66,69,76]⟩,2+e.2.1) :: e.2.2.map λa=>(A9 h a.1,2+a.2));refine AAo.2 ⟨λb i=>?_,?_⟩
    .obtain⟨c,j,rfl⟩:=IN.1 i;exact NV (IT (J c j).2) (p.ft _ (by decide +kernel))
    rw[AAA];refine List.Pairwise.imp_of_mem ?_ K;intro a b ha i E;have:=A9g p.srt E (r a ha) (r b i);simp only;omega
   rcases DO.1 ha with rfl|ha
   .exact p.ftr _ (by decide +kernel)
   obtain⟨c,j,rfl⟩:=IN.1 ha;exact⟨r c j,(GP h _).2⟩
  obtain⟨q,F,rfl⟩:=IN.1 d;refine⟨p.tyr _ (by decide +kernel),nd2 (NV (by decide +kernel) (p.ft _ (by decide +kernel))),by simp[ckF],λa ha=>⟨?_,by have:=f a ha;omega,by have:=f a ha;omega⟩⟩;unfold ckF at ha;simp only[DO,ABF,ACP]at ha;rcases ha with rfl|rfl
  .exact p.ftr _ (by decide +kernel)
  exact p.ftr _ (by decide +kernel)
 .exact A26 p (l:=RH m) (A60 O1) (by rw[I];omega) x d
 exact A26 p (l:=WU m) (A60 O1) (by rw[H];omega) x d
theorem WV (g:f.length<=4096) (h0:0<f.length) (hn:∀x∈f,NOk h f.length x):AX f/\NdF f/\R7 f/\Ca f=0/\PF h (DA f):=by
 have d:AX f:=⟨by omega,λx b=>⟨by have:=(hn x b).len;omega,λa ha=>((hn x b).arc a ha).2⟩⟩;have hs:R7 f:=λx b=>⟨by have:=(hn x b).len;omega,.inl (hn x b).len⟩;have e:NdF f:=λx b=>⟨(hn x b).nd,hs x b⟩;refine⟨d,e,hs,?_,HN d,by rw[Cu];exact h0,λx b=>?_,λx b=>?_,λx b a ha=>?_⟩
 .unfold Ca;rw[As O1,As O1];refine gK λx b=>⟨(hn x b).ty.1,A1s ?_ λa ha=>⟨((hn x b).arc a ha).1.1,((hn x b).arc a ha).2⟩⟩;rw[List.Nodup,AAA];exact(hn x b).nd
 .obtain⟨y,c,rfl⟩:=IN.1 b;exact(hn y c).ty
 .obtain⟨y,c,rfl⟩:=IN.1 b;exact KL (hn y c).nd
 obtain⟨y,c,rfl⟩:=IN.1 b;have:=(Ed y.2).mem_iff.1 ha;exact((hn y c).arc a this).1
theorem WW (k:Wc m) (h:AE):(Bp h m).length<=1000:=by
 have a:pN m=2+m.2.2.1.length+m.2.2.2.1.length+m.2.2.2.2.length:=rfl;have b:qN m=pN m+m.2.2.2.1.length+2:=rfl;have:=k.rels;have:=k.cons;have:=k.vars;rw[H4];omega
theorem iI (h:AE) (m:Bj):0<(Bp h m).length:=by
 rw[H4];omega
theorem iJ (p:Dh h) (k:Wc m) (e:DJ h m.2.2.2.1=0):BR (Bp h m)=(AP (DA (Bp h m)) 0,0)/\VF h (AP (DA (Bp h m)) 0)/\R7 (Bp h m):=by
 have h0:=iI h m;obtain⟨h1,a,b,c,d⟩:=WV (by have:=WW k h;omega) h0 (QA p k e);refine⟨?_,A7u d (ABf _) (by rw[Cu];omega),b⟩;unfold BR;rw[BY c,IV h1 a (ABf _) O1]
theorem A56 {n:Nat} {ψ:Int->Int} (d:∀i:Int,0<=i->i<(n:Int)->0<=ψ i/\ψ i<(n:Int)) {x:AD} (k:NOk h n x):NOk h n (Se ψ x):=by
 refine⟨k.ty,?_,by simpa[Se] using k.len,λa ha=>?_⟩
 .show Zu (x.2.map _);unfold Zu;rw[AAA];exact k.nd
 obtain⟨b,c,rfl⟩:=IN.1 ha;have:=k.arc b c;exact⟨this.1,d _ this.2.1 this.2.2⟩
theorem rA (h:AE) {i:Int} (e:0<=i) (b:i<((Bp h m).length:Int)):0<=RI m i/\RI m i<((Bp h m).length:Int):=by
 have c:pN m=2+m.2.2.1.length+m.2.2.2.1.length+m.2.2.2.2.length:=rfl;have d:qN m=pN m+m.2.2.2.1.length+2:=rfl;rw[H4]at *;by_cases h1:i<(pN m:Int)
 .rw[Fk h1];omega
 by_cases a:i<(qN m:Int)
 .rw[Ym O1 a];omega
 rw[Yn O1 b];omega
theorem A57 {i:Int}:RI m (RI m i)=i:=by
 have c:qN m=pN m+m.2.2.2.1.length+2:=rfl;by_cases h1:i<(pN m:Int)
 .rw[Fk h1,Fk h1]
 by_cases a:i<(qN m:Int)
 .rw[Ym (i:=i) O1 a,Ym O1 O1];omega
 by_cases b:i<((qN m+m.2.2.2.2.length+2:Nat):Int)
 .rw[Yn (i:=i) O1 b,Yn O1 O1];omega
 have:RI m i=i:=by unfold RI;rw[As O1,As O1]
 rw[this,this]
theorem Yp (p:Dh h) (k:Wc m) (c:DJ h m.2.2.2.1=0):∀x∈El h m,NOk h (El h m).length x:=by
 have a:(El h m).length=(Bp h m).length:=by rw[H4,Yl]
 rw[a];intro x b;obtain⟨j,f,rfl⟩:=B7 ((0,[]):AD) b;have g:=rA (m:=m) h (i:=(j:Int)) O1 O1;have:=qZ (h:=h) k.rng (i:=(RI m (j:Int)).toNat) O1;rw[show (((RI m (j:Int)).toNat:Nat):Int)=RI m (j:Int) by omega,A57,iN]at this;rw[this];exact A56 (λi d e=>rA h d e) (QA p k c _ (Ar O1))
theorem RK (p:Dh h) (k:Wc m) (c:DJ h m.2.2.2.1=0):BR (El h m)=BR (Bp h m)/\Zy (El h m):=by
 have t:(El h m).length=(Bp h m).length:=by rw[H4,Yl]
 have h0:=iI h m;have hs:=WW k h;obtain⟨b,f,r,g,s⟩:=WV O1 h0 (QA p k c);obtain⟨n,o,w,q,y⟩:=WV O1 O1 (Yp p k c);refine⟨?_,λx l=>by have:=(Yp p k c x l).len;omega⟩;unfold BR;rw[BY g,BY q,IV b f (ABf _) O1,IV n o (ABf _) O1];refine AAS (·,(0:Int)) ?_;have d:∀i:Int,0<=i->i<((Bp h m).length:Int)->(DA (El h m)).getD (RI m i).toNat (0,[])=Se (RI m) ((DA (Bp h m)).getD i.toNat (0,[])):=by
  intro i u v;have:=qZ (h:=h) k.rng (i:=i.toNat) O1;rw[show ((i.toNat:Nat):Int)=i by omega]at this;rw[JT,JT,this];exact AAS (Prod.mk _) (m7 _ _)
 refine Wz (C:=λi=>0<=i/\i<((Bp h m).length:Int)) (ψ:=RI m) ⟨λi hi=>?_,λi hi a ha=>?_,λi j _ _ e=>A52 m i j e⟩ (HN b) ⟨by omega,by omega⟩ (Fk (by unfold pN;omega)) (by rw[Cu];exact h0) (by rw[Cu,Cu];omega) λi hi=>?_
 .unfold Aj;rw[d i hi.1 hi.2];rfl
 .have:=CF (HN b) ha;rw[Cu]at this;exact this
 rw[d i hi.1 hi.2];rfl
section
attribute [local go_sem] H2 aO Pn Vb Kw Kh My Jc Iu NH
def vU (h:AE) (m:Bj):List AD×Int:=if DJ h m.2.2.2.1≠0 then ([],DJ h m.2.2.2.1) else if (Cv h (BR (Bp h m)).1).2=true then ((Cv h (BR (Bp h m)).1).1,0) else ([],12)
def A58:AW:={ ins:=[FK,XZ],pre:=λ(h,m,_)=>Dh h/\Wc m,out:=λ(h,m,_)=>[.p Fm (vU h m).1,.p C6 (vU h m).2] }
def De (h:AE) (a:List AD):List (Nat×Obj) :=
 [(37,.box 98 true [.p FK h,.ag [.sr 200 Md 0 a.length]]),(200,.nest 57 59 T3 C7 a none)]
attribute [local go_sem] De
theorem A27 (h:AE) {j:Nat} (a:j<4) (q:AM (Iv.getD j (ByteArray.empty,ByteArray.empty)).1 v=true):Ae h (Iv.getD j (ByteArray.empty,ByteArray.empty)).2=MJ h v:=by
 have e:=P5 q;rw[<-e];unfold MJ;match j,a with
 | 0,_=>exact(BY (by decide +kernel)).symm
 | 1,_=>rw[As (by decide +kernel),BY (by decide +kernel)];rfl
 | 2,_=>rw[As (by decide +kernel),As (by decide +kernel),BY (by decide +kernel)];rfl
 | 3,_=>rw[As (by decide +kernel),As (by decide +kernel),As (by decide +kernel)];rfl
theorem A59:∀i:Nat,i<4->∀j:Nat,j<4->AM (Iv.getD i (ByteArray.empty,ByteArray.empty)).1 (Iv.getD j (ByteArray.empty,ByteArray.empty)).1=true->i=j:=by decide +kernel
theorem A28 {j:Nat} (hi:i<4) (a:j<4) (b:AM (Iv.getD i (ByteArray.empty,ByteArray.empty)).1 v=true) (c:AM (Iv.getD j (ByteArray.empty,ByteArray.empty)).1 v=true):i=j :=
 A59 i hi j a (BI b (Bt c))
theorem A29 (q:Ze v=true):∃j,j<4/\AM (Iv.getD j (ByteArray.empty,ByteArray.empty)).1 v=true:=by
 unfold Ze at q;simp only[vW]at q;rcases q with ((q|q)|q)|q
 .exact⟨0,by omega,Bt q⟩
 .exact⟨1,by omega,Bt q⟩
 .exact⟨2,by omega,Bt q⟩
 exact⟨3,by omega,Bt q⟩
def m8 (h:AE) (v:ByteArray) (A:List AD) (L:List Int) (x:Nat×List AD×List Int):Prop :=
 (∀j,j<x.1->¬AM (Iv.getD j (ByteArray.empty,ByteArray.empty)).1 v=true)/\x.2=(A,L)\/(∃j,j<x.1/\j<4/\AM (Iv.getD j (ByteArray.empty,ByteArray.empty)).1 v=true)/\x.2=(A++[vkF h v],L++[(A.length:Int)])
theorem A7G {A:List AD} {j:Nat} (c:m8 h v A L (j,Z,M)) (a:j<4) (q:AM (Iv.getD j (ByteArray.empty,ByteArray.empty)).1 v=true) :
  m8 h v A L (j+1,Iy h Z (Iv.getD j (ByteArray.empty,ByteArray.empty)).2,M++[(Z.length:Int)]):=by
 rcases c with ⟨h1,b⟩|⟨⟨i,d,e,f⟩,-⟩
 .cases b;refine .inr ⟨⟨j,AAX j,a,q⟩,?_⟩;unfold Iy vkF;rw[A27 h a q]
 have:=A28 e a f q;simp only at d;omega
theorem A7H {A:List AD} {j:Nat} (b:m8 h v A L (j,Z,M)) (q:AM (Iv.getD j (ByteArray.empty,ByteArray.empty)).1 v=false):m8 h v A L (j+1,Z,M):=by
 rcases b with ⟨h1,a⟩|⟨⟨i,c,d,f⟩,a⟩
 .refine .inl ⟨λi hi=>?_,a⟩;by_cases e:i=j
  .rw[e,q];simp
  exact h1 i (by simp only at hi ⊢;omega)
 exact .inr ⟨⟨i,by simp only at c ⊢;omega,d,f⟩,a⟩
theorem A7I {A:List AD} {j:Nat} (b:m8 h v A L (j,Z,M)) (d:4<=j) (q:Ze v=true):Z=A++[vkF h v]/\M=L++[(A.length:Int)]:=by
 rcases b with ⟨h1,a⟩|⟨-,a⟩
 .obtain⟨i,e,c⟩:=A29 q;exact absurd c (h1 i (by simp only;omega))
 cases a;exact⟨rfl,rfl⟩
theorem A2a {A:List AD} {j:Nat} (b:m8 h v A L (j,Z,M)):Z.length<=A.length+1/\M.length<=L.length+1:=by
 rcases b with ⟨h1,a⟩|⟨-,a⟩<;>cases a<;>simp
theorem MK (b k:Nat):EH b (k+1)=EH b k++[((b+k:Nat):Int)]:=by simp[EH,AAt]
theorem A5a {b:Nat} {x:Int} (a:0<=x) (c:x<(k:Int)):(EH b k).getD x.toNat 0=(b:Int)+x:=by
 have:x.toNat<k:=by omega
 simp[EH,AS,this];omega
def iK (h:AE):List AD:=[(Ae h ⟨#[115,105,103,110]⟩,[(A9 h ⟨#[83,69,77]⟩,1)]),(Ae h ⟨#[115,101,109]⟩,[])]
def wA (h:AE) (a:List ByteArray) (i:Nat):List AD:=iK h++(a.take i).map (vkF h)
def rB (h:AE) (b:List ByteArray) (a:List G8) (i:Nat):List AD:=iK h++b.map (vkF h)++(a.take i).map (rkF h)
def m9 (h:AE) (A:List AD) (e:G8) (q:Nat):List AD:=A++[(Ae h e.1,(A9 h ⟨#[76,65,66,69,76]⟩,2+e.2.1) :: (e.2.2.take q).map λa=>(A9 h a.1,2+a.2))]
theorem A5b (h:AE) (A:List AD) (e:G8) (q:Nat):(m9 h A e q).length=A.length+1:=by simp[m9]
theorem QB (A:List AD) (x:AD):(A++[x]).getD ((A.length:Int)).toNat (0,[])=x:=by simp[AS]
theorem A5c (h:AE) (A:List AD) (e:G8) (q:Nat) (a:e.2.2.length<=10):((m9 h A e q).getD ((A.length:Int)).toNat (0,[])).2.length<=100000:=by
 unfold m9;rw[QB];simp only[IS,aS,OR];omega
theorem A9j (h:AE) (A:List AD) (e:G8):Dz (Iy h A e.1) (A.length:Int) (A9 h ⟨#[76,65,66,69,76]⟩) (2+e.2.1)=m9 h A e 0:=by
 unfold Iy m9;exact HE A [] _ _ _ _ _ rfl
theorem A9k (h:AE) (A:List AD) (e:G8) {q:Nat} (b:q<e.2.2.length):Dz (m9 h A e q) (A.length:Int) (A9 h (e.2.2.getD q (ByteArray.empty,0)).1) (2+(e.2.2.getD q (ByteArray.empty,0)).2)=m9 h A e (q+1):=by
 unfold m9;rw[Mg (λa:ST=>(A9 h a.1,2+a.2)) e.2.2 (ByteArray.empty,0) b];exact HE A [] _ _ _ _ _ rfl
theorem rD (h:AE) (A:List AD) (e:G8):m9 h A e e.2.2.length=A++[rkF h e]:=by
 unfold m9 rkF;rw[At (Of _)]
theorem AA3 (h:AE) (A:List AD) (q:SU):Dz (Iy h A ⟨#[113,101,113]⟩) (A.length:Int) (A9 h ⟨#[72,73,71,72]⟩) (2+q.1)=A++[(Ae h ⟨#[113,101,113]⟩,[(A9 h ⟨#[72,73,71,72]⟩,2+q.1)])]:=by
 unfold Iy;exact HE A [] _ _ _ _ _ rfl
theorem AA4 (h:AE) (A:List AD) (q:SU):Dz (A++[(Ae h ⟨#[113,101,113]⟩,[(A9 h ⟨#[72,73,71,72]⟩,2+q.1)])]) (A.length:Int) (A9 h ⟨#[76,79,87]⟩) (2+q.2)=A++[ckF h q]:=by
 unfold ckF;exact HE A [] _ _ _ _ _ rfl
theorem rE (h:AE) (a:List ByteArray) (b:List G8):wA h a a.length=rB h a b 0:=by simp[wA,rB]
def vV (h:AE) (b:List ByteArray) (a:List G8) (cs:List SU) (i:Nat):List AD:=iK h++b.map (vkF h)++a.map (rkF h)++(cs.take i).map (ckF h)
theorem aY (h:AE) (a:List ByteArray) (hi:i<=a.length):(wA h a i).length=2+i:=by simp[wA,iK];omega
theorem iL (h:AE) (a:List ByteArray) (hi:i<a.length):wA h a (i+1)=wA h a i++[vkF h (a.getD i ByteArray.empty)]:=by
 unfold wA;rw[Mg (vkF h) a ByteArray.empty hi,AA9]
theorem rF (h:AE) (b:List ByteArray) (a:List G8) (hi:i<=a.length):(rB h b a i).length=2+b.length+i:=by simp[rB,iK];omega
theorem iM (h:AE) (b:List ByteArray) (a:List G8) (hi:i<a.length):rB h b a (i+1)=rB h b a i++[rkF h (a.getD i (ByteArray.empty,0,[]))]:=by
 unfold rB;rw[Mg (rkF h) a (ByteArray.empty,0,[]) hi];simp only[AA9]
theorem rG (h:AE) (b:List ByteArray) (a:List G8) (cs:List SU):rB h b a a.length=vV h b a cs 0:=by simp[rB,vV]
def QE (h:AE) (m:Bj) (L:List (Int×Int)):List AD:=(Ae h ⟨#[115,105,103,110]⟩,[(A9 h ⟨#[83,69,77]⟩,1)]) :: (Ae h ⟨#[115,101,109]⟩,L) :: WT h m
theorem rH (h:AE) (tp ix:Int) (b:List ByteArray) (a:List G8) (cs:List SU):vV h b a cs cs.length=QE h (tp,ix,b,a,cs) []:=by simp[vV,iK,QE,WT]
theorem A5d (h:AE) (m:Bj) (L:List (Int×Int)) (D:List AD) (e x:Int):Dz (QE h m L++D) 1 e x=QE h m (L++[(e,x)])++D:=HE [(Ae h ⟨#[115,105,103,110]⟩,[(A9 h ⟨#[83,69,77]⟩,1)])] (WT h m++D) (Ae h ⟨#[115,101,109]⟩) L 1 e x rfl
theorem A2b (h:AE) (m:Bj) (L:List (Int×Int)):(QE h m L).length=pN m:=by
 have:=TP h m;have:2<=pN m:=by unfold pN;omega
 simp[QE,TP];omega
theorem aZ (h:AE) (m:Bj) (L:List (Int×Int)) (D:List AD) (a:L.length<=10):((QE h m L++D).getD (1:Int).toNat (0,[])).2.length<=100000:=by
 show L.length<=100000;omega
theorem AA5 (p:Dh h) (k:Wc m) (c:DJ h m.2.2.2.1=0) (L:List (Int×Int)) (D:List AD) (d:L.length<=10) (b:Jb 12 D):Jb 12 (QE h m L++D):=by
 intro x a;unfold QE at a;rw[WY,WY,DO,DO,Is]at a;rcases a with rfl|rfl|a|a
 .simp
 .simp only;omega
 .refine(QA p k c x ?_).len;unfold Bp Sf;exact AA2 _ (AA2 _ (IF _ (IF _ a)))
 exact b x a
theorem AA6 (h:AE) (n:Nat) (l:List Int):Jb 12 (QD h n l):=by
 have key:∀(l:List Int) (b:Nat),Jb 12 (qU h b l):=by
  intro l;induction l with
  | nil =>
   intro b x a;rw[qU,oN]at a;subst a;simp
  | cons y l c =>
   intro b x a;rw[qU,DO]at a;rcases a with rfl|a
   .simp
   exact c _ x a
 intro x a;unfold QD at a;rcases DO.1 a with rfl|a
 .simp
 exact key _ _ x a
theorem A5e (h:AE) (m:Bj):QE h m [(A9 h ⟨#[84,79,80]⟩,2+m.1),(A9 h ⟨#[73,78,68,69,88]⟩,2+m.2.1),(A9 h ⟨#[82,69,76,83]⟩,(pN m:Int)),(A9 h ⟨#[67,79,78,83]⟩,(qN m:Int))]++(QD h (pN m) (RH m)++QD h (qN m) (WU m))=Bp h m:=by
 unfold Bp;rw[AA9];rfl
theorem WX (p:Dh h) (k:Wc m) (d:DJ h m.2.2.2.1=0):A0V h (BR (Bp h m)).1/\(BR (Bp h m)).2=0/\R7 (Bp h m):=by
 obtain⟨h1,a,b⟩:=iJ p k d;have c:=A7s p.h14 a;generalize AP (DA (Bp h m)) 0=C at *;rw[h1];exact⟨c,rfl,b⟩
theorem a9 (h:AE) (b:List ByteArray) (a:List G8) (cs:List SU) (hi:i<=cs.length):(vV h b a cs i).length=2+b.length+a.length+i:=by simp[vV,iK];omega
theorem iO (h:AE) (b:List ByteArray) (a:List G8) (cs:List SU) (hi:i<cs.length):vV h b a cs (i+1)=vV h b a cs i++[ckF h (cs.getD i (0,0))]:=by
 unfold vV;rw[Mg (ckF h) cs (0,0) hi];simp only[AA9]
theorem iP:AY Tryz.prog 19 A58:=by
 refine fKP [0,1,2,3,4,5,6,7,8,9,10,11,12,14,16,18,19,21,23,24,25,26,27,32,47,48,49,50,53,54,55,56,62,73,74,75,76,92,93,94,95,115,116,117,118,181,191] [36,68,111,141] [] Tryz.func19 Tryz.ntmps19 (AF vL (AF uK (AF A0W AH))) ?_;rintro w0 O0 ⟨h,⟨tp,ix,b,f,cs⟩,u⟩ c-⟨I,r⟩;have I:Dh h:=I;have r:Wc (tp,ix,b,f,cs):=r;have bf:=I.so;have bc:Mz (tp,ix,b,f,cs):=⟨trivial,by have:=r.rels;omega,λe ad=>by have:=r.args e ad;omega,by have:=r.cons;omega⟩;have ca:b.length<=256:=r.vars;have bz:f.length<=4:=r.rels;have br:cs.length<=4:=r.cons;have av:∀e∈f,e.2.2.length<=10:=r.args;have bh:∀v∈b,Ze v=true:=r.srt;have E:RJ (tp,ix,b,f,cs):=r.rng;have ao:vU h (tp,ix,b,f,cs)=if DJ h f≠0 then ([],DJ h f) else if (Cv h (BR (Bp h (tp,ix,b,f,cs))).1).2=true then ((Cv h (BR (Bp h (tp,ix,b,f,cs))).1).1,0) else ([],12):=rfl
 have ad:(h.1,h.2)=h:=rfl;simp only[A58,AL];repeat'(first|exact trivial|apply eS rfl|apply AB|refine rP c ?_ ?_|fail)
 all_goals try simp only[ad]at *
 .exact⟨bf,bc⟩
 refine rC ?_ ?_<;>intro g
 .have g:DJ h f≠0:=by simpa using g
  rw[ao,BY g];repeat'(first|exact trivial|apply eS rfl|apply AB|refine rX c ?_ ?_|refine rC ?_ ?_<;>intro g<;>try(cases g;done))
  exact fI c [.cell 4 34,.tmp 5] (by first|exact eR|refine Kv ?_;rfl)
 have ak:DJ h f=0:=by simpa using g
 clear g;rw[ao,As (by rw[ak];simp)];repeat'(first|exact trivial|apply eS rfl|apply AB|refine rP c ?_ ?_|fail)
 refine cP 1 c ?_ ?_
 .trivial
 refine WM FK h ?_;refine rL c ?_ ?_
 .trivial
 repeat'(first|exact trivial|apply eS rfl|apply AB|refine rP c ?_ ?_|fail)
 refine cP 1 c ?_ ?_
 .trivial
 refine rM c (Gj h [] sc ⟨#[115,105,103,110]⟩) [(1,.nm 37),(2,.nil)] [] ?_ ?_ ?_
 .first|exact eN|refine eM ?_
 .first|exact eN|refine eM ?_
 rintro _ _ ⟨rfl,rfl⟩;refine⟨[(37,.nm 1),(200,.nm 2)],.p T3 0,De h ([(Ae h ⟨#[115,105,103,110]⟩,[])]),rfl,rfl,?_,?_,rfl,rfl,?_⟩
 .simp only[H2,De,Iy,f5];first|exact eN|refine eM ?_
 .first|exact eN|refine eM ?_
 simp only[De];refine rN 1 c ?_ ?_
 .trivial
 refine rM c (Gj h [(Ae h ⟨#[115,105,103,110]⟩,[])] sc ⟨#[115,101,109]⟩) [(1,.nm 37),(2,.nm 200)] [200] ?_ ?_ ?_
 .first|exact eN|refine eM ?_
 .first|exact eN|refine eM ?_
 rintro _ _ ⟨rfl,rfl⟩;refine⟨[(37,.nm 1),(200,.nm 2)],.p T3 1,De h ([(Ae h ⟨#[115,105,103,110]⟩,[]),(Ae h ⟨#[115,101,109]⟩,[])]),rfl,rfl,?_,?_,rfl,rfl,?_⟩
 .simp only[H2,De,Iy,AB8];first|exact eN|refine eM ?_
 .first|exact eN|refine eM ?_
  all_goals rfl
 simp only[De];refine rL c ?_ ?_
 .trivial
 repeat'(first|exact trivial|apply eS rfl|apply AB|refine rP c ?_ ?_|fail)
 refine cP 3 c ?_ ?_
 .trivial
 refine rM c (Ef h [(Ae h ⟨#[115,105,103,110]⟩,[]),(Ae h ⟨#[115,101,109]⟩,[])] sc (n:=0) O1 sc sc ⟨#[83,69,77]⟩ 1) [(1,.nm 37),(2,.nm 200)] [200] ?_ ?_ ?_
 .first|exact eN|refine eM ?_
 .first|exact eN|refine eM ?_
 rintro _ _ ⟨rfl,rfl⟩;refine⟨[(37,.nm 1),(200,.nm 2)],.raw (.tuple #[]),De h (wA h b 0),rfl,rfl,?_,?_,rfl,rfl,?_⟩
 .simp only[H2,De,wA,iK,AAP,AB9,AAn];first|exact eN|refine eM ?_
  exact⟨rfl,rfl⟩
 .first|exact eN|refine eM ?_
 simp only[De];refine rL c ?_ ?_
 .trivial
 repeat'(first|exact trivial|apply eS rfl|apply AB|refine rP c ?_ ?_|fail)
 refine AI (ι:={i:Nat//i<=b.length}) (λi=>⟨[(2,.bp 2 [] 0),(3,.bp 3 [] 0),(4,.bp 4 [] 0),(7,.bp 37 [] 0),(9,.p T3 1),(10,.sr 69 T3 0 (EH 2 i.1).length),(11,.raw (.slice none 0 0)),(12,.raw (.slice none 0 0)),(47,.p CL b),(48,.p (.int .i64) (b.length:Int)),(49,.p (.int .i64) (i.1:Int))],De h (wA h b i.1)++[(69,.arr 3 T3 (EH 2 i.1)),(4,.box 34 true [.raw (.slice none 0 0)]),(3,.box 41 true [.p T3 tp,.p T3 ix,.p CL b,.p JE f,.p Ke cs]),(2,.box 26 true [.p OW h.1,.p QC h.2])]⟩) (λi=>b.length-i.1) ⟨0,By _⟩ (AC [(2,.nm 2),(3,.nm 3),(4,.nm 4),(37,.nm 37),(200,.nm 200),(69,.nil)] rfl rfl ?_ ?_) (λi=>?_)
 .simp only[De,WY,f5];first|exact eN|refine eM ?_
  rfl
 .simp only[De,WY,f5];first|exact eN|refine eM ?_
  rfl
 obtain⟨i,hi⟩:=i;have y:=aY h b hi;have ae:=DW 2 i;have V:=λq=>iL h b (i:=i) q;have t:=MK 2 i;simp only[De,WY,f5];repeat'(first|exact trivial|apply eS rfl|apply AB|refine rP c ?_ ?_|fail)
 refine rC ?_ ?_<;>intro g
 .have R:i<b.length:=by exact eV
  have V:=V R;have bi:Ze (b.getD i ByteArray.empty)=true:=bh _ (Ar R);generalize al:wA h b i=A at *;generalize N:EH 2 i=L at *;repeat'(first|exact trivial|apply eS rfl|apply AB|refine rP c ?_ ?_|fail)
  .exact g
  refine cP 0 c ?_ ?_
  .trivial
  refine A8y c ?_;refine rL c ?_ ?_
  .trivial
  repeat'(first|exact trivial|apply eS rfl|apply AB|refine rP c ?_ ?_|fail)
  refine AI (ι:={x:Nat×List AD×List Int//x.1<=4/\m8 h (b.getD i ByteArray.empty) A L x}) (λx=>⟨[(2,.bp 2 [] 0),(3,.bp 3 [] 0),(4,.bp 4 [] 0),(7,.bp 37 [] 0),(9,.p T3 1),(10,.sr 69 T3 0 x.1.2.2.length),(11,.raw (.slice none 0 0)),(12,.raw (.slice none 0 0)),(14,.p T9 (b.getD i ByteArray.empty)),(47,.p CL b),(48,.p (.int .i64) (b.length:Int)),(49,.p (.int .i64) (i:Int)),(53,.p T71 Iv),(54,.p (.int .i64) 4),(55,.p (.int .i64) (x.1.1:Int))],De h x.1.2.1++[(69,.arr 3 T3 (x.1.2.2)),(4,.box 34 true [.raw (.slice none 0 0)]),(3,.box 41 true [.p T3 tp,.p T3 ix,.p CL b,.p JE f,.p Ke cs]),(2,.box 26 true [.p OW h.1,.p QC h.2])]⟩) (λx=>4-x.1.1) ⟨(0,A,L),By _,.inl ⟨λj H=>absurd H (Nat.not_lt_zero j),rfl⟩⟩ (AC [(2,.nm 2),(3,.nm 3),(4,.nm 4),(37,.nm 37),(200,.nm 200),(69,.nm 69)] rfl rfl ?_ ?_) (λx=>?_)
  .simp only[De,WY,f5];first|exact eN|refine eM ?_
  .simp only[De,WY,f5];first|exact eN|refine eM ?_
   exact⟨rfl,rfl⟩
  obtain⟨⟨j,Z,M⟩,H,G⟩:=x;simp only at H G;have cc:=A2a G;simp only[De,WY,f5];repeat'(first|exact trivial|apply eS rfl|apply AB|refine rP c ?_ ?_|fail)
  refine rC ?_ ?_<;>intro g
  .have z:j<4:=by omega
   repeat'(first|exact trivial|apply eS rfl|apply AB|refine rP c ?_ ?_|fail)
   .exact g
   refine rC ?_ ?_<;>intro g
   .repeat'(first|exact trivial|apply eS rfl|apply AB|refine rP c ?_ ?_|fail)
    refine cP 4 c ?_ ?_
    .trivial
    refine rM c (Gj h Z O1 (Iv.getD j (ByteArray.empty,ByteArray.empty)).2) [(1,.nm 37),(2,.nm 200)] [200] ?_ ?_ ?_
    .first|exact eN|refine eM ?_
    .first|exact eN|refine eM ?_
    rintro _ _ ⟨rfl,rfl⟩;refine⟨[(37,.nm 1),(200,.nm 2)],.p T3 (Z.length:Int),De h (Iy h Z (Iv.getD j (ByteArray.empty,ByteArray.empty)).2),rfl,rfl,?_,?_,rfl,rfl,?_⟩
    .simp only[H2,De];first|exact eN|refine eM ?_
    .first|exact eN|refine eM ?_
    simp only[De];refine rL c ?_ ?_
    .simp only[AO];omega
    repeat'(first|exact trivial|apply eS rfl|apply AB|refine rP c ?_ ?_|fail)
    .exact eV
    refine⟨⟨(j+1,Iy h Z (Iv.getD j (ByteArray.empty,ByteArray.empty)).2,M++[(Z.length:Int)]),by simp only;omega,A7G G z g⟩,by simp only;omega,AC [(2,.nm 2),(3,.nm 3),(4,.nm 4),(37,.nm 37),(200,.nm 200),(69,.nm 69)] rfl rfl ?_ ?_⟩
    .simp only[De,WY,f5];first|exact eN|refine eM ?_
    simp only[De,WY,f5];first|exact eN|refine eM ?_
   have g:AM (Iv.getD j (ByteArray.empty,ByteArray.empty)).1 (b.getD i ByteArray.empty)=false:=by simpa using g
   repeat'(first|exact trivial|apply eS rfl|apply AB|refine rP c ?_ ?_|fail)
   .exact eV
   refine⟨⟨(j+1,Z,M),by simp only;omega,A7H G g⟩,by simp only;omega,AC [(2,.nm 2),(3,.nm 3),(4,.nm 4),(37,.nm 37),(200,.nm 200),(69,.nm 69)] rfl rfl ?_ ?_⟩
   .simp only[De,WY,f5];first|exact eN|refine eM ?_
   simp only[De,WY,f5];first|exact eN|refine eM ?_
  obtain⟨ap,aq⟩:=A7I G O1 bi;subst ap;subst aq;repeat'(first|exact trivial|apply eS rfl|apply AB|refine rP c ?_ ?_|fail)
  .exact eV
  refine⟨⟨i+1,by omega⟩,by simp only;omega,AC [(2,.nm 2),(3,.nm 3),(4,.nm 4),(37,.nm 37),(200,.nm 200),(69,.nm 69)] rfl rfl ?_ ?_⟩
  .simp only[De,WY,f5,V,t];first|exact eN|refine eM ?_
   rw[y]
  simp only[De,WY,f5,V,t];first|exact eN|refine eM ?_
 have R:i=b.length:=by omega
 subst R;repeat'(first|exact trivial|apply eS rfl|apply AB|refine rP c ?_ ?_|fail)
 refine CK [69] ?_;have bl:=rE h b f;have F:=DW 2 b.length;have C:∀x:Int,0<=x->x<(b.length:Int)->(EH 2 b.length).getD x.toNat 0=2+x:=λx bo bq=>A5a bo bq;simp only[bl];refine AI (ι:={k:Nat//k<=f.length}) (λk=>⟨[(2,.bp 2 [] 0),(3,.bp 3 [] 0),(4,.bp 4 [] 0),(7,.bp 37 [] 0),(9,.p T3 1),(10,.p Br (EH 2 b.length)),(11,.sr 112 T3 0 (EH (2+b.length) k.1).length),(12,.raw (.slice none 0 0)),(73,.p JE f),(74,.p (.int .i64) (f.length:Int)),(75,.p (.int .i64) (k.1:Int))],De h (rB h b f k.1)++[(112,.arr 3 T3 (EH (2+b.length) k.1)),(4,.box 34 true [.raw (.slice none 0 0)]),(3,.box 41 true [.p T3 tp,.p T3 ix,.p CL b,.p JE f,.p Ke cs]),(2,.box 26 true [.p OW h.1,.p QC h.2])]⟩) (λk=>f.length-k.1) ⟨0,By _⟩ (AC [(2,.nm 2),(3,.nm 3),(4,.nm 4),(37,.nm 37),(200,.nm 200),(112,.nil)] rfl rfl ?_ ?_) (λk=>?_)
 .simp only[De,WY,f5];first|exact eN|refine eM ?_
  rfl
 .simp only[De,WY,f5];first|exact eN|refine eM ?_
  rfl
 obtain⟨k,hk⟩:=k;have y:=rF h b f hk;have ae:=DW (2+b.length) k;have w:=λq=>iM h b f (i:=k) q;have t:=MK (2+b.length) k;simp only[De,WY,f5];repeat'(first|exact trivial|apply eS rfl|apply AB|refine rP c ?_ ?_|fail)
 refine rC ?_ ?_<;>intro g
 .have S:k<f.length:=by exact eV
  have w:=w S;have P:f.getD k (ByteArray.empty,0,[])∈f:=Ar S;have az:=av _ P;obtain⟨ah,ai⟩:=A23 (m:=(tp,ix,b,f,cs)) P;have o:=E _ ah;have s:∀a∈(f.getD k (ByteArray.empty,0,[])).2.2,0<=a.2/\a.2<(b.length:Int):=λa ha=>E _ (ai a ha);simp only at o;generalize al:rB h b f k=A at *;generalize N:EH (2+b.length) k=L at *;repeat'(first|exact trivial|apply eS rfl|apply AB|refine rP c ?_ ?_|fail)
  .exact g
  generalize au:f.getD k (ByteArray.empty,0,[])=e at *;have B:=C e.2.1 o.1 o.2;have bm:=OT h A e.1;have h0:=A9j h A e;rw[<-B]at h0;refine cP 3 c ?_ ?_
  .trivial
  refine rM c (Gj h A O1 e.1) [(1,.nm 37),(2,.nm 200)] [200] ?_ ?_ ?_
  .first|exact eN|refine eM ?_
  .first|exact eN|refine eM ?_
  rintro _ _ ⟨rfl,rfl⟩;refine⟨[(37,.nm 1),(200,.nm 2)],.p T3 (A.length:Int),De h (Iy h A e.1),rfl,rfl,?_,?_,rfl,rfl,?_⟩
  .simp only[H2,De];first|exact eN|refine eM ?_
  .first|exact eN|refine eM ?_
  simp only[De];refine rL c ?_ ?_
  .trivial
  repeat'(first|exact trivial|apply eS rfl|apply AB|refine rP c ?_ ?_|fail)
  refine cP 7 c ?_ ?_
  .rw[F];exact o
  refine rM c (Ef h (Iy h A e.1) O1 (n:=(A.length:Int)) O1 O1 (by unfold Iy;rw[QB];simp) ⟨#[76,65,66,69,76]⟩ ((EH 2 b.length).getD e.2.1.toNat 0)) [(1,.nm 37),(2,.nm 200)] [200] ?_ ?_ ?_
  .first|exact eN|refine eM ?_
  .first|exact eN|refine eM ?_
  rintro _ _ ⟨rfl,rfl⟩;refine⟨[(37,.nm 1),(200,.nm 2)],.raw (.tuple #[]),De h (m9 h A e 0),rfl,rfl,?_,?_,rfl,rfl,?_⟩
  .simp only[H2,De,h0];first|exact eN|refine eM ?_
  .first|exact eN|refine eM ?_
  simp only[De];have am:=A5b h A e;have aa:=λq=>A5c h A e q az;refine rL c ?_ ?_
  .trivial
  repeat'(first|exact trivial|apply eS rfl|apply AB|refine rP c ?_ ?_|fail)
  refine AI (ι:={q:Nat//q<=e.2.2.length}) (λq=>⟨[(2,.bp 2 [] 0),(3,.bp 3 [] 0),(4,.bp 4 [] 0),(7,.bp 37 [] 0),(9,.p T3 1),(10,.p Br (EH 2 b.length)),(11,.sr 112 T3 0 L.length),(12,.raw (.slice none 0 0)),(18,.bp 18 [] 0),(19,.p T3 (A.length:Int)),(73,.p JE f),(74,.p (.int .i64) (f.length:Int)),(75,.p (.int .i64) (k:Int)),(92,.p T52 e.2.2),(93,.p (.int .i64) (e.2.2.length:Int)),(94,.p (.int .i64) (q.1:Int))],De h (m9 h A e q.1)++[(112,.arr 3 T3 (L)),(18,.box 54 true [.p T9 e.1,.p T3 e.2.1,.p T52 e.2.2]),(4,.box 34 true [.raw (.slice none 0 0)]),(3,.box 41 true [.p T3 tp,.p T3 ix,.p CL b,.p JE f,.p Ke cs]),(2,.box 26 true [.p OW h.1,.p QC h.2])]⟩) (λq=>e.2.2.length-q.1) ⟨0,By _⟩ (AC [(2,.nm 2),(3,.nm 3),(4,.nm 4),(37,.nm 37),(200,.nm 200),(112,.nm 112),(18,.nm 18)] rfl rfl ?_ ?_) (λq=>?_)
  .simp only[De,WY,f5];first|exact eN|refine eM ?_
  .simp only[De,WY,f5];first|exact eN|refine eM ?_
  obtain⟨q,bw⟩:=q;have aa:=aa q;have am:=am q;simp only[De,WY,f5];repeat'(first|exact trivial|apply eS rfl|apply AB|refine rP c ?_ ?_|fail)
  refine rC ?_ ?_<;>intro g
  .have U:q<e.2.2.length:=by exact eV
   have hs:=A9k h A e U;have ag:=s _ (Ar (d:=(ByteArray.empty,(0:Int))) U);have ba:=C _ ag.1 ag.2;rw[<-ba]at hs;repeat'(first|exact trivial|apply eS rfl|apply AB|refine rP c ?_ ?_|fail)
   .exact g
   refine cD 9 c ?_ ?_
   .rw[F];exact ag
   refine rM c (Ef h (m9 h A e q) O1 (n:=(A.length:Int)) O1 O1 aa (e.2.2.getD q (ByteArray.empty,0)).1 ((EH 2 b.length).getD (e.2.2.getD q (ByteArray.empty,0)).2.toNat 0)) [(1,.nm 37),(2,.nm 200)] [200] ?_ ?_ ?_
   .first|exact eN|refine eM ?_
   .first|exact eN|refine eM ?_
   rintro _ _ ⟨rfl,rfl⟩;refine⟨[(37,.nm 1),(200,.nm 2)],.raw (.tuple #[]),De h (m9 h A e (q+1)),rfl,rfl,?_,?_,rfl,rfl,?_⟩
   .simp only[H2,De,hs];first|exact eN|refine eM ?_
   .first|exact eN|refine eM ?_
   simp only[De];refine rL c ?_ ?_
   .trivial
   repeat'(first|exact trivial|apply eS rfl|apply AB|refine rP c ?_ ?_|fail)
   .exact eV
   refine⟨⟨q+1,by omega⟩,by simp only;omega,AC [(2,.nm 2),(3,.nm 3),(4,.nm 4),(37,.nm 37),(200,.nm 200),(112,.nm 112),(18,.nm 18)] rfl rfl ?_ ?_⟩
   .simp only[De,WY,f5];first|exact eN|refine eM ?_
   simp only[De,WY,f5];first|exact eN|refine eM ?_
  have U:q=e.2.2.length:=by omega
  subst U;rw[rD,<-w];repeat'(first|exact trivial|apply eS rfl|apply AB|refine rP c ?_ ?_|fail)
  .simp only[AO];omega
  .exact eV
  refine⟨⟨k+1,by omega⟩,by simp only;omega,AC [(2,.nm 2),(3,.nm 3),(4,.nm 4),(37,.nm 37),(200,.nm 200),(112,.nm 112)] rfl rfl ?_ ?_⟩
  .simp only[De,WY,f5,t,y];first|exact eN|refine eM ?_
  simp only[De,WY,f5,t,y];first|exact eN|refine eM ?_
 have S:k=f.length:=by omega
 subst S;repeat'(first|exact trivial|apply eS rfl|apply AB|refine rP c ?_ ?_|fail)
 refine CK [112] ?_;have bd:=rG h b f cs;simp only[bd];refine AI (ι:={j:Nat//j<=cs.length}) (λj=>⟨[(2,.bp 2 [] 0),(3,.bp 3 [] 0),(4,.bp 4 [] 0),(7,.bp 37 [] 0),(9,.p T3 1),(10,.p Br (EH 2 b.length)),(11,.p Br (EH (2+b.length) f.length)),(12,.sr 142 T3 0 (EH (2+b.length+f.length) j.1).length),(115,.p Ke cs),(116,.p (.int .i64) (cs.length:Int)),(117,.p (.int .i64) (j.1:Int))],De h (vV h b f cs j.1)++[(142,.arr 3 T3 (EH (2+b.length+f.length) j.1)),(4,.box 34 true [.raw (.slice none 0 0)]),(3,.box 41 true [.p T3 tp,.p T3 ix,.p CL b,.p JE f,.p Ke cs]),(2,.box 26 true [.p OW h.1,.p QC h.2])]⟩) (λj=>cs.length-j.1) ⟨0,By _⟩ (AC [(2,.nm 2),(3,.nm 3),(4,.nm 4),(37,.nm 37),(200,.nm 200),(142,.nil)] rfl rfl ?_ ?_) (λj=>?_)
 .simp only[De,WY,f5];first|exact eN|refine eM ?_
  rfl
 .simp only[De,WY,f5];first|exact eN|refine eM ?_
  rfl
 obtain⟨j,H⟩:=j;have y:=a9 h b f cs H;have ae:=DW (2+b.length+f.length) j;have w:=λq=>iO h b f cs (i:=j) q;have t:=MK (2+b.length+f.length) j;simp only[De,WY,f5];repeat'(first|exact trivial|apply eS rfl|apply AB|refine rP c ?_ ?_|fail)
 refine rC ?_ ?_<;>intro g
 .have z:j<cs.length:=by exact eV
  have w:=w z;have P:cs.getD j (0,0)∈cs:=Ar z;obtain⟨ah,ai⟩:=A24 (m:=(tp,ix,b,f,cs)) P;have o:=E _ ah;have s:=E _ ai;simp only at o s;generalize al:vV h b f cs j=A at *;generalize N:EH (2+b.length+f.length) j=L at *;repeat'(first|exact trivial|apply eS rfl|apply AB|refine rP c ?_ ?_|fail)
  .exact g
  generalize au:cs.getD j (0,0)=e at *;have B:=C e.1 o.1 o.2;have Q:=C e.2 s.1 s.2;have bm:=OT h A ⟨#[113,101,113]⟩;have h1:=AA3 h A e;have J:=AA4 h A e;rw[<-B]at h1 J;rw[<-Q]at J;rw[<-w]at J;refine cP 1 c ?_ ?_
  .trivial
  refine rM c (Gj h A O1 ⟨#[113,101,113]⟩) [(1,.nm 37),(2,.nm 200)] [200] ?_ ?_ ?_
  .first|exact eN|refine eM ?_
  .first|exact eN|refine eM ?_
  rintro _ _ ⟨rfl,rfl⟩;refine⟨[(37,.nm 1),(200,.nm 2)],.p T3 (A.length:Int),De h (Iy h A ⟨#[113,101,113]⟩),rfl,rfl,?_,?_,rfl,rfl,?_⟩
  .simp only[H2,De];first|exact eN|refine eM ?_
  .first|exact eN|refine eM ?_
  simp only[De];refine rL c ?_ ?_
  .trivial
  repeat'(first|exact trivial|apply eS rfl|apply AB|refine rP c ?_ ?_|fail)
  refine cP 7 c ?_ ?_
  .rw[F];exact o
  refine rM c (Ef h (Iy h A ⟨#[113,101,113]⟩) O1 (n:=(A.length:Int)) O1 O1 (by unfold Iy;rw[QB];simp) ⟨#[72,73,71,72]⟩ ((EH 2 b.length).getD e.1.toNat 0)) [(1,.nm 37),(2,.nm 200)] [200] ?_ ?_ ?_
  .first|exact eN|refine eM ?_
  .first|exact eN|refine eM ?_
  rintro _ _ ⟨rfl,rfl⟩;refine⟨[(37,.nm 1),(200,.nm 2)],.raw (.tuple #[]),De h (A++[(Ae h ⟨#[113,101,113]⟩,[(A9 h ⟨#[72,73,71,72]⟩,(EH 2 b.length).getD e.1.toNat 0)])]),rfl,rfl,?_,?_,rfl,rfl,?_⟩
  .simp only[H2,De,h1];first|exact eN|refine eM ?_
  .first|exact eN|refine eM ?_
  simp only[De];refine rL c ?_ ?_
  .trivial
  repeat'(first|exact trivial|apply eS rfl|apply AB|refine rP c ?_ ?_|fail)
  refine cP 7 c ?_ ?_
  .rw[F];exact s
  refine rM c (Ef h (A++[(Ae h ⟨#[113,101,113]⟩,[(A9 h ⟨#[72,73,71,72]⟩,(EH 2 b.length).getD e.1.toNat 0)])]) (by simp only[Do,nO];omega) (n:=(A.length:Int)) O1 (by simp only[Do,nO];omega) (by rw[QB];simp) ⟨#[76,79,87]⟩ ((EH 2 b.length).getD e.2.toNat 0)) [(1,.nm 37),(2,.nm 200)] [200] ?_ ?_ ?_
  .first|exact eN|refine eM ?_
  .first|exact eN|refine eM ?_
  rintro _ _ ⟨rfl,rfl⟩;refine⟨[(37,.nm 1),(200,.nm 2)],.raw (.tuple #[]),De h (vV h b f cs (j+1)),rfl,rfl,?_,?_,rfl,rfl,?_⟩
  .simp only[H2,De,J];first|exact eN|refine eM ?_
  .first|exact eN|refine eM ?_
  simp only[De];refine rL c ?_ ?_
  .trivial
  repeat'(first|exact trivial|apply eS rfl|apply AB|refine rP c ?_ ?_|fail)
  .simp only[AO];omega
  .exact eV
  have cb:=a9 h b f cs z;refine⟨⟨j+1,by omega⟩,by simp only;omega,AC [(2,.nm 2),(3,.nm 3),(4,.nm 4),(37,.nm 37),(200,.nm 200),(142,.nm 142)] rfl rfl ?_ ?_⟩
  .simp only[De,WY,f5,t,y];first|exact eN|refine eM ?_
  simp only[De,WY,f5,t,y];first|exact eN|refine eM ?_
 have z:j=cs.length:=by omega
 subst z;repeat'(first|exact trivial|apply eS rfl|apply AB|refine rP c ?_ ?_|fail)
 refine CK [142] ?_;have an:=rH h tp ix b f cs;simp only[an];clear an w y ae t;obtain⟨bj,bk⟩:=qX (tp,ix,b,f,cs);have o:=E _ bj;have s:=E _ bk;simp only at o s;have B:=C tp o.1 o.2;have Q:=C ix s.1 s.2;have bv:pN (tp,ix,b,f,cs)=2+b.length+f.length+cs.length:=rfl;have bx:qN (tp,ix,b,f,cs)=pN (tp,ix,b,f,cs)+f.length+2:=rfl;have be:RH (tp,ix,b,f,cs)=EH (2+b.length) f.length:=rfl;have ax:WU (tp,ix,b,f,cs)=EH (2+b.length+f.length) cs.length:=rfl;have l:=A2b h (tp,ix,b,f,cs);have W:=A5d h (tp,ix,b,f,cs) [] [] (A9 h ⟨#[84,79,80]⟩) ((EH 2 b.length).getD tp.toNat 0);have X:=A5d h (tp,ix,b,f,cs) [(A9 h ⟨#[84,79,80]⟩,2+tp)] [] (A9 h ⟨#[73,78,68,69,88]⟩) ((EH 2 b.length).getD ix.toNat 0);simp only[AAn,f5,AB8]at W X;rw[B]at W;rw[Q]at X;have T:=A5e h (tp,ix,b,f,cs);simp only at T;have af:=λL D (N:L.length<=10) ar=>AA5 I r ak L D N ar;obtain⟨bb,aw,bg⟩:=WX I r ak;generalize bu:(tp,ix,b,f,cs)=m at *;have bt:=DW (2+b.length) f.length;have bs:=DW (2+b.length+f.length) cs.length;have O:=Mt h (pN m) (EH (2+b.length) f.length);refine cP 7 c ?_ ?_
 .rw[F];exact o
 refine rM c (Ef h (QE h m []) (by rw[l];omega) (n:=1) O1 (by rw[l];omega) (by simpa using aZ h m [] [] sc) ⟨#[84,79,80]⟩ ((EH 2 b.length).getD tp.toNat 0)) [(1,.nm 37),(2,.nm 200)] [200] ?_ ?_ ?_
 .first|exact eN|refine eM ?_
 .first|exact eN|refine eM ?_
 rintro _ _ ⟨rfl,rfl⟩;refine⟨[(37,.nm 1),(200,.nm 2)],.raw (.tuple #[]),De h (QE h m [(A9 h ⟨#[84,79,80]⟩,2+tp)]),rfl,rfl,?_,?_,rfl,rfl,?_⟩
 .simp only[H2,De,B,W,l];first|exact eN|refine eM ?_
 .first|exact eN|refine eM ?_
 simp only[De];refine rL c ?_ ?_
 .trivial
 repeat'(first|exact trivial|apply eS rfl|apply AB|refine rP c ?_ ?_|fail)
 refine cP 7 c ?_ ?_
 .rw[F];exact s
 refine rM c (Ef h (QE h m [(A9 h ⟨#[84,79,80]⟩,2+tp)]) (by rw[l];omega) (n:=1) O1 (by rw[l];omega) (by simpa using aZ h m [(A9 h ⟨#[84,79,80]⟩,2+tp)] [] sc) ⟨#[73,78,68,69,88]⟩ ((EH 2 b.length).getD ix.toNat 0)) [(1,.nm 37),(2,.nm 200)] [200] ?_ ?_ ?_
 .first|exact eN|refine eM ?_
 .first|exact eN|refine eM ?_
 rintro _ _ ⟨rfl,rfl⟩;refine⟨[(37,.nm 1),(200,.nm 2)],.raw (.tuple #[]),De h (QE h m [(A9 h ⟨#[84,79,80]⟩,2+tp),(A9 h ⟨#[73,78,68,69,88]⟩,2+ix)]),rfl,rfl,?_,?_,rfl,rfl,?_⟩
 .simp only[H2,De,Q,X,l];first|exact eN|refine eM ?_
 .first|exact eN|refine eM ?_
 simp only[De];refine rL c ?_ ?_
 .trivial
 repeat'(first|exact trivial|apply eS rfl|apply AB|refine rP c ?_ ?_|fail)
 refine cP 4 c ?_ ?_
 .trivial
 refine rM c (iC h (QE h m [(A9 h ⟨#[84,79,80]⟩,2+tp),(A9 h ⟨#[73,78,68,69,88]⟩,2+ix)]) (by rw[l];omega) (K:=12) (by simpa using af [(A9 h ⟨#[84,79,80]⟩,2+tp),(A9 h ⟨#[73,78,68,69,88]⟩,2+ix)] [] sc (λx bn=>by cases bn)) O1 (EH (2+b.length) f.length) O1) [(1,.nm 37),(2,.nm 200)] [200] ?_ ?_ ?_
 .first|exact eN|refine eM ?_
 .first|exact eN|refine eM ?_
 rintro _ _ ⟨rfl,rfl⟩;refine⟨[(37,.nm 1),(200,.nm 2)],.p T3 (pN m:Int),De h (QE h m [(A9 h ⟨#[84,79,80]⟩,2+tp),(A9 h ⟨#[73,78,68,69,88]⟩,2+ix)]++QD h (pN m) (EH (2+b.length) f.length)),rfl,rfl,?_,?_,rfl,rfl,?_⟩
 .simp only[H2,De,qV,l];first|exact eN|refine eM ?_
 .first|exact eN|refine eM ?_
  all_goals rw[l]
 simp only[De];have aj:=A5d h m [(A9 h ⟨#[84,79,80]⟩,2+tp),(A9 h ⟨#[73,78,68,69,88]⟩,2+ix)] (QD h (pN m) (EH (2+b.length) f.length)) (A9 h ⟨#[82,69,76,83]⟩) (pN m:Int);simp only[WY,f5]at aj;refine rM c (Ef h (QE h m [(A9 h ⟨#[84,79,80]⟩,2+tp),(A9 h ⟨#[73,78,68,69,88]⟩,2+ix)]++QD h (pN m) (EH (2+b.length) f.length)) (by rw[Do,l,O];omega) (n:=1) O1 (by rw[Do,l,O];omega) (aZ h m [(A9 h ⟨#[84,79,80]⟩,2+tp),(A9 h ⟨#[73,78,68,69,88]⟩,2+ix)] _ sc) ⟨#[82,69,76,83]⟩ (pN m:Int)) [(1,.nm 37),(2,.nm 200)] [200] ?_ ?_ ?_
 .first|exact eN|refine eM ?_
 .first|exact eN|refine eM ?_
 rintro _ _ ⟨rfl,rfl⟩;refine⟨[(37,.nm 1),(200,.nm 2)],.raw (.tuple #[]),De h (QE h m [(A9 h ⟨#[84,79,80]⟩,2+tp),(A9 h ⟨#[73,78,68,69,88]⟩,2+ix),(A9 h ⟨#[82,69,76,83]⟩,(pN m:Int))]++QD h (pN m) (EH (2+b.length) f.length)),rfl,rfl,?_,?_,rfl,rfl,?_⟩
 .simp only[H2,De,aj];first|exact eN|refine eM ?_
 .first|exact eN|refine eM ?_
 simp only[De];refine rL c ?_ ?_
 .trivial
 repeat'(first|exact trivial|apply eS rfl|apply AB|refine rP c ?_ ?_|fail)
 have ay:=Mt h (qN m) (EH (2+b.length+f.length) cs.length);have ab:(QE h m [(A9 h ⟨#[84,79,80]⟩,2+tp),(A9 h ⟨#[73,78,68,69,88]⟩,2+ix),(A9 h ⟨#[82,69,76,83]⟩,(pN m:Int))]++QD h (pN m) (EH (2+b.length) f.length)).length=qN m:=by rw[Do,l,O];omega
 refine cP 4 c ?_ ?_
 .trivial
 refine rM c (iC h (QE h m [(A9 h ⟨#[84,79,80]⟩,2+tp),(A9 h ⟨#[73,78,68,69,88]⟩,2+ix),(A9 h ⟨#[82,69,76,83]⟩,(pN m:Int))]++QD h (pN m) (EH (2+b.length) f.length)) (by rw[ab];omega) (K:=12) (af [(A9 h ⟨#[84,79,80]⟩,2+tp),(A9 h ⟨#[73,78,68,69,88]⟩,2+ix),(A9 h ⟨#[82,69,76,83]⟩,(pN m:Int))] _ sc (AA6 h _ _)) O1 (EH (2+b.length+f.length) cs.length) O1) [(1,.nm 37),(2,.nm 200)] [200] ?_ ?_ ?_
 .first|exact eN|refine eM ?_
 .first|exact eN|refine eM ?_
 rintro _ _ ⟨rfl,rfl⟩;refine⟨[(37,.nm 1),(200,.nm 2)],.p T3 (qN m:Int),De h (QE h m [(A9 h ⟨#[84,79,80]⟩,2+tp),(A9 h ⟨#[73,78,68,69,88]⟩,2+ix),(A9 h ⟨#[82,69,76,83]⟩,(pN m:Int))]++(QD h (pN m) (EH (2+b.length) f.length)++QD h (qN m) (EH (2+b.length+f.length) cs.length))),rfl,rfl,?_,?_,rfl,rfl,?_⟩
 .simp only[H2,De,qV,ab,AA9];first|exact eN|refine eM ?_
 .first|exact eN|refine eM ?_
  all_goals(rw[<-Do,ab])
 simp only[De];have Y:=A5d h m [(A9 h ⟨#[84,79,80]⟩,2+tp),(A9 h ⟨#[73,78,68,69,88]⟩,2+ix),(A9 h ⟨#[82,69,76,83]⟩,(pN m:Int))] (QD h (pN m) (EH (2+b.length) f.length)++QD h (qN m) (EH (2+b.length+f.length) cs.length)) (A9 h ⟨#[67,79,78,83]⟩) (qN m:Int);simp only[WY,f5]at Y;rw[be,ax]at T;rw[T]at Y;refine rM c (Ef h (QE h m [(A9 h ⟨#[84,79,80]⟩,2+tp),(A9 h ⟨#[73,78,68,69,88]⟩,2+ix),(A9 h ⟨#[82,69,76,83]⟩,(pN m:Int))]++(QD h (pN m) (EH (2+b.length) f.length)++QD h (qN m) (EH (2+b.length+f.length) cs.length))) (by rw[Do,Do,l,O,ay];omega) (n:=1) O1 (by rw[Do,l];omega) (aZ h m [(A9 h ⟨#[84,79,80]⟩,2+tp),(A9 h ⟨#[73,78,68,69,88]⟩,2+ix),(A9 h ⟨#[82,69,76,83]⟩,(pN m:Int))] _ sc) ⟨#[67,79,78,83]⟩ (qN m:Int)) [(1,.nm 37),(2,.nm 200)] [200] ?_ ?_ ?_
 .first|exact eN|refine eM ?_
 .first|exact eN|refine eM ?_
 rintro _ _ ⟨rfl,rfl⟩;refine⟨[(37,.nm 1),(200,.nm 2)],.raw (.tuple #[]),De h (Bp h m),rfl,rfl,?_,?_,rfl,rfl,?_⟩
 .simp only[H2,De,Y];first|exact eN|refine eM ?_
 .first|exact eN|refine eM ?_
 simp only[De];refine rL c ?_ ?_
 .trivial
 repeat'(first|exact trivial|apply eS rfl|apply AB|refine rP c ?_ ?_|fail)
 refine CK [200] ?_;clear T Y aj X W af;repeat'(first|exact trivial|apply eS rfl|apply AB|refine rP c ?_ ?_|fail)
 .exact bg
 refine rC ?_ ?_<;>intro g
 .exact absurd aw (by simpa using g)
 repeat'(first|exact trivial|apply eS rfl|apply AB|refine rP c ?_ ?_|fail)
 .exact bb
 refine rC ?_ ?_<;>intro g
 .have hf:(Cv h (BR (Bp h m)).1).2=false:=by simpa using g
  rw[As (by rw[hf];simp)];repeat'(first|exact trivial|apply eS rfl|apply AB|refine rX c ?_ ?_|refine rC ?_ ?_<;>intro g<;>try(cases g;done))
  exact fI c [.cell 4 34,.tmp 5] (by first|exact eR|refine Kv ?_;rfl)
 have hf:(Cv h (BR (Bp h m)).1).2=true:=by simpa using g
 rw[BY hf];repeat'(first|exact trivial|apply eS rfl|apply AB|refine rX c ?_ ?_|refine rC ?_ ?_<;>intro g<;>try(cases g;done))
 exact fI c [.cell 4 34,.tmp 5]
end
section
attribute [local go_sem] aU NQ aP aR aQ WP VT Kw Kh My Jc Iu NH
def RL (h:AE) (m:Bj):List AD×Int:=if DJ h m.2.2.2.1≠0 then ([],DJ h m.2.2.2.1) else BR (El h m)
def nA:AW:={ ins:=[FK,XZ],pre:=λ(h,m,_)=>Dh h/\Wc m,out:=λ(h,m,_)=>[.p Fm (RL h m).1,.p C6 (RL h m).2] }
def rwL (h:AE) (e:G8) (q:Nat):List (Int×Int):=(A9 h ⟨#[76,65,66,69,76]⟩,2+e.2.1) :: (e.2.2.take q).map λa=>(A9 h a.1,2+a.2)
theorem A5g (h:AE) (e:G8) {q:Nat} (a:q<=e.2.2.length):(rwL h e q).length=q+1:=by simp[rwL];omega
theorem A9l (h:AE) (e:G8) {q:Nat} (b:q<e.2.2.length):rwL h e (q+1)=rwL h e q++[(A9 h (e.2.2.getD q (ByteArray.empty,0)).1,2+(e.2.2.getD q (ByteArray.empty,0)).2)]:=by
 unfold rwL;rw[Mg (λa:ST=>(A9 h a.1,2+a.2)) e.2.2 (ByteArray.empty,0) b];rfl
theorem A5h (h:AE) (e:G8):(Ae h e.1,rwL h e e.2.2.length)=rkF h e:=by
 unfold rwL rkF;rw[At (Of _)]
theorem A2c:AY Tryz.prog 22 nA:=by
 refine fKP [0,1,2,3,4,5,6,7,8,9,10,11,12,13,14,15,16,17,18,19,20,21,22,23,28,54,72,106,151,255,259] [39,95,134,141,168,182,189,221,231,239,247,263,273] [] Tryz.func22 Tryz.ntmps22 (AF vO (AF Mm (AF iD (AF iE (AF vM (AF m3 (AF A0K AH))))))) ?_;rintro w0 O0 ⟨h,⟨tp,ix,c,b,cs⟩,u⟩ g-⟨K,s⟩;have K:Dh h:=K;have s:Wc (tp,ix,c,b,cs):=s;have ap:=K.so;have al:Mz (tp,ix,c,b,cs):=⟨trivial,by have:=s.rels;omega,λe o=>by have:=s.args e o;omega,by have:=s.cons;omega⟩;have be:c.length<=256:=s.vars;have bd:b.length<=4:=s.rels;have aw:cs.length<=4:=s.cons;have ae:∀e∈b,e.2.2.length<=10:=s.args;have y:RJ (tp,ix,c,b,cs):=s.rng;have Y:RL h (tp,ix,c,b,cs)=if DJ h b≠0 then ([],DJ h b) else BR (El h (tp,ix,c,b,cs)):=rfl
 have o:(h.1,h.2)=h:=rfl;simp only[nA,AL];repeat'(first|exact trivial|apply eS rfl|apply AB|refine rP g ?_ ?_|fail)
 all_goals try simp only[o]at *
 .exact⟨ap,K.h14.ok,al⟩
 refine rC ?_ ?_<;>intro n
 .have n:DJ h b≠0:=by simpa using n
  rw[Y,BY n];repeat'(first|exact trivial|apply eS rfl|apply AB|refine rX g ?_ ?_|refine rC ?_ ?_<;>intro n<;>try(cases n;done))
  exact fI g [.cell 4 34,.tmp 5] (by first|exact eR|refine Kv ?_;rfl)
 have aa:DJ h b=0:=by simpa using n
 clear n;rw[Y,As (by rw[aa];simp)];repeat'(first|exact trivial|apply eS rfl|apply AB|refine rP g ?_ ?_|fail)
 refine rX g ?_ ?_
 .decide
 repeat'(first|exact trivial|apply eS rfl|apply AB|refine rP g ?_ ?_|fail)
 refine CK [40] ?_;try simp only[o]
 repeat'(first|exact trivial|apply eS rfl|apply AB|refine rX g ?_ ?_|refine rC ?_ ?_<;>intro n<;>try(cases n;done))
 have bf:=λi (hi:i<=c.length)=>aY h c hi;refine AI (ι:={i:Nat//i<=c.length}) (λi=>⟨[(2,.bp 2 [] 0),(3,.bp 3 [] 0),(4,.bp 4 [] 0),(7,.bp 7 [] 0),(9,.p (.int .i64) (i.1:Int))],[(7,.box 34 true [.p JD (wA h c i.1)]),(4,.box 34 true [.raw (.slice none 0 0)]),(3,.box 41 true [.p T3 tp,.p T3 ix,.p CL c,.p JE b,.p Ke cs]),(2,.box 26 true [.p OW h.1,.p QC h.2])]⟩) (λi=>c.length-i.1) ⟨0,By _⟩ (AC [(2,.nm 2),(3,.nm 3),(4,.nm 4),(7,.nm 7)] rfl rfl ?_ ?_) (λi=>?_)
 .first|exact eN|refine eM ?_
  all_goals rfl
 .first|exact eN|refine eM ?_
  all_goals rfl
 obtain⟨i,hi⟩:=i;have r:=aY h c hi;have A:=λq=>iL h c (i:=i) q;simp only;repeat'(first|exact trivial|apply eS rfl|apply AB|refine rP g ?_ ?_|fail)
 refine rC ?_ ?_<;>intro n
 .have v:i<c.length:=by exact eV
  have A:=A v;unfold vkF at A;repeat'(first|exact trivial|apply eS rfl|apply AB|refine rX g ?_ ?_|refine rC ?_ ?_<;>intro n<;>try(cases n;done))
  .refine⟨n,?_⟩;rw[r];omega
  .exact eV
  try simp only[o]
  refine⟨⟨i+1,by omega⟩,by simp only;omega,AC [(2,.nm 2),(3,.nm 3),(4,.nm 4),(7,.nm 7)] rfl rfl ?_ ?_⟩
  .simp only[A];first|exact eN|refine eM ?_
  simp only[A];first|exact eN|refine eM ?_
 have v:i=c.length:=by exact eV
 subst v;have av:=rE h c b;simp only[av];clear A r;repeat'(first|exact trivial|apply eS rfl|apply AB|refine rP g ?_ ?_|fail)
 refine AI (ι:={k:Nat//k<=b.length}) (λk=>⟨[(2,.bp 2 [] 0),(3,.bp 3 [] 0),(4,.bp 4 [] 0),(7,.bp 7 [] 0),(10,.sr 67 T3 0 (EH (2+c.length) k.1).length),(11,.p (.int .i64) (k.1:Int))],[(67,.arr 3 T3 (EH (2+c.length) k.1)),(7,.box 34 true [.p JD (rB h c b k.1)]),(4,.box 34 true [.raw (.slice none 0 0)]),(3,.box 41 true [.p T3 tp,.p T3 ix,.p CL c,.p JE b,.p Ke cs]),(2,.box 26 true [.p OW h.1,.p QC h.2])]⟩) (λk=>b.length-k.1) ⟨0,By _⟩ (AC [(2,.nm 2),(3,.nm 3),(4,.nm 4),(7,.nm 7),(67,.nm 67)] rfl rfl ?_ ?_) (λk=>?_)
 .first|exact eN|refine eM ?_
  all_goals rfl
 .first|exact eN|refine eM ?_
  all_goals rfl
 obtain⟨k,hk⟩:=k;have r:=rF h c b hk;have S:=DW (2+c.length) k;have t:=λq=>iM h c b (i:=k) q;have x:=MK (2+c.length) k;simp only;repeat'(first|exact trivial|apply eS rfl|apply AB|refine rP g ?_ ?_|fail)
 refine rC ?_ ?_<;>intro n
 .have T:(k:Int)<(b.length:Int):=n;have D:k<b.length:=by exact eV
  have t:=t D;have N:b.getD k (ByteArray.empty,0,[])∈b:=Ar D;have ax:=ae _ N;obtain⟨V,W⟩:=A23 (m:=(tp,ix,c,b,cs)) N;have E:=y _ V;have H:∀a∈(b.getD k (ByteArray.empty,0,[])).2.2,0<=a.2/\a.2<(c.length:Int):=λa ha=>y _ (W a ha);simp only at E;have bg:=rD h (rB h c b k) (b.getD k (ByteArray.empty,0,[]));repeat'(first|exact trivial|apply eS rfl|apply AB|refine rP g ?_ ?_|fail)
  refine rX g ?_ ?_
  .exact n
  repeat'(first|exact trivial|apply eS rfl|apply AB|refine rP g ?_ ?_|fail)
  refine rX g ?_ ?_
  .exact⟨n,⟨by omega,by omega⟩,by decide⟩
  try simp only[o]
  repeat'(first|exact trivial|apply eS rfl|apply AB|refine rP g ?_ ?_|fail)
  refine AI (ι:={q:Nat//q<=(b.getD k (ByteArray.empty,0,[])).2.2.length}) (λq=>⟨[(2,.bp 2 [] 0),(3,.bp 3 [] 0),(4,.bp 4 [] 0),(7,.bp 7 [] 0),(10,.sr 67 T3 0 (EH (2+c.length) k).length),(11,.p (.int .i64) (k:Int)),(12,.bp 12 [] 0),(13,.p (.int .i64) (q.1:Int))],[(12,.box 57 true [.p T3 (Ae h (b.getD k (ByteArray.empty,0,[])).1),.sr 96 C7 0 (rwL h (b.getD k (ByteArray.empty,0,[])) q.1).length]),(96,.arr 59 C7 (rwL h (b.getD k (ByteArray.empty,0,[])) q.1)),(67,.arr 3 T3 (EH (2+c.length) k)),(7,.box 34 true [.p JD (rB h c b k)]),(4,.box 34 true [.raw (.slice none 0 0)]),(3,.box 41 true [.p T3 tp,.p T3 ix,.p CL c,.p JE b,.p Ke cs]),(2,.box 26 true [.p OW h.1,.p QC h.2])]⟩) (λq=>(b.getD k (ByteArray.empty,0,[])).2.2.length-q.1) ⟨0,By _⟩ (AC [(2,.nm 2),(3,.nm 3),(4,.nm 4),(7,.nm 7),(67,.nm 67),(12,.nm 12),(96,.nm 96)] rfl rfl ?_ ?_) (λq=>?_)
  .first|exact eN|refine eM ?_
   all_goals(first|rfl|exact⟨rfl,rfl⟩)
  .first|exact eN|refine eM ?_
   all_goals(first|rfl|exact⟨rfl,rfl⟩)
  obtain⟨q,am⟩:=q;have ak:=A5g h (b.getD k (ByteArray.empty,0,[])) am;have J:=λz=>A9l h (b.getD k (ByteArray.empty,0,[])) (q:=q) z;simp only;repeat'(first|exact trivial|apply eS rfl|apply AB|refine rP g ?_ ?_|fail)
  .exact T
  refine rC ?_ ?_<;>intro n
  .have L:q<(b.getD k (ByteArray.empty,0,[])).2.2.length:=by exact eV
   have ba:=H _ (Ar (d:=(ByteArray.empty,(0:Int))) L);have J:=J L;repeat'(first|exact trivial|apply eS rfl|apply AB|refine rP g ?_ ?_|fail)
   refine rX g ?_ ?_
   .exact⟨T,n,T,n,⟨by exact eV,by exact eV⟩,by rw[ak];simp only[AO];omega⟩
   try simp only[o]
   rw[<-J];repeat'(first|exact trivial|apply eS rfl|apply AB|refine rP g ?_ ?_|fail)
   .exact eV
   refine⟨⟨q+1,L⟩,by simp only;omega,AC [(2,.nm 2),(3,.nm 3),(4,.nm 4),(7,.nm 7),(67,.nm 67),(12,.nm 12),(96,.nm 96)] rfl rfl ?_ ?_⟩
   .first|exact eN|refine eM ?_
    all_goals(first|rfl|exact⟨rfl,rfl⟩|rw[J,Do];rfl)
   first|exact eN|refine eM ?_
   all_goals(first|rfl|exact⟨rfl,rfl⟩|rw[J,Do];rfl)
  have L:q=(b.getD k (ByteArray.empty,0,[])).2.2.length:=by exact eV
  subst L;have ao:=A5h h (b.getD k (ByteArray.empty,0,[]));repeat'(first|exact trivial|apply eS rfl|apply AB|refine rP g ?_ ?_|fail)
  .simp only[AO];omega
  refine CK [96] ?_;repeat'(first|exact trivial|apply eS rfl|apply AB|refine rP g ?_ ?_|fail)
  .rw[r];omega
  .exact eV
  simp only[ao,<-t];refine⟨⟨k+1,D⟩,by simp only;omega,AC [(2,.nm 2),(3,.nm 3),(4,.nm 4),(7,.nm 7),(67,.nm 67)] rfl rfl ?_ ?_⟩
  .simp only[x,r];first|exact eN|refine eM ?_
  simp only[x,r];first|exact eN|refine eM ?_
 have D:k=b.length:=by exact eV
 subst D;have an:=rG h c b cs;simp only[an];clear t r S x;repeat'(first|exact trivial|apply eS rfl|apply AB|refine rP g ?_ ?_|fail)
 refine CK [67] ?_;refine AI (ι:={j:Nat//j<=cs.length}) (λj=>⟨[(2,.bp 2 [] 0),(3,.bp 3 [] 0),(4,.bp 4 [] 0),(7,.bp 7 [] 0),(10,.p Br (EH (2+c.length) b.length)),(14,.sr 146 T3 0 (EH (2+c.length+b.length) j.1).length),(15,.p (.int .i64) (j.1:Int))],[(146,.arr 3 T3 (EH (2+c.length+b.length) j.1)),(7,.box 34 true [.p JD (vV h c b cs j.1)]),(4,.box 34 true [.raw (.slice none 0 0)]),(3,.box 41 true [.p T3 tp,.p T3 ix,.p CL c,.p JE b,.p Ke cs]),(2,.box 26 true [.p OW h.1,.p QC h.2])]⟩) (λj=>cs.length-j.1) ⟨0,By _⟩ (AC [(2,.nm 2),(3,.nm 3),(4,.nm 4),(7,.nm 7),(146,.nm 146)] rfl rfl ?_ ?_) (λj=>?_)
 .first|exact eN|refine eM ?_
  all_goals(first|rfl|exact⟨rfl,rfl⟩)
 .first|exact eN|refine eM ?_
  all_goals(first|rfl|exact⟨rfl,rfl⟩)
 obtain⟨j,aj⟩:=j;have r:=a9 h c b cs aj;have S:=DW (2+c.length+b.length) j;have t:=λq=>iO h c b cs (i:=j) q;have x:=MK (2+c.length+b.length) j;simp only;repeat'(first|exact trivial|apply eS rfl|apply AB|refine rP g ?_ ?_|fail)
 refine rC ?_ ?_<;>intro n
 .have C:j<cs.length:=by exact eV
  have t:=t C;unfold ckF at t;have N:cs.getD j (0,0)∈cs:=Ar C;obtain⟨V,W⟩:=A24 (m:=(tp,ix,c,b,cs)) N;have E:=y _ V;have H:=y _ W;simp only at E H;repeat'(first|exact trivial|apply eS rfl|apply AB|refine rP g ?_ ?_|fail)
  refine rX g ?_ ?_
  .exact⟨n,⟨by exact eV,by exact eV⟩,by decide⟩
  try simp only[o]
  repeat'(first|exact trivial|apply eS rfl|apply AB|refine rP g ?_ ?_|fail)
  refine rX g ?_ ?_
  .exact⟨n,⟨by exact eV,by exact eV⟩,by decide⟩
  try simp only[o]
  repeat'(first|exact trivial|apply eS rfl|apply AB|refine rP g ?_ ?_|fail)
  .simp only[AO];omega
  refine CK [169] ?_;repeat'(first|exact trivial|apply eS rfl|apply AB|refine rP g ?_ ?_|fail)
  .rw[r];omega
  .exact eV
  rw[<-t];refine⟨⟨j+1,C⟩,by simp only;omega,AC [(2,.nm 2),(3,.nm 3),(4,.nm 4),(7,.nm 7),(146,.nm 146)] rfl rfl ?_ ?_⟩
  .simp only[x,r];first|exact eN|refine eM ?_
  simp only[x,r];first|exact eN|refine eM ?_
 have C:j=cs.length:=by exact eV
 subst C;have af:=rH h tp ix c b cs;simp only[af];clear t r S x;have B:=A2b h (tp,ix,c,b,cs) [];have bb:pN (tp,ix,c,b,cs)=2+c.length+b.length+cs.length:=rfl;have bc:qN (tp,ix,c,b,cs)=pN (tp,ix,c,b,cs)+b.length+2:=rfl;have I:=DW (2+c.length) b.length;have U:=DW (2+c.length+b.length) cs.length;have P:∀f l,H3 h f l=(f++Wb h f.length l,((f.length+l.length+1:Nat):Int)):=A1Z h;have Q:=KU h (pN (tp,ix,c,b,cs)) (EH (2+c.length) b.length);have ag:=KU h (qN (tp,ix,c,b,cs)) (EH (2+c.length+b.length) cs.length);have o:(h.1,h.2)=h:=rfl;repeat'(first|exact trivial|apply eS rfl|apply AB|refine rP g ?_ ?_|fail)
 .rw[B,I];omega
 simp only[o,P,B,I];refine CK [146] ?_;repeat'(first|exact trivial|apply eS rfl|apply AB|refine rP g ?_ ?_|fail)
 .rw[B,Q,I,U];omega
 .have M:(QE h (tp,ix,c,b,cs) []++Wb h (pN (tp,ix,c,b,cs)) (EH (2+c.length) b.length)).length=qN (tp,ix,c,b,cs):=by rw[Do,B,Q,I];omega
  rw[o,P];simp only;rw[Do,M];exact eV
 have M:(QE h (tp,ix,c,b,cs) []++Wb h (pN (tp,ix,c,b,cs)) (EH (2+c.length) b.length)).length=qN (tp,ix,c,b,cs):=by rw[Do,B,Q,I];omega
 simp only[o,P,M,U];obtain⟨ar,au⟩:=qX (tp,ix,c,b,cs);have E:=y _ ar;have H:=y _ au;simp only at E H;have R:((QE h (tp,ix,c,b,cs) []++Wb h (pN (tp,ix,c,b,cs)) (EH (2+c.length) b.length)++Wb h (qN (tp,ix,c,b,cs)) (EH (2+c.length+b.length) cs.length)).getD 1 (0,[])).1=Ae h ⟨#[115,101,109]⟩:=rfl;have O:(QE h (tp,ix,c,b,cs) []++Wb h (pN (tp,ix,c,b,cs)) (EH (2+c.length) b.length)++Wb h (qN (tp,ix,c,b,cs)) (EH (2+c.length+b.length) cs.length)).set 1 (Ae h ⟨#[115,101,109]⟩,[(A9 h ⟨#[84,79,80]⟩,2+tp),(A9 h ⟨#[73,78,68,69,88]⟩,2+ix),(A9 h ⟨#[82,69,76,83]⟩,((pN (tp,ix,c,b,cs)+b.length:Nat):Int)+1),(A9 h ⟨#[67,79,78,83]⟩,((qN (tp,ix,c,b,cs)+cs.length:Nat):Int)+1)])=El h (tp,ix,c,b,cs):=rfl;simp only[R];have aq:=(RK K s aa).2;have ay:(QE h (tp,ix,c,b,cs) []++Wb h (pN (tp,ix,c,b,cs)) (EH (2+c.length) b.length)++Wb h (qN (tp,ix,c,b,cs)) (EH (2+c.length+b.length) cs.length)).length<=1000:=by
  rw[Do,M,ag,U];omega
 generalize QE h (tp,ix,c,b,cs) []++Wb h (pN (tp,ix,c,b,cs)) (EH (2+c.length) b.length)++Wb h (qN (tp,ix,c,b,cs)) (EH (2+c.length+b.length) cs.length)=F at *;generalize El h (tp,ix,c,b,cs)=G at *;refine rX g ?_ ?_
 .exact⟨⟨by exact eV,by exact eV⟩,by decide⟩
 repeat'(first|exact trivial|apply eS rfl|apply AB|refine rP g ?_ ?_|fail)
 refine rX g ?_ ?_
 .exact⟨⟨by exact eV,by exact eV⟩,by decide⟩
 repeat'(first|exact trivial|apply eS rfl|apply AB|refine rP g ?_ ?_|fail)
 refine rX g ?_ ?_
 .decide
 repeat'(first|exact trivial|apply eS rfl|apply AB|refine rP g ?_ ?_|fail)
 refine rX g ?_ ?_
 .decide
 simp only[o];repeat'(first|exact trivial|apply eS rfl|apply AB|refine rP g ?_ ?_|fail)
 refine CK [222] ?_;have az:G.length=F.length:=by rw[<-O,AAk]
 have ah:∀i,i≠1->G.getD i (0,[])=F.getD i (0,[]):=λi hi=>by
  rw[<-O,AS,ACh (λq=>hi q.symm),AS]
 have R:1<F.length->G.getD 1 (0,[])=(Ae h ⟨#[115,101,109]⟩,[(A9 h ⟨#[84,79,80]⟩,2+tp),(A9 h ⟨#[73,78,68,69,88]⟩,2+ix),(A9 h ⟨#[82,69,76,83]⟩,((pN (tp,ix,c,b,cs)+b.length:Nat):Int)+1),(A9 h ⟨#[67,79,78,83]⟩,((qN (tp,ix,c,b,cs)+cs.length:Nat):Int)+1)]):=λq=>by
  rw[<-O,AS,AC1 q];rfl
 generalize ad:([(A9 h ⟨#[84,79,80]⟩,2+tp),(A9 h ⟨#[73,78,68,69,88]⟩,2+ix),(A9 h ⟨#[82,69,76,83]⟩,((pN (tp,ix,c,b,cs)+b.length:Nat):Int)+1),(A9 h ⟨#[67,79,78,83]⟩,((qN (tp,ix,c,b,cs)+cs.length:Nat):Int)+1)]:List (Int×Int))=X at *;clear O ad;refine AI (ι:={i:Nat//i<=F.length}) (λi=>⟨[(2,.bp 2 [] 0),(3,.bp 3 [] 0),(4,.bp 4 [] 0),(7,.bp 7 [] 0),(19,.bp 19 [] 0),(20,.bp 20 [] 0),(21,.p (.int .i64) (i.1:Int))],[(20,.box 34 true [.sr 274 Md 0 (G.take i.1).length]),(274,.arr 57 Md (G.take i.1)),(19,.box 57 true [.p T3 (Ae h ⟨#[115,101,109]⟩),.p Mx X]),(7,.box 34 true [.p JD (F)]),(4,.box 34 true [.raw (.slice none 0 0)]),(3,.box 41 true [.p T3 tp,.p T3 ix,.p CL c,.p JE b,.p Ke cs]),(2,.box 26 true [.p OW h.1,.p QC h.2])]⟩) (λi=>F.length-i.1) ⟨0,By _⟩ (AC [(2,.nm 2),(3,.nm 3),(4,.nm 4),(7,.nm 7),(19,.nm 19),(20,.nm 20),(274,.nil)] rfl rfl ?_ ?_) (λi=>?_)
 .first|exact eN|refine eM ?_
  all_goals(first|rfl|exact⟨rfl,rfl⟩)
 .first|exact eN|refine eM ?_
  all_goals(first|rfl|exact⟨rfl,rfl⟩)
 obtain⟨i,hi⟩:=i;have Z:(G.take i).length=i:=by rw[OR];omega
 have w:=λq:i<G.length=>Ag G (0,[]) q;simp only;repeat'(first|exact trivial|apply eS rfl|apply AB|refine rP g ?_ ?_|fail)
 refine rC ?_ ?_<;>intro n
 .have v:i<F.length:=by exact eV
  have w:=w O1;repeat'(first|exact trivial|apply eS rfl|apply AB|refine rP g ?_ ?_|fail)
  refine rC ?_ ?_<;>intro n
  .have ai:i=1:=by omega
   subst ai;rw[R v]at w;repeat'(first|exact trivial|apply eS rfl|apply AB|refine rP g ?_ ?_|fail)
   .rw[Z];decide
   .exact eV
   refine⟨⟨2,v⟩,by simp only;omega,AC [(2,.nm 2),(3,.nm 3),(4,.nm 4),(7,.nm 7),(19,.nm 19),(20,.nm 20),(274,.nm 274)] rfl rfl ?_ ?_⟩
   .simp only[w];first|exact eN|refine eM ?_
   simp only[w];first|exact eN|refine eM ?_
  rw[ah i O1]at w;repeat'(first|exact trivial|apply eS rfl|apply AB|refine rP g ?_ ?_|fail)
  refine rX g ?_ ?_
  .refine⟨by omega,?_⟩;rw[Z];simp only[AO];omega
  repeat'(first|exact trivial|apply eS rfl|apply AB|refine rP g ?_ ?_|fail)
  .exact eV
  refine⟨⟨i+1,v⟩,by simp only;omega,AC [(2,.nm 2),(3,.nm 3),(4,.nm 4),(7,.nm 7),(19,.nm 19),(20,.nm 20),(274,.nm 274)] rfl rfl ?_ ?_⟩
  .simp only[w];first|exact eN|refine eM ?_
  simp only[w];first|exact eN|refine eM ?_
 have v:i=F.length:=by exact eV
 have ab:G.take i=G:=At O1;rw[ab];refine CK [274] ?_;repeat'(first|exact trivial|apply eS rfl|apply AB|refine rP g ?_ ?_|fail)
 .exact aq
 exact fI g [.cell 4 34,.tmp 5]
end
section
attribute [local go_sem] JL Kw Kh My Jc Iu NH
abbrev HF:=ByteArray×Int×Int×List ByteArray×List ByteArray
def A5i:AW:={ ins:=[.int .u8,.int .u8,.int .u8],pre:=λ_=>True,out:=λ(c,a,b,_)=>[.p .bool (CH a b c)] }
attribute [local go_sem] A5i
theorem A7J:AY Tryz.prog 120 A5i:=by
 refine fK [0,1,2,6] Tryz.func120 Tryz.ntmps120 AH ?_;rintro w0 O0 ⟨c,a,b,u⟩ d - -;simp only[A5i,AL];repeat'(first|exact trivial|apply eS rfl|apply AB|refine rX d ?_ ?_|refine rC ?_ ?_<;>intro e<;>try(cases e;done))
 exact fI d [.tmp 6] (by first|exact eR|refine Kv ?_;rfl)
def nxB (r:HF) (c:Int):Bool:=r.2.2.1==0&&decide (r.2.1<(r.1.size:Int))&&NF r.1 r.2.1.toNat==c
def A5j:AW:={ ins:=[Wm,.int .u8],pre:=λ(r,_,_)=>0<=(r:HF).2.1,out:=λ(r,c,_)=>[.p .bool (nxB r c)] }
attribute [local go_sem] A5j
theorem A2d:AY Tryz.prog 121 A5j:=by
 refine fK [0,1,2,4] Tryz.func121 Tryz.ntmps121 AH ?_;rintro w0 O0 ⟨⟨s,n,e,so,te⟩,c,u⟩ a-h0;have h0:0<=n:=h0;simp only[A5j,AL];repeat'(first|exact trivial|apply eS rfl|apply AB|refine rX a ?_ ?_|refine rC ?_ ?_<;>intro b<;>try(cases b;done))
 .intro q;simp only[An,If]at q;exact⟨h0,q.2⟩
 exact fI a [.tmp 4] (by first|exact eR|refine Kv ?_;rfl)
def iQ:AW:={ ins:=[Wm,T9],pre:=λ(r,w,_)=>ByteArray.size (r:HF).1<=1000/\(r:HF).2.2.1=0/\0<=(r:HF).2.1/\(r:HF).2.1+(ByteArray.size w:Int)<=(ByteArray.size (r:HF).1:Int)/\∀i,i<ByteArray.size w->NF (r:HF).1 ((r:HF).2.1.toNat+i)=NF w i,out:=λ(r,w,_)=>[.p Wm ((r:HF).1,(r:HF).2.1+(ByteArray.size w:Int),(0:Int),(r:HF).2.2.2.1,(r:HF).2.2.2.2)] }
attribute [local go_sem] iQ
theorem bA:AY Tryz.prog 70 iQ:=by
 refine fK [0,1,2,4,5,14,33] Tryz.func70 Tryz.ntmps70 AH ?_;rintro w0 O0 ⟨⟨s,n,e,so,te⟩,w,u⟩ c-⟨f,h0,h1,d,b⟩;have f:s.size<=1000:=f;have h0:e=0:=h0;have h1:0<=n:=h1;have d:n+(w.size:Int)<=(s.size:Int):=d;have b:∀i,i<w.size->NF s (n.toNat+i)=NF w i:=b;subst h0;dsimp only[Ty.den]at *;simp only[iQ,AL];repeat'(first|exact trivial|apply eS rfl|apply AB|refine rX c ?_ ?_|refine rC ?_ ?_<;>intro a<;>try(cases a;done))
 refine AI (ι:={k:Nat//k<=w.size}) (λk=>⟨[(1,.p T9 w),(2,.bp 2 [] 0),(4,.bp 4 [] 0),(5,.p (.int .i64) (k.1:Int))],[(4,.box 133 true [.p T9 ByteArray.empty,.p T3 0,.p C6 0,.raw (.slice none 0 0),.raw (.slice none 0 0)]),(2,.box 133 true [.p T9 s,.p T3 (n+(k.1:Int)),.p C6 0,.p CL so,.p CL te])]⟩) (λk=>w.size-k.1) ⟨0,By _⟩ (AC [(2,.nm 2),(4,.nm 4)] rfl rfl ?_ ?_) (λk=>?_)
 .first|exact eN|refine eM ?_
  all_goals exact eV
 .first|exact eN|refine eM ?_
  all_goals exact eV
 obtain⟨k,hk⟩:=k;simp only;repeat'(first|exact trivial|apply eS rfl|apply AB|refine rX c ?_ ?_|refine rC ?_ ?_<;>intro a<;>try(cases a;done))
 .exact⟨λ_=>⟨by exact eV,by exact eV⟩,λ_=>a⟩
 .exfalso;rcases a with q|q
  .exact eV
  exact q (by rw[show (n+(k:Int)).toNat=n.toNat+k by exact eV];exact b k (by exact eV))
 .exact eV
 .exact eV
 .refine⟨⟨k+1,by exact eV⟩,by simp only;omega,AC [(2,.nm 2),(4,.nm 4)] rfl rfl ?_ ?_⟩
  .first|exact eN|refine eM ?_
   all_goals exact eV
  first|exact eN|refine eM ?_
  all_goals exact eV
 have e:n+(w.size:Int)=n+(k:Int):=by exact eV
 exact fI c [.cell 4 133] (by rw[e];exact eR)
theorem A7K (s w:ByteArray) (n:Int) (so te:List ByteArray) (j:s.size<=1000) (h1:0<=n) (f:n+(w.size:Int)<=(s.size:Int)) (c:∀i,i<w.size->NF s (n.toNat+i)=NF w i):A5 Tryz.prog 70 [.ag [.p T9 s,.p T3 (n),.p C6 0,.sr 501 T9 0 so.length,.sr 502 T9 0 te.length],.p T9 w] [(501,.arr 9 T9 so),(502,.arr 9 T9 te)] [] (λres d=>res=.ag [.p T9 s,.p T3 (n+(w.size:Int)),.p C6 0,.sr 501 T9 0 so.length,.sr 502 T9 0 te.length]/\d=[(4,.box 133 true [.p T9 s,.p T3 (n+(w.size:Int)),.p C6 0,.sr 501 T9 0 so.length,.sr 502 T9 0 te.length]),(501,.arr 9 T9 so),(502,.arr 9 T9 te)]):=by
 refine Ix [0,1,2,4,5,14,33] [] [] Tryz.func70 Tryz.ntmps70 AH ?_;intro w0 K O0 ρ0 b g h;simp only[Ai];repeat'(first|exact trivial|apply eS rfl|apply AB|refine rX b ?_ ?_|refine rC ?_ ?_<;>intro a<;>try(cases a;done))
 refine AI (ι:={k:Nat//k<=w.size}) (λk=>⟨[(1,.p T9 w),(2,.bp 2 [] 0),(4,.bp 4 [] 0),(5,.p (.int .i64) (k.1:Int))],[(4,.box 133 true [.p T9 ByteArray.empty,.p T3 0,.p C6 0,.raw (.slice none 0 0),.raw (.slice none 0 0)]),(2,.box 133 true [.p T9 s,.p T3 (n+(k.1:Int)),.p C6 0,.sr 501 T9 0 so.length,.sr 502 T9 0 te.length]),(501,.arr 9 T9 so),(502,.arr 9 T9 te)]⟩) (λk=>w.size-k.1) ⟨0,By _⟩ (AC [(2,.nm 2),(4,.nm 4),(501,.nm 501),(502,.nm 502)] rfl rfl ?_ ?_) (λk=>?_)
 .first|exact eN|refine eM ?_
  all_goals exact eV
 .first|exact eN|refine eM ?_
  all_goals exact eV
 obtain⟨k,hk⟩:=k;simp only;repeat'(first|exact trivial|apply eS rfl|apply AB|refine rX b ?_ ?_|refine rC ?_ ?_<;>intro a<;>try(cases a;done))
 .exact⟨λ_=>⟨by exact eV,by exact eV⟩,λ_=>a⟩
 .exfalso;rcases a with q|q
  .exact eV
  exact q (by rw[show (n+(k:Int)).toNat=n.toNat+k by omega];exact c k (by exact eV))
 .exact eV
 .exact eV
 .refine⟨⟨k+1,by exact eV⟩,by simp only;omega,AC [(2,.nm 2),(4,.nm 4),(501,.nm 501),(502,.nm 502)] rfl rfl ?_ ?_⟩
  .first|exact eN|refine eM ?_
   all_goals exact eV
  first|exact eN|refine eM ?_
  all_goals exact eV
 have e:n+(w.size:Int)=n+(k:Int):=by exact eV
 rw[e];refine Ev.ent (σ':=⟨[(4,.bp 4 [] 0)],[(4,.box 133 true [.p T9 s,.p T3 (n+(k:Int)),.p C6 0,.sr 501 T9 0 so.length,.sr 502 T9 0 te.length]),(501,.arr 9 T9 so),(502,.arr 9 T9 te)]⟩) ?_ (AC [(4,.nm 4),(501,.nm 501),(502,.nm 502)] rfl rfl ?_ ?_)
 .exact fM b [.cell 4 133] (.ag [.p T9 s,.p T3 (n+(k:Int)),.p C6 0,.sr 501 T9 0 so.length,.sr 502 T9 0 te.length]) eT ⟨rfl,rfl⟩
 .first|exact eN|refine eM ?_
 first|exact eN|refine eM ?_
theorem rI (s:ByteArray) (n:Int) (so te:List ByteArray) (z:s.size<=1000) (h1:0<=n) (u:n+2<(s.size:Int)) (h:s.extract n.toNat (n+1).toNat=⟨#[104]⟩) (d:NF s (n+1).toNat=48) (j:s.extract (n+1).toNat (n+2).toNat=⟨#[48]⟩) (v:so.length<=10) (w:te.length<=10):A5 Tryz.prog 69 [.ag [.p T9 s,.p T3 (n),.p C6 0,.sr 501 T9 0 so.length,.sr 502 T9 0 te.length]] [(501,.arr 9 T9 so),(502,.arr 9 T9 te)] [] (λres t=>res=.tup [.ag [.p T9 s,.p T3 (n+2),.p C6 0,.sr 501 T9 0 (so++[(⟨#[104]⟩:ByteArray)]).length,.sr 502 T9 0 (te++[(⟨#[48]⟩:ByteArray)]).length],.p T3 (te.length:Int)]/\t=[(2,.box 133 true [.p T9 s,.p T3 (n+2),.p C6 0,.sr 501 T9 0 (so++[(⟨#[104]⟩:ByteArray)]).length,.sr 502 T9 0 (te++[(⟨#[48]⟩:ByteArray)]).length]),(501,.arr 9 T9 (so++[(⟨#[104]⟩:ByteArray)])),(502,.arr 9 T9 (te++[(⟨#[48]⟩:ByteArray)]))]):=by
 refine Ix [0,1,2,3,4,5,8,27,56,87] [95,106] [] Tryz.func69 Tryz.ntmps69 (AF Rx (AF A7J AH)) ?_;intro w0 K O0 ρ0 a x y;have r:Ze ⟨#[104]⟩=true:=by decide +kernel
 have f:CH 48 57 48=true:=by decide
 have m:∀n:Int,n+1+((0:Nat):Int)=n+1:=λn=>by omega
 have o:∀n:Int,n+1+((1:Nat):Int)=n+2:=λn=>by omega
 simp only[Ai];repeat'(first|exact trivial|apply eS rfl|apply AB|refine rX a ?_ ?_|refine rC ?_ ?_<;>intro b<;>try(cases b;done))
 all_goals try simp only[h,d,r,f]at b ⊢
 .exact eV
 .exfalso;rcases b with q|q
  .omega
  cases q
 .exact eV
 .exact eV
 .exact eV
 .exfalso;rcases b with q|q
  .omega
  cases q
 refine AI (ι:={k:Nat//k<=1}) (λk=>⟨[(1,.bp 1 [] 0),(2,.bp 2 [] 0),(4,.p T9 ⟨#[104]⟩),(5,.p (.int .i64) (n+1))],[(2,.box 133 true [.p T9 ByteArray.empty,.p T3 0,.p C6 0,.raw (.slice none 0 0),.raw (.slice none 0 0)]),(1,.box 133 true [.p T9 s,.p T3 (n+1+(k.1:Int)),.p C6 0,.sr 501 T9 0 so.length,.sr 502 T9 0 te.length]),(501,.arr 9 T9 so),(502,.arr 9 T9 te)]⟩) (λk=>1-k.1) ⟨0,by omega⟩ (AC [(1,.nm 1),(2,.nm 2),(501,.nm 501),(502,.nm 502)] rfl rfl ?_ ?_) (λk=>?_)
 .first|exact eN|refine eM ?_
  all_goals exact eV
 .first|exact eN|refine eM ?_
  all_goals exact eV
 obtain⟨k,hk⟩:=k;simp only;repeat'(first|exact trivial|apply eS rfl|apply AB|refine rP a ?_ ?_|fail)
 refine rX a ?_ ?_
 .exact⟨λq=>⟨by exact eV,q⟩,λ_=>⟨by exact eV,by exact eV⟩⟩
 repeat'(first|exact trivial|apply eS rfl|apply AB|refine rP a ?_ ?_|fail)
 refine rC ?_ ?_<;>intro b
 .have e:k=0:=by
   rcases b.2 with q|q
   .omega
   exact absurd d q
  subst e;repeat'(first|exact trivial|apply eS rfl|apply AB|refine rX a ?_ ?_|refine rC ?_ ?_<;>intro b<;>try(cases b;done))
  .exact eV
  refine⟨⟨1,by omega⟩,by simp only;omega,AC [(1,.nm 1),(2,.nm 2),(501,.nm 501),(502,.nm 502)] rfl rfl ?_ ?_⟩
  .first|exact eN|refine eM ?_
   all_goals exact eV
  first|exact eN|refine eM ?_
  all_goals exact eV
 have l:k=1:=by
  refine GO λq=>?_;have e:k=0:=by omega
  subst e;have c:=m n;rw[c]at b;have i:((s.data.getD (n+1).toNat 0).toNat:Int)=48:=d;have:=b ⟨by omega,by rw[i];exact f⟩;exact this.1 rfl
 subst l;have c:=o n;simp only[c];repeat'(first|exact trivial|apply eS rfl|apply AB|refine rP a ?_ ?_|fail)
 .simp only[AO];omega
 refine rX a ?_ ?_
 .simp only[AO];exact⟨⟨by exact eV,by exact eV,by exact eV⟩,by exact eV⟩
 repeat'(first|exact trivial|apply eS rfl|apply AB|refine rP a ?_ ?_|fail)
 refine J3 drawsAny a 6 [([0],5)] [1,2,3,4] (by kernel_rfl) (mxA ?_ ?_)
 .exact eV
 refine mxL a [] ?_ ?_
 .trivial
 refine mxE a ?_ ?_ ?_
 .exact eV
 .trivial
 repeat'(first|exact trivial|apply eS rfl|apply AB|refine rX a ?_ ?_|refine rC ?_ ?_<;>intro b<;>try(cases b;done))
 have g:(te.length:Int)+1-1=(te.length:Int):=by omega
 simp only[g,j];refine Ev.ent (σ':=⟨[(2,.bp 2 [] 0),(3,.p (.int .i64) (te.length:Int))],[(2,.box 133 true [.p T9 s,.p T3 (n+2),.p C6 0,.sr 501 T9 0 (so++[(⟨#[104]⟩:ByteArray)]).length,.sr 502 T9 0 (te++[(⟨#[48]⟩:ByteArray)]).length]),(501,.arr 9 T9 (so++[(⟨#[104]⟩:ByteArray)])),(502,.arr 9 T9 (te++[(⟨#[48]⟩:ByteArray)]))]⟩) ?_ (AC [(2,.nm 2),(501,.nm 501),(502,.nm 502)] rfl rfl ?_ ?_)
 .exact fM a [.cell 2 133,.tmp 3] (.tup [.ag [.p T9 s,.p T3 (n+2),.p C6 0,.sr 501 T9 0 (so++[(⟨#[104]⟩:ByteArray)]).length,.sr 502 T9 0 (te++[(⟨#[48]⟩:ByteArray)]).length],.p T3 (te.length:Int)]) eT ⟨rfl,rfl⟩
 .first|exact eN|refine eM ?_
  all_goals simp
 first|exact eN|refine eM ?_
end
section
attribute [local go_sem] A5i A5j iQ ZQ JK Kw Kh My Jc Iu NH
def rJ:AW:={ ins:=[T9],pre:=λ(s,_)=>(s:ByteArray)=⟨#[48]⟩,out:=λ_=>[.p T3 0,.p C6 0] }
attribute [local go_sem] rJ
theorem A5k:AY Tryz.prog 124 rJ:=by
 refine fK [0,2,3,4,5,6,7,8,17,36,40,47,51,63,72,77] Tryz.func124 Tryz.ntmps124 (AF Ug AH) ?_;rintro w0 O0 ⟨s,u⟩ b-hs;have hs:s=⟨#[48]⟩:=hs;have g:s.size=1:=by rw[hs];rfl
 have h0:((s.data.getD 0 0).toNat:Int)=48:=by rw[hs];rfl
 have d:AM s ⟨#[]⟩=false:=by rw[hs];decide +kernel
 clear hs;simp only[rJ,AL];repeat'(first|exact trivial|apply eS rfl|apply AB|refine rP b ?_ ?_|fail)
 refine rX b ?_ ?_
 .exact id
 repeat'(first|exact trivial|apply eS rfl|apply AB|refine rP b ?_ ?_|fail)
 refine rC (λa=>?_) (λ_=>?_)
 .exfalso;have:=a.2;omega
 repeat'(first|exact trivial|apply eS rfl|apply AB|refine rP b ?_ ?_|fail)
 refine rX b ?_ ?_
 .intro _;exact eV
 repeat'(first|exact trivial|apply eS rfl|apply AB|refine rP b ?_ ?_|fail)
 refine rC (λa=>?_) (λ_=>?_)
 .exfalso;rcases a with q|q
  .rw[d]at q;cases q
  omega
 repeat'(first|exact trivial|apply eS rfl|apply AB|refine rP b ?_ ?_|fail)
 refine AI (ι:={k:Nat//k<=1}) (λk=>⟨[(0,.p T9 s),(4,.p T9 s),(5,.p (.int .i64) (k.1:Int))],[]⟩) (λk=>1-k.1) ⟨0,by omega⟩ (AC [] rfl rfl ?_ ?_) (λk=>?_)
 .first|exact eN|refine eM ?_
 .first|exact eN|refine eM ?_
 obtain⟨k,hk⟩:=k;simp only;repeat'(first|exact trivial|apply eS rfl|apply AB|refine rX b ?_ ?_|refine rC ?_ ?_<;>intro a<;>try(cases a;done))
 .exact eV
 .exfalso;have c:k=0:=by omega
  subst c;rw[h0]at a;exact absurd a dg
 .exact eV
 .have c:k=0:=by exact eV
  subst c;refine⟨⟨1,by omega⟩,by simp only;omega,AC [] rfl rfl ?_ ?_⟩
  .first|exact eN|refine eM ?_
   all_goals rfl
  first|exact eN|refine eM ?_
  all_goals rfl
 refine AI (ι:={j:Nat//j<=1}) (λj=>⟨[(0,.p T9 s),(4,.p T9 s),(6,.p (.int .u64) 0),(7,.p (.int .i64) (j.1:Int))],[]⟩) (λj=>1-j.1) ⟨0,by omega⟩ (AC [] rfl rfl ?_ ?_) (λj=>?_)
 .first|exact eN|refine eM ?_
 .first|exact eN|refine eM ?_
 obtain⟨j,f⟩:=j;simp only;repeat'(first|exact trivial|apply eS rfl|apply AB|refine rP b ?_ ?_|fail)
 refine rC ?_ ?_<;>intro a
 .have e:j=0:=by exact eV
  subst e;repeat'(first|exact trivial|apply eS rfl|apply AB|refine rX b ?_ ?_|refine rC ?_ ?_<;>intro a<;>try(cases a;done))
  .rw[h0];exact⟨a,by decide,by decide⟩
  .rw[h0];decide
  .exfalso;rw[h0]at a;exact absurd a dg
  .rw[h0];decide
  .decide
  refine⟨⟨1,by omega⟩,by simp only;omega,AC [] rfl rfl ?_ ?_⟩
  .first|exact eN|refine eM ?_
   all_goals(first|rfl|(rw[h0];decide))
  first|exact eN|refine eM ?_
  all_goals(first|rfl|(rw[h0];decide))
 repeat'(first|exact trivial|apply eS rfl|apply AB|refine rP b ?_ ?_|fail)
 refine rC ?_ ?_<;>intro a
 .exact absurd a (Int.lt_irrefl _)
 repeat'(first|exact trivial|apply eS rfl|apply AB|refine rP b ?_ ?_|fail)
 refine rC ?_ ?_<;>intro a
 .cases a
 repeat'(first|exact trivial|apply eS rfl|apply AB|refine rX b ?_ ?_|refine rC ?_ ?_<;>intro a<;>try(cases a;done))
 exact fI b [.tmp 2,.tmp 3]
def A7L:AW:={ ins:=[Wm],pre:=λ(r,_)=>(r:HF).2.2.2.1=[⟨#[104]⟩,⟨#[104]⟩]/\(r:HF).2.2.2.2=[⟨#[48]⟩,⟨#[48]⟩],out:=λ_=>[.p Br [0,0],.p CL [⟨#[104]⟩],.p C6 0] }
theorem A7M:AY Tryz.prog 74 A7L:=by
 refine fK [0,1,2,3,4,5,6,7,8,9,10,11,12,13,14,20,33,44,49,73,77,81,88] Tryz.func74 Tryz.ntmps74 (AF A5k (AF Ur AH)) ?_;rintro w0 O0 ⟨⟨s,n,e,so,te⟩,u⟩ a-⟨h1,d⟩;have h1:so=[⟨#[104]⟩,⟨#[104]⟩]:=h1;have d:te=[⟨#[48]⟩,⟨#[48]⟩]:=d;subst h1;subst d;have m:∀i:Nat,i<2->([(⟨#[48]⟩:ByteArray),⟨#[48]⟩]).getD i ByteArray.empty=⟨#[48]⟩:=λi hi=>by
  match i,hi with
  | 0,_=>rfl
  | 1,_=>rfl
 have l:∀i:Nat,i<2->([0,0]:List Int).take i++[0]=([0,0]:List Int).take (i+1):=λi hi=>by
  match i,hi with
  | 0,_=>rfl
  | 1,_=>rfl
 have hh:∀i:Nat,i<2->([(⟨#[104]⟩:ByteArray),⟨#[104]⟩]).getD i ByteArray.empty=⟨#[104]⟩:=λi hi=>by
  match i,hi with
  | 0,_=>rfl
  | 1,_=>rfl
 have g:oU [0,0] 0=0:=rfl;simp only[A7L,AL];repeat'(first|exact trivial|apply eS rfl|apply AB|refine rP a ?_ ?_|fail)
 refine AI (ι:={i:Nat//i<=2}) (λi=>⟨[(1,.bp 1 [] 0),(5,.sr 15 T3 0 (([0,0]:List Int).take i.1).length),(6,.p (.int .i64) (if i.1=0 then (-1:Int) else 0)),(7,.p (.int .i64) (i.1:Int))],[(15,.arr 3 T3 (([0,0]:List Int).take i.1)),(1,.box 133 true [.p T9 s,.p T3 n,.p C6 e,.p CL [⟨#[104]⟩,⟨#[104]⟩],.p CL [⟨#[48]⟩,⟨#[48]⟩]])]⟩) (λi=>2-i.1) ⟨0,by omega⟩ (AC [(1,.nm 1),(15,.nm 15)] rfl rfl ?_ ?_) (λi=>?_)
 .first|exact eN|refine eM ?_
 .first|exact eN|refine eM ?_
 obtain⟨i,hi⟩:=i;simp only;repeat'(first|exact trivial|apply eS rfl|apply AB|refine rP a ?_ ?_|fail)
 refine rC ?_ ?_<;>intro b
 .have c:i<2:=by exact eV
  repeat'(first|exact trivial|apply eS rfl|apply AB|refine rX a ?_ ?_|refine rC ?_ ?_<;>intro b<;>try(cases b;done))
  .exact⟨b,m i c⟩
  .simp only[AO,OR];omega
  .exact eV
  have h:(if (if i=0 then (-1:Int) else 0)<0 then (0:Int) else (if i=0 then (-1:Int) else 0))=(if i+1=0 then (-1:Int) else 0):=by
   rw[As (ACF i)];by_cases q:i=0
   .rw[BY q];rfl
   rw[As q];rfl
  refine⟨⟨i+1,by omega⟩,by simp only;omega,AC [(1,.nm 1),(15,.nm 15)] rfl rfl ?_ ?_⟩
  .simp only[<-l i c];first|exact eN|refine eM ?_
   all_goals(rw[h,As (ACF i)])
  simp only[<-l i c];first|exact eN|refine eM ?_
  all_goals(rw[h,As (ACF i)])
 have c:i=2:=by exact eV
 subst c;repeat'(first|exact trivial|apply eS rfl|apply AB|refine rP a ?_ ?_|fail)
 refine CK [15] ?_;refine AI (ι:={j:Nat//j<=2}) (λj=>⟨[(1,.bp 1 [] 0),(5,.p Br [0,0]),(6,.p (.int .i64) 0),(10,.p (.int .i64) (j.1:Int))],[(1,.box 133 true [.p T9 s,.p T3 n,.p C6 e,.p CL [⟨#[104]⟩,⟨#[104]⟩],.p CL [⟨#[48]⟩,⟨#[48]⟩]])]⟩) (λj=>2-j.1) ⟨0,by omega⟩ (AC [(1,.nm 1)] rfl rfl ?_ ?_) (λj=>?_)
 .first|exact eN|refine eM ?_
 .first|exact eN|refine eM ?_
 obtain⟨j,o⟩:=j;simp only;repeat'(first|exact trivial|apply eS rfl|apply AB|refine rP a ?_ ?_|fail)
 refine rC ?_ ?_<;>intro b
 .have r:j<2:=by exact eV
  repeat'(first|exact trivial|apply eS rfl|apply AB|refine rP a ?_ ?_|fail)
  refine AI (ι:={k:Nat//k<=j}) (λk=>⟨[(1,.bp 1 [] 0),(5,.p Br [0,0]),(6,.p (.int .i64) 0),(10,.p (.int .i64) (j:Int)),(11,.p (.int .i64) (k.1:Int))],[(1,.box 133 true [.p T9 s,.p T3 n,.p C6 e,.p CL [⟨#[104]⟩,⟨#[104]⟩],.p CL [⟨#[48]⟩,⟨#[48]⟩]])]⟩) (λk=>j-k.1) ⟨0,by omega⟩ (AC [(1,.nm 1)] rfl rfl ?_ ?_) (λk=>?_)
  .first|exact eN|refine eM ?_
  .first|exact eN|refine eM ?_
  obtain⟨k,hk⟩:=k;simp only;repeat'(first|exact trivial|apply eS rfl|apply AB|refine rX a ?_ ?_|refine rC ?_ ?_<;>intro b<;>try(cases b;done))
  .exact⟨by exact eV,by exact eV,λ_=>by exact eV,λ_=>by exact eV⟩
  .exfalso;have q:=b.2;rw[hh k (by exact eV),hh j (by exact eV)]at q;exact absurd q (by decide +kernel)
  .exact eV
  .refine⟨⟨k+1,by exact eV⟩,by simp only;exact eV,AC [(1,.nm 1)] rfl rfl ?_ ?_⟩
   .first|exact eN|refine eM ?_
   first|exact eN|refine eM ?_
  .exact eV
  refine⟨⟨j+1,by exact eV⟩,by simp only;exact eV,AC [(1,.nm 1)] rfl rfl ?_ ?_⟩
  .first|exact eN|refine eM ?_
  first|exact eN|refine eM ?_
 repeat'(first|exact trivial|apply eS rfl|apply AB|refine rP a ?_ ?_|fail)
 refine rC ?_ ?_<;>intro b
 .exact absurd b dg
 repeat'(first|exact trivial|apply eS rfl|apply AB|refine rP a ?_ ?_|fail)
 refine AI (ι:={i:Nat//i<=1}) (λi=>⟨[(1,.bp 1 [] 0),(5,.p Br [0,0]),(6,.p (.int .i64) 0),(12,.sr 78 T9 0 (([⟨#[104]⟩]:List ByteArray).take i.1).length),(13,.p (.int .i64) (i.1:Int))],[(78,.arr 9 T9 (([⟨#[104]⟩]:List ByteArray).take i.1)),(1,.box 133 true [.p T9 s,.p T3 n,.p C6 e,.p CL [⟨#[104]⟩,⟨#[104]⟩],.p CL [⟨#[48]⟩,⟨#[48]⟩]])]⟩) (λi=>1-i.1) ⟨0,by omega⟩ (AC [(1,.nm 1),(78,.nm 78)] rfl rfl ?_ ?_) (λi=>?_)
 .first|exact eN|refine eM ?_
 .first|exact eN|refine eM ?_
 obtain⟨i,hi⟩:=i;simp only;repeat'(first|exact trivial|apply eS rfl|apply AB|refine rP a ?_ ?_|fail)
 refine rC ?_ ?_<;>intro b
 .have f:i=0:=by exact eV
  subst f;repeat'(first|exact trivial|apply eS rfl|apply AB|refine rX a ?_ ?_|refine rC ?_ ?_<;>intro b<;>try(cases b;done))
  .rw[g];exact⟨⟨by decide,by decide⟩,by decide⟩
  .decide
  refine⟨⟨1,by omega⟩,by simp only;omega,AC [(1,.nm 1),(78,.nm 78)] rfl rfl ?_ ?_⟩
  .first|exact eN|refine eM ?_
   all_goals(rw[g];rfl)
  first|exact eN|refine eM ?_
  all_goals(rw[g];rfl)
 have f:i=1:=by exact eV
 subst f;repeat'(first|exact trivial|apply eS rfl|apply AB|refine rP a ?_ ?_|fail)
 refine CK [78] ?_;exact fI a [.tmp 2,.tmp 3,.tmp 4]
def A9n (c:Int):HF->Prop:=λr=>r.1.size<=1000/\r.2.2.1=0/\0<=r.2.1/\r.2.1<(r.1.size:Int)/\NF r.1 r.2.1.toNat=c
def nB:AW:={ ins:=[Wm],pre:=λ(r,_)=>A9n 125 r,out:=λ(r,_)=>[.p Wm ((r:HF).1,(r:HF).2.1+1,(0:Int),(r:HF).2.2.2.1,(r:HF).2.2.2.2),.p JE []] }
theorem A2e:AY Tryz.prog 71 nB:=by
 refine fKP [0,1,2,3,4,5,6,7,21,51] [8] [] Tryz.func71 Tryz.ntmps71 (AF A2d (AF bA AH)) ?_;rintro w0 O0 ⟨⟨s,n,e,so,te⟩,u⟩ f-⟨h0,h1,a,d,b⟩;have h0:s.size<=1000:=h0;have h1:e=0:=h1;have a:0<=n:=a;have d:n<(s.size:Int):=d;have b:NF s n.toNat=125:=b;subst h1;have hn:nxB (s,n,0,so,te) 125=true:=by
  unfold nxB;simp only[b];simpa using d
 simp only[nB,AL];repeat'(first|exact trivial|apply eS rfl|apply AB|refine rP f ?_ ?_|fail)
 refine AI (ι:={i:Nat//i<=0}) (λi=>⟨[(1,.bp 1 [] 0),(2,.bp 2 [] 0),(4,.p JE [])],[(2,.box 133 true [.p T9 ByteArray.empty,.p T3 0,.p C6 0,.raw (.slice none 0 0),.raw (.slice none 0 0)]),(1,.box 133 true [.p T9 s,.p T3 n,.p C6 0,.p CL so,.p CL te])]⟩) (λi=>0) ⟨0,by omega⟩ (AC [(1,.nm 1),(2,.nm 2)] rfl rfl ?_ ?_) (λi=>?_)
 .first|exact eN|refine eM ?_
 .first|exact eN|refine eM ?_
 repeat'(first|exact trivial|apply eS rfl|apply AB|refine rX f ?_ ?_|refine rC ?_ ?_<;>intro c<;>try(cases c;done))
 .exact λ_=>a
 .rw[hn]at c;cases c
 .refine⟨h0,a,?_,λi hi=>?_⟩
  .have:((⟨#[125]⟩:ByteArray).size:Int)=1:=rfl;rw[this];exact eV
  have hi:i<1:=hi;have g:i=0:=by omega
  subst g;exact b
 exact fI f [.cell 2 133,.tmp 3] (by first|exact eR|refine Kv ?_;rfl)
def nC:AW:={ ins:=[Wm],pre:=λ(r,_)=>A9n 125 r,out:=λ(r,_)=>[.p Wm ((r:HF).1,(r:HF).2.1+1,(0:Int),(r:HF).2.2.2.1,(r:HF).2.2.2.2),.p Ke []] }
theorem A2f:AY Tryz.prog 72 nC:=by
 refine fKP [0,1,2,3,4,5,6,20,41] [7] [] Tryz.func72 Tryz.ntmps72 (AF A2d (AF bA AH)) ?_;rintro w0 O0 ⟨⟨s,n,e,so,te⟩,u⟩ f-⟨h0,h1,a,d,b⟩;have h0:s.size<=1000:=h0;have h1:e=0:=h1;have a:0<=n:=a;have d:n<(s.size:Int):=d;have b:NF s n.toNat=125:=b;subst h1;have hn:nxB (s,n,0,so,te) 125=true:=by
  unfold nxB;simp only[b];simpa using d
 simp only[nC,AL];repeat'(first|exact trivial|apply eS rfl|apply AB|refine rP f ?_ ?_|fail)
 refine AI (ι:={i:Nat//i<=0}) (λi=>⟨[(1,.bp 1 [] 0),(2,.bp 2 [] 0),(4,.p Ke [])],[(2,.box 133 true [.p T9 ByteArray.empty,.p T3 0,.p C6 0,.raw (.slice none 0 0),.raw (.slice none 0 0)]),(1,.box 133 true [.p T9 s,.p T3 n,.p C6 0,.p CL so,.p CL te])]⟩) (λi=>0) ⟨0,by omega⟩ (AC [(1,.nm 1),(2,.nm 2)] rfl rfl ?_ ?_) (λi=>?_)
 .first|exact eN|refine eM ?_
 .first|exact eN|refine eM ?_
 repeat'(first|exact trivial|apply eS rfl|apply AB|refine rX f ?_ ?_|refine rC ?_ ?_<;>intro c<;>try(cases c;done))
 .exact λ_=>a
 .rw[hn]at c;cases c
 .refine⟨h0,a,?_,λi hi=>?_⟩
  .have:((⟨#[125]⟩:ByteArray).size:Int)=1:=rfl;rw[this];exact eV
  have hi:i<1:=hi;have g:i=0:=by omega
  subst g;exact b
 exact fI f [.cell 2 133,.tmp 3] (by first|exact eR|refine Kv ?_;rfl)
end
section
attribute [local go_sem] rJ A7L nB nC iQ Qm Kw Kh cs2 My Jc Iu NH
def A9o:ByteArray:=⟨#[104,48,32,104,48,32,123,125,32,123,125]⟩
def bB:Bj:=(0,0,[⟨#[104]⟩],[],[])
def A7N:AW:={ ins:=[T9],pre:=λ(s,_)=>(s:ByteArray)=A9o,out:=λ_=>[.p XZ bB,.p C6 0] }
theorem A7O:AY Tryz.prog 30 A7N:=by
 refine fKP [0,2,3,4,5,6,7,8,9,10,11,12,13,14,15,16,17,18,21,67,72,83,102,129,171,201] [23,24,26] [] Tryz.func30 Tryz.ntmps30 (AF bA (AF A2e (AF A2f (AF A7M (AF d6 AH))))) ?_;rintro w0 O0 ⟨s,u⟩ a-hs;have hs:s=A9o:=hs;have d:s.size=11:=by rw[hs];rfl
 have v1:s.extract 0 1=⟨#[104]⟩:=by rw[hs];decide +kernel
 have r:NF s 1=48:=by rw[hs];rfl
 have t:s.extract 1 2=⟨#[48]⟩:=by rw[hs];decide +kernel
 have v4:s.extract 3 4=⟨#[104]⟩:=by rw[hs];decide +kernel
 have v:NF s 4=48:=by rw[hs];rfl
 have v6:s.extract 4 5=⟨#[48]⟩:=by rw[hs];decide +kernel
 have c2:NF s 2=32:=by rw[hs];rfl
 have h:NF s 5=32:=by rw[hs];rfl
 have k:NF s 6=123:=by rw[hs];rfl
 have l:NF s 7=125:=by rw[hs];rfl
 have m:NF s 8=32:=by rw[hs];rfl
 have n:NF s 9=123:=by rw[hs];rfl
 have g:NF s 10=125:=by rw[hs];rfl
 clear hs;have c:s.size<=1000:=by omega
 have q:N3 (0,0,[⟨#[104]⟩],[],[])=0:=by decide +kernel
 simp only[A7N,AL];repeat'(first|exact trivial|apply eS rfl|apply AB|refine rP a ?_ ?_|fail)
 refine rC ?_ ?_<;>intro b
 .exfalso;exact eV
 repeat'(first|exact trivial|apply eS rfl|apply AB|refine rP a ?_ ?_|fail)
 refine cP 1 a ?_ ?_
 .trivial
 refine rM a (rI s 0 [] [] c O1 O1 v1 r t sc sc) [(501,.nil),(502,.nil)] [] ?_ ?_ ?_
 .first|exact eN|refine eM ?_
 .first|exact eN|refine eM ?_
 rintro _ _ ⟨rfl,rfl⟩;refine⟨[(302,.nm 2),(501,.nm 501),(502,.nm 502)],.tup [.ag [.p T9 s,.p T3 2,.p C6 0,.sr 501 T9 0 1,.sr 502 T9 0 1],.p T3 0],[(302,.box 133 true [.p T9 s,.p T3 2,.p C6 0,.sr 501 T9 0 1,.sr 502 T9 0 1]),(501,.arr 9 T9 ([⟨#[104]⟩]:List ByteArray)),(502,.arr 9 T9 ([⟨#[48]⟩]:List ByteArray))],rfl,rfl,?_,?_,rfl,rfl,?_⟩
 .first|exact eN|refine eM ?_
  all_goals(first|rfl|decide|exact⟨rfl,rfl⟩)
 .first|exact eN|refine eM ?_
  all_goals(first|rfl|decide|exact⟨rfl,rfl⟩)
 refine rL a ?_ ?_
 .trivial
 repeat'(first|exact trivial|apply eS rfl|apply AB|refine rP a ?_ ?_|fail)
 refine cP 1 a ?_ ?_
 .trivial
 refine rM a (A7K s ⟨#[32]⟩ 2 [⟨#[104]⟩] [⟨#[48]⟩] c O1 (by rw[d];decide) (λi hi=>by have hi:i<1:=hi;obtain rfl:i=0:=(by omega);exact c2)) [(501,.nm 501),(502,.nm 502)] [302,501,502] ?_ ?_ ?_
 .first|exact eN|refine eM ?_
 .first|exact eN|refine eM ?_
 rintro _ _ ⟨rfl,rfl⟩;refine⟨[(303,.nm 4),(501,.nm 501),(502,.nm 502)],.ag [.p T9 s,.p T3 3,.p C6 0,.sr 501 T9 0 1,.sr 502 T9 0 1],[(303,.box 133 true [.p T9 s,.p T3 3,.p C6 0,.sr 501 T9 0 1,.sr 502 T9 0 1]),(501,.arr 9 T9 ([⟨#[104]⟩]:List ByteArray)),(502,.arr 9 T9 ([⟨#[48]⟩]:List ByteArray))],rfl,rfl,?_,?_,rfl,rfl,?_⟩
 .first|exact eN|refine eM ?_
  all_goals(first|rfl|decide|exact⟨rfl,rfl⟩)
 .first|exact eN|refine eM ?_
  all_goals(first|rfl|decide|exact⟨rfl,rfl⟩)
 refine rL a ?_ ?_
 .trivial
 repeat'(first|exact trivial|apply eS rfl|apply AB|refine rP a ?_ ?_|fail)
 refine cP 1 a ?_ ?_
 .trivial
 refine rM a (rI s 3 [⟨#[104]⟩] [⟨#[48]⟩] c O1 O1 v4 v v6 sc sc) [(501,.nm 501),(502,.nm 502)] [303,501,502] ?_ ?_ ?_
 .first|exact eN|refine eM ?_
 .first|exact eN|refine eM ?_
 rintro _ _ ⟨rfl,rfl⟩;refine⟨[(304,.nm 2),(501,.nm 501),(502,.nm 502)],.tup [.ag [.p T9 s,.p T3 5,.p C6 0,.sr 501 T9 0 2,.sr 502 T9 0 2],.p T3 1],[(304,.box 133 true [.p T9 s,.p T3 5,.p C6 0,.sr 501 T9 0 2,.sr 502 T9 0 2]),(501,.arr 9 T9 ([⟨#[104]⟩,⟨#[104]⟩]:List ByteArray)),(502,.arr 9 T9 ([⟨#[48]⟩,⟨#[48]⟩]:List ByteArray))],rfl,rfl,?_,?_,rfl,rfl,?_⟩
 .first|exact eN|refine eM ?_
  all_goals(first|rfl|decide|exact⟨rfl,rfl⟩)
 .first|exact eN|refine eM ?_
  all_goals(first|rfl|decide|exact⟨rfl,rfl⟩)
 refine rL a ?_ ?_
 .trivial
 repeat'(first|exact trivial|apply eS rfl|apply AB|refine rP a ?_ ?_|fail)
 refine CK [501,502] ?_;have f:(⟨#[32,123]⟩:ByteArray).size=2:=rfl;repeat'(first|exact trivial|apply eS rfl|apply AB|refine rX a ?_ ?_|refine rC ?_ ?_<;>intro b<;>try(cases b;done))
 .refine⟨c,by rw[f,d];decide,λi hi=>?_⟩;have hi:i<2:=hi;rcases (by omega:i=0\/i=1) with rfl|rfl
  .exact h
  exact k
 .exact⟨c,rfl,by show (0:Int)<=5+((⟨#[32,123]⟩:ByteArray).size:Int);omega,by show (5:Int)+((⟨#[32,123]⟩:ByteArray).size:Int)<(s.size:Int);rw[f,d];decide,l⟩
 .refine⟨c,by rw[f];decide,by rw[f,d];decide,λi hi=>?_⟩;have hi:i<2:=hi;rcases (by omega:i=0\/i=1) with rfl|rfl
  .exact m
  exact n
 .exact⟨c,rfl,by show (0:Int)<=5+((⟨#[32,123]⟩:ByteArray).size:Int)+1+((⟨#[32,123]⟩:ByteArray).size:Int);omega,by show (5:Int)+((⟨#[32,123]⟩:ByteArray).size:Int)+1+((⟨#[32,123]⟩:ByteArray).size:Int)<(s.size:Int);rw[f,d];decide,g⟩
 .exfalso;rw[f,d]at b;exact absurd b dg
 .exact⟨by decide,by decide⟩
 refine AI (ι:={i:Nat//i<=0}) (λi=>⟨[(2,.bp 2 [] 0),(9,.bp 9 [] 0),(10,.p Br [0,0]),(13,.bp 13 [] 0),(14,.p (.int .i64) 0)],[(13,.box 41 true [.p T3 0,.p T3 0,.p CL [⟨#[104]⟩],.raw (.slice none 0 0),.raw (.slice none 0 0)]),(9,.box 41 true [.p T3 0,.p T3 1,.raw (.slice none 0 0),.p JE [],.p Ke []]),(2,.box 41 true [.p T3 0,.p T3 0,.raw (.slice none 0 0),.raw (.slice none 0 0),.raw (.slice none 0 0)])]⟩) (λi=>0) ⟨0,by omega⟩ (AC [(2,.nm 2),(9,.nm 9),(13,.nm 13)] rfl rfl ?_ ?_) (λi=>?_)
 .first|exact eN|refine eM ?_
  all_goals(first|rfl|exact⟨rfl,rfl⟩)
 .first|exact eN|refine eM ?_
  all_goals(first|rfl|exact⟨rfl,rfl⟩)
 repeat'(first|exact trivial|apply eS rfl|apply AB|refine rX a ?_ ?_|refine rC ?_ ?_<;>intro b<;>try(cases b;done))
 refine AI (ι:={j:Nat//j<=0}) (λj=>⟨[(2,.bp 2 [] 0),(9,.bp 9 [] 0),(10,.p Br [0,0]),(13,.bp 13 [] 0),(17,.p (.int .i64) 0)],[(13,.box 41 true [.p T3 0,.p T3 0,.p CL [⟨#[104]⟩],.raw (.slice none 0 0),.raw (.slice none 0 0)]),(9,.box 41 true [.p T3 0,.p T3 1,.raw (.slice none 0 0),.p JE [],.p Ke []]),(2,.box 41 true [.p T3 0,.p T3 0,.raw (.slice none 0 0),.raw (.slice none 0 0),.raw (.slice none 0 0)])]⟩) (λj=>0) ⟨0,by omega⟩ (AC [(2,.nm 2),(9,.nm 9),(13,.nm 13)] rfl rfl ?_ ?_) (λj=>?_)
 .first|exact eN|refine eM ?_
 .first|exact eN|refine eM ?_
 repeat'(first|exact trivial|apply eS rfl|apply AB|refine rX a ?_ ?_|refine rC ?_ ?_<;>intro b<;>try(cases b;done))
 .exact⟨trivial,by decide,(λe o=>by cases o),by decide⟩
 .exact absurd q b
 exact fI a [.cell 2 41,.tmp 3] (by unfold bB;exact eR)
end
def Df:AE:=([(ByteArray.mk #[116,111,112],[8191],[],[]),(ByteArray.mk #[105,110,100,101,120],[60],[0],[]),(ByteArray.mk #[108,105,115,116],[193],[0],[]),(ByteArray.mk #[99,111,110,115],[1],[2],[(2,0),(10,2)]),(ByteArray.mk #[100,108,105,115,116],[2],[0],[(6,2),(7,2)]),(ByteArray.mk #[101,110,116,105,116,121],[4],[1],[]),(ByteArray.mk #[101,118,101,110,116],[8],[1],[]),(ByteArray.mk #[104,97,110,100,108,101],[16],[1],[]),(ByteArray.mk #[110,117,108,108],[128],[2],[]),(ByteArray.mk #[113,101,113],[256],[0],[(3,7),(8,7)]),(ByteArray.mk #[114,101,108],[512],[0],[(5,7)]),(ByteArray.mk #[115,101,109],[1024],[0],[(1,4),(4,1),(9,4),(12,7)]),(ByteArray.mk #[115,105,103,110],[2048],[0],[(0,2),(11,11)])],[(ByteArray.mk #[65,82,71,83],12),(ByteArray.mk #[67,79,78,83],11),(ByteArray.mk #[70,73,82,83,84],3),(ByteArray.mk #[72,73,71,72],9),(ByteArray.mk #[73,78,68,69,88],11),(ByteArray.mk #[76,65,66,69,76],10),(ByteArray.mk #[76,65,83,84],4),(ByteArray.mk #[76,73,83,84],4),(ByteArray.mk #[76,79,87],9),(ByteArray.mk #[82,69,76,83],11),(ByteArray.mk #[82,69,83,84],3),(ByteArray.mk #[83,69,77],12),(ByteArray.mk #[84,79,80],11)])
instance baDec:DecidableEq ByteArray:=λa b =>
 if h:a.data.toList=b.data.toList then isTrue (by
  cases a
  cases b
  exact AAS ByteArray.mk (Array.toList_inj.1 h))
 else isFalse λe=>h (by rw[e])
theorem A2g:((Mn []).1:List (ByteArray×List Int×List Int×List (Int×Int)))=Df.1:=by decide +kernel
theorem A2h:((Mn []).2:List (ByteArray×Int))=Df.2:=by decide +kernel
theorem bC:Mn []=Df:=Prod.ext A2g A2h
theorem A5l:Fd Df:=by rw[<-bC];exact(show Fd (if _ then _ else _) by split<;>exact Ge _)
theorem A2i:HA Df:=by rw[<-bC];exact(show HA (if _ then _ else _) by split<;>exact R5 _)
def A9p (h:AE):Bool:=(h.2.all λx=>decide (0<=x.2)&&decide (x.2<(h.1.length:Int)))&&h.1.all λt=>t.2.2.2.all λp=>decide (0<=p.2)&&decide (p.2<(h.1.length:Int))
theorem A7P (e:A9p h=true):bD h:=by
 unfold A9p at e;rw[An,ON,ON]at e;refine⟨λx c=>?_,λt b p a=>?_⟩
 .have:=e.1 x c;simpa using this
 have:=ON.1 (e.2 t b) p a;simpa using this
theorem A5m:bD Df:=A7P (by decide +kernel)
def rK (h:AE) (f:List AD):Bool:=decide (f.length<=100)&&f.all λx=>decide (x.2.length<=12)&&(decide (0<=x.1)&&decide (x.1<(h.1.length:Int)))&&x.2.all λa=>(decide (0<=a.1)&&decide (a.1<(h.2.length:Int)))&&(decide (0<=a.2)&&decide (a.2<(f.length:Int)))
theorem A7Q (hk:Fd h) (hi:HA h) (hf:bD h) (d:h.2.length<=100000) (e:rK h f=true):A0V h f/\GH f/\R7 f/\∀x∈f,x.2.length<=100:=by
 unfold rK at e;rw[An,If,ON]at e;have c:∀x∈f,x.2.length<=12/\(0<=x.1/\x.1<(h.1.length:Int))/\∀a∈x.2,FJ h f.length a:=λx b=>by
  have:=e.2 x b;rw[An,An,An,If,If,If,ON]at this;refine⟨this.1.1,this.1.2,λa ha=>?_⟩;have:=this.2 a ha;rw[An,An,An,If,If,If,If]at this;exact⟨this.1,this.2⟩
 refine⟨⟨hk,hi,hf,d,⟨by omega,λx b=>⟨by have:=(c x b).1;omega,λa ha=>((c x b).2.2 a ha).2⟩⟩,λx b=>(c x b).2.2,λx b=>(c x b).2.1⟩,⟨by omega,λx b=>by have:=(c x b).1;omega⟩,λx b=>⟨by have:=(c x b).1;omega,.inl (c x b).1⟩,λx b=>by have:=(c x b).1;omega⟩
section
attribute [local go_sem] Hs Fb A7N A58 A7B aJ NQ Pr A1R fS Kw Kh My Jc Iu NH
theorem AA7 {α:Type} (a b c d e f g h i j k:UInt8) (x y:α):(if ({ data:=#[a,b,c,d,e,f,g,h,i,j,k] }:ByteArray).size<=AO then x else y)=x:=BY (by show 11<=AO;decide)
attribute [local go_sem] AA7
theorem iR:(Ab Bm).2=0:=by decide +kernel
theorem Yq:(Ab Bm).1=Df:=by
 rw[<-bC];unfold Mn;split
 .rename_i q;exact absurd q.2 (by decide +kernel)
 rfl
theorem ML:Dh Df:=by
 rw[<-Yq];exact A1X [] iR
theorem A9q:Wc bB:=⟨by decide +kernel,by decide +kernel,by decide,by decide,by decide,λe a=>by cases a⟩
def Yr:List AD:=(vU Df bB).1
theorem A7R:(vU Df bB).2=0:=by decide +kernel
theorem A2j:rK Df Yr=true/\0<Yr.length:=by decide +kernel
theorem A7S:(RG Df Yr).2=0/\Yi bB (RG Df Yr).1=true:=by decide +kernel
theorem A7T:(RG Df [(0,[])]).2=13:=by decide +kernel
theorem A7U:AM (Cb Df (Ae Df ⟨#[101,118,101,110,116]⟩)) ⟨#[101]⟩=true/\AM (Cb Df 0) ⟨#[]⟩=true:=by decide +kernel
theorem A7V:0<=Ae Df ⟨#[101,118,101,110,116]⟩/\Ae Df ⟨#[101,118,101,110,116]⟩<(Df.1.length:Int)/\(0:Int)<(Df.1.length:Int):=by decide +kernel
theorem rO (e:rK Df f=true):AX f/\Db Df f/\Sa Df f:=by
 obtain⟨h1,-,-,-⟩:=A7Q A5l A2i A5m (by decide +kernel) e;exact⟨h1.good,h1.ty,λx b a ha=>(h1.arcs x b a ha).1⟩
def A2k:AW:={ ins:=[],pre:=λ_=>True,out:=λ_=>[.p .bool true] }
theorem A5n:AY Tryz.prog 10 A2k:=by
 refine fK [0,1,2,3,4,5,6,7,8,10] Tryz.func10 Tryz.ntmps10 (AF lE (AF U3 (AF A7O (AF iP (AF A7C (AF A46 (AF A4Z (AF Mm (AF gX AH))))))))) ?_;rintro w0 O0 u a - -;have f:Ab Bm=(Df,0):=Prod.ext Yq iR;have m:(Df.1,Df.2)=Df:=rfl;simp only[A2k,AL];have o:(bB.1,bB.2.1,bB.2.2.1,bB.2.2.2.1,bB.2.2.2.2)=bB:=rfl;have v:(vU Df bB).1=Yr:=rfl;have c:=rO A2j.1;have g:=A7S;have n:=A2j.2;have ha:=A7R;repeat'(first|exact trivial|apply eS rfl|apply AB|refine rP a ?_ ?_|fail)
 all_goals try simp only[f,m,o,v,ha]at *
 .rfl
 .exact⟨ML,A9q⟩
 .exact⟨ML.so,c.1,c.2.1,c.2.2,n⟩
 generalize Yr=G at *;have b:AX [((0:Int),([]:List (Int×Int)))]/\Db Df [(0,[])]/\Sa Df [(0,[])]:=rO (by decide +kernel);refine J3 drawsAny a 8 [([0,1,2,3,4,6],7)] [5] (by kernel_rfl) (mxA ?_ ?_)
 .exact⟨ML.so,b.1,b.2.1,b.2.2⟩
 refine mxL a [] ?_ ?_
 .trivial
 refine mxE a ?_ ?_ ?_
 .trivial
 .trivial
 have j:=A7T;obtain⟨k,l⟩:=A7U;obtain⟨r,s,t⟩:=A7V;have d:(Df.1,Df.2)=Df:=rfl;have p:(bB.1,bB.2.1,bB.2.2.1,bB.2.2.2.1,bB.2.2.2.2)=bB:=rfl;have q:((RG Df G).1.1,(RG Df G).1.2.1,(RG Df G).1.2.2.1,(RG Df G).1.2.2.2.1,(RG Df G).1.2.2.2.2)=(RG Df G).1:=rfl;obtain⟨h,i⟩:=g;repeat'(first|exact trivial|apply eS rfl|apply AB|refine rX a ?_ ?_|refine rC ?_ ?_<;>intro e<;>try(cases e;done))
 .simp only[d];exact⟨λ_=>⟨ML.so.1,r,s⟩,λ_=>⟨ML.so.1,t⟩⟩
 simp only[d,p,q,h,i,j,k,l];exact fI a [.tmp 0] (by first|exact eR|refine Kv ?_;rfl)
end
section
attribute [local go_sem] nA m6 m5 A2k A58 OG Kw Kh My Jc Iu NH
def A2l:AW:={ ins:=[FK,XZ],pre:=λ(h,m,_)=>Dh h/\Wc m,out:=λ(h,m,_)=>[.p Fm (vU h m).1,.p C6 (vU h m).2] }
theorem A5o:AY Tryz.prog 20 A2l:=by
 refine fK [0,1,2,3,4,5,6,7,8,9,17,27] Tryz.func20 Tryz.ntmps20 (AF A2c AH) ?_;rintro w0 O0 ⟨h,m,u⟩ b-⟨c,e⟩;have c:Dh h:=c;have e:Wc m:=e;have k:(h.1,h.2)=h:=rfl;have n:(m.1,m.2.1,m.2.2.1,m.2.2.2.1,m.2.2.2.2)=m:=rfl;have j:vU h m=if DJ h m.2.2.2.1≠0 then ([],DJ h m.2.2.2.1) else if (Cv h (BR (Bp h m)).1).2=true then ((Cv h (BR (Bp h m)).1).1,0) else ([],12):=rfl
 have f:RL h m=if DJ h m.2.2.2.1≠0 then ([],DJ h m.2.2.2.1) else BR (El h m):=rfl
 simp only[A2l,AL];repeat'(first|exact trivial|apply eS rfl|apply AB|refine rP b ?_ ?_|fail)
 all_goals try simp only[k,n]
 .exact⟨c,e⟩
 refine rC ?_ ?_<;>intro a
 .have a:(RL h m).2≠0:=by simpa using a
  have d:DJ h m.2.2.2.1≠0:=λz=>by
   rw[f,As (by rw[z];simp),(RK c e z).1]at a;exact a (WX c e z).2.1
  rw[j,BY d];rw[BY d]at f;simp only[f];repeat'(first|exact trivial|apply eS rfl|apply AB|refine rX b ?_ ?_|refine rC ?_ ?_<;>intro a<;>try(cases a;done))
  exact fI b [.cell 4 34,.tmp 5] (by first|exact eR|refine Kv ?_;rfl)
 have a:(RL h m).2=0:=by simpa using a
 have d:DJ h m.2.2.2.1=0:=GO λz=>by
  rw[f,BY z]at a;exact z a
 rw[j,As (by rw[d];simp)];rw[As (by rw[d];simp),(RK c e d).1]at f;have g:=(WX c e d).1;have hh:=c.h14;rw[f];generalize (BR (Bp h m)).1=x at *;have o:=A4y hh.ok hh.nrm hh.inj hh.ft hh.ap g.arcs g.ty;have hF:Cv h x=match E9 h x with
  | some ty=>(CD x ty,true)
  | none=>([],false):=rfl
 rw[<-o]at hF;repeat'(first|exact trivial|apply eS rfl|apply AB|refine rP b ?_ ?_|fail)
 refine cP 2 b ?_ ?_
 .trivial
 refine rM b (vB h hh.ok hh.nrm hh.ft hh.ap hh.inj x g.arcs g.ty g.good.1 (λy q=>(g.good.2 y q).1)) [] [] ?_ ?_ ?_
 .first|exact eN|refine eM ?_
 .first|exact eN|refine eM ?_
 rintro res s (⟨i,rfl,rfl⟩|⟨ty,i,rfl,rfl⟩)
 .rw[i]at hF;have hF:Cv h x=([],false):=hF;rw[As (by rw[hF];simp)];refine⟨[],.tup [.p Fm [],.p .bool false],[],rfl,rfl,?_,?_,rfl,rfl,?_⟩
  .first|exact eN|refine eM ?_
  .first|exact eN|refine eM ?_
  refine rL b ?_ ?_
  .trivial
  repeat'(first|exact trivial|apply eS rfl|apply AB|refine rX b ?_ ?_|refine rC ?_ ?_<;>intro a<;>try(cases a;done))
  exact fI b [.cell 4 34,.tmp 5] (by first|exact eR|refine Kv ?_;rfl)
 rw[i]at hF;have hF:Cv h x=(CD x ty,true):=hF;have l:=CV x ty;rw[BY (by rw[hF])];refine⟨[(89,.nm 89)],.tup [.ag [.sr 89 Md 0 x.length],.p .bool true],[(89,.arr 57 Md (CD x ty))],rfl,rfl,?_,?_,rfl,rfl,?_⟩
 .first|exact eN|refine eM ?_
 .first|exact eN|refine eM ?_
 refine rL b ?_ ?_
 .trivial
 repeat'(first|exact trivial|apply eS rfl|apply AB|refine rP b ?_ ?_|fail)
 refine CK [89] ?_;repeat'(first|exact trivial|apply eS rfl|apply AB|refine rX b ?_ ?_|refine rC ?_ ?_<;>intro a<;>try(cases a;done))
 have r:(CD x ty).take x.length=CD x ty:=At (ACa l);exact fI b [.cell 4 34,.tmp 5] (by rw[hF,r];exact eR)
theorem A5p (h:aV m=true):Wc m:=by
 unfold aV at h;rw[An,AAc]at h;obtain⟨h1,b,-,c⟩:=A1S h.1;have a:FZ m=0:=GO λq=>by
  have:=h.2;unfold N3 at this;rw[BY q]at this;exact q this
 refine⟨a,h.2,h1,b,?_,c⟩;unfold FZ at a;split at a
 .cases a
 omega
theorem A2m (p:Dh h) (k:Wc m):GH (vU h m).1:=by
 unfold vU;split
 .exact⟨By _,λx a=>by cases a⟩
 rename_i b;have b:DJ h m.2.2.2.1=0:=GO b;obtain⟨h1,c,-⟩:=iJ p k b;generalize AP (DA (Bp h m)) 0=K at *;have d:(BR (Bp h m)).1=K:=by rw[h1]
 clear h1;generalize BR (Bp h m)=Q at *;subst d;split
 .rename_i hi;cases hT:E9 h Q.1 with
  | none =>
   rw[MA hT]at hi;cases hi
  | some ty =>
   rw[L9 hT];exact gH ty c.small
 exact⟨By _,λx a=>by cases a⟩
def A2n:AW:={ ins:=[Et,XZ],pre:=λ_=>True,out:=λ_=>[.p .bool true] }
attribute [local go_sem] A2l
theorem A2o:AY Tryz.prog 5 A2n:=by
 refine fK [0,1,3,4,5,6,7,8,9,10,22] Tryz.func5 Tryz.ntmps5 (AF A1V (AF A1T (AF A5n (AF iP (AF A5o (AF A0I AH)))))) ?_;rintro w0 O0 ⟨d,m,u⟩ a - -;simp only[A2n,AL];have c:(WQ d).2=true->Dh (WQ d).1:=A51;have f:(m.1,m.2.1,m.2.2.1,m.2.2.2.1,m.2.2.2.2)=m:=rfl;generalize g:WQ d=C at *;repeat'(first|exact trivial|apply eS rfl|apply AB|refine rP a ?_ ?_|fail)
 refine rX a ?_ ?_
 .trivial
 simp only[g,f];repeat'(first|exact trivial|apply eS rfl|apply AB|refine rP a ?_ ?_|fail)
 refine rC ?_ ?_<;>intro b
 .repeat'(first|exact trivial|apply eS rfl|apply AB|refine rX a ?_ ?_|refine rC ?_ ?_<;>intro b<;>try(cases b;done))
  exact fI a [.tmp 4]
 have c:=c b.1;have e:=A5p b.2;have i:(C.1.1,C.1.2)=C.1:=rfl;have j:=A2m c e;have h:=Wx (vU C.1 m).1;repeat'(first|exact trivial|apply eS rfl|apply AB|refine rP a ?_ ?_|fail)
 .exact⟨c,e⟩
 .exact⟨c,e⟩
 simp only[i,f];generalize vU C.1 m=K at *;repeat'(first|exact trivial|apply eS rfl|apply AB|refine rX a ?_ ?_|refine rC ?_ ?_<;>intro b<;>try(cases b;done))
 .exact λ_=>j
 have k:(K.2 != 0||Ey K.1 K.1==0)=true:=by
  rw[h];exact Bool.or_true _
 simp only[k];exact fI a [.tmp 4]
end
end Go.Proofs.YtglkoagnnnpimaaGreatDoor.Fw
