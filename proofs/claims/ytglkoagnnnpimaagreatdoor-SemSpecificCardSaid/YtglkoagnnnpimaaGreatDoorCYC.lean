/- Contracts of functions and plain laws. -/
import Derived.Test.YtglkoagnnnpimaaGreatDoorCYB
import Derived.Test.YtglkoagnnnpimaaGreatDoorCYA
import Derived.Test.YtglkoagnnnpimaaGreatDoorCZI
set_option linter.unusedVariables false
set_option linter.unusedSimpArgs false
namespace Go.Proofs.YtglkoagnnnpimaaGreatDoor.Fw
attribute [local irreducible] Ev
attribute [local go_sem] nY AK List.toList_toArray Bv evG evK Wj E0 LE IB G5 GU Rk LD CU Dg Ou DI Cr frz sD Gl DW BA Fx BZ AV.frz AV.frzs AV.drp AV.drps AV.names AV.namess aq Gm K3 K4 Tn Ji Br B1 KX EJ Jl EK Jn Jm Jo Wh Rc HQ MR Fz EZ Wi SX qUn KY I0 Nf FM D5 Jp K6 Ep Tq Cw Eq FN SY I1 Oq FO Oo Re SZ ND Jq K7 DX DC K0 D6 Ic DR FP DS Er GT DI C3 Ol SW QV G0 Jk Jj K5 Ot Rh NE Nj Nh K9 Tr Ni LA bT Rj Ri AV.trn AV.trns EI Cv Obj.trn Kg kB DU Dr DT Es CZ FQ Ag lk H6 Gr Ia bin sB Y3 sF Tp Tl zfx AV.cellss sC zfs pfs AV.cells CO Eo Iz F0 Rg CP Om Ty.cell1 Jh E3 D4 GR IZ Em Kw NC Oj GQ Gz Nc Tk Wg Mz Kv bP i8 Tm H7 C4 HP RV.flat Ty.flat Ty.size St.add upd del Bd Value.oneCell' Y0 Ty.dflt Jg S3 I7 S9 List.take_succ_cons List.take_zero List.length_cons n5 n6 S8 LV PO I9 Me A3k G6 PB PC PD PE UK UL PG J0 ZP Option.map_some Option.map_none Option.bind_some Option.getD_some Option.getD_none Option.isNone_none Option.isNone_some Bool.and_true Bool.true_and Bool.and_false Bool.false_and Bool.not_true Bool.not_false if_true if_false List.length_cons List.length_nil and_true true_and and_self List.all_cons List.all_nil List.append_nil List.nil_append List.cons_append List.getElem?_cons_zero List.getElem?_cons_succ List.getElem?_nil List.map_cons List.map_nil List.set_cons_zero List.set_cons_succ List.isEmpty_nil List.isEmpty_cons decide_true decide_false beq_self_eq_true bne_self_eq_false Nat.zero_add Nat.add_zero Nat.sub_zero Int.toNat_natCast Int.toNat_zero Int.toNat_one List.take_length List.length_append List.length_singleton true_or or_true or_self false_or or_false Ty.agg.injEq Ty.slice.injEq Ty.prod.injEq Ty.int.injEq Option.some.injEq beq_iff_eq LT evMG evMQ opM Im NI CA Ke G7 UO Kd Il J1 Mc LS Qf PJ Qg UP PI S5 S6 Mb Ab Aj Op.operands Call.operands List.filterMap_cons List.filterMap_nil List.append_eq Bool.cond_false_right Bool.cond_true_left cond_true cond_false implies_true decide_eq_true_eq beq_true beq_false Bool.or_true Bool.or_false Bool.true_or Bool.false_or Option.isSome_some Array.empty_append List.append_toArray Fy Ov FT H8 bS Rf bR GS HH HG I2 Ib K8 Ng Y4 sE HF inB LB GK G1 LC Am oA List.drop_zero D2 ID cX C6 Nw Cq AV.fgt AV.fgts Obj.fgt Az Ax Ab EP LY Bt LZ List.any_cons List.any_nil oD jZ dA j5 M0 Sd qs List.flatMap_cons List.flatMap_nil List.cons_append tn dG NJ List.take_succ_cons List.drop_succ_cons dI Hb Ba yK Qo CR Cn Al FW LN B3 matchAVs DD Ik Jy HX Jz
attribute [local go_sem] ty1 ty2 ty3 ty4 ty5 ty9 A6K A6L A6M A6N A6O A6P A6Q A6R A6S A6T A6U A6V A6W A6X A6Y A6Z A70 A71 A72 A73 A74 A75 A76 A77 A78 A79 A7a A7b yW yX yY yZ y3 y4 y5 y6 y7 y8 y9 zA zB zC zD zE zF zG zH zI zJ zK zL zN zO zP zQ zR zS zT zU zV zW zX zY zZ z0 z4
set_option maxRecDepth 100000
set_option maxHeartbeats 4000000
variable {f Z:List AD} {h:AF} {i k:Nat} {v y:ByteArray} {L M:List Int} {n:Int} {m:Bj} {R:Exit->Act->World->Prop} {d:List AJ} {Y:Array Oper} {X:List Oper} {W:Type} {P:Program} {V:List Ca} {t:TypeId}
section
attribute [local go_sem] OX OW Vm
theorem m5 (h:AF) (f:List AD) (n:Int) (k:AX f) (H:C2 h f) (n0:0<=n) (n1:n<(f.length:Int)):BB Tryz.prog 130 [.p FY h,.p FL f,.p T3 n] [] [] (λres am=>res=.tup [.p Bz (BK h f n).1,.p C0 (BK h f n).2]):=by
 refine fKR [0,1,2,3,4,6,7,8,9,10,11,12,13,14,15,22,39,44,45,50,59,63,67] [78] [] Tryz.func130 Tryz.ntmps130 (AE A1c (AE gD (AE Z9 AH))) ?_;intro w0 K O0 ρ0 c ah ai;simp only[Am];have S:(h.1,h.2)=h:=rfl;repeat'(first|exact trivial|apply eS rfl|apply AB|refine rX c ?_ ?_|refine rC ?_ ?_<;>intro d<;>try(cases d;done))
 all_goals simp only[S]at *
 .have l:Sm h=false:=by
   cases j:Sm h with
   | true=>rw[j]at d;exact absurd rfl d
   | false=>rfl
  have s:BK h f n=([],5):=by unfold BK;rw[l,As sc]
  simp only[l,AB4,AB9,s];exact Xd c [.cell 6 101,.cell 7 35] rfl (.inl rfl) (.tup [.p Bz [],.p C0 5]) eT rfl
 .exact⟨k,n0,n1⟩
 .have l:Sm h=true:=by
   have q:((if Sm h=true then (0:Int) else 5) != 0)=false:=by assumption
   cases j:Sm h with
   | false=>rw[j]at q;exact absurd q dg
   | true=>rfl
  simp only[At l,wdF]at *;have s:BK h f n=([],13):=by unfold BK;rw[At l];exact At d
  rw[s];exact Xd c [.cell 6 101,.cell 7 35] rfl (.inl rfl) (.tup [.p Bz [],.p C0 13]) eT rfl
 have l:Sm h=true:=by
  have q:((if Sm h=true then (0:Int) else 5) != 0)=false:=by assumption
  cases j:Sm h with
  | false=>rw[j]at q;exact absurd q dg
  | true=>rfl
 simp only[At l,wdF]at *;have E:=A18 l;have D:=A1b h;have I:WOk h (EF h):=⟨⟨E.2.1,D.1.2.1⟩,E.2.2.1,D.1.2.2.1⟩;have C:BK h f n=Fj h (EF h) f (BR (Av f n).2 (EF h).last) (f.length+1) [] [] (BR (Av f n).2 (EF h).head):=by
  unfold BK;rw[At l];exact As (λq=>q.elim (λq=>absurd d.1 (ACM.2 q)) λq=>absurd d.2 (ACM.2 q))
 have u:BR (Av f n).2 (EF h).head<(f.length:Int):=Mq O1 _ λx Z=>(JV k n.toNat x Z).2;have t:0<=BR (Av f n).2 (EF h).head:=d.1;have G:f.getD n.toNat (0,[])=Av f n:=rfl;simp only[G]at *;rw[C];generalize af:EF h=w at *;generalize BR (Av f n).2 w.head=a at *;generalize BR (Av f n).2 w.last=la at *;clear G C d n0 n1;refine Ev.ent (σ':=⟨[(10,.p T3 a),(4,.bp 4 [] 0),(6,.bp 6 [] 0),(7,.bp 7 [] 0),(8,.bp 8 [] 0),(11,.bp 11 [] 0),(12,.bp 12 [] 0),(13,.bp 13 [] 0)],[(6,.box 101 false [.raw (.slice none 0 0)]),(7,.box 35 false [.p C0 0]),(8,Da h w),(4,.box 34 true [.p HJ f]),(11,.box 3 false [.p T3 la]),(12,.box 101 false [.raw (.slice none 0 0)]),(13,.box 215 false [.mp 24]),(24,.mapo T3 .bool [])]⟩) ?_ (AC [(6,.nm 6),(7,.nm 7),(8,.nm 8),(4,.nm 4),(11,.nm 11),(12,.nm 12),(13,.nm 13),(24,.nm 40)] rfl rfl ?_ ?_)
 .simp only[Da];refine cP 3 c ?_ ?_
  .trivial
  refine rM c (A1Q h w f a) [] [] ?_ ?_ ?_
  .simp only[wdF];first|exact eN|refine eM ?_
  .first|exact eN|refine eM ?_
  rintro _ _ ⟨rfl,rfl⟩;refine⟨[(50,.nm 5),(52,.nm 4),(51,.nm 3)],.clo 187 [50,51,52],[(50,.box 3 false [.p T3 a]),(52,.box 34 true [.p HJ f]),(51,Da h w)],rfl,rfl,?_,?_,rfl,rfl,E2 ?_⟩
  .simp only[Da];first|exact eN|refine eM ?_
  .first|exact eN|refine eM ?_
  simp only[Da];repeat'(first|exact trivial|apply eS rfl|apply AB|refine rX c ?_ ?_|refine rC ?_ ?_<;>intro d<;>try(cases d;done))
  refine dL c rfl rfl (by simp only[go_sem,Nat.reduceEqDiff,reduceCtorEq,Nat.reduceAdd,Nat.reduceSub,Nat.reduceMul,Nat.reduceLeDiff,Nat.reduceLT,Int.reduceLE,Int.reduceToNat,Int.reduceNeg,↓reduceIte];rfl) 101 103 102 rfl rfl rfl rfl ?_;intro L o B M N O P Q Y;refine⟨_,dO h w f L o la (CN h w f a 0) a (.raw (.slice none 0 0)) 0,[50,51,52,101,102,6,7,8,4,11,12,13,24],_,[(50,.nm 50),(51,.nm 51),(52,.nm 52),(101,.nm 101),(102,.nm 102),(6,.nm 6),(7,.nm 7),(8,.nm 8),(4,.nm 4),(11,.nm 11),(60,.nil),(12,.nm 12),(13,.nm 13),(24,.nm 24)],[60],vX h w f la a I k H t u L o ?_,rfl,rfl,?_,?_,rfl,?_⟩
  .intro i hi;obtain⟨J,ad,A,ae⟩:=Tc k t u i (aP hi);have ag:=J.len;have v:=A4l (CN h w f a i).1 (CN h w f a i).2.2.2;have V:lwO (h,w.list,w.cons,w.null,w.dlist,w.first,w.rest,w.head,w.last)=w:=rfl;have W:Kt (CN h w f a (i+1)).1=E4 T3 .bool (CN h w f a i).2.2.2 true (Kt (CN h w f a i).1):=by
    show Kt ((CN h w f a i).1++[(CN h w f a i).2.2.2])=_;simp[Kt]
   have hT:=c.T;have hF:=c.F;refine dJ (fr:=102) rfl rfl B O P Q N Y rfl (by kernel_rfl) sc rfl rfl (by kernel_rfl) (by kernel_rfl) hT hF ?_;intro an aa ab ao al c aj ak j;simp only[dO,Da,dE,Hb];repeat'(first|exact trivial|apply eS rfl|apply AB|refine rX c ?_ ?_|refine rC ?_ ?_<;>intro d<;>try(cases d;done))
   refine⟨rfl,?_⟩;repeat'(first|exact trivial|apply eS rfl|apply AB|refine rX c ?_ ?_|refine rC ?_ ?_<;>intro d<;>try(cases d;done))
   all_goals try simp only[V]at *
   all_goals try simp only[show ∀m:Int,f.getD m.toNat (0,[])=Av f m from λ_=>rfl]at *
   .exact⟨I,k,H,A⟩
   .have g:NZ h w f la (CN h w f a i)=some ((CN h w f a i).2.1,0):=(At d.1).trans (by rw[At d.2]);refine Ev.ent (σ':=⟨[],dO h w f { L with state:=.busy } o la (CN h w f a i) (CN h w f a i).2.2.2 (.sr 60 T3 0 (CN h w f a i).2.1.length) 0⟩) ?_ (AC [(50,.nm 50),(51,.nm 51),(52,.nm 52),(101,.nm 101),(102,.nm 102),(6,.nm 6),(7,.nm 7),(8,.nm 8),(4,.nm 4),(11,.nm 11),(60,.nm 60),(12,.nm 12),(13,.nm 13),(24,.nm 24)] rfl rfl ?_ ?_)
    .refine Mg c (yn:=101) rfl rfl sc j ⟨false,rfl,.inl ⟨g,rfl,?_⟩⟩;simp only[dO,Da,dE,Gy,go_sem,Nat.reduceEqDiff,reduceCtorEq,Nat.reduceAdd,Nat.reduceSub,Nat.reduceMul,Nat.reduceLeDiff,Nat.reduceLT,Int.reduceLE,Int.reduceToNat,Int.reduceNeg,↓reduceIte]
    .simp only[dO,Da,dE];first|exact eN|refine eM ?_
    first|exact eN|refine eM ?_
   .have g:NZ h w f la (CN h w f a i)=some ([],13):=(At (by assumption)).trans (by rw[As (d (by assumption))]);refine Ev.ent (σ':=⟨[],dO h w f { L with state:=.busy } o la (CN h w f a i) (CN h w f a i).2.2.2 (.raw (.slice none 0 0)) 13⟩) ?_ (AC [(50,.nm 50),(51,.nm 51),(52,.nm 52),(101,.nm 101),(102,.nm 102),(6,.nm 6),(7,.nm 7),(8,.nm 8),(4,.nm 4),(11,.nm 11),(60,.nm 60),(12,.nm 12),(13,.nm 13),(24,.nm 24)] rfl rfl ?_ ?_)
    .refine Mg c (yn:=101) rfl rfl sc j ⟨false,rfl,.inr (.inl ⟨13,g,rfl,?_⟩)⟩;simp only[dO,Da,dE,Gy,go_sem,Nat.reduceEqDiff,reduceCtorEq,Nat.reduceAdd,Nat.reduceSub,Nat.reduceMul,Nat.reduceLeDiff,Nat.reduceLT,Int.reduceLE,Int.reduceToNat,Int.reduceNeg,↓reduceIte]
    .simp only[dO,Da,dE];first|exact eN|refine eM ?_
    first|exact eN|refine eM ?_
   .have U:(CN h w f a i).2.2.2∈(CN h w f a i).1:=by
     have r:(BP T3 .bool (CN h w f a i).2.2.2 (Kt (CN h w f a i).1)).getD false=true:=by assumption
     rw[v]at r;simpa[inF] using r
    have g:NZ h w f la (CN h w f a i)=some ([],6):=(As (by assumption)).trans (At U);refine Ev.ent (σ':=⟨[],dO h w f { L with state:=.busy } o la (CN h w f a i) (CN h w f a i).2.2.2 (.raw (.slice none 0 0)) 6⟩) ?_ (AC [(50,.nm 50),(51,.nm 51),(52,.nm 52),(101,.nm 101),(102,.nm 102),(6,.nm 6),(7,.nm 7),(8,.nm 8),(4,.nm 4),(11,.nm 11),(60,.nm 60),(12,.nm 12),(13,.nm 13),(24,.nm 24)] rfl rfl ?_ ?_)
    .refine Mg c (yn:=101) rfl rfl sc j ⟨false,rfl,.inr (.inl ⟨6,g,rfl,?_⟩)⟩;simp only[dO,Da,dE,Gy,go_sem,Nat.reduceEqDiff,reduceCtorEq,Nat.reduceAdd,Nat.reduceSub,Nat.reduceMul,Nat.reduceLeDiff,Nat.reduceLT,Int.reduceLE,Int.reduceToNat,Int.reduceNeg,↓reduceIte]
    .simp only[dO,Da,dE];first|exact eN|refine eM ?_
    first|exact eN|refine eM ?_
   .have z:(CN h w f a i).2.2.2∉(CN h w f a i).1:=by
     have r:(BP T3 .bool (CN h w f a i).2.2.2 (Kt (CN h w f a i).1)).getD false=false:=by assumption
     rw[v]at r;intro y;have:=ACL.1 r _ y;simp at this
    have g:NZ h w f la (CN h w f a i)=some ([],13):=(As (by assumption)).trans ((As z).trans (As (by assumption)));refine Ev.ent (σ':=⟨[],dO h w f { L with state:=.busy } o la (CN h w f a i) (CN h w f a i).2.2.2 (.raw (.slice none 0 0)) 13⟩) ?_ (AC [(50,.nm 50),(51,.nm 51),(52,.nm 52),(101,.nm 101),(102,.nm 102),(6,.nm 6),(7,.nm 7),(8,.nm 8),(4,.nm 4),(11,.nm 11),(60,.nm 60),(12,.nm 12),(13,.nm 13),(24,.nm 24)] rfl rfl ?_ ?_)
    .refine Mg c (yn:=101) rfl rfl sc j ⟨false,rfl,.inr (.inl ⟨13,g,rfl,?_⟩)⟩;simp only[dO,Da,dE,Gy,go_sem,Nat.reduceEqDiff,reduceCtorEq,Nat.reduceAdd,Nat.reduceSub,Nat.reduceMul,Nat.reduceLeDiff,Nat.reduceLT,Int.reduceLE,Int.reduceToNat,Int.reduceNeg,↓reduceIte]
    .simp only[dO,Da,dE];first|exact eN|refine eM ?_
    first|exact eN|refine eM ?_
   .refine⟨⟨k,A⟩,?_⟩;have:=k.1;simp only[AO];omega
   have z:(CN h w f a i).2.2.2∉(CN h w f a i).1:=by
    have r:(BP T3 .bool (CN h w f a i).2.2.2 (Kt (CN h w f a i).1)).getD false=false:=by assumption
    rw[v]at r;intro y;have:=ACL.1 r _ y;simp at this
   have hk:Fu h w (Av f (CN h w f a i).2.2.2)=2:=by simpa using d
   have g:NZ h w f la (CN h w f a i)=none:=(As (by assumption)).trans ((As z).trans (At hk));have X:(CN h w f a (i+1)).2.1=(CN h w f a i).2.1++[BR (Av f (CN h w f a i).2.2.2).2 w.first]:=At hk;refine Ev.ent (σ':=⟨[],dO h w f { L with state:=.busy } o la (CN h w f a (i+1)) (CN h w f a i).2.2.2 (.raw (.slice none 0 0)) 0⟩) ?_ (AC [(50,.nm 50),(51,.nm 51),(52,.nm 52),(101,.nm 101),(102,.nm 102),(6,.nm 6),(7,.nm 7),(8,.nm 8),(4,.nm 4),(11,.nm 11),(60,.nm 60),(12,.nm 12),(13,.nm 13),(24,.nm 24)] rfl rfl ?_ ?_)
   .refine Xb c (yn:=101) rfl rfl sc j ⟨true,rfl,.inr (.inr ⟨g,rfl,?_⟩)⟩;simp only[dO,Da,dE,go_sem,Nat.reduceEqDiff,reduceCtorEq,Nat.reduceAdd,Nat.reduceSub,Nat.reduceMul,Nat.reduceLeDiff,Nat.reduceLT,Int.reduceLE,Int.reduceToNat,Int.reduceNeg,↓reduceIte,fR B M]
   .simp only[dO,Da,dE,W,X];first|exact eN|refine eM ?_
   first|exact eN|refine eM ?_
  .simp only[Ba,dO,Da,dE,CN];first|exact eN|refine eM ?_
  .simp only[Ba,dO,Da,dE,CN];first|exact eN|refine eM ?_
   rfl
  rintro _ _ ⟨rfl,i,hi,R⟩;rcases R with ⟨g,-,rfl⟩|⟨e,g,-,rfl⟩|⟨g,q,rfl⟩
  .have s:=Yj k t u hi g;refine⟨[(50,.nm 50),(51,.nm 51),(52,.nm 52),(101,.nm 101),(102,.nm 102),(6,.nm 6),(7,.nm 7),(8,.nm 8),(4,.nm 4),(11,.nm 11),(60,.nm 60),(12,.nm 12),(13,.nm 13),(24,.nm 24)],dO h w f (Gy L) o la (CN h w f a i) (CN h w f a i).2.2.2 (.sr 60 T3 0 (CN h w f a i).2.1.length) 0,Gy L,rfl,rfl,?_,rfl,rfl,rfl,rfl,?_⟩
   .simp only[dO,Da,dE];first|exact eN|refine eM ?_
   intro b;simp only[Gy,EvJ,dO,Da,dE,Ba,go_sem,Nat.reduceEqDiff,reduceCtorEq,Nat.reduceAdd,Nat.reduceSub,Nat.reduceMul,Nat.reduceLeDiff,Nat.reduceLT,Int.reduceLE,Int.reduceToNat,Int.reduceNeg,↓reduceIte];replace c:=Qp (dn:=103) (b:=b) c;refine CK [60] ?_;repeat'(first|exact trivial|apply eS rfl|apply AB|refine rX c ?_ ?_|refine rC ?_ ?_<;>intro d<;>try(cases d;done))
   refine Ev.ent (σ':=⟨[(6,.bp 6 [] 0),(7,.bp 7 [] 0)],[(6,.box 101 false [.p Bz (CN h w f a i).2.1]),(7,.box 35 false [.p C0 0]),(103,.dfr)]⟩) ?_ (AC [(6,.nm 6),(7,.nm 7),(103,.nm 103)] rfl rfl ?_ ?_)
   .rw[s];exact Un c [.cell 6 101,.cell 7 35] rfl (.inl rfl) rfl rfl (.tup [.p Bz (CN h w f a i).2.1,.p C0 0]) eT rfl
   .first|exact eN|refine eM ?_
   first|exact eN|refine eM ?_
  .have s:=Yj k t u hi g;refine⟨[(50,.nm 50),(51,.nm 51),(52,.nm 52),(101,.nm 101),(102,.nm 102),(6,.nm 6),(7,.nm 7),(8,.nm 8),(4,.nm 4),(11,.nm 11),(60,.nm 60),(12,.nm 12),(13,.nm 13),(24,.nm 24)],dO h w f (Gy L) o la (CN h w f a i) (CN h w f a i).2.2.2 (.raw (.slice none 0 0)) e,Gy L,rfl,rfl,?_,rfl,rfl,rfl,rfl,?_⟩
   .simp only[dO,Da,dE];first|exact eN|refine eM ?_
   intro b;simp only[Gy,EvJ,dO,Da,dE,Ba,go_sem,Nat.reduceEqDiff,reduceCtorEq,Nat.reduceAdd,Nat.reduceSub,Nat.reduceMul,Nat.reduceLeDiff,Nat.reduceLT,Int.reduceLE,Int.reduceToNat,Int.reduceNeg,↓reduceIte];replace c:=Qp (dn:=103) (b:=b) c;repeat'(first|exact trivial|apply eS rfl|apply AB|refine rX c ?_ ?_|refine rC ?_ ?_<;>intro d<;>try(cases d;done))
   refine Ev.ent (σ':=⟨[(6,.bp 6 [] 0),(7,.bp 7 [] 0)],[(6,.box 101 false [.p Bz []]),(7,.box 35 false [.p C0 e]),(103,.dfr)]⟩) ?_ (AC [(6,.nm 6),(7,.nm 7),(103,.nm 103)] rfl rfl ?_ ?_)
   .rw[s];exact Un c [.cell 6 101,.cell 7 35] rfl (.inl rfl) rfl rfl (.tup [.p Bz [],.p C0 e]) eT rfl
   .first|exact eN|refine eM ?_
   first|exact eN|refine eM ?_
  cases q
 .simp only[Da];first|exact eN|refine eM ?_
 first|exact eN|refine eM ?_
end
section
attribute [local go_sem] WK m3 aN aO WL A1R JJ IJ
def ME:AW:={ ins:=[FY,FL,T3],pre:=λ(h,f,n,_)=>AX f/\C2 h f/\(0:Int)<=n/\n<(List.length f:Int),out:=λ(h,f,n,_)=>[.p Bz (BK h f n).1,.p C0 (BK h f n).2] }
attribute [local go_sem] ME
theorem iB:AY Tryz.prog 130 ME:=by
 refine Wp ⟨_,Tryz.func130,by kernel_rfl,by kernel_rfl⟩ (λds e=>?_) (λds r a=>?_)
 .obtain⟨h,f,n,u⟩:=ds;obtain⟨h1,b,c,d⟩:=e;refine⟨[.p FY h,.p FL f,.p T3 n],λw O t g=>?_,m5 h f n h1 b c d⟩;obtain⟨v1,o,rfl,i,l,q,rfl,j,m,s,rfl,k,rfl⟩:=g;exact⟨v1,_,rfl,Ut i,l,_,rfl,Ut j,m,_,rfl,Ut k,rfl⟩
 simp only[ME,GO,ABQ,ACX]at a;rcases a with rfl|rfl
 .exact⟨_,_,rfl⟩
 exact⟨_,_,rfl⟩
end
section
attribute [local go_sem] hJ Xi Kj KD Mj JJ IJ M5
def So (h:AF) (f:List AD):Prop:=∀x∈f,∀a∈x.2,0<=a.1/\a.1<(h.2.length:Int)
def A1S (h:AF) (a:Int×Int):ByteArray:=(h.2.getD a.1.toNat (ByteArray.empty,0)).1
def nmN (h:AF) (f:List AD) (n:Int):ByteArray:=(h.1.getD (Av f n).1.toNat Q4).1
theorem WM (a:AX f) (n:Int) (s:ByteArray) (h0:0<f.length):Cu h f n s<(f.length:Int):=by
 unfold Cu;split
 .exact Mq O1 _ λx b=>(JV a n.toNat x b).2
 omega
end
section
attribute [local go_sem] ME
theorem Yk {h:AF} {w:LW} {f:List AD} {la:Int} (hf:AX f):∀(k:Nat) (c out:List Int) (n:Int),(∀x∈out,0<=x/\x<(f.length:Int))->(∀x∈(Fj h w f la k c out n).1,0<=x/\x<(f.length:Int))/\(Fj h w f la k c out n).1.length<=out.length+k/\((Fj h w f la k c out n).2≠0->(Fj h w f la k c out n).1=[])
 | 0,_,_,_,_=>⟨λx b=>(by cases b),DO _,λ_=>rfl⟩
 | k+1,c,out,n,i=>by
  have d:∀e:Int,(∀x∈(([],e):List Int×Int).1,0<=x/\x<(f.length:Int))/\(([],e):List Int×Int).1.length<=out.length+(k+1)/\((([],e):List Int×Int).2≠0->(([],e):List Int×Int).1=[]):=λe=>⟨λx b=>(by cases b),DO _,λ_=>rfl⟩;rw[Fj];cases a:iA h w f la c out n with
  | some r =>
   unfold iA at a;simp only;split at a
   .cases a;split
    .exact⟨i,Nat.le_add_right _ _,λq=>absurd rfl q⟩
    exact d 13
   split at a
   .cases a;exact d 6
   split at a
   .cases a
   cases a;exact d 13
  | none =>
   have hk:=(Jc a).2.2;have l:0<=BR (Av f n).2 w.first/\BR (Av f n).2 w.first<(f.length:Int):=by
    have j:=(YM hk).1;have m:f.length≠0:=by
     intro q;have:f=[]:=List.length_eq_zero_iff.1 q;subst this;simp[BR,Av]at j
    exact⟨j,Mq O1 _ λx b=>(JV hf n.toNat x b).2⟩
   have g:=Yk (h:=h) (w:=w) (la:=la) hf k (c++[n]) (out++[BR (Av f n).2 w.first]) (BR (Av f n).2 w.rest) (λx b=>by
    rcases NO.1 b with q|q
    .exact i x q
    rw[oR.1 q];exact l)
   refine⟨g.1,?_,g.2.2⟩;have:=g.2.1;rw[Do,i5]at this;simp only;omega
theorem ST (hf:AX f) (n:Int):((∀x∈(BK h f n).1,0<=x/\x<(f.length:Int))/\(BK h f n).1.length<=200000)/\((BK h f n).2≠0->(BK h f n).1=[]):=by
 unfold BK;split
 .split
  .exact⟨⟨λx a=>(by cases a),DO _⟩,λ_=>rfl⟩
  have:=Yk (h:=h) (w:=EF h) (la:=BR (Av f n).2 (EF h).last) hf (f.length+1) [] [] (BR (Av f n).2 (EF h).head) (λx a=>by cases a);have b:=hf.1;refine⟨⟨this.1,?_⟩,this.2.2⟩;have:=this.2.1;simp only[AAs]at this;omega
 exact⟨⟨λx a=>(by cases a),DO _⟩,λ_=>rfl⟩
end
section
attribute [local go_sem] hJ Qy Kj KD Mj JJ IJ M5
theorem QG {a b:ByteArray} (h:AM a b=true):a=b:=by
 have h:=F9.1 h;rw[ByteArray.toList_eq,ByteArray.toList_eq]at h;exact AB3 ByteArray.mk (Array.toList_inj.1 h)
def zM:Bj:=(0,0,[],[],[])
end
section
attribute [local go_sem] P1 NQ Kj KD Mj JJ IJ M5
def A1T (h:AF):Prop:=0<=Ad h ⟨#[104,97,110,100,108,101]⟩/\0<=Ad h ⟨#[101,118,101,110,116]⟩/\0<=Ad h ⟨#[101,110,116,105,116,121]⟩/\0<=Ad h ⟨#[105,110,100,101,120]⟩
def Iv:List (ByteArray×ByteArray):=[(⟨#[104]⟩,⟨#[104,97,110,100,108,101]⟩),(⟨#[101]⟩,⟨#[101,118,101,110,116]⟩),(⟨#[120]⟩,⟨#[101,110,116,105,116,121]⟩),(⟨#[105]⟩,⟨#[105,110,100,101,120]⟩)]
def m6 (h:AF) (t:Int) (i:Nat):Option ByteArray:=if Ae h (Ad h (Iv.getD i (ByteArray.empty,ByteArray.empty)).2) t=true then some (Iv.getD i (ByteArray.empty,ByteArray.empty)).1 else none
theorem A1U (hs:A1T h) (t:Int):BC (m6 h t) ⟨#[]⟩ 4 0=Ce h t:=by
 obtain⟨h1,e,f,g⟩:=hs;have a:m6 h t 0=if Oc h ⟨#[104,97,110,100,108,101]⟩ t=true then some ⟨#[104]⟩ else none:=by unfold Oc;rw[AAZ h1];rfl
 have b:m6 h t 1=if Oc h ⟨#[101,118,101,110,116]⟩ t=true then some ⟨#[101]⟩ else none:=by unfold Oc;rw[AAZ e];rfl
 have c:m6 h t 2=if Oc h ⟨#[101,110,116,105,116,121]⟩ t=true then some ⟨#[120]⟩ else none:=by unfold Oc;rw[AAZ f];rfl
 have d:m6 h t 3=if Oc h ⟨#[105,110,100,101,120]⟩ t=true then some ⟨#[105]⟩ else none:=by unfold Oc;rw[AAZ g];rfl
 simp only[BC,Ce,a,b,c,d,AAX,Nat.reduceAdd];split<;>rename_i q
 .split at q<;>cases q;rename_i q;rw[At q]
 split at q<;>cases q;rename_i q;rw[As q];split<;>rename_i q
 .split at q<;>cases q;rename_i q;rw[At q]
 split at q<;>cases q;rename_i q;rw[As q];split<;>rename_i q
 .split at q<;>cases q;rename_i q;rw[At q]
 split at q<;>cases q;rename_i q;rw[As q];split<;>rename_i q
 .split at q<;>cases q;rename_i q;rw[At q]
 split at q<;>cases q;rename_i q;rw[As q]
theorem AAg (hs:A1T h) (hi:i<4):0<=Ad h (Iv.getD i (ByteArray.empty,ByteArray.empty)).2:=by
 obtain⟨h1,a,b,c⟩:=hs;match i,hi with
 | 0,_=>exact h1
 | 1,_=>exact a
 | 2,_=>exact b
 | 3,_=>exact c
def aQ:AW:={ ins:=[FY,T3],pre:=λ(h,t,_)=>A1T h/\(0:Int)<=t/\t<(List.length (h:AF).1:Int),out:=λ(h,t,_)=>[.p T9 (Ce h t)],lend:=true }
theorem iC:AY Tryz.prog 11 aQ:=by
 refine fK [0,1,2,4,6,7,8,9,10,19] Tryz.func11 Tryz.ntmps11 (AE P2 (AE Mn AH)) ?_;rintro w0 O0 ⟨h,t,u⟩ a-⟨hs,h0,h1⟩;have hs:A1T h:=hs;have h0:0<=t:=h0;have h1:t<(h.1.length:Int):=h1;have d:(h.1,h.2)=h:=rfl;simp only[aQ,AK];repeat'(first|exact trivial|apply eS rfl|apply AB|refine rP a ?_ ?_|fail)
 refine cP 0 a ?_ ?_
 .trivial
 refine A8N a ?_;refine rL a ?_ ?_
 .trivial
 repeat'(first|exact trivial|apply eS rfl|apply AB|refine rP a ?_ ?_|fail)
 rw[<-A1U hs t];generalize e:BC (m6 h t) ⟨#[]⟩ 4 0=S;refine AI (ι:={i:Nat//i<=4/\BC (m6 h t) ⟨#[]⟩ (4-i) i=S}) (λi=>⟨[(1,.p T3 t),(2,.bp 2 [] 0),(7,.p T71 Iv),(8,.p (.int .i64) 4),(9,.p (.int .i64) (i.1:Int))],[(2,.box 26 true [.p M4 h.1,.p N3 h.2])]⟩) (λi=>4-i.1) ⟨0,DO _,e⟩ (AC [(2,.nm 2)] rfl rfl ?_ ?_) (λi=>?_)
 .first|exact eN|refine eM ?_
 .first|exact eN|refine eM ?_
  exact⟨rfl,rfl⟩
 obtain⟨i,hi,c⟩:=i;simp only;repeat'(first|exact trivial|apply eS rfl|apply AB|refine rX a ?_ ?_|refine rC ?_ ?_<;>intro b<;>try(cases b;done))
 all_goals have d:(h.1,h.2)=h:=rfl
 all_goals try simp only[d]at *
 .exact b
 .exact⟨⟨AAg hs O1,Fi h _⟩,h0,h1⟩
 .rw[CW c O1 (At b)];exact fI a [.tmp 4]
 .omega
 .refine⟨⟨i+1,by omega,DA c O1 (As (by rw[b];simp))⟩,by simp only;omega,AC [(2,.nm 2)] rfl rfl ?_ ?_⟩
  .first|exact eN|refine eM ?_
  first|exact eN|refine eM ?_
 rw[Dv c O1];exact fI a [.tmp 4]
end
section
attribute [local go_sem] oP oQ A3A Kj KD Mj JJ IJ M5
def A1V:AW:={ ins:=[Ty.int .i32],pre:=λ_=>True,out:=λ(c,_)=>[.p .bool (CH 97 122 c)] }
attribute [local go_sem] A1V
theorem A4R:AY Tryz.prog 197 A1V:=by
 refine fK [0,2] Tryz.func197 Tryz.ntmps197 AH ?_;rintro w0 O0 ⟨c,u⟩ a - -;simp only[A1V,AK];repeat'(first|exact trivial|apply eS rfl|apply AB|refine rX a ?_ ?_|refine rC ?_ ?_<;>intro b<;>try(cases b;done))
 exact fI a [.tmp 2] (by unfold CH;exact eR)
def A1W:AW:={ ins:=[Ty.int .i32],pre:=λ_=>True,out:=λ(c,_)=>[.p .bool (CH 48 57 c)] }
attribute [local go_sem] A1W
theorem A4S:AY Tryz.prog 211 A1W:=by
 refine fK [0,2] Tryz.func211 Tryz.ntmps211 AH ?_;rintro w0 O0 ⟨c,u⟩ a - -;simp only[A1W,AK];repeat'(first|exact trivial|apply eS rfl|apply AB|refine rX a ?_ ?_|refine rC ?_ ?_<;>intro b<;>try(cases b;done))
 exact fI a [.tmp 2] (by unfold CH;exact eR)
def flB (s:ByteArray) (i:Nat):Bool:=CH 97 122 (NL s i)||(decide (i≠0)&&(CH 48 57 (NL s i)||NL s i==45))
theorem WN (s:ByteArray):BM s false=(decide (1<=s.size/\s.size<=32)&&(List.range s.size).all (flB s)):=by
 rw[ABL];simp only[BM,N5,An,TO,AAr,To,IN,OF,wH];constructor
 .rintro⟨⟨⟨⟨h1,c⟩,d⟩,e⟩,a⟩;refine⟨⟨by omega,by omega⟩,λi hi=>?_⟩;have:=a i hi;unfold N4 at this;unfold flB;by_cases h0:i=0
  .subst h0;rw[d,e]at this;simpa using this
  simp only[Bool.false_and,AC8,ACi,AC7,oN]at this;simp only[ne_eq,h0,ACJ,decide_true,AC7,oN];rcases this with (h|h)|h
  .exact .inr (.inl h)
  .exact .inr (.inr h)
  exact .inl h
 rintro⟨⟨h1,c⟩,a⟩;have h0:=a 0 O1;simp only[flB,ne_eq,ABV,decide_false,Bool.false_and,AC8]at h0;have b:=h0;simp only[CH,An,IN]at b;refine⟨⟨⟨⟨by omega,by omega⟩,?_⟩,?_⟩,λi hi=>?_⟩
 .simp only[CH,AAY,To];right;omega
 .simp only[AAR];omega
 have:=a i hi;unfold flB at this;unfold N4;simp only[Bool.false_and,AC8,ACi,AC7,oN];simp only[oN,An]at this;rcases this with h|⟨-,h|h⟩
 .exact .inr h
 .exact .inl (.inl h)
 exact .inl (.inr h)
theorem A4U (s:ByteArray) (p:Nat) (h:p<s.size):NL s p=((s[p]'h).toNat:Int):=by
 have a:p<s.data.size:=h;show ((s.data.getD p 0).toNat:Int)=_;simp only[Array.getD_eq_getD_getElem?,AAz a,ABP];rfl
theorem A4V {s:ByteArray} {p:Nat} (h:p<s.size) {q:Nat} {r:Int} (h1:(s[p]'h).toNat<128->q=p+1/\r=((s[p]'h).toNat:Int)) (b:128<=(s[p]'h).toNat->128<=r) :
  (CH 97 122 r||(decide (p≠0)&&(CH 48 57 r||r==45)))=flB s p/\(flB s p=true->q=p+1):=by
 unfold flB;rw[A4U s p h];by_cases c:(s[p]'h).toNat<128
 .obtain⟨d,a⟩:=h1 c;rw[a];exact⟨rfl,λ_=>d⟩
 have a:=b O1;have f:∀x:Int,128<=x->(CH 97 122 x||(decide (p≠0)&&(CH 48 57 x||x==45)))=false:=by
  intro x e;simp only[CH,AAr,AAY,To,AAR];exact⟨.inr O1,.inr ⟨.inr O1,by omega⟩⟩
 rw[f r a,f _ O1];exact⟨rfl,λh=>by cases h⟩
theorem m7 (s:ByteArray):BB Tryz.prog 196 [.p T9 s,.fn 197] [] [] (λres _=>res=.p .bool (BM s false)):=by
 refine Jf [0,1,4,5,6,14,16,17,18,37] [] [] Tryz.func196 Tryz.ntmps196 (AE A4R (AE A4S AH)) ?_;intro w0 K O0 ρ0 a n t;have o:s.size<=AO:=n.1;simp only[Am];repeat'(first|exact trivial|apply eS rfl|apply AB|refine rX a ?_ ?_|refine rC ?_ ?_<;>intro b<;>try(cases b;done))
 .have hf:BM s false=false:=by
   rw[WN,AAY];exact .inl (AC3 O1)
  exact fM a [.tmp 4] (.p .bool false) eT (by rw[hf])
 refine cP 1 a ?_ ?_
 .trivial
 refine AA4 a (by kernel_rfl) ?_;refine E2 ?_;repeat'(first|exact trivial|apply eS rfl|apply AB|refine rP a ?_ ?_|fail)
 refine AI (ι:={p:Nat//p<=s.size/\∀i,i<p->flB s i=true}) (λp=>⟨[(0,.p T9 s),(1,.fn 197),(16,.bp 16 [] 0)],[(16,.sit s p.1)]⟩) (λp=>s.size-p.1) ⟨0,DO _,λ_ h=>by omega⟩ (AC [(16,.nm 16)] rfl rfl ?_ ?_) (λp=>?_)
 .first|exact eN|refine eM ?_
 .first|exact eN|refine eM ?_
 obtain⟨p,u,f⟩:=p;simp only;repeat'(first|exact trivial|apply eS rfl|apply AB|refine rP a ?_ ?_|fail)
 refine cP 0 a ?_ ?_
 .trivial
 refine AA5 a o (λh=>?_) (λh q r x h1 j hi=>?_)
 .refine rL a ?_ ?_
  .trivial
  repeat'(first|exact trivial|apply eS rfl|apply AB|refine rX a ?_ ?_|refine rC ?_ ?_<;>intro b<;>try(cases b;done))
  have w:p=s.size:=by omega
  have hf:BM s false=true:=by
   rw[WN,An];exact⟨AAZ O1,OF.2 λi hi=>f i (by rw[wH]at hi;omega)⟩
  exact fM a [.tmp 4] (.p .bool true) eT (by rw[hf])
 have d:=A4V h h1 j;refine rL a ?_ ?_
 .trivial
 repeat'(first|exact trivial|apply eS rfl|apply AB|refine rX a ?_ ?_|refine rC ?_ ?_<;>intro b<;>try(cases b;done))
 .have hf:BM s false=false:=by
   rw[WN,AAY];refine .inr (ABM.2 λl=>?_);have:=OF.1 l p (wH.2 h);rw[<-d.1]at this;simp only[oN,An,IN,AAb]at this;rcases b with ⟨ha,c⟩
   rw[ha]at this;rcases this with h|⟨v,h⟩
   .cases h
   rcases c with e|⟨e,g⟩
   .omega
   rw[e]at h;rcases h with h|h
   .cases h
   exact g h
  exact fM a [.tmp 4] (.p .bool false) eT (by rw[hf])
 have hf:flB s p=true:=by
  rw[<-d.1];simp only[oN,An,IN,AAb];cases ha:CH 97 122 r
  .obtain⟨h0,k⟩:=b ha;refine .inr ⟨by omega,?_⟩;cases c:CH 48 57 r
   .have:=k c;exact .inr (by simpa using this)
   exact .inl rfl
  exact .inl rfl
 obtain rfl:=d.2 hf;refine⟨⟨p+1,by omega,λi hi=>?_⟩,by simp only;omega,AC [(16,.nm 16)] rfl rfl ?_ ?_⟩
 .by_cases m:i=p
  .rw[m];exact hf
  exact f i O1
 .first|exact eN|refine eM ?_
 first|exact eN|refine eM ?_
def aR:AW:={ ins:=[T9],pre:=λ_=>True,out:=λ(s,_)=>[.p .bool (BM s false)] }
attribute [local go_sem] aR
theorem A1X:AY Tryz.prog 186 aR:=by
 refine fK [0,2] Tryz.func186 Tryz.ntmps186 AH ?_;rintro w0 O0 ⟨s,u⟩ a - -;simp only[aR,AK];repeat'(first|exact trivial|apply eS rfl|apply AB|refine rX a ?_ ?_|refine rC ?_ ?_<;>intro b<;>try(cases b;done))
 refine cP 1 a ?_ ?_
 .trivial
 refine rM a (m7 s) [] [] ?_ ?_ ?_
 .exact eN
 .exact eN
 rintro _ _ rfl;refine⟨[],.p .bool (BM s false),[],rfl,rfl,?_,?_,rfl,rfl,?_⟩
 .exact eN
 .exact eN
 refine rL a ?_ ?_
 .trivial
 repeat'(first|exact trivial|apply eS rfl|apply AB|refine rX a ?_ ?_|refine rC ?_ ?_<;>intro b<;>try(cases b;done))
 exact fI a [.tmp 2]
end
section
attribute [local go_sem] nmS aQ P1 NQ aR Kj KD Mj JJ IJ M5
theorem Hy (h:(match P.underlying t with|some (.struct _)=>true|_=>false)=true):∃fs,P.underlying t=some (.struct fs):=by
 cases e:P.underlying t with
 | none=>rw[e]at h;cases h
 | some u =>
  rw[e]at h;cases u<;>first|exact⟨_,rfl⟩|cases h
theorem qS {nm:String} {f:FuncId} (hs:∃fs,P.underlying t=some (.struct fs))
  (h:(match P.info? t with|some i=>(match i.methods.find? (·.name==nm) with|some m=>m.path.toList.isEmpty&&(m.func==some (f,false))|none=>false)|none=>false)=true) (w:World) (v:Value) :
  (method (P.types.size+Made.depth) t v nm).run P w=.ok (f,v) w:=by
 obtain⟨fs,hs⟩:=hs;cases hi:P.info? t with
 | none=>rw[hi]at h;cases h
 | some i =>
  rw[hi]at h;simp only at h;cases a:i.methods.find? (·.name==nm) with
  | none=>rw[a]at h;cases h
  | some m =>
   rw[a]at h;simp only[An,List.isEmpty_iff,AAb]at h;obtain⟨h1,b⟩:=h;have hk:P.types.size+Made.depth=(P.types.size+(Made.depth-1))+1:=rfl;rw[hk];have c:(typeInfo t).run P w=.ok i w:=by simp[typeInfo,Sem.run,program,hi]
   simp[method,c,a,h1,b,follow,receiverAt,f8 hs,Place.get]
theorem A1Y:AY Tryz.prog 234 nmS:=by
 refine fK [0,1,2] Tryz.func234 Tryz.ntmps234 AH ?_;rintro w0 O0 ⟨s,u⟩ a - -;simp only[nmS,AK];repeat'(first|exact trivial|apply eS rfl|apply AB|refine rX a ?_ ?_|refine rC ?_ ?_<;>intro b<;>try(cases b;done))
 exact fI a [.tmp 2]
theorem A1Z:AY Tryz.prog 235 nmS:=by
 refine fK [0,1,2] Tryz.func235 Tryz.ntmps235 AH ?_;rintro w0 O0 ⟨s,u⟩ a - -;simp only[nmS,AK];repeat'(first|exact trivial|apply eS rfl|apply AB|refine rX a ?_ ?_|refine rC ?_ ?_<;>intro b<;>try(cases b;done))
 exact fI a [.tmp 2]
def m8 (h:AF):Prop:=A1T h/\0<=Ad h ⟨#[114,101,108]⟩/\0<=Ad h ⟨#[113,101,113]⟩
def Sp (h:AF) (f:List AD) (n:Int):List QT:=if AM (Ce h (Av f n).1) ⟨#[]⟩=false then [some (241,some (Ce h (Av f n).1))] else []
def WO (h:AF) (f:List AD) (n:Int):Bool:=Ae h (Ad h ⟨#[114,101,108]⟩) (Av f n).1&&BM (nmN h f n) false
def Sq (h:AF) (f:List AD) (n:Int):List QT:=if WO h f n=true then [some (244,some (nmN h f n))] else []
def Sr (h:AF) (f:List AD) (n:Int):List QT:=if Ae h (Ad h ⟨#[113,101,113]⟩) (Av f n).1=true then [some (246,none)] else []
def Gi (h:AF) (f:List AD) (n:Int):List QT:=Sp h f n++Sq h f n++Sr h f n
def E9 (h:AF) (f:List AD) (a b:Int) (e:List (Int×Int)) (d:List ByteArray) (c:List G8) (qs:List Sk):List (Nat×Obj) :=
  [(1,.box 81 true [.p FY h,.p FL f,.mp 2,.ag [.p T3 a,.p T3 b,.sr 3 T9 0 d.length,.sr 4 T54 0 c.length,.sr 5 T93 0 qs.length]]),
   (2,.mapo T3 T3 e),(3,.arr 9 T9 d),(4,.arr 54 T54 c),(5,.arr 93 T93 qs)]
theorem QH (q:Ae h (Ad h ⟨#[114,101,108]⟩) (Av f n).1=true/\BM (nmN h f n) false=true):WO h f n=true:=by
 unfold WO;rw[q.1,q.2];rfl
theorem QI (q:Ae h (Ad h ⟨#[114,101,108]⟩) (Av f n).1=true->BM (nmN h f n) false=false):¬WO h f n=true:=by
 unfold WO;rw[An];rintro⟨a,b⟩;rw[q a]at b;cases b
theorem A20 (hs:m8 h) (o:C2 h f) (h0:0<=n) (h1:n<(f.length:Int)) (a b:Int) (l:List (Int×Int)) (m:List ByteArray) (k:List G8) (qs:List Sk) :
  BB Tryz.prog 167 [.bp 1 [] 0,.p T3 n] (E9 h f a b l m k qs) [1,2]
  (λres q=>res=.p Qr (Gi h f n)/\q=E9 h f a b l m k qs):=by
 refine Jf [0,1,4,5,6,7,8,25,55,72] [30,60,76] [] Tryz.func167 Tryz.ntmps167 (AE iC (AE P2 (AE Mn (AE A1X AH)))) ?_;intro w0 K O0 ρ0 c r s;simp only[Am,E9];have j:0<=(f.getD n.toNat (0,[])).1/\(f.getD n.toNat (0,[])).1<(h.1.length:Int):=o _ (AG f (0,[]) (L5 ⟨h0,h1⟩));repeat'(first|exact trivial|apply eS rfl|apply AB|refine rX c ?_ ?_|refine rC ?_ ?_<;>intro d<;>try(cases d;done))
 .exact⟨h0,h1⟩
 .exact⟨hs.1,j⟩
 .refine cP 3 c ?_ ?_
  .trivial
  refine A6F c (Hy (by kernel_rfl)) ?_;refine rL c ?_ ?_
  .trivial
  repeat'(first|exact trivial|apply eS rfl|apply AB|refine rX c ?_ ?_|refine rC ?_ ?_<;>intro d<;>try(cases d;done))
  .exact j
  .exact⟨⟨hs.2.1,Fi h _⟩,j⟩
  .refine cP 3 c ?_ ?_
   .trivial
   refine A6F c (Hy (by kernel_rfl)) ?_;refine rL c ?_ ?_
   .trivial
   repeat'(first|exact trivial|apply eS rfl|apply AB|refine rX c ?_ ?_|refine rC ?_ ?_<;>intro d<;>try(cases d;done))
   .exact⟨⟨hs.2.2,Fi h _⟩,j⟩
   .refine cP 1 c ?_ ?_
    .trivial
    refine A3y c (Hy (by kernel_rfl)) (λw=>run_build w _ #[] #[] (by kernel_rfl)) dg ?_;refine rL c ?_ ?_
    .trivial
    repeat'(first|exact trivial|apply eS rfl|apply AB|refine rX c ?_ ?_|refine rC ?_ ?_<;>intro d<;>try(cases d;done))
    rename_i g i;have e:Gi h f n=[some (241,some (Ce h (f.getD n.toNat (0,[])).1)),some (244,some (List.getD h.1 (Int.toNat (f.getD n.toNat (0,[])).1) (ByteArray.empty,[],[],[])).1),some (246,none)]:=by
     unfold Gi Sp Sq Sr;rw[At (show AM (Ce h (Av f n).1) ⟨#[]⟩=false from g),At (QH i),At (show Ae h (Ad h ⟨#[113,101,113]⟩) (Av f n).1=true from d)];rfl
    refine CK [31] ?_;exact fM c [.tmp 4] (.p Qr [some (241,some (Ce h (f.getD n.toNat (0,[])).1)),some (244,some (List.getD h.1 (Int.toNat (f.getD n.toNat (0,[])).1) (ByteArray.empty,[],[],[])).1),some (246,none)]) eT ⟨by rw[e],rfl⟩
   skip
   rename_i g i;have e:Gi h f n=[some (241,some (Ce h (f.getD n.toNat (0,[])).1)),some (244,some (List.getD h.1 (Int.toNat (f.getD n.toNat (0,[])).1) (ByteArray.empty,[],[],[])).1)]:=by
    unfold Gi Sp Sq Sr;rw[At (show AM (Ce h (Av f n).1) ⟨#[]⟩=false from g),At (QH i),As (show ¬Ae h (Ad h ⟨#[113,101,113]⟩) (Av f n).1=true by rw[show Ae h (Ad h ⟨#[113,101,113]⟩) (Av f n).1=false from d];simp)];rfl
   refine CK [31] ?_;exact fM c [.tmp 4] (.p Qr [some (241,some (Ce h (f.getD n.toNat (0,[])).1)),some (244,some (List.getD h.1 (Int.toNat (f.getD n.toNat (0,[])).1) (ByteArray.empty,[],[],[])).1)]) eT ⟨by rw[e],rfl⟩
  .exact⟨⟨hs.2.2,Fi h _⟩,j⟩
  .refine cP 1 c ?_ ?_
   .trivial
   refine A3y c (Hy (by kernel_rfl)) (λw=>run_build w _ #[] #[] (by kernel_rfl)) dg ?_;refine rL c ?_ ?_
   .trivial
   repeat'(first|exact trivial|apply eS rfl|apply AB|refine rX c ?_ ?_|refine rC ?_ ?_<;>intro d<;>try(cases d;done))
   rename_i g i;have e:Gi h f n=[some (241,some (Ce h (f.getD n.toNat (0,[])).1)),some (246,none)]:=by
    unfold Gi Sp Sq Sr;rw[At (show AM (Ce h (Av f n).1) ⟨#[]⟩=false from g),As (QI i),At (show Ae h (Ad h ⟨#[113,101,113]⟩) (Av f n).1=true from d)];rfl
   refine CK [31] ?_;exact fM c [.tmp 4] (.p Qr [some (241,some (Ce h (f.getD n.toNat (0,[])).1)),some (246,none)]) eT ⟨by rw[e],rfl⟩
  skip
  rename_i g i;have e:Gi h f n=[some (241,some (Ce h (f.getD n.toNat (0,[])).1))]:=by
   unfold Gi Sp Sq Sr;rw[At (show AM (Ce h (Av f n).1) ⟨#[]⟩=false from g),As (QI i),As (show ¬Ae h (Ad h ⟨#[113,101,113]⟩) (Av f n).1=true by rw[show Ae h (Ad h ⟨#[113,101,113]⟩) (Av f n).1=false from d];simp)];rfl
  refine CK [31] ?_;exact fM c [.tmp 4] (.p Qr [some (241,some (Ce h (f.getD n.toNat (0,[])).1))]) eT ⟨by rw[e],rfl⟩
 .exact j
 .exact⟨⟨hs.2.1,Fi h _⟩,j⟩
 .refine cP 3 c ?_ ?_
  .trivial
  refine A6F c (Hy (by kernel_rfl)) ?_;refine rL c ?_ ?_
  .trivial
  repeat'(first|exact trivial|apply eS rfl|apply AB|refine rX c ?_ ?_|refine rC ?_ ?_<;>intro d<;>try(cases d;done))
  .exact⟨⟨hs.2.2,Fi h _⟩,j⟩
  .refine cP 1 c ?_ ?_
   .trivial
   refine A3y c (Hy (by kernel_rfl)) (λw=>run_build w _ #[] #[] (by kernel_rfl)) dg ?_;refine rL c ?_ ?_
   .trivial
   repeat'(first|exact trivial|apply eS rfl|apply AB|refine rX c ?_ ?_|refine rC ?_ ?_<;>intro d<;>try(cases d;done))
   rename_i g i;have e:Gi h f n=[some (244,some (List.getD h.1 (Int.toNat (f.getD n.toNat (0,[])).1) (ByteArray.empty,[],[],[])).1),some (246,none)]:=by
    unfold Gi Sp Sq Sr;rw[As (show ¬AM (Ce h (Av f n).1) ⟨#[]⟩=false by rw[show AM (Ce h (Av f n).1) ⟨#[]⟩=true from g];simp),At (QH i),At (show Ae h (Ad h ⟨#[113,101,113]⟩) (Av f n).1=true from d)];rfl
   refine CK [61] ?_;exact fM c [.tmp 4] (.p Qr [some (244,some (List.getD h.1 (Int.toNat (f.getD n.toNat (0,[])).1) (ByteArray.empty,[],[],[])).1),some (246,none)]) eT ⟨by rw[e],rfl⟩
  skip
  rename_i g i;have e:Gi h f n=[some (244,some (List.getD h.1 (Int.toNat (f.getD n.toNat (0,[])).1) (ByteArray.empty,[],[],[])).1)]:=by
   unfold Gi Sp Sq Sr;rw[As (show ¬AM (Ce h (Av f n).1) ⟨#[]⟩=false by rw[show AM (Ce h (Av f n).1) ⟨#[]⟩=true from g];simp),At (QH i),As (show ¬Ae h (Ad h ⟨#[113,101,113]⟩) (Av f n).1=true by rw[show Ae h (Ad h ⟨#[113,101,113]⟩) (Av f n).1=false from d];simp)];rfl
  refine CK [61] ?_;exact fM c [.tmp 4] (.p Qr [some (244,some (List.getD h.1 (Int.toNat (f.getD n.toNat (0,[])).1) (ByteArray.empty,[],[],[])).1)]) eT ⟨by rw[e],rfl⟩
 .exact⟨⟨hs.2.2,Fi h _⟩,j⟩
 .refine cP 1 c ?_ ?_
  .trivial
  refine A3y c (Hy (by kernel_rfl)) (λw=>run_build w _ #[] #[] (by kernel_rfl)) dg ?_;refine rL c ?_ ?_
  .trivial
  repeat'(first|exact trivial|apply eS rfl|apply AB|refine rX c ?_ ?_|refine rC ?_ ?_<;>intro d<;>try(cases d;done))
  rename_i g i;have e:Gi h f n=[some (246,none)]:=by
   unfold Gi Sp Sq Sr;rw[As (show ¬AM (Ce h (Av f n).1) ⟨#[]⟩=false by rw[show AM (Ce h (Av f n).1) ⟨#[]⟩=true from g];simp),As (QI i),At (show Ae h (Ad h ⟨#[113,101,113]⟩) (Av f n).1=true from d)];rfl
  refine CK [77] ?_;exact fM c [.tmp 4] (.p Qr [some (246,none)]) eT ⟨by rw[e],rfl⟩
 skip
 rename_i g i;have e:Gi h f n=[]:=by
  unfold Gi Sp Sq Sr;rw[As (show ¬AM (Ce h (Av f n).1) ⟨#[]⟩=false by rw[show AM (Ce h (Av f n).1) ⟨#[]⟩=true from g];simp),As (QI i),As (show ¬Ae h (Ad h ⟨#[113,101,113]⟩) (Av f n).1=true by rw[show Ae h (Ad h ⟨#[113,101,113]⟩) (Av f n).1=false from d];simp)];rfl
 exact fM c [.tmp 4] (.p Qr []) eT ⟨by rw[e],rfl⟩
end
section
attribute [local go_sem] nmS E9 Kj KD Mj JJ IJ M5
def Gp (s:ByteArray×ByteArray×Bool):QT->ByteArray×ByteArray×Bool
 | some (t,some x)=>if t=241 then (x,s.2.1,s.2.2) else if t=244 then (s.1,x,s.2.2) else s
 | some (t,none)=>if t=246 then (s.1,s.2.1,true) else s
 | none=>s
def Oi (h:AF) (f:List AD) (n:Int):ByteArray×ByteArray×Bool:=(Ce h (Av f n).1,if WO h f n=true then nmN h f n else ⟨#[]⟩,Ae h (Ad h ⟨#[113,101,113]⟩) (Av f n).1)
theorem A4W (h:AF) (f:List AD) (n:Int):(Gi h f n).foldl Gp (⟨#[]⟩,⟨#[]⟩,false)=Oi h f n:=by
 unfold Gi Sp Sq Sr Oi;cases a:AM (Ce h (Av f n).1) ⟨#[]⟩<;>cases b:WO h f n<;>cases c:Ae h (Ad h ⟨#[113,101,113]⟩) (Av f n).1<;>simp[Gp];all_goals exact(QG a).symm
theorem A4X {r:QT} (a:r∈Gi h f n):(∃s,r=some (241,some s))\/(∃s,r=some (244,some s))\/r=some (246,none):=by
 unfold Gi Sp Sq Sr at a;simp only[NO]at a;rcases a with (a|a)|a<;>split at a
 .exact .inl ⟨_,oR.1 a⟩
 .cases a
 .exact .inr (.inl ⟨_,oR.1 a⟩)
 .cases a
 .exact .inr (.inr (oR.1 a))
 cases a
theorem A4Y (h:AF) (f:List AD) (n:Int):(Gi h f n).length<=3:=by
 unfold Gi Sp Sq Sr;simp only[Do];split<;>split<;>split<;>simp
theorem qT (hs:m8 h) (u:C2 h f) (h0:0<=n) (h1:n<(f.length:Int)) (a b:Int) (k:List (Int×Int)) (l:List ByteArray) (g:List G8) (qs:List Sk) :
  BB Tryz.prog 129 [.bp 1 [] 0,.p T3 n] (E9 h f a b k l g qs) [1,2]
  (λres v=>res=.tup [.p T9 (Oi h f n).1,.p T9 (Oi h f n).2.1,.p .bool (Oi h f n).2.2]/\v=E9 h f a b k l g qs):=by
 refine Jf [0,1,4,5,6,8,11,12,13,14,17,19,24,29] [] [] Tryz.func129 Tryz.ntmps129 AH ?_;intro w0 K O0 ρ0 c y z;simp only[Am,E9];repeat'(first|exact trivial|apply eS rfl|apply AB|refine rP c ?_ ?_|fail)
 refine cP 2 c ?_ ?_
 .trivial
 refine rM c (A20 hs u h0 h1 a b k l g qs) [(1,.nm 1),(2,.nm 2),(3,.nm 3),(4,.nm 4),(5,.nm 5)] [3,4,5] ?_ ?_ ?_
 .first|exact eN|refine eM ?_
 .first|exact eN|refine eM ?_
 rintro _ _ ⟨rfl,rfl⟩;refine⟨[(1,.nm 1),(2,.nm 2),(3,.nm 3),(4,.nm 4),(5,.nm 5)],.p Qr (Gi h f n),E9 h f a b k l g qs,rfl,rfl,?_,?_,rfl,rfl,?_⟩
 .first|exact eN|refine eM ?_
 .first|exact eN|refine eM ?_
 simp only[E9];refine rL c ?_ ?_
 .trivial
 repeat'(first|exact trivial|apply eS rfl|apply AB|refine rP c ?_ ?_|fail)
 have q:=λr (t:r∈Gi h f n)=>A4X t;have o:=A4W h f n;have x:=A4Y h f n;generalize Gi h f n=L at *;refine AI (ι:={i:Nat//i<=L.length}) (λi=>⟨[(0,.bp 1 [] 0),(4,.p T9 ((L.take i.1).foldl Gp (⟨#[]⟩,⟨#[]⟩,false)).1),(5,.p T9 ((L.take i.1).foldl Gp (⟨#[]⟩,⟨#[]⟩,false)).2.1),(6,.p .bool ((L.take i.1).foldl Gp (⟨#[]⟩,⟨#[]⟩,false)).2.2),(11,.p Qr L),(12,.p (.int .i64) (L.length:Int)),(13,.p (.int .i64) (i.1:Int))],E9 h f a b k l g qs⟩) (λi=>L.length-i.1) ⟨0,DO _⟩ (AC [(1,.nm 1),(2,.nm 2),(3,.nm 3),(4,.nm 4),(5,.nm 5)] rfl rfl ?_ ?_) (λi=>?_)
 .first|exact eN|refine eM ?_
 .first|exact eN|refine eM ?_
  exact⟨rfl,rfl,rfl⟩
 obtain⟨i,hi⟩:=i;have j:i<L.length->(L.take (i+1)).foldl Gp (⟨#[]⟩,⟨#[]⟩,false)=Gp ((L.take i).foldl Gp (⟨#[]⟩,⟨#[]⟩,false)) (L.getD i none):=by
  intro e;rw[ACe,AT e,ABt,AS,AT e];rfl
 have m:i<L.length->L.getD i none∈L:=by
  intro e;rw[AS,AT e];exact AAu e
 simp only[E9];repeat'(first|exact trivial|apply eS rfl|apply AB|refine rX c ?_ ?_|refine rC ?_ ?_<;>intro d<;>try(cases d;done))
 .exact d
 .have e:i<L.length:=by omega
  have j:=j e;generalize (L.take i).foldl Gp (⟨#[]⟩,⟨#[]⟩,false)=Z at *;have m:=q _ (m e);generalize L.getD i none=r at *;rcases m with ⟨s,rfl⟩|⟨s,rfl⟩|rfl
  .skip
   refine cP 0 c ?_ ?_
   .trivial
   refine tJ c (Hy (by kernel_rfl)) ⟨_,λw=>rfl⟩ ?_;refine rL c ?_ ?_
   .trivial
   repeat'(first|exact trivial|apply eS rfl|apply AB|refine rX c ?_ ?_|refine rC ?_ ?_<;>intro d<;>try(cases d;done))
   refine cP 1 c ?_ ?_
   .trivial
   refine A8O c A1Y (qS (Hy (by kernel_rfl)) (by kernel_rfl)) ?_;refine rL c ?_ ?_
   .trivial
   repeat'(first|exact trivial|apply eS rfl|apply AB|refine rX c ?_ ?_|refine rC ?_ ?_<;>intro d<;>try(cases d;done))
   .exact eV
   refine⟨⟨i+1,by omega⟩,by simp only;omega,AC [(1,.nm 1),(2,.nm 2),(3,.nm 3),(4,.nm 4),(5,.nm 5)] rfl rfl ?_ ?_⟩
   .first|exact eN|refine eM ?_
   simp only[j,Gp];first|exact eN|refine eM ?_
  .skip
   refine cP 0 c ?_ ?_
   .trivial
   refine tJ c (Hy (by kernel_rfl)) ⟨_,λw=>rfl⟩ ?_;refine rL c ?_ ?_
   .trivial
   repeat'(first|exact trivial|apply eS rfl|apply AB|refine rX c ?_ ?_|refine rC ?_ ?_<;>intro d<;>try(cases d;done))
   refine cP 0 c ?_ ?_
   .trivial
   refine tJ c (Hy (by kernel_rfl)) ⟨_,λw=>rfl⟩ ?_;refine rL c ?_ ?_
   .trivial
   repeat'(first|exact trivial|apply eS rfl|apply AB|refine rX c ?_ ?_|refine rC ?_ ?_<;>intro d<;>try(cases d;done))
   refine cP 1 c ?_ ?_
   .trivial
   refine A8O c A1Z (qS (Hy (by kernel_rfl)) (by kernel_rfl)) ?_;refine rL c ?_ ?_
   .trivial
   repeat'(first|exact trivial|apply eS rfl|apply AB|refine rX c ?_ ?_|refine rC ?_ ?_<;>intro d<;>try(cases d;done))
   .exact eV
   refine⟨⟨i+1,by omega⟩,by simp only;omega,AC [(1,.nm 1),(2,.nm 2),(3,.nm 3),(4,.nm 4),(5,.nm 5)] rfl rfl ?_ ?_⟩
   .first|exact eN|refine eM ?_
   simp only[j,Gp];first|exact eN|refine eM ?_
  skip
  refine cP 0 c ?_ ?_
  .trivial
  refine tJ c (Hy (by kernel_rfl)) ⟨_,λw=>rfl⟩ ?_;refine rL c ?_ ?_
  .trivial
  repeat'(first|exact trivial|apply eS rfl|apply AB|refine rX c ?_ ?_|refine rC ?_ ?_<;>intro d<;>try(cases d;done))
  refine cP 0 c ?_ ?_
  .trivial
  refine tJ c (Hy (by kernel_rfl)) ⟨_,λw=>rfl⟩ ?_;refine rL c ?_ ?_
  .trivial
  repeat'(first|exact trivial|apply eS rfl|apply AB|refine rX c ?_ ?_|refine rC ?_ ?_<;>intro d<;>try(cases d;done))
  refine cP 0 c ?_ ?_
  .trivial
  refine tJ c (Hy (by kernel_rfl)) ⟨_,λw=>rfl⟩ ?_;refine rL c ?_ ?_
  .trivial
  repeat'(first|exact trivial|apply eS rfl|apply AB|refine rX c ?_ ?_|refine rC ?_ ?_<;>intro d<;>try(cases d;done))
  .exact eV
  refine⟨⟨i+1,by omega⟩,by simp only;omega,AC [(1,.nm 1),(2,.nm 2),(3,.nm 3),(4,.nm 4),(5,.nm 5)] rfl rfl ?_ ?_⟩
  .first|exact eN|refine eM ?_
  simp only[j,Gp];first|exact eN|refine eM ?_
 have e:i=L.length:=by omega
 subst e;rw[tO,o];exact fM c [.tmp 4,.tmp 5,.tmp 6] (.tup [.p T9 (Oi h f n).1,.p T9 (Oi h f n).2.1,.p .bool (Oi h f n).2.2]) eT ⟨rfl,rfl⟩
end
section
attribute [local go_sem] JW E9 Kj KD Mj JJ IJ M5
theorem A4Z {l:List (Int×Int)} (h:∀a∈l,0<=a.1):BR l (-1)=-1:=by
 induction l with
 | nil=>rfl
 | cons a l d =>
  have:=h a iS;unfold BR;rw[As O1];exact d λb c=>h b (IF _ c)
theorem qU (ha:So h f) (n:Int) (s:ByteArray):Cu h f n s=BR (Av f n).2 (A8 h s):=by
 unfold Cu;split
 .rfl
 have h1:=(GP h s).1;rw[show A8 h s=-1 by omega,A4Z];intro a b;by_cases c:n.toNat<f.length
 .exact(ha _ (by unfold Av;rw[AS,AT c];exact AAu c) a b).1
 have:Av f n=(0,[]):=by unfold Av;rw[AS,oF O1];rfl
 rw[this]at b;cases b
def QJ (h:AF) (f:List AD) (n:Int) (s:ByteArray):Int×Bool:=if Cu h f n s<0 then (0,false) else (Cu h f n s,true)
theorem aU (r:AX f) (ha:So h f) (h0:0<=n) (h1:n<(f.length:Int)) (s:ByteArray) (a b:Int) (i:List (Int×Int)) (j:List ByteArray) (d:List G8) (qs:List Sk) :
  BB Tryz.prog 83 [.bp 1 [] 0,.p T3 n,.p T9 s] (E9 h f a b i j d qs) [1,2]
  (λres v=>res=.tup [.p T3 (QJ h f n s).1,.p .bool (QJ h f n s).2]/\v=E9 h f a b i j d qs):=by
 refine Jf [0,1,2,6,7,8,10,25,26,27,28,34] [] [] Tryz.func83 Tryz.ntmps83 (AE Vl AH) ?_;intro w0 K O0 ρ0 g x y;have z:=(r.2 _ (AG f (0,[]) (L5 ⟨h0,h1⟩))).1;have u:Cu h f n s=BR (f.getD n.toNat (0,[])).2 (A8 h s):=qU ha n s;simp only[Am,E9];repeat'(first|exact trivial|apply eS rfl|apply AB|refine rX g ?_ ?_|refine rC ?_ ?_<;>intro c<;>try(cases c;done))
 .exact⟨h0,h1⟩
 refine AI (ι:={k:Nat//k<=(f.getD n.toNat (0,[])).2.length/\BR (f.getD n.toNat (0,[])).2 (A8 h s)=BR ((f.getD n.toNat (0,[])).2.drop k) (A8 h s)}) (λk=>⟨[(0,.bp 1 [] 0),(8,.p T3 (A8 h s)),(25,.p K2 (f.getD n.toNat (0,[])).2),(26,.p (.int .i64) ((f.getD n.toNat (0,[])).2.length:Int)),(27,.p (.int .i64) (k.1:Int))],E9 h f a b i j d qs⟩) (λk=>(f.getD n.toNat (0,[])).2.length-k.1) ⟨0,DO _,rfl⟩ (AC [(1,.nm 1),(2,.nm 2),(3,.nm 3),(4,.nm 4),(5,.nm 5)] rfl rfl ?_ ?_) (λk=>?_)
 .first|exact eN|refine eM ?_
 .first|exact eN|refine eM ?_
 obtain⟨k,hk,o⟩:=k;have t:=λe:k<(f.getD n.toNat (0,[])).2.length=>RG (A8 h s) (f.getD n.toNat (0,[])).2 e;simp only[E9];repeat'(first|exact trivial|apply eS rfl|apply AB|refine rX g ?_ ?_|refine rC ?_ ?_<;>intro c<;>try(cases c;done))
 .exact c
 .rename_i q;have e:k<(f.getD n.toNat (0,[])).2.length:=by omega
  have l:Cu h f n s=((f.getD n.toNat (0,[])).2.getD k (0,0)).2:=by rw[u,o,t e,At c]
  have w:0<=Cu h f n s:=by rw[l];exact((r.2 _ (AG f (0,[]) (L5 ⟨h0,h1⟩))).2 _ (AG _ (0,0) e)).1
  have m:QJ h f n s=(((f.getD n.toNat (0,[])).2.getD k (0,0)).2,true):=by unfold QJ;rw[As O1,l]
  refine Ev.ent (σ':=⟨[(6,.p (.int .i64) ((f.getD n.toNat (0,[])).2.getD k (0,0)).2),(7,.p .bool true)],E9 h f a b i j d qs⟩) ?_ (AC [(1,.nm 1),(2,.nm 2),(3,.nm 3),(4,.nm 4),(5,.nm 5)] rfl rfl ?_ ?_)
  .exact fM g [.tmp 6,.tmp 7] (.tup [.p T3 (((f.getD n.toNat (0,[])).2.getD k (0,0)).2),.p .bool true]) eT ⟨by rw[m],rfl⟩
  .first|exact eN|refine eM ?_
  first|exact eN|refine eM ?_
 .exact eV
 .rename_i q;refine⟨⟨k+1,by exact eV,o.trans ((t (by exact eV)).trans (As c))⟩,by simp only;omega,AC [(1,.nm 1),(2,.nm 2),(3,.nm 3),(4,.nm 4),(5,.nm 5)] rfl rfl ?_ ?_⟩
  .first|exact eN|refine eM ?_
  first|exact eN|refine eM ?_
 have l:Cu h f n s=-1:=by
  rw[u,o,If O1];rfl
 have m:QJ h f n s=(0,false):=by unfold QJ;rw[At O1]
 exact fM g [.tmp 6,.tmp 7] (.tup [.p T3 (0:Int),.p .bool false]) eT ⟨by rw[m],rfl⟩
end
section
attribute [local go_sem] E9 Kj KD Mj JJ IJ M5
def Na:Nat->List Int->List (Int×Int)
 | _,[]=>[]
 | k,x :: r=>(x,(k:Int)) :: Na (k+1) r
def H5 (ns:List Int):List (Int×Int):=Na 0 ns
theorem WP (x:Int):∀(l:List Int) (k:Nat),BP T3 T3 x (Na k l)=if H3 x k l<0 then none else some (H3 x k l)
 | [],k=>rfl
 | y :: l,k=>by
  have b:=WP x l (k+1);unfold Na BP H3;by_cases h:y=x
  .subst h;simp[HF]
  have a:¬x=y:=λe=>h e.symm;simp only[HF,IN,h,a,AB9];simpa[a] using b
theorem qV (x:Int) (v:Int):∀(l:List Int) (k:Nat),H3 x k l<0->E4 T3 T3 x v (Na k l)=Na k l++[(x,v)]
 | [],k,_=>rfl
 | y :: l,k,h=>by
  unfold H3 at h;by_cases e:y=x
  .rw[At e]at h;omega
  rw[As e]at h;have b:=qV x v l (k+1) h;have a:¬x=y:=λq=>e q.symm;unfold Na E4;simp only[HF,IN,a,AB9];simpa[a] using b
theorem iD (x:Int):∀(l:List Int) (k:Nat),Na k (l++[x])=Na k l++[(x,((k+l.length:Nat):Int))]
 | [],k=>rfl
 | y :: l,k=>by
  have a:=iD x l (k+1);simp only[bY,Na,a,Is];rw[show k+1+l.length=k+(l.length+1) by omega]
theorem iE (x:Int):∀(l:List Int) (k:Nat),H3 x k l<0->H3 x k (l++[x])=((k+l.length:Nat):Int)
 | [],k,_=>by simp[H3]
 | y :: l,k,h=>by
  unfold H3 at h;by_cases e:y=x
  .rw[At e]at h;omega
  rw[As e]at h;have a:=iE x l (k+1) h;simp only[bY,H3,As e,a,Is];rw[show k+1+l.length=k+(l.length+1) by omega]
def Gq (f:List AD) (ns:List Int):Prop:=ns.Nodup/\∀x∈ns,0<=x/\x<(f.length:Int)
theorem qW {x:Int}:∀(l:List Int) (k:Nat),H3 x k l<0->x∉l
 | [],_,_=>by simp
 | y :: l,k,h=>by
  unfold H3 at h;by_cases e:y=x
  .rw[At e]at h;omega
  rw[As e]at h;have a:=qW l (k+1) h;simp only[GO,not_or];exact⟨λq=>e q.symm,a⟩
theorem A50 {ns:List Int} (h:Gq f ns) (h0:0<=n) (h1:n<(f.length:Int)):Gq f (Ej ns n):=by
 unfold Ej;split
 .rename_i q;refine⟨?_,λx c=>?_⟩
  .have:=qW ns 0 q;exact AB2.2 ⟨h.1,by simp,by rintro a ha b d rfl;rw[oR]at d;subst d;exact this ha⟩
  rcases NO.1 c with c|c
  .exact h.2 x c
  rw[oR.1 c];exact⟨h0,h1⟩
 exact h
theorem A7N {ns:List Int} (h:Gq f ns):ns.length<=f.length:=by
 have h1:(ns.map Int.toNat).Nodup:=by
  refine AAG.2 (h.1.imp_of_mem ?_);intro a b ha d j e;have:=h.2 a ha;have:=h.2 b d;omega
 have c:=DZ f.length _ h1 (λx g=>by
  obtain⟨y,i,rfl⟩:=IS.1 g;have:=h.2 y i;omega)
 simpa using c
def EY (h:AF) (f:List AD) (a b:Int) (ns:List Int) (c:List G8) (qs:List Sk):List (Nat×Obj):=E9 h f a b (H5 ns) (ns.map (NA h f)) c qs
def SU (h:AF) (f:List AD) (ns:List Int) (n:Int):(Int×Bool)×List Int:=if AM (NA h f n) ⟨#[]⟩=true then ((0,false),ns) else ((o5 (Ej ns n) n,true),Ej ns n)
theorem aV (hs:m8 h) (t:AX f) (u:C2 h f) (h0:0<=n) (h1:n<(f.length:Int)) {ns:List Int} (hn:Gq f ns) (a b:Int) (i:List G8) (qs:List Sk) :
  BB Tryz.prog 84 [.bp 1 [] 0,.p T3 n] (EY h f a b ns i qs) [1,2]
  (λres v=>res=.tup [.p T3 (SU h f ns n).1.1,.p .bool (SU h f ns n).1.2]/\v=EY h f a b (SU h f ns n).2 i qs):=by
 refine Jf [0,1,4,5,6,9,10,19,30] [50] [] Tryz.func84 Tryz.ntmps84 AH ?_;intro w0 K O0 ρ0 c y z;have k:NA h f n=Ce h (Av f n).1:=As O1;have x:=A7N hn;have w:=t.1;simp only[Am,EY,E9];repeat'(first|exact trivial|apply eS rfl|apply AB|refine rP c ?_ ?_|fail)
 refine cP 2 c ?_ ?_
 .trivial
 refine rM c (qT hs u h0 h1 a b (H5 ns) (ns.map (NA h f)) i qs) [(1,.nm 1),(2,.nm 2),(3,.nm 3),(4,.nm 4),(5,.nm 5)] [3,4,5] ?_ ?_ ?_
 .first|exact eN|refine eM ?_
 .first|exact eN|refine eM ?_
 rintro _ _ ⟨rfl,rfl⟩;refine⟨[(1,.nm 1),(2,.nm 2),(3,.nm 3),(4,.nm 4),(5,.nm 5)],.tup [.p T9 (Oi h f n).1,.p T9 (Oi h f n).2.1,.p .bool (Oi h f n).2.2],E9 h f a b (H5 ns) (ns.map (NA h f)) i qs,rfl,rfl,?_,?_,rfl,rfl,?_⟩
 .first|exact eN|refine eM ?_
 .first|exact eN|refine eM ?_
 simp only[E9];refine rL c ?_ ?_
 .trivial
 repeat'(first|exact trivial|apply eS rfl|apply AB|refine rX c ?_ ?_|refine rC ?_ ?_<;>intro d<;>try(cases d;done))
 .have e:SU h f ns n=((0,false),ns):=At (by rw[k];exact d);exact fM c [.tmp 4,.tmp 5] (.tup [.p T3 (0:Int),.p .bool false]) eT ⟨by rw[e],by rw[e]⟩
 .simp only[aS,AO];omega
 .rename_i q;have q:¬AM (NA h f n) ⟨#[]⟩=true:=by rw[k];rw[show AM (Ce h (Av f n).1) ⟨#[]⟩=false from q];simp
  have g:o5 ns n<0:=by
   have:=WP n ns 0;by_cases j:H3 n 0 ns<0
   .exact j
   rw[As j]at this;rw[show BP T3 T3 n (H5 ns)=some (H3 n 0 ns) from this]at d;cases d
  have l:Ej ns n=ns++[n]:=At g;have e:SU h f ns n=(((ns.length:Int),true),ns++[n]):=by
   unfold SU;rw[As q,l];have:=iE n ns 0 g;rw[AAX]at this;rw[show o5 (ns++[n]) n=(ns.length:Int) from this]
  have m:E4 T3 T3 n (((ns.map (NA h f)).length:Int)) (H5 ns)=H5 (ns++[n]):=by
   have h1:=qV n (ns.length:Int) ns 0 g;have o:=iD n ns 0;rw[AAX]at o;rw[aS];exact h1.trans o.symm
  have r:ns.map (NA h f)++[(Oi h f n).1]=(ns++[n]).map (NA h f):=by
   rw[AAN,List.map_singleton,k];rfl
  have s:(ns.map (NA h f)).length+1=((ns++[n]).map (NA h f)).length:=by simp
  rw[m,r,s];exact fM c [.tmp 4,.tmp 5] (.tup [.p T3 ((ns.map (NA h f)).length:Int),.p .bool true]) eT ⟨by rw[e,aS],by rw[e]⟩
 rename_i q;have q:¬AM (NA h f n) ⟨#[]⟩=true:=by rw[k];rw[show AM (Ce h (Av f n).1) ⟨#[]⟩=false from q];simp
 have hf:=WP n ns 0;have g:¬o5 ns n<0:=by
  intro j;rw[At (show H3 n 0 ns<0 from j)]at hf;rw[show BP T3 T3 n (H5 ns)=none from hf]at d;cases d
 rw[As (show ¬H3 n 0 ns<0 from g)]at hf;have l:Ej ns n=ns:=As g;have e:SU h f ns n=((o5 ns n,true),ns):=by unfold SU;rw[As q,l]
 have m:(BP T3 T3 n (H5 ns)).getD 0=o5 ns n:=by rw[show BP T3 T3 n (H5 ns)=some (H3 n 0 ns) from hf];rfl
 rw[m];exact fM c [.tmp 4,.tmp 5] (.tup [.p T3 (o5 ns n),.p .bool true]) eT ⟨by rw[e],by rw[e]⟩
end
section
attribute [local go_sem] E9 EY Kj KD Mj JJ IJ M5
def Cf (h:AF) (f:List AD) (ns:List Int) (n:Int) (s:ByteArray):(Int×Bool)×List Int :=
 if Cu h f n s<0 then ((0,false),ns) else if AM (NA h f (Cu h f n s)) ⟨#[104]⟩=false then ((0,false),ns) else SU h f ns (Cu h f n s)
theorem Td (hs:m8 h) (i:AX f) (l:C2 h f) (ha:So h f) (h0:0<=n) (h1:n<(f.length:Int)) (s:ByteArray) {ns:List Int} (hn:Gq f ns) (a b:Int) (g:List G8) (qs:List Sk) :
  BB Tryz.prog 82 [.bp 1 [] 0,.p T3 n,.p T9 s] (EY h f a b ns g qs) [1,2]
  (λres r=>res=.tup [.p T3 (Cf h f ns n s).1.1,.p .bool (Cf h f ns n s).1.2]/\r=EY h f a b (Cf h f ns n s).2 g qs):=by
 refine Jf [0,1,2,6,7,8,9,10,21,30] [] [] Tryz.func82 Tryz.ntmps82 AH ?_;intro w0 K O0 ρ0 c t u;have m:=WM (h:=h) i n s O1;simp only[Am,EY,E9];repeat'(first|exact trivial|apply eS rfl|apply AB|refine rP c ?_ ?_|fail)
 refine cP 3 c ?_ ?_
 .trivial
 refine rM c (aU i ha h0 h1 s a b (H5 ns) (ns.map (NA h f)) g qs) [(1,.nm 1),(2,.nm 2),(3,.nm 3),(4,.nm 4),(5,.nm 5)] [3,4,5] ?_ ?_ ?_
 .first|exact eN|refine eM ?_
 .first|exact eN|refine eM ?_
 rintro _ _ ⟨rfl,rfl⟩;refine⟨[(1,.nm 1),(2,.nm 2),(3,.nm 3),(4,.nm 4),(5,.nm 5)],.tup [.p T3 (QJ h f n s).1,.p .bool (QJ h f n s).2],E9 h f a b (H5 ns) (ns.map (NA h f)) g qs,rfl,rfl,?_,?_,rfl,rfl,?_⟩
 .first|exact eN|refine eM ?_
 .first|exact eN|refine eM ?_
 simp only[EY,E9];refine rL c ?_ ?_
 .trivial
 repeat'(first|exact trivial|apply eS rfl|apply AB|refine rX c ?_ ?_|refine rC ?_ ?_<;>intro d<;>try(cases d;done))
 .have q:Cu h f n s<0:=by
   unfold QJ at d;split at d
   .assumption
   cases d
  have e:Cf h f ns n s=((0,false),ns):=At q;exact fM c [.tmp 6,.tmp 7] (.tup [.p T3 (0:Int),.p .bool false]) eT ⟨by rw[e],by rw[e]⟩
 have q:0<=Cu h f n s/\(QJ h f n s).1=Cu h f n s:=by
  unfold QJ at d ⊢;split
  .rename_i q;rw[At q]at d;cases d
  exact⟨by omega,rfl⟩
 rw[q.2];have o:=q.1;have k:NA h f (Cu h f n s)=(Oi h f (Cu h f n s)).1:=As O1;have j:Cf h f ns n s=if AM (NA h f (Cu h f n s)) ⟨#[104]⟩=false then ((0,false),ns) else SU h f ns (Cu h f n s):=As O1
 generalize Cu h f n s=v at *;refine cP 2 c ?_ ?_
 .trivial
 refine rM c (qT hs l o m a b (H5 ns) (ns.map (NA h f)) g qs) [(1,.nm 1),(2,.nm 2),(3,.nm 3),(4,.nm 4),(5,.nm 5)] [3,4,5] ?_ ?_ ?_
 .first|exact eN|refine eM ?_
 .first|exact eN|refine eM ?_
 rintro _ _ ⟨rfl,rfl⟩;refine⟨[(1,.nm 1),(2,.nm 2),(3,.nm 3),(4,.nm 4),(5,.nm 5)],.tup [.p T9 (Oi h f v).1,.p T9 (Oi h f v).2.1,.p .bool (Oi h f v).2.2],E9 h f a b (H5 ns) (ns.map (NA h f)) g qs,rfl,rfl,?_,?_,rfl,rfl,?_⟩
 .first|exact eN|refine eM ?_
 .first|exact eN|refine eM ?_
 simp only[EY,E9];refine rL c ?_ ?_
 .trivial
 repeat'(first|exact trivial|apply eS rfl|apply AB|refine rX c ?_ ?_|refine rC ?_ ?_<;>intro d<;>try(cases d;done))
 .have e:Cf h f ns n s=((0,false),ns):=j.trans (At (by rw[k];exact d));exact fM c [.tmp 6,.tmp 7] (.tup [.p T3 (0:Int),.p .bool false]) eT ⟨by rw[e],by rw[e]⟩
 have e:Cf h f ns n s=SU h f ns v:=j.trans (As (by rw[k];rw[d];simp));rw[e];refine cP 2 c ?_ ?_
 .trivial
 refine rM c (aV hs i l o m hn a b g qs) [(1,.nm 1),(2,.nm 2),(3,.nm 3),(4,.nm 4),(5,.nm 5)] [3,4,5] ?_ ?_ ?_
 .first|exact eN|refine eM ?_
 .first|exact eN|refine eM ?_
 rintro _ _ ⟨rfl,rfl⟩;refine⟨[(1,.nm 1),(2,.nm 2),(3,.nm 3),(4,.nm 4),(5,.nm 5)],.tup [.p T3 (SU h f ns v).1.1,.p .bool (SU h f ns v).1.2],EY h f a b (SU h f ns v).2 g qs,rfl,rfl,?_,?_,rfl,rfl,?_⟩
 .first|exact eN|refine eM ?_
 .first|exact eN|refine eM ?_
 simp only[EY,E9];refine rL c ?_ ?_
 .trivial
 repeat'(first|exact trivial|apply eS rfl|apply AB|refine rX c ?_ ?_|refine rC ?_ ?_<;>intro d<;>try(cases d;done))
 exact fM c [.tmp 6,.tmp 7] (.tup [.p T3 (SU h f ns v).1.1,.p .bool (SU h f ns v).1.2]) eT ⟨rfl,rfl⟩
end
section
attribute [local go_sem] E9 EY Kj KD Mj JJ IJ M5
def MF (h:AF) (f:List AD) (st:List Int×List Sj) (a:Int×Int):List Int×List Sj :=
 if AM (A1S h a) ⟨#[76,65,66,69,76]⟩=true then st else ((SU h f st.1 a.2).2,if (SU h f st.1 a.2).1.2=true then st.2++[(A1S h a,(SU h f st.1 a.2).1.1)] else st.2)
def WQ (h:AF) (f:List AD) (ns:List Int) (a:List G8) (n:Int):Bool×List Int×List G8 :=
 if AM (Oi h f n).2.1 ⟨#[]⟩=true\/(Cf h f ns n ⟨#[76,65,66,69,76]⟩).1.2=false then (false,(Cf h f ns n ⟨#[76,65,66,69,76]⟩).2,a)
 else (true,((Av f n).2.foldl (MF h f) ((Cf h f ns n ⟨#[76,65,66,69,76]⟩).2,[])).1,a++[((Oi h f n).2.1,(Cf h f ns n ⟨#[76,65,66,69,76]⟩).1.1,((Av f n).2.foldl (MF h f) ((Cf h f ns n ⟨#[76,65,66,69,76]⟩).2,[])).2)])
theorem qX {ns:List Int} (hn:Gq f ns) (h:AF) (h0:0<=n) (h1:n<(f.length:Int)):Gq f (SU h f ns n).2:=by
 unfold SU;split
 .exact hn
 exact A50 hn h0 h1
theorem Od {ns:List Int} (hn:Gq f ns) (b:AX f) (n:Int) (s:ByteArray) (h0:0<f.length):Gq f (Cf h f ns n s).2:=by
 unfold Cf;have a:=WM (h:=h) b n s h0;split
 .exact hn
 split
 .exact hn
 exact qX hn h O1 a
theorem qY (l:List (Int×Int)):∀(st:List Int×List Sj),Gq f st.1->(∀a∈l,0<=a.2/\a.2<(f.length:Int))->Gq f (l.foldl (MF h f) st).1/\(l.foldl (MF h f) st).2.length<=st.2.length+l.length:=by
 induction l with
 | nil=>intro st h _;exact⟨h,by simp⟩
 | cons a l g =>
  intro st d ha;have h1:Gq f (MF h f st a).1/\(MF h f st a).2.length<=st.2.length+1:=by
   unfold MF;split
   .exact⟨d,by omega⟩
   refine⟨qX d h (ha a iS).1 (ha a iS).2,?_⟩;dsimp only;split
   .simp
   omega
  have c:=g (MF h f st a) h1.1 (λb e=>ha b (IF _ e));refine⟨c.1,?_⟩;have:=c.2;have:=h1.2;simp only[OR,Is];omega
theorem A51 (hs:m8 h) (m:AX f) (u:C2 h f) (ha:So h f) (h0:0<=n) (h1:n<(f.length:Int)) {ns:List Int} (hn:Gq f ns) (a b:Int) (c:List G8) (H:c.length<=200000) (qs:List Sk) :
  BB Tryz.prog 86 [.bp 1 [] 0,.p T3 n] (EY h f a b ns c qs) [1,2]
  (λres F=>res=.p .bool (WQ h f ns c n).1/\F=EY h f a b (WQ h f ns c n).2.1 (WQ h f ns c n).2.2 qs):=by
 refine Jf [0,1,4,6,8,9,10,12,13,14,15,34,46,47,48,49,63,71] [77,88] [] Tryz.func86 Tryz.ntmps86 AH ?_;intro w0 K O0 ρ0 d I J;have t:=AG f (0,[]) (L5 ⟨h0,h1⟩);have G:=(m.2 _ t).1;have v:=(m.2 _ t).2;have B:=ha _ t;have C:0<f.length:=by omega
 have hh:=Od (h:=h) hn m n ⟨#[76,65,66,69,76]⟩ C;have r:WQ h f ns c n=if AM (Oi h f n).2.1 ⟨#[]⟩=true\/(Cf h f ns n ⟨#[76,65,66,69,76]⟩).1.2=false then (false,(Cf h f ns n ⟨#[76,65,66,69,76]⟩).2,c)
  else (true,((Av f n).2.foldl (MF h f) ((Cf h f ns n ⟨#[76,65,66,69,76]⟩).2,[])).1,c++[((Oi h f n).2.1,(Cf h f ns n ⟨#[76,65,66,69,76]⟩).1.1,((Av f n).2.foldl (MF h f) ((Cf h f ns n ⟨#[76,65,66,69,76]⟩).2,[])).2)]):=rfl
 simp only[Am,EY,E9];repeat'(first|exact trivial|apply eS rfl|apply AB|refine rP d ?_ ?_|fail)
 refine cP 2 d ?_ ?_
 .trivial
 refine rM d (qT hs u h0 h1 a b (H5 ns) (ns.map (NA h f)) c qs) [(1,.nm 1),(2,.nm 2),(3,.nm 3),(4,.nm 4),(5,.nm 5)] [3,4,5] ?_ ?_ ?_
 .first|exact eN|refine eM ?_
 .first|exact eN|refine eM ?_
 rintro _ _ ⟨rfl,rfl⟩;refine⟨[(1,.nm 1),(2,.nm 2),(3,.nm 3),(4,.nm 4),(5,.nm 5)],.tup [.p T9 (Oi h f n).1,.p T9 (Oi h f n).2.1,.p .bool (Oi h f n).2.2],E9 h f a b (H5 ns) (ns.map (NA h f)) c qs,rfl,rfl,?_,?_,rfl,rfl,?_⟩
 .first|exact eN|refine eM ?_
 .first|exact eN|refine eM ?_
 simp only[EY,E9];refine rL d ?_ ?_
 .trivial
 repeat'(first|exact trivial|apply eS rfl|apply AB|refine rX d ?_ ?_|refine rC ?_ ?_<;>intro g<;>try(cases g;done))
 generalize (Oi h f n).2.1=p at *;refine cP 2 d ?_ ?_
 .trivial
 refine rM d (Td hs m u ha h0 h1 ⟨#[76,65,66,69,76]⟩ hn a b c qs) [(1,.nm 1),(2,.nm 2),(3,.nm 3),(4,.nm 4),(5,.nm 5)] [3,4,5] ?_ ?_ ?_
 .first|exact eN|refine eM ?_
 .first|exact eN|refine eM ?_
 rintro _ _ ⟨rfl,rfl⟩;refine⟨[(1,.nm 1),(2,.nm 2),(3,.nm 3),(4,.nm 4),(5,.nm 5)],.tup [.p T3 (Cf h f ns n ⟨#[76,65,66,69,76]⟩).1.1,.p .bool (Cf h f ns n ⟨#[76,65,66,69,76]⟩).1.2],EY h f a b (Cf h f ns n ⟨#[76,65,66,69,76]⟩).2 c qs,rfl,rfl,?_,?_,rfl,rfl,?_⟩
 .first|exact eN|refine eM ?_
 .first|exact eN|refine eM ?_
 simp only[EY,E9];generalize Cf h f ns n ⟨#[76,65,66,69,76]⟩=j at *;refine rL d ?_ ?_
 .trivial
 repeat'(first|exact trivial|apply eS rfl|apply AB|refine rX d ?_ ?_|refine rC ?_ ?_<;>intro g<;>try(cases g;done))
 .have e:WQ h f ns c n=(false,j.2,c):=r.trans (At (by revert g;simp));exact fM d [.tmp 4] (.p .bool false) eT ⟨by rw[e],by rw[e]⟩
 .exact⟨h0,h1⟩
 have e:=r.trans (As (by revert g;simp));rw[e];clear e r g;have D:f.getD n.toNat (0,[])=Av f n:=rfl;simp only[D]at *;refine AI (ι:={k:Nat//k<=(Av f n).2.length}) (λk=>⟨[(0,.bp 1 [] 0),(10,.bp 10 [] 0),(46,.p K2 (Av f n).2),(47,.p (.int .i64) ((Av f n).2.length:Int)),(48,.p (.int .i64) (k.1:Int))],(10,.box 54 true [.p T9 p,.p T3 j.1.1,.sr 78 T91 0 (((Av f n).2.take k.1).foldl (MF h f) (j.2,[])).2.length]) :: (78,.arr 91 T91 (((Av f n).2.take k.1).foldl (MF h f) (j.2,[])).2) :: EY h f a b (((Av f n).2.take k.1).foldl (MF h f) (j.2,[])).1 c qs⟩) (λk=>(Av f n).2.length-k.1) ⟨0,DO _⟩ (AC [(1,.nm 1),(2,.nm 2),(3,.nm 3),(4,.nm 4),(5,.nm 5),(10,.nm 10),(78,.nil)] rfl rfl ?_ ?_) (λk=>?_)
 .first|exact eN|refine eM ?_
  exact⟨rfl,rfl,rfl,rfl,rfl⟩
 .first|exact eN|refine eM ?_
 obtain⟨k,hk⟩:=k;have i:=λq:k<(Av f n).2.length=>eD (MF h f) (Av f n).2 (0,0) (j.2,[]) q;have w:=λq:k<(Av f n).2.length=>AG (Av f n).2 (0,0) q;have s:=qY (h:=h) ((Av f n).2.take k) (j.2,[]) hh (λx E=>v x (AAx E));generalize z:((Av f n).2.take k).foldl (MF h f) (j.2,[])=Z at *;simp only[EY,E9];repeat'(first|exact trivial|apply eS rfl|apply AB|refine rX d ?_ ?_|refine rC ?_ ?_<;>intro g<;>try(cases g;done))
 .exact g
 .exact B _ (w (by exact eV))
 .exact eV
 .have i:=i (by exact eV);rw[show MF h f Z ((Av f n).2.getD k (0,0))=Z from At g]at i;refine⟨⟨k+1,by exact eV⟩,by simp only;omega,AC [(1,.nm 1),(2,.nm 2),(3,.nm 3),(4,.nm 4),(5,.nm 5),(10,.nm 10),(78,.nm 78)] rfl rfl ?_ ?_⟩
  .simp only[i];first|exact eN|refine eM ?_
  simp only[i,EY,E9];first|exact eN|refine eM ?_
 .rename_i M;have l:k<(Av f n).2.length:=by omega
  have o:=v _ (w l);have i:=(i l).trans (As (show ¬AM (A1S h ((Av f n).2.getD k (0,0))) ⟨#[76,65,66,69,76]⟩=true by unfold A1S;rw[g];simp));have L:=qX s.1 h o.1 o.2;refine cP 3 d ?_ ?_
  .trivial
  refine rM d (aV hs m u o.1 o.2 s.1 a b c qs) [(1,.nm 1),(2,.nm 2),(3,.nm 3),(4,.nm 4),(5,.nm 5)] [3,4,5] ?_ ?_ ?_
  .first|exact eN|refine eM ?_
  .first|exact eN|refine eM ?_
  rintro _ _ ⟨rfl,rfl⟩;refine⟨[(1,.nm 1),(2,.nm 2),(3,.nm 3),(4,.nm 4),(5,.nm 5)],.tup [.p T3 (SU h f Z.1 ((Av f n).2.getD k (0,0)).2).1.1,.p .bool (SU h f Z.1 ((Av f n).2.getD k (0,0)).2).1.2],EY h f a b (SU h f Z.1 ((Av f n).2.getD k (0,0)).2).2 c qs,rfl,rfl,?_,?_,rfl,rfl,?_⟩
  .first|exact eN|refine eM ?_
  .first|exact eN|refine eM ?_
  simp only[EY,E9];generalize SU h f Z.1 ((Av f n).2.getD k (0,0)).2=V at *;refine rL d ?_ ?_
  .trivial
  repeat'(first|exact trivial|apply eS rfl|apply AB|refine rX d ?_ ?_|refine rC ?_ ?_<;>intro g<;>try(cases g;done))
  .simp only[AO];have:=s.2;simp only[Of,AAs]at this;omega
  .exact eV
  .rw[g,At rfl]at i;refine⟨⟨k+1,l⟩,by simp only;omega,AC [(1,.nm 1),(2,.nm 2),(3,.nm 3),(4,.nm 4),(5,.nm 5),(10,.nm 10),(78,.nm 78)] rfl rfl ?_ ?_⟩
   .simp only[i,EY,E9,A1S];first|exact eN|refine eM ?_
   simp only[i,EY,E9];first|exact eN|refine eM ?_
  .exact eV
  rw[g,As sc]at i;refine⟨⟨k+1,l⟩,by simp only;omega,AC [(1,.nm 1),(2,.nm 2),(3,.nm 3),(4,.nm 4),(5,.nm 5),(10,.nm 10),(78,.nm 78)] rfl rfl ?_ ?_⟩
  .simp only[i,EY,E9];first|exact eN|refine eM ?_
  simp only[i,EY,E9];first|exact eN|refine eM ?_
 have l:(Av f n).2.take k=(Av f n).2:=BY (by exact eV);refine CK [78] ?_;refine J5 drawsAny d 9 [([1,2,3,4,5,6,7],8)] [0] (by kernel_rfl) (mxA ?_ ?_)
 .trivial
 refine mxL d [4] ?_ ?_
 .simp only[AO];omega
 refine mxE d ?_ ?_ ?_
 .trivial
 .trivial
 repeat'(first|exact trivial|apply eS rfl|apply AB|refine rX d ?_ ?_|refine rC ?_ ?_<;>intro g<;>try(cases g;done))
 have A:(Av f n).2.foldl (MF h f) (j.2,[])=Z:=by rw[<-z,l]
 rw[A];have y:c.length+1=(c++[(p,j.1.1,Z.2)]).length:=by simp
 rw[y];refine Ev.ent (σ':=⟨[(4,.p .bool true)],EY h f a b Z.1 (c++[(p,j.1.1,Z.2)]) qs⟩) ?_ (AC [(1,.nm 1),(2,.nm 2),(3,.nm 3),(4,.nm 4),(5,.nm 5)] rfl rfl ?_ ?_)
 .exact fM d [.tmp 4] (.p .bool true) eT ⟨rfl,rfl⟩
 .first|exact eN|refine eM ?_
 first|exact eN|refine eM ?_
end
section
attribute [local go_sem] E9 EY Kj KD Mj JJ IJ M5
def WR (h:AF) (f:List AD) (ns:List Int) (qs:List Sk) (n:Int):Bool×List Int×List Sk :=
 if (Oi h f n).2.2=false\/(Cf h f ns n ⟨#[72,73,71,72]⟩).1.2=false then (false,(Cf h f ns n ⟨#[72,73,71,72]⟩).2,qs)
 else ((Cf h f (Cf h f ns n ⟨#[72,73,71,72]⟩).2 n ⟨#[76,79,87]⟩).1.2,(Cf h f (Cf h f ns n ⟨#[72,73,71,72]⟩).2 n ⟨#[76,79,87]⟩).2,qs++[((Cf h f ns n ⟨#[72,73,71,72]⟩).1.1,(Cf h f (Cf h f ns n ⟨#[72,73,71,72]⟩).2 n ⟨#[76,79,87]⟩).1.1)])
theorem A52 (hs:m8 h) (j:AX f) (l:C2 h f) (ha:So h f) (h0:0<=n) (h1:n<(f.length:Int)) {ns:List Int} (hn:Gq f ns) (a b:Int) (g:List G8) (qs:List Sk) (v:qs.length<=200000) :
  BB Tryz.prog 87 [.bp 1 [] 0,.p T3 n] (EY h f a b ns g qs) [1,2]
  (λres r=>res=.p .bool (WR h f ns qs n).1/\r=EY h f a b (WR h f ns qs n).2.1 g (WR h f ns qs n).2.2):=by
 refine Jf [0,1,4,7,8,9,10,29] [45] [] Tryz.func87 Tryz.ntmps87 AH ?_;intro w0 K O0 ρ0 c t u;have o:0<f.length:=by omega
 have hh:=Od (h:=h) hn j n ⟨#[72,73,71,72]⟩ o;have s:=Od (h:=h) hh j n ⟨#[76,79,87]⟩ o;have k:WR h f ns qs n=if (Oi h f n).2.2=false\/(Cf h f ns n ⟨#[72,73,71,72]⟩).1.2=false then (false,(Cf h f ns n ⟨#[72,73,71,72]⟩).2,qs)
  else ((Cf h f (Cf h f ns n ⟨#[72,73,71,72]⟩).2 n ⟨#[76,79,87]⟩).1.2,(Cf h f (Cf h f ns n ⟨#[72,73,71,72]⟩).2 n ⟨#[76,79,87]⟩).2,qs++[((Cf h f ns n ⟨#[72,73,71,72]⟩).1.1,(Cf h f (Cf h f ns n ⟨#[72,73,71,72]⟩).2 n ⟨#[76,79,87]⟩).1.1)]):=rfl
 simp only[Am,EY,E9];repeat'(first|exact trivial|apply eS rfl|apply AB|refine rP c ?_ ?_|fail)
 refine cP 2 c ?_ ?_
 .trivial
 refine rM c (qT hs l h0 h1 a b (H5 ns) (ns.map (NA h f)) g qs) [(1,.nm 1),(2,.nm 2),(3,.nm 3),(4,.nm 4),(5,.nm 5)] [3,4,5] ?_ ?_ ?_
 .first|exact eN|refine eM ?_
 .first|exact eN|refine eM ?_
 rintro _ _ ⟨rfl,rfl⟩;refine⟨[(1,.nm 1),(2,.nm 2),(3,.nm 3),(4,.nm 4),(5,.nm 5)],.tup [.p T9 (Oi h f n).1,.p T9 (Oi h f n).2.1,.p .bool (Oi h f n).2.2],E9 h f a b (H5 ns) (ns.map (NA h f)) g qs,rfl,rfl,?_,?_,rfl,rfl,?_⟩
 .first|exact eN|refine eM ?_
 .first|exact eN|refine eM ?_
 simp only[EY,E9];refine rL c ?_ ?_
 .trivial
 repeat'(first|exact trivial|apply eS rfl|apply AB|refine rX c ?_ ?_|refine rC ?_ ?_<;>intro d<;>try(cases d;done))
 generalize (Oi h f n).2.2=p at *;refine cP 2 c ?_ ?_
 .trivial
 refine rM c (Td hs j l ha h0 h1 ⟨#[72,73,71,72]⟩ hn a b g qs) [(1,.nm 1),(2,.nm 2),(3,.nm 3),(4,.nm 4),(5,.nm 5)] [3,4,5] ?_ ?_ ?_
 .first|exact eN|refine eM ?_
 .first|exact eN|refine eM ?_
 rintro _ _ ⟨rfl,rfl⟩;refine⟨[(1,.nm 1),(2,.nm 2),(3,.nm 3),(4,.nm 4),(5,.nm 5)],.tup [.p T3 (Cf h f ns n ⟨#[72,73,71,72]⟩).1.1,.p .bool (Cf h f ns n ⟨#[72,73,71,72]⟩).1.2],EY h f a b (Cf h f ns n ⟨#[72,73,71,72]⟩).2 g qs,rfl,rfl,?_,?_,rfl,rfl,?_⟩
 .first|exact eN|refine eM ?_
 .first|exact eN|refine eM ?_
 simp only[EY,E9];generalize Cf h f ns n ⟨#[72,73,71,72]⟩=i at *;refine rL c ?_ ?_
 .trivial
 repeat'(first|exact trivial|apply eS rfl|apply AB|refine rX c ?_ ?_|refine rC ?_ ?_<;>intro d<;>try(cases d;done))
 .have e:WR h f ns qs n=(false,i.2,qs):=k.trans (At (by revert d;simp));exact fM c [.tmp 4] (.p .bool false) eT ⟨by rw[e],by rw[e]⟩
 have e:=k.trans (As (by revert d;simp));rw[e];clear e k d;refine cP 2 c ?_ ?_
 .trivial
 refine rM c (Td hs j l ha h0 h1 ⟨#[76,79,87]⟩ hh a b g qs) [(1,.nm 1),(2,.nm 2),(3,.nm 3),(4,.nm 4),(5,.nm 5)] [3,4,5] ?_ ?_ ?_
 .first|exact eN|refine eM ?_
 .first|exact eN|refine eM ?_
 rintro _ _ ⟨rfl,rfl⟩;refine⟨[(1,.nm 1),(2,.nm 2),(3,.nm 3),(4,.nm 4),(5,.nm 5)],.tup [.p T3 (Cf h f i.2 n ⟨#[76,79,87]⟩).1.1,.p .bool (Cf h f i.2 n ⟨#[76,79,87]⟩).1.2],EY h f a b (Cf h f i.2 n ⟨#[76,79,87]⟩).2 g qs,rfl,rfl,?_,?_,rfl,rfl,?_⟩
 .first|exact eN|refine eM ?_
 .first|exact eN|refine eM ?_
 simp only[EY,E9];generalize Cf h f i.2 n ⟨#[76,79,87]⟩=m at *;refine rL c ?_ ?_
 .trivial
 repeat'(first|exact trivial|apply eS rfl|apply AB|refine rX c ?_ ?_|refine rC ?_ ?_<;>intro d<;>try(cases d;done))
 .simp only[AO];omega
 have q:qs.length+1=(qs++[(i.1.1,m.1.1)]).length:=by simp
 rw[q];exact fM c [.tmp 4] (.p .bool m.1.2) eT ⟨rfl,rfl⟩
end
section
attribute [local go_sem] E9 EY ME Kj KD Mj JJ IJ M5
abbrev Ek:=List Int×List G8×List Sk
def Ku (G:Ek->Int->Bool×Ek):List Int->Ek->Bool×Ek
 | [],st=>(true,st)
 | x :: l,st=>if (G st x).1=true then Ku G l (G st x).2 else (false,(G st x).2)
theorem m9 (G:Ek->Int->Bool×Ek) (l:List Int) (st:Ek) {k:Nat} (h:k<l.length):Ku G (l.drop k) st=if (G st (l.getD k 0)).1=true then Ku G (l.drop (k+1)) (G st (l.getD k 0)).2 else (false,(G st (l.getD k 0)).2):=by
 rw[ON h,AS,AT h];rfl
def MG (h:AF) (f:List AD) (G:Ek->Int->Bool×Ek) (st:Ek) (n:Int) (s:ByteArray):Int×Ek :=
 if Cu h f n s<0 then (13,st) else if (BK h f (Cu h f n s)).2≠0 then ((BK h f (Cu h f n s)).2,st)
 else (if (Ku G (BK h f (Cu h f n s)).1 st).1=true then 0 else 13,(Ku G (BK h f (Cu h f n s)).1 st).2)
theorem WT (u:AX f) (E:C2 h f) (ha:So h f) (h0:0<=n) (h1:n<(f.length:Int)) (s:ByteArray) (a b:Int) (g:Nat) (G:Ek->Int->Bool×Ek) (Q:Nat->Ek->Prop)
  (hG:∀k st x,Q k st->k<200000->0<=x->x<(f.length:Int)->BB Tryz.prog g [.bp 1 [] 0,.p T3 x] (EY h f a b st.1 st.2.1 st.2.2) [1,2] (λres z=>res=.p .bool (G st x).1/\z=EY h f a b (G st x).2.1 (G st x).2.2.1 (G st x).2.2.2))
  (w:∀k st x,Q k st->0<=x->x<(f.length:Int)->Q (k+1) (G st x).2) (st:Ek) (A:Q 0 st) :
  BB Tryz.prog 85 [.bp 1 [] 0,.p T3 n,.p T9 s,.clo (1000000+g) [1]] (EY h f a b st.1 st.2.1 st.2.2) [1,2]
  (λres z=>res=.p C0 (MG h f G st n s).1/\z=EY h f a b (MG h f G st n s).2.1 (MG h f G st n s).2.2.1 (MG h f G st n s).2.2.2):=by
 refine Jf [0,1,2,3,8,9,10,11,12,14,23,38,40,41,42,43,49] [] [] Tryz.func85 Tryz.ntmps85 (AE iB AH) ?_;intro w0 K O0 ρ0 d I J;have C:0<f.length:=by omega
 have F:=WM (h:=h) u n s C;have r:MG h f G st n s=if Cu h f n s<0 then (13,st) else if (BK h f (Cu h f n s)).2≠0 then ((BK h f (Cu h f n s)).2,st)
  else (if (Ku G (BK h f (Cu h f n s)).1 st).1=true then 0 else 13,(Ku G (BK h f (Cu h f n s)).1 st).2):=rfl
 simp only[Am,EY,E9];repeat'(first|exact trivial|apply eS rfl|apply AB|refine rP d ?_ ?_|fail)
 refine cP 3 d ?_ ?_
 .trivial
 refine rM d (aU u ha h0 h1 s a b (H5 st.1) (st.1.map (NA h f)) st.2.1 st.2.2) [(1,.nm 1),(2,.nm 2),(3,.nm 3),(4,.nm 4),(5,.nm 5)] [3,4,5] ?_ ?_ ?_
 .first|exact eN|refine eM ?_
 .first|exact eN|refine eM ?_
 rintro _ _ ⟨rfl,rfl⟩;refine⟨[(1,.nm 1),(2,.nm 2),(3,.nm 3),(4,.nm 4),(5,.nm 5)],.tup [.p T3 (QJ h f n s).1,.p .bool (QJ h f n s).2],E9 h f a b (H5 st.1) (st.1.map (NA h f)) st.2.1 st.2.2,rfl,rfl,?_,?_,rfl,rfl,?_⟩
 .first|exact eN|refine eM ?_
 .first|exact eN|refine eM ?_
 simp only[EY,E9];generalize m:QJ h f n s=V at *;refine rL d ?_ ?_
 .trivial
 repeat'(first|exact trivial|apply eS rfl|apply AB|refine rX d ?_ ?_|refine rC ?_ ?_<;>intro c<;>try(cases c;done))
 .have q:Cu h f n s<0:=by
   rw[<-m]at c;unfold QJ at c;split at c
   .assumption
   cases c
  have e:MG h f G st n s=(13,st):=r.trans (At q);exact fM d [.tmp 8] (.p C0 (13:Int)) eT ⟨by rw[e],by rw[e]⟩
 .have q:0<=Cu h f n s/\V.1=Cu h f n s:=by
   rw[<-m]at c ⊢;unfold QJ at c ⊢;split
   .rename_i q;rw[At q]at c;cases c
   exact⟨by omega,rfl⟩
  rw[q.2];exact⟨u,E,q.1,F⟩
 .rename_i i;have q:0<=Cu h f n s/\V.1=Cu h f n s:=by
   rw[<-m]at i ⊢;unfold QJ at i ⊢;split
   .rename_i q;rw[At q]at i;cases i
   exact⟨by omega,rfl⟩
  rw[q.2]at c ⊢;have e:MG h f G st n s=((BK h f (Cu h f n s)).2,st):=r.trans ((As O1).trans (At (by simpa using c)));exact fM d [.tmp 8] (.p C0 (BK h f (Cu h f n s)).2) eT ⟨by rw[e],by rw[e]⟩
 rename_i i;have q:0<=Cu h f n s/\V.1=Cu h f n s:=by
  rw[<-m]at i ⊢;unfold QJ at i ⊢;split
  .rename_i q;rw[At q]at i;cases i
  exact⟨by omega,rfl⟩
 rw[q.2]at c ⊢;have e:=r.trans ((As O1).trans (As (by simpa using c)));rw[e];clear e r i m;obtain⟨⟨B,H⟩,-⟩:=ST (h:=h) u (Cu h f n s);clear c;generalize (BK h f (Cu h f n s)).1=l at *;refine AI (ι:={x:Nat×Ek//x.1<=l.length/\Ku G (l.drop x.1) x.2=Ku G l st/\Q x.1 x.2}) (λx=>⟨[(0,.bp 1 [] 0),(3,.clo (1000000+g) [1]),(40,.p Bz l),(41,.p (.int .i64) (l.length:Int)),(42,.p (.int .i64) (x.1.1:Int))],EY h f a b x.1.2.1 x.1.2.2.1 x.1.2.2.2⟩) (λx=>l.length-x.1.1) ⟨(0,st),DO _,rfl,A⟩ (AC [(1,.nm 1),(2,.nm 2),(3,.nm 3),(4,.nm 4),(5,.nm 5)] rfl rfl ?_ ?_) (λx=>?_)
 .first|exact eN|refine eM ?_
 .first|exact eN|refine eM ?_
 obtain⟨⟨k,Z⟩,hk,t,y⟩:=x;simp only at hk t y;have o:=λj:k<l.length=>m9 G l Z j;simp only[EY,E9];repeat'(first|exact trivial|apply eS rfl|apply AB|refine rX d ?_ ?_|refine rC ?_ ?_<;>intro c<;>try(cases c;done))
 .exact c
 .have j:k<l.length:=by omega
  have v:=B _ (AG l 0 j);have o:=o j;have hG:=hG k Z (l.getD k 0) y O1 v.1 v.2;have w:=w k Z (l.getD k 0) y v.1 v.2;refine cP 2 d ?_ ?_
  .trivial
  refine A3z d (f:=g) (n:=1) (aw:=[.p T3 (l.getD k 0)]) ?_ ?_ hG [(1,.nm 1),(2,.nm 2),(3,.nm 3),(4,.nm 4),(5,.nm 5)] [3,4,5] rfl rfl rfl ?_ ?_ ?_
  .rfl
  .rfl
  .first|exact eN|refine eM ?_
  .first|exact eN|refine eM ?_
  rintro _ _ ⟨rfl,rfl⟩;refine⟨[(1,.nm 1),(2,.nm 2),(3,.nm 3),(4,.nm 4),(5,.nm 5)],.p .bool (G Z (l.getD k 0)).1,EY h f a b (G Z (l.getD k 0)).2.1 (G Z (l.getD k 0)).2.2.1 (G Z (l.getD k 0)).2.2.2,rfl,rfl,?_,?_,rfl,rfl,?_⟩
  .first|exact eN|refine eM ?_
  .first|exact eN|refine eM ?_
  simp only[EY,E9];refine rL d ?_ ?_
  .trivial
  repeat'(first|exact trivial|apply eS rfl|apply AB|refine rX d ?_ ?_|refine rC ?_ ?_<;>intro c<;>try(cases c;done))
  .have e:Ku G l st=(false,(G Z (l.getD k 0)).2):=by rw[<-t,o,As (by rw[c];simp)]
   rw[e];exact fM d [.tmp 8] (.p C0 (13:Int)) eT ⟨rfl,rfl⟩
  .exact eV
  rw[At c]at o;refine⟨⟨(k+1,(G Z (l.getD k 0)).2),j,by rw[<-t,o],w⟩,by simp only;omega,AC [(1,.nm 1),(2,.nm 2),(3,.nm 3),(4,.nm 4),(5,.nm 5)] rfl rfl ?_ ?_⟩
  .first|exact eN|refine eM ?_
  first|exact eN|refine eM ?_
 have D:l.drop k=[]:=If O1;rw[<-t,D];exact fM d [.tmp 8] (.p C0 (0:Int)) eT ⟨rfl,rfl⟩
end
section
attribute [local go_sem] E9 EY JW atS Kj KD Mj JJ IJ M5
theorem iG (e:Int):∀ {l:List (Int×Int)},(∀a∈l,0<=a.2)->Fv l e=if BR l e<0 then (0,false) else (BR l e,true)
 | [],_=>rfl
 | a :: l,h=>by
  unfold Fv BR;split
  .have:=h a iS;rw[As O1]
  exact iG e λb c=>h b (IF _ c)
theorem A53 (c:AX f) (ha:So h f) (s:ByteArray) (hf:0<f.length):Sn f 0 [A8 h s]=QJ h f 0 s:=by
 have h1:=iG (A8 h s) (l:=(Av f 0).2) (λa q=>((c.2 _ (AG f (0,[]) (L5 ⟨ABg 0,On.2 hf⟩))).2 a q).1);have b:Sn f 0 [A8 h s]=if (Fv (Av f 0).2 (A8 h s)).2=true then ((Fv (Av f 0).2 (A8 h s)).1,true) else (0,false):=rfl
 rw[b,h1];unfold QJ;rw[qU ha];split<;>rfl
def A54 (h:AF) (f:List AD) (st:Ek) (x:Int):Bool×Ek:=((WQ h f st.1 st.2.1 x).1,(WQ h f st.1 st.2.1 x).2.1,(WQ h f st.1 st.2.1 x).2.2,st.2.2)
def A9t (h:AF) (f:List AD) (st:Ek) (x:Int):Bool×Ek:=((WR h f st.1 st.2.2 x).1,(WR h f st.1 st.2.2 x).2.1,st.2.1,(WR h f st.1 st.2.2 x).2.2)
def bO (h:AF) (f:List AD):Int:=Cu h f 0 ⟨#[83,69,77]⟩
def MJ (h:AF) (f:List AD):(Int×Bool)×List Int:=Cf h f [] (bO h f) ⟨#[84,79,80]⟩
def smX (h:AF) (f:List AD):Int:=Cu h f (bO h f) ⟨#[73,78,68,69,88]⟩
def Te (h:AF) (f:List AD):(Int×Bool)×List Int:=SU h f (MJ h f).2 (smX h f)
def WU (h:AF) (f:List AD):Int×Ek:=MG h f (A54 h f) ((Te h f).2,[],[]) (bO h f) ⟨#[82,69,76,83]⟩
def RW (h:AF) (f:List AD):Int×Ek:=MG h f (A9t h f) (WU h f).2 (bO h f) ⟨#[67,79,78,83]⟩
def NB (h:AF) (f:List AD):Int :=
 if bO h f<0 then 13 else if (MJ h f).1.2=false then 13 else if smX h f<0 then 13 else if (Te h f).1.2=false then 13
 else if (WU h f).1≠0 then (WU h f).1 else if (RW h f).1≠0 then (RW h f).1
 else if 16<(RW h f).2.2.1.length\/16<(RW h f).2.2.2.length\/256<(RW h f).2.1.length then 7 else 0
def vY (h:AF) (f:List AD):Int×Int×Ek:=((MJ h f).1.1,(Te h f).1.1,(RW h f).2)
def AAh (h:AF) (f:List AD) (res:AV) (a:List (Nat×Obj)):Prop:=res=.p C0 (NB h f)/\∃x:Int×Int×Ek,a=EY h f x.1 x.2.1 x.2.2.1 x.2.2.2.1 x.2.2.2.2/\(NB h f=0->x=vY h f)
theorem A63 {s:ByteArray} (q:(QJ h f n s).2=true):0<=Cu h f n s/\(QJ h f n s).1=Cu h f n s:=by
 unfold QJ at q ⊢;split
 .rename_i p;rw[At p]at q;cases q
 exact⟨by omega,rfl⟩
theorem A64 {s:ByteArray} (q:(QJ h f n s).2=false):Cu h f n s<0:=by
 unfold QJ at q;split at q
 .assumption
 cases q
theorem A65 (b:AX f) {ns:List Int} (hn:Gq f ns) (a:List G8) {x:Int} (d:0<=x) (e:x<(f.length:Int)):Gq f (WQ h f ns a x).2.1/\(WQ h f ns a x).2.2.length<=a.length+1:=by
 have hh:=Od (h:=h) hn b x ⟨#[76,65,66,69,76]⟩ O1;have c:=(b.2 _ (AG f (0,[]) (L5 ⟨d,e⟩))).2;unfold WQ;split
 .exact⟨hh,by simp⟩
 exact⟨(qY (h:=h) (Av f x).2 (_,[]) hh c).1,by simp⟩
theorem A9u (a:AX f) {ns:List Int} (hn:Gq f ns) (qs:List Sk) {x:Int} (c:0<=x) (d:x<(f.length:Int)):Gq f (WR h f ns qs x).2.1/\(WR h f ns qs x).2.2.length<=qs.length+1:=by
 have hh:=Od (h:=h) hn a x ⟨#[72,73,71,72]⟩ O1;have b:=Od (h:=h) hh a x ⟨#[76,79,87]⟩ O1;unfold WR;split
 .exact⟨hh,by simp⟩
 exact⟨b,by simp⟩
theorem qZ {f:List AD} (G:Ek->Int->Bool×Ek) (P:Ek->Prop) (hG:∀st x,P st->0<=x->x<(f.length:Int)->P (G st x).2):∀(l:List Int) (st:Ek),(∀x∈l,0<=x/\x<(f.length:Int))->P st->P (Ku G l st).2
 | [],st,_,h=>h
 | x :: l,st,b,h=>by
  have c:=b x iS;have a:=hG st x h c.1 c.2;unfold Ku;split
  .exact qZ G P hG l _ (λy d=>b y (IF _ d)) a
  exact a
theorem q9 (a:AX f) (G:Ek->Int->Bool×Ek) (P:Ek->Prop) (hG:∀st x,P st->0<=x->x<(f.length:Int)->P (G st x).2) (st:Ek) (n:Int) (s:ByteArray) (h0:P st):P (MG h f G st n s).2:=by
 unfold MG;split
 .exact h0
 split
 .exact h0
 exact qZ G P hG _ st (ST (h:=h) a _).1.1 h0
theorem A55 (hs:m8 h) (d:AX f) (o:C2 h f) (ha:So h f) (h0:0<f.length) :
  BB Tryz.prog 38 [.bp 1 [] 0] (EY h f 0 0 [] [] []) [1,2]
  (AAh h f):=by
 refine Jf [0,2,3,4,5,6,7,23,35,43,55,62,70,96] [18] [] Tryz.func38 Tryz.ntmps38 (AE Vl (AE A9r AH)) ?_;intro w0 K O0 ρ0 a N O;simp only[Am,EY,E9];have u:Sn f 0 [A8 h ⟨#[83,69,77]⟩]=QJ h f 0 ⟨#[83,69,77]⟩:=A53 d ha ⟨#[83,69,77]⟩ h0;have t:bO h f<(f.length:Int):=WM d 0 ⟨#[83,69,77]⟩ h0;have w:smX h f<(f.length:Int):=WM d (bO h f) ⟨#[73,78,68,69,88]⟩ h0;have y:Gq f []:=⟨List.Pairwise.nil,λx G=>by cases G⟩;have B:Gq f (MJ h f).2:=Od y d (bO h f) ⟨#[84,79,80]⟩ h0;have c:NB h f=if bO h f<0 then 13 else if (MJ h f).1.2=false then 13 else if smX h f<0 then 13 else if (Te h f).1.2=false then 13
  else if (WU h f).1≠0 then (WU h f).1 else if (RW h f).1≠0 then (RW h f).1
  else if 16<(RW h f).2.2.1.length\/16<(RW h f).2.2.2.length\/256<(RW h f).2.1.length then 7 else 0:=rfl
 repeat'(first|exact trivial|apply eS rfl|apply AB|refine rX a ?_ ?_|refine rC ?_ ?_<;>intro b<;>try(cases b;done))
 .exact⟨d,h0⟩
 .have q:bO h f<0:=A64 (by rw[<-u];exact b);have e:NB h f=13:=c.trans (At q);exact fM a [.tmp 2] (.p C0 (13:Int)) eT ⟨by rw[e],(0,0,[],[],[]),rfl,λz=>by rw[e]at z;cases z⟩
 have q:=A63 (h:=h) (f:=f) (n:=0) (s:=⟨#[83,69,77]⟩) (by rw[<-u];exact b);have v:0<=bO h f:=q.1;have r:(Sn f 0 [A8 h ⟨#[83,69,77]⟩]).1=bO h f:=by rw[u];exact q.2
 rw[r];replace c:=c.trans (As O1);clear q r b u;have H:BB Tryz.prog 82 [.bp 1 [] 0,.p T3 (bO h f),.p T9 ⟨#[84,79,80]⟩] (EY h f 0 0 [] [] []) [1,2]
  (λres l=>res=.tup [.p T3 (MJ h f).1.1,.p .bool (MJ h f).1.2]/\l=EY h f 0 0 (MJ h f).2 [] []):=Td hs d o ha v t ⟨#[84,79,80]⟩ y 0 0 [] []
 refine cP 3 a ?_ ?_
 .trivial
 refine rM a (H) [(1,.nm 1),(2,.nm 2),(3,.nm 3),(4,.nm 4),(5,.nm 5)] [3,4,5] ?_ ?_ ?_
 .first|exact eN|refine eM ?_
 .first|exact eN|refine eM ?_
 rintro _ _ ⟨rfl,rfl⟩;refine⟨[(1,.nm 1),(2,.nm 2),(3,.nm 3),(4,.nm 4),(5,.nm 5)],.tup [.p T3 (MJ h f).1.1,.p .bool (MJ h f).1.2],EY h f 0 0 (MJ h f).2 [] [],rfl,rfl,?_,?_,rfl,rfl,?_⟩
 .first|exact eN|refine eM ?_
 .first|exact eN|refine eM ?_
 simp only[EY,E9];refine rL a ?_ ?_
 .trivial
 repeat'(first|exact trivial|apply eS rfl|apply AB|refine rX a ?_ ?_|refine rC ?_ ?_<;>intro b<;>try(cases b;done))
 .have e:NB h f=13:=c.trans (At b);exact fM a [.tmp 2] (.p C0 (13:Int)) eT ⟨by rw[e],((MJ h f).1.1,0,(MJ h f).2,[],[]),rfl,λz=>by rw[e]at z;cases z⟩
 replace c:=c.trans (As (by rw[b];simp));clear b;refine cP 2 a ?_ ?_
 .trivial
 refine rM a (aU d ha v t ⟨#[73,78,68,69,88]⟩ (MJ h f).1.1 0 (H5 (MJ h f).2) ((MJ h f).2.map (NA h f)) [] []) [(1,.nm 1),(2,.nm 2),(3,.nm 3),(4,.nm 4),(5,.nm 5)] [3,4,5] ?_ ?_ ?_
 .first|exact eN|refine eM ?_
 .first|exact eN|refine eM ?_
 rintro _ _ ⟨rfl,rfl⟩;refine⟨[(1,.nm 1),(2,.nm 2),(3,.nm 3),(4,.nm 4),(5,.nm 5)],.tup [.p T3 (QJ h f (bO h f) ⟨#[73,78,68,69,88]⟩).1,.p .bool (QJ h f (bO h f) ⟨#[73,78,68,69,88]⟩).2],E9 h f (MJ h f).1.1 0 (H5 (MJ h f).2) ((MJ h f).2.map (NA h f)) [] [],rfl,rfl,?_,?_,rfl,rfl,?_⟩
 .first|exact eN|refine eM ?_
 .first|exact eN|refine eM ?_
 simp only[EY,E9];refine rL a ?_ ?_
 .trivial
 repeat'(first|exact trivial|apply eS rfl|apply AB|refine rX a ?_ ?_|refine rC ?_ ?_<;>intro b<;>try(cases b;done))
 .have e:NB h f=13:=c.trans (At (A64 b));exact fM a [.tmp 2] (.p C0 (13:Int)) eT ⟨by rw[e],((MJ h f).1.1,0,(MJ h f).2,[],[]),rfl,λz=>by rw[e]at z;cases z⟩
 have q:=A63 b;have r:0<=smX h f:=q.1;have C:(QJ h f (bO h f) ⟨#[73,78,68,69,88]⟩).1=smX h f:=q.2;rw[C];replace c:=c.trans (As O1);clear q C b;have A:Gq f (Te h f).2:=qX B h r w;have I:BB Tryz.prog 84 [.bp 1 [] 0,.p T3 (smX h f)] (EY h f (MJ h f).1.1 0 (MJ h f).2 [] []) [1,2] (λres l=>res=.tup [.p T3 (Te h f).1.1,.p .bool (Te h f).1.2]/\l=EY h f (MJ h f).1.1 0 (Te h f).2 [] []):=aV hs d o r w B _ 0 [] [];refine cP 3 a ?_ ?_
 .trivial
 refine rM a (I) [(1,.nm 1),(2,.nm 2),(3,.nm 3),(4,.nm 4),(5,.nm 5)] [3,4,5] ?_ ?_ ?_
 .first|exact eN|refine eM ?_
 .first|exact eN|refine eM ?_
 rintro _ _ ⟨rfl,rfl⟩;refine⟨[(1,.nm 1),(2,.nm 2),(3,.nm 3),(4,.nm 4),(5,.nm 5)],.tup [.p T3 (Te h f).1.1,.p .bool (Te h f).1.2],EY h f (MJ h f).1.1 0 (Te h f).2 [] [],rfl,rfl,?_,?_,rfl,rfl,?_⟩
 .first|exact eN|refine eM ?_
 .first|exact eN|refine eM ?_
 simp only[EY,E9];refine rL a ?_ ?_
 .trivial
 repeat'(first|exact trivial|apply eS rfl|apply AB|refine rX a ?_ ?_|refine rC ?_ ?_<;>intro b<;>try(cases b;done))
 .have e:NB h f=13:=c.trans (At b);exact fM a [.tmp 2] (.p C0 (13:Int)) eT ⟨by rw[e],((MJ h f).1.1,(Te h f).1.1,(Te h f).2,[],[]),rfl,λz=>by rw[e]at z;cases z⟩
 replace c:=c.trans (As (by rw[b];simp));clear b;have J:BB Tryz.prog 85 [.bp 1 [] 0,.p T3 (bO h f),.p T9 ⟨#[82,69,76,83]⟩,.clo (1000000+86) [1]] (EY h f (MJ h f).1.1 (Te h f).1.1 (Te h f).2 [] []) [1,2] (λres l=>res=.p C0 (WU h f).1/\l=EY h f (MJ h f).1.1 (Te h f).1.1 (WU h f).2.1 (WU h f).2.2.1 (WU h f).2.2.2) :=
  WT d o ha v t ⟨#[82,69,76,83]⟩ (MJ h f).1.1 (Te h f).1.1 _ (A54 h f) (λk st=>Gq f st.1/\st.2.1.length<=k) (λk st x g hk i j=>A51 hs d o ha i j g.1 _ _ st.2.1 O1 st.2.2) (λk st x g i j=>by have:=A65 (h:=h) d g.1 st.2.1 i j;exact⟨this.1,iF this.2 O1⟩) ((Te h f).2,[],[]) ⟨A,DO _⟩
 have E:Gq f (WU h f).2.1:=q9 d (A54 h f) (λst=>Gq f st.1) (λst x g i j=>(A65 d g st.2.1 i j).1) _ _ _ A;refine cP 4 a ?_ ?_
 .trivial
 refine rM a (J) [(1,.nm 1),(2,.nm 2),(3,.nm 3),(4,.nm 4),(5,.nm 5)] [3,4,5] ?_ ?_ ?_
 .first|exact eN|refine eM ?_
 .first|exact eN|refine eM ?_
 rintro _ _ ⟨rfl,rfl⟩;refine⟨[(1,.nm 1),(2,.nm 2),(3,.nm 3),(4,.nm 4),(5,.nm 5)],.p C0 (WU h f).1,EY h f (MJ h f).1.1 (Te h f).1.1 (WU h f).2.1 (WU h f).2.2.1 (WU h f).2.2.2,rfl,rfl,?_,?_,rfl,rfl,?_⟩
 .first|exact eN|refine eM ?_
 .first|exact eN|refine eM ?_
 simp only[EY,E9];refine rL a ?_ ?_
 .trivial
 repeat'(first|exact trivial|apply eS rfl|apply AB|refine rX a ?_ ?_|refine rC ?_ ?_<;>intro b<;>try(cases b;done))
 .have e:NB h f=(WU h f).1:=c.trans (At b);exact fM a [.tmp 2] (.p C0 (WU h f).1) eT ⟨by rw[e],((MJ h f).1.1,(Te h f).1.1,(WU h f).2),rfl,λz=>by rw[e]at z;exact absurd z b⟩
 have M:(WU h f).1=0:=by simpa using b
 replace c:=c.trans (As (by rw[M];simp));clear b;have F:(WU h f).2.2.2=[]:=q9 d (A54 h f) (λst=>st.2.2=[]) (λst x g _ _=>g) _ _ _ rfl;have L:BB Tryz.prog 85 [.bp 1 [] 0,.p T3 (bO h f),.p T9 ⟨#[67,79,78,83]⟩,.clo (1000000+87) [1]] (EY h f (MJ h f).1.1 (Te h f).1.1 (WU h f).2.1 (WU h f).2.2.1 (WU h f).2.2.2) [1,2] (λres l=>res=.p C0 (RW h f).1/\l=EY h f (MJ h f).1.1 (Te h f).1.1 (RW h f).2.1 (RW h f).2.2.1 (RW h f).2.2.2) :=
  WT d o ha v t ⟨#[67,79,78,83]⟩ (MJ h f).1.1 (Te h f).1.1 _ (A9t h f) (λk st=>Gq f st.1/\st.2.2.length<=k) (λk st x g hk i j=>A52 hs d o ha i j g.1 _ _ st.2.1 st.2.2 O1) (λk st x g i j=>by have:=A9u (h:=h) d g.1 st.2.2 i j;exact⟨this.1,iF this.2 O1⟩) (WU h f).2 ⟨E,by rw[F];exact OS 0⟩
 refine cP 4 a ?_ ?_
 .trivial
 refine rM a (L) [(1,.nm 1),(2,.nm 2),(3,.nm 3),(4,.nm 4),(5,.nm 5)] [3,4,5] ?_ ?_ ?_
 .first|exact eN|refine eM ?_
 .first|exact eN|refine eM ?_
 rintro _ _ ⟨rfl,rfl⟩;refine⟨[(1,.nm 1),(2,.nm 2),(3,.nm 3),(4,.nm 4),(5,.nm 5)],.p C0 (RW h f).1,EY h f (MJ h f).1.1 (Te h f).1.1 (RW h f).2.1 (RW h f).2.2.1 (RW h f).2.2.2,rfl,rfl,?_,?_,rfl,rfl,?_⟩
 .first|exact eN|refine eM ?_
 .first|exact eN|refine eM ?_
 simp only[EY,E9];refine rL a ?_ ?_
 .trivial
 repeat'(first|exact trivial|apply eS rfl|apply AB|refine rX a ?_ ?_|refine rC ?_ ?_<;>intro b<;>try(cases b;done))
 .have e:NB h f=(RW h f).1:=c.trans (At b);exact fM a [.tmp 2] (.p C0 (RW h f).1) eT ⟨by rw[e],vY h f,rfl,λ_=>rfl⟩
 .rename_i m;have m:(RW h f).1=0:=by simpa using m
  have D:((RW h f).2.1.map (NA h f)).length=(RW h f).2.1.length:=aS _;have e:NB h f=7:=c.trans ((As (by rw[m];simp)).trans (At O1));exact fM a [.tmp 2] (.p C0 (7:Int)) eT ⟨by rw[e],vY h f,rfl,λ_=>rfl⟩
 rename_i m;have m:(RW h f).1=0:=by simpa using m
 have D:((RW h f).2.1.map (NA h f)).length=(RW h f).2.1.length:=aS _;have e:NB h f=0:=c.trans ((As (by rw[m];simp)).trans (As O1));exact fM a [.tmp 2] (.p C0 (0:Int)) eT ⟨by rw[e],vY h f,rfl,λ_=>rfl⟩
end
section
attribute [local go_sem] E9 EY Kj KD Mj JJ IJ M5
theorem WV {c:Cx} {k:List Ca} {ops:Array Oper} {rest:List Oper} {d:Nat} {av:AV} {env:List (Nat×AV)} {objs:List (Nat×Obj)} (t:Ty) (x:t.den)
  (hk:D1 c R k ops rest ⟨(d,.p t x) :: env,objs⟩) (h:IZ false ⟨(d,av) :: env,objs⟩ t av=some x:=by simp only[go_sem,Nat.reduceEqDiff,reduceCtorEq,Nat.reduceAdd,Nat.reduceSub,Nat.reduceMul,Nat.reduceLeDiff,Nat.reduceLT,Int.reduceLE,Int.reduceToNat,Int.reduceNeg,↓reduceIte]):D1 c R k ops rest ⟨(d,av) :: env,objs⟩:=by
 intro f g a w i;obtain⟨ρ,b⟩:=i;refine hk f g a w ⟨ρ,b.frm,b.nt,b.defers,b.pin,b.objs,b.free,b.dist,λs v hs=>?_⟩;by_cases e:s=d
 .subst e;simp only[lk,AAQ,AB1]at hs;subst hs;exact FA (V:=vw w c.O0 ⟨(s,av) :: env,objs⟩ ρ) (O':=own c.O0 ⟨(s,av) :: env,objs⟩ ρ) (λ_ h=>h) (λh=>by cases h) b.objs h (b.env s av (by simp only[lk,AAQ]))
 exact b.env s v (by simp only[lk,As e]at hs ⊢;exact hs)
def A7P (h:AF) (f:List AD) (x:Int×Int×Ek):Bj:=(x.1,x.2.1,x.2.2.1.map (NA h f),x.2.2.2.1,x.2.2.2.2)
def RY (h:AF) (f:List AD):Bj×Int:=if NB h f≠0 then (zM,NB h f) else (A7P h f (vY h f),0)
def A7Q:AW:={ ins:=[FY,FL],pre:=λ(h,f,_)=>m8 h/\AX f/\C2 h f/\So h f/\0<List.length f,out:=λ(h,f,_)=>[.p ZY (RY h f).1,.p C0 (RY h f).2] }
theorem A7R:AY Tryz.prog 15 A7Q:=by
 refine fKP [0,1,2,3,4,5,6,7,16] [11] [] Tryz.func15 Tryz.ntmps15 AH ?_;rintro w0 O0 ⟨h,f,u⟩ a-⟨hs,c,d,ha,h0⟩;have hs:m8 h:=hs;have c:AX f:=c;have d:C2 h f:=d;have ha:So h f:=ha;have h0:0<f.length:=h0;have i:(h.1,h.2)=h:=rfl;simp only[A7Q,AK];repeat'(first|exact trivial|apply eS rfl|apply AB|refine rP a ?_ ?_|fail)
 refine cP 1 a ?_ ?_
 .trivial
 refine WV FY h ?_;refine rN 1 a ?_ ?_
 .trivial
 refine WV FL f ?_;refine rL a ?_ ?_
 .trivial
 repeat'(first|exact trivial|apply eS rfl|apply AB|refine rP a ?_ ?_|fail)
 refine cP 1 a ?_ ?_
 .trivial
 refine rM a (A55 hs c d ha h0) [(1,.nm 12),(2,.nm 10),(3,.nil),(4,.nil),(5,.nil)] [] ?_ ?_ ?_
 .first|exact eN|refine eM ?_
 .first|exact eN|refine eM ?_
  rfl
 rintro _ _ ⟨rfl,x,rfl,g⟩;refine⟨[(12,.nm 1),(10,.nm 2),(103,.nm 3),(104,.nm 4),(105,.nm 5)],.p C0 (NB h f),[(12,.box 81 true [.p FY h,.p FL f,.mp 10,.ag [.p T3 x.1,.p T3 x.2.1,.sr 103 T9 0 (x.2.2.1.map (NA h f)).length,.sr 104 T54 0 x.2.2.2.1.length,.sr 105 T93 0 x.2.2.2.2.length]]),(10,.mapo T3 T3 (H5 x.2.2.1)),(103,.arr 9 T9 (x.2.2.1.map (NA h f))),(104,.arr 54 T54 x.2.2.2.1),(105,.arr 93 T93 x.2.2.2.2)],rfl,rfl,?_,?_,rfl,rfl,?_⟩
 .first|exact eN|refine eM ?_
 .first|exact eN|refine eM ?_
 refine rL a ?_ ?_
 .trivial
 repeat'(first|exact trivial|apply eS rfl|apply AB|refine rX a ?_ ?_|refine rC ?_ ?_<;>intro b<;>try(cases b;done))
 .have e:RY h f=(zM,NB h f):=At b;exact fI a [.cell 4 41,.tmp 5] (by rw[e];first|exact eR|refine Je ?_;rfl)
 have z:NB h f=0:=by simpa using b
 have e:RY h f=(A7P h f (vY h f),0):=As (by rw[z];simp);rw[e,<-g z];refine CK [103,104,105] ?_;exact fI a [.cell 4 41,.tmp 5] (by unfold A7P;exact eR)
end
def A56 (a b:List Int):Prop:=∀y,0<=o5 a y->o5 b y=o5 a y
theorem A56.trans {a b c:List Int} (h:A56 a b) (k:A56 b c):A56 a c:=λy d=>by
 have:=h y d;rw[k y O1,this]
theorem A21:∀(x y:List UInt8),Op.bytesLess x y=true↔x<y
 | _,[]=>by
  unfold Op.bytesLess;simp
 | [],b :: y=>by
  unfold Op.bytesLess;simp
 | a :: x,b :: y=>by
  unfold Op.bytesLess;rw[oN,An,A21 x y,List.cons_lt_cons_iff];simp
theorem GJ {x:ByteArray}:CJ x y=true↔x.toList<y.toList:=A21 _ _
theorem MK {x z:ByteArray} (h1:CJ x y=true) (a:CJ y z=true):CJ x z=true:=GJ.2 (List.lt_trans (GJ.1 h1) (GJ.1 a))
theorem iH {x:ByteArray} (h1:¬CJ x y=true) (c:¬AM x y=true):CJ y x=true:=by
 refine GJ.2 ?_;have a:¬x.toList<y.toList:=λq=>h1 (GJ.2 q);have b:¬x.toList=y.toList:=λq=>c (by unfold AM;rw[q];exact beq_self_eq_true _);exact By λq=>b (List.le_antisymm (List.not_lt.1 q) (List.not_lt.1 a))
def nA (l:List ByteArray):Prop:=l.Pairwise λa b=>CJ a b=true
theorem A22 {l:List ByteArray} (d:nA l) (s:ByteArray):nA (Dj l s):=by
 unfold Dj;split
 .exact d
 rename_i hn;have k:l.take (We l s)=l.takeWhile λx=>CJ x s:=by
  unfold We;exact(List.prefix_iff_eq_take.1 (List.takeWhile_prefix _)).symm
 have h1:∀x∈l.take (We l s),CJ x s=true:=λx c=>by
  rw[k]at c;have:=List.all_takeWhile (p:=λx=>CJ x s) (l:=l);rw[OF]at this;exact this x c
 have h:∀x∈l.drop (We l s),CJ s x=true:=by
  by_cases f:We l s<l.length
  .have j:=ON f;have e:l.getD (We l s) ByteArray.empty=l[We l s]:=by simp[AS,f]
   have hh:CJ s l[We l s]=true:=by
    refine iH (λq=>?_) λq=>hn ?_
    .have:=(kP (λx=>CJ x s) ByteArray.empty l (We l s) (OS _)).1 ⟨f,by rw[e];exact q⟩;exact absurd this (by unfold We;omega)
    rw[An,IN,e];exact⟨f,q⟩
   intro x c;have i:(l.drop (We l s)).Pairwise λa b=>CJ a b=true:=d.drop;rw[j]at c i;rcases GO.1 c with rfl|c
   .exact hh
   exact MK hh ((AAw.1 i).1 x c)
  rw[If O1];exact λx c=>by cases c
 show List.Pairwise _ _;rw[AA8,ABH];refine⟨d.take,AAw.2 ⟨h,d.drop⟩,λa ha b g=>?_⟩;rcases GO.1 g with rfl|g
 .exact h1 a ha
 exact MK (h1 a ha) (h b g)
theorem vZ (d:List AJ):nA (BG d):=by
 have b:∀(l:List (ByteArray×ByteArray)) (o:List ByteArray),nA o->nA (l.foldl JH o):=by
  intro l;induction l with
  | nil=>exact λo h=>h
  | cons x l a=>exact λo h=>a _ (A22 h x.1)
 have c:∀(l:List AJ) (o:List ByteArray),nA o->nA (l.foldl It o):=by
  intro l;induction l with
  | nil=>exact λo h=>h
  | cons x l a=>exact λo h=>a _ (b x.2.2 o h)
 exact c d [] .nil
def A57 (h:AF):Prop:=h.2.Pairwise λa b=>CJ a.1 b.1=true
theorem iI (d:List AJ):A57 (Aa d).1:=by
 unfold Aa;split
 .exact .nil
 show List.Pairwise _ (DB d).1;unfold DB;split
 .exact .nil
 show List.Pairwise _ ((BG d).map (Ls d));rw[AAG];exact vZ d
theorem ML (s:ByteArray):∀(l:List SI) (k:Nat),0<=i7 s k l->∃i,i<l.length/\i7 s k l=((k+i:Nat):Int)/\∃x,l[i]?=some x/\AM x.1 s=true
 | [],k,h=>absurd h (by unfold i7;decide)
 | x :: l,k,h=>by
  unfold i7 at h ⊢;split
  .rename_i e;exact⟨0,by simp,by omega,x,rfl,e⟩
  rename_i e;rw[As e]at h;obtain⟨i,h1,a,y,b,c⟩:=ML s l (k+1) h;exact⟨i+1,by simp only[Is];omega,by rw[a];omega,y,by rw[List.getElem?_cons_succ];exact b,c⟩
theorem A9v (hs:A57 h) {s t:ByteArray} (e:CJ s t=true) (h1:0<=A8 h s) (n:0<=A8 h t):A8 h s<A8 h t:=by
 obtain⟨i,f,p,x,g,r⟩:=ML s h.2 0 h1;obtain⟨j,k,u,y,b,v⟩:=ML t h.2 0 n;have ex:x.1.toList=s.toList:=AAb.1 r;have c:y.1.toList=t.toList:=AAb.1 v;have d:=GJ.1 e;unfold A8;rw[p,u];by_cases w:i<j
 .omega
 exfalso;by_cases o:i=j
 .subst o;rw[g]at b;injection b with b
  subst b;rw[ex]at c;rw[c]at d;exact List.lt_irrefl _ d
 have a:=oS.1 hs j i k f O1;have l:h.2[i]=x:=by have:=AT f;rw[g]at this;injection this with q;exact q.symm
 have m:h.2[j]=y:=by have:=AT k;rw[b]at this;injection this with q;exact q.symm
 rw[l,m]at a;have a:=GJ.1 a;rw[ex,c]at a;exact List.lt_irrefl _ (List.lt_trans a d)
theorem WW (s:ByteArray):∀(l:List FI) (k:Nat),0<=YI s k l->∃i,i<l.length/\YI s k l=((k+i:Nat):Int)/\∃x,l[i]?=some x/\AM x.1 s=true
 | [],k,h=>absurd h (by unfold YI;decide)
 | x :: l,k,h=>by
  unfold YI at h ⊢;split
  .rename_i e;exact⟨0,by simp,by omega,x,rfl,e⟩
  rename_i e;rw[As e]at h;obtain⟨i,h1,a,y,b,c⟩:=WW s l (k+1) h;exact⟨i+1,by simp only[Is];omega,by rw[a];omega,y,by rw[List.getElem?_cons_succ];exact b,c⟩
theorem A9w {s t:ByteArray} (e:AM s t=false) (h1:0<=Ad h s):Ad h s≠Ad h t:=λq=>by
 obtain⟨i,m,c,x,d,f⟩:=WW s h.1 0 h1;obtain⟨j,n,g,y,a,k⟩:=WW t h.1 0 (show 0<=Ad h t by rw[<-q];exact h1);have l:((0+i:Nat):Int)=((0+j:Nat):Int):=c.symm.trans (q.trans g);have:i=j:=by omega
 subst this;rw[d]at a;injection a with a
 subst a;have ex:x.1.toList=s.toList:=AAb.1 f;have b:x.1.toList=t.toList:=AAb.1 k;have:AM s t=true:=by
  unfold AM;rw[<-ex,<-b];exact beq_self_eq_true _
 rw[e]at this;cases this
structure LOk (h:AF):Prop where
 lw:Sm h=true
 srt:A57 h
theorem LOk.ne (l:LOk h):(EF h).list≠(EF h).null:=A9w (by decide +kernel) (A18 l.lw).2.2.2.1
theorem LOk.rng (l:LOk h):((EF h).list<(h.1.length:Int)/\(EF h).cons<(h.1.length:Int)/\(EF h).null<(h.1.length:Int)/\(EF h).dlist<(h.1.length:Int))/\(EF h).first<(h.2.length:Int)/\(EF h).rest<(h.2.length:Int)/\(EF h).head<(h.2.length:Int)/\(EF h).last<(h.2.length:Int) :=
 ⟨⟨(DH h _).2,(DH h _).2,(DH h _).2,(DH h _).2⟩,(GP h _).2,(GP h _).2,(GP h _).2,(GP h _).2⟩
theorem LOk.sub (l:LOk h):Ae h (EF h).list (EF h).cons=true/\Ae h (EF h).list (EF h).null=true:=by
 have e:=l.lw;unfold Sm at e;rw[An,An]at e;exact⟨e.1.2,e.2⟩
theorem A23 {all:List ByteArray} {l:List FV}:∀ {r:List FV} {k:Nat},pD all l k r=0->∀y∈r,BM y.1 true=true
 | [],_,_,y,a=>by cases a
 | x :: r,k,h,y,a=>by
  simp only[pD]at h;split at h
  .cases h
  rename_i h0;split at h
  .cases h
  split at h
  .cases h
  rcases GO.1 a with rfl|a
  .simpa using h0
  exact A23 h y a
theorem rA {all:List ByteArray}:∀ {l:List AJ},VD all l=0->∀x∈l,∀y∈x.2.2,BM y.1 true=true
 | [],_,x,a=>by cases a
 | z :: l,h,x,a=>by
  simp only[VD]at h;split at h
  .rename_i h1;exact absurd h h1
  rename_i h1;rcases GO.1 a with rfl|a
  .exact A23 (By h1)
  exact rA h x a
theorem Yl:∀(l:List (ByteArray×ByteArray)) (o:List ByteArray),∀s∈l.foldl JH o,s∈o\/∃y∈l,y.1=s
 | [],o,s,h=>.inl h
 | x :: l,o,s,h=>by
  rcases Yl l _ s h with h|⟨y,a,e⟩
  .rcases Fb h with h|h
   .exact .inl h
   exact .inr ⟨x,iS,h.symm⟩
  exact .inr ⟨y,IF _ a,e⟩
theorem WX:∀(l:List AJ) (o:List ByteArray),∀s∈l.foldl It o,s∈o\/∃x∈l,∃y∈x.2.2,y.1=s
 | [],o,s,h=>.inl h
 | x :: l,o,s,h=>by
  rcases WX l _ s h with h|⟨z,b,y,a,e⟩
  .rcases Yl x.2.2 o s h with h|⟨y,a,e⟩
   .exact .inl h
   exact .inr ⟨x,iS,y,a,e⟩
  exact .inr ⟨z,IF _ b,y,a,e⟩
def A9x (h:AF):Prop:=∀x∈h.2,BM x.1 true=true
theorem nB (d:List AJ):A9x (Aa d).1:=by
 by_cases a:Ak d=0
 .rw[KR a];obtain⟨-,-,c,-,-⟩:=V3 a;intro x b;rw[L9 a]at b;obtain⟨s,hs,rfl⟩:=IS.1 b;rcases WX d [] s hs with h|⟨z,g,y,f,e⟩
  .cases h
  show BM s true=true;rw[<-e];exact rA c z g y f
 have:(Aa d).1=([],[]):=by
  unfold Aa A4;rw[At a,At a]
 rw[this];exact λx b=>by cases b
section
attribute [local go_sem] P1 JW Kj KD Mj JJ IJ M5
def Hz (h:AF) (a:List AD):List (Nat×Obj) :=
 [(1,.box 98 true [.p FY h,.ag [.sr 2 Sf 0 a.length]]),(2,.nest 57 59 T3 C9 a none)]
def Dx (a:List AD) (n e m:Int):List AD:=a.set n.toNat ((a.getD n.toNat (0,[])).1,(a.getD n.toNat (0,[])).2++[(e,m)])
def Ix (h:AF) (a:List AD) (s:ByteArray):List AD:=a++[(Ad h s,[])]
theorem Gj (h:AF) (a:List AD) (g:a.length<=100000) (s:ByteArray):BB Tryz.prog 46 [.bp 1 [] 0,.p T9 s] (Hz h a) [1]
  (λres f=>res=.p T3 (a.length:Int)/\f=Hz h (Ix h a s)):=by
 refine Jf [0,1,4] [] [(18,59)] Tryz.func46 Tryz.ntmps46 (AE P2 AH) ?_;intro w0 K O0 ρ0 b i j;simp only[Am,Hz];repeat'(first|exact trivial|apply eS rfl|apply AB|refine rP b ?_ ?_|fail)
 refine J5 drawsAny b 15 [([1,2,3,4,5,6,7,8,9,10,11,12,13],14)] [0] (by kernel_rfl) (mxA ?_ ?_)
 .trivial
 refine mxL b [2,18] ?_ ?_
 .simp only[AO];omega
 refine mxE b ?_ ?_ ?_
 .trivial
 .trivial
 repeat'(first|exact trivial|apply eS rfl|apply AB|refine rX b ?_ ?_|refine rC ?_ ?_<;>intro c<;>try(cases c;done))
 .omega
 have d:a.length+1=(a++[(Ad h s,([]:List (Int×Int)))]).length:=by simp
 have e:(a.length:Int)+1-1=a.length:=by omega
 rw[e,d];refine Ev.ent (σ':=⟨[(4,.p (.int .i64) (a.length:Int))],Hz h (a++[(Ad h s,[])])⟩) ?_ (AC [(1,.nm 1),(2,.nm 2)] rfl rfl ?_ ?_)
 .exact fM b [.tmp 4] (.p T3 (a.length:Int)) eT ⟨rfl,rfl⟩
 .simp only[Hz];first|exact eN|refine eM ?_
 first|exact eN|refine eM ?_
attribute [local go_sem] Ur kE ne_eq not_false_eq_true
theorem Ef (h:AF) (a:List AD) (f:a.length<=100000) (h0:0<=n) (h1:n<(a.length:Int)) (j:(a.getD n.toNat (0,[])).2.length<=100000) (s:ByteArray) (m:Int):BB Tryz.prog 47 [.bp 1 [] 0,.p T3 n,.p T9 s,.p T3 m] (Hz h a) [1]
  (λres e=>res=.raw (.tuple #[])/\e=Hz h (Dx a n (A8 h s) m)):=by
 refine Jf [0,1,2,3] [31] [] Tryz.func47 Tryz.ntmps47 (AE Vl AH) ?_;intro w0 K O0 ρ0 b g i;simp only[Am,Hz];repeat'(first|exact trivial|apply eS rfl|apply AB|refine rP b ?_ ?_|fail)
 refine J5 drawsAny b 25 [([6,7,8,9,10,11,12,13,14,15,16,17,18,19,20,21,22,23],24)] [0,1,2,3,4,5] (by kernel_rfl) (mxA ?_ ?_)
 .exact⟨h0,h1⟩
 refine mxN b 2 ?_ ?_
 .simp only[AO];dsimp only[Ty.den]at *;omega
 refine mxE b ?_ ?_ ?_
 .trivial
 .exact⟨h0,h1⟩
 repeat'(first|exact trivial|apply eS rfl|apply AB|refine rX b ?_ ?_|refine rC ?_ ?_<;>intro c<;>try(cases c;done))
 have d:a.length=(Dx a n (A8 h s) m).length:=(AAq ..).symm;rw[d];refine Ev.ent (σ':=⟨[],Hz h (Dx a n (A8 h s) m)⟩) ?_ (AC [(1,.nm 1),(2,.nm 2)] rfl rfl ?_ ?_)
 .exact fM b [] (.raw (.tuple #[])) rfl ⟨rfl,rfl⟩
 .simp only[Hz];first|exact eN|refine eM ?_
  rfl
 first|exact eN|refine eM ?_
end
section
attribute [local go_sem] Hz Kj KD Mj JJ IJ M5
def Jd (K:Nat) (a:List AD):Prop:=∀x∈a,x.2.length<=K
theorem Oe (h:AF) (a:List AD) (s:ByteArray):(Ix h a s).length=a.length+1:=by simp[Ix]
theorem A58 {b:List AD} {K:Nat} (hk:Jd K b) (s:ByteArray):Jd K (Ix h b s):=by
 intro x a;rcases NO.1 a with a|a
 .exact hk x a
 rw[oR.1 a];exact DO _
theorem aW (a:List AD) (n e m:Int):(Dx a n e m).length=a.length:=AAq ..
theorem iJ {a:List AD} {K:Nat} (hk:Jd K a) (n:Int):(a.getD n.toNat (0,[])).2.length<=K:=by
 by_cases h:n.toNat<a.length
 .exact hk _ (AG a (0,[]) h)
 rw[AS,oF O1];exact DO _
theorem A59 {b:List AD} {K:Nat} (hk:Jd K b) (n e m:Int):Jd (K+1) (Dx b n e m):=by
 intro x a;rcases AB5 a with a|rfl
 .have:=hk x a;omega
 have:=iJ hk n;simp only[Do,i5];omega
def EW (h:AF) (st:List AD×Int×ByteArray) (x:Int):List AD×Int×ByteArray :=
 (Dx (Dx (Ix h st.1 ⟨#[99,111,110,115]⟩) st.2.1 (A8 h st.2.2) (st.1.length:Int)) (st.1.length:Int) (A8 h ⟨#[70,73,82,83,84]⟩) x,(st.1.length:Int),⟨#[82,69,83,84]⟩)
def rB (h:AF) (d:Int) (st:List AD×Int×ByteArray):List AD :=
 Dx (Dx (Ix h st.1 ⟨#[108,105,115,116]⟩) st.2.1 (A8 h st.2.2) (st.1.length:Int)) d (A8 h ⟨#[76,65,83,84]⟩) (st.1.length:Int)
def iK (h:AF) (a:List AD) (l:List Int):List AD:=rB h (a.length:Int) (l.foldl (EW h) (Ix h a ⟨#[100,108,105,115,116]⟩,(a.length:Int),⟨#[76,73,83,84]⟩))
theorem A24 {α β:Type} (g:β->α->β) (l:List α) (d:α) (b:β) {k:Nat} (h:k<l.length):(l.drop k).foldl g b=(l.drop (k+1)).foldl g (g b (l.getD k d)):=by
 rw[ON h,AS,AT h];rfl
theorem A25 {st:List AD×Int×ByteArray} {L K:Nat} (h1:st.1.length=L) (a:Jd K st.1) (b:0<=st.2.1/\st.2.1<(st.1.length:Int)) (x:Int) :
  (EW h st x).1.length=L+1/\Jd (K+2) (EW h st x).1/\0<=(EW h st x).2.1/\(EW h st x).2.1<((EW h st x).1.length:Int):=by
 refine⟨by simp only[EW,aW,Oe,h1],A59 (A59 (A58 a _) _ _ _) _ _ _,by simp only[EW];omega,?_⟩;simp only[EW,aW,Oe];omega
theorem iL (h:AF) (b:List AD) (I:b.length<=1000) {K:Nat} (y:Jd K b) (G:K<=1000) (l:List Int) (J:l.length<=1000):BB Tryz.prog 48 [.bp 1 [] 0,.p Bz l] (Hz h b) [1]
  (λres E=>res=.p T3 (b.length:Int)/\E=Hz h (iK h b l)):=by
 refine Jf [0,1,4,5,6,7,9,10,11,15,16,17,18] [] [] Tryz.func48 Tryz.ntmps48 AH ?_;intro w0 F O0 ρ0 a L M;have B:iK h b l=rB h (b.length:Int) (l.foldl (EW h) (Ix h b ⟨#[100,108,105,115,116]⟩,(b.length:Int),⟨#[76,73,83,84]⟩)):=rfl;simp only[Am,Hz];repeat'(first|exact trivial|apply eS rfl|apply AB|refine rP a ?_ ?_|fail)
 refine cP 1 a ?_ ?_
 .trivial
 refine rM a (Gj h b O1 ⟨#[100,108,105,115,116]⟩) [(1,.nm 1),(2,.nm 2)] [2] ?_ ?_ ?_
 .first|exact eN|refine eM ?_
 .first|exact eN|refine eM ?_
 rintro _ _ ⟨rfl,rfl⟩;refine⟨[(1,.nm 1),(2,.nm 2)],.p T3 (b.length:Int),Hz h (Ix h b ⟨#[100,108,105,115,116]⟩),rfl,rfl,?_,?_,rfl,rfl,?_⟩
 .first|exact eN|refine eM ?_
 .first|exact eN|refine eM ?_
 simp only[Hz];refine rL a ?_ ?_
 .trivial
 repeat'(first|exact trivial|apply eS rfl|apply AB|refine rX a ?_ ?_|refine rC ?_ ?_<;>intro c<;>try(cases c;done))
 have u:=Oe h b ⟨#[100,108,105,115,116]⟩;have C:=A58 (h:=h) y ⟨#[100,108,105,115,116]⟩;generalize Ix h b ⟨#[100,108,105,115,116]⟩=s at *;refine AI (ι:={x:Nat×List AD×Int×ByteArray//x.1<=l.length/\(l.drop x.1).foldl (EW h) x.2=l.foldl (EW h) (s,(b.length:Int),⟨#[76,73,83,84]⟩)/\x.2.1.length=b.length+1+x.1/\Jd (K+2*x.1) x.2.1/\0<=x.2.2.1/\x.2.2.1<(x.2.1.length:Int)}) (λx=>⟨[(0,.bp 1 [] 0),(5,.p T3 (b.length:Int)),(6,.p T3 x.1.2.2.1),(7,.p T9 x.1.2.2.2),(15,.p Bz l),(16,.p (.int .i64) (l.length:Int)),(17,.p (.int .i64) (x.1.1:Int))],Hz h x.1.2.1⟩) (λx=>l.length-x.1.1) ⟨(0,s,(b.length:Int),⟨#[76,73,83,84]⟩),DO _,rfl,by simpa using u,by simpa using C,by simp,by simp only[u];omega⟩ (AC [(1,.nm 1),(2,.nm 2)] rfl rfl ?_ ?_) (λx=>?_)
 .first|exact eN|refine eM ?_
 .first|exact eN|refine eM ?_
 obtain⟨⟨i,Z⟩,hi,k,v,f,g,w⟩:=x;simp only at hi k v f g w;have r:=λq:i<l.length=>A24 (EW h) l 0 Z q;simp only[Hz];repeat'(first|exact trivial|apply eS rfl|apply AB|refine rX a ?_ ?_|refine rC ?_ ?_<;>intro c<;>try(cases c;done))
 .exact c
 .have t:i<l.length:=by omega
  have r:=r t;have e:=A25 (h:=h) v f ⟨g,w⟩ (l.getD i 0);have D:=Oe h Z.1 ⟨#[99,111,110,115]⟩;have d:=A58 (h:=h) f ⟨#[99,111,110,115]⟩;refine cP 1 a ?_ ?_
  .trivial
  refine rM a (Gj h Z.1 O1 ⟨#[99,111,110,115]⟩) [(1,.nm 1),(2,.nm 2)] [2] ?_ ?_ ?_
  .first|exact eN|refine eM ?_
  .first|exact eN|refine eM ?_
  rintro _ _ ⟨rfl,rfl⟩;refine⟨[(1,.nm 1),(2,.nm 2)],.p T3 (Z.1.length:Int),Hz h (Ix h Z.1 ⟨#[99,111,110,115]⟩),rfl,rfl,?_,?_,rfl,rfl,?_⟩
  .first|exact eN|refine eM ?_
  .first|exact eN|refine eM ?_
  simp only[Hz];refine rL a ?_ ?_
  .trivial
  repeat'(first|exact trivial|apply eS rfl|apply AB|refine rX a ?_ ?_|refine rC ?_ ?_<;>intro c<;>try(cases c;done))
  have m:=iJ d Z.2.1;have A:=aW (Ix h Z.1 ⟨#[99,111,110,115]⟩) Z.2.1 (A8 h Z.2.2) (Z.1.length:Int);have j:=A59 d Z.2.1 (A8 h Z.2.2) (Z.1.length:Int);have o:=iJ j (Z.1.length:Int);refine cP 4 a ?_ ?_
  .trivial
  refine rM a (Ef h (Ix h Z.1 ⟨#[99,111,110,115]⟩) O1 g O1 (iF m O1) Z.2.2 (Z.1.length:Int)) [(1,.nm 1),(2,.nm 2)] [2] ?_ ?_ ?_
  .first|exact eN|refine eM ?_
  .first|exact eN|refine eM ?_
  rintro _ _ ⟨rfl,rfl⟩;refine⟨[(1,.nm 1),(2,.nm 2)],.raw (.tuple #[]),Hz h (Dx (Ix h Z.1 ⟨#[99,111,110,115]⟩) Z.2.1 (A8 h Z.2.2) (Z.1.length:Int)),rfl,rfl,?_,?_,rfl,rfl,?_⟩
  .first|exact eN|refine eM ?_
  .first|exact eN|refine eM ?_
  simp only[Hz];refine rL a ?_ ?_
  .trivial
  repeat'(first|exact trivial|apply eS rfl|apply AB|refine rX a ?_ ?_|refine rC ?_ ?_<;>intro c<;>try(cases c;done))
  refine cP 3 a ?_ ?_
  .trivial
  refine rM a (Ef h (Dx (Ix h Z.1 ⟨#[99,111,110,115]⟩) Z.2.1 (A8 h Z.2.2) (Z.1.length:Int)) O1 (n:=(Z.1.length:Int)) O1 O1 (iF o O1) ⟨#[70,73,82,83,84]⟩ (l.getD i 0)) [(1,.nm 1),(2,.nm 2)] [2] ?_ ?_ ?_
  .first|exact eN|refine eM ?_
  .first|exact eN|refine eM ?_
  rintro _ _ ⟨rfl,rfl⟩;refine⟨[(1,.nm 1),(2,.nm 2)],.raw (.tuple #[]),Hz h (Dx (Dx (Ix h Z.1 ⟨#[99,111,110,115]⟩) Z.2.1 (A8 h Z.2.2) (Z.1.length:Int)) (Z.1.length:Int) (A8 h ⟨#[70,73,82,83,84]⟩) (l.getD i 0)),rfl,rfl,?_,?_,rfl,rfl,?_⟩
  .first|exact eN|refine eM ?_
  .first|exact eN|refine eM ?_
  simp only[Hz];refine rL a ?_ ?_
  .trivial
  repeat'(first|exact trivial|apply eS rfl|apply AB|refine rX a ?_ ?_|refine rC ?_ ?_<;>intro c<;>try(cases c;done))
  .exact eV
  refine⟨⟨(i+1,EW h Z (l.getD i 0)),t,by rw[<-k,r],by simp only;rw[e.1];omega,by have:=e.2.1;rw[show K+2*i+2=K+2*(i+1) by omega]at this;exact this,e.2.2.1,e.2.2.2⟩,by simp only;omega,AC [(1,.nm 1),(2,.nm 2)] rfl rfl ?_ ?_⟩
  .simp only[EW];first|exact eN|refine eM ?_
  simp only[EW];first|exact eN|refine eM ?_
 have H:i=l.length:=by omega
 have z:iK h b l=rB h (b.length:Int) Z:=by rw[B,<-k,If O1];rfl
 have D:=Oe h Z.1 ⟨#[108,105,115,116]⟩;have d:=A58 (h:=h) f ⟨#[108,105,115,116]⟩;refine cP 1 a ?_ ?_
 .trivial
 refine rM a (Gj h Z.1 O1 ⟨#[108,105,115,116]⟩) [(1,.nm 1),(2,.nm 2)] [2] ?_ ?_ ?_
 .first|exact eN|refine eM ?_
 .first|exact eN|refine eM ?_
 rintro _ _ ⟨rfl,rfl⟩;refine⟨[(1,.nm 1),(2,.nm 2)],.p T3 (Z.1.length:Int),Hz h (Ix h Z.1 ⟨#[108,105,115,116]⟩),rfl,rfl,?_,?_,rfl,rfl,?_⟩
 .first|exact eN|refine eM ?_
 .first|exact eN|refine eM ?_
 simp only[Hz];refine rL a ?_ ?_
 .trivial
 repeat'(first|exact trivial|apply eS rfl|apply AB|refine rX a ?_ ?_|refine rC ?_ ?_<;>intro c<;>try(cases c;done))
 have m:=iJ d Z.2.1;have A:=aW (Ix h Z.1 ⟨#[108,105,115,116]⟩) Z.2.1 (A8 h Z.2.2) (Z.1.length:Int);have j:=A59 d Z.2.1 (A8 h Z.2.2) (Z.1.length:Int);have o:=iJ j (b.length:Int);refine cP 4 a ?_ ?_
 .trivial
 refine rM a (Ef h (Ix h Z.1 ⟨#[108,105,115,116]⟩) O1 g O1 (iF m O1) Z.2.2 (Z.1.length:Int)) [(1,.nm 1),(2,.nm 2)] [2] ?_ ?_ ?_
 .first|exact eN|refine eM ?_
 .first|exact eN|refine eM ?_
 rintro _ _ ⟨rfl,rfl⟩;refine⟨[(1,.nm 1),(2,.nm 2)],.raw (.tuple #[]),Hz h (Dx (Ix h Z.1 ⟨#[108,105,115,116]⟩) Z.2.1 (A8 h Z.2.2) (Z.1.length:Int)),rfl,rfl,?_,?_,rfl,rfl,?_⟩
 .first|exact eN|refine eM ?_
 .first|exact eN|refine eM ?_
 simp only[Hz];refine rL a ?_ ?_
 .trivial
 repeat'(first|exact trivial|apply eS rfl|apply AB|refine rX a ?_ ?_|refine rC ?_ ?_<;>intro c<;>try(cases c;done))
 refine cP 3 a ?_ ?_
 .trivial
 refine rM a (Ef h (Dx (Ix h Z.1 ⟨#[108,105,115,116]⟩) Z.2.1 (A8 h Z.2.2) (Z.1.length:Int)) O1 (n:=(b.length:Int)) O1 O1 (iF o O1) ⟨#[76,65,83,84]⟩ (Z.1.length:Int)) [(1,.nm 1),(2,.nm 2)] [2] ?_ ?_ ?_
 .first|exact eN|refine eM ?_
 .first|exact eN|refine eM ?_
 rintro _ _ ⟨rfl,rfl⟩;refine⟨[(1,.nm 1),(2,.nm 2)],.raw (.tuple #[]),Hz h (Dx (Dx (Ix h Z.1 ⟨#[108,105,115,116]⟩) Z.2.1 (A8 h Z.2.2) (Z.1.length:Int)) (b.length:Int) (A8 h ⟨#[76,65,83,84]⟩) (Z.1.length:Int)),rfl,rfl,?_,?_,rfl,rfl,?_⟩
 .first|exact eN|refine eM ?_
 .first|exact eN|refine eM ?_
 simp only[Hz];refine rL a ?_ ?_
 .trivial
 repeat'(first|exact trivial|apply eS rfl|apply AB|refine rX a ?_ ?_|refine rC ?_ ?_<;>intro c<;>try(cases c;done))
 rw[z];exact fM a [.tmp 4] (.p T3 (b.length:Int)) eT ⟨rfl,rfl⟩
end
section
attribute [local go_sem] P1 JW NQ Kj KD Mj JJ IJ M5
def Og (h:AF):List Sj->Bool
 | []=>false
 | a :: l=>if A8 h a.1<0 then true else Og h l
def DQ (h:AF):List G8->Int
 | []=>0
 | e :: l=>if Ad h e.1<0 then 5 else if Ae h (Ad h ⟨#[114,101,108]⟩) (Ad h e.1)=false then 13 else if Og h e.2.2=true then 5 else DQ h l
theorem Ym (h:AF) (l:List Sj) {k:Nat} (q:k<l.length):Og h (l.drop k)=if A8 h (l.getD k (ByteArray.empty,0)).1<0 then true else Og h (l.drop (k+1)):=by
 rw[ON q,AS,AT q];rfl
theorem Yn (h:AF) (l:List G8) {k:Nat} (q:k<l.length):DQ h (l.drop k)=if Ad h (l.getD k (ByteArray.empty,0,[])).1<0 then 5 else if Ae h (Ad h ⟨#[114,101,108]⟩) (Ad h (l.getD k (ByteArray.empty,0,[])).1)=false then 13 else if Og h (l.getD k (ByteArray.empty,0,[])).2.2=true then 5 else DQ h (l.drop (k+1)):=by
 rw[ON q,AS,AT q];rfl
def aX:AW:={ ins:=[FY,ZY],pre:=λ(h,m,_)=>m8 h/\M6 m,out:=λ(h,m,_)=>[.p C0 (DQ h (m:Bj).2.2.2.1)],lend:=true }
theorem v7:AY Tryz.prog 45 aX:=by
 refine fK [0,1,2,3,4,6,7,9,11,12,13,14,22,28,30,31,32,33,40] Tryz.func45 Tryz.ntmps45 (AE P2 (AE Vl (AE Mn AH))) ?_;rintro w0 O0 ⟨h,m,u⟩ j-⟨hs,t⟩;have hs:m8 h:=hs;have t:M6 m:=t;have o:(h.1,h.2)=h:=rfl;obtain⟨w,x,v,y⟩:=t;obtain⟨a,b,C,c,qs⟩:=m;simp only at w x v y;simp only[aX,AK];repeat'(first|exact trivial|apply eS rfl|apply AB|refine rX j ?_ ?_|refine rC ?_ ?_<;>intro d<;>try(cases d;done))
 refine AI (ι:={i:Nat//i<=c.length/\DQ h (c.drop i)=DQ h c}) (λi=>⟨[(2,.bp 2 [] 0),(11,.p JC c),(12,.p (.int .i64) (c.length:Int)),(13,.p (.int .i64) (i.1:Int))],[(2,.box 26 true [.p M4 h.1,.p N3 h.2])]⟩) (λi=>c.length-i.1) ⟨0,DO _,rfl⟩ (AC [(2,.nm 2)] rfl rfl ?_ ?_) (λi=>?_)
 .first|exact eN|refine eM ?_
 .first|exact eN|refine eM ?_
 obtain⟨i,hi,l⟩:=i;have g:=λq:i<c.length=>Yn h c q;simp only;repeat'(first|exact trivial|apply eS rfl|apply AB|refine rX j ?_ ?_|refine rC ?_ ?_<;>intro d<;>try(cases d;done))
 all_goals have o:(h.1,h.2)=h:=rfl
 all_goals try simp only[o]at *
 .exact d
 .have e:DQ h c=5:=by rw[<-l,g O1,At d]
  exact fI j [.tmp 4] (by rw[e];exact eR)
 .exact⟨⟨hs.2.1,Fi h _⟩,d,Fi h _⟩
 .rename_i z A;have e:DQ h c=13:=by rw[<-l,g O1,As O1,At d]
  exact fI j [.tmp 4] (by rw[e];exact eR)
 .rename_i z A;have g:=g O1;rw[As O1,As (by rw[d];simp)]at g;have B:(c.getD i (ByteArray.empty,0,[])).2.2.length<=100000:=v _ (AG c (ByteArray.empty,0,[]) O1);generalize (c.getD i (ByteArray.empty,0,[])).2.2=f at *;refine AI (ι:={k:Nat//k<=f.length/\Og h (f.drop k)=Og h f}) (λk=>⟨[(2,.bp 2 [] 0),(11,.p JC c),(12,.p (.int .i64) (c.length:Int)),(13,.p (.int .i64) (i:Int)),(30,.p T52 f),(31,.p (.int .i64) (f.length:Int)),(32,.p (.int .i64) (k.1:Int))],[(2,.box 26 true [.p M4 h.1,.p N3 h.2])]⟩) (λk=>f.length-k.1) ⟨0,DO _,rfl⟩ (AC [(2,.nm 2)] rfl rfl ?_ ?_) (λk=>?_)
  .first|exact eN|refine eM ?_
  .first|exact eN|refine eM ?_
  obtain⟨k,hk,s⟩:=k;have n:=λq:k<f.length=>Ym h f q;simp only;repeat'(first|exact trivial|apply eS rfl|apply AB|refine rX j ?_ ?_|refine rC ?_ ?_<;>intro d<;>try(cases d;done))
  all_goals have o:(h.1,h.2)=h:=rfl
  all_goals try simp only[o]at *
  .exact d
  .have r:Og h f=true:=by rw[<-s,n O1,At d]
   have e:DQ h c=5:=by rw[<-l,g,At r]
   exact fI j [.tmp 4] (by rw[e];exact eR)
  .exact eV
  .have n:=n O1;rw[As O1]at n;refine⟨⟨k+1,by omega,by rw[<-s,n]⟩,by simp only;omega,AC [(2,.nm 2)] rfl rfl ?_ ?_⟩
   .first|exact eN|refine eM ?_
   first|exact eN|refine eM ?_
  .exact eV
  have r:Og h f=false:=by rw[<-s,If O1];rfl
  rw[As (by rw[r];simp)]at g;refine⟨⟨i+1,by omega,by rw[<-l,g]⟩,by simp only;omega,AC [(2,.nm 2)] rfl rfl ?_ ?_⟩
  .first|exact eN|refine eM ?_
  first|exact eN|refine eM ?_
 have e:DQ h c=0:=by rw[<-l,If (AAc.1 d)];rfl
 exact fI j [.tmp 4] (by rw[e];exact eR)
end
section
attribute [local go_sem] NW JW hJ Kj KD Mj JJ IJ M5
def aY:AW:={ ins:=[FY,T9,T3],pre:=λ_=>True,out:=λ(h,s,m,_)=>[.p C9 (A8 h s,m)] }
theorem iM:AY Tryz.prog 54 aY:=by
 refine fK [0,1,2,3,6] Tryz.func54 Tryz.ntmps54 (AE A19 AH) ?_;rintro w0 O0 ⟨h,s,m,u⟩ a - -;have c:(h.1,h.2)=h:=rfl;simp only[aY,AK];repeat'(first|exact trivial|apply eS rfl|apply AB|refine rX a ?_ ?_|refine rC ?_ ?_<;>intro b<;>try(cases b;done))
 all_goals try simp only[c]at *
 exact fI a [.cell 6 59]
def MM (h:AF) (v:ByteArray):Int:=if AM v ⟨#[104]⟩=true then Ad h ⟨#[104,97,110,100,108,101]⟩ else if AM v ⟨#[101]⟩=true then Ad h ⟨#[101,118,101,110,116]⟩ else if AM v ⟨#[120]⟩=true then Ad h ⟨#[101,110,116,105,116,121]⟩ else Ad h ⟨#[105,110,100,101,120]⟩
def aZ:AW:={ ins:=[FY,T9],pre:=λ_=>True,out:=λ(h,v,_)=>[.p T3 (MM h v)] }
theorem v8:AY Tryz.prog 56 aZ:=by
 refine fK [0,1,2,4,5,6,10,14] Tryz.func56 Tryz.ntmps56 (AE Mr AH) ?_;rintro w0 O0 ⟨h,v,u⟩ b - -;have f:(h.1,h.2)=h:=rfl;simp only[aZ,AK];repeat'(first|exact trivial|apply eS rfl|apply AB|refine rX b ?_ ?_|refine rC ?_ ?_<;>intro a<;>try(cases a;done))
 all_goals try simp only[f]at *
 .have e:MM h v=Ad h ⟨#[104,97,110,100,108,101]⟩:=At a;exact fI b [.tmp 4] (by rw[e];exact eR)
 .rename_i c;have e:MM h v=Ad h ⟨#[101,118,101,110,116]⟩:=(As (by rw[c];simp)).trans (At a);exact fI b [.tmp 4] (by rw[e];exact eR)
 .rename_i c d;have e:MM h v=Ad h ⟨#[101,110,116,105,116,121]⟩:=(As (by rw[c];simp)).trans ((As (by rw[d];simp)).trans (At a));exact fI b [.tmp 4] (by rw[e];exact eR)
 rename_i c d;have e:MM h v=Ad h ⟨#[105,110,100,101,120]⟩:=(As (by rw[c];simp)).trans ((As (by rw[d];simp)).trans (As (by rw[a];simp)));exact fI b [.tmp 4] (by rw[e];exact eR)
def a9:AW:={ ins:=[FL,Sf],pre:=λ(f,_,_)=>List.length f<=100000,out:=λ(f,x,_)=>[.p FL ((f:List AD)++[(x:AD)])] }
theorem iO:AY Tryz.prog 55 a9:=by
 refine fKP [0,1,2,3,4,5,6,12] [22,28] [] Tryz.func55 Tryz.ntmps55 AH ?_;rintro w0 O0 ⟨f,x,u⟩ a-hf;have hf:f.length<=100000:=hf;simp only[a9,AK];repeat'(first|exact trivial|apply eS rfl|apply AB|refine rX a ?_ ?_|refine rC ?_ ?_<;>intro b<;>try(cases b;done))
 refine AI (ι:={i:Nat//i<=f.length}) (λi=>⟨[(2,.bp 2 [] 0),(3,.bp 3 [] 0),(4,.bp 4 [] 0),(5,.bp 5 [] 0),(6,.p (.int .i64) (i.1:Int))],[(5,.box 34 true [.sr 23 Sf 0 (f.take i.1).length]),(23,.arr 57 Sf (f.take i.1)),(4,.box 34 true [.raw (.slice none 0 0)]),(3,.box 57 true [.p T3 x.1,.p K2 x.2]),(2,.box 34 true [.p HJ f])]⟩) (λi=>f.length-i.1) ⟨0,DO _⟩ (AC [(2,.nm 2),(3,.nm 3),(4,.nm 4),(5,.nm 5),(23,.nil)] rfl rfl ?_ ?_) (λi=>?_)
 .first|exact eN|refine eM ?_
 .first|exact eN|refine eM ?_
 obtain⟨i,hi⟩:=i;have g:(f.take i).length=i:=by rw[Of];omega
 simp only;repeat'(first|exact trivial|apply eS rfl|apply AB|refine rP a ?_ ?_|fail)
 refine rC ?_ ?_<;>intro b
 .have c:i<f.length:=by exact eV
  repeat'(first|exact trivial|apply eS rfl|apply AB|refine rP a ?_ ?_|fail)
  refine J5 drawsAny a 9 [([0,1,2,3,4,5,6,7],8)] [] (by kernel_rfl) (mxA ?_ ?_)
  .exact b
  refine mxL a [23] ?_ ?_
  .simp only[AO];omega
  refine mxE a ?_ ?_ ?_
  .trivial
  .trivial
  repeat'(first|exact trivial|apply eS rfl|apply AB|refine rX a ?_ ?_|refine rC ?_ ?_<;>intro b<;>try(cases b;done))
  .exact eV
  have e:f.take (i+1)=f.take i++[f.getD i (0,[])]:=by rw[ACe,AT c,AS,AT c];rfl
  refine⟨⟨i+1,c⟩,by simp only;omega,AC [(2,.nm 2),(3,.nm 3),(4,.nm 4),(5,.nm 5),(23,.nm 23)] rfl rfl ?_ ?_⟩
  .simp only[e];first|exact eN|refine eM ?_
  first|exact eN|refine eM ?_
 repeat'(first|exact trivial|apply eS rfl|apply AB|refine rX a ?_ ?_|refine rC ?_ ?_<;>intro b<;>try(cases b;done))
 .simp only[AO];omega
 have d:f.take i=f:=BY (AAc.1 b);rw[d];refine CK [23] ?_;exact fI a [.cell 4 34] (by first|exact eR|refine Je ?_;rfl)
end
section
attribute [local go_sem] NW JW aY a9 Kj KD Mj JJ IJ M5
def chS (h:AF) (x:Int) (st:List AD×Int):List AD×Int:=(st.1++[(Ad h ⟨#[99,111,110,115]⟩,[(A8 h ⟨#[70,73,82,83,84]⟩,x),(A8 h ⟨#[82,69,83,84]⟩,st.2)])],(st.1.length:Int))
def nC (h:AF) (f:List AD) (l:List Int):List AD×Int:=l.foldr (chS h) (f++[(Ad h ⟨#[108,105,115,116]⟩,[])],(f.length:Int))
def H0 (h:AF) (f:List AD) (l:List Int):List AD×Int :=
 ((nC h f l).1++[(Ad h ⟨#[100,108,105,115,116]⟩,[(A8 h ⟨#[76,73,83,84]⟩,(nC h f l).2),(A8 h ⟨#[76,65,83,84]⟩,(f.length:Int))])],((nC h f l).1.length:Int))
def WY:AW:={ ins:=[FY,FL,Bz],pre:=λ(_,f,l,_)=>List.length f<=10000/\List.length l<=10000,out:=λ(h,f,l,_)=>[.p FL (H0 h f l).1,.p T3 (H0 h f l).2] }
theorem v9 {α β:Type} (g:α->β->β) (l:List α) (d:α) (b:β) {k:Nat} (h:k<l.length):(l.take (k+1)).foldr g b=(l.take k).foldr g (g (l.getD k d) b):=by
 rw[ACe,AT h,List.foldr_append,AS,AT h];rfl
theorem nD:AY Tryz.prog 57 WY:=by
 refine fKP [0,1,2,3,4,6,7,8,9,10,11,12,26] [40,48,65,73] [] Tryz.func57 Tryz.ntmps57 (AE Mr (AE iM (AE iO AH))) ?_;rintro w0 O0 ⟨h,f,l,u⟩ a-⟨hf,g⟩;have hf:f.length<=10000:=hf;have g:l.length<=10000:=g;have c:(h.1,h.2)=h:=rfl;simp only[WY,AK];repeat'(first|exact trivial|apply eS rfl|apply AB|refine rX a ?_ ?_|refine rC ?_ ?_<;>intro b<;>try(cases b;done))
 .omega
 .omega
 simp only[c];refine AI (ι:={x:Nat×List AD×Int//x.1<=l.length/\(l.take x.1).foldr (chS h) x.2=nC h f l/\x.2.1.length+x.1=f.length+1+l.length}) (λx=>⟨[(2,.p Bz l),(3,.bp 3 [] 0),(4,.bp 4 [] 0),(6,.bp 6 [] 0),(8,.p T3 (f.length:Int)),(9,.p T3 x.1.2.2),(10,.p (.int .i64) ((x.1.1:Int)-1))],[(4,.box 34 true [.p HJ x.1.2.1]),(6,.box 34 true [.raw (.slice none 0 0)]),(3,.box 26 true [.p M4 h.1,.p N3 h.2])]⟩) (λx=>x.1.1) ⟨(l.length,f++[(Ad h ⟨#[108,105,115,116]⟩,[])],(f.length:Int)),OS _,by rw[tO];rfl,by simp⟩ (AC [(3,.nm 3),(4,.nm 4),(6,.nm 6)] rfl rfl ?_ ?_) (λx=>?_)
 .first|exact eN|refine eM ?_
 .first|exact eN|refine eM ?_
 obtain⟨⟨i,Z⟩,hi,d,q⟩:=x;simp only at hi d q;simp only;repeat'(first|exact trivial|apply eS rfl|apply AB|refine rX a ?_ ?_|refine rC ?_ ?_<;>intro b<;>try(cases b;done))
 .dsimp only[Ty.den]at *;exact⟨⟨b,by omega⟩,by decide⟩
 .decide
 .refine CK [41] ?_;simp only[c];repeat'(first|exact trivial|apply eS rfl|apply AB|refine rX a ?_ ?_|refine rC ?_ ?_<;>intro b<;>try(cases b;done))
  .omega
  .omega
  obtain⟨j,rfl⟩:∃j,i=j+1:=⟨i-1,by omega⟩;have n:j<l.length:=by omega
  have o:=v9 (chS h) l 0 Z n;have k:(((j+1:Nat):Int)-1).toNat=j:=by omega
  have m:((j+1:Nat):Int)-1=(j:Int):=by omega
  rw[k,m];refine⟨⟨(j,chS h (l.getD j 0) Z),by omega,by rw[<-o];exact d,by simp only[chS,Do,i5];omega⟩,by simp only;omega,AC [(3,.nm 3),(4,.nm 4),(6,.nm 6)] rfl rfl ?_ ?_⟩
  .simp only[chS];first|exact eN|refine eM ?_
  simp only[chS];first|exact eN|refine eM ?_
 .decide
 .decide
 refine CK [66] ?_;simp only[c];repeat'(first|exact trivial|apply eS rfl|apply AB|refine rP a ?_ ?_|fail)
 refine J5 drawsAny a 7 [([0,1,2],6)] [3,4,5] (by kernel_rfl) (mxA ?_ ?_)
 .omega
 refine mxL a [] ?_ ?_
 .trivial
 refine mxE a ?_ ?_ ?_
 .trivial
 .trivial
 repeat'(first|exact trivial|apply eS rfl|apply AB|refine rX a ?_ ?_|refine rC ?_ ?_<;>intro b<;>try(cases b;done))
 have s:i=0:=by omega
 subst s;have r:Z=nC h f l:=d;have e:H0 h f l=(Z.1++[(Ad h ⟨#[100,108,105,115,116]⟩,[(A8 h ⟨#[76,73,83,84]⟩,Z.2),(A8 h ⟨#[76,65,83,84]⟩,(f.length:Int))])],(Z.1.length:Int)):=by unfold H0;rw[<-r]
 exact fI a [.cell 6 34,.tmp 7] (by rw[e];first|exact eR|refine Je ?_;rfl)
end
section
attribute [local go_sem] NW JW hJ Kj KD Mj JJ IJ M5
theorem iP (hs:m8 h) (t:Int):Oc h ⟨#[114,101,108]⟩ t=Ae h (Ad h ⟨#[114,101,108]⟩) t:=by
 unfold Oc;rw[AAZ hs.2.1,AC7]
def bA:AW:={ ins:=[FY,ZY],pre:=λ(h,m,_)=>m8 h/\GL h/\M6 m,out:=λ(h,m,_)=>[.p C0 (DQ h (m:Bj).2.2.2.1)],lend:=true }
theorem wA:AY Tryz.prog 53 bA:=by
 refine fK [0,1,2,3,4,5,6,7,12,24,28,37,52] Tryz.func53 Tryz.ntmps53 (AE Mr (AE A19 (AE A7M AH))) ?_;rintro w0 O0 ⟨h,m,u⟩ g-⟨hs,hk,t⟩;have hs:m8 h:=hs;have hk:GL h:=hk;have t:M6 m:=t;have n:(h.1,h.2)=h:=rfl;obtain⟨z,A,v,B⟩:=t;obtain⟨a,b,y,c,qs⟩:=m;simp only at z A v B;simp only[bA,AK];repeat'(first|exact trivial|apply eS rfl|apply AB|refine rX g ?_ ?_|refine rC ?_ ?_<;>intro d<;>try(cases d;done))
 refine AI (ι:={i:Nat//i<=c.length/\DQ h (c.drop i)=DQ h c}) (λi=>⟨[(2,.bp 2 [] 0),(3,.bp 3 [] 0),(5,.p (.int .i64) (i.1:Int))],[(3,.box 41 true [.p T3 a,.p T3 b,.p CL y,.p JC c,.p Kh qs]),(2,.box 26 true [.p M4 h.1,.p N3 h.2])]⟩) (λi=>c.length-i.1) ⟨0,DO _,rfl⟩ (AC [(2,.nm 2),(3,.nm 3)] rfl rfl ?_ ?_) (λi=>?_)
 .first|exact eN|refine eM ?_
 .first|exact eN|refine eM ?_
 obtain⟨i,hi,j⟩:=i;have f:=λq:i<c.length=>Yn h c q;simp only;repeat'(first|exact trivial|apply eS rfl|apply AB|refine rX g ?_ ?_|refine rC ?_ ?_<;>intro d<;>try(cases d;done))
 all_goals have n:(h.1,h.2)=h:=rfl
 all_goals try simp only[n]at *
 .exact d
 .have e:DQ h c=5:=by rw[<-j,f O1,At d]
  exact fI g [.tmp 4] (by rw[e];exact eR)
 .exact⟨hk,d,Fi h _⟩
 .rename_i w x;rw[iP hs]at d;have e:DQ h c=13:=by rw[<-j,f O1,As O1,At d]
  exact fI g [.tmp 4] (by rw[e];exact eR)
 .rename_i w x;rw[iP hs]at d;have s:i<c.length:=by omega
  have f:=f s;rw[As O1,As (by rw[d];simp)]at f;have D:(c.getD i (ByteArray.empty,0,[])).2.2.length<=100000:=v _ (AG c (ByteArray.empty,0,[]) s);clear d x w;refine AI (ι:={k:Nat//k<=(c.getD i (ByteArray.empty,0,[])).2.2.length/\Og h ((c.getD i (ByteArray.empty,0,[])).2.2.drop k)=Og h (c.getD i (ByteArray.empty,0,[])).2.2}) (λk=>⟨[(2,.bp 2 [] 0),(3,.bp 3 [] 0),(5,.p (.int .i64) (i:Int)),(7,.p (.int .i64) (k.1:Int))],[(3,.box 41 true [.p T3 a,.p T3 b,.p CL y,.p JC c,.p Kh qs]),(2,.box 26 true [.p M4 h.1,.p N3 h.2])]⟩) (λk=>(c.getD i (ByteArray.empty,0,[])).2.2.length-k.1) ⟨0,DO _,rfl⟩ (AC [(2,.nm 2),(3,.nm 3)] rfl rfl ?_ ?_) (λk=>?_)
  .first|exact eN|refine eM ?_
  .first|exact eN|refine eM ?_
  obtain⟨k,C,r⟩:=k;have l:=λq:k<(c.getD i (ByteArray.empty,0,[])).2.2.length=>Ym h (c.getD i (ByteArray.empty,0,[])).2.2 q;simp only;repeat'(first|exact trivial|apply eS rfl|apply AB|refine rX g ?_ ?_|refine rC ?_ ?_<;>intro d<;>try(cases d;done))
  all_goals have n:(h.1,h.2)=h:=rfl
  all_goals try simp only[n]at *
  .assumption
  .exact⟨On.2 s,d⟩
  .have o:Og h (c.getD i (ByteArray.empty,0,[])).2.2=true:=by rw[<-r,l O1,At d]
   have e:DQ h c=5:=by rw[<-j,f,At o]
   exact fI g [.tmp 4] (by rw[e];exact eR)
  .exact eV
  .have l:=l O1;rw[As O1]at l;refine⟨⟨k+1,by omega,by rw[<-r,l]⟩,by simp only;omega,AC [(2,.nm 2),(3,.nm 3)] rfl rfl ?_ ?_⟩
   .first|exact eN|refine eM ?_
   first|exact eN|refine eM ?_
  .exact eV
  have o:Og h (c.getD i (ByteArray.empty,0,[])).2.2=false:=by rw[<-r,If (AAc.1 d)];rfl
  rw[As (by rw[o];simp)]at f;refine⟨⟨i+1,by omega,by rw[<-j,f]⟩,by simp only;omega,AC [(2,.nm 2),(3,.nm 3)] rfl rfl ?_ ?_⟩
  .first|exact eN|refine eM ?_
  first|exact eN|refine eM ?_
 have e:DQ h c=0:=by rw[<-j,If (AAc.1 d)];rfl
 exact fI g [.tmp 4] (by rw[e];exact eR)
end
section
attribute [local go_sem] KD IJ
def Iw (m:Bj) (n:Int):Bool:=!decide ((n<(m.2.2.2.1.length:Int)\/n<(m.2.2.2.2.length:Int))\/300<(m.2.2.1.length:Int))&&BC (λi=>if 10<((m.2.2.2.1.getD i (ByteArray.empty,0,[])).2.2.length:Int) then some false else none) true m.2.2.2.1.length 0
def QK:AW:={ ins:=[ZY,T3],pre:=λ_=>True,out:=λ(m,n,_)=>[.p .bool (Iw m n)] }
theorem nE:AY Tryz.prog 44 QK:=by
 refine fK [0,1,2,4,5,23,28,38] Tryz.func44 Tryz.ntmps44 AH ?_;rintro w0 O0 ⟨⟨tp,ix,f,a,cs⟩,n,u⟩ c ⟨⟨-,-,-,⟨h,-⟩,-⟩,-⟩ -;simp only[AO]at h;simp only[QK,AK];repeat'(first|exact trivial|apply eS rfl|apply AB|refine rX c ?_ ?_|refine rC ?_ ?_<;>intro b<;>try(cases b;done))
 .have e:Iw (tp,ix,f,a,cs) n=false:=by
   unfold Iw;rw[AAZ (by simpa using b)];rfl
  exact fI c [.tmp 4] (by rw[e];exact eR)
 have e:Iw (tp,ix,f,a,cs) n=BC (λi=>if 10<((a.getD i (ByteArray.empty,0,[])).2.2.length:Int) then some false else none) true a.length 0:=by
  unfold Iw;rw[AC3 (by simp only[not_or,AAW];exact b)];rfl
 rw[e];generalize g:BC (λi=>if 10<((a.getD i (ByteArray.empty,0,[])).2.2.length:Int) then some false else none) true a.length 0=S;refine AI (ι:={i:Nat//i<=a.length/\BC (λi=>if 10<((a.getD i (ByteArray.empty,0,[])).2.2.length:Int) then some false else none) true (a.length-i) i=S}) (λi=>⟨[(2,.bp 2 [] 0),(5,.p (.int .i64) (i.1:Int))],[(2,.box 41 true [.p T3 tp,.p T3 ix,.p CL f,.p JC a,.p Kh cs])]⟩) (λi=>a.length-i.1) ⟨0,DO _,g⟩ (AC [(2,.nm 2)] rfl rfl ?_ ?_) (λi=>?_)
 .first|exact eN|refine eM ?_
 .first|exact eN|refine eM ?_
 obtain⟨i,hi,d⟩:=i;simp only;repeat'(first|exact trivial|apply eS rfl|apply AB|refine rX c ?_ ?_|refine rC ?_ ?_<;>intro b<;>try(cases b;done))
 .exact b
 .rw[CW d (by exact eV) (At b)];exact fI c [.tmp 4]
 .omega
 .refine⟨⟨i+1,by exact eV,DA d (by exact eV) (As (AAW.2 b))⟩,by simp only;omega,AC [(2,.nm 2)] rfl rfl ?_ ?_⟩
  .first|exact eN|refine eM ?_
  first|exact eN|refine eM ?_
 rw[Dv d (by exact eV)];exact fI c [.tmp 4]
def eqV (a b:List ByteArray) (i:Nat):Option Bool:=if AM (a.getD i ByteArray.empty) (b.getD i ByteArray.empty)=true then none else some false
def eqA (a b:List Sj) (i:Nat):Option Bool:=if (AM (a.getD i (ByteArray.empty,0)).1 (b.getD i (ByteArray.empty,0)).1&&(a.getD i (ByteArray.empty,0)).2==(b.getD i (ByteArray.empty,0)).2)=true then none else some false
def wB (x y:G8):Bool:=AM x.1 y.1&&x.2.1==y.2.1&&decide ((x.2.2.length:Int)=(y.2.2.length:Int))&&BC (eqA x.2.2 y.2.2) true x.2.2.length 0
def eqR (a b:List G8) (i:Nat):Option Bool:=if wB (a.getD i (ByteArray.empty,0,[])) (b.getD i (ByteArray.empty,0,[]))=true then none else some false
def eqQ (a b:List Sk) (i:Nat):Option Bool:=if ((a.getD i (0,0)).1==(b.getD i (0,0)).1&&(a.getD i (0,0)).2==(b.getD i (0,0)).2)=true then none else some false
def wC (a b:Bj):Bool:=a.1==b.1&&a.2.1==b.2.1&&decide ((a.2.2.1.length:Int)=(b.2.2.1.length:Int))&&decide ((a.2.2.2.1.length:Int)=(b.2.2.2.1.length:Int))&&decide ((a.2.2.2.2.length:Int)=(b.2.2.2.2.length:Int))
def Yo (a b:Bj):Bool:=wC a b&&BC (eqV a.2.2.1 b.2.2.1) true a.2.2.1.length 0&&BC (eqR a.2.2.2.1 b.2.2.2.1) true a.2.2.2.1.length 0&&BC (eqQ a.2.2.2.2 b.2.2.2.2) true a.2.2.2.2.length 0
def A26:AW:={ ins:=[ZY,ZY],pre:=λ_=>True,out:=λ(a,b,_)=>[.p .bool (Yo a b)] }
theorem A5a:AY Tryz.prog 17 A26:=by
 refine fK [0,1,2,3,4,5,6,7,8,9,10,49,54,67,72,105,110,123,128,141] Tryz.func17 Tryz.ntmps17 AH ?_;rintro w0 O0 ⟨⟨tp,ix,f,a,cs⟩,⟨r,o,n,c,m⟩,u⟩ d ⟨⟨-,-,⟨N,-⟩,⟨L,M⟩,⟨K,-⟩⟩,-⟩ -;simp only[AO]at N L K;simp only[A26,AK];repeat'(first|exact trivial|apply eS rfl|apply AB|refine rX d ?_ ?_|refine rC ?_ ?_<;>intro b<;>try(cases b;done))
 .have e:Yo (tp,ix,f,a,cs) (r,o,n,c,m)=false:=by
   have q:wC (tp,ix,f,a,cs) (r,o,n,c,m)=false:=by
    cases v:wC (tp,ix,f,a,cs) (r,o,n,c,m) with
    | false=>rfl
    | true =>
     simp only[wC,An,AAb,IN]at v;obtain⟨⟨⟨⟨s,t⟩,w⟩,y⟩,z⟩:=v;rcases b with (((h|h)|h)|h)|h
     .exact absurd s h
     .exact absurd t h
     .exact absurd w h
     .exact absurd y h
     exact absurd z h
   unfold Yo;rw[q];rfl
  exact fI d [.tmp 4] (by rw[e];exact eR)
 simp only[ABN]at b;obtain⟨⟨⟨⟨s,t⟩,w⟩,y⟩,z⟩:=b;have e:Yo (tp,ix,f,a,cs) (r,o,n,c,m)=(BC (eqV f n) true f.length 0&&BC (eqR a c) true a.length 0&&BC (eqQ cs m) true cs.length 0):=by
  have q:wC (tp,ix,f,a,cs) (r,o,n,c,m)=true:=by
   simp only[wC,An,AAb,IN];exact⟨⟨⟨⟨s,t⟩,w⟩,y⟩,z⟩
  unfold Yo;rw[q];rfl
 rw[e];clear e s t;generalize D:BC (eqV f n) true f.length 0=V;generalize C:BC (eqR a c) true a.length 0=R;generalize H:BC (eqQ cs m) true cs.length 0=Q;refine AI (ι:={i:Nat//i<=f.length/\BC (eqV f n) true (f.length-i) i=V}) (λi=>⟨[(2,.bp 2 [] 0),(3,.bp 3 [] 0),(5,.p (.int .i64) (i.1:Int))],[(3,.box 41 true [.p T3 r,.p T3 o,.p CL n,.p JC c,.p Kh m]),(2,.box 41 true [.p T3 tp,.p T3 ix,.p CL f,.p JC a,.p Kh cs])]⟩) (λi=>f.length-i.1) ⟨0,DO _,D⟩ (AC [(2,.nm 2),(3,.nm 3)] rfl rfl ?_ ?_) (λi=>?_)
 .first|exact eN|refine eM ?_
 .first|exact eN|refine eM ?_
 obtain⟨i,hi,g⟩:=i;simp only;repeat'(first|exact trivial|apply eS rfl|apply AB|refine rX d ?_ ?_|refine rC ?_ ?_<;>intro b<;>try(cases b;done))
 .exact⟨b,by exact eV⟩
 .rw[CW g (by exact eV) (As (by rw[b];simp))];exact fI d [.tmp 4]
 .omega
 .refine⟨⟨i+1,by exact eV,DA g (by exact eV) (At b)⟩,by simp only;omega,AC [(2,.nm 2),(3,.nm 3)] rfl rfl ?_ ?_⟩
  .first|exact eN|refine eM ?_
  first|exact eN|refine eM ?_
 rw[Dv g (by exact eV)];clear g D;refine AI (ι:={j:Nat//j<=a.length/\BC (eqR a c) true (a.length-j) j=R}) (λj=>⟨[(2,.bp 2 [] 0),(3,.bp 3 [] 0),(6,.p (.int .i64) (j.1:Int))],[(3,.box 41 true [.p T3 r,.p T3 o,.p CL n,.p JC c,.p Kh m]),(2,.box 41 true [.p T3 tp,.p T3 ix,.p CL f,.p JC a,.p Kh cs])]⟩) (λj=>a.length-j.1) ⟨0,DO _,C⟩ (AC [(2,.nm 2),(3,.nm 3)] rfl rfl ?_ ?_) (λj=>?_)
 .first|exact eN|refine eM ?_
 .first|exact eN|refine eM ?_
 obtain⟨j,S,g⟩:=j;simp only;repeat'(first|exact trivial|apply eS rfl|apply AB|refine rX d ?_ ?_|refine rC ?_ ?_<;>intro b<;>try(cases b;done))
 .exact b
 .exact eV
 .have q:wB (a.getD j (ByteArray.empty,0,[])) (c.getD j (ByteArray.empty,0,[]))=false:=by
   cases v:wB (a.getD j (ByteArray.empty,0,[])) (c.getD j (ByteArray.empty,0,[])) with
   | false=>rfl
   | true =>
    simp only[wB,An,AAb,IN]at v;obtain⟨⟨⟨s,t⟩,w⟩,-⟩:=v;rcases b with (h|h)|h
    .rw[s]at h;cases h
    .exact absurd t h
    exact absurd w h
  rw[CW g (by exact eV) (As (by rw[q];simp))];exact fI d [.tmp 4]
 .have J:j<a.length:=by exact eV
  have I:(a.getD j (ByteArray.empty,0,[])).2.2.length<=AO:=(M _ (AG a (ByteArray.empty,0,[]) J)).2.2.1;simp only[AO]at I;obtain⟨⟨O,P⟩,B⟩:=b;have q:wB (a.getD j (ByteArray.empty,0,[])) (c.getD j (ByteArray.empty,0,[]))=BC (eqA (a.getD j (ByteArray.empty,0,[])).2.2 (c.getD j (ByteArray.empty,0,[])).2.2) true (a.getD j (ByteArray.empty,0,[])).2.2.length 0:=by
   unfold wB;rw[O,AAb.2 (ABN.1 P),AAZ (ABN.1 B)];rfl
  have B:=ABN.1 B;generalize E:BC (eqA (a.getD j (ByteArray.empty,0,[])).2.2 (c.getD j (ByteArray.empty,0,[])).2.2) true (a.getD j (ByteArray.empty,0,[])).2.2.length 0=A at q;refine AI (ι:={k:Nat//k<=(a.getD j (ByteArray.empty,0,[])).2.2.length/\BC (eqA (a.getD j (ByteArray.empty,0,[])).2.2 (c.getD j (ByteArray.empty,0,[])).2.2) true ((a.getD j (ByteArray.empty,0,[])).2.2.length-k) k=A}) (λk=>⟨[(2,.bp 2 [] 0),(3,.bp 3 [] 0),(6,.p (.int .i64) (j:Int)),(7,.bp 7 [] 0),(8,.bp 8 [] 0),(9,.p (.int .i64) (k.1:Int))],[(8,.box 54 true [.p T9 (c.getD j (ByteArray.empty,0,[])).1,.p T3 (c.getD j (ByteArray.empty,0,[])).2.1,.p T52 (c.getD j (ByteArray.empty,0,[])).2.2]),(7,.box 54 true [.p T9 (a.getD j (ByteArray.empty,0,[])).1,.p T3 (a.getD j (ByteArray.empty,0,[])).2.1,.p T52 (a.getD j (ByteArray.empty,0,[])).2.2]),(3,.box 41 true [.p T3 r,.p T3 o,.p CL n,.p JC c,.p Kh m]),(2,.box 41 true [.p T3 tp,.p T3 ix,.p CL f,.p JC a,.p Kh cs])]⟩) (λk=>(a.getD j (ByteArray.empty,0,[])).2.2.length-k.1) ⟨0,DO _,E⟩ (AC [(2,.nm 2),(3,.nm 3),(7,.nm 7),(8,.nm 8)] rfl rfl ?_ ?_) (λk=>?_)
  .first|exact eN|refine eM ?_
  .first|exact eN|refine eM ?_
  obtain⟨k,hk,x⟩:=k;simp only;repeat'(first|exact trivial|apply eS rfl|apply AB|refine rX d ?_ ?_|refine rC ?_ ?_<;>intro b<;>try(cases b;done))
  .refine cD 10 d ?_ ?_
   .exact⟨b,by exact eV⟩
   refine A8P (j:=.i64) d (by kernel_rfl) ?_;refine rL d ?_ ?_
   .trivial
   repeat'(first|exact trivial|apply eS rfl|apply AB|refine rX d ?_ ?_|refine rC ?_ ?_<;>intro b<;>try(cases b;done))
   .have F:=CW x (by exact eV) (As (by simp only[An,AAb];exact λh=>b h.1 h.2));rw[CW g (by exact eV) (As (by rw[q,F];simp))];exact fI d [.tmp 4]
   .exact eV
   refine⟨⟨k+1,by exact eV,DA x (by exact eV) (At (by simp only[An,AAb];exact b))⟩,by simp only;omega,AC [(2,.nm 2),(3,.nm 3),(7,.nm 7),(8,.nm 8)] rfl rfl ?_ ?_⟩
   .first|exact eN|refine eM ?_
   first|exact eN|refine eM ?_
  .omega
  have G:=Dv x (by exact eV);refine⟨⟨j+1,by exact eV,DA g (by exact eV) (At (q.trans G))⟩,by simp only;omega,AC [(2,.nm 2),(3,.nm 3)] rfl rfl ?_ ?_⟩
  .first|exact eN|refine eM ?_
  first|exact eN|refine eM ?_
 rw[Dv g (by exact eV)];clear g C;refine AI (ι:={l:Nat//l<=cs.length/\BC (eqQ cs m) true (cs.length-l) l=Q}) (λl=>⟨[(2,.bp 2 [] 0),(3,.bp 3 [] 0),(10,.p (.int .i64) (l.1:Int))],[(3,.box 41 true [.p T3 r,.p T3 o,.p CL n,.p JC c,.p Kh m]),(2,.box 41 true [.p T3 tp,.p T3 ix,.p CL f,.p JC a,.p Kh cs])]⟩) (λl=>cs.length-l.1) ⟨0,DO _,H⟩ (AC [(2,.nm 2),(3,.nm 3)] rfl rfl ?_ ?_) (λl=>?_)
 .first|exact eN|refine eM ?_
 .first|exact eN|refine eM ?_
 obtain⟨l,T,g⟩:=l;simp only;repeat'(first|exact trivial|apply eS rfl|apply AB|refine rX d ?_ ?_|refine rC ?_ ?_<;>intro b<;>try(cases b;done))
 .refine cD 10 d ?_ ?_
  .exact⟨b,by exact eV⟩
  refine A8Q d ?_;refine rL d ?_ ?_
  .trivial
  repeat'(first|exact trivial|apply eS rfl|apply AB|refine rX d ?_ ?_|refine rC ?_ ?_<;>intro b<;>try(cases b;done))
  .rw[CW g (by exact eV) (As (by simp only[An,AAb];exact λh=>b h.1 h.2))];exact fI d [.tmp 4]
  .omega
  refine⟨⟨l+1,by exact eV,DA g (by exact eV) (At (by simp only[An,AAb];exact b))⟩,by simp only;omega,AC [(2,.nm 2),(3,.nm 3)] rfl rfl ?_ ?_⟩
  .first|exact eN|refine eM ?_
  first|exact eN|refine eM ?_
 rw[Dv g (by exact eV)];exact fI d [.tmp 4]
end
section
attribute [local go_sem] QK Qy Fc Hp Kj KD Mj JJ IJ M5
def bB (m:Bj):Bool:=Iw m 4&&(OA m==0)
theorem A27 (h:Iw m 4=true):m.2.2.2.1.length<=4/\m.2.2.2.2.length<=4/\m.2.2.1.length<=300/\∀e∈m.2.2.2.1,e.2.2.length<=10:=by
 unfold Iw at h;simp only[An,TO,To]at h;refine⟨by omega,by omega,by omega,λe b=>?_⟩;obtain⟨j,c,rfl⟩:=AAy.1 b;have h1:=JN (λi r a=>by split at a<;>cases a;simp) _ 0 h.2 j (DO _) O1;split at h1
 .cases h1
 rename_i q;simp only[AS,AT c,ABP]at q;omega
theorem A7S (h:Iw m 4=true):M6 m:=by
 obtain⟨h1,c,-,a⟩:=A27 h;exact⟨trivial,by omega,λe b=>by have:=a e b;omega,by omega⟩
def bC:AW:={ ins:=[ZY],pre:=λ_=>True,out:=λ(m,_)=>[.p .bool (bB m)] }
theorem A28:AY Tryz.prog 18 bC:=by
 refine fK [0,1,2] Tryz.func18 Tryz.ntmps18 (AE nE (AE eH AH)) ?_;rintro w0 O0 ⟨m,u⟩ a - -;have c:bB m=(Iw (m.1,m.2.1,m.2.2.1,m.2.2.2.1,m.2.2.2.2) 4&&(OA (m.1,m.2.1,m.2.2.1,m.2.2.2.1,m.2.2.2.2)==0)):=rfl;simp only[bC,AK];repeat'(first|exact trivial|apply eS rfl|apply AB|refine rX a ?_ ?_|refine rC ?_ ?_<;>intro b<;>try(cases b;done))
 .exact λq=>A7S q
 exact fI a [.tmp 2] (by rw[c];exact eR)
end
section
attribute [local go_sem] QK Qy Fc pE Kj KD Mj JJ IJ M5
theorem A29:BB Tryz.prog 29 [] [] [] (λres c=>res=.sr 20 yV 0 Bm.length/\c=[(20,.arr 65 yV Bm)]):=by
 refine Jf [0] [3,6,12,14,16,18] [] Tryz.func29 Tryz.ntmps29 (AE pF AH) ?_;intro w0 K O0 ρ0 a d e;simp only[Am];repeat'(first|exact trivial|apply eS rfl|apply AB|refine rX a ?_ ?_|refine rC ?_ ?_<;>intro b<;>try(cases b;done))
 exact fM a [.tmp 0] (.sr 20 yV 0 13) eT ⟨rfl,rfl⟩
def dcB (d:List AJ) (i:Nat):Bool:=decide (8<((d.getD i (ByteArray.empty,[],[])).2.1.length:Int))||decide (8<((d.getD i (ByteArray.empty,[],[])).2.2.length:Int))
def bD (d:List AJ):Bool:=decide (d.length<=8)&&(List.range d.length).all λi=>!dcB d i
def WZ (d:List AJ):AF×Bool:=if bD d=true then ((Aa (Bm++d)).1,(Aa (Bm++d)).2==0) else (([],[]),false)
def bE:AW:={ ins:=[Et],pre:=λ_=>True,out:=λ(d,_)=>[.p FY (WZ d).1,.p .bool (WZ d).2] }
theorem AAi {c:Cx} {k:List Ca} {ops:Array Oper} {rest:List Oper} {σ a:St} (l:List Nat) (hk:D1 c R k ops rest a) (h:Cr l σ=a:=by simp only[go_sem,Nat.reduceEqDiff,reduceCtorEq,Nat.reduceAdd,Nat.reduceSub,Nat.reduceMul,Nat.reduceLeDiff,Nat.reduceLT,Int.reduceLE,Int.reduceToNat,Int.reduceNeg,↓reduceIte];rfl):D1 c R k ops rest σ:=A3p hk (ZR l h λ_ _ h=>h)
theorem A2a:AY Tryz.prog 9 bE:=by
 refine fK [0,2,3,4,5,6,9,12,13,14,31] Tryz.func9 Tryz.ntmps9 (AE VI AH) ?_;rintro w0 O0 ⟨d,u⟩ a - -;simp only[bE,AK];repeat'(first|exact trivial|apply eS rfl|apply AB|refine rX a ?_ ?_|refine rC ?_ ?_<;>intro b<;>try(cases b;done))
 .have e:WZ d=(([],[]),false):=As (by unfold bD;rw[AC3 O1];simp);exact fI a [.cell 2 26,.tmp 3] (by rw[e];first|exact eR|refine Je ?_;rfl)
 refine AI (ι:={i:Nat//i<=d.length/\∀j,j<i->dcB d j=false}) (λi=>⟨[(0,.p Et d),(2,.bp 2 [] 0),(12,.p (.int .i64) (d.length:Int)),(13,.p (.int .i64) (i.1:Int))],[(2,.box 26 true [.raw (.slice none 0 0),.raw (.slice none 0 0)])]⟩) (λi=>d.length-i.1) ⟨0,DO _,λ_ h=>by omega⟩ (AC [(2,.nm 2)] rfl rfl ?_ ?_) (λi=>?_)
 .first|exact eN|refine eM ?_
 .first|exact eN|refine eM ?_
 obtain⟨i,hi,c⟩:=i;simp only;repeat'(first|exact trivial|apply eS rfl|apply AB|refine rX a ?_ ?_|refine rC ?_ ?_<;>intro b<;>try(cases b;done))
 .exact⟨b,λ_=>b⟩
 .have f:dcB d i=true:=by unfold dcB;rw[oN,IN,IN];exact b
  have e:WZ d=(([],[]),false):=by
   refine As λq=>?_;unfold bD at q;have:=OF.1 (Bool.and_eq_true_iff.1 q).2 i (wH.2 O1);rw[f]at this;cases this
  exact fI a [.cell 2 26,.tmp 3] (by rw[e];first|exact eR|refine Je ?_;rfl)
 .exact eV
 .have f:dcB d i=false:=by unfold dcB;rw[AAr,To,To];exact⟨AAW.2 b.1,AAW.2 b.2⟩
  refine⟨⟨i+1,by omega,λj g=>?_⟩,by simp only;omega,AC [(2,.nm 2)] rfl rfl ?_ ?_⟩
  .by_cases e:j=i
   .rw[e];exact f
   exact c j O1
  .first|exact eN|refine eM ?_
  first|exact eN|refine eM ?_
 have e:WZ d=((Aa (Bm++d)).1,(Aa (Bm++d)).2==0):=by
  refine At ?_;unfold bD;rw[An];refine⟨AAZ O1,OF.2 λj g=>?_⟩;rw[wH]at g;rw[c j O1];rfl
 rw[e];have k:=A29;have l:Bm.length=13:=rfl;clear e c;generalize Bm=p at *;repeat'(first|exact trivial|apply eS rfl|apply AB|refine rP a ?_ ?_|fail)
 refine cP 0 a ?_ ?_
 .trivial
 refine rM a (k) [] [] ?_ ?_ ?_
 .first|exact eN|refine eM ?_
 .first|exact eN|refine eM ?_
 rintro _ _ ⟨rfl,rfl⟩;refine⟨[(20,.nm 20)],.sr 20 yV 0 p.length,[(20,.arr 65 yV p)],rfl,rfl,?_,?_,rfl,rfl,?_⟩
 .first|exact eN|refine eM ?_
 .first|exact eN|refine eM ?_
 refine rN 2 a ?_ ?_
 .have m:d.length<=8:=by exact eV
  rw[l];simp only[AO];dsimp only[Ty.den]at *;omega
 refine AAi [20] ?_;refine rL a ?_ ?_
 .trivial
 repeat'(first|exact trivial|apply eS rfl|apply AB|refine rX a ?_ ?_|refine rC ?_ ?_<;>intro b<;>try(cases b;done))
 exact fI a [.cell 2 26,.tmp 3]
end
theorem rD (s:ByteArray):∀(l:List FI) (r:List AQ) (k:Nat),(l.map λx=>x.1)=(r.map λx=>x.1)->YI s k l=KC s k r
 | [],[],_,_=>rfl
 | x :: l,y :: r,k,h=>by
  simp only[nO,ABm]at h;unfold YI KC;rw[h.1,rD s l r (k+1) h.2]
 | [],y :: r,_,h=>by simp at h
 | x :: l,[],_,h=>by simp at h
theorem A5b (d:List AJ) (s:ByteArray):Ad (Bi d) s=BH (AL d) s:=by
 refine rD s _ _ 0 (AAt (by simp[V2 d]) λi h1 a=>?_);have hi:i<(AL d).length:=by simpa using a
 have b:i<(Bi d).1.length:=by simpa using h1
 have:=AB3 (λx:FI=>x.1) (mO d hi);simpa[AS,hi,b] using this
theorem A2b (s:ByteArray):∀(l:List SI) (k:Nat),(∃x∈l,AM x.1 s=true)->0<=i7 s k l
 | [],_,h=>by obtain⟨x,a,-⟩:=h;cases a
 | y :: l,k,h=>by
  unfold i7;split
  .omega
  rename_i q;obtain⟨x,a,e⟩:=h;rcases GO.1 a with rfl|a
  .exact absurd e q
  exact A2b s l (k+1) ⟨x,a,e⟩
theorem Oh {s:ByteArray}:∀(l:List (ByteArray×ByteArray)) (o:List ByteArray),AU o s=true->AU (l.foldl JH o) s=true
 | [],_,h=>h
 | x :: l,o,h=>Oh l _ (HL (λ_=>JO) h)
theorem Yp {y:ByteArray×ByteArray}:∀(l:List (ByteArray×ByteArray)) (o:List ByteArray),y∈l->AU (l.foldl JH o) y.1=true
 | x :: l,o,h=>by
  rcases GO.1 h with rfl|h
  .exact Oh l _ Lq
  exact Yp l _ h
theorem SV {s:ByteArray}:∀(l:List AJ) (o:List ByteArray),AU o s=true->AU (l.foldl It o) s=true
 | [],_,h=>h
 | x :: l,o,h=>SV l _ (Oh x.2.2 o h)
theorem Wa {x:AJ} {y:ByteArray×ByteArray} (a:y∈x.2.2):∀(l:List AJ) (o:List ByteArray),x∈l->AU (l.foldl It o) y.1=true
 | z :: l,o,h=>by
  rcases GO.1 h with rfl|h
  .exact SV l _ (Yp _ o a)
  exact Wa a l _ h
def A67:List ByteArray:=Bm.map λx=>x.1
def A68:List ByteArray:=Bm.flatMap λx=>x.2.2.map λy=>y.1
structure EC (h:AF):Prop where
 h14:H14 h
 srt:A57 h
 nm:A9x h
 ty:∀s,(A67.any λx=>AM x s)=true->0<=Ad h s
 ft:∀s,(A68.any λx=>AM x s)=true->0<=A8 h s
theorem wD (a:(A4 d).2=0):Ak d=0:=by
 unfold A4 at a;split at a
 .rename_i h;exact absurd a h
 rename_i h;exact By h
theorem wE (h:(Aa d).2=0):Ak d=0:=by
 unfold Aa at h;split at h
 .rename_i q;exact absurd h q
 rename_i q;exact wD (By q)
theorem A2c (d:List AJ) (h:(Aa (Bm++d)).2=0):EC (Aa (Bm++d)).1:=by
 have b:=wE h;obtain⟨g,-,k,-,-⟩:=V3 b;refine⟨WA _,iI _,nB _,λs hs=>?_,λs hs=>?_⟩
 .obtain⟨x,a,e⟩:=aT.1 hs;obtain⟨y,c,rfl⟩:=IS.1 a;rw[KR b,A5b,<-QG e];exact Lr g (AA6 _ c)
 obtain⟨x,a,e⟩:=aT.1 hs;obtain⟨z,j,a⟩:=ABo.1 a;obtain⟨y,c,rfl⟩:=IS.1 a;rw[KR b,<-QG e];have:=Wa c (Bm++d) [] (AA6 _ j);obtain⟨w,i,f⟩:=aT.1 this;refine A2b _ _ 0 ⟨Ls (Bm++d) w,?_,f⟩;rw[L9 b];exact List.mem_map_of_mem i
theorem A5c (h:(WZ d).2=true):EC (WZ d).1:=by
 unfold WZ at h ⊢;split at h
 .rename_i q;rw[At q];exact A2c d (AAb.1 h)
 cases h
theorem EC.so (p:EC h):m8 h:=⟨⟨p.ty _ (by decide +kernel),p.ty _ (by decide +kernel),p.ty _ (by decide +kernel),p.ty _ (by decide +kernel)⟩,p.ty _ (by decide +kernel),p.ty _ (by decide +kernel)⟩
def rE (h:AF):Nat->List Int->List AD
 | _,[]=>[(Ad h ⟨#[108,105,115,116]⟩,[])]
 | b,x :: l=>(Ad h ⟨#[99,111,110,115]⟩,[(A8 h ⟨#[70,73,82,83,84]⟩,x),(A8 h ⟨#[82,69,83,84]⟩,((b+1:Nat):Int))]) :: rE h (b+1) l
def QQ (h:AF) (n:Nat) (l:List Int):List AD:=(Ad h ⟨#[100,108,105,115,116]⟩,[(A8 h ⟨#[76,73,83,84]⟩,((n+1:Nat):Int)),(A8 h ⟨#[76,65,83,84]⟩,((n+1+l.length:Nat):Int))]) :: rE h (n+1) l
theorem HD (A B:List AD) (t:Int) (L:List (Int×Int)) (n e m:Int) (hn:n=(A.length:Int)):Dx (A++(t,L) :: B) n e m=A++(t,L++[(e,m)]) :: B:=by
 subst hn;unfold Dx;rw[gO,AS,sA (OS _),ABh,List.set_append,As (Nat.lt_irrefl _),ABh];rfl
theorem Yq (h:AF):∀(l:List Int) (A:List AD) (t:Int) (L:List (Int×Int)) (s:ByteArray),
  Dx (Ix h (l.foldl (EW h) (A++[(t,L)],(A.length:Int),s)).1 ⟨#[108,105,115,116]⟩) (l.foldl (EW h) (A++[(t,L)],(A.length:Int),s)).2.1 (A8 h (l.foldl (EW h) (A++[(t,L)],(A.length:Int),s)).2.2) ((l.foldl (EW h) (A++[(t,L)],(A.length:Int),s)).1.length:Int)=A++(t,L++[(A8 h s,((A.length+1:Nat):Int))]) :: rE h (A.length+1) l /\
  (l.foldl (EW h) (A++[(t,L)],(A.length:Int),s)).1.length=A.length+1+l.length
 | [],A,t,L,s=>by
  refine⟨?_,by simp⟩;simp only[List.foldl_nil];unfold Ix;rw[AA8];rw[show [(t,L)]++[(Ad h ⟨#[108,105,115,116]⟩,([]:List (Int×Int)))]=(t,L) :: [(Ad h ⟨#[108,105,115,116]⟩,[])] from rfl,HD A _ t L _ _ _ rfl];simp only[Do,Is,AAs];rfl
 | x :: l,A,t,L,s=>by
  have e:EW h (A++[(t,L)],(A.length:Int),s) x=((A++[(t,L++[(A8 h s,((A.length+1:Nat):Int))])])++[(Ad h ⟨#[99,111,110,115]⟩,[(A8 h ⟨#[70,73,82,83,84]⟩,x)])],((A++[(t,L++[(A8 h s,((A.length+1:Nat):Int))])]).length:Int),⟨#[82,69,83,84]⟩):=by
   unfold EW Ix;simp only;rw[AA8,show [(t,L)]++[(Ad h ⟨#[99,111,110,115]⟩,([]:List (Int×Int)))]=(t,L) :: [(Ad h ⟨#[99,111,110,115]⟩,[])] from rfl,HD A _ t L _ _ _ rfl];have a:(A++[(t,L)]).length=A.length+1:=by simp
   rw[a];have b:A++(t,L++[(A8 h s,((A.length+1:Nat):Int))]) :: [(Ad h ⟨#[99,111,110,115]⟩,([]:List (Int×Int)))]=(A++[(t,L++[(A8 h s,((A.length+1:Nat):Int))])])++(Ad h ⟨#[99,111,110,115]⟩,[]) :: []:=by simp
   rw[b,HD _ [] _ _ _ _ _ sc];simp
  rw[OR,e];obtain⟨h1,c⟩:=Yq h l (A++[(t,L++[(A8 h s,((A.length+1:Nat):Int))])]) (Ad h ⟨#[99,111,110,115]⟩) [(A8 h ⟨#[70,73,82,83,84]⟩,x)] ⟨#[82,69,83,84]⟩;refine⟨?_,?_⟩
  .rw[h1,rE];simp
  rw[c];simp;omega
theorem rF (h:AF) (a:List AD) (l:List Int):iK h a l=a++QQ h a.length l:=by
 obtain⟨h1,b⟩:=Yq h l a (Ad h ⟨#[100,108,105,115,116]⟩) [] ⟨#[76,73,83,84]⟩;unfold iK rB;rw[show Ix h a ⟨#[100,108,105,115,116]⟩=a++[(Ad h ⟨#[100,108,105,115,116]⟩,[])] from rfl,h1,b,HD _ _ _ _ _ _ _ rfl];rfl
def chN (h:AF) (n:Nat):List Int->List AD
 | []=>[(Ad h ⟨#[108,105,115,116]⟩,[])]
 | x :: l=>chN h n l++[(Ad h ⟨#[99,111,110,115]⟩,[(A8 h ⟨#[70,73,82,83,84]⟩,x),(A8 h ⟨#[82,69,83,84]⟩,((n+l.length:Nat):Int))])]
theorem Tf (h:AF) (n:Nat):∀l:List Int,(chN h n l).length=l.length+1
 | []=>rfl
 | x :: l=>by simp[chN,Tf h n l]
def Wf (h:AF) (n:Nat) (l:List Int):List AD:=chN h n l++[(Ad h ⟨#[100,108,105,115,116]⟩,[(A8 h ⟨#[76,73,83,84]⟩,((n+l.length:Nat):Int)),(A8 h ⟨#[76,65,83,84]⟩,(n:Int))])]
theorem A2d (h:AF) (f:List AD):∀l:List Int,nC h f l=(f++chN h f.length l,((f.length+l.length:Nat):Int))
 | []=>rfl
 | x :: l=>by
  have a:=A2d h f l;unfold nC at a ⊢;rw[List.foldr_cons,a];unfold chS;simp only[Do,Tf,chN,AA8,Is]
theorem A2e (h:AF) (f:List AD) (l:List Int):H0 h f l=(f++Wf h f.length l,((f.length+l.length+1:Nat):Int)):=by
 unfold H0;rw[A2d];simp only[Do,Tf,Wf,AA8,ACq]
def Ss (ψ:Int->Int) (x:AD):AD:=(x.1,x.2.map λa=>(a.1,ψ a.2))
theorem A2f (h:AF) (n:Nat) (ψ:Int->Int):∀(l:List Int) (b:Nat),(∀x∈l,ψ x=x)->(∀i:Int,(b:Int)<=i->i<=((b+l.length:Nat):Int)->ψ i=((n+b+l.length:Nat):Int)-i) ->
  (chN h n l).reverse=(rE h b l).map (Ss ψ)
 | [],b,_,_=>rfl
 | x :: l,b,c,a=>by
  rw[chN,List.reverse_append,A2f h n ψ l (b+1) (λy d=>c y (IF _ d)) λi h1 f=>by
   rw[a i O1 (by simp only[Is];omega)];simp only[Is];omega]
  have e:=a ((b+1:Nat):Int) O1 (by simp only[Is];omega);rw[rE,nO];unfold Ss;simp only[nO,ABj,c x iS,e,Is,List.reverse_cons,ACQ,iN,ABi];rw[show ((n+b+(l.length+1):Nat):Int)-((b+1:Nat):Int)=((n+l.length:Nat):Int) by omega]
theorem rG (h:AF):∀(l:List Int) (b:Nat),(rE h b l).length=l.length+1
 | [],_=>rfl
 | x :: l,b=>by simp[rE,rG h l]
theorem My (h:AF) (n:Nat) (l:List Int):(QQ h n l).length=l.length+2:=by simp[QQ,rG]
theorem KV (h:AF) (n:Nat) (l:List Int):(Wf h n l).length=l.length+2:=by simp[Wf,Tf]
theorem A7T (h:AF) (n:Nat) (ψ:Int->Int) (l:List Int) (d:∀x∈l,ψ x=x) (a:∀i:Int,(n:Int)<=i->i<=((n+l.length+1:Nat):Int)->ψ i=((2*n+l.length+1:Nat):Int)-i) :
  (Wf h n l).reverse=(QQ h n l).map (Ss ψ):=by
 unfold Wf QQ;rw[List.reverse_append,A2f h n ψ l (n+1) d λi h1 e=>by rw[a i O1 O1];omega];have b:=a ((n+1:Nat):Int) O1 O1;have c:=a ((n+1+l.length:Nat):Int) O1 O1;rw[nO];simp only[Ss,nO,ABj,b,c,List.reverse_cons,ACQ,iN,ABi];rw[show ((2*n+l.length+1:Nat):Int)-((n+1:Nat):Int)=((n+l.length:Nat):Int) by omega,show ((2*n+l.length+1:Nat):Int)-((n+1+l.length:Nat):Int)=(n:Int) by omega]
theorem A2g (h:AF) (n:Nat) (ψ:Int->Int) (l:List Int) (d:∀x∈l,ψ x=x) (c:∀i:Int,(n:Int)<=i->i<=((n+l.length+1:Nat):Int)->ψ i=((2*n+l.length+1:Nat):Int)-i) {j:Nat} (a:j<l.length+2) :
  (Wf h n l).getD (l.length+1-j) (0,[])=Ss ψ ((QQ h n l).getD j (0,[])):=by
 have e:=AB3 (λz=>z.getD j (0,[])) (A7T h n ψ l d c);have h1:j<(Wf h n l).length:=by rw[KV];exact a
 have b:j<(QQ h n l).length:=by rw[My];exact a
 simp only[AS,List.getElem?_reverse h1,KV,AAD,AT b,ABu,ABP]at e ⊢;rw[<-e,show l.length+2-1-j=l.length+1-j by omega]
def rkF (h:AF) (e:G8):AD:=(Ad h e.1,(A8 h ⟨#[76,65,66,69,76]⟩,2+e.2.1) :: e.2.2.map λa=>(A8 h a.1,2+a.2))
def ckF (h:AF) (q:Sk):AD:=(Ad h ⟨#[113,101,113]⟩,[(A8 h ⟨#[72,73,71,72]⟩,2+q.1),(A8 h ⟨#[76,79,87]⟩,2+q.2)])
def vkF (h:AF) (v:ByteArray):AD:=(MM h v,[])
def Wb (h:AF) (m:Bj):List AD:=m.2.2.1.map (vkF h)++m.2.2.2.1.map (rkF h)++m.2.2.2.2.map (ckF h)
def Su (h:AF) (m:Bj) (r c:Int):List AD:=(Ad h ⟨#[115,105,103,110]⟩,[(A8 h ⟨#[83,69,77]⟩,1)]) :: (Ad h ⟨#[115,101,109]⟩,[(A8 h ⟨#[84,79,80]⟩,2+m.1),(A8 h ⟨#[73,78,68,69,88]⟩,2+m.2.1),(A8 h ⟨#[82,69,76,83]⟩,r),(A8 h ⟨#[67,79,78,83]⟩,c)]) :: Wb h m
def EH (b k:Nat):List Int:=(List.range k).map λi=>((b+i:Nat):Int)
def pN (m:Bj):Nat:=2+m.2.2.1.length+m.2.2.2.1.length+m.2.2.2.2.length
def qN (m:Bj):Nat:=pN m+m.2.2.2.1.length+2
def RZ (m:Bj):List Int:=EH (2+m.2.2.1.length) m.2.2.2.1.length
def Wc (m:Bj):List Int:=EH (2+m.2.2.1.length+m.2.2.2.1.length) m.2.2.2.2.length
def Bw (h:AF) (m:Bj):List AD:=Su h m (pN m:Int) (qN m:Int)++QQ h (pN m) (RZ m)++QQ h (qN m) (Wc m)
def El (h:AF) (m:Bj):List AD:=Su h m ((pN m+m.2.2.2.1.length+1:Nat):Int) ((qN m+m.2.2.2.2.length+1:Nat):Int)++Wf h (pN m) (RZ m)++Wf h (qN m) (Wc m)
theorem DV (b k:Nat):(EH b k).length=k:=by simp[EH]
theorem Tg (h:AF) (m:Bj):(Wb h m).length=pN m-2:=by simp[Wb,pN];omega
theorem Fk (h:AF) (m:Bj) (r c:Int):(Su h m r c).length=pN m:=by
 have:=Tg h m;have:2<=pN m:=by unfold pN;omega
 simp[Su,Tg];omega
theorem H1 (h:AF) (m:Bj):(Bw h m).length=qN m+m.2.2.2.2.length+2:=by
 simp only[Bw,Do,Fk,My,RZ,Wc,DV,qN];omega
theorem Yr (h:AF) (m:Bj):(El h m).length=qN m+m.2.2.2.2.length+2:=by
 simp only[El,Do,Fk,KV,RZ,Wc,DV,qN];omega
def Ra (m:Bj) (i:Int):Int :=
 if (pN m:Int)<=i/\i<(qN m:Int) then ((pN m+qN m-1:Nat):Int)-i
 else if (qN m:Int)<=i/\i<((qN m+m.2.2.2.2.length+2:Nat):Int) then ((2*qN m+m.2.2.2.2.length+1:Nat):Int)-i else i
theorem Fl {i:Int} (h:i<(pN m:Int)):Ra m i=i:=by
 have:pN m<=qN m:=by unfold qN;omega
 unfold Ra;rw[As O1,As O1]
theorem Ys {i:Int} (h1:(pN m:Int)<=i) (a:i<(qN m:Int)):Ra m i=((pN m+qN m-1:Nat):Int)-i:=At ⟨h1,a⟩
theorem Yt {i:Int} (h1:(qN m:Int)<=i) (a:i<((qN m+m.2.2.2.2.length+2:Nat):Int)):Ra m i=((2*qN m+m.2.2.2.2.length+1:Nat):Int)-i:=by
 unfold Ra;rw[As O1,At ⟨h1,a⟩]
theorem A5d (m:Bj) (i j:Int) (h:Ra m i=Ra m j):i=j:=by
 have:pN m+2<=qN m:=by unfold qN;omega
 unfold Ra at h;split at h<;>split at h<;>(try split at h)<;>(try split at h)<;>omega
def Rb (m:Bj):Prop:=∀x∈Ex m,0<=x/\x<(m.2.2.1.length:Int)
theorem A2i {e:G8} (b:e∈m.2.2.2.1):e.2.1∈Ex m/\∀a∈e.2.2,a.2∈Ex m:=by
 refine⟨?_,λa ha=>?_⟩
 .refine AA6 _ (AAP _ (ABo.2 ⟨e,b,?_⟩));exact iS
 refine AA6 _ (AAP _ (ABo.2 ⟨e,b,?_⟩));exact IF _ (List.mem_map_of_mem ha)
theorem A2j {q:Sk} (a:q∈m.2.2.2.2):q.1∈Ex m/\q.2∈Ex m:=by
 refine⟨AAP _ (ABo.2 ⟨q,a,?_⟩),AAP _ (ABo.2 ⟨q,a,?_⟩)⟩<;>simp[JM]
theorem rH (m:Bj):m.1∈Ex m/\m.2.1∈Ex m:=by
 refine⟨?_,?_⟩<;>exact AA6 _ (AA6 _ sc)
theorem rI (d:Rb m):∀x∈Wb h m,∀a∈x.2,2<=a.2/\a.2<((2+m.2.2.1.length:Nat):Int):=by
 intro x c a ha;unfold Wb at c;rw[NO,NO]at c;rcases c with (c|c)|c
 .obtain⟨v,d,rfl⟩:=IS.1 c;cases ha
 .obtain⟨e,j,rfl⟩:=IS.1 c;obtain⟨f,g⟩:=A2i j;rcases GO.1 ha with rfl|ha
  .have:=d _ f;simp only;omega
  obtain⟨b,i,rfl⟩:=IS.1 ha;have:=d _ (g b i);simp only;omega
 obtain⟨q,k,rfl⟩:=IS.1 c;obtain⟨f,g⟩:=A2j k;have v1:=d _ f;have l:=d _ g;unfold ckF at ha;simp only[GO,ABQ,ACX]at ha;rcases ha with rfl|rfl<;>simp only<;>omega
theorem A5e (b:Rb m):Su h m ((pN m+m.2.2.2.1.length+1:Nat):Int) ((qN m+m.2.2.2.2.length+1:Nat):Int)=(Su h m (pN m:Int) (qN m:Int)).map (Ss (Ra m)):=by
 have j:pN m=2+m.2.2.1.length+m.2.2.2.1.length+m.2.2.2.2.length:=rfl;have k:qN m=pN m+m.2.2.2.1.length+2:=rfl;have c:(Wb h m).map (Ss (Ra m))=Wb h m:=by
  refine(AAd λx d=>?_).trans (List.map_id _);have:=rI b x d;show (x.1,x.2.map _)=x;rw[AAd (g:=id) λa ha=>by
   have:=this a ha;show (a.1,Ra m a.2)=a;rw[Fl O1],List.map_id]
 obtain⟨e,f⟩:=rH m;have v1:=b _ e;have l:=b _ f;unfold Su;rw[nO,nO,c];simp only[Ss,nO,ABj];rw[Fl (i:=1) O1,Fl (i:=2+m.1) O1,Fl (i:=2+m.2.1) O1,Ys (i:=(pN m:Int)) O1 O1,Yt (i:=(qN m:Int)) O1 O1];rw[show ((pN m+qN m-1:Nat):Int)-(pN m:Int)=((pN m+m.2.2.2.1.length+1:Nat):Int) by omega,show ((2*qN m+m.2.2.2.2.length+1:Nat):Int)-(qN m:Int)=((qN m+m.2.2.2.2.length+1:Nat):Int) by omega]
theorem bF {b:Nat} {x:Int} (h:x∈EH b k):(b:Int)<=x/\x<((b+k:Nat):Int):=by
 obtain⟨i,hi,rfl⟩:=IS.1 h;have:=wH.1 hi;omega
theorem rJ (g:Rb m) (hi:i<(Bw h m).length):(El h m).getD (Ra m (i:Int)).toNat (0,[])=Ss (Ra m) ((Bw h m).getD i (0,[])):=by
 have n:pN m=2+m.2.2.1.length+m.2.2.2.1.length+m.2.2.2.2.length:=rfl;have o:qN m=pN m+m.2.2.2.1.length+2:=rfl;have f:(RZ m).length=m.2.2.2.1.length:=DV _ _;have p:(Wc m).length=m.2.2.2.2.length:=DV _ _;rw[H1]at hi;unfold El Bw;by_cases h1:i<pN m
 .rw[Fl O1,gO,A5e g,AA8,AA8];have a:i<(Su h m (pN m:Int) (qN m:Int)).length:=by rw[Fk];exact h1
  simp only[AS];rw[AA7 (by rw[aS];exact a),AA7 a,AAD,AT a];rfl
 by_cases l:i<qN m
 .rw[Ys O1 O1];have:=A2g h (pN m) (Ra m) (RZ m) (λx b=>by
   have:=bF b;exact Fl O1) (λj c k=>by
   rw[Ys c O1];omega) (j:=i-pN m) O1
  rw[show (((pN m+qN m-1:Nat):Int)-(i:Int)).toNat=pN m+((RZ m).length+1-(i-pN m)) by omega];simp only[AS]at this ⊢;rw[AA7 (by rw[Do,Fk,KV];omega),sA (by rw[Fk];omega),Fk,ABq];rw[AA7 (by rw[Do,Fk,My];omega),sA (by rw[Fk];omega),Fk];exact this
 rw[Yt O1 O1];have:=A2g h (qN m) (Ra m) (Wc m) (λx b=>by
  have:=bF b;exact Fl O1) (λj c k=>by
  rw[Yt c O1];omega) (j:=i-qN m) O1
 rw[show (((2*qN m+m.2.2.2.2.length+1:Nat):Int)-(i:Int)).toNat=qN m+((Wc m).length+1-(i-qN m)) by omega];have d:(Su h m ((pN m+m.2.2.2.1.length+1:Nat):Int) ((qN m+m.2.2.2.2.length+1:Nat):Int)++Wf h (pN m) (RZ m)).length=qN m:=by rw[Do,Fk,KV,f];omega
 have e:(Su h m (pN m:Int) (qN m:Int)++QQ h (pN m) (RZ m)).length=qN m:=by rw[Do,Fk,My,f];omega
 simp only[AS]at this ⊢;rw[sA (by rw[d];omega),d,ABq,sA (by rw[e];omega),e];exact this
theorem rK (ψ:Int->Int) (x:Int×Int) (s:List (Int×Int)):∀n,n<=s.length->JS (x.1,ψ x.2) (s.map λa=>(a.1,ψ a.2)) n=JS x s n
 | 0,_=>rfl
 | n+1,h=>by
  unfold JS;have e:((s.map λa=>(a.1,ψ a.2)).getD n (0,0)).1=(s.getD n (0,0)).1:=by simp[AS,show n<s.length by omega]
  rw[e,rK ψ x s n O1]
theorem A5f (ψ:Int->Int) (x:Int×Int) (s:List (Int×Int)):Ky (s.map λa=>(a.1,ψ a.2)) (x.1,ψ x.2)=(Ky s x).map λa=>(a.1,ψ a.2):=by
 unfold Ky;rw[aS,rK ψ x s _ (OS _)];simp only[AAN,List.map_take,List.map_drop,nO,ABj]
theorem iQ (ψ:Int->Int):∀(l s:List (Int×Int)),(l.map λa=>(a.1,ψ a.2)).foldl Ky (s.map λa=>(a.1,ψ a.2))=(l.foldl Ky s).map λa=>(a.1,ψ a.2)
 | [],_=>rfl
 | x :: l,s=>by
  rw[nO,OR,OR,A5f];exact iQ ψ l _
theorem nF (ψ:Int->Int) (l:List (Int×Int)):AZ (l.map λa=>(a.1,ψ a.2))=(AZ l).map λa=>(a.1,ψ a.2):=iQ ψ l []
theorem Nb {s t:ByteArray} (e:AM s t=false) (h1:0<=A8 h s):A8 h s≠A8 h t:=λq=>by
 obtain⟨i,l,b,x,c,d⟩:=ML s h.2 0 h1;obtain⟨j,m,f,y,a,g⟩:=ML t h.2 0 (show 0<=A8 h t by rw[<-q];exact h1);have k:((0+i:Nat):Int)=((0+j:Nat):Int):=b.symm.trans (q.trans f);have:i=j:=by omega
 subst this;rw[c]at a;injection a with a
 subst a;have:=BI (Bp d) g;rw[e]at this;cases this
structure Yu (m:Bj):Prop where
 loose:Fa m=0
 chk:OA m=0
 rels:m.2.2.2.1.length<=4
 cons:m.2.2.2.2.length<=4
 vars:m.2.2.1.length<=256
 args:∀e∈m.2.2.2.1,e.2.2.length<=10
theorem Yu.prd (k:Yu m):∀e∈m.2.2.2.1,eF e=0:=by
 have l:=k.loose;unfold Fa at l;split at l
 .cases l
 split at l
 .cases l
 split at l
 .rename_i q;exact absurd l q
 rename_i q;intro e b;obtain⟨j,c,rfl⟩:=AAy.1 b;have h1:=JN (λi r a=>by unfold eG at a;split at a<;>cases a;assumption) _ 0 (By q) j (DO _) O1;unfold eG at h1;split at h1
 .rename_i d;simpa[AS,c] using d
 cases h1
theorem Yu.rng (k:Yu m):Rb m:=by
 have l:=k.loose;unfold Fa at l;split at l
 .cases l
 split at l
 .cases l
 split at l
 .rename_i q;exact absurd l q
 split at l
 .cases l
 rename_i q;exact o7 (By q)
theorem Yu.srt (k:Yu m):∀v∈m.2.2.1,Zm v=true:=by
 have l:=k.loose;unfold Fa at l;split at l
 .cases l
 split at l
 .cases l
 rename_i q;intro v c;obtain⟨j,b,rfl⟩:=AAy.1 c;have h1:=JN (λi r a=>by unfold t5 at a;split at a<;>cases a;decide) _ 0 (By q) j (DO _) O1;unfold t5 at h1;split at h1
 .rename_i d;simpa[AS,b] using d
 cases h1
theorem wF {e:G8} (h:eF e=0):BM e.1 false=true/\(∀a∈e.2.2,BM a.1 true=true/\AM a.1 ⟨#[76,65,66,69,76]⟩=false)/\e.2.2.Pairwise λa b=>CJ a.1 b.1=true:=by
 unfold eF at h;split at h
 .rename_i q;have key:∀j,(c:j<e.2.2.length)->A0q e.2.2 j=none:=λj c=>JN (λi r f=>by unfold A0q at f;split at f<;>(try split at f)<;>cases f<;>decide) _ 0 h j (DO _) O1;have d:∀j,(c:j<e.2.2.length)->BM (e.2.2[j]).1 true=true/\AM (e.2.2[j]).1 ⟨#[76,65,66,69,76]⟩=false/\(0<j->CJ (e.2.2[j-1]).1 (e.2.2[j]).1=true):=by
   intro j c;have:=key j c;unfold A0q at this;split at this
   .cases this
   rename_i m;split at this
   .cases this
   rename_i g;have n:e.2.2.getD j (ByteArray.empty,0)=e.2.2[j]:=by simp[AS,c]
   have o:e.2.2.getD (j-1) (ByteArray.empty,0)=e.2.2[j-1]:=by simp[AS,show j-1<e.2.2.length by omega]
   rw[n]at m g;rw[o]at g;refine⟨?_,?_,λh0=>?_⟩
   .cases l:BM (e.2.2[j]).1 true with
    | true=>rfl
    | false=>exact absurd (.inl l) m
   .cases l:AM (e.2.2[j]).1 ⟨#[76,65,66,69,76]⟩ with
    | true=>exact absurd (.inr l) m
    | false=>rfl
   refine iH (λz=>g ⟨by omega,.inl z⟩) (λz=>g ⟨by omega,.inr z⟩)
  refine⟨q,λa ha=>?_,?_⟩
  .obtain⟨j,c,rfl⟩:=AAy.1 ha;exact⟨(d j c).1,(d j c).2.1⟩
  rw[oS];intro i j hi c s;have step:∀k,(hk:i+k+1<e.2.2.length)->CJ (e.2.2[i]).1 (e.2.2[i+k+1]).1=true:=by
   intro k;induction k with
   | zero=>exact λhk=>(d (i+1) hk).2.2 O1
   | succ k p =>
    intro hk;exact MK (p O1) ((d (i+k+2) hk).2.2 O1)
  have:=step (j-i-1) O1;simpa[show i+(j-i-1)+1=j by omega] using this
 cases h
theorem Yv {h:AF}:∀ {l:List G8},DQ h l=0->∀e∈l,0<=Ad h e.1/\Ae h (Ad h ⟨#[114,101,108]⟩) (Ad h e.1)=true/\∀a∈e.2.2,0<=A8 h a.1
 | [],_,e,c=>by cases c
 | x :: l,b,e,c=>by
  unfold DQ at b;split at b
  .cases b
  rename_i h1;split at b
  .cases b
  rename_i f;split at b
  .cases b
  rename_i g;rcases GO.1 c with rfl|c
  .refine⟨by omega,by simpa using f,?_⟩;have key:∀l:List Sj,Og h l=false->∀a∈l,0<=A8 h a.1:=by
    intro l;induction l with
    | nil=>exact λ_ a ha=>by cases ha
    | cons y l i =>
     intro d a ha;unfold Og at d;split at d
     .cases d
     rcases GO.1 ha with rfl|ha
     .omega
     exact i d a ha
   exact key _ (by simpa using g)
  exact Yv b e c
structure NOk (h:AF) (n:Nat) (x:AD):Prop where
 ty:0<=x.1/\x.1<(h.1.length:Int)
 nd:Z1 x.2
 len:x.2.length<=12
 arc:∀a∈x.2,(0<=a.1/\a.1<(h.2.length:Int))/\0<=a.2/\a.2<(n:Int)
theorem nd2 {a b:Int×Int} (e:a.1≠b.1):Z1 [a,b]:=by
 unfold Z1;simp[e]
theorem EC.tyr (p:EC h) (s:ByteArray) (q:(A67.any λx=>AM x s)=true):0<=Ad h s/\Ad h s<(h.1.length:Int):=⟨p.ty s q,(DH h s).2⟩
theorem EC.ftr (p:EC h) (s:ByteArray) (q:(A68.any λx=>AM x s)=true):0<=A8 h s/\A8 h s<(h.2.length:Int):=⟨p.ft s q,(GP h s).2⟩
theorem A2k {h:AF} (p:EC h) {n:Nat}:∀(l:List Int) (b:Nat),(∀x∈l,0<=x/\x<(n:Int))->b+l.length<n->∀x∈rE h b l,NOk h n x
 | [],b,_,_,x,c=>by
  rw[rE,oR]at c;subst c;exact⟨p.tyr _ (by decide +kernel),List.Pairwise.nil,by simp,λa ha=>by cases ha⟩
 | y :: l,b,d,e,x,c=>by
  rw[rE,GO]at c;simp only[Is]at e;rcases c with rfl|c
  .refine⟨p.tyr _ (by decide +kernel),nd2 (Nb (by decide +kernel) (p.ft _ (by decide +kernel))),by simp,λa ha=>?_⟩;simp only[GO,ABQ,ACX]at ha;rcases ha with rfl|rfl
   .exact⟨p.ftr _ (by decide +kernel),d y iS⟩
   exact⟨p.ftr _ (by decide +kernel),by simp only;omega,by simp only;omega⟩
  exact A2k p l (b+1) (λz f=>d z (IF _ f)) O1 x c
theorem A2l (p:EC h) {n b:Nat} {l:List Int} (d:∀x∈l,0<=x/\x<(n:Int)) (e:b+1+l.length<n):∀x∈QQ h b l,NOk h n x:=by
 intro x c;rw[QQ,GO]at c;rcases c with rfl|c
 .refine⟨p.tyr _ (by decide +kernel),nd2 (Nb (by decide +kernel) (p.ft _ (by decide +kernel))),by simp,λa ha=>?_⟩;simp only[GO,ABQ,ACX]at ha;rcases ha with rfl|rfl
  .exact⟨p.ftr _ (by decide +kernel),by simp only;omega,by simp only;omega⟩
  exact⟨p.ftr _ (by decide +kernel),by simp only;omega,by simp only;omega⟩
 exact A2k p l (b+1) d O1 x c
theorem A5g (p:EC h) (v:ByteArray):0<=MM h v/\MM h v<(h.1.length:Int):=by
 unfold MM;split
 .exact p.tyr _ (by decide +kernel)
 split
 .exact p.tyr _ (by decide +kernel)
 split
 .exact p.tyr _ (by decide +kernel)
 exact p.tyr _ (by decide +kernel)
theorem A6a {b n:Nat} (hn:b+k<=n):∀x∈EH b k,0<=x/\x<(n:Int):=λx a=>by
 have:=bF a;omega
theorem MN (p:EC h) (k:Yu m) (G:DQ h m.2.2.2.1=0):∀x∈Bw h m,NOk h (Bw h m).length x:=by
 have o:=k.rng;have O:pN m=2+m.2.2.1.length+m.2.2.2.1.length+m.2.2.2.2.length:=rfl;have F:qN m=pN m+m.2.2.2.1.length+2:=rfl;have I:(RZ m).length=m.2.2.2.1.length:=DV _ _;have H:(Wc m).length=m.2.2.2.2.length:=DV _ _;rw[H1];intro x d;unfold Bw at d;rw[NO,NO]at d;rcases d with (d|d)|d
 .unfold Su at d;rw[GO,GO]at d;rcases d with rfl|rfl|d
  .refine⟨p.tyr _ (by decide +kernel),List.pairwise_singleton _ _,by simp,λa ha=>?_⟩;rw[oR]at ha;subst ha;exact⟨p.ftr _ (by decide +kernel),by simp only;omega,by simp only;omega⟩
  .obtain⟨L,M⟩:=rH m;have v1:=o _ L;have Q:=o _ M;refine⟨p.tyr _ (by decide +kernel),?_,by simp,λa ha=>?_⟩
   .have g:=p.ft ⟨#[84,79,80]⟩ (by decide +kernel);have u:=p.ft ⟨#[73,78,68,69,88]⟩ (by decide +kernel);have D:=p.ft ⟨#[82,69,76,83]⟩ (by decide +kernel);have w:=Nb (h:=h) (s:=⟨#[84,79,80]⟩) (t:=⟨#[73,78,68,69,88]⟩) (by decide +kernel) g;have y:=Nb (h:=h) (s:=⟨#[84,79,80]⟩) (t:=⟨#[82,69,76,83]⟩) (by decide +kernel) g;have z:=Nb (h:=h) (s:=⟨#[84,79,80]⟩) (t:=⟨#[67,79,78,83]⟩) (by decide +kernel) g;have A:=Nb (h:=h) (s:=⟨#[73,78,68,69,88]⟩) (t:=⟨#[82,69,76,83]⟩) (by decide +kernel) u;have B:=Nb (h:=h) (s:=⟨#[73,78,68,69,88]⟩) (t:=⟨#[67,79,78,83]⟩) (by decide +kernel) u;have C:=Nb (h:=h) (s:=⟨#[82,69,76,83]⟩) (t:=⟨#[67,79,78,83]⟩) (by decide +kernel) D;unfold Z1;simp[w,y,z,A,B,C]
   simp only[GO,ABQ,ACX]at ha;rcases ha with rfl|rfl|rfl|rfl
   .exact⟨p.ftr _ (by decide +kernel),by simp only;omega,by simp only;omega⟩
   .exact⟨p.ftr _ (by decide +kernel),by simp only;omega,by simp only;omega⟩
   .exact⟨p.ftr _ (by decide +kernel),by simp only;omega,by simp only;omega⟩
   exact⟨p.ftr _ (by decide +kernel),by simp only;omega,by simp only;omega⟩
  have f:=rI (h:=h) o x d;unfold Wb at d;rw[NO,NO]at d;rcases d with (d|d)|d
  .obtain⟨v,-,rfl⟩:=IS.1 d;exact⟨A5g p v,List.Pairwise.nil,by simp[vkF],λa ha=>by cases ha⟩
  .obtain⟨e,n,rfl⟩:=IS.1 d;obtain⟨N,-,r⟩:=Yv G e n;obtain⟨-,J,K⟩:=wF (k.prd e n);have P:=k.args e n;refine⟨⟨N,(DH h _).2⟩,?_,by simp[rkF];omega,λa ha=>⟨?_,by have:=f a ha;omega,by have:=f a ha;omega⟩⟩
   .show Z1 ((A8 h ⟨#[76,65,66,69,76]⟩,2+e.2.1) :: e.2.2.map λa=>(A8 h a.1,2+a.2));refine AAw.2 ⟨λb i=>?_,?_⟩
    .obtain⟨c,j,rfl⟩:=IS.1 i;exact Nb (IQ (J c j).2) (p.ft _ (by decide +kernel))
    rw[AAG];refine List.Pairwise.imp_of_mem ?_ K;intro a b ha i E;have:=A9v p.srt E (r a ha) (r b i);simp only;omega
   rcases GO.1 ha with rfl|ha
   .exact p.ftr _ (by decide +kernel)
   obtain⟨c,j,rfl⟩:=IS.1 ha;exact⟨r c j,(GP h _).2⟩
  obtain⟨q,F,rfl⟩:=IS.1 d;refine⟨p.tyr _ (by decide +kernel),nd2 (Nb (by decide +kernel) (p.ft _ (by decide +kernel))),by simp[ckF],λa ha=>⟨?_,by have:=f a ha;omega,by have:=f a ha;omega⟩⟩;unfold ckF at ha;simp only[GO,ABQ,ACX]at ha;rcases ha with rfl|rfl
  .exact p.ftr _ (by decide +kernel)
  exact p.ftr _ (by decide +kernel)
 .exact A2l p (l:=RZ m) (A6a O1) (by rw[I];omega) x d
 exact A2l p (l:=Wc m) (A6a O1) (by rw[H];omega) x d
theorem QL (g:f.length<=4096) (h0:0<f.length) (hn:∀x∈f,NOk h f.length x):AX f/\NdF f/\SL f/\CC f=0/\PF h (C1 f):=by
 have d:AX f:=⟨by omega,λx b=>⟨by have:=(hn x b).len;omega,λa ha=>((hn x b).arc a ha).2⟩⟩;have hs:SL f:=λx b=>⟨by have:=(hn x b).len;omega,.inl (hn x b).len⟩;have e:NdF f:=λx b=>⟨(hn x b).nd,hs x b⟩;refine⟨d,e,hs,?_,GE d,by rw[CF];exact h0,λx b=>?_,λx b=>?_,λx b a ha=>?_⟩
 .unfold CC;rw[As O1,As O1];refine WD λx b=>⟨(hn x b).ty.1,gX ?_ λa ha=>⟨((hn x b).arc a ha).1.1,((hn x b).arc a ha).2⟩⟩;rw[List.Nodup,AAG];exact(hn x b).nd
 .obtain⟨y,c,rfl⟩:=IS.1 b;exact(hn y c).ty
 .obtain⟨y,c,rfl⟩:=IS.1 b;exact KM (hn y c).nd
 obtain⟨y,c,rfl⟩:=IS.1 b;have:=(Ed y.2).mem_iff.1 ha;exact((hn y c).arc a this).1
theorem KW (k:Yu m) (h:AF):(Bw h m).length<=1000:=by
 have a:pN m=2+m.2.2.1.length+m.2.2.2.1.length+m.2.2.2.2.length:=rfl;have b:qN m=pN m+m.2.2.2.1.length+2:=rfl;have:=k.rels;have:=k.cons;have:=k.vars;rw[H1];omega
theorem QM (h:AF) (m:Bj):0<(Bw h m).length:=by
 rw[H1];omega
theorem iR (p:EC h) (k:Yu m) (e:DQ h m.2.2.2.1=0):A0 (Bw h m)=(AP (C1 (Bw h m)) 0,0)/\VF h (AP (C1 (Bw h m)) 0)/\SL (Bw h m):=by
 have h0:=QM h m;obtain⟨h1,a,b,c,d⟩:=QL (by have:=KW k h;omega) h0 (MN p k e);refine⟨?_,A7J d (ABg _) (by rw[CF];omega),b⟩;unfold A0;rw[At c,IT h1 a (ABg _) O1]
theorem A5h {n:Nat} {ψ:Int->Int} (d:∀i:Int,0<=i->i<(n:Int)->0<=ψ i/\ψ i<(n:Int)) {x:AD} (k:NOk h n x):NOk h n (Ss ψ x):=by
 refine⟨k.ty,?_,by simpa[Ss] using k.len,λa ha=>?_⟩
 .show Z1 (x.2.map _);unfold Z1;rw[AAG];exact k.nd
 obtain⟨b,c,rfl⟩:=IS.1 ha;have:=k.arc b c;exact⟨this.1,d _ this.2.1 this.2.2⟩
theorem rO (h:AF) {i:Int} (e:0<=i) (b:i<((Bw h m).length:Int)):0<=Ra m i/\Ra m i<((Bw h m).length:Int):=by
 have c:pN m=2+m.2.2.1.length+m.2.2.2.1.length+m.2.2.2.2.length:=rfl;have d:qN m=pN m+m.2.2.2.1.length+2:=rfl;rw[H1]at *;by_cases h1:i<(pN m:Int)
 .rw[Fl h1];omega
 by_cases a:i<(qN m:Int)
 .rw[Ys O1 a];omega
 rw[Yt O1 b];omega
theorem A5i {i:Int}:Ra m (Ra m i)=i:=by
 have c:qN m=pN m+m.2.2.2.1.length+2:=rfl;by_cases h1:i<(pN m:Int)
 .rw[Fl h1,Fl h1]
 by_cases a:i<(qN m:Int)
 .rw[Ys (i:=i) O1 a,Ys O1 O1];omega
 by_cases b:i<((qN m+m.2.2.2.2.length+2:Nat):Int)
 .rw[Yt (i:=i) O1 b,Yt O1 O1];omega
 have:Ra m i=i:=by unfold Ra;rw[As O1,As O1]
 rw[this,this]
theorem Yw (p:EC h) (k:Yu m) (c:DQ h m.2.2.2.1=0):∀x∈El h m,NOk h (El h m).length x:=by
 have a:(El h m).length=(Bw h m).length:=by rw[H1,Yr]
 rw[a];intro x b;obtain⟨j,f,rfl⟩:=B5 ((0,[]):AD) b;have g:=rO (m:=m) h (i:=(j:Int)) O1 O1;have:=rJ (h:=h) k.rng (i:=(Ra m (j:Int)).toNat) O1;rw[show (((Ra m (j:Int)).toNat:Nat):Int)=Ra m (j:Int) by omega,A5i,gO]at this;rw[this];exact A5h (λi d e=>rO h d e) (MN p k c _ (Aq O1))
theorem Yx (p:EC h) (k:Yu m) (c:DQ h m.2.2.2.1=0):A0 (El h m)=A0 (Bw h m)/\Lz (El h m):=by
 have t:(El h m).length=(Bw h m).length:=by rw[H1,Yr]
 have h0:=QM h m;have hs:=KW k h;obtain⟨b,f,r,g,s⟩:=QL O1 h0 (MN p k c);obtain⟨n,o,w,q,y⟩:=QL O1 O1 (Yw p k c);refine⟨?_,λx l=>by have:=(Yw p k c x l).len;omega⟩;unfold A0;rw[At g,At q,IT b f (ABg _) O1,IT n o (ABg _) O1];refine AB3 (·,(0:Int)) ?_;have d:∀i:Int,0<=i->i<((Bw h m).length:Int)->(C1 (El h m)).getD (Ra m i).toNat (0,[])=Ss (Ra m) ((C1 (Bw h m)).getD i.toNat (0,[])):=by
  intro i u v;have:=rJ (h:=h) k.rng (i:=i.toNat) O1;rw[show ((i.toNat:Nat):Int)=i by omega]at this;rw[JT,JT,this];exact AB3 (Prod.mk _) (nF _ _)
 refine W6 (C:=λi=>0<=i/\i<((Bw h m).length:Int)) (ψ:=Ra m) ⟨λi hi=>?_,λi hi a ha=>?_,λi j _ _ e=>A5d m i j e⟩ (GE b) ⟨by omega,by omega⟩ (Fl (by unfold pN;omega)) (by rw[CF];exact h0) (by rw[CF,CF];omega) λi hi=>?_
 .unfold Af;rw[d i hi.1 hi.2];rfl
 .have:=B7 (GE b) ha;rw[CF]at this;exact this
 rw[d i hi.1 hi.2];rfl
section
attribute [local go_sem] Hz aX Pz Vn Kj KD Mj JJ IJ M5
def wM (h:AF) (m:Bj):List AD×Int:=if DQ h m.2.2.2.1≠0 then ([],DQ h m.2.2.2.1) else if (Ck h (A0 (Bw h m)).1).2=true then ((Ck h (A0 (Bw h m)).1).1,0) else ([],12)
def A2m:AW:={ ins:=[FY,ZY],pre:=λ(h,m,_)=>EC h/\Yu m,out:=λ(h,m,_)=>[.p FL (wM h m).1,.p C0 (wM h m).2] }
def Db (h:AF) (a:List AD):List (Nat×Obj) :=
 [(37,.box 98 true [.p FY h,.ag [.sr 200 Sf 0 a.length]]),(200,.nest 57 59 T3 C9 a none)]
attribute [local go_sem] Db
theorem A2n (h:AF) {j:Nat} (a:j<4) (q:AM (Iv.getD j (ByteArray.empty,ByteArray.empty)).1 v=true):Ad h (Iv.getD j (ByteArray.empty,ByteArray.empty)).2=MM h v:=by
 have e:=QG q;rw[<-e];unfold MM;match j,a with
 | 0,_=>exact(At (by decide +kernel)).symm
 | 1,_=>rw[As (by decide +kernel),At (by decide +kernel)];rfl
 | 2,_=>rw[As (by decide +kernel),As (by decide +kernel),At (by decide +kernel)];rfl
 | 3,_=>rw[As (by decide +kernel),As (by decide +kernel),As (by decide +kernel)];rfl
theorem A5j:∀i:Nat,i<4->∀j:Nat,j<4->AM (Iv.getD i (ByteArray.empty,ByteArray.empty)).1 (Iv.getD j (ByteArray.empty,ByteArray.empty)).1=true->i=j:=by decide +kernel
theorem A2o {j:Nat} (hi:i<4) (a:j<4) (b:AM (Iv.getD i (ByteArray.empty,ByteArray.empty)).1 v=true) (c:AM (Iv.getD j (ByteArray.empty,ByteArray.empty)).1 v=true):i=j :=
 A5j i hi j a (BI b (Bp c))
theorem A2p (q:Zm v=true):∃j,j<4/\AM (Iv.getD j (ByteArray.empty,ByteArray.empty)).1 v=true:=by
 unfold Zm at q;simp only[oN]at q;rcases q with ((q|q)|q)|q
 .exact⟨0,by omega,Bp q⟩
 .exact⟨1,by omega,Bp q⟩
 .exact⟨2,by omega,Bp q⟩
 exact⟨3,by omega,Bp q⟩
def nG (h:AF) (v:ByteArray) (A:List AD) (L:List Int) (x:Nat×List AD×List Int):Prop :=
 (∀j,j<x.1->¬AM (Iv.getD j (ByteArray.empty,ByteArray.empty)).1 v=true)/\x.2=(A,L)\/(∃j,j<x.1/\j<4/\AM (Iv.getD j (ByteArray.empty,ByteArray.empty)).1 v=true)/\x.2=(A++[vkF h v],L++[(A.length:Int)])
theorem A7V {A:List AD} {j:Nat} (c:nG h v A L (j,Z,M)) (a:j<4) (q:AM (Iv.getD j (ByteArray.empty,ByteArray.empty)).1 v=true) :
  nG h v A L (j+1,Ix h Z (Iv.getD j (ByteArray.empty,ByteArray.empty)).2,M++[(Z.length:Int)]):=by
 rcases c with ⟨h1,b⟩|⟨⟨i,d,e,f⟩,-⟩
 .cases b;refine .inr ⟨⟨j,AB7 j,a,q⟩,?_⟩;unfold Ix vkF;rw[A2n h a q]
 have:=A2o e a f q;simp only at d;omega
theorem A7W {A:List AD} {j:Nat} (b:nG h v A L (j,Z,M)) (q:AM (Iv.getD j (ByteArray.empty,ByteArray.empty)).1 v=false):nG h v A L (j+1,Z,M):=by
 rcases b with ⟨h1,a⟩|⟨⟨i,c,d,f⟩,a⟩
 .refine .inl ⟨λi hi=>?_,a⟩;by_cases e:i=j
  .rw[e,q];simp
  exact h1 i (by simp only at hi ⊢;omega)
 exact .inr ⟨⟨i,by simp only at c ⊢;omega,d,f⟩,a⟩
theorem A7X {A:List AD} {j:Nat} (b:nG h v A L (j,Z,M)) (d:4<=j) (q:Zm v=true):Z=A++[vkF h v]/\M=L++[(A.length:Int)]:=by
 rcases b with ⟨h1,a⟩|⟨-,a⟩
 .obtain⟨i,e,c⟩:=A2p q;exact absurd c (h1 i (by simp only;omega))
 cases a;exact⟨rfl,rfl⟩
theorem A2q {A:List AD} {j:Nat} (b:nG h v A L (j,Z,M)):Z.length<=A.length+1/\M.length<=L.length+1:=by
 rcases b with ⟨h1,a⟩|⟨-,a⟩<;>cases a<;>simp
theorem MO (b k:Nat):EH b (k+1)=EH b k++[((b+k:Nat):Int)]:=by simp[EH,AAA]
theorem A5k {b:Nat} {x:Int} (a:0<=x) (c:x<(k:Int)):(EH b k).getD x.toNat 0=(b:Int)+x:=by
 have:x.toNat<k:=by omega
 simp[EH,AS,this];omega
def iT (h:AF):List AD:=[(Ad h ⟨#[115,105,103,110]⟩,[(A8 h ⟨#[83,69,77]⟩,1)]),(Ad h ⟨#[115,101,109]⟩,[])]
def wN (h:AF) (a:List ByteArray) (i:Nat):List AD:=iT h++(a.take i).map (vkF h)
def rQ (h:AF) (b:List ByteArray) (a:List G8) (i:Nat):List AD:=iT h++b.map (vkF h)++(a.take i).map (rkF h)
def nH (h:AF) (A:List AD) (e:G8) (q:Nat):List AD:=A++[(Ad h e.1,(A8 h ⟨#[76,65,66,69,76]⟩,2+e.2.1) :: (e.2.2.take q).map λa=>(A8 h a.1,2+a.2))]
theorem A5l (h:AF) (A:List AD) (e:G8) (q:Nat):(nH h A e q).length=A.length+1:=by simp[nH]
theorem QN (A:List AD) (x:AD):(A++[x]).getD ((A.length:Int)).toNat (0,[])=x:=by simp[AS]
theorem A5m (h:AF) (A:List AD) (e:G8) (q:Nat) (a:e.2.2.length<=10):((nH h A e q).getD ((A.length:Int)).toNat (0,[])).2.length<=100000:=by
 unfold nH;rw[QN];simp only[Is,aS,Of];omega
theorem A9y (h:AF) (A:List AD) (e:G8):Dx (Ix h A e.1) (A.length:Int) (A8 h ⟨#[76,65,66,69,76]⟩) (2+e.2.1)=nH h A e 0:=by
 unfold Ix nH;exact HD A [] _ _ _ _ _ rfl
theorem A9z (h:AF) (A:List AD) (e:G8) {q:Nat} (b:q<e.2.2.length):Dx (nH h A e q) (A.length:Int) (A8 h (e.2.2.getD q (ByteArray.empty,0)).1) (2+(e.2.2.getD q (ByteArray.empty,0)).2)=nH h A e (q+1):=by
 unfold nH;rw[Mk (λa:Sj=>(A8 h a.1,2+a.2)) e.2.2 (ByteArray.empty,0) b];exact HD A [] _ _ _ _ _ rfl
theorem rR (h:AF) (A:List AD) (e:G8):nH h A e e.2.2.length=A++[rkF h e]:=by
 unfold nH rkF;rw[BY (OS _)]
theorem AAk (h:AF) (A:List AD) (q:Sk):Dx (Ix h A ⟨#[113,101,113]⟩) (A.length:Int) (A8 h ⟨#[72,73,71,72]⟩) (2+q.1)=A++[(Ad h ⟨#[113,101,113]⟩,[(A8 h ⟨#[72,73,71,72]⟩,2+q.1)])]:=by
 unfold Ix;exact HD A [] _ _ _ _ _ rfl
theorem AAl (h:AF) (A:List AD) (q:Sk):Dx (A++[(Ad h ⟨#[113,101,113]⟩,[(A8 h ⟨#[72,73,71,72]⟩,2+q.1)])]) (A.length:Int) (A8 h ⟨#[76,79,87]⟩) (2+q.2)=A++[ckF h q]:=by
 unfold ckF;exact HD A [] _ _ _ _ _ rfl
theorem rS (h:AF) (a:List ByteArray) (b:List G8):wN h a a.length=rQ h a b 0:=by simp[wN,rQ]
def wG (h:AF) (b:List ByteArray) (a:List G8) (cs:List Sk) (i:Nat):List AD:=iT h++b.map (vkF h)++a.map (rkF h)++(cs.take i).map (ckF h)
theorem bG (h:AF) (a:List ByteArray) (hi:i<=a.length):(wN h a i).length=2+i:=by simp[wN,iT];omega
theorem iU (h:AF) (a:List ByteArray) (hi:i<a.length):wN h a (i+1)=wN h a i++[vkF h (a.getD i ByteArray.empty)]:=by
 unfold wN;rw[Mk (vkF h) a ByteArray.empty hi,AA8]
theorem rT (h:AF) (b:List ByteArray) (a:List G8) (hi:i<=a.length):(rQ h b a i).length=2+b.length+i:=by simp[rQ,iT];omega
theorem iV (h:AF) (b:List ByteArray) (a:List G8) (hi:i<a.length):rQ h b a (i+1)=rQ h b a i++[rkF h (a.getD i (ByteArray.empty,0,[]))]:=by
 unfold rQ;rw[Mk (rkF h) a (ByteArray.empty,0,[]) hi];simp only[AA8]
theorem rU (h:AF) (b:List ByteArray) (a:List G8) (cs:List Sk):rQ h b a a.length=wG h b a cs 0:=by simp[rQ,wG]
def QR (h:AF) (m:Bj) (L:List (Int×Int)):List AD:=(Ad h ⟨#[115,105,103,110]⟩,[(A8 h ⟨#[83,69,77]⟩,1)]) :: (Ad h ⟨#[115,101,109]⟩,L) :: Wb h m
theorem rV (h:AF) (tp ix:Int) (b:List ByteArray) (a:List G8) (cs:List Sk):wG h b a cs cs.length=QR h (tp,ix,b,a,cs) []:=by simp[wG,iT,QR,Wb]
theorem A5n (h:AF) (m:Bj) (L:List (Int×Int)) (D:List AD) (e x:Int):Dx (QR h m L++D) 1 e x=QR h m (L++[(e,x)])++D:=HD [(Ad h ⟨#[115,105,103,110]⟩,[(A8 h ⟨#[83,69,77]⟩,1)])] (Wb h m++D) (Ad h ⟨#[115,101,109]⟩) L 1 e x rfl
theorem A2r (h:AF) (m:Bj) (L:List (Int×Int)):(QR h m L).length=pN m:=by
 have:=Tg h m;have:2<=pN m:=by unfold pN;omega
 simp[QR,Tg];omega
theorem bH (h:AF) (m:Bj) (L:List (Int×Int)) (D:List AD) (a:L.length<=10):((QR h m L++D).getD (1:Int).toNat (0,[])).2.length<=100000:=by
 show L.length<=100000;omega
theorem AAm (p:EC h) (k:Yu m) (c:DQ h m.2.2.2.1=0) (L:List (Int×Int)) (D:List AD) (d:L.length<=10) (b:Jd 12 D):Jd 12 (QR h m L++D):=by
 intro x a;unfold QR at a;rw[bY,bY,GO,GO,NO]at a;rcases a with rfl|rfl|a|a
 .simp
 .simp only;omega
 .refine(MN p k c x ?_).len;unfold Bw Su;exact AA6 _ (AA6 _ (IF _ (IF _ a)))
 exact b x a
theorem AAn (h:AF) (n:Nat) (l:List Int):Jd 12 (QQ h n l):=by
 have key:∀(l:List Int) (b:Nat),Jd 12 (rE h b l):=by
  intro l;induction l with
  | nil =>
   intro b x a;rw[rE,oR]at a;subst a;simp
  | cons y l c =>
   intro b x a;rw[rE,GO]at a;rcases a with rfl|a
   .simp
   exact c _ x a
 intro x a;unfold QQ at a;rcases GO.1 a with rfl|a
 .simp
 exact key _ _ x a
theorem A5o (h:AF) (m:Bj):QR h m [(A8 h ⟨#[84,79,80]⟩,2+m.1),(A8 h ⟨#[73,78,68,69,88]⟩,2+m.2.1),(A8 h ⟨#[82,69,76,83]⟩,(pN m:Int)),(A8 h ⟨#[67,79,78,83]⟩,(qN m:Int))]++(QQ h (pN m) (RZ m)++QQ h (qN m) (Wc m))=Bw h m:=by
 unfold Bw;rw[AA8];rfl
theorem A2s (p:EC h) (k:Yu m) (d:DQ h m.2.2.2.1=0):A1d h (A0 (Bw h m)).1/\(A0 (Bw h m)).2=0/\SL (Bw h m):=by
 obtain⟨h1,a,b⟩:=iR p k d;have c:=A7H p.h14 a;generalize AP (C1 (Bw h m)) 0=C at *;rw[h1];exact⟨c,rfl,b⟩
theorem bI (h:AF) (b:List ByteArray) (a:List G8) (cs:List Sk) (hi:i<=cs.length):(wG h b a cs i).length=2+b.length+a.length+i:=by simp[wG,iT];omega
theorem iW (h:AF) (b:List ByteArray) (a:List G8) (cs:List Sk) (hi:i<cs.length):wG h b a cs (i+1)=wG h b a cs i++[ckF h (cs.getD i (0,0))]:=by
 unfold wG;rw[Mk (ckF h) cs (0,0) hi];simp only[AA8]
theorem iX:AY Tryz.prog 19 A2m:=by
 refine fKP [0,1,2,3,4,5,6,7,8,9,10,11,12,14,16,18,19,21,23,24,25,26,27,32,47,48,49,50,53,54,55,56,62,73,74,75,76,92,93,94,95,115,116,117,118,181,191] [36,68,111,141] [] Tryz.func19 Tryz.ntmps19 (AE v7 (AE uW (AE A1e AH))) ?_;rintro w0 O0 ⟨h,⟨tp,ix,b,f,cs⟩,u⟩ c-⟨I,r⟩;have I:EC h:=I;have r:Yu (tp,ix,b,f,cs):=r;have bf:=I.so;have bc:M6 (tp,ix,b,f,cs):=⟨trivial,by have:=r.rels;omega,λe ad=>by have:=r.args e ad;omega,by have:=r.cons;omega⟩;have ca:b.length<=256:=r.vars;have bz:f.length<=4:=r.rels;have br:cs.length<=4:=r.cons;have av:∀e∈f,e.2.2.length<=10:=r.args;have bh:∀v∈b,Zm v=true:=r.srt;have E:Rb (tp,ix,b,f,cs):=r.rng;have ao:wM h (tp,ix,b,f,cs)=if DQ h f≠0 then ([],DQ h f) else if (Ck h (A0 (Bw h (tp,ix,b,f,cs))).1).2=true then ((Ck h (A0 (Bw h (tp,ix,b,f,cs))).1).1,0) else ([],12):=rfl
 have ad:(h.1,h.2)=h:=rfl;simp only[A2m,AK];repeat'(first|exact trivial|apply eS rfl|apply AB|refine rP c ?_ ?_|fail)
 all_goals try simp only[ad]at *
 .exact⟨bf,bc⟩
 refine rC ?_ ?_<;>intro g
 .have g:DQ h f≠0:=by simpa using g
  rw[ao,At g];repeat'(first|exact trivial|apply eS rfl|apply AB|refine rX c ?_ ?_|refine rC ?_ ?_<;>intro g<;>try(cases g;done))
  exact fI c [.cell 4 34,.tmp 5] (by first|exact eR|refine Je ?_;rfl)
 have ak:DQ h f=0:=by simpa using g
 clear g;rw[ao,As (by rw[ak];simp)];repeat'(first|exact trivial|apply eS rfl|apply AB|refine rP c ?_ ?_|fail)
 refine cP 1 c ?_ ?_
 .trivial
 refine WV FY h ?_;refine rL c ?_ ?_
 .trivial
 repeat'(first|exact trivial|apply eS rfl|apply AB|refine rP c ?_ ?_|fail)
 refine cP 1 c ?_ ?_
 .trivial
 refine rM c (Gj h [] sc ⟨#[115,105,103,110]⟩) [(1,.nm 37),(2,.nil)] [] ?_ ?_ ?_
 .first|exact eN|refine eM ?_
 .first|exact eN|refine eM ?_
 rintro _ _ ⟨rfl,rfl⟩;refine⟨[(37,.nm 1),(200,.nm 2)],.p T3 0,Db h ([(Ad h ⟨#[115,105,103,110]⟩,[])]),rfl,rfl,?_,?_,rfl,rfl,?_⟩
 .simp only[Hz,Db,Ix,iN];first|exact eN|refine eM ?_
 .first|exact eN|refine eM ?_
 simp only[Db];refine rN 1 c ?_ ?_
 .trivial
 refine rM c (Gj h [(Ad h ⟨#[115,105,103,110]⟩,[])] sc ⟨#[115,101,109]⟩) [(1,.nm 37),(2,.nm 200)] [200] ?_ ?_ ?_
 .first|exact eN|refine eM ?_
 .first|exact eN|refine eM ?_
 rintro _ _ ⟨rfl,rfl⟩;refine⟨[(37,.nm 1),(200,.nm 2)],.p T3 1,Db h ([(Ad h ⟨#[115,105,103,110]⟩,[]),(Ad h ⟨#[115,101,109]⟩,[])]),rfl,rfl,?_,?_,rfl,rfl,?_⟩
 .simp only[Hz,Db,Ix,ABi];first|exact eN|refine eM ?_
 .first|exact eN|refine eM ?_
  all_goals rfl
 simp only[Db];refine rL c ?_ ?_
 .trivial
 repeat'(first|exact trivial|apply eS rfl|apply AB|refine rP c ?_ ?_|fail)
 refine cP 3 c ?_ ?_
 .trivial
 refine rM c (Ef h [(Ad h ⟨#[115,105,103,110]⟩,[]),(Ad h ⟨#[115,101,109]⟩,[])] sc (n:=0) O1 sc sc ⟨#[83,69,77]⟩ 1) [(1,.nm 37),(2,.nm 200)] [200] ?_ ?_ ?_
 .first|exact eN|refine eM ?_
 .first|exact eN|refine eM ?_
 rintro _ _ ⟨rfl,rfl⟩;refine⟨[(37,.nm 1),(200,.nm 2)],.raw (.tuple #[]),Db h (wN h b 0),rfl,rfl,?_,?_,rfl,rfl,?_⟩
 .simp only[Hz,Db,wN,iT,AB0,ABj,AAv];first|exact eN|refine eM ?_
  exact⟨rfl,rfl⟩
 .first|exact eN|refine eM ?_
 simp only[Db];refine rL c ?_ ?_
 .trivial
 repeat'(first|exact trivial|apply eS rfl|apply AB|refine rP c ?_ ?_|fail)
 refine AI (ι:={i:Nat//i<=b.length}) (λi=>⟨[(2,.bp 2 [] 0),(3,.bp 3 [] 0),(4,.bp 4 [] 0),(7,.bp 37 [] 0),(9,.p T3 1),(10,.sr 69 T3 0 (EH 2 i.1).length),(11,.raw (.slice none 0 0)),(12,.raw (.slice none 0 0)),(47,.p CL b),(48,.p (.int .i64) (b.length:Int)),(49,.p (.int .i64) (i.1:Int))],Db h (wN h b i.1)++[(69,.arr 3 T3 (EH 2 i.1)),(4,.box 34 true [.raw (.slice none 0 0)]),(3,.box 41 true [.p T3 tp,.p T3 ix,.p CL b,.p JC f,.p Kh cs]),(2,.box 26 true [.p M4 h.1,.p N3 h.2])]⟩) (λi=>b.length-i.1) ⟨0,DO _⟩ (AC [(2,.nm 2),(3,.nm 3),(4,.nm 4),(37,.nm 37),(200,.nm 200),(69,.nil)] rfl rfl ?_ ?_) (λi=>?_)
 .simp only[Db,bY,iN];first|exact eN|refine eM ?_
  rfl
 .simp only[Db,bY,iN];first|exact eN|refine eM ?_
  rfl
 obtain⟨i,hi⟩:=i;have y:=bG h b hi;have ae:=DV 2 i;have V:=λq=>iU h b (i:=i) q;have t:=MO 2 i;simp only[Db,bY,iN];repeat'(first|exact trivial|apply eS rfl|apply AB|refine rP c ?_ ?_|fail)
 refine rC ?_ ?_<;>intro g
 .have R:i<b.length:=by exact eV
  have V:=V R;have bi:Zm (b.getD i ByteArray.empty)=true:=bh _ (Aq R);generalize al:wN h b i=A at *;generalize N:EH 2 i=L at *;repeat'(first|exact trivial|apply eS rfl|apply AB|refine rP c ?_ ?_|fail)
  .exact g
  refine cP 0 c ?_ ?_
  .trivial
  refine A8N c ?_;refine rL c ?_ ?_
  .trivial
  repeat'(first|exact trivial|apply eS rfl|apply AB|refine rP c ?_ ?_|fail)
  refine AI (ι:={x:Nat×List AD×List Int//x.1<=4/\nG h (b.getD i ByteArray.empty) A L x}) (λx=>⟨[(2,.bp 2 [] 0),(3,.bp 3 [] 0),(4,.bp 4 [] 0),(7,.bp 37 [] 0),(9,.p T3 1),(10,.sr 69 T3 0 x.1.2.2.length),(11,.raw (.slice none 0 0)),(12,.raw (.slice none 0 0)),(14,.p T9 (b.getD i ByteArray.empty)),(47,.p CL b),(48,.p (.int .i64) (b.length:Int)),(49,.p (.int .i64) (i:Int)),(53,.p T71 Iv),(54,.p (.int .i64) 4),(55,.p (.int .i64) (x.1.1:Int))],Db h x.1.2.1++[(69,.arr 3 T3 (x.1.2.2)),(4,.box 34 true [.raw (.slice none 0 0)]),(3,.box 41 true [.p T3 tp,.p T3 ix,.p CL b,.p JC f,.p Kh cs]),(2,.box 26 true [.p M4 h.1,.p N3 h.2])]⟩) (λx=>4-x.1.1) ⟨(0,A,L),DO _,.inl ⟨λj H=>absurd H (Nat.not_lt_zero j),rfl⟩⟩ (AC [(2,.nm 2),(3,.nm 3),(4,.nm 4),(37,.nm 37),(200,.nm 200),(69,.nm 69)] rfl rfl ?_ ?_) (λx=>?_)
  .simp only[Db,bY,iN];first|exact eN|refine eM ?_
  .simp only[Db,bY,iN];first|exact eN|refine eM ?_
   exact⟨rfl,rfl⟩
  obtain⟨⟨j,Z,M⟩,H,G⟩:=x;simp only at H G;have cc:=A2q G;simp only[Db,bY,iN];repeat'(first|exact trivial|apply eS rfl|apply AB|refine rP c ?_ ?_|fail)
  refine rC ?_ ?_<;>intro g
  .have z:j<4:=by omega
   repeat'(first|exact trivial|apply eS rfl|apply AB|refine rP c ?_ ?_|fail)
   .exact g
   refine rC ?_ ?_<;>intro g
   .repeat'(first|exact trivial|apply eS rfl|apply AB|refine rP c ?_ ?_|fail)
    refine cP 4 c ?_ ?_
    .trivial
    refine rM c (Gj h Z O1 (Iv.getD j (ByteArray.empty,ByteArray.empty)).2) [(1,.nm 37),(2,.nm 200)] [200] ?_ ?_ ?_
    .first|exact eN|refine eM ?_
    .first|exact eN|refine eM ?_
    rintro _ _ ⟨rfl,rfl⟩;refine⟨[(37,.nm 1),(200,.nm 2)],.p T3 (Z.length:Int),Db h (Ix h Z (Iv.getD j (ByteArray.empty,ByteArray.empty)).2),rfl,rfl,?_,?_,rfl,rfl,?_⟩
    .simp only[Hz,Db];first|exact eN|refine eM ?_
    .first|exact eN|refine eM ?_
    simp only[Db];refine rL c ?_ ?_
    .simp only[AO];omega
    repeat'(first|exact trivial|apply eS rfl|apply AB|refine rP c ?_ ?_|fail)
    .exact eV
    refine⟨⟨(j+1,Ix h Z (Iv.getD j (ByteArray.empty,ByteArray.empty)).2,M++[(Z.length:Int)]),by simp only;omega,A7V G z g⟩,by simp only;omega,AC [(2,.nm 2),(3,.nm 3),(4,.nm 4),(37,.nm 37),(200,.nm 200),(69,.nm 69)] rfl rfl ?_ ?_⟩
    .simp only[Db,bY,iN];first|exact eN|refine eM ?_
    simp only[Db,bY,iN];first|exact eN|refine eM ?_
   have g:AM (Iv.getD j (ByteArray.empty,ByteArray.empty)).1 (b.getD i ByteArray.empty)=false:=by simpa using g
   repeat'(first|exact trivial|apply eS rfl|apply AB|refine rP c ?_ ?_|fail)
   .exact eV
   refine⟨⟨(j+1,Z,M),by simp only;omega,A7W G g⟩,by simp only;omega,AC [(2,.nm 2),(3,.nm 3),(4,.nm 4),(37,.nm 37),(200,.nm 200),(69,.nm 69)] rfl rfl ?_ ?_⟩
   .simp only[Db,bY,iN];first|exact eN|refine eM ?_
   simp only[Db,bY,iN];first|exact eN|refine eM ?_
  obtain⟨ap,aq⟩:=A7X G O1 bi;subst ap;subst aq;repeat'(first|exact trivial|apply eS rfl|apply AB|refine rP c ?_ ?_|fail)
  .exact eV
  refine⟨⟨i+1,by omega⟩,by simp only;omega,AC [(2,.nm 2),(3,.nm 3),(4,.nm 4),(37,.nm 37),(200,.nm 200),(69,.nm 69)] rfl rfl ?_ ?_⟩
  .simp only[Db,bY,iN,V,t];first|exact eN|refine eM ?_
   rw[y]
  simp only[Db,bY,iN,V,t];first|exact eN|refine eM ?_
 have R:i=b.length:=by omega
 subst R;repeat'(first|exact trivial|apply eS rfl|apply AB|refine rP c ?_ ?_|fail)
 refine CK [69] ?_;have bl:=rS h b f;have F:=DV 2 b.length;have C:∀x:Int,0<=x->x<(b.length:Int)->(EH 2 b.length).getD x.toNat 0=2+x:=λx bo bq=>A5k bo bq;simp only[bl];refine AI (ι:={k:Nat//k<=f.length}) (λk=>⟨[(2,.bp 2 [] 0),(3,.bp 3 [] 0),(4,.bp 4 [] 0),(7,.bp 37 [] 0),(9,.p T3 1),(10,.p Bz (EH 2 b.length)),(11,.sr 112 T3 0 (EH (2+b.length) k.1).length),(12,.raw (.slice none 0 0)),(73,.p JC f),(74,.p (.int .i64) (f.length:Int)),(75,.p (.int .i64) (k.1:Int))],Db h (rQ h b f k.1)++[(112,.arr 3 T3 (EH (2+b.length) k.1)),(4,.box 34 true [.raw (.slice none 0 0)]),(3,.box 41 true [.p T3 tp,.p T3 ix,.p CL b,.p JC f,.p Kh cs]),(2,.box 26 true [.p M4 h.1,.p N3 h.2])]⟩) (λk=>f.length-k.1) ⟨0,DO _⟩ (AC [(2,.nm 2),(3,.nm 3),(4,.nm 4),(37,.nm 37),(200,.nm 200),(112,.nil)] rfl rfl ?_ ?_) (λk=>?_)
 .simp only[Db,bY,iN];first|exact eN|refine eM ?_
  rfl
 .simp only[Db,bY,iN];first|exact eN|refine eM ?_
  rfl
 obtain⟨k,hk⟩:=k;have y:=rT h b f hk;have ae:=DV (2+b.length) k;have w:=λq=>iV h b f (i:=k) q;have t:=MO (2+b.length) k;simp only[Db,bY,iN];repeat'(first|exact trivial|apply eS rfl|apply AB|refine rP c ?_ ?_|fail)
 refine rC ?_ ?_<;>intro g
 .have S:k<f.length:=by exact eV
  have w:=w S;have P:f.getD k (ByteArray.empty,0,[])∈f:=Aq S;have az:=av _ P;obtain⟨ah,ai⟩:=A2i (m:=(tp,ix,b,f,cs)) P;have o:=E _ ah;have s:∀a∈(f.getD k (ByteArray.empty,0,[])).2.2,0<=a.2/\a.2<(b.length:Int):=λa ha=>E _ (ai a ha);simp only at o;generalize al:rQ h b f k=A at *;generalize N:EH (2+b.length) k=L at *;repeat'(first|exact trivial|apply eS rfl|apply AB|refine rP c ?_ ?_|fail)
  .exact g
  generalize au:f.getD k (ByteArray.empty,0,[])=e at *;have B:=C e.2.1 o.1 o.2;have bm:=Oe h A e.1;have h0:=A9y h A e;rw[<-B]at h0;refine cP 3 c ?_ ?_
  .trivial
  refine rM c (Gj h A O1 e.1) [(1,.nm 37),(2,.nm 200)] [200] ?_ ?_ ?_
  .first|exact eN|refine eM ?_
  .first|exact eN|refine eM ?_
  rintro _ _ ⟨rfl,rfl⟩;refine⟨[(37,.nm 1),(200,.nm 2)],.p T3 (A.length:Int),Db h (Ix h A e.1),rfl,rfl,?_,?_,rfl,rfl,?_⟩
  .simp only[Hz,Db];first|exact eN|refine eM ?_
  .first|exact eN|refine eM ?_
  simp only[Db];refine rL c ?_ ?_
  .trivial
  repeat'(first|exact trivial|apply eS rfl|apply AB|refine rP c ?_ ?_|fail)
  refine cP 7 c ?_ ?_
  .rw[F];exact o
  refine rM c (Ef h (Ix h A e.1) O1 (n:=(A.length:Int)) O1 O1 (by unfold Ix;rw[QN];simp) ⟨#[76,65,66,69,76]⟩ ((EH 2 b.length).getD e.2.1.toNat 0)) [(1,.nm 37),(2,.nm 200)] [200] ?_ ?_ ?_
  .first|exact eN|refine eM ?_
  .first|exact eN|refine eM ?_
  rintro _ _ ⟨rfl,rfl⟩;refine⟨[(37,.nm 1),(200,.nm 2)],.raw (.tuple #[]),Db h (nH h A e 0),rfl,rfl,?_,?_,rfl,rfl,?_⟩
  .simp only[Hz,Db,h0];first|exact eN|refine eM ?_
  .first|exact eN|refine eM ?_
  simp only[Db];have am:=A5l h A e;have aa:=λq=>A5m h A e q az;refine rL c ?_ ?_
  .trivial
  repeat'(first|exact trivial|apply eS rfl|apply AB|refine rP c ?_ ?_|fail)
  refine AI (ι:={q:Nat//q<=e.2.2.length}) (λq=>⟨[(2,.bp 2 [] 0),(3,.bp 3 [] 0),(4,.bp 4 [] 0),(7,.bp 37 [] 0),(9,.p T3 1),(10,.p Bz (EH 2 b.length)),(11,.sr 112 T3 0 L.length),(12,.raw (.slice none 0 0)),(18,.bp 18 [] 0),(19,.p T3 (A.length:Int)),(73,.p JC f),(74,.p (.int .i64) (f.length:Int)),(75,.p (.int .i64) (k:Int)),(92,.p T52 e.2.2),(93,.p (.int .i64) (e.2.2.length:Int)),(94,.p (.int .i64) (q.1:Int))],Db h (nH h A e q.1)++[(112,.arr 3 T3 (L)),(18,.box 54 true [.p T9 e.1,.p T3 e.2.1,.p T52 e.2.2]),(4,.box 34 true [.raw (.slice none 0 0)]),(3,.box 41 true [.p T3 tp,.p T3 ix,.p CL b,.p JC f,.p Kh cs]),(2,.box 26 true [.p M4 h.1,.p N3 h.2])]⟩) (λq=>e.2.2.length-q.1) ⟨0,DO _⟩ (AC [(2,.nm 2),(3,.nm 3),(4,.nm 4),(37,.nm 37),(200,.nm 200),(112,.nm 112),(18,.nm 18)] rfl rfl ?_ ?_) (λq=>?_)
  .simp only[Db,bY,iN];first|exact eN|refine eM ?_
  .simp only[Db,bY,iN];first|exact eN|refine eM ?_
  obtain⟨q,bw⟩:=q;have aa:=aa q;have am:=am q;simp only[Db,bY,iN];repeat'(first|exact trivial|apply eS rfl|apply AB|refine rP c ?_ ?_|fail)
  refine rC ?_ ?_<;>intro g
  .have U:q<e.2.2.length:=by exact eV
   have hs:=A9z h A e U;have ag:=s _ (Aq (d:=(ByteArray.empty,(0:Int))) U);have ba:=C _ ag.1 ag.2;rw[<-ba]at hs;repeat'(first|exact trivial|apply eS rfl|apply AB|refine rP c ?_ ?_|fail)
   .exact g
   refine cD 9 c ?_ ?_
   .rw[F];exact ag
   refine rM c (Ef h (nH h A e q) O1 (n:=(A.length:Int)) O1 O1 aa (e.2.2.getD q (ByteArray.empty,0)).1 ((EH 2 b.length).getD (e.2.2.getD q (ByteArray.empty,0)).2.toNat 0)) [(1,.nm 37),(2,.nm 200)] [200] ?_ ?_ ?_
   .first|exact eN|refine eM ?_
   .first|exact eN|refine eM ?_
   rintro _ _ ⟨rfl,rfl⟩;refine⟨[(37,.nm 1),(200,.nm 2)],.raw (.tuple #[]),Db h (nH h A e (q+1)),rfl,rfl,?_,?_,rfl,rfl,?_⟩
   .simp only[Hz,Db,hs];first|exact eN|refine eM ?_
   .first|exact eN|refine eM ?_
   simp only[Db];refine rL c ?_ ?_
   .trivial
   repeat'(first|exact trivial|apply eS rfl|apply AB|refine rP c ?_ ?_|fail)
   .exact eV
   refine⟨⟨q+1,by omega⟩,by simp only;omega,AC [(2,.nm 2),(3,.nm 3),(4,.nm 4),(37,.nm 37),(200,.nm 200),(112,.nm 112),(18,.nm 18)] rfl rfl ?_ ?_⟩
   .simp only[Db,bY,iN];first|exact eN|refine eM ?_
   simp only[Db,bY,iN];first|exact eN|refine eM ?_
  have U:q=e.2.2.length:=by omega
  subst U;rw[rR,<-w];repeat'(first|exact trivial|apply eS rfl|apply AB|refine rP c ?_ ?_|fail)
  .simp only[AO];omega
  .exact eV
  refine⟨⟨k+1,by omega⟩,by simp only;omega,AC [(2,.nm 2),(3,.nm 3),(4,.nm 4),(37,.nm 37),(200,.nm 200),(112,.nm 112)] rfl rfl ?_ ?_⟩
  .simp only[Db,bY,iN,t,y];first|exact eN|refine eM ?_
  simp only[Db,bY,iN,t,y];first|exact eN|refine eM ?_
 have S:k=f.length:=by omega
 subst S;repeat'(first|exact trivial|apply eS rfl|apply AB|refine rP c ?_ ?_|fail)
 refine CK [112] ?_;have bd:=rU h b f cs;simp only[bd];refine AI (ι:={j:Nat//j<=cs.length}) (λj=>⟨[(2,.bp 2 [] 0),(3,.bp 3 [] 0),(4,.bp 4 [] 0),(7,.bp 37 [] 0),(9,.p T3 1),(10,.p Bz (EH 2 b.length)),(11,.p Bz (EH (2+b.length) f.length)),(12,.sr 142 T3 0 (EH (2+b.length+f.length) j.1).length),(115,.p Kh cs),(116,.p (.int .i64) (cs.length:Int)),(117,.p (.int .i64) (j.1:Int))],Db h (wG h b f cs j.1)++[(142,.arr 3 T3 (EH (2+b.length+f.length) j.1)),(4,.box 34 true [.raw (.slice none 0 0)]),(3,.box 41 true [.p T3 tp,.p T3 ix,.p CL b,.p JC f,.p Kh cs]),(2,.box 26 true [.p M4 h.1,.p N3 h.2])]⟩) (λj=>cs.length-j.1) ⟨0,DO _⟩ (AC [(2,.nm 2),(3,.nm 3),(4,.nm 4),(37,.nm 37),(200,.nm 200),(142,.nil)] rfl rfl ?_ ?_) (λj=>?_)
 .simp only[Db,bY,iN];first|exact eN|refine eM ?_
  rfl
 .simp only[Db,bY,iN];first|exact eN|refine eM ?_
  rfl
 obtain⟨j,H⟩:=j;have y:=bI h b f cs H;have ae:=DV (2+b.length+f.length) j;have w:=λq=>iW h b f cs (i:=j) q;have t:=MO (2+b.length+f.length) j;simp only[Db,bY,iN];repeat'(first|exact trivial|apply eS rfl|apply AB|refine rP c ?_ ?_|fail)
 refine rC ?_ ?_<;>intro g
 .have z:j<cs.length:=by exact eV
  have w:=w z;have P:cs.getD j (0,0)∈cs:=Aq z;obtain⟨ah,ai⟩:=A2j (m:=(tp,ix,b,f,cs)) P;have o:=E _ ah;have s:=E _ ai;simp only at o s;generalize al:wG h b f cs j=A at *;generalize N:EH (2+b.length+f.length) j=L at *;repeat'(first|exact trivial|apply eS rfl|apply AB|refine rP c ?_ ?_|fail)
  .exact g
  generalize au:cs.getD j (0,0)=e at *;have B:=C e.1 o.1 o.2;have Q:=C e.2 s.1 s.2;have bm:=Oe h A ⟨#[113,101,113]⟩;have h1:=AAk h A e;have J:=AAl h A e;rw[<-B]at h1 J;rw[<-Q]at J;rw[<-w]at J;refine cP 1 c ?_ ?_
  .trivial
  refine rM c (Gj h A O1 ⟨#[113,101,113]⟩) [(1,.nm 37),(2,.nm 200)] [200] ?_ ?_ ?_
  .first|exact eN|refine eM ?_
  .first|exact eN|refine eM ?_
  rintro _ _ ⟨rfl,rfl⟩;refine⟨[(37,.nm 1),(200,.nm 2)],.p T3 (A.length:Int),Db h (Ix h A ⟨#[113,101,113]⟩),rfl,rfl,?_,?_,rfl,rfl,?_⟩
  .simp only[Hz,Db];first|exact eN|refine eM ?_
  .first|exact eN|refine eM ?_
  simp only[Db];refine rL c ?_ ?_
  .trivial
  repeat'(first|exact trivial|apply eS rfl|apply AB|refine rP c ?_ ?_|fail)
  refine cP 7 c ?_ ?_
  .rw[F];exact o
  refine rM c (Ef h (Ix h A ⟨#[113,101,113]⟩) O1 (n:=(A.length:Int)) O1 O1 (by unfold Ix;rw[QN];simp) ⟨#[72,73,71,72]⟩ ((EH 2 b.length).getD e.1.toNat 0)) [(1,.nm 37),(2,.nm 200)] [200] ?_ ?_ ?_
  .first|exact eN|refine eM ?_
  .first|exact eN|refine eM ?_
  rintro _ _ ⟨rfl,rfl⟩;refine⟨[(37,.nm 1),(200,.nm 2)],.raw (.tuple #[]),Db h (A++[(Ad h ⟨#[113,101,113]⟩,[(A8 h ⟨#[72,73,71,72]⟩,(EH 2 b.length).getD e.1.toNat 0)])]),rfl,rfl,?_,?_,rfl,rfl,?_⟩
  .simp only[Hz,Db,h1];first|exact eN|refine eM ?_
  .first|exact eN|refine eM ?_
  simp only[Db];refine rL c ?_ ?_
  .trivial
  repeat'(first|exact trivial|apply eS rfl|apply AB|refine rP c ?_ ?_|fail)
  refine cP 7 c ?_ ?_
  .rw[F];exact s
  refine rM c (Ef h (A++[(Ad h ⟨#[113,101,113]⟩,[(A8 h ⟨#[72,73,71,72]⟩,(EH 2 b.length).getD e.1.toNat 0)])]) (by simp only[Do,i5];omega) (n:=(A.length:Int)) O1 (by simp only[Do,i5];omega) (by rw[QN];simp) ⟨#[76,79,87]⟩ ((EH 2 b.length).getD e.2.toNat 0)) [(1,.nm 37),(2,.nm 200)] [200] ?_ ?_ ?_
  .first|exact eN|refine eM ?_
  .first|exact eN|refine eM ?_
  rintro _ _ ⟨rfl,rfl⟩;refine⟨[(37,.nm 1),(200,.nm 2)],.raw (.tuple #[]),Db h (wG h b f cs (j+1)),rfl,rfl,?_,?_,rfl,rfl,?_⟩
  .simp only[Hz,Db,J];first|exact eN|refine eM ?_
  .first|exact eN|refine eM ?_
  simp only[Db];refine rL c ?_ ?_
  .trivial
  repeat'(first|exact trivial|apply eS rfl|apply AB|refine rP c ?_ ?_|fail)
  .simp only[AO];omega
  .exact eV
  have cb:=bI h b f cs z;refine⟨⟨j+1,by omega⟩,by simp only;omega,AC [(2,.nm 2),(3,.nm 3),(4,.nm 4),(37,.nm 37),(200,.nm 200),(142,.nm 142)] rfl rfl ?_ ?_⟩
  .simp only[Db,bY,iN,t,y];first|exact eN|refine eM ?_
  simp only[Db,bY,iN,t,y];first|exact eN|refine eM ?_
 have z:j=cs.length:=by omega
 subst z;repeat'(first|exact trivial|apply eS rfl|apply AB|refine rP c ?_ ?_|fail)
 refine CK [142] ?_;have an:=rV h tp ix b f cs;simp only[an];clear an w y ae t;obtain⟨bj,bk⟩:=rH (tp,ix,b,f,cs);have o:=E _ bj;have s:=E _ bk;simp only at o s;have B:=C tp o.1 o.2;have Q:=C ix s.1 s.2;have bv:pN (tp,ix,b,f,cs)=2+b.length+f.length+cs.length:=rfl;have bx:qN (tp,ix,b,f,cs)=pN (tp,ix,b,f,cs)+f.length+2:=rfl;have be:RZ (tp,ix,b,f,cs)=EH (2+b.length) f.length:=rfl;have ax:Wc (tp,ix,b,f,cs)=EH (2+b.length+f.length) cs.length:=rfl;have l:=A2r h (tp,ix,b,f,cs);have W:=A5n h (tp,ix,b,f,cs) [] [] (A8 h ⟨#[84,79,80]⟩) ((EH 2 b.length).getD tp.toNat 0);have X:=A5n h (tp,ix,b,f,cs) [(A8 h ⟨#[84,79,80]⟩,2+tp)] [] (A8 h ⟨#[73,78,68,69,88]⟩) ((EH 2 b.length).getD ix.toNat 0);simp only[AAv,iN,ABi]at W X;rw[B]at W;rw[Q]at X;have T:=A5o h (tp,ix,b,f,cs);simp only at T;have af:=λL D (N:L.length<=10) ar=>AAm I r ak L D N ar;obtain⟨bb,aw,bg⟩:=A2s I r ak;generalize bu:(tp,ix,b,f,cs)=m at *;have bt:=DV (2+b.length) f.length;have bs:=DV (2+b.length+f.length) cs.length;have O:=My h (pN m) (EH (2+b.length) f.length);refine cP 7 c ?_ ?_
 .rw[F];exact o
 refine rM c (Ef h (QR h m []) (by rw[l];omega) (n:=1) O1 (by rw[l];omega) (by simpa using bH h m [] [] sc) ⟨#[84,79,80]⟩ ((EH 2 b.length).getD tp.toNat 0)) [(1,.nm 37),(2,.nm 200)] [200] ?_ ?_ ?_
 .first|exact eN|refine eM ?_
 .first|exact eN|refine eM ?_
 rintro _ _ ⟨rfl,rfl⟩;refine⟨[(37,.nm 1),(200,.nm 2)],.raw (.tuple #[]),Db h (QR h m [(A8 h ⟨#[84,79,80]⟩,2+tp)]),rfl,rfl,?_,?_,rfl,rfl,?_⟩
 .simp only[Hz,Db,B,W,l];first|exact eN|refine eM ?_
 .first|exact eN|refine eM ?_
 simp only[Db];refine rL c ?_ ?_
 .trivial
 repeat'(first|exact trivial|apply eS rfl|apply AB|refine rP c ?_ ?_|fail)
 refine cP 7 c ?_ ?_
 .rw[F];exact s
 refine rM c (Ef h (QR h m [(A8 h ⟨#[84,79,80]⟩,2+tp)]) (by rw[l];omega) (n:=1) O1 (by rw[l];omega) (by simpa using bH h m [(A8 h ⟨#[84,79,80]⟩,2+tp)] [] sc) ⟨#[73,78,68,69,88]⟩ ((EH 2 b.length).getD ix.toNat 0)) [(1,.nm 37),(2,.nm 200)] [200] ?_ ?_ ?_
 .first|exact eN|refine eM ?_
 .first|exact eN|refine eM ?_
 rintro _ _ ⟨rfl,rfl⟩;refine⟨[(37,.nm 1),(200,.nm 2)],.raw (.tuple #[]),Db h (QR h m [(A8 h ⟨#[84,79,80]⟩,2+tp),(A8 h ⟨#[73,78,68,69,88]⟩,2+ix)]),rfl,rfl,?_,?_,rfl,rfl,?_⟩
 .simp only[Hz,Db,Q,X,l];first|exact eN|refine eM ?_
 .first|exact eN|refine eM ?_
 simp only[Db];refine rL c ?_ ?_
 .trivial
 repeat'(first|exact trivial|apply eS rfl|apply AB|refine rP c ?_ ?_|fail)
 refine cP 4 c ?_ ?_
 .trivial
 refine rM c (iL h (QR h m [(A8 h ⟨#[84,79,80]⟩,2+tp),(A8 h ⟨#[73,78,68,69,88]⟩,2+ix)]) (by rw[l];omega) (K:=12) (by simpa using af [(A8 h ⟨#[84,79,80]⟩,2+tp),(A8 h ⟨#[73,78,68,69,88]⟩,2+ix)] [] sc (λx bn=>by cases bn)) O1 (EH (2+b.length) f.length) O1) [(1,.nm 37),(2,.nm 200)] [200] ?_ ?_ ?_
 .first|exact eN|refine eM ?_
 .first|exact eN|refine eM ?_
 rintro _ _ ⟨rfl,rfl⟩;refine⟨[(37,.nm 1),(200,.nm 2)],.p T3 (pN m:Int),Db h (QR h m [(A8 h ⟨#[84,79,80]⟩,2+tp),(A8 h ⟨#[73,78,68,69,88]⟩,2+ix)]++QQ h (pN m) (EH (2+b.length) f.length)),rfl,rfl,?_,?_,rfl,rfl,?_⟩
 .simp only[Hz,Db,rF,l];first|exact eN|refine eM ?_
 .first|exact eN|refine eM ?_
  all_goals rw[l]
 simp only[Db];have aj:=A5n h m [(A8 h ⟨#[84,79,80]⟩,2+tp),(A8 h ⟨#[73,78,68,69,88]⟩,2+ix)] (QQ h (pN m) (EH (2+b.length) f.length)) (A8 h ⟨#[82,69,76,83]⟩) (pN m:Int);simp only[bY,iN]at aj;refine rM c (Ef h (QR h m [(A8 h ⟨#[84,79,80]⟩,2+tp),(A8 h ⟨#[73,78,68,69,88]⟩,2+ix)]++QQ h (pN m) (EH (2+b.length) f.length)) (by rw[Do,l,O];omega) (n:=1) O1 (by rw[Do,l,O];omega) (bH h m [(A8 h ⟨#[84,79,80]⟩,2+tp),(A8 h ⟨#[73,78,68,69,88]⟩,2+ix)] _ sc) ⟨#[82,69,76,83]⟩ (pN m:Int)) [(1,.nm 37),(2,.nm 200)] [200] ?_ ?_ ?_
 .first|exact eN|refine eM ?_
 .first|exact eN|refine eM ?_
 rintro _ _ ⟨rfl,rfl⟩;refine⟨[(37,.nm 1),(200,.nm 2)],.raw (.tuple #[]),Db h (QR h m [(A8 h ⟨#[84,79,80]⟩,2+tp),(A8 h ⟨#[73,78,68,69,88]⟩,2+ix),(A8 h ⟨#[82,69,76,83]⟩,(pN m:Int))]++QQ h (pN m) (EH (2+b.length) f.length)),rfl,rfl,?_,?_,rfl,rfl,?_⟩
 .simp only[Hz,Db,aj];first|exact eN|refine eM ?_
 .first|exact eN|refine eM ?_
 simp only[Db];refine rL c ?_ ?_
 .trivial
 repeat'(first|exact trivial|apply eS rfl|apply AB|refine rP c ?_ ?_|fail)
 have ay:=My h (qN m) (EH (2+b.length+f.length) cs.length);have ab:(QR h m [(A8 h ⟨#[84,79,80]⟩,2+tp),(A8 h ⟨#[73,78,68,69,88]⟩,2+ix),(A8 h ⟨#[82,69,76,83]⟩,(pN m:Int))]++QQ h (pN m) (EH (2+b.length) f.length)).length=qN m:=by rw[Do,l,O];omega
 refine cP 4 c ?_ ?_
 .trivial
 refine rM c (iL h (QR h m [(A8 h ⟨#[84,79,80]⟩,2+tp),(A8 h ⟨#[73,78,68,69,88]⟩,2+ix),(A8 h ⟨#[82,69,76,83]⟩,(pN m:Int))]++QQ h (pN m) (EH (2+b.length) f.length)) (by rw[ab];omega) (K:=12) (af [(A8 h ⟨#[84,79,80]⟩,2+tp),(A8 h ⟨#[73,78,68,69,88]⟩,2+ix),(A8 h ⟨#[82,69,76,83]⟩,(pN m:Int))] _ sc (AAn h _ _)) O1 (EH (2+b.length+f.length) cs.length) O1) [(1,.nm 37),(2,.nm 200)] [200] ?_ ?_ ?_
 .first|exact eN|refine eM ?_
 .first|exact eN|refine eM ?_
 rintro _ _ ⟨rfl,rfl⟩;refine⟨[(37,.nm 1),(200,.nm 2)],.p T3 (qN m:Int),Db h (QR h m [(A8 h ⟨#[84,79,80]⟩,2+tp),(A8 h ⟨#[73,78,68,69,88]⟩,2+ix),(A8 h ⟨#[82,69,76,83]⟩,(pN m:Int))]++(QQ h (pN m) (EH (2+b.length) f.length)++QQ h (qN m) (EH (2+b.length+f.length) cs.length))),rfl,rfl,?_,?_,rfl,rfl,?_⟩
 .simp only[Hz,Db,rF,ab,AA8];first|exact eN|refine eM ?_
 .first|exact eN|refine eM ?_
  all_goals(rw[<-Do,ab])
 simp only[Db];have Y:=A5n h m [(A8 h ⟨#[84,79,80]⟩,2+tp),(A8 h ⟨#[73,78,68,69,88]⟩,2+ix),(A8 h ⟨#[82,69,76,83]⟩,(pN m:Int))] (QQ h (pN m) (EH (2+b.length) f.length)++QQ h (qN m) (EH (2+b.length+f.length) cs.length)) (A8 h ⟨#[67,79,78,83]⟩) (qN m:Int);simp only[bY,iN]at Y;rw[be,ax]at T;rw[T]at Y;refine rM c (Ef h (QR h m [(A8 h ⟨#[84,79,80]⟩,2+tp),(A8 h ⟨#[73,78,68,69,88]⟩,2+ix),(A8 h ⟨#[82,69,76,83]⟩,(pN m:Int))]++(QQ h (pN m) (EH (2+b.length) f.length)++QQ h (qN m) (EH (2+b.length+f.length) cs.length))) (by rw[Do,Do,l,O,ay];omega) (n:=1) O1 (by rw[Do,l];omega) (bH h m [(A8 h ⟨#[84,79,80]⟩,2+tp),(A8 h ⟨#[73,78,68,69,88]⟩,2+ix),(A8 h ⟨#[82,69,76,83]⟩,(pN m:Int))] _ sc) ⟨#[67,79,78,83]⟩ (qN m:Int)) [(1,.nm 37),(2,.nm 200)] [200] ?_ ?_ ?_
 .first|exact eN|refine eM ?_
 .first|exact eN|refine eM ?_
 rintro _ _ ⟨rfl,rfl⟩;refine⟨[(37,.nm 1),(200,.nm 2)],.raw (.tuple #[]),Db h (Bw h m),rfl,rfl,?_,?_,rfl,rfl,?_⟩
 .simp only[Hz,Db,Y];first|exact eN|refine eM ?_
 .first|exact eN|refine eM ?_
 simp only[Db];refine rL c ?_ ?_
 .trivial
 repeat'(first|exact trivial|apply eS rfl|apply AB|refine rP c ?_ ?_|fail)
 refine CK [200] ?_;clear T Y aj X W af;repeat'(first|exact trivial|apply eS rfl|apply AB|refine rP c ?_ ?_|fail)
 .exact bg
 refine rC ?_ ?_<;>intro g
 .exact absurd aw (by simpa using g)
 repeat'(first|exact trivial|apply eS rfl|apply AB|refine rP c ?_ ?_|fail)
 .exact bb
 refine rC ?_ ?_<;>intro g
 .have hf:(Ck h (A0 (Bw h m)).1).2=false:=by simpa using g
  rw[As (by rw[hf];simp)];repeat'(first|exact trivial|apply eS rfl|apply AB|refine rX c ?_ ?_|refine rC ?_ ?_<;>intro g<;>try(cases g;done))
  exact fI c [.cell 4 34,.tmp 5] (by first|exact eR|refine Je ?_;rfl)
 have hf:(Ck h (A0 (Bw h m)).1).2=true:=by simpa using g
 rw[At hf];repeat'(first|exact trivial|apply eS rfl|apply AB|refine rX c ?_ ?_|refine rC ?_ ?_<;>intro g<;>try(cases g;done))
 exact fI c [.cell 4 34,.tmp 5]
end
section
attribute [local go_sem] bA NW aY a9 aZ WY Z5 Kj KD Mj JJ IJ M5
def Wd (h:AF) (m:Bj):List AD×Int:=if DQ h m.2.2.2.1≠0 then ([],DQ h m.2.2.2.1) else A0 (El h m)
def bJ:AW:={ ins:=[FY,ZY],pre:=λ(h,m,_)=>EC h/\Yu m,out:=λ(h,m,_)=>[.p FL (Wd h m).1,.p C0 (Wd h m).2] }
def rwL (h:AF) (e:G8) (q:Nat):List (Int×Int):=(A8 h ⟨#[76,65,66,69,76]⟩,2+e.2.1) :: (e.2.2.take q).map λa=>(A8 h a.1,2+a.2)
theorem A5q (h:AF) (e:G8) {q:Nat} (a:q<=e.2.2.length):(rwL h e q).length=q+1:=by simp[rwL];omega
theorem A9A (h:AF) (e:G8) {q:Nat} (b:q<e.2.2.length):rwL h e (q+1)=rwL h e q++[(A8 h (e.2.2.getD q (ByteArray.empty,0)).1,2+(e.2.2.getD q (ByteArray.empty,0)).2)]:=by
 unfold rwL;rw[Mk (λa:Sj=>(A8 h a.1,2+a.2)) e.2.2 (ByteArray.empty,0) b];rfl
theorem A5r (h:AF) (e:G8):(Ad h e.1,rwL h e e.2.2.length)=rkF h e:=by
 unfold rwL rkF;rw[BY (OS _)]
theorem A2t:AY Tryz.prog 22 bJ:=by
 refine fKP [0,1,2,3,4,5,6,7,8,9,10,11,12,13,14,15,16,17,18,19,20,21,22,23,28,54,72,106,151,255,259] [39,95,134,141,168,182,189,221,231,239,247,263,273] [] Tryz.func22 Tryz.ntmps22 (AE wA (AE Mr (AE iM (AE iO (AE v8 (AE nD (AE fV AH))))))) ?_;rintro w0 O0 ⟨h,⟨tp,ix,c,b,cs⟩,u⟩ g-⟨K,s⟩;have K:EC h:=K;have s:Yu (tp,ix,c,b,cs):=s;have ap:=K.so;have al:M6 (tp,ix,c,b,cs):=⟨trivial,by have:=s.rels;omega,λe o=>by have:=s.args e o;omega,by have:=s.cons;omega⟩;have be:c.length<=256:=s.vars;have bd:b.length<=4:=s.rels;have aw:cs.length<=4:=s.cons;have ae:∀e∈b,e.2.2.length<=10:=s.args;have y:Rb (tp,ix,c,b,cs):=s.rng;have Y:Wd h (tp,ix,c,b,cs)=if DQ h b≠0 then ([],DQ h b) else A0 (El h (tp,ix,c,b,cs)):=rfl
 have o:(h.1,h.2)=h:=rfl;simp only[bJ,AK];repeat'(first|exact trivial|apply eS rfl|apply AB|refine rP g ?_ ?_|fail)
 all_goals try simp only[o]at *
 .exact⟨ap,K.h14.ok,al⟩
 refine rC ?_ ?_<;>intro n
 .have n:DQ h b≠0:=by simpa using n
  rw[Y,At n];repeat'(first|exact trivial|apply eS rfl|apply AB|refine rX g ?_ ?_|refine rC ?_ ?_<;>intro n<;>try(cases n;done))
  exact fI g [.cell 4 34,.tmp 5] (by first|exact eR|refine Je ?_;rfl)
 have aa:DQ h b=0:=by simpa using n
 clear n;rw[Y,As (by rw[aa];simp)];repeat'(first|exact trivial|apply eS rfl|apply AB|refine rP g ?_ ?_|fail)
 refine rX g ?_ ?_
 .decide
 repeat'(first|exact trivial|apply eS rfl|apply AB|refine rP g ?_ ?_|fail)
 refine CK [40] ?_;try simp only[o]
 repeat'(first|exact trivial|apply eS rfl|apply AB|refine rX g ?_ ?_|refine rC ?_ ?_<;>intro n<;>try(cases n;done))
 have bf:=λi (hi:i<=c.length)=>bG h c hi;refine AI (ι:={i:Nat//i<=c.length}) (λi=>⟨[(2,.bp 2 [] 0),(3,.bp 3 [] 0),(4,.bp 4 [] 0),(7,.bp 7 [] 0),(9,.p (.int .i64) (i.1:Int))],[(7,.box 34 true [.p HJ (wN h c i.1)]),(4,.box 34 true [.raw (.slice none 0 0)]),(3,.box 41 true [.p T3 tp,.p T3 ix,.p CL c,.p JC b,.p Kh cs]),(2,.box 26 true [.p M4 h.1,.p N3 h.2])]⟩) (λi=>c.length-i.1) ⟨0,DO _⟩ (AC [(2,.nm 2),(3,.nm 3),(4,.nm 4),(7,.nm 7)] rfl rfl ?_ ?_) (λi=>?_)
 .first|exact eN|refine eM ?_
  all_goals rfl
 .first|exact eN|refine eM ?_
  all_goals rfl
 obtain⟨i,hi⟩:=i;have r:=bG h c hi;have A:=λq=>iU h c (i:=i) q;simp only;repeat'(first|exact trivial|apply eS rfl|apply AB|refine rP g ?_ ?_|fail)
 refine rC ?_ ?_<;>intro n
 .have v:i<c.length:=by exact eV
  have A:=A v;unfold vkF at A;repeat'(first|exact trivial|apply eS rfl|apply AB|refine rX g ?_ ?_|refine rC ?_ ?_<;>intro n<;>try(cases n;done))
  .refine⟨n,?_⟩;rw[r];omega
  .exact eV
  try simp only[o]
  refine⟨⟨i+1,by omega⟩,by simp only;omega,AC [(2,.nm 2),(3,.nm 3),(4,.nm 4),(7,.nm 7)] rfl rfl ?_ ?_⟩
  .simp only[A];first|exact eN|refine eM ?_
  simp only[A];first|exact eN|refine eM ?_
 have v:i=c.length:=by exact eV
 subst v;have av:=rS h c b;simp only[av];clear A r;repeat'(first|exact trivial|apply eS rfl|apply AB|refine rP g ?_ ?_|fail)
 refine AI (ι:={k:Nat//k<=b.length}) (λk=>⟨[(2,.bp 2 [] 0),(3,.bp 3 [] 0),(4,.bp 4 [] 0),(7,.bp 7 [] 0),(10,.sr 67 T3 0 (EH (2+c.length) k.1).length),(11,.p (.int .i64) (k.1:Int))],[(67,.arr 3 T3 (EH (2+c.length) k.1)),(7,.box 34 true [.p HJ (rQ h c b k.1)]),(4,.box 34 true [.raw (.slice none 0 0)]),(3,.box 41 true [.p T3 tp,.p T3 ix,.p CL c,.p JC b,.p Kh cs]),(2,.box 26 true [.p M4 h.1,.p N3 h.2])]⟩) (λk=>b.length-k.1) ⟨0,DO _⟩ (AC [(2,.nm 2),(3,.nm 3),(4,.nm 4),(7,.nm 7),(67,.nm 67)] rfl rfl ?_ ?_) (λk=>?_)
 .first|exact eN|refine eM ?_
  all_goals rfl
 .first|exact eN|refine eM ?_
  all_goals rfl
 obtain⟨k,hk⟩:=k;have r:=rT h c b hk;have S:=DV (2+c.length) k;have t:=λq=>iV h c b (i:=k) q;have x:=MO (2+c.length) k;simp only;repeat'(first|exact trivial|apply eS rfl|apply AB|refine rP g ?_ ?_|fail)
 refine rC ?_ ?_<;>intro n
 .have T:(k:Int)<(b.length:Int):=n;have D:k<b.length:=by exact eV
  have t:=t D;have N:b.getD k (ByteArray.empty,0,[])∈b:=Aq D;have ax:=ae _ N;obtain⟨V,W⟩:=A2i (m:=(tp,ix,c,b,cs)) N;have E:=y _ V;have H:∀a∈(b.getD k (ByteArray.empty,0,[])).2.2,0<=a.2/\a.2<(c.length:Int):=λa ha=>y _ (W a ha);simp only at E;have bg:=rR h (rQ h c b k) (b.getD k (ByteArray.empty,0,[]));repeat'(first|exact trivial|apply eS rfl|apply AB|refine rP g ?_ ?_|fail)
  refine rX g ?_ ?_
  .exact n
  repeat'(first|exact trivial|apply eS rfl|apply AB|refine rP g ?_ ?_|fail)
  refine rX g ?_ ?_
  .exact⟨n,⟨by omega,by omega⟩,by decide⟩
  try simp only[o]
  repeat'(first|exact trivial|apply eS rfl|apply AB|refine rP g ?_ ?_|fail)
  refine AI (ι:={q:Nat//q<=(b.getD k (ByteArray.empty,0,[])).2.2.length}) (λq=>⟨[(2,.bp 2 [] 0),(3,.bp 3 [] 0),(4,.bp 4 [] 0),(7,.bp 7 [] 0),(10,.sr 67 T3 0 (EH (2+c.length) k).length),(11,.p (.int .i64) (k:Int)),(12,.bp 12 [] 0),(13,.p (.int .i64) (q.1:Int))],[(12,.box 57 true [.p T3 (Ad h (b.getD k (ByteArray.empty,0,[])).1),.sr 96 C9 0 (rwL h (b.getD k (ByteArray.empty,0,[])) q.1).length]),(96,.arr 59 C9 (rwL h (b.getD k (ByteArray.empty,0,[])) q.1)),(67,.arr 3 T3 (EH (2+c.length) k)),(7,.box 34 true [.p HJ (rQ h c b k)]),(4,.box 34 true [.raw (.slice none 0 0)]),(3,.box 41 true [.p T3 tp,.p T3 ix,.p CL c,.p JC b,.p Kh cs]),(2,.box 26 true [.p M4 h.1,.p N3 h.2])]⟩) (λq=>(b.getD k (ByteArray.empty,0,[])).2.2.length-q.1) ⟨0,DO _⟩ (AC [(2,.nm 2),(3,.nm 3),(4,.nm 4),(7,.nm 7),(67,.nm 67),(12,.nm 12),(96,.nm 96)] rfl rfl ?_ ?_) (λq=>?_)
  .first|exact eN|refine eM ?_
   all_goals(first|rfl|exact⟨rfl,rfl⟩)
  .first|exact eN|refine eM ?_
   all_goals(first|rfl|exact⟨rfl,rfl⟩)
  obtain⟨q,am⟩:=q;have ak:=A5q h (b.getD k (ByteArray.empty,0,[])) am;have J:=λz=>A9A h (b.getD k (ByteArray.empty,0,[])) (q:=q) z;simp only;repeat'(first|exact trivial|apply eS rfl|apply AB|refine rP g ?_ ?_|fail)
  .exact T
  refine rC ?_ ?_<;>intro n
  .have L:q<(b.getD k (ByteArray.empty,0,[])).2.2.length:=by exact eV
   have ba:=H _ (Aq (d:=(ByteArray.empty,(0:Int))) L);have J:=J L;repeat'(first|exact trivial|apply eS rfl|apply AB|refine rP g ?_ ?_|fail)
   refine rX g ?_ ?_
   .exact⟨T,n,T,n,⟨by exact eV,by exact eV⟩,by rw[ak];simp only[AO];omega⟩
   try simp only[o]
   rw[<-J];repeat'(first|exact trivial|apply eS rfl|apply AB|refine rP g ?_ ?_|fail)
   .exact eV
   refine⟨⟨q+1,L⟩,by simp only;omega,AC [(2,.nm 2),(3,.nm 3),(4,.nm 4),(7,.nm 7),(67,.nm 67),(12,.nm 12),(96,.nm 96)] rfl rfl ?_ ?_⟩
   .first|exact eN|refine eM ?_
    all_goals(first|rfl|exact⟨rfl,rfl⟩|rw[J,Do];rfl)
   first|exact eN|refine eM ?_
   all_goals(first|rfl|exact⟨rfl,rfl⟩|rw[J,Do];rfl)
  have L:q=(b.getD k (ByteArray.empty,0,[])).2.2.length:=by exact eV
  subst L;have ao:=A5r h (b.getD k (ByteArray.empty,0,[]));repeat'(first|exact trivial|apply eS rfl|apply AB|refine rP g ?_ ?_|fail)
  .simp only[AO];omega
  refine CK [96] ?_;repeat'(first|exact trivial|apply eS rfl|apply AB|refine rP g ?_ ?_|fail)
  .rw[r];omega
  .exact eV
  simp only[ao,<-t];refine⟨⟨k+1,D⟩,by simp only;omega,AC [(2,.nm 2),(3,.nm 3),(4,.nm 4),(7,.nm 7),(67,.nm 67)] rfl rfl ?_ ?_⟩
  .simp only[x,r];first|exact eN|refine eM ?_
  simp only[x,r];first|exact eN|refine eM ?_
 have D:k=b.length:=by exact eV
 subst D;have an:=rU h c b cs;simp only[an];clear t r S x;repeat'(first|exact trivial|apply eS rfl|apply AB|refine rP g ?_ ?_|fail)
 refine CK [67] ?_;refine AI (ι:={j:Nat//j<=cs.length}) (λj=>⟨[(2,.bp 2 [] 0),(3,.bp 3 [] 0),(4,.bp 4 [] 0),(7,.bp 7 [] 0),(10,.p Bz (EH (2+c.length) b.length)),(14,.sr 146 T3 0 (EH (2+c.length+b.length) j.1).length),(15,.p (.int .i64) (j.1:Int))],[(146,.arr 3 T3 (EH (2+c.length+b.length) j.1)),(7,.box 34 true [.p HJ (wG h c b cs j.1)]),(4,.box 34 true [.raw (.slice none 0 0)]),(3,.box 41 true [.p T3 tp,.p T3 ix,.p CL c,.p JC b,.p Kh cs]),(2,.box 26 true [.p M4 h.1,.p N3 h.2])]⟩) (λj=>cs.length-j.1) ⟨0,DO _⟩ (AC [(2,.nm 2),(3,.nm 3),(4,.nm 4),(7,.nm 7),(146,.nm 146)] rfl rfl ?_ ?_) (λj=>?_)
 .first|exact eN|refine eM ?_
  all_goals(first|rfl|exact⟨rfl,rfl⟩)
 .first|exact eN|refine eM ?_
  all_goals(first|rfl|exact⟨rfl,rfl⟩)
 obtain⟨j,aj⟩:=j;have r:=bI h c b cs aj;have S:=DV (2+c.length+b.length) j;have t:=λq=>iW h c b cs (i:=j) q;have x:=MO (2+c.length+b.length) j;simp only;repeat'(first|exact trivial|apply eS rfl|apply AB|refine rP g ?_ ?_|fail)
 refine rC ?_ ?_<;>intro n
 .have C:j<cs.length:=by exact eV
  have t:=t C;unfold ckF at t;have N:cs.getD j (0,0)∈cs:=Aq C;obtain⟨V,W⟩:=A2j (m:=(tp,ix,c,b,cs)) N;have E:=y _ V;have H:=y _ W;simp only at E H;repeat'(first|exact trivial|apply eS rfl|apply AB|refine rP g ?_ ?_|fail)
  refine rX g ?_ ?_
  .exact⟨n,⟨by exact eV,by exact eV⟩,by decide⟩
  try simp only[o]
  repeat'(first|exact trivial|apply eS rfl|apply AB|refine rP g ?_ ?_|fail)
  refine rX g ?_ ?_
  .exact⟨n,⟨by exact eV,by exact eV⟩,by decide⟩
  try simp only[o]
  repeat'(first|exact trivial|apply eS rfl|apply AB|refine rP g ?_ ?_|fail)
  .simp only[AO];omega
  refine CK [169] ?_;repeat'(first|exact trivial|apply eS rfl|apply AB|refine rP g ?_ ?_|fail)
  .rw[r];omega
  .exact eV
  rw[<-t];refine⟨⟨j+1,C⟩,by simp only;omega,AC [(2,.nm 2),(3,.nm 3),(4,.nm 4),(7,.nm 7),(146,.nm 146)] rfl rfl ?_ ?_⟩
  .simp only[x,r];first|exact eN|refine eM ?_
  simp only[x,r];first|exact eN|refine eM ?_
 have C:j=cs.length:=by exact eV
 subst C;have af:=rV h tp ix c b cs;simp only[af];clear t r S x;have B:=A2r h (tp,ix,c,b,cs) [];have bb:pN (tp,ix,c,b,cs)=2+c.length+b.length+cs.length:=rfl;have bc:qN (tp,ix,c,b,cs)=pN (tp,ix,c,b,cs)+b.length+2:=rfl;have I:=DV (2+c.length) b.length;have U:=DV (2+c.length+b.length) cs.length;have P:∀f l,H0 h f l=(f++Wf h f.length l,((f.length+l.length+1:Nat):Int)):=A2e h;have Q:=KV h (pN (tp,ix,c,b,cs)) (EH (2+c.length) b.length);have ag:=KV h (qN (tp,ix,c,b,cs)) (EH (2+c.length+b.length) cs.length);have o:(h.1,h.2)=h:=rfl;repeat'(first|exact trivial|apply eS rfl|apply AB|refine rP g ?_ ?_|fail)
 .rw[B,I];omega
 simp only[o,P,B,I];refine CK [146] ?_;repeat'(first|exact trivial|apply eS rfl|apply AB|refine rP g ?_ ?_|fail)
 .rw[B,Q,I,U];omega
 .have M:(QR h (tp,ix,c,b,cs) []++Wf h (pN (tp,ix,c,b,cs)) (EH (2+c.length) b.length)).length=qN (tp,ix,c,b,cs):=by rw[Do,B,Q,I];omega
  rw[o,P];simp only;rw[Do,M];exact eV
 have M:(QR h (tp,ix,c,b,cs) []++Wf h (pN (tp,ix,c,b,cs)) (EH (2+c.length) b.length)).length=qN (tp,ix,c,b,cs):=by rw[Do,B,Q,I];omega
 simp only[o,P,M,U];obtain⟨ar,au⟩:=rH (tp,ix,c,b,cs);have E:=y _ ar;have H:=y _ au;simp only at E H;have R:((QR h (tp,ix,c,b,cs) []++Wf h (pN (tp,ix,c,b,cs)) (EH (2+c.length) b.length)++Wf h (qN (tp,ix,c,b,cs)) (EH (2+c.length+b.length) cs.length)).getD 1 (0,[])).1=Ad h ⟨#[115,101,109]⟩:=rfl;have O:(QR h (tp,ix,c,b,cs) []++Wf h (pN (tp,ix,c,b,cs)) (EH (2+c.length) b.length)++Wf h (qN (tp,ix,c,b,cs)) (EH (2+c.length+b.length) cs.length)).set 1 (Ad h ⟨#[115,101,109]⟩,[(A8 h ⟨#[84,79,80]⟩,2+tp),(A8 h ⟨#[73,78,68,69,88]⟩,2+ix),(A8 h ⟨#[82,69,76,83]⟩,((pN (tp,ix,c,b,cs)+b.length:Nat):Int)+1),(A8 h ⟨#[67,79,78,83]⟩,((qN (tp,ix,c,b,cs)+cs.length:Nat):Int)+1)])=El h (tp,ix,c,b,cs):=rfl;simp only[R];have aq:=(Yx K s aa).2;have ay:(QR h (tp,ix,c,b,cs) []++Wf h (pN (tp,ix,c,b,cs)) (EH (2+c.length) b.length)++Wf h (qN (tp,ix,c,b,cs)) (EH (2+c.length+b.length) cs.length)).length<=1000:=by
  rw[Do,M,ag,U];omega
 generalize QR h (tp,ix,c,b,cs) []++Wf h (pN (tp,ix,c,b,cs)) (EH (2+c.length) b.length)++Wf h (qN (tp,ix,c,b,cs)) (EH (2+c.length+b.length) cs.length)=F at *;generalize El h (tp,ix,c,b,cs)=G at *;refine rX g ?_ ?_
 .exact⟨⟨by exact eV,by exact eV⟩,by decide⟩
 repeat'(first|exact trivial|apply eS rfl|apply AB|refine rP g ?_ ?_|fail)
 refine rX g ?_ ?_
 .exact⟨⟨by exact eV,by exact eV⟩,by decide⟩
 repeat'(first|exact trivial|apply eS rfl|apply AB|refine rP g ?_ ?_|fail)
 refine rX g ?_ ?_
 .decide
 repeat'(first|exact trivial|apply eS rfl|apply AB|refine rP g ?_ ?_|fail)
 refine rX g ?_ ?_
 .decide
 simp only[o];repeat'(first|exact trivial|apply eS rfl|apply AB|refine rP g ?_ ?_|fail)
 refine CK [222] ?_;have az:G.length=F.length:=by rw[<-O,AAq]
 have ah:∀i,i≠1->G.getD i (0,[])=F.getD i (0,[]):=λi hi=>by
  rw[<-O,AS,ACo (λq=>hi q.symm),AS]
 have R:1<F.length->G.getD 1 (0,[])=(Ad h ⟨#[115,101,109]⟩,[(A8 h ⟨#[84,79,80]⟩,2+tp),(A8 h ⟨#[73,78,68,69,88]⟩,2+ix),(A8 h ⟨#[82,69,76,83]⟩,((pN (tp,ix,c,b,cs)+b.length:Nat):Int)+1),(A8 h ⟨#[67,79,78,83]⟩,((qN (tp,ix,c,b,cs)+cs.length:Nat):Int)+1)]):=λq=>by
  rw[<-O,AS,ACa q];rfl
 generalize ad:([(A8 h ⟨#[84,79,80]⟩,2+tp),(A8 h ⟨#[73,78,68,69,88]⟩,2+ix),(A8 h ⟨#[82,69,76,83]⟩,((pN (tp,ix,c,b,cs)+b.length:Nat):Int)+1),(A8 h ⟨#[67,79,78,83]⟩,((qN (tp,ix,c,b,cs)+cs.length:Nat):Int)+1)]:List (Int×Int))=X at *;clear O ad;refine AI (ι:={i:Nat//i<=F.length}) (λi=>⟨[(2,.bp 2 [] 0),(3,.bp 3 [] 0),(4,.bp 4 [] 0),(7,.bp 7 [] 0),(19,.bp 19 [] 0),(20,.bp 20 [] 0),(21,.p (.int .i64) (i.1:Int))],[(20,.box 34 true [.sr 274 Sf 0 (G.take i.1).length]),(274,.arr 57 Sf (G.take i.1)),(19,.box 57 true [.p T3 (Ad h ⟨#[115,101,109]⟩),.p K2 X]),(7,.box 34 true [.p HJ (F)]),(4,.box 34 true [.raw (.slice none 0 0)]),(3,.box 41 true [.p T3 tp,.p T3 ix,.p CL c,.p JC b,.p Kh cs]),(2,.box 26 true [.p M4 h.1,.p N3 h.2])]⟩) (λi=>F.length-i.1) ⟨0,DO _⟩ (AC [(2,.nm 2),(3,.nm 3),(4,.nm 4),(7,.nm 7),(19,.nm 19),(20,.nm 20),(274,.nil)] rfl rfl ?_ ?_) (λi=>?_)
 .first|exact eN|refine eM ?_
  all_goals(first|rfl|exact⟨rfl,rfl⟩)
 .first|exact eN|refine eM ?_
  all_goals(first|rfl|exact⟨rfl,rfl⟩)
 obtain⟨i,hi⟩:=i;have Z:(G.take i).length=i:=by rw[Of];omega
 have w:=λq:i<G.length=>Ar G (0,[]) q;simp only;repeat'(first|exact trivial|apply eS rfl|apply AB|refine rP g ?_ ?_|fail)
 refine rC ?_ ?_<;>intro n
 .have v:i<F.length:=by exact eV
  have w:=w O1;repeat'(first|exact trivial|apply eS rfl|apply AB|refine rP g ?_ ?_|fail)
  refine rC ?_ ?_<;>intro n
  .have ai:i=1:=by omega
   subst ai;rw[R v]at w;repeat'(first|exact trivial|apply eS rfl|apply AB|refine rP g ?_ ?_|fail)
   .rw[Z];decide
   .exact eV
   refine⟨⟨2,v⟩,by simp only;omega,AC [(2,.nm 2),(3,.nm 3),(4,.nm 4),(7,.nm 7),(19,.nm 19),(20,.nm 20),(274,.nm 274)] rfl rfl ?_ ?_⟩
   .simp only[w];first|exact eN|refine eM ?_
   simp only[w];first|exact eN|refine eM ?_
  rw[ah i O1]at w;repeat'(first|exact trivial|apply eS rfl|apply AB|refine rP g ?_ ?_|fail)
  refine rX g ?_ ?_
  .refine⟨by omega,?_⟩;rw[Z];simp only[AO];omega
  repeat'(first|exact trivial|apply eS rfl|apply AB|refine rP g ?_ ?_|fail)
  .exact eV
  refine⟨⟨i+1,v⟩,by simp only;omega,AC [(2,.nm 2),(3,.nm 3),(4,.nm 4),(7,.nm 7),(19,.nm 19),(20,.nm 20),(274,.nm 274)] rfl rfl ?_ ?_⟩
  .simp only[w];first|exact eN|refine eM ?_
  simp only[w];first|exact eN|refine eM ?_
 have v:i=F.length:=by exact eV
 have ab:G.take i=G:=BY O1;rw[ab];refine CK [274] ?_;repeat'(first|exact trivial|apply eS rfl|apply AB|refine rP g ?_ ?_|fail)
 .exact aq
 exact fI g [.cell 4 34,.tmp 5]
end
section
attribute [local go_sem] JL Kj KD Mj JJ IJ M5
abbrev HE:=ByteArray×Int×Int×List ByteArray×List ByteArray
def A5s:AW:={ ins:=[.int .u8,.int .u8,.int .u8],pre:=λ_=>True,out:=λ(c,a,b,_)=>[.p .bool (CH a b c)] }
attribute [local go_sem] A5s
theorem A7Y:AY Tryz.prog 120 A5s:=by
 refine fK [0,1,2,6] Tryz.func120 Tryz.ntmps120 AH ?_;rintro w0 O0 ⟨c,a,b,u⟩ d - -;simp only[A5s,AK];repeat'(first|exact trivial|apply eS rfl|apply AB|refine rX d ?_ ?_|refine rC ?_ ?_<;>intro e<;>try(cases e;done))
 exact fI d [.tmp 6] (by first|exact eR|refine Je ?_;rfl)
def nxB (r:HE) (c:Int):Bool:=r.2.2.1==0&&decide (r.2.1<(r.1.size:Int))&&NL r.1 r.2.1.toNat==c
def A5t:AW:={ ins:=[Wq,.int .u8],pre:=λ(r,_,_)=>0<=(r:HE).2.1,out:=λ(r,c,_)=>[.p .bool (nxB r c)] }
attribute [local go_sem] A5t
theorem A2u:AY Tryz.prog 121 A5t:=by
 refine fK [0,1,2,4] Tryz.func121 Tryz.ntmps121 AH ?_;rintro w0 O0 ⟨⟨s,n,e,so,te⟩,c,u⟩ a-h0;have h0:0<=n:=h0;simp only[A5t,AK];repeat'(first|exact trivial|apply eS rfl|apply AB|refine rX a ?_ ?_|refine rC ?_ ?_<;>intro b<;>try(cases b;done))
 .intro q;simp only[An,IN]at q;exact⟨h0,q.2⟩
 exact fI a [.tmp 4] (by first|exact eR|refine Je ?_;rfl)
def iY:AW:={ ins:=[Wq,T9],pre:=λ(r,w,_)=>ByteArray.size (r:HE).1<=1000/\(r:HE).2.2.1=0/\0<=(r:HE).2.1/\(r:HE).2.1+(ByteArray.size w:Int)<=(ByteArray.size (r:HE).1:Int)/\∀i,i<ByteArray.size w->NL (r:HE).1 ((r:HE).2.1.toNat+i)=NL w i,out:=λ(r,w,_)=>[.p Wq ((r:HE).1,(r:HE).2.1+(ByteArray.size w:Int),(0:Int),(r:HE).2.2.2.1,(r:HE).2.2.2.2)] }
attribute [local go_sem] iY
theorem bK:AY Tryz.prog 70 iY:=by
 refine fK [0,1,2,4,5,14,33] Tryz.func70 Tryz.ntmps70 AH ?_;rintro w0 O0 ⟨⟨s,n,e,so,te⟩,w,u⟩ c-⟨f,h0,h1,d,b⟩;have f:s.size<=1000:=f;have h0:e=0:=h0;have h1:0<=n:=h1;have d:n+(w.size:Int)<=(s.size:Int):=d;have b:∀i,i<w.size->NL s (n.toNat+i)=NL w i:=b;subst h0;dsimp only[Ty.den]at *;simp only[iY,AK];repeat'(first|exact trivial|apply eS rfl|apply AB|refine rX c ?_ ?_|refine rC ?_ ?_<;>intro a<;>try(cases a;done))
 refine AI (ι:={k:Nat//k<=w.size}) (λk=>⟨[(1,.p T9 w),(2,.bp 2 [] 0),(4,.bp 4 [] 0),(5,.p (.int .i64) (k.1:Int))],[(4,.box 133 true [.p T9 ByteArray.empty,.p T3 0,.p C0 0,.raw (.slice none 0 0),.raw (.slice none 0 0)]),(2,.box 133 true [.p T9 s,.p T3 (n+(k.1:Int)),.p C0 0,.p CL so,.p CL te])]⟩) (λk=>w.size-k.1) ⟨0,DO _⟩ (AC [(2,.nm 2),(4,.nm 4)] rfl rfl ?_ ?_) (λk=>?_)
 .first|exact eN|refine eM ?_
  all_goals exact eV
 .first|exact eN|refine eM ?_
  all_goals exact eV
 obtain⟨k,hk⟩:=k;simp only;repeat'(first|exact trivial|apply eS rfl|apply AB|refine rX c ?_ ?_|refine rC ?_ ?_<;>intro a<;>try(cases a;done))
 .exact⟨λ_=>⟨by exact eV,by exact eV⟩,λ_=>a⟩
 .exfalso;rcases a with q|q
  .exact eV
  exact q (by rw[show (n+(k:Int)).toNat=n.toNat+k by exact eV];exact b k (by exact eV))
 .exact eV
 .exact eV
 .refine⟨⟨k+1,by exact eV⟩,by simp only;omega,AC [(2,.nm 2),(4,.nm 4)] rfl rfl ?_ ?_⟩
  .first|exact eN|refine eM ?_
   all_goals exact eV
  first|exact eN|refine eM ?_
  all_goals exact eV
 have e:n+(w.size:Int)=n+(k:Int):=by exact eV
 exact fI c [.cell 4 133] (by rw[e];exact eR)
theorem A7Z (s w:ByteArray) (n:Int) (so te:List ByteArray) (j:s.size<=1000) (h1:0<=n) (f:n+(w.size:Int)<=(s.size:Int)) (c:∀i,i<w.size->NL s (n.toNat+i)=NL w i):BB Tryz.prog 70 [.ag [.p T9 s,.p T3 (n),.p C0 0,.sr 501 T9 0 so.length,.sr 502 T9 0 te.length],.p T9 w] [(501,.arr 9 T9 so),(502,.arr 9 T9 te)] [] (λres d=>res=.ag [.p T9 s,.p T3 (n+(w.size:Int)),.p C0 0,.sr 501 T9 0 so.length,.sr 502 T9 0 te.length]/\d=[(4,.box 133 true [.p T9 s,.p T3 (n+(w.size:Int)),.p C0 0,.sr 501 T9 0 so.length,.sr 502 T9 0 te.length]),(501,.arr 9 T9 so),(502,.arr 9 T9 te)]):=by
 refine Jf [0,1,2,4,5,14,33] [] [] Tryz.func70 Tryz.ntmps70 AH ?_;intro w0 K O0 ρ0 b g h;simp only[Am];repeat'(first|exact trivial|apply eS rfl|apply AB|refine rX b ?_ ?_|refine rC ?_ ?_<;>intro a<;>try(cases a;done))
 refine AI (ι:={k:Nat//k<=w.size}) (λk=>⟨[(1,.p T9 w),(2,.bp 2 [] 0),(4,.bp 4 [] 0),(5,.p (.int .i64) (k.1:Int))],[(4,.box 133 true [.p T9 ByteArray.empty,.p T3 0,.p C0 0,.raw (.slice none 0 0),.raw (.slice none 0 0)]),(2,.box 133 true [.p T9 s,.p T3 (n+(k.1:Int)),.p C0 0,.sr 501 T9 0 so.length,.sr 502 T9 0 te.length]),(501,.arr 9 T9 so),(502,.arr 9 T9 te)]⟩) (λk=>w.size-k.1) ⟨0,DO _⟩ (AC [(2,.nm 2),(4,.nm 4),(501,.nm 501),(502,.nm 502)] rfl rfl ?_ ?_) (λk=>?_)
 .first|exact eN|refine eM ?_
  all_goals exact eV
 .first|exact eN|refine eM ?_
  all_goals exact eV
 obtain⟨k,hk⟩:=k;simp only;repeat'(first|exact trivial|apply eS rfl|apply AB|refine rX b ?_ ?_|refine rC ?_ ?_<;>intro a<;>try(cases a;done))
 .exact⟨λ_=>⟨by exact eV,by exact eV⟩,λ_=>a⟩
 .exfalso;rcases a with q|q
  .exact eV
  exact q (by rw[show (n+(k:Int)).toNat=n.toNat+k by omega];exact c k (by exact eV))
 .exact eV
 .exact eV
 .refine⟨⟨k+1,by exact eV⟩,by simp only;omega,AC [(2,.nm 2),(4,.nm 4),(501,.nm 501),(502,.nm 502)] rfl rfl ?_ ?_⟩
  .first|exact eN|refine eM ?_
   all_goals exact eV
  first|exact eN|refine eM ?_
  all_goals exact eV
 have e:n+(w.size:Int)=n+(k:Int):=by exact eV
 rw[e];refine Ev.ent (σ':=⟨[(4,.bp 4 [] 0)],[(4,.box 133 true [.p T9 s,.p T3 (n+(k:Int)),.p C0 0,.sr 501 T9 0 so.length,.sr 502 T9 0 te.length]),(501,.arr 9 T9 so),(502,.arr 9 T9 te)]⟩) ?_ (AC [(4,.nm 4),(501,.nm 501),(502,.nm 502)] rfl rfl ?_ ?_)
 .exact fM b [.cell 4 133] (.ag [.p T9 s,.p T3 (n+(k:Int)),.p C0 0,.sr 501 T9 0 so.length,.sr 502 T9 0 te.length]) eT ⟨rfl,rfl⟩
 .first|exact eN|refine eM ?_
 first|exact eN|refine eM ?_
theorem rW (s:ByteArray) (n:Int) (so te:List ByteArray) (z:s.size<=1000) (h1:0<=n) (u:n+2<(s.size:Int)) (h:s.extract n.toNat (n+1).toNat=⟨#[104]⟩) (d:NL s (n+1).toNat=48) (j:s.extract (n+1).toNat (n+2).toNat=⟨#[48]⟩) (v:so.length<=10) (w:te.length<=10):BB Tryz.prog 69 [.ag [.p T9 s,.p T3 (n),.p C0 0,.sr 501 T9 0 so.length,.sr 502 T9 0 te.length]] [(501,.arr 9 T9 so),(502,.arr 9 T9 te)] [] (λres t=>res=.tup [.ag [.p T9 s,.p T3 (n+2),.p C0 0,.sr 501 T9 0 (so++[(⟨#[104]⟩:ByteArray)]).length,.sr 502 T9 0 (te++[(⟨#[48]⟩:ByteArray)]).length],.p T3 (te.length:Int)]/\t=[(2,.box 133 true [.p T9 s,.p T3 (n+2),.p C0 0,.sr 501 T9 0 (so++[(⟨#[104]⟩:ByteArray)]).length,.sr 502 T9 0 (te++[(⟨#[48]⟩:ByteArray)]).length]),(501,.arr 9 T9 (so++[(⟨#[104]⟩:ByteArray)])),(502,.arr 9 T9 (te++[(⟨#[48]⟩:ByteArray)]))]):=by
 refine Jf [0,1,2,3,4,5,8,27,56,87] [95,106] [] Tryz.func69 Tryz.ntmps69 (AE SC (AE A7Y AH)) ?_;intro w0 K O0 ρ0 a x y;have r:Zm ⟨#[104]⟩=true:=by decide +kernel
 have f:CH 48 57 48=true:=by decide
 have m:∀n:Int,n+1+((0:Nat):Int)=n+1:=λn=>by omega
 have o:∀n:Int,n+1+((1:Nat):Int)=n+2:=λn=>by omega
 simp only[Am];repeat'(first|exact trivial|apply eS rfl|apply AB|refine rX a ?_ ?_|refine rC ?_ ?_<;>intro b<;>try(cases b;done))
 all_goals try simp only[h,d,r,f]at b ⊢
 .exact eV
 .exfalso;rcases b with q|q
  .omega
  cases q
 .exact eV
 .exact eV
 .exact eV
 .exfalso;rcases b with q|q
  .omega
  cases q
 refine AI (ι:={k:Nat//k<=1}) (λk=>⟨[(1,.bp 1 [] 0),(2,.bp 2 [] 0),(4,.p T9 ⟨#[104]⟩),(5,.p (.int .i64) (n+1))],[(2,.box 133 true [.p T9 ByteArray.empty,.p T3 0,.p C0 0,.raw (.slice none 0 0),.raw (.slice none 0 0)]),(1,.box 133 true [.p T9 s,.p T3 (n+1+(k.1:Int)),.p C0 0,.sr 501 T9 0 so.length,.sr 502 T9 0 te.length]),(501,.arr 9 T9 so),(502,.arr 9 T9 te)]⟩) (λk=>1-k.1) ⟨0,by omega⟩ (AC [(1,.nm 1),(2,.nm 2),(501,.nm 501),(502,.nm 502)] rfl rfl ?_ ?_) (λk=>?_)
 .first|exact eN|refine eM ?_
  all_goals exact eV
 .first|exact eN|refine eM ?_
  all_goals exact eV
 obtain⟨k,hk⟩:=k;simp only;repeat'(first|exact trivial|apply eS rfl|apply AB|refine rP a ?_ ?_|fail)
 refine rX a ?_ ?_
 .exact⟨λq=>⟨by exact eV,q⟩,λ_=>⟨by exact eV,by exact eV⟩⟩
 repeat'(first|exact trivial|apply eS rfl|apply AB|refine rP a ?_ ?_|fail)
 refine rC ?_ ?_<;>intro b
 .have e:k=0:=by
   rcases b.2 with q|q
   .omega
   exact absurd d q
  subst e;repeat'(first|exact trivial|apply eS rfl|apply AB|refine rX a ?_ ?_|refine rC ?_ ?_<;>intro b<;>try(cases b;done))
  .exact eV
  refine⟨⟨1,by omega⟩,by simp only;omega,AC [(1,.nm 1),(2,.nm 2),(501,.nm 501),(502,.nm 502)] rfl rfl ?_ ?_⟩
  .first|exact eN|refine eM ?_
   all_goals exact eV
  first|exact eN|refine eM ?_
  all_goals exact eV
 have l:k=1:=by
  refine By λq=>?_;have e:k=0:=by omega
  subst e;have c:=m n;rw[c]at b;have i:((s.data.getD (n+1).toNat 0).toNat:Int)=48:=d;have:=b ⟨by omega,by rw[i];exact f⟩;exact this.1 rfl
 subst l;have c:=o n;simp only[c];repeat'(first|exact trivial|apply eS rfl|apply AB|refine rP a ?_ ?_|fail)
 .simp only[AO];omega
 refine rX a ?_ ?_
 .simp only[AO];exact⟨⟨by exact eV,by exact eV,by exact eV⟩,by exact eV⟩
 repeat'(first|exact trivial|apply eS rfl|apply AB|refine rP a ?_ ?_|fail)
 refine J5 drawsAny a 6 [([0],5)] [1,2,3,4] (by kernel_rfl) (mxA ?_ ?_)
 .exact eV
 refine mxL a [] ?_ ?_
 .trivial
 refine mxE a ?_ ?_ ?_
 .exact eV
 .trivial
 repeat'(first|exact trivial|apply eS rfl|apply AB|refine rX a ?_ ?_|refine rC ?_ ?_<;>intro b<;>try(cases b;done))
 have g:(te.length:Int)+1-1=(te.length:Int):=by omega
 simp only[g,j];refine Ev.ent (σ':=⟨[(2,.bp 2 [] 0),(3,.p (.int .i64) (te.length:Int))],[(2,.box 133 true [.p T9 s,.p T3 (n+2),.p C0 0,.sr 501 T9 0 (so++[(⟨#[104]⟩:ByteArray)]).length,.sr 502 T9 0 (te++[(⟨#[48]⟩:ByteArray)]).length]),(501,.arr 9 T9 (so++[(⟨#[104]⟩:ByteArray)])),(502,.arr 9 T9 (te++[(⟨#[48]⟩:ByteArray)]))]⟩) ?_ (AC [(2,.nm 2),(501,.nm 501),(502,.nm 502)] rfl rfl ?_ ?_)
 .exact fM a [.cell 2 133,.tmp 3] (.tup [.ag [.p T9 s,.p T3 (n+2),.p C0 0,.sr 501 T9 0 (so++[(⟨#[104]⟩:ByteArray)]).length,.sr 502 T9 0 (te++[(⟨#[48]⟩:ByteArray)]).length],.p T3 (te.length:Int)]) eT ⟨rfl,rfl⟩
 .first|exact eN|refine eM ?_
  all_goals simp
 first|exact eN|refine eM ?_
end
section
attribute [local go_sem] A5s A5t iY ZZ JK Kj KD Mj JJ IJ M5
def rZ:AW:={ ins:=[T9],pre:=λ(s,_)=>(s:ByteArray)=⟨#[48]⟩,out:=λ_=>[.p T3 0,.p C0 0] }
attribute [local go_sem] rZ
theorem A5u:AY Tryz.prog 124 rZ:=by
 refine fK [0,2,3,4,5,6,7,8,17,36,40,47,51,63,72,77] Tryz.func124 Tryz.ntmps124 (AE Uv AH) ?_;rintro w0 O0 ⟨s,u⟩ b-hs;have hs:s=⟨#[48]⟩:=hs;have g:s.size=1:=by rw[hs];rfl
 have h0:((s.data.getD 0 0).toNat:Int)=48:=by rw[hs];rfl
 have d:AM s ⟨#[]⟩=false:=by rw[hs];decide +kernel
 clear hs;simp only[rZ,AK];repeat'(first|exact trivial|apply eS rfl|apply AB|refine rP b ?_ ?_|fail)
 refine rX b ?_ ?_
 .exact id
 repeat'(first|exact trivial|apply eS rfl|apply AB|refine rP b ?_ ?_|fail)
 refine rC (λa=>?_) (λ_=>?_)
 .exfalso;have:=a.2;omega
 repeat'(first|exact trivial|apply eS rfl|apply AB|refine rP b ?_ ?_|fail)
 refine rX b ?_ ?_
 .intro _;exact eV
 repeat'(first|exact trivial|apply eS rfl|apply AB|refine rP b ?_ ?_|fail)
 refine rC (λa=>?_) (λ_=>?_)
 .exfalso;rcases a with q|q
  .rw[d]at q;cases q
  omega
 repeat'(first|exact trivial|apply eS rfl|apply AB|refine rP b ?_ ?_|fail)
 refine AI (ι:={k:Nat//k<=1}) (λk=>⟨[(0,.p T9 s),(4,.p T9 s),(5,.p (.int .i64) (k.1:Int))],[]⟩) (λk=>1-k.1) ⟨0,by omega⟩ (AC [] rfl rfl ?_ ?_) (λk=>?_)
 .first|exact eN|refine eM ?_
 .first|exact eN|refine eM ?_
 obtain⟨k,hk⟩:=k;simp only;repeat'(first|exact trivial|apply eS rfl|apply AB|refine rX b ?_ ?_|refine rC ?_ ?_<;>intro a<;>try(cases a;done))
 .exact eV
 .exfalso;have c:k=0:=by omega
  subst c;rw[h0]at a;exact absurd a dg
 .exact eV
 .have c:k=0:=by exact eV
  subst c;refine⟨⟨1,by omega⟩,by simp only;omega,AC [] rfl rfl ?_ ?_⟩
  .first|exact eN|refine eM ?_
   all_goals rfl
  first|exact eN|refine eM ?_
  all_goals rfl
 refine AI (ι:={j:Nat//j<=1}) (λj=>⟨[(0,.p T9 s),(4,.p T9 s),(6,.p (.int .u64) 0),(7,.p (.int .i64) (j.1:Int))],[]⟩) (λj=>1-j.1) ⟨0,by omega⟩ (AC [] rfl rfl ?_ ?_) (λj=>?_)
 .first|exact eN|refine eM ?_
 .first|exact eN|refine eM ?_
 obtain⟨j,f⟩:=j;simp only;repeat'(first|exact trivial|apply eS rfl|apply AB|refine rP b ?_ ?_|fail)
 refine rC ?_ ?_<;>intro a
 .have e:j=0:=by exact eV
  subst e;repeat'(first|exact trivial|apply eS rfl|apply AB|refine rX b ?_ ?_|refine rC ?_ ?_<;>intro a<;>try(cases a;done))
  .rw[h0];exact⟨a,by decide,by decide⟩
  .rw[h0];decide
  .exfalso;rw[h0]at a;exact absurd a dg
  .rw[h0];decide
  .decide
  refine⟨⟨1,by omega⟩,by simp only;omega,AC [] rfl rfl ?_ ?_⟩
  .first|exact eN|refine eM ?_
   all_goals(first|rfl|(rw[h0];decide))
  first|exact eN|refine eM ?_
  all_goals(first|rfl|(rw[h0];decide))
 repeat'(first|exact trivial|apply eS rfl|apply AB|refine rP b ?_ ?_|fail)
 refine rC ?_ ?_<;>intro a
 .exact absurd a (Int.lt_irrefl _)
 repeat'(first|exact trivial|apply eS rfl|apply AB|refine rP b ?_ ?_|fail)
 refine rC ?_ ?_<;>intro a
 .cases a
 repeat'(first|exact trivial|apply eS rfl|apply AB|refine rX b ?_ ?_|refine rC ?_ ?_<;>intro a<;>try(cases a;done))
 exact fI b [.tmp 2,.tmp 3]
def A80:AW:={ ins:=[Wq],pre:=λ(r,_)=>(r:HE).2.2.2.1=[⟨#[104]⟩,⟨#[104]⟩]/\(r:HE).2.2.2.2=[⟨#[48]⟩,⟨#[48]⟩],out:=λ_=>[.p Bz [0,0],.p CL [⟨#[104]⟩],.p C0 0] }
theorem A81:AY Tryz.prog 74 A80:=by
 refine fK [0,1,2,3,4,5,6,7,8,9,10,11,12,13,14,20,33,44,49,73,77,81,88] Tryz.func74 Tryz.ntmps74 (AE A5u (AE U5 AH)) ?_;rintro w0 O0 ⟨⟨s,n,e,so,te⟩,u⟩ a-⟨h1,d⟩;have h1:so=[⟨#[104]⟩,⟨#[104]⟩]:=h1;have d:te=[⟨#[48]⟩,⟨#[48]⟩]:=d;subst h1;subst d;have m:∀i:Nat,i<2->([(⟨#[48]⟩:ByteArray),⟨#[48]⟩]).getD i ByteArray.empty=⟨#[48]⟩:=λi hi=>by
  match i,hi with
  | 0,_=>rfl
  | 1,_=>rfl
 have l:∀i:Nat,i<2->([0,0]:List Int).take i++[0]=([0,0]:List Int).take (i+1):=λi hi=>by
  match i,hi with
  | 0,_=>rfl
  | 1,_=>rfl
 have hh:∀i:Nat,i<2->([(⟨#[104]⟩:ByteArray),⟨#[104]⟩]).getD i ByteArray.empty=⟨#[104]⟩:=λi hi=>by
  match i,hi with
  | 0,_=>rfl
  | 1,_=>rfl
 have g:o5 [0,0] 0=0:=rfl;simp only[A80,AK];repeat'(first|exact trivial|apply eS rfl|apply AB|refine rP a ?_ ?_|fail)
 refine AI (ι:={i:Nat//i<=2}) (λi=>⟨[(1,.bp 1 [] 0),(5,.sr 15 T3 0 (([0,0]:List Int).take i.1).length),(6,.p (.int .i64) (if i.1=0 then (-1:Int) else 0)),(7,.p (.int .i64) (i.1:Int))],[(15,.arr 3 T3 (([0,0]:List Int).take i.1)),(1,.box 133 true [.p T9 s,.p T3 n,.p C0 e,.p CL [⟨#[104]⟩,⟨#[104]⟩],.p CL [⟨#[48]⟩,⟨#[48]⟩]])]⟩) (λi=>2-i.1) ⟨0,by omega⟩ (AC [(1,.nm 1),(15,.nm 15)] rfl rfl ?_ ?_) (λi=>?_)
 .first|exact eN|refine eM ?_
 .first|exact eN|refine eM ?_
 obtain⟨i,hi⟩:=i;simp only;repeat'(first|exact trivial|apply eS rfl|apply AB|refine rP a ?_ ?_|fail)
 refine rC ?_ ?_<;>intro b
 .have c:i<2:=by exact eV
  repeat'(first|exact trivial|apply eS rfl|apply AB|refine rX a ?_ ?_|refine rC ?_ ?_<;>intro b<;>try(cases b;done))
  .exact⟨b,m i c⟩
  .simp only[AO,Of];omega
  .exact eV
  have h:(if (if i=0 then (-1:Int) else 0)<0 then (0:Int) else (if i=0 then (-1:Int) else 0))=(if i+1=0 then (-1:Int) else 0):=by
   rw[As (ACP i)];by_cases q:i=0
   .rw[At q];rfl
   rw[As q];rfl
  refine⟨⟨i+1,by omega⟩,by simp only;omega,AC [(1,.nm 1),(15,.nm 15)] rfl rfl ?_ ?_⟩
  .simp only[<-l i c];first|exact eN|refine eM ?_
   all_goals(rw[h,As (ACP i)])
  simp only[<-l i c];first|exact eN|refine eM ?_
  all_goals(rw[h,As (ACP i)])
 have c:i=2:=by exact eV
 subst c;repeat'(first|exact trivial|apply eS rfl|apply AB|refine rP a ?_ ?_|fail)
 refine CK [15] ?_;refine AI (ι:={j:Nat//j<=2}) (λj=>⟨[(1,.bp 1 [] 0),(5,.p Bz [0,0]),(6,.p (.int .i64) 0),(10,.p (.int .i64) (j.1:Int))],[(1,.box 133 true [.p T9 s,.p T3 n,.p C0 e,.p CL [⟨#[104]⟩,⟨#[104]⟩],.p CL [⟨#[48]⟩,⟨#[48]⟩]])]⟩) (λj=>2-j.1) ⟨0,by omega⟩ (AC [(1,.nm 1)] rfl rfl ?_ ?_) (λj=>?_)
 .first|exact eN|refine eM ?_
 .first|exact eN|refine eM ?_
 obtain⟨j,o⟩:=j;simp only;repeat'(first|exact trivial|apply eS rfl|apply AB|refine rP a ?_ ?_|fail)
 refine rC ?_ ?_<;>intro b
 .have r:j<2:=by exact eV
  repeat'(first|exact trivial|apply eS rfl|apply AB|refine rP a ?_ ?_|fail)
  refine AI (ι:={k:Nat//k<=j}) (λk=>⟨[(1,.bp 1 [] 0),(5,.p Bz [0,0]),(6,.p (.int .i64) 0),(10,.p (.int .i64) (j:Int)),(11,.p (.int .i64) (k.1:Int))],[(1,.box 133 true [.p T9 s,.p T3 n,.p C0 e,.p CL [⟨#[104]⟩,⟨#[104]⟩],.p CL [⟨#[48]⟩,⟨#[48]⟩]])]⟩) (λk=>j-k.1) ⟨0,by omega⟩ (AC [(1,.nm 1)] rfl rfl ?_ ?_) (λk=>?_)
  .first|exact eN|refine eM ?_
  .first|exact eN|refine eM ?_
  obtain⟨k,hk⟩:=k;simp only;repeat'(first|exact trivial|apply eS rfl|apply AB|refine rX a ?_ ?_|refine rC ?_ ?_<;>intro b<;>try(cases b;done))
  .exact⟨by exact eV,by exact eV,λ_=>by exact eV,λ_=>by exact eV⟩
  .exfalso;have q:=b.2;rw[hh k (by exact eV),hh j (by exact eV)]at q;exact absurd q (by decide +kernel)
  .exact eV
  .refine⟨⟨k+1,by exact eV⟩,by simp only;exact eV,AC [(1,.nm 1)] rfl rfl ?_ ?_⟩
   .first|exact eN|refine eM ?_
   first|exact eN|refine eM ?_
  .exact eV
  refine⟨⟨j+1,by exact eV⟩,by simp only;exact eV,AC [(1,.nm 1)] rfl rfl ?_ ?_⟩
  .first|exact eN|refine eM ?_
  first|exact eN|refine eM ?_
 repeat'(first|exact trivial|apply eS rfl|apply AB|refine rP a ?_ ?_|fail)
 refine rC ?_ ?_<;>intro b
 .exact absurd b dg
 repeat'(first|exact trivial|apply eS rfl|apply AB|refine rP a ?_ ?_|fail)
 refine AI (ι:={i:Nat//i<=1}) (λi=>⟨[(1,.bp 1 [] 0),(5,.p Bz [0,0]),(6,.p (.int .i64) 0),(12,.sr 78 T9 0 (([⟨#[104]⟩]:List ByteArray).take i.1).length),(13,.p (.int .i64) (i.1:Int))],[(78,.arr 9 T9 (([⟨#[104]⟩]:List ByteArray).take i.1)),(1,.box 133 true [.p T9 s,.p T3 n,.p C0 e,.p CL [⟨#[104]⟩,⟨#[104]⟩],.p CL [⟨#[48]⟩,⟨#[48]⟩]])]⟩) (λi=>1-i.1) ⟨0,by omega⟩ (AC [(1,.nm 1),(78,.nm 78)] rfl rfl ?_ ?_) (λi=>?_)
 .first|exact eN|refine eM ?_
 .first|exact eN|refine eM ?_
 obtain⟨i,hi⟩:=i;simp only;repeat'(first|exact trivial|apply eS rfl|apply AB|refine rP a ?_ ?_|fail)
 refine rC ?_ ?_<;>intro b
 .have f:i=0:=by exact eV
  subst f;repeat'(first|exact trivial|apply eS rfl|apply AB|refine rX a ?_ ?_|refine rC ?_ ?_<;>intro b<;>try(cases b;done))
  .rw[g];exact⟨⟨by decide,by decide⟩,by decide⟩
  .decide
  refine⟨⟨1,by omega⟩,by simp only;omega,AC [(1,.nm 1),(78,.nm 78)] rfl rfl ?_ ?_⟩
  .first|exact eN|refine eM ?_
   all_goals(rw[g];rfl)
  first|exact eN|refine eM ?_
  all_goals(rw[g];rfl)
 have f:i=1:=by exact eV
 subst f;repeat'(first|exact trivial|apply eS rfl|apply AB|refine rP a ?_ ?_|fail)
 refine CK [78] ?_;exact fI a [.tmp 2,.tmp 3,.tmp 4]
def A9C (c:Int):HE->Prop:=λr=>r.1.size<=1000/\r.2.2.1=0/\0<=r.2.1/\r.2.1<(r.1.size:Int)/\NL r.1 r.2.1.toNat=c
def nI:AW:={ ins:=[Wq],pre:=λ(r,_)=>A9C 125 r,out:=λ(r,_)=>[.p Wq ((r:HE).1,(r:HE).2.1+1,(0:Int),(r:HE).2.2.2.1,(r:HE).2.2.2.2),.p JC []] }
theorem A2v:AY Tryz.prog 71 nI:=by
 refine fKP [0,1,2,3,4,5,6,7,21,51] [8] [] Tryz.func71 Tryz.ntmps71 (AE A2u (AE bK AH)) ?_;rintro w0 O0 ⟨⟨s,n,e,so,te⟩,u⟩ f-⟨h0,h1,a,d,b⟩;have h0:s.size<=1000:=h0;have h1:e=0:=h1;have a:0<=n:=a;have d:n<(s.size:Int):=d;have b:NL s n.toNat=125:=b;subst h1;have hn:nxB (s,n,0,so,te) 125=true:=by
  unfold nxB;simp only[b];simpa using d
 simp only[nI,AK];repeat'(first|exact trivial|apply eS rfl|apply AB|refine rP f ?_ ?_|fail)
 refine AI (ι:={i:Nat//i<=0}) (λi=>⟨[(1,.bp 1 [] 0),(2,.bp 2 [] 0),(4,.p JC [])],[(2,.box 133 true [.p T9 ByteArray.empty,.p T3 0,.p C0 0,.raw (.slice none 0 0),.raw (.slice none 0 0)]),(1,.box 133 true [.p T9 s,.p T3 n,.p C0 0,.p CL so,.p CL te])]⟩) (λi=>0) ⟨0,by omega⟩ (AC [(1,.nm 1),(2,.nm 2)] rfl rfl ?_ ?_) (λi=>?_)
 .first|exact eN|refine eM ?_
 .first|exact eN|refine eM ?_
 repeat'(first|exact trivial|apply eS rfl|apply AB|refine rX f ?_ ?_|refine rC ?_ ?_<;>intro c<;>try(cases c;done))
 .exact λ_=>a
 .rw[hn]at c;cases c
 .refine⟨h0,a,?_,λi hi=>?_⟩
  .have:((⟨#[125]⟩:ByteArray).size:Int)=1:=rfl;rw[this];exact eV
  have hi:i<1:=hi;have g:i=0:=by omega
  subst g;exact b
 exact fI f [.cell 2 133,.tmp 3] (by first|exact eR|refine Je ?_;rfl)
def nJ:AW:={ ins:=[Wq],pre:=λ(r,_)=>A9C 125 r,out:=λ(r,_)=>[.p Wq ((r:HE).1,(r:HE).2.1+1,(0:Int),(r:HE).2.2.2.1,(r:HE).2.2.2.2),.p Kh []] }
theorem A2w:AY Tryz.prog 72 nJ:=by
 refine fKP [0,1,2,3,4,5,6,20,41] [7] [] Tryz.func72 Tryz.ntmps72 (AE A2u (AE bK AH)) ?_;rintro w0 O0 ⟨⟨s,n,e,so,te⟩,u⟩ f-⟨h0,h1,a,d,b⟩;have h0:s.size<=1000:=h0;have h1:e=0:=h1;have a:0<=n:=a;have d:n<(s.size:Int):=d;have b:NL s n.toNat=125:=b;subst h1;have hn:nxB (s,n,0,so,te) 125=true:=by
  unfold nxB;simp only[b];simpa using d
 simp only[nJ,AK];repeat'(first|exact trivial|apply eS rfl|apply AB|refine rP f ?_ ?_|fail)
 refine AI (ι:={i:Nat//i<=0}) (λi=>⟨[(1,.bp 1 [] 0),(2,.bp 2 [] 0),(4,.p Kh [])],[(2,.box 133 true [.p T9 ByteArray.empty,.p T3 0,.p C0 0,.raw (.slice none 0 0),.raw (.slice none 0 0)]),(1,.box 133 true [.p T9 s,.p T3 n,.p C0 0,.p CL so,.p CL te])]⟩) (λi=>0) ⟨0,by omega⟩ (AC [(1,.nm 1),(2,.nm 2)] rfl rfl ?_ ?_) (λi=>?_)
 .first|exact eN|refine eM ?_
 .first|exact eN|refine eM ?_
 repeat'(first|exact trivial|apply eS rfl|apply AB|refine rX f ?_ ?_|refine rC ?_ ?_<;>intro c<;>try(cases c;done))
 .exact λ_=>a
 .rw[hn]at c;cases c
 .refine⟨h0,a,?_,λi hi=>?_⟩
  .have:((⟨#[125]⟩:ByteArray).size:Int)=1:=rfl;rw[this];exact eV
  have hi:i<1:=hi;have g:i=0:=by omega
  subst g;exact b
 exact fI f [.cell 2 133,.tmp 3] (by first|exact eR|refine Je ?_;rfl)
end
section
attribute [local go_sem] rZ A80 nI nJ iY Qy Kj KD cs2 Mj JJ IJ M5
def A9D:ByteArray:=⟨#[104,48,32,104,48,32,123,125,32,123,125]⟩
def bL:Bj:=(0,0,[⟨#[104]⟩],[],[])
def A82:AW:={ ins:=[T9],pre:=λ(s,_)=>(s:ByteArray)=A9D,out:=λ_=>[.p ZY bL,.p C0 0] }
theorem A83:AY Tryz.prog 30 A82:=by
 refine fKP [0,2,3,4,5,6,7,8,9,10,11,12,13,14,15,16,17,18,21,67,72,83,102,129,171,201] [23,24,26] [] Tryz.func30 Tryz.ntmps30 (AE bK (AE A2v (AE A2w (AE A81 (AE eH AH))))) ?_;rintro w0 O0 ⟨s,u⟩ a-hs;have hs:s=A9D:=hs;have d:s.size=11:=by rw[hs];rfl
 have v1:s.extract 0 1=⟨#[104]⟩:=by rw[hs];decide +kernel
 have r:NL s 1=48:=by rw[hs];rfl
 have t:s.extract 1 2=⟨#[48]⟩:=by rw[hs];decide +kernel
 have v4:s.extract 3 4=⟨#[104]⟩:=by rw[hs];decide +kernel
 have v:NL s 4=48:=by rw[hs];rfl
 have v6:s.extract 4 5=⟨#[48]⟩:=by rw[hs];decide +kernel
 have c2:NL s 2=32:=by rw[hs];rfl
 have h:NL s 5=32:=by rw[hs];rfl
 have k:NL s 6=123:=by rw[hs];rfl
 have l:NL s 7=125:=by rw[hs];rfl
 have m:NL s 8=32:=by rw[hs];rfl
 have n:NL s 9=123:=by rw[hs];rfl
 have g:NL s 10=125:=by rw[hs];rfl
 clear hs;have c:s.size<=1000:=by omega
 have q:OA (0,0,[⟨#[104]⟩],[],[])=0:=by decide +kernel
 simp only[A82,AK];repeat'(first|exact trivial|apply eS rfl|apply AB|refine rP a ?_ ?_|fail)
 refine rC ?_ ?_<;>intro b
 .exfalso;exact eV
 repeat'(first|exact trivial|apply eS rfl|apply AB|refine rP a ?_ ?_|fail)
 refine cP 1 a ?_ ?_
 .trivial
 refine rM a (rW s 0 [] [] c O1 O1 v1 r t sc sc) [(501,.nil),(502,.nil)] [] ?_ ?_ ?_
 .first|exact eN|refine eM ?_
 .first|exact eN|refine eM ?_
 rintro _ _ ⟨rfl,rfl⟩;refine⟨[(302,.nm 2),(501,.nm 501),(502,.nm 502)],.tup [.ag [.p T9 s,.p T3 2,.p C0 0,.sr 501 T9 0 1,.sr 502 T9 0 1],.p T3 0],[(302,.box 133 true [.p T9 s,.p T3 2,.p C0 0,.sr 501 T9 0 1,.sr 502 T9 0 1]),(501,.arr 9 T9 ([⟨#[104]⟩]:List ByteArray)),(502,.arr 9 T9 ([⟨#[48]⟩]:List ByteArray))],rfl,rfl,?_,?_,rfl,rfl,?_⟩
 .first|exact eN|refine eM ?_
  all_goals(first|rfl|decide|exact⟨rfl,rfl⟩)
 .first|exact eN|refine eM ?_
  all_goals(first|rfl|decide|exact⟨rfl,rfl⟩)
 refine rL a ?_ ?_
 .trivial
 repeat'(first|exact trivial|apply eS rfl|apply AB|refine rP a ?_ ?_|fail)
 refine cP 1 a ?_ ?_
 .trivial
 refine rM a (A7Z s ⟨#[32]⟩ 2 [⟨#[104]⟩] [⟨#[48]⟩] c O1 (by rw[d];decide) (λi hi=>by have hi:i<1:=hi;obtain rfl:i=0:=(by omega);exact c2)) [(501,.nm 501),(502,.nm 502)] [302,501,502] ?_ ?_ ?_
 .first|exact eN|refine eM ?_
 .first|exact eN|refine eM ?_
 rintro _ _ ⟨rfl,rfl⟩;refine⟨[(303,.nm 4),(501,.nm 501),(502,.nm 502)],.ag [.p T9 s,.p T3 3,.p C0 0,.sr 501 T9 0 1,.sr 502 T9 0 1],[(303,.box 133 true [.p T9 s,.p T3 3,.p C0 0,.sr 501 T9 0 1,.sr 502 T9 0 1]),(501,.arr 9 T9 ([⟨#[104]⟩]:List ByteArray)),(502,.arr 9 T9 ([⟨#[48]⟩]:List ByteArray))],rfl,rfl,?_,?_,rfl,rfl,?_⟩
 .first|exact eN|refine eM ?_
  all_goals(first|rfl|decide|exact⟨rfl,rfl⟩)
 .first|exact eN|refine eM ?_
  all_goals(first|rfl|decide|exact⟨rfl,rfl⟩)
 refine rL a ?_ ?_
 .trivial
 repeat'(first|exact trivial|apply eS rfl|apply AB|refine rP a ?_ ?_|fail)
 refine cP 1 a ?_ ?_
 .trivial
 refine rM a (rW s 3 [⟨#[104]⟩] [⟨#[48]⟩] c O1 O1 v4 v v6 sc sc) [(501,.nm 501),(502,.nm 502)] [303,501,502] ?_ ?_ ?_
 .first|exact eN|refine eM ?_
 .first|exact eN|refine eM ?_
 rintro _ _ ⟨rfl,rfl⟩;refine⟨[(304,.nm 2),(501,.nm 501),(502,.nm 502)],.tup [.ag [.p T9 s,.p T3 5,.p C0 0,.sr 501 T9 0 2,.sr 502 T9 0 2],.p T3 1],[(304,.box 133 true [.p T9 s,.p T3 5,.p C0 0,.sr 501 T9 0 2,.sr 502 T9 0 2]),(501,.arr 9 T9 ([⟨#[104]⟩,⟨#[104]⟩]:List ByteArray)),(502,.arr 9 T9 ([⟨#[48]⟩,⟨#[48]⟩]:List ByteArray))],rfl,rfl,?_,?_,rfl,rfl,?_⟩
 .first|exact eN|refine eM ?_
  all_goals(first|rfl|decide|exact⟨rfl,rfl⟩)
 .first|exact eN|refine eM ?_
  all_goals(first|rfl|decide|exact⟨rfl,rfl⟩)
 refine rL a ?_ ?_
 .trivial
 repeat'(first|exact trivial|apply eS rfl|apply AB|refine rP a ?_ ?_|fail)
 refine CK [501,502] ?_;have f:(⟨#[32,123]⟩:ByteArray).size=2:=rfl;repeat'(first|exact trivial|apply eS rfl|apply AB|refine rX a ?_ ?_|refine rC ?_ ?_<;>intro b<;>try(cases b;done))
 .refine⟨c,by rw[f,d];decide,λi hi=>?_⟩;have hi:i<2:=hi;rcases (by omega:i=0\/i=1) with rfl|rfl
  .exact h
  exact k
 .exact⟨c,rfl,by show (0:Int)<=5+((⟨#[32,123]⟩:ByteArray).size:Int);omega,by show (5:Int)+((⟨#[32,123]⟩:ByteArray).size:Int)<(s.size:Int);rw[f,d];decide,l⟩
 .refine⟨c,by rw[f];decide,by rw[f,d];decide,λi hi=>?_⟩;have hi:i<2:=hi;rcases (by omega:i=0\/i=1) with rfl|rfl
  .exact m
  exact n
 .exact⟨c,rfl,by show (0:Int)<=5+((⟨#[32,123]⟩:ByteArray).size:Int)+1+((⟨#[32,123]⟩:ByteArray).size:Int);omega,by show (5:Int)+((⟨#[32,123]⟩:ByteArray).size:Int)+1+((⟨#[32,123]⟩:ByteArray).size:Int)<(s.size:Int);rw[f,d];decide,g⟩
 .exfalso;rw[f,d]at b;exact absurd b dg
 .exact⟨by decide,by decide⟩
 refine AI (ι:={i:Nat//i<=0}) (λi=>⟨[(2,.bp 2 [] 0),(9,.bp 9 [] 0),(10,.p Bz [0,0]),(13,.bp 13 [] 0),(14,.p (.int .i64) 0)],[(13,.box 41 true [.p T3 0,.p T3 0,.p CL [⟨#[104]⟩],.raw (.slice none 0 0),.raw (.slice none 0 0)]),(9,.box 41 true [.p T3 0,.p T3 1,.raw (.slice none 0 0),.p JC [],.p Kh []]),(2,.box 41 true [.p T3 0,.p T3 0,.raw (.slice none 0 0),.raw (.slice none 0 0),.raw (.slice none 0 0)])]⟩) (λi=>0) ⟨0,by omega⟩ (AC [(2,.nm 2),(9,.nm 9),(13,.nm 13)] rfl rfl ?_ ?_) (λi=>?_)
 .first|exact eN|refine eM ?_
  all_goals(first|rfl|exact⟨rfl,rfl⟩)
 .first|exact eN|refine eM ?_
  all_goals(first|rfl|exact⟨rfl,rfl⟩)
 repeat'(first|exact trivial|apply eS rfl|apply AB|refine rX a ?_ ?_|refine rC ?_ ?_<;>intro b<;>try(cases b;done))
 refine AI (ι:={j:Nat//j<=0}) (λj=>⟨[(2,.bp 2 [] 0),(9,.bp 9 [] 0),(10,.p Bz [0,0]),(13,.bp 13 [] 0),(17,.p (.int .i64) 0)],[(13,.box 41 true [.p T3 0,.p T3 0,.p CL [⟨#[104]⟩],.raw (.slice none 0 0),.raw (.slice none 0 0)]),(9,.box 41 true [.p T3 0,.p T3 1,.raw (.slice none 0 0),.p JC [],.p Kh []]),(2,.box 41 true [.p T3 0,.p T3 0,.raw (.slice none 0 0),.raw (.slice none 0 0),.raw (.slice none 0 0)])]⟩) (λj=>0) ⟨0,by omega⟩ (AC [(2,.nm 2),(9,.nm 9),(13,.nm 13)] rfl rfl ?_ ?_) (λj=>?_)
 .first|exact eN|refine eM ?_
 .first|exact eN|refine eM ?_
 repeat'(first|exact trivial|apply eS rfl|apply AB|refine rX a ?_ ?_|refine rC ?_ ?_<;>intro b<;>try(cases b;done))
 .exact⟨trivial,by decide,(λe o=>by cases o),by decide⟩
 .exact absurd q b
 exact fI a [.cell 2 41,.tmp 3] (by unfold bL;exact eR)
end
def Dd:AF:=([(ByteArray.mk #[116,111,112],[8191],[],[]),(ByteArray.mk #[105,110,100,101,120],[60],[0],[]),(ByteArray.mk #[108,105,115,116],[193],[0],[]),(ByteArray.mk #[99,111,110,115],[1],[2],[(2,0),(10,2)]),(ByteArray.mk #[100,108,105,115,116],[2],[0],[(6,2),(7,2)]),(ByteArray.mk #[101,110,116,105,116,121],[4],[1],[]),(ByteArray.mk #[101,118,101,110,116],[8],[1],[]),(ByteArray.mk #[104,97,110,100,108,101],[16],[1],[]),(ByteArray.mk #[110,117,108,108],[128],[2],[]),(ByteArray.mk #[113,101,113],[256],[0],[(3,7),(8,7)]),(ByteArray.mk #[114,101,108],[512],[0],[(5,7)]),(ByteArray.mk #[115,101,109],[1024],[0],[(1,4),(4,1),(9,4),(12,7)]),(ByteArray.mk #[115,105,103,110],[2048],[0],[(0,2),(11,11)])],[(ByteArray.mk #[65,82,71,83],12),(ByteArray.mk #[67,79,78,83],11),(ByteArray.mk #[70,73,82,83,84],3),(ByteArray.mk #[72,73,71,72],9),(ByteArray.mk #[73,78,68,69,88],11),(ByteArray.mk #[76,65,66,69,76],10),(ByteArray.mk #[76,65,83,84],4),(ByteArray.mk #[76,73,83,84],4),(ByteArray.mk #[76,79,87],9),(ByteArray.mk #[82,69,76,83],11),(ByteArray.mk #[82,69,83,84],3),(ByteArray.mk #[83,69,77],12),(ByteArray.mk #[84,79,80],11)])
instance baDec:DecidableEq ByteArray:=λa b =>
 if h:a.data.toList=b.data.toList then isTrue (by
  cases a
  cases b
  exact AB3 ByteArray.mk (Array.toList_inj.1 h))
 else isFalse λe=>h (by rw[e])
theorem A2x:((Ms []).1:List (ByteArray×List Int×List Int×List (Int×Int)))=Dd.1:=by decide +kernel
theorem A2y:((Ms []).2:List (ByteArray×Int))=Dd.2:=by decide +kernel
theorem bM:Ms []=Dd:=Prod.ext A2x A2y
theorem A5v:GL Dd:=by rw[<-bM];exact(show GL (if _ then _ else _) by split<;>exact Ge _)
theorem A2z:Iu Dd:=by rw[<-bM];exact(show Iu (if _ then _ else _) by split<;>exact SJ _)
def A9E (h:AF):Bool:=(h.2.all λx=>decide (0<=x.2)&&decide (x.2<(h.1.length:Int)))&&h.1.all λt=>t.2.2.2.all λp=>decide (0<=p.2)&&decide (p.2<(h.1.length:Int))
theorem A84 (e:A9E h=true):bN h:=by
 unfold A9E at e;rw[An,OF,OF]at e;refine⟨λx c=>?_,λt b p a=>?_⟩
 .have:=e.1 x c;simpa using this
 have:=OF.1 (e.2 t b) p a;simpa using this
theorem A5w:bN Dd:=A84 (by decide +kernel)
def r7 (h:AF) (f:List AD):Bool:=decide (f.length<=100)&&f.all λx=>decide (x.2.length<=12)&&(decide (0<=x.1)&&decide (x.1<(h.1.length:Int)))&&x.2.all λa=>(decide (0<=a.1)&&decide (a.1<(h.2.length:Int)))&&(decide (0<=a.2)&&decide (a.2<(f.length:Int)))
theorem A85 (hk:GL h) (hi:Iu h) (hf:bN h) (d:h.2.length<=100000) (e:r7 h f=true):A1d h f/\EU f/\SL f/\∀x∈f,x.2.length<=100:=by
 unfold r7 at e;rw[An,IN,OF]at e;have c:∀x∈f,x.2.length<=12/\(0<=x.1/\x.1<(h.1.length:Int))/\∀a∈x.2,JU h f.length a:=λx b=>by
  have:=e.2 x b;rw[An,An,An,IN,IN,IN,OF]at this;refine⟨this.1.1,this.1.2,λa ha=>?_⟩;have:=this.2 a ha;rw[An,An,An,IN,IN,IN,IN]at this;exact⟨this.1,this.2⟩
 refine⟨⟨hk,hi,hf,d,⟨by omega,λx b=>⟨by have:=(c x b).1;omega,λa ha=>((c x b).2.2 a ha).2⟩⟩,λx b=>(c x b).2.2,λx b=>(c x b).2.1⟩,⟨by omega,λx b=>by have:=(c x b).1;omega⟩,λx b=>⟨by have:=(c x b).1;omega,.inl (c x b).1⟩,λx b=>by have:=(c x b).1;omega⟩
section
attribute [local go_sem] Hp Fc A82 A2m A7Q aQ NW P1 A26 f4 Kj KD Mj JJ IJ M5
theorem AAo {α:Type} (a b c d e f g h i j k:UInt8) (x y:α):(if ({ data:=#[a,b,c,d,e,f,g,h,i,j,k] }:ByteArray).size<=AO then x else y)=x:=At (by show 11<=AO;decide)
attribute [local go_sem] AAo
theorem iZ:(Aa Bm).2=0:=by decide +kernel
theorem Yy:(Aa Bm).1=Dd:=by
 rw[<-bM];unfold Ms;split
 .rename_i q;exact absurd q.2 (by decide +kernel)
 rfl
theorem MP:EC Dd:=by
 rw[<-Yy];exact A2c [] iZ
theorem A9F:Yu bL:=⟨by decide +kernel,by decide +kernel,by decide,by decide,by decide,λe a=>by cases a⟩
def Yz:List AD:=(wM Dd bL).1
theorem A86:(wM Dd bL).2=0:=by decide +kernel
theorem A2A:r7 Dd Yz=true/\0<Yz.length:=by decide +kernel
theorem A87:(RY Dd Yz).2=0/\Yo bL (RY Dd Yz).1=true:=by decide +kernel
theorem A88:(RY Dd [(0,[])]).2=13:=by decide +kernel
theorem A89:AM (Ce Dd (Ad Dd ⟨#[101,118,101,110,116]⟩)) ⟨#[101]⟩=true/\AM (Ce Dd 0) ⟨#[]⟩=true:=by decide +kernel
theorem A8a:0<=Ad Dd ⟨#[101,118,101,110,116]⟩/\Ad Dd ⟨#[101,118,101,110,116]⟩<(Dd.1.length:Int)/\(0:Int)<(Dd.1.length:Int):=by decide +kernel
theorem r8 (e:r7 Dd f=true):AX f/\C2 Dd f/\So Dd f:=by
 obtain⟨h1,-,-,-⟩:=A85 A5v A2z A5w (by decide +kernel) e;exact⟨h1.good,h1.ty,λx b a ha=>(h1.arcs x b a ha).1⟩
def r9:AW:={ ins:=[],pre:=λ_=>True,out:=λ_=>[.p .bool true] }
theorem A5x:AY Tryz.prog 10 r9:=by
 refine fK [0,1,2,3,4,5,6,7,8,10] Tryz.func10 Tryz.ntmps10 (AE lK (AE VI (AE A83 (AE iX (AE A7R (AE A4k (AE A5a (AE Mr (AE iC AH))))))))) ?_;rintro w0 O0 u a - -;have f:Aa Bm=(Dd,0):=Prod.ext Yy iZ;have m:(Dd.1,Dd.2)=Dd:=rfl;simp only[r9,AK];have o:(bL.1,bL.2.1,bL.2.2.1,bL.2.2.2.1,bL.2.2.2.2)=bL:=rfl;have v:(wM Dd bL).1=Yz:=rfl;have c:=r8 A2A.1;have g:=A87;have n:=A2A.2;have ha:=A86;repeat'(first|exact trivial|apply eS rfl|apply AB|refine rP a ?_ ?_|fail)
 all_goals try simp only[f,m,o,v,ha]at *
 .rfl
 .exact⟨MP,A9F⟩
 .exact⟨MP.so,c.1,c.2.1,c.2.2,n⟩
 generalize Yz=G at *;have b:AX [((0:Int),([]:List (Int×Int)))]/\C2 Dd [(0,[])]/\So Dd [(0,[])]:=r8 (by decide +kernel);refine J5 drawsAny a 8 [([0,1,2,3,4,6],7)] [5] (by kernel_rfl) (mxA ?_ ?_)
 .exact⟨MP.so,b.1,b.2.1,b.2.2⟩
 refine mxL a [] ?_ ?_
 .trivial
 refine mxE a ?_ ?_ ?_
 .trivial
 .trivial
 have j:=A88;obtain⟨k,l⟩:=A89;obtain⟨r,s,t⟩:=A8a;have d:(Dd.1,Dd.2)=Dd:=rfl;have p:(bL.1,bL.2.1,bL.2.2.1,bL.2.2.2.1,bL.2.2.2.2)=bL:=rfl;have q:((RY Dd G).1.1,(RY Dd G).1.2.1,(RY Dd G).1.2.2.1,(RY Dd G).1.2.2.2.1,(RY Dd G).1.2.2.2.2)=(RY Dd G).1:=rfl;obtain⟨h,i⟩:=g;repeat'(first|exact trivial|apply eS rfl|apply AB|refine rX a ?_ ?_|refine rC ?_ ?_<;>intro e<;>try(cases e;done))
 .simp only[d];exact⟨λ_=>⟨MP.so.1,r,s⟩,λ_=>⟨MP.so.1,t⟩⟩
 simp only[d,p,q,h,i,j,k,l];exact fI a [.tmp 0] (by first|exact eR|refine Je ?_;rfl)
end
section
attribute [local go_sem] bJ bE bC r9 A2m OP Kj KD Mj JJ IJ M5
theorem A5y (h:bB m=true):Yu m:=by
 unfold bB at h;rw[An,AAb]at h;obtain⟨h1,b,-,c⟩:=A27 h.1;have a:Fa m=0:=By λq=>by
  have:=h.2;unfold OA at this;rw[At q]at this;exact q this
 refine⟨a,h.2,h1,b,?_,c⟩;unfold Fa at a;split at a
 .cases a
 omega
end
section
attribute [local go_sem] bJ bE bC r9 A2m KN L4 A17 Kj KD Mj JJ IJ M5
theorem A5z (p:EC h) (k:Yu m) (e:(wM h m).2=0):∃P ty,VF h P/\P.length<=1000/\Wd h m=(P,0)/\Ff h P=some ty/\wM h m=(Df P ty,0):=by
 have a:wM h m=if DQ h m.2.2.2.1≠0 then ([],DQ h m.2.2.2.1) else if (Ck h (A0 (Bw h m)).1).2=true then ((Ck h (A0 (Bw h m)).1).1,0) else ([],12):=rfl
 have b:Wd h m=if DQ h m.2.2.2.1≠0 then ([],DQ h m.2.2.2.1) else A0 (El h m):=rfl
 by_cases c:DQ h m.2.2.2.1≠0
 .rw[a,At c]at e;exact absurd e c
 have d:DQ h m.2.2.2.1=0:=By c;rw[As c]at a b;rw[(Yx p k d).1]at b;obtain⟨h1,f,-⟩:=iR p k d;obtain⟨g,-⟩:=QL (by have:=KW k h;omega) (QM h m) (MN p k d);have i:(AP (C1 (Bw h m)) 0).length<=1000:=by
  rw[JZ];have:=(IX (GE g) (ABg 0) (by rw[CF];have:=QM h m;omega)).ok.len;rw[CF]at this;have:=KW k h;rw[CF];omega
 generalize AP (C1 (Bw h m)) 0=K at *;rw[h1]at a b;cases hT:Ff h K with
 | none =>
  have a:wM h m=if (Ck h K).2=true then ((Ck h K).1,0) else ([],12):=a
  rw[MC hT,As sc]at a;rw[a]at e;cases e
 | some ty =>
  have a:wM h m=if (Ck h K).2=true then ((Ck h K).1,0) else ([],12):=a
  rw[MB hT,At rfl]at a;exact⟨K,ty,f,i,b,hT,a⟩
def A2B:AW:={ ins:=[Et,ZY],pre:=λ_=>True,out:=λ_=>[.p .bool true] }
theorem A2C:AY Tryz.prog 8 A2B:=by
 refine fK [0,1,3,4,5,6,7,8,9,10,22,31] Tryz.func8 Tryz.ntmps8 (AE A2a (AE A28 (AE A5x (AE iX (AE A2t (AE YH (AE mE (AE A4m AH)))))))) ?_;rintro w0 O0 ⟨d,m,u⟩ a - -;simp only[A2B,AK];have e:(WZ d).2=true->EC (WZ d).1:=A5c;have g:(m.1,m.2.1,m.2.2.1,m.2.2.2.1,m.2.2.2.2)=m:=rfl;generalize s:WZ d=C at *;repeat'(first|exact trivial|apply eS rfl|apply AB|refine rP a ?_ ?_|fail)
 refine rX a ?_ ?_
 .trivial
 simp only[s,g];repeat'(first|exact trivial|apply eS rfl|apply AB|refine rP a ?_ ?_|fail)
 refine rC ?_ ?_<;>intro b
 .repeat'(first|exact trivial|apply eS rfl|apply AB|refine rX a ?_ ?_|refine rC ?_ ?_<;>intro b<;>try(cases b;done))
  exact fI a [.tmp 4]
 have e:=e b.1;have h:=A5y b.2;have f:(C.1.1,C.1.2)=C.1:=rfl;have t:=A5z e h;repeat'(first|exact trivial|apply eS rfl|apply AB|refine rP a ?_ ?_|fail)
 .exact⟨e,h⟩
 simp only[f,g];repeat'(first|exact trivial|apply eS rfl|apply AB|refine rP a ?_ ?_|fail)
 refine rC ?_ ?_<;>intro b
 .repeat'(first|exact trivial|apply eS rfl|apply AB|refine rX a ?_ ?_|refine rC ?_ ?_<;>intro b<;>try(cases b;done))
  exact fI a [.tmp 4]
 have w:(wM C.1 m).2=0:=by simpa using b
 obtain⟨P,ty,c,x,k,i,l⟩:=t w;rw[l];have hh:=e.h14;obtain⟨v1,-,y,h1⟩:=QE hh c i;have c1:=gY hh.hu v1 (by rw[CX];omega);have c2:=vO hh c O1 i;have j:=A4r c.good c.pos c.ro h1;have s1:EU (Df P ty):=v1.small;generalize Df P ty=X at *;repeat'(first|exact trivial|apply eS rfl|apply AB|refine rP a ?_ ?_|fail)
 .exact⟨e,h⟩
 simp only[f,g,k];repeat'(first|exact trivial|apply eS rfl|apply AB|refine rX a ?_ ?_|refine rC ?_ ?_<;>intro b<;>try(cases b;done))
 all_goals simp only[f]
 .have v:C2 C.1 X:=v1.ty;have n:=c.good;have o:=c.pos;have p:=v1.good;have q:=v1.pos;have r:=c.ty;exact⟨λ_=>s1,λ_=>⟨hh.ft,s1,hh.ok⟩,λ_=>⟨n,o,p,q,r,v⟩⟩
 simp only[c1,c2,j];exact fI a [.tmp 4] (by first|exact eR|refine Je ?_;rfl)
end
end Go.Proofs.YtglkoagnnnpimaaGreatDoor.Fw
