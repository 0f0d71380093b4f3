/- Contracts of functions and plain laws. -/
import Derived.Test.YtglkoagnnnpimaaGreatDoorDYB
import Derived.Test.YtglkoagnnnpimaaGreatDoorDYA
import Derived.Test.YtglkoagnnnpimaaGreatDoorDZI
import Derived.Test.YtglkoagnnnpimaaGreatDoorDZJ
set_option linter.unusedVariables false
set_option linter.unusedSimpArgs false
namespace Go.Proofs.YtglkoagnnnpimaaGreatDoor.Fw
attribute [local irreducible] Ev
attribute [local go_sem] oM AL List.toList_toArray B6 evG evK XA FE Ld Ie HL Gf SC Lc Ce Dq PG DR C3 frz sT G0 De BD F9 Bg AV.frz AV.frzs AV.drp AV.drps AV.names AV.namess aq G1 LR LS UL J1 B2 CA Kw EU J4 EV J6 J5 J7 W8 R4 Hl Mn GB Ek W9 S1 qUn Kx JM N0 Fj EK J8 LU E3 UN C6 E4 Fk S2 JN PD Fl PC R6 S3 NX J9 LV Df DJ Fs EL I0 DZ Fm Da E5 Ge DR C9 PA S0 Qy HG J3 J2 LT PE R9 NY N4 N2 LY UO N3 LZ b5 SB SA AV.trn AV.trns ET C5 Obj.trn K5 kK Dd D1 Db E6 Cl Fq Ai lk IZ G8 Iy bin sR ZE sV UM UJ zfx AV.cellss sS zfs pfs AV.cells CW E2 JL GC R8 CX PB Ty.cell1 J0 FI EJ Gc Ix E1 LI NW O9 Gb HF Nz UI W7 NL LH bX jH UK Ia DA Hk RV.flat Ty.flat Ty.size St.add upd del Bl Value.oneCell' ZC Ty.dflt Jz TV JT Tc List.take_succ_cons List.take_zero List.length_cons oQ oT Ta Lv Pi JV M0 A3E HN PX PY PZ Pa Uk Ul Pb KJ Za Option.map_some Option.map_none Option.bind_some Option.getD_some Option.getD_none Option.isNone_none Option.isNone_some Bool.and_true Bool.true_and Bool.and_false Bool.false_and Bool.not_true Bool.not_false if_true if_false List.length_cons List.length_nil and_true true_and and_self List.all_cons List.all_nil List.append_nil List.nil_append List.cons_append List.getElem?_cons_zero List.getElem?_cons_succ List.getElem?_nil List.map_cons List.map_nil List.set_cons_zero List.set_cons_succ List.isEmpty_nil List.isEmpty_cons decide_true decide_false beq_self_eq_true bne_self_eq_false Nat.zero_add Nat.add_zero Nat.sub_zero Int.toNat_natCast Int.toNat_zero Int.toNat_one List.take_length List.length_append List.length_singleton true_or or_true or_self false_or or_false Ty.agg.injEq Ty.slice.injEq Ty.prod.injEq Ty.int.injEq Option.some.injEq beq_iff_eq Lt evMG evMQ opM I9 Nc CH K4 HO Uo K3 I8 KK My Ls Q7 Pe Q8 Uq Pd TX TY Mx Af Al Op.operands Call.operands List.filterMap_cons List.filterMap_nil List.append_eq Bool.cond_false_right Bool.cond_true_left cond_true cond_false implies_true decide_eq_true_eq beq_true beq_false Bool.or_true Bool.or_false Bool.true_or Bool.false_or Option.isSome_some Array.empty_append List.append_toArray GA PH Ft Ib b4 R7 b3 Gd Hb Ha JO Iz LX N1 ZF sU HZ inB La GV HH Lb Ap oX List.drop_zero EE Ih dH DC OH C2 AV.fgt AV.fgts Obj.fgt A4 A1 Af EZ Lx B3 Ly List.any_cons List.any_nil o0 kD dJ kE NN S6 qs List.flatMap_cons List.flatMap_nil List.cons_append tn dP Nf List.take_succ_cons List.drop_succ_cons dR Hw Bh yY RH CZ Cw Ao Fv Lm CC matchAVs DK I7 KH Hs KI
attribute [local go_sem] ty1 ty2 ty3 ty4 ty5 ty9 A76 A77 A78 A79 A7a A7b A7c A7d A7e A7f A7g A7h A7i A7j A7k A7l A7m A7n A7o A7p A7q A7r A7s A7t A7u A7v A7w A7x zB zC zD zE zF zG zH zI zJ zK zL zN zO zP zQ zR zS zT zU zV zW zX zY zZ z0 z4 z5 z6 z7 z8 z9 A00 A01 A02 A03 A04 A05 A06
set_option maxRecDepth 100000
set_option maxHeartbeats 4000000
variable {f Z:List AD} {h:AG} {L M:List Int} {n S:Int} {s y:ByteArray} {i k:Nat} {m:CQ} {l:List (Int×Int)} {R:Exit->Act->World->Prop} {d:List AJ} {Y:Array Oper} {X:List Oper} {w:LW} {W:Type} {V:List GX} {U:List NR} {P:Program} {T:List Cp} {t:TypeId}
section
attribute [local go_sem] Ov Ou WF
def iH (h:AG) (w:LW) (f:List AD) (la:Int) (a out:List Int) (m:Int):Option (List Int×Int) :=
 if m=la then some (if D7 h w (AW f m)=3 then (out,0) else ([],13)) else if m∈a then some ([],6) else if D7 h w (AW f m)=2 then none else some ([],13)
def FT (h:AG) (w:LW) (f:List AD) (la:Int):Nat->List Int->List Int->Int->List Int×Int
 | 0,_,_,_=>([],6)
 | k+1,a,out,m=>match iH h w f la a out m with
  | some r=>r
  | none=>FT h w f la k (a++[m]) (out++[BU (AW f m).2 w.first]) (BU (AW f m).2 w.rest)
def AO (h:AG) (f:List AD) (n:Int):List Int×Int :=
 if LQ h=true then
  if BU (AW f n).2 (Bp h).head<0\/BU (AW f n).2 (Bp h).last<0 then ([],13)
  else FT h (Bp h) f (BU (AW f n).2 (Bp h).last) (f.length+1) [] [] (BU (AW f n).2 (Bp h).head)
 else ([],5)
def Iw (h:AG) (w:LW) (f:List AD) (la:Int) (s:WS):Option (List Int×Int):=iH h w f la s.1 s.2.1 s.2.2.2
def DGo (h:AG) (w:LW) (f:List AD) (la n:Int) (i:Nat):Prop:=∀j,j<i->Iw h w f la (Bd h w f n j)=none
theorem Jv {la:Int} {a out:List Int} {m:Int} (e:iH h w f la a out m=none):m≠la/\m∉a/\D7 h w (AW f m)=2:=by
 unfold iH at e;split at e
 .cases e
 split at e
 .cases e
 split at e
 .exact⟨a4,a4,a4⟩
 cases e
theorem T8 {la n:Int} (a:DGo h w f la n i):WGo h w f n i:=λj b=>⟨(Jv (a j b)).2.2,(Jv (a j b)).2.1⟩
theorem Y2 {h:AG} {w:LW} {f:List AD} {la n:Int} (k:Nat):∀i,DGo h w f la n i->FT h w f la (k+i) [] [] n=FT h w f la k (Bd h w f n i).1 (Bd h w f n i).2.1 (Bd h w f n i).2.2.2
 | 0,_=>rfl
 | i+1,b=>by
  have c:=Y2 (h:=h) (w:=w) (f:=f) (la:=la) (n:=n) (k+1) i (λj d=>b j O1);have a:iH h w f la (Bd h w f n i).1 (Bd h w f n i).2.1 (Bd h w f n i).2.2.2=none:=b i O1;rw[show k+(i+1)=k+1+i by omega,c];rw[FT,a];show _=FT h w f la k (Yy h w f (Bd h w f n i)).1 (Yy h w f (Bd h w f n i)).2.1 (Yy h w f (Bd h w f n i)).2.2.2;unfold Yy;rw[At (Jv a).2.2]
theorem Hi {la n:Int} (hf:AX f) (n0:0<=n) (n1:n<(f.length:Int)) (a:DGo h w f la n i) {r:List Int×Int} (b:Iw h w f la (Bd h w f n i)=some r):FT h w f la (f.length+1) [] [] n=r:=by
 obtain⟨h1,c,d,-⟩:=Qh hf n0 n1 i (T8 a);have e:=h1.len;rw[show f.length+1=(f.length-i)+1+i by omega,Y2 _ _ a,FT,show iH h w f la (Bd h w f n i).1 (Bd h w f n i).2.1 (Bd h w f n i).2.2.2=some r from b]
def dE:List (Nat×AV):=[(4,.bp 4 [] 0),(6,.bp 6 [] 0),(7,.bp 7 [] 0),(8,.bp 8 [] 0),(11,.bp 11 [] 0),(12,.bp 12 [] 0),(13,.bp 13 [] 0)]
def dO (h:AG) (w:LW) (f:List AD) (L:Go.Loop) (a:Array Value) (la:Int) (s:WS) (m:Int) (c:AV) (e:Int):List (Nat×Obj):=[(50,.box 3 false [.p T3 m]),(51,Dl h w),(52,.box 34 true [.p Ij f]),(101,.loop L),(102,.frame a dE),(6,.box 101 false [c]),(7,.box 35 false [.p C0 e]),(8,Dl h w),(4,.box 34 true [.p Ij f]),(11,.box 3 false [.p T3 la]),(12,.box 101 false [.sr 60 T3 0 s.2.1.length]),(60,.arr 3 T3 s.2.1),(13,.box 215 false [.mp 24]),(24,.mapo T3 .bool (LG s.1))]
def DRd (h:AG) (w:LW) (f:List AD) (la n:Int) (L:Go.Loop) (a:Array Value) (i:Nat) (b:Bool) (O:List (Nat×Obj)):Prop :=
 (Iw h w f la (Bd h w f n i)=some ((Bd h w f n i).2.1,0)/\b=false/\O=dO h w f (HD L) a la (Bd h w f n i) (Bd h w f n i).2.2.2 (.sr 60 T3 0 (Bd h w f n i).2.1.length) 0) \/
 (∃e,Iw h w f la (Bd h w f n i)=some ([],e)/\b=false/\O=dO h w f (HD L) a la (Bd h w f n i) (Bd h w f n i).2.2.2 (.raw (.slice none 0 0)) e) \/
 (Iw h w f la (Bd h w f n i)=none/\b=true/\O=dO h w f L a la (Bd h w f n (i+1)) (Bd h w f n i).2.2.2 (.raw (.slice none 0 0)) 0)
theorem wG (h:AG) (w:LW) (f:List AD) (la n:Int) (C:WOk h w) (hf:AX f) (ht:Ck h f) (n0:0<=n) (n1:n<(f.length:Int)) (L:Go.Loop) (d:Array Value)
  (m:∀i,DGo h w f la n i->Xv Tryz.prog 101 [.p T3 (Bd h w f n i).2.2.2] (dO h w f L d la (Bd h w f n i) (Bd h w f n i).2.2.2 (.raw (.slice none 0 0)) 0) [50,51,52,101,102,6,7,8,4,11,12,13,24] (λres l=>∃b,res=.p .bool b/\DRd h w f la n L d i b l)) :
  BE Tryz.prog 187 [.yl 101,.bp 50 [] 0,.bp 51 [] 0,.bp 52 [] 0] (dO h w f L d la (Bd h w f n 0) n (.raw (.slice none 0 0)) 0) [50,51,52,101,102,6,7,8,4,11,12,13,24] (λres l=>res=.raw (.tuple #[])/\∃i,DGo h w f la n i/\DRd h w f la n L d i false l):=by
 refine Jx [0,1,2,3,14] [] [] Tryz.func187 Tryz.ntmps187 (AE gI (AE aH AH)) ?_;intro w0 K O0 ρ0 a A B;simp only[Ap,dO,Dl];have t:=m;clear m;repeat'(first|exact a6|apply eS rfl|apply AB|refine rX a ?_ ?_|refine rC ?_ ?_<;>intro c<;>try(cases c;done))
 refine AI (ι:={i:Nat//DGo h w f la n i}) (λi=>⟨[(0,.yl 101),(1,.bp 50 [] 0),(2,.bp 51 [] 0),(3,.bp 52 [] 0)],dO h w f L d la (Bd h w f n i.1) (Bd h w f n i.1).2.2.2 (.raw (.slice none 0 0)) 0⟩) (λi=>f.length+1-i.1) ⟨0,λj o=>by omega⟩ (AC [(50,.nm 50),(51,.nm 51),(52,.nm 52),(101,.nm 101),(102,.nm 102),(6,.nm 6),(7,.nm 7),(8,.nm 8),(4,.nm 4),(11,.nm 11),(60,.nm 60),(12,.nm 12),(13,.nm 13),(24,.nm 24)] rfl rfl ?_ ?_) (λi=>?_)
 .simp only[dO,Dl,dE,Bd];first|exact eN|refine eM ?_
 .simp only[dO,Dl,dE,Bd];first|exact eN|refine eM ?_
 obtain⟨i,hi⟩:=i;obtain⟨q,v,r,x⟩:=Qh hf n0 n1 i (T8 hi);have u:=t i hi;have y:=q.len;have z:Bd h w f n (i+1)=Yy h w f (Bd h w f n i):=rfl;simp only[dO,Dl,dE];repeat'(first|exact a6|apply eS rfl|apply AB|refine rX a ?_ ?_|refine rC ?_ ?_<;>intro c<;>try(cases c;done))
 refine cG 2 a ?_ ?_
 .trivial
 refine rY 101 101 a (u) [(50,.nm 50),(51,.nm 51),(52,.nm 52),(101,.nm 101),(102,.nm 102),(6,.nm 6),(7,.nm 7),(8,.nm 8),(4,.nm 4),(11,.nm 11),(60,.nm 60),(12,.nm 12),(13,.nm 13),(24,.nm 24)] [60] ?_ ?_ ?_
 .first|exact eN|refine eM ?_
 .simp only[dO,Dl,dE];first|exact eN|refine eM ?_
 rintro _ _ ⟨b,rfl,k⟩;have s:=k;rcases s with ⟨g,rfl,rfl⟩|⟨e,g,rfl,rfl⟩|⟨g,rfl,rfl⟩
 .refine⟨[(50,.nm 50),(51,.nm 51),(52,.nm 52),(101,.nm 101),(102,.nm 102),(6,.nm 6),(7,.nm 7),(8,.nm 8),(4,.nm 4),(11,.nm 11),(60,.nm 60),(12,.nm 12),(13,.nm 13),(24,.nm 24)],.p .bool false,dO h w f (HD L) d la (Bd h w f n i) (Bd h w f n i).2.2.2 (.sr 60 T3 0 (Bd h w f n i).2.1.length) 0,rfl,rfl,?_,?_,rfl,rfl,?_⟩
  .simp only[dO,Dl,dE];first|exact eN|refine eM ?_
  .first|exact eN|refine eM ?_
  simp only[dO,Dl,dE];refine rL a ?_ ?_
  .trivial
  repeat'(first|exact a6|apply eS rfl|apply AB|refine rX a ?_ ?_|refine rC ?_ ?_<;>intro c<;>try(cases c;done))
  refine Ev.ent (σ':=⟨[],dO h w f (HD L) d la (Bd h w f n i) (Bd h w f n i).2.2.2 (.sr 60 T3 0 (Bd h w f n i).2.1.length) 0⟩) ?_ (AC [(50,.nm 50),(51,.nm 51),(52,.nm 52),(101,.nm 101),(102,.nm 102),(6,.nm 6),(7,.nm 7),(8,.nm 8),(4,.nm 4),(11,.nm 11),(60,.nm 60),(12,.nm 12),(13,.nm 13),(24,.nm 24)] rfl rfl ?_ ?_)
  .exact fM a [] (.raw (.tuple #[])) rfl ⟨rfl,i,hi,k⟩
  .simp only[dO,Dl,dE];first|exact eN|refine eM ?_
  first|exact eN|refine eM ?_
 .refine⟨[(50,.nm 50),(51,.nm 51),(52,.nm 52),(101,.nm 101),(102,.nm 102),(6,.nm 6),(7,.nm 7),(8,.nm 8),(4,.nm 4),(11,.nm 11),(60,.nm 60),(12,.nm 12),(13,.nm 13),(24,.nm 24)],.p .bool false,dO h w f (HD L) d la (Bd h w f n i) (Bd h w f n i).2.2.2 (.raw (.slice none 0 0)) e,rfl,rfl,?_,?_,rfl,rfl,?_⟩
  .simp only[dO,Dl,dE];first|exact eN|refine eM ?_
  .first|exact eN|refine eM ?_
  simp only[dO,Dl,dE];refine rL a ?_ ?_
  .trivial
  repeat'(first|exact a6|apply eS rfl|apply AB|refine rX a ?_ ?_|refine rC ?_ ?_<;>intro c<;>try(cases c;done))
  refine Ev.ent (σ':=⟨[],dO h w f (HD L) d la (Bd h w f n i) (Bd h w f n i).2.2.2 (.raw (.slice none 0 0)) e⟩) ?_ (AC [(50,.nm 50),(51,.nm 51),(52,.nm 52),(101,.nm 101),(102,.nm 102),(6,.nm 6),(7,.nm 7),(8,.nm 8),(4,.nm 4),(11,.nm 11),(60,.nm 60),(12,.nm 12),(13,.nm 13),(24,.nm 24)] rfl rfl ?_ ?_)
  .exact fM a [] (.raw (.tuple #[])) rfl ⟨rfl,i,hi,k⟩
  .simp only[dO,Dl,dE];first|exact eN|refine eM ?_
  first|exact eN|refine eM ?_
 have hk:=Jv g;refine⟨[(50,.nm 50),(51,.nm 51),(52,.nm 52),(101,.nm 101),(102,.nm 102),(6,.nm 6),(7,.nm 7),(8,.nm 8),(4,.nm 4),(11,.nm 11),(60,.nm 60),(12,.nm 12),(13,.nm 13),(24,.nm 24)],.p .bool true,dO h w f L d la (Bd h w f n (i+1)) (Bd h w f n i).2.2.2 (.raw (.slice none 0 0)) 0,rfl,rfl,?_,?_,rfl,rfl,?_⟩
 .simp only[dO,Dl,dE];first|exact eN|refine eM ?_
 .first|exact eN|refine eM ?_
 simp only[dO,Dl,dE];refine rL a ?_ ?_
 .trivial
 repeat'(first|exact a6|apply eS rfl|apply AB|refine rX a ?_ ?_|refine rC ?_ ?_<;>intro c<;>try(cases c;done))
 .exact⟨hf,r⟩
 .refine⟨⟨i+1,λj o=>(Nat.lt_succ_iff_lt_or_eq.1 o).elim (hi j) λe=>by rw[e];exact g⟩,a2,AC [(50,.nm 50),(51,.nm 51),(52,.nm 52),(101,.nm 101),(102,.nm 102),(6,.nm 6),(7,.nm 7),(8,.nm 8),(4,.nm 4),(11,.nm 11),(60,.nm 60),(12,.nm 12),(13,.nm 13),(24,.nm 24)] rfl rfl ?_ ?_⟩
  .simp only[dO,Dl,dE];first|exact eN|refine eM ?_
   rfl
  first|exact eN|refine eM ?_
 exact absurd hk.2.2 c
end
section
attribute [local go_sem] Ov Ou WF
theorem nJ (h:AG) (f:List AD) (n:Int) (k:AX f) (ht:Ck h f) (n0:0<=n) (n1:n<(f.length:Int)):BE Tryz.prog 130 [.p FL h,.p E7 f,.p T3 n] [] [] (λres al=>res=.tup [.p Bx (AO h f n).1,.p C0 (AO h f n).2]):=by
 refine fKR [0,1,2,3,4,6,7,8,9,10,11,12,13,14,15,22,39,44,45,50,59,63,67] [78] [] Tryz.func130 Tryz.ntmps130 (AE A1l (AE gI (AE aH AH))) ?_;intro w0 K O0 ρ0 c ag ah;simp only[Ap];have R:(h.1,h.2)=h:=rfl;repeat'(first|exact a6|apply eS rfl|apply AB|refine rX c ?_ ?_|refine rC ?_ ?_<;>intro d<;>try(cases d;done))
 all_goals simp only[R]at *
 .have l:LQ h=false:=by
   cases j:LQ h with
   | true=>rw[j]at d;exact absurd rfl d
   | false=>rfl
  have s:AO h f n=([],5):=by unfold AO;rw[l,An sc]
  simp only[l,ABc,ABi,s];exact Xy c [.cell 6 101,.cell 7 35] rfl (.inl rfl) (.tup [.p Bx [],.p C0 5]) eT rfl
 .exact⟨k,n0,n1⟩
 .have l:LQ h=true:=by
   have q:((if LQ h=true then (0:Int) else 5) != 0)=false:=by assumption
   cases j:LQ h with
   | false=>rw[j]at q;exact absurd q df
   | true=>rfl
  simp only[At l,wdF]at *;have s:AO h f n=([],13):=by unfold AO;rw[At l];exact At d
  rw[s];exact Xy c [.cell 6 101,.cell 7 35] rfl (.inl rfl) (.tup [.p Bx [],.p C0 13]) eT rfl
 have l:LQ h=true:=by
  have q:((if LQ h=true then (0:Int) else 5) != 0)=false:=by assumption
  cases j:LQ h with
  | false=>rw[j]at q;exact absurd q df
  | true=>rfl
 simp only[At l,wdF]at *;have E:=Yf l;have D:=Rn h;have H:WOk h (Bp h):=⟨⟨E.2.1,D.1.2.1⟩,E.2.2.1,D.1.2.2.1⟩;have C:AO h f n=FT h (Bp h) f (BU (AW f n).2 (Bp h).last) (f.length+1) [] [] (BU (AW f n).2 (Bp h).head):=by
  unfold AO;rw[At l];exact An (λq=>q.elim (λq=>absurd d.1 (ACC.2 q)) λq=>absurd d.2 (ACC.2 q))
 have u:BU (AW f n).2 (Bp h).head<(f.length:Int):=Kj O1 _ λx Y=>(Jp k n.toNat x Y).2;have t:0<=BU (AW f n).2 (Bp h).head:=d.1;have G:f.getD n.toNat (0,[])=AW f n:=rfl;simp only[G]at *;rw[C];generalize ae:Bp h=w at *;generalize BU (AW f n).2 w.head=a at *;generalize BU (AW f n).2 w.last=la at *;clear G C d n0 n1;refine Ev.ent (σ':=⟨[(10,.p T3 a),(4,.bp 4 [] 0),(6,.bp 6 [] 0),(7,.bp 7 [] 0),(8,.bp 8 [] 0),(11,.bp 11 [] 0),(12,.bp 12 [] 0),(13,.bp 13 [] 0)],[(6,.box 101 false [.raw (.slice none 0 0)]),(7,.box 35 false [.p C0 0]),(8,Dl h w),(4,.box 34 true [.p Ij f]),(11,.box 3 false [.p T3 la]),(12,.box 101 false [.raw (.slice none 0 0)]),(13,.box 215 false [.mp 24]),(24,.mapo T3 .bool [])]⟩) ?_ (AC [(6,.nm 6),(7,.nm 7),(8,.nm 8),(4,.nm 4),(11,.nm 11),(12,.nm 12),(13,.nm 13),(24,.nm 40)] rfl rfl ?_ ?_)
 .simp only[Dl];refine cP 3 c ?_ ?_
  .trivial
  refine rM c (A1Y h w f a) [] [] ?_ ?_ ?_
  .simp only[wdF];first|exact eN|refine eM ?_
  .first|exact eN|refine eM ?_
  rintro _ _ ⟨rfl,rfl⟩;refine⟨[(50,.nm 5),(52,.nm 4),(51,.nm 3)],.clo 187 [50,51,52],[(50,.box 3 false [.p T3 a]),(52,.box 34 true [.p Ij f]),(51,Dl h w)],rfl,rfl,?_,?_,rfl,rfl,FG ?_⟩
  .simp only[Dl];first|exact eN|refine eM ?_
  .first|exact eN|refine eM ?_
  simp only[Dl];repeat'(first|exact a6|apply eS rfl|apply AB|refine rX c ?_ ?_|refine rC ?_ ?_<;>intro d<;>try(cases d;done))
  refine dU c rfl rfl a1 101 103 102 rfl rfl rfl rfl ?_;intro L o B J M N O P X;refine⟨_,dO h w f L o la (Bd h w f a 0) a (.raw (.slice none 0 0)) 0,[50,51,52,101,102,6,7,8,4,11,12,13,24],_,[(50,.nm 50),(51,.nm 51),(52,.nm 52),(101,.nm 101),(102,.nm 102),(6,.nm 6),(7,.nm 7),(8,.nm 8),(4,.nm 4),(11,.nm 11),(60,.nil),(12,.nm 12),(13,.nm 13),(24,.nm 24)],[60],wG h w f la a H k ht t u L o ?_,rfl,rfl,?_,?_,rfl,?_⟩
  .intro i hi;obtain⟨I,ab,A,ad⟩:=Qh k t u i (T8 hi);have af:=I.len;have v:=A4A (Bd h w f a i).1 (Bd h w f a i).2.2.2;have U:lwO (h,w.list,w.cons,w.null,w.dlist,w.first,w.rest,w.head,w.last)=w:=rfl;have V:LG (Bd h w f a (i+1)).1=FJ T3 .bool (Bd h w f a i).2.2.2 true (LG (Bd h w f a i).1):=by
    show LG ((Bd h w f a i).1++[(Bd h w f a i).2.2.2])=_;simp[LG]
   have hT:=c.T;have hF:=c.F;refine dS (fr:=102) rfl rfl B N O P M X rfl a5 sc rfl rfl a5 a5 hT hF ?_;intro am Z aa an ak c ai aj j;simp only[dO,Dl,dE,Hw];repeat'(first|exact a6|apply eS rfl|apply AB|refine rX c ?_ ?_|refine rC ?_ ?_<;>intro d<;>try(cases d;done))
   refine⟨rfl,?_⟩;repeat'(first|exact a6|apply eS rfl|apply AB|refine rX c ?_ ?_|refine rC ?_ ?_<;>intro d<;>try(cases d;done))
   all_goals try simp only[U]at *
   all_goals try simp only[show ∀m:Int,f.getD m.toNat (0,[])=AW f m from λ_=>rfl]at *
   .exact⟨H,k,ht,A⟩
   .have g:Iw h w f la (Bd h w f a i)=some ((Bd h w f a i).2.1,0):=(At d.1).trans (by rw[At d.2]);refine Ev.ent (σ':=⟨[],dO h w f { L with state:=.busy } o la (Bd h w f a i) (Bd h w f a i).2.2.2 (.sr 60 T3 0 (Bd h w f a i).2.1.length) 0⟩) ?_ (AC [(50,.nm 50),(51,.nm 51),(52,.nm 52),(101,.nm 101),(102,.nm 102),(6,.nm 6),(7,.nm 7),(8,.nm 8),(4,.nm 4),(11,.nm 11),(60,.nm 60),(12,.nm 12),(13,.nm 13),(24,.nm 24)] rfl rfl ?_ ?_)
    .refine M3 c (yn:=101) rfl rfl sc j ⟨false,rfl,.inl ⟨g,rfl,?_⟩⟩;simp only[dO,Dl,dE,HD,go_sem,Nat.reduceEqDiff,reduceCtorEq,Nat.reduceAdd,Nat.reduceSub,Nat.reduceMul,Nat.reduceLeDiff,Nat.reduceLT,Int.reduceLE,Int.reduceToNat,Int.reduceNeg,↓reduceIte]
    .simp only[dO,Dl,dE];first|exact eN|refine eM ?_
    first|exact eN|refine eM ?_
   .have g:Iw h w f la (Bd h w f a i)=some ([],13):=(At a4).trans (by rw[An (d a4)]);refine Ev.ent (σ':=⟨[],dO h w f { L with state:=.busy } o la (Bd h w f a i) (Bd h w f a i).2.2.2 (.raw (.slice none 0 0)) 13⟩) ?_ (AC [(50,.nm 50),(51,.nm 51),(52,.nm 52),(101,.nm 101),(102,.nm 102),(6,.nm 6),(7,.nm 7),(8,.nm 8),(4,.nm 4),(11,.nm 11),(60,.nm 60),(12,.nm 12),(13,.nm 13),(24,.nm 24)] rfl rfl ?_ ?_)
    .refine M3 c (yn:=101) rfl rfl sc j ⟨false,rfl,.inr (.inl ⟨13,g,rfl,?_⟩)⟩;simp only[dO,Dl,dE,HD,go_sem,Nat.reduceEqDiff,reduceCtorEq,Nat.reduceAdd,Nat.reduceSub,Nat.reduceMul,Nat.reduceLeDiff,Nat.reduceLT,Int.reduceLE,Int.reduceToNat,Int.reduceNeg,↓reduceIte]
    .simp only[dO,Dl,dE];first|exact eN|refine eM ?_
    first|exact eN|refine eM ?_
   .have S:(Bd h w f a i).2.2.2∈(Bd h w f a i).1:=by
     have r:(BV T3 .bool (Bd h w f a i).2.2.2 (LG (Bd h w f a i).1)).getD false=true:=by assumption
     rw[v]at r;simpa[wZ] using r
    have g:Iw h w f la (Bd h w f a i)=some ([],6):=(An a4).trans (At S);refine Ev.ent (σ':=⟨[],dO h w f { L with state:=.busy } o la (Bd h w f a i) (Bd h w f a i).2.2.2 (.raw (.slice none 0 0)) 6⟩) ?_ (AC [(50,.nm 50),(51,.nm 51),(52,.nm 52),(101,.nm 101),(102,.nm 102),(6,.nm 6),(7,.nm 7),(8,.nm 8),(4,.nm 4),(11,.nm 11),(60,.nm 60),(12,.nm 12),(13,.nm 13),(24,.nm 24)] rfl rfl ?_ ?_)
    .refine M3 c (yn:=101) rfl rfl sc j ⟨false,rfl,.inr (.inl ⟨6,g,rfl,?_⟩)⟩;simp only[dO,Dl,dE,HD,go_sem,Nat.reduceEqDiff,reduceCtorEq,Nat.reduceAdd,Nat.reduceSub,Nat.reduceMul,Nat.reduceLeDiff,Nat.reduceLT,Int.reduceLE,Int.reduceToNat,Int.reduceNeg,↓reduceIte]
    .simp only[dO,Dl,dE];first|exact eN|refine eM ?_
    first|exact eN|refine eM ?_
   .have z:(Bd h w f a i).2.2.2∉(Bd h w f a i).1:=by
     have r:(BV T3 .bool (Bd h w f a i).2.2.2 (LG (Bd h w f a i).1)).getD false=false:=by assumption
     rw[v]at r;intro y;have:=AC7.1 r _ y;simp at this
    have g:Iw h w f la (Bd h w f a i)=some ([],13):=(An a4).trans ((An z).trans (An a4));refine Ev.ent (σ':=⟨[],dO h w f { L with state:=.busy } o la (Bd h w f a i) (Bd h w f a i).2.2.2 (.raw (.slice none 0 0)) 13⟩) ?_ (AC [(50,.nm 50),(51,.nm 51),(52,.nm 52),(101,.nm 101),(102,.nm 102),(6,.nm 6),(7,.nm 7),(8,.nm 8),(4,.nm 4),(11,.nm 11),(60,.nm 60),(12,.nm 12),(13,.nm 13),(24,.nm 24)] rfl rfl ?_ ?_)
    .refine M3 c (yn:=101) rfl rfl sc j ⟨false,rfl,.inr (.inl ⟨13,g,rfl,?_⟩)⟩;simp only[dO,Dl,dE,HD,go_sem,Nat.reduceEqDiff,reduceCtorEq,Nat.reduceAdd,Nat.reduceSub,Nat.reduceMul,Nat.reduceLeDiff,Nat.reduceLT,Int.reduceLE,Int.reduceToNat,Int.reduceNeg,↓reduceIte]
    .simp only[dO,Dl,dE];first|exact eN|refine eM ?_
    first|exact eN|refine eM ?_
   .refine⟨⟨k,A⟩,?_⟩;have:=k.1;simp only[AP];omega
   have z:(Bd h w f a i).2.2.2∉(Bd h w f a i).1:=by
    have r:(BV T3 .bool (Bd h w f a i).2.2.2 (LG (Bd h w f a i).1)).getD false=false:=by assumption
    rw[v]at r;intro y;have:=AC7.1 r _ y;simp at this
   have hk:D7 h w (AW f (Bd h w f a i).2.2.2)=2:=by simpa using d
   have g:Iw h w f la (Bd h w f a i)=none:=(An a4).trans ((An z).trans (At hk));have W:(Bd h w f a (i+1)).2.1=(Bd h w f a i).2.1++[BU (AW f (Bd h w f a i).2.2.2).2 w.first]:=At hk;refine Ev.ent (σ':=⟨[],dO h w f { L with state:=.busy } o la (Bd h w f a (i+1)) (Bd h w f a i).2.2.2 (.raw (.slice none 0 0)) 0⟩) ?_ (AC [(50,.nm 50),(51,.nm 51),(52,.nm 52),(101,.nm 101),(102,.nm 102),(6,.nm 6),(7,.nm 7),(8,.nm 8),(4,.nm 4),(11,.nm 11),(60,.nm 60),(12,.nm 12),(13,.nm 13),(24,.nm 24)] rfl rfl ?_ ?_)
   .refine Xw c (yn:=101) rfl rfl sc j ⟨true,rfl,.inr (.inr ⟨g,rfl,?_⟩)⟩;simp only[dO,Dl,dE,go_sem,Nat.reduceEqDiff,reduceCtorEq,Nat.reduceAdd,Nat.reduceSub,Nat.reduceMul,Nat.reduceLeDiff,Nat.reduceLT,Int.reduceLE,Int.reduceToNat,Int.reduceNeg,↓reduceIte,fZ B J]
   .simp only[dO,Dl,dE,V,W];first|exact eN|refine eM ?_
   first|exact eN|refine eM ?_
  .simp only[Bh,dO,Dl,dE,Bd];first|exact eN|refine eM ?_
  .simp only[Bh,dO,Dl,dE,Bd];first|exact eN|refine eM ?_
   rfl
  rintro _ _ ⟨rfl,i,hi,Q⟩;rcases Q with ⟨g,-,rfl⟩|⟨e,g,-,rfl⟩|⟨g,q,rfl⟩
  .have s:=Hi k t u hi g;refine⟨[(50,.nm 50),(51,.nm 51),(52,.nm 52),(101,.nm 101),(102,.nm 102),(6,.nm 6),(7,.nm 7),(8,.nm 8),(4,.nm 4),(11,.nm 11),(60,.nm 60),(12,.nm 12),(13,.nm 13),(24,.nm 24)],dO h w f (HD L) o la (Bd h w f a i) (Bd h w f a i).2.2.2 (.sr 60 T3 0 (Bd h w f a i).2.1.length) 0,HD L,rfl,rfl,?_,rfl,rfl,rfl,rfl,?_⟩
   .simp only[dO,Dl,dE];first|exact eN|refine eM ?_
   intro b;simp only[HD,EvJ,dO,Dl,dE,Bh,go_sem,Nat.reduceEqDiff,reduceCtorEq,Nat.reduceAdd,Nat.reduceSub,Nat.reduceMul,Nat.reduceLeDiff,Nat.reduceLT,Int.reduceLE,Int.reduceToNat,Int.reduceNeg,↓reduceIte];replace c:=RI (dn:=103) (b:=b) c;refine Cj [60] ?_;repeat'(first|exact a6|apply eS rfl|apply AB|refine rX c ?_ ?_|refine rC ?_ ?_<;>intro d<;>try(cases d;done))
   refine Ev.ent (σ':=⟨[(6,.bp 6 [] 0),(7,.bp 7 [] 0)],[(6,.box 101 false [.p Bx (Bd h w f a i).2.1]),(7,.box 35 false [.p C0 0]),(103,.dfr)]⟩) ?_ (AC [(6,.nm 6),(7,.nm 7),(103,.nm 103)] rfl rfl ?_ ?_)
   .rw[s];exact VE c [.cell 6 101,.cell 7 35] rfl (.inl rfl) rfl rfl (.tup [.p Bx (Bd h w f a i).2.1,.p C0 0]) eT rfl
   .first|exact eN|refine eM ?_
   first|exact eN|refine eM ?_
  .have s:=Hi k t u hi g;refine⟨[(50,.nm 50),(51,.nm 51),(52,.nm 52),(101,.nm 101),(102,.nm 102),(6,.nm 6),(7,.nm 7),(8,.nm 8),(4,.nm 4),(11,.nm 11),(60,.nm 60),(12,.nm 12),(13,.nm 13),(24,.nm 24)],dO h w f (HD L) o la (Bd h w f a i) (Bd h w f a i).2.2.2 (.raw (.slice none 0 0)) e,HD L,rfl,rfl,?_,rfl,rfl,rfl,rfl,?_⟩
   .simp only[dO,Dl,dE];first|exact eN|refine eM ?_
   intro b;simp only[HD,EvJ,dO,Dl,dE,Bh,go_sem,Nat.reduceEqDiff,reduceCtorEq,Nat.reduceAdd,Nat.reduceSub,Nat.reduceMul,Nat.reduceLeDiff,Nat.reduceLT,Int.reduceLE,Int.reduceToNat,Int.reduceNeg,↓reduceIte];replace c:=RI (dn:=103) (b:=b) c;repeat'(first|exact a6|apply eS rfl|apply AB|refine rX c ?_ ?_|refine rC ?_ ?_<;>intro d<;>try(cases d;done))
   refine Ev.ent (σ':=⟨[(6,.bp 6 [] 0),(7,.bp 7 [] 0)],[(6,.box 101 false [.p Bx []]),(7,.box 35 false [.p C0 e]),(103,.dfr)]⟩) ?_ (AC [(6,.nm 6),(7,.nm 7),(103,.nm 103)] rfl rfl ?_ ?_)
   .rw[s];exact VE c [.cell 6 101,.cell 7 35] rfl (.inl rfl) rfl rfl (.tup [.p Bx [],.p C0 e]) eT rfl
   .first|exact eN|refine eM ?_
   first|exact eN|refine eM ?_
  cases q
 .simp only[Dl];first|exact eN|refine eM ?_
 first|exact eN|refine eM ?_
end
section
attribute [local go_sem] Mh Wj Qj Qk Mi iG KW JH
def Mj:AZ:={ ins:=[FL,E7,T3],pre:=λ(h,f,n,_)=>AX f/\Ck h f/\(0:Int)<=n/\n<(List.length f:Int),out:=λ(h,f,n,_)=>[.p Bx (AO h f n).1,.p C0 (AO h f n).2] }
attribute [local go_sem] Mj
theorem iI:Ac Tryz.prog 130 Mj:=by
 refine XF ⟨_,Tryz.func130,a5,a5⟩ (λds e=>?_) (λds r a=>?_)
 .obtain⟨h,f,n,u⟩:=ds;obtain⟨h1,b,c,d⟩:=e;refine⟨[.p FL h,.p E7 f,.p T3 n],λw O t g=>?_,nJ h f n h1 b c d⟩;obtain⟨v1,o,rfl,i,l,q,rfl,j,m,s,rfl,k,rfl⟩:=g;exact⟨v1,_,rfl,VK i,l,_,rfl,VK j,m,_,rfl,VK k,rfl⟩
 simp only[Mj,By,ABl,ACG]at a;rcases a with rfl|rfl
 .exact⟨_,_,rfl⟩
 exact⟨_,_,rfl⟩
theorem NK {x:AD}:(II h w x=true↔D7 h w x=2)/\((!TD h w x&&Jq h w x)=true↔D7 h w x=3):=by
 have c:II h w x=true->TD h w x=false:=by
  intro q;unfold II QP at q;unfold TD Ns;simp only[AT,IN]at q;rw[show decide (BU x.2 w.first<0)=false from ABC O1];simp
 have d:II h w x=true->Jq h w x=false:=by
  intro q;unfold II QP at q;unfold Jq Ns;simp only[AT,IN]at q;rw[show decide (BU x.2 w.first<0)=false from ABC O1];simp
 unfold D7;cases h1:TD h w x<;>cases a:II h w x<;>cases b:Jq h w x<;>simp[h1,a,b]at c d ⊢
def Hj:AZ:={ ins:=[FL,E7,T3],pre:=λ(h,f,n,_)=>FC h/\AX f/\Ck h f/\(0:Int)<=n/\n<(List.length f:Int),out:=λ(h,f,n,_)=>[.p Bx (AO h f n).1,.p C0 (AO h f n).2] }
attribute [local go_sem] Hj
theorem Sw:Ac Tryz.prog 88 Hj:=by
 refine fKP [0,1,2,3,4,6,7,8,9,10,11,14,28,31,34,39,59] [42,49] [] Tryz.func88 Tryz.ntmps88 (AE nG (AE Wk (AE wF (AE nH (AE A55 AH))))) ?_;rintro w0 O0 ⟨h,f,n,u⟩ l-⟨hk,b,ht,hn⟩;have hk:FC h:=hk;have b:AX f:=b;have ht:Ck h f:=ht;have hn:0<=n/\n<(f.length:Int):=hn;have B:(h.1,h.2)=h:=rfl;obtain⟨-,-,-,-,F,G,H,I⟩:=Ot h;simp only[Hj,AL];repeat'(first|exact a6|apply eS rfl|apply AB|refine rX l ?_ ?_|refine rC ?_ ?_<;>intro c<;>try(cases c;done))
 all_goals try simp only[B,F,G,H,I]at *
 all_goals try simp only[show ∀m:Int,List.getD f m.toNat (0,[])=AW f m from λ_=>rfl]at *
 .exact hk
 .have d:AO h f n=([],5):=by unfold AO;rw[c,An sc]
  exact fI l [.tmp 6,.tmp 7] (by rw[d];exact eR)
 .exact⟨b,hn⟩
 .exact⟨b,hn⟩
 .have s:LQ h=true:=by assumption
  have d:AO h f n=([],13):=by unfold AO;rw[At s];exact At c
  exact fI l [.tmp 6,.tmp 7] (by rw[d];exact eR)
 have s:LQ h=true:=by assumption
 have A:AO h f n=FT h (Bp h) f (BU (AW f n).2 (Bp h).last) (f.length+1) [] [] (BU (AW f n).2 (Bp h).head):=by
  unfold AO;rw[At s];exact An (λq=>q.elim (λq=>absurd c.1 (ACC.2 q)) λq=>absurd c.2 (ACC.2 q))
 have r:BU (AW f n).2 (Bp h).head<(f.length:Int):=Kj O1 _ λx z=>(Jp b n.toNat x z).2;have o:0<=BU (AW f n).2 (Bp h).head:=c.1;have M:BU (AW f n).2 (Bp h).last<(f.length:Int):=Kj O1 _ λx z=>(Jp b n.toNat x z).2;have L:0<=BU (AW f n).2 (Bp h).last:=c.2;rw[A];have O:∀m:Int,List.getD f m.toNat (0,[])=AW f m:=λ_=>rfl;clear c A;generalize BU (AW f n).2 (Bp h).head=a at *;generalize BU (AW f n).2 (Bp h).last=la at *;refine AI (ι:={i:Nat//DGo h (Bp h) f la a i}) (λi=>⟨[(8,.p T3 (Bd h (Bp h) f a i.1).2.2.2),(9,.p T3 la),(3,.bp 3 [] 0),(4,.bp 4 [] 0),(10,.sr 50 T3 0 (Bd h (Bp h) f a i.1).2.1.length),(11,.sr 43 T3 0 (Bd h (Bp h) f a i.1).1.length)],[(3,.box 26 true [.p Qu h.1,.p SZ h.2]),(4,.box 34 true [.p Ij f]),(50,.arr 3 T3 (Bd h (Bp h) f a i.1).2.1),(43,.arr 3 T3 (Bd h (Bp h) f a i.1).1)]⟩) (λi=>f.length+1-i.1) ⟨0,λj C=>by omega⟩ (AC [(3,.nm 3),(4,.nm 4),(50,.nil),(43,.nil)] rfl rfl ?_ ?_) (λi=>?_)
 .first|exact eN|refine eM ?_
  try exact⟨rfl,rfl⟩
 .first|exact eN|refine eM ?_
  exact⟨rfl,rfl,rfl⟩
 obtain⟨i,hi⟩:=i;obtain⟨K,P,v,Q⟩:=Qh b o r i (T8 hi);have R:=K.len;have S:=b.1;simp only;repeat'(first|exact a6|apply eS rfl|apply AB|refine rX l ?_ ?_|refine rC ?_ ?_<;>intro c<;>try(cases c;done))
 all_goals try simp only[B,F,G,H,I,O]at *
 .have N:(Bd h (Bp h) f a i).2.2.2∈(Bd h (Bp h) f a i).1:=by simpa[wZ] using c
  have d:=Hi b o r hi (show Iw h (Bp h) f la (Bd h (Bp h) f a i)=some ([],6) from (An a4).trans (At N));exact fI l [.tmp 6,.tmp 7] (by rw[d];exact eR)
 .exact⟨⟨s,hk⟩,b,ht,v⟩
 .have y:(Bd h (Bp h) f a i).2.2.2∉(Bd h (Bp h) f a i).1:=by
   have g:wZ (Bd h (Bp h) f a i).1 (Bd h (Bp h) f a i).2.2.2=false:=by assumption
   intro k;have:=AC7.1 g _ k;simp at this
  have t:¬D7 h (Bp h) (AW f (Bd h (Bp h) f a i).2.2.2)=2:=λq=>by
   have g:II h (Bp h) (AW f (Bd h (Bp h) f a i).2.2.2)=false:=c;rw[NK.1.2 q]at g;cases g
  have d:=Hi b o r hi (show Iw h (Bp h) f la (Bd h (Bp h) f a i)=some ([],13) from (An a4).trans ((An y).trans (An t)));exact fI l [.tmp 6,.tmp 7] (by rw[d];exact eR)
 .simp only[AP];omega
 .refine⟨⟨b,v⟩,?_⟩;simp only[AP];omega
 .exact⟨b,v⟩
 .have y:(Bd h (Bp h) f a i).2.2.2∉(Bd h (Bp h) f a i).1:=by
   have g:wZ (Bd h (Bp h) f a i).1 (Bd h (Bp h) f a i).2.2.2=false:=by assumption
   intro k;have:=AC7.1 g _ k;simp at this
  have t:D7 h (Bp h) (AW f (Bd h (Bp h) f a i).2.2.2)=2:=NK.1.1 c;have E:(Bd h (Bp h) f a (i+1)).2.1=(Bd h (Bp h) f a i).2.1++[BU (AW f (Bd h (Bp h) f a i).2.2.2).2 (Bp h).first]:=At t;have D:(Bd h (Bp h) f a (i+1)).1=(Bd h (Bp h) f a i).1++[(Bd h (Bp h) f a i).2.2.2]:=rfl;refine⟨⟨i+1,λj C=>(Nat.lt_succ_iff_lt_or_eq.1 C).elim (hi j) λe=>by rw[e];exact(An a4).trans ((An y).trans (At t))⟩,a2,AC [(3,.nm 3),(4,.nm 4),(50,.nm 50),(43,.nm 43)] rfl rfl ?_ ?_⟩
  .simp only[E,D];first|exact eN|refine eM ?_
   rfl
  simp only[E,D];first|exact eN|refine eM ?_
  rfl
 .exact⟨⟨s,hk⟩,b,ht,L,M⟩
 .have k:(Bd h (Bp h) f a i).2.2.2=la:=by
   have g:((Bd h (Bp h) f a i).2.2.2 != la)=false:=by assumption
   simpa using g
  have w:¬D7 h (Bp h) (AW f (Bd h (Bp h) f a i).2.2.2)=3:=λq=>by
   rw[k]at q;have q:=NK.2.2 q;simp only[AT,bY]at q;have J:=c q.1;rw[show Jq (h.1,h.2) (Bp (h.1,h.2)) (AW f la)=Jq h (Bp h) (AW f la) from rfl,q.2]at J;cases J
  have d:=Hi b o r hi (show Iw h (Bp h) f la (Bd h (Bp h) f a i)=some ([],13) from (At k).trans (by rw[An w]));exact fI l [.tmp 6,.tmp 7] (by rw[d];exact eR)
 have k:(Bd h (Bp h) f a i).2.2.2=la:=by
  have g:((Bd h (Bp h) f a i).2.2.2 != la)=false:=by assumption
  simpa using g
 have w:D7 h (Bp h) (AW f (Bd h (Bp h) f a i).2.2.2)=3:=by
  rw[k];refine NK.2.1 ?_;simp only[AT,bY];exact c
 have d:=Hi b o r hi (show Iw h (Bp h) f la (Bd h (Bp h) f a i)=some ((Bd h (Bp h) f a i).2.1,0) from (At k).trans (by rw[At w]));refine Cj [50] ?_;exact fI l [.tmp 6,.tmp 7] (by rw[d];exact eR)
end
section
attribute [local go_sem] iE R3 Yz X4 Hj LP LK Nj KW JH OX
def O2 (h:AG) (f:List AD):Prop:=∀x∈f,∀a∈x.2,0<=a.1/\a.1<(h.2.length:Int)
def Wl (h:AG) (a:Int×Int):ByteArray:=(h.2.getD a.1.toNat (ByteArray.empty,0)).1
def G4 (h:AG) (f:List AD) (a:Int×Int):Option Px:=if AK (Wl h a) ⟨#[76,65,66,69,76]⟩=false/\AK (Dk h f a.2) ⟨#[]⟩=false then some (Wl h a,a.2) else none
def Y3 (h:AG) (f:List AD) (n:Int):ByteArray:=(h.1.getD (AW f n).1.toNat Rb).1
def Gv (h:AG) (f:List AD) (n:Int):Bool:=Mg h ⟨#[114,101,108]⟩ (AW f n).1&&BF (Y3 h f n) false&&AK (Dk h f (AQ h f n ⟨#[76,65,66,69,76]⟩)) ⟨#[104]⟩
def Bk (h:AG) (f:List AD) (n:Int):GX×Bool :=
 if Gv h f n=true then ((Y3 h f n,AQ h f n ⟨#[76,65,66,69,76]⟩,(AW f n).2.filterMap (G4 h f)),true) else ((Y3 h f n,AQ h f n ⟨#[76,65,66,69,76]⟩,[]),false)
theorem A88 {α c:Type} (g:α->Option c) (l:List α) (d:α) {k:Nat} (h:k<l.length):(l.take (k+1)).filterMap g=(l.take k).filterMap g++(g (l.getD k d)).toList:=by
 rw[Ay l d h,List.filterMap_append];cases a:g (l.getD k d) with
 | none=>rw[ACe a];rfl
 | some b=>rw[List.filterMap_cons_some a];rfl
def XR (h:AG) (f:List AD):Prop:=FC h/\AX f/\Ck h f/\O2 h f
theorem EI (a:AX f) (n:Int) (s:ByteArray) (h0:0<f.length):AQ h f n s<(f.length:Int):=by
 unfold AQ;split
 .exact Kj O1 _ λx b=>(Jp a n.toNat x b).2
 omega
def bA:AZ:={ ins:=[FL,E7,T3],pre:=λ(h,f,n,_)=>XR h f/\(0:Int)<=n/\n<(List.length f:Int),out:=λ(h,f,n,_)=>[.p kU (Bk h f n).1,.p .bool (Bk h f n).2] }
attribute [local go_sem] bA
theorem A1Z:Ac Tryz.prog 89 bA:=by
 refine fKP [0,1,2,3,4,6,7,8,9,10,11,12,13,48,58,86] [93] [] Tryz.func89 Tryz.ntmps89 (AE nF (AE Qi (AE aZ (AE Zk AH)))) ?_;rintro w0 O0 ⟨h,f,n,u⟩ i-⟨⟨hk,c,ht,ha⟩,h0,h1⟩;have hk:FC h:=hk;have c:AX f:=c;have ht:Ck h f:=ht;have ha:O2 h f:=ha;have h0:0<=n:=h0;have h1:n<(f.length:Int):=h1;have l:(h.1,h.2)=h:=rfl;have j:=AF f (0,[]) (DF ⟨h0,h1⟩);have r:=ht _ j;have A:=EI (h:=h) c n ⟨#[76,65,66,69,76]⟩ (AC6 (DF ⟨h0,h1⟩));have C:=(c.2 _ j).1;have w:=(c.2 _ j).2;have v:=ha _ j;have m:f.getD n.toNat (0,[])=AW f n:=rfl;have z:(h.1.getD (AW f n).1.toNat (ByteArray.empty,[],[],[])).1=Y3 h f n:=rfl;simp only[bA,AL];repeat'(first|exact a6|apply eS rfl|apply AB|refine rX i ?_ ?_|refine rC ?_ ?_<;>intro a<;>try(cases a;done))
 all_goals try simp only[l,m,z]at *
 .exact⟨h0,h1⟩
 .exact⟨c,h0,h1⟩
 .exact r
 .exact⟨⟨hk,r⟩,λ_=>⟨hk,ht,A⟩⟩
 .have q:Gv h f n=false:=by
   unfold Gv;rcases a with (q|q)|q<;>rw[q]<;>simp
  have e:Bk h f n=((Y3 h f n,AQ h f n ⟨#[76,65,66,69,76]⟩,[]),false):=An (by rw[q];simp);exact fI i [.cell 6 54,.tmp 7] (by rw[e];exact eR)
 have q:Gv h f n=true:=by
  unfold Gv;rw[a.1.1,a.1.2,a.2];rfl
 have e:Bk h f n=((Y3 h f n,AQ h f n ⟨#[76,65,66,69,76]⟩,(AW f n).2.filterMap (G4 h f)),true):=At q;rw[e];clear e q a;generalize Y3 h f n=t at *;generalize AQ h f n ⟨#[76,65,66,69,76]⟩=s at *;have y:=λk:Nat=>List.length_filterMap_le (G4 h f) ((AW f n).2.take k);refine AI (ι:={k:Nat//k<=(AW f n).2.length}) (λk=>⟨[(2,.p T3 n),(3,.bp 3 [] 0),(4,.bp 4 [] 0),(6,.bp 6 [] 0),(10,.bp 10 [] 0),(11,.p (.int .i64) (k.1:Int))],[(10,.box 54 true [.p T9 t,.p T3 s,.sr 94 T91 0 (((AW f n).2.take k.1).filterMap (G4 h f)).length]),(94,.arr 91 T91 (((AW f n).2.take k.1).filterMap (G4 h f))),(6,.box 54 true [.p T9 ByteArray.empty,.p T3 0,.raw (.slice none 0 0)]),(4,.box 34 true [.p Ij f]),(3,.box 26 true [.p Qu h.1,.p SZ h.2])]⟩) (λk=>(AW f n).2.length-k.1) ⟨0,Do _⟩ (AC [(3,.nm 3),(4,.nm 4),(6,.nm 6),(10,.nm 10),(94,.nil)] rfl rfl ?_ ?_) (λk=>?_)
 .first|exact eN|refine eM ?_
 .first|exact eN|refine eM ?_
 obtain⟨k,D⟩:=k;have x:=y k;simp only[ON]at x;have b:=λq:k<(AW f n).2.length=>A88 (G4 h f) (AW f n).2 (0,0) q;have o:=λq:k<(AW f n).2.length=>AF (AW f n).2 (0,0) q;simp only;repeat'(first|exact a6|apply eS rfl|apply AB|refine rX i ?_ ?_|refine rC ?_ ?_<;>intro a<;>try(cases a;done))
 all_goals have m:f.getD n.toNat (0,[])=AW f n:=rfl
 all_goals have l:(h.1,h.2)=h:=rfl
 all_goals try simp only[l,m]at *
 .exact⟨h0,h1⟩
 .exact⟨⟨h0,h1⟩,a⟩
 .exact v _ (o eV)
 .exact λ_=>⟨hk,ht,(w _ (o eV)).2⟩
 .simp only[AP];omega
 .omega
 .have g:k<(AW f n).2.length:=by exact eV
  have d:G4 h f ((AW f n).2.getD k (0,0))=some ((h.2.getD ((AW f n).2.getD k (0,0)).1.toNat (ByteArray.empty,0)).1,((AW f n).2.getD k (0,0)).2):=At a;have b:=b g;rw[d]at b;refine⟨⟨k+1,g⟩,a2,AC [(3,.nm 3),(4,.nm 4),(6,.nm 6),(10,.nm 10),(94,.nm 94)] rfl rfl ?_ ?_⟩
  .simp only[b,Option.toList];first|exact eN|refine eM ?_
  simp only[b,Option.toList];first|exact eN|refine eM ?_
 .omega
 .have g:k<(AW f n).2.length:=by exact eV
  have d:G4 h f ((AW f n).2.getD k (0,0))=none:=An λq=>by
   have B:=a q.1;rw[B]at q;exact absurd q.2 sc
  have b:=b g;rw[d]at b;simp only[Option.toList,AAu]at b;refine⟨⟨k+1,g⟩,a2,AC [(3,.nm 3),(4,.nm 4),(6,.nm 6),(10,.nm 10),(94,.nm 94)] rfl rfl ?_ ?_⟩
  .simp only[b];first|exact eN|refine eM ?_
  simp only[b];first|exact eN|refine eM ?_
 have d:(AW f n).2.take k=(AW f n).2:=BY eV;simp only[d]at *;refine Cj [94] ?_;exact fI i [.cell 6 54,.tmp 7]
end
section
attribute [local go_sem] Mj Hj
theorem Y4 {h:AG} {w:LW} {f:List AD} {la:Int} (hf:AX f):∀(k:Nat) (c out:List Int) (n:Int),(∀x∈out,0<=x/\x<(f.length:Int))->(∀x∈(FT h w f la k c out n).1,0<=x/\x<(f.length:Int))/\(FT h w f la k c out n).1.length<=out.length+k/\((FT h w f la k c out n).2≠0->(FT h w f la k c out n).1=[])
 | 0,_,_,_,_=>⟨λx b=>(by cases b),Do _,λ_=>rfl⟩
 | k+1,c,out,n,i=>by
  have d:∀e:Int,(∀x∈(([],e):List Int×Int).1,0<=x/\x<(f.length:Int))/\(([],e):List Int×Int).1.length<=out.length+(k+1)/\((([],e):List Int×Int).2≠0->(([],e):List Int×Int).1=[]):=λe=>⟨λx b=>(by cases b),Do _,λ_=>rfl⟩;rw[FT];cases a:iH h w f la c out n with
  | some r =>
   unfold iH at a;simp only;split at a
   .cases a;split
    .exact⟨i,Nat.le_add_right _ _,λq=>absurd rfl q⟩
    exact d 13
   split at a
   .cases a;exact d 6
   split at a
   .cases a
   cases a;exact d 13
  | none =>
   have hk:=(Jv a).2.2;have l:0<=BU (AW f n).2 w.first/\BU (AW f n).2 w.first<(f.length:Int):=by
    have j:=(Ye hk).1;have m:f.length≠0:=by
     intro q;have:f=[]:=List.length_eq_zero_iff.1 q;subst this;simp[BU,AW]at j
    exact⟨j,Kj O1 _ λx b=>(Jp hf n.toNat x b).2⟩
   have g:=Y4 (h:=h) (w:=w) (la:=la) hf k (c++[n]) (out++[BU (AW f n).2 w.first]) (BU (AW f n).2 w.rest) (λx b=>by
    rcases If.1 b with q|q
    .exact i x q
    rw[oN.1 q];exact l)
   refine⟨g.1,?_,g.2.2⟩;have:=g.2.1;rw[IS,nO]at this;simp only;omega
theorem Fg (hf:AX f) (n:Int):((∀x∈(AO h f n).1,0<=x/\x<(f.length:Int))/\(AO h f n).1.length<=200000)/\((AO h f n).2≠0->(AO h f n).1=[]):=by
 unfold AO;split
 .split
  .exact⟨⟨λx a=>(by cases a),Do _⟩,λ_=>rfl⟩
  have:=Y4 (h:=h) (w:=Bp h) (la:=BU (AW f n).2 (Bp h).last) hf (f.length+1) [] [] (BU (AW f n).2 (Bp h).head) (λx a=>by cases a);have b:=hf.1;refine⟨⟨this.1,?_⟩,this.2.2⟩;have:=this.2.1;simp only[AAl]at this;omega
 exact⟨⟨λx a=>(by cases a),Do _⟩,λ_=>rfl⟩
end
section
attribute [local go_sem] iE R3 Yz bA Hj LP LK Nj KW JH OX
def bB (h:AG) (f:List AD) (l:List Int) (i:Nat):Option Bool:=if (Bk h f (l.getD i 0)).2=true then none else some false
def BH (h:AG) (f:List AD) (s:Int):List GX×Int :=
 if AQ h f s ⟨#[82,69,76,83]⟩<0 then ([],13) else if (AO h f (AQ h f s ⟨#[82,69,76,83]⟩)).2≠0 then ([],(AO h f (AQ h f s ⟨#[82,69,76,83]⟩)).2)
 else if Ax (bB h f (AO h f (AQ h f s ⟨#[82,69,76,83]⟩)).1) true (AO h f (AQ h f s ⟨#[82,69,76,83]⟩)).1.length 0=true then ((AO h f (AQ h f s ⟨#[82,69,76,83]⟩)).1.map λx=>(Bk h f x).1,0) else ([],13)
def bC:AZ:={ ins:=[FL,E7,T3],pre:=λ(h,f,n,_)=>XR h f/\(0:Int)<=n/\n<(List.length f:Int),out:=λ(h,f,n,_)=>[.p Jy (BH h f n).1,.p C0 (BH h f n).2] }
theorem wH:Ac Tryz.prog 41 bC:=by
 refine fK [0,1,2,3,4,6,7,8,9,10,11,12,13,14,20,29,35,49] Tryz.func41 Tryz.ntmps41 (AE Qi (AE Sw (AE A1Z AH))) ?_;rintro w0 O0 ⟨h,f,n,u⟩ b-⟨j,h0,h1⟩;have j:XR h f:=j;obtain⟨hk,g,ht,ha⟩:=id j;have h0:0<=n:=h0;have h1:n<(f.length:Int):=h1;have m:(h.1,h.2)=h:=rfl;have z:=EI (h:=h) g n ⟨#[82,69,76,83]⟩ (AC6 (DF ⟨h0,h1⟩));have k:BH h f n=if AQ h f n ⟨#[82,69,76,83]⟩<0 then ([],13) else if (AO h f (AQ h f n ⟨#[82,69,76,83]⟩)).2≠0 then ([],(AO h f (AQ h f n ⟨#[82,69,76,83]⟩)).2)
  else if Ax (bB h f (AO h f (AQ h f n ⟨#[82,69,76,83]⟩)).1) true (AO h f (AQ h f n ⟨#[82,69,76,83]⟩)).1.length 0=true then ((AO h f (AQ h f n ⟨#[82,69,76,83]⟩)).1.map λx=>(Bk h f x).1,0) else ([],13):=rfl
 generalize t:AQ h f n ⟨#[82,69,76,83]⟩=V at *;have v:=Fg (h:=h) g V;simp only[bC,AL];repeat'(first|exact a6|apply eS rfl|apply AB|refine rX b ?_ ?_|refine rC ?_ ?_<;>intro a<;>try(cases a;done))
 all_goals try simp only[m,t]at *
 .exact⟨g,h0,h1⟩
 .rw[k,At a];exact fI b [.tmp 6,.tmp 7]
 .exact⟨hk,g,ht,a,z⟩
 .rename_i q;rw[k,An (AAy.2 q),At a];exact fI b [.tmp 6,.tmp 7]
 rename_i q;have r:(AO h f V).2=0:=by simpa using a
 obtain⟨⟨w,A⟩,-⟩:=v;rw[k,An (AAy.2 q),An (by rw[r];simp)];clear k a r;generalize (AO h f V).1=l at *;generalize s:Ax (bB h f l) true l.length 0=S;refine AI (ι:={i:Nat//i<=l.length/\Ax (bB h f l) true (l.length-i) i=S}) (λi=>⟨[(3,.bp 3 [] 0),(4,.bp 4 [] 0),(9,.p Bx l),(11,.sr 31 kU 0 ((l.take i.1).map λx=>(Bk h f x).1).length),(12,.p (.int .i64) (i.1:Int))],[(31,.arr 54 kU ((l.take i.1).map λx=>(Bk h f x).1)),(4,.box 34 true [.p Ij f]),(3,.box 26 true [.p Qu h.1,.p SZ h.2])]⟩) (λi=>l.length-i.1) ⟨0,Do _,s⟩ (AC [(3,.nm 3),(4,.nm 4),(31,.nm 31)] rfl rfl ?_ ?_) (λi=>?_)
 .first|exact eN|refine eM ?_
 .first|exact eN|refine eM ?_
 obtain⟨i,hi,o⟩:=i;have B:((l.take i).map λx=>(Bk h f x).1).length=i:=by simp only[Of,ON];omega
 simp only;have m:(h.1,h.2)=h:=rfl;repeat'(first|exact a6|apply eS rfl|apply AB|refine rP b ?_ ?_|fail)
 refine rC ?_ ?_<;>intro a
 .have c:i<l.length:=by exact eV
  have y:=w _ (AF l 0 c);repeat'(first|exact a6|apply eS rfl|apply AB|refine rP b ?_ ?_|fail)
  refine L2 drawsAny b 12 [([0,1,2,3,4,5,6,7,8,10],11)] [9] a5 (mxA ?_ ?_)
  .exact⟨a,j,y⟩
  refine mxL b [] ?_ ?_
  .trivial
  refine mxE b ?_ ?_ ?_
  .trivial
  .trivial
  repeat'(first|exact a6|apply eS rfl|apply AB|refine rX b ?_ ?_|refine rC ?_ ?_<;>intro a<;>try(cases a;done))
  all_goals try simp only[m]at *
  .have e:S=false:=CR o c (An (by rw[a];simp));rw[e];exact fI b [.tmp 6,.tmp 7]
  .simp only[AP];omega
  .omega
  have d:=FH (λx=>(Bk h f x).1) l 0 c;refine⟨⟨i+1,c,Cz o c (At a)⟩,a2,AC [(3,.nm 3),(4,.nm 4),(31,.nm 31)] rfl rfl ?_ ?_⟩
  .simp only[d];first|exact eN|refine eM ?_
  simp only[d];first|exact eN|refine eM ?_
 repeat'(first|exact a6|apply eS rfl|apply AB|refine rX b ?_ ?_|refine rC ?_ ?_<;>intro a<;>try(cases a;done))
 have e:S=true:=Dh o eV;have d:l.take i=l:=BY eV;simp only[d]at *;rw[e];refine Cj [31] ?_;exact fI b [.tmp 6,.tmp 7]
def IV (h:AG) (f:List AD) (n:Int):Bool:=Mg h ⟨#[113,101,113]⟩ (AW f n).1&&AK (Dk h f (AQ h f n ⟨#[72,73,71,72]⟩)) ⟨#[104]⟩&&AK (Dk h f (AQ h f n ⟨#[76,79,87]⟩)) ⟨#[104]⟩
def bD (h:AG) (f:List AD) (l:List Int) (i:Nat):Option Bool:=if IV h f (l.getD i 0)=true then none else some false
def O3 (h:AG) (f:List AD) (n:Int):NR:=(AQ h f n ⟨#[72,73,71,72]⟩,AQ h f n ⟨#[76,79,87]⟩)
def BI (h:AG) (f:List AD) (s:Int):List NR×Int :=
 if AQ h f s ⟨#[67,79,78,83]⟩<0 then ([],13) else if (AO h f (AQ h f s ⟨#[67,79,78,83]⟩)).2≠0 then ([],(AO h f (AQ h f s ⟨#[67,79,78,83]⟩)).2)
 else if Ax (bD h f (AO h f (AQ h f s ⟨#[67,79,78,83]⟩)).1) true (AO h f (AQ h f s ⟨#[67,79,78,83]⟩)).1.length 0=true then ((AO h f (AQ h f s ⟨#[67,79,78,83]⟩)).1.map (O3 h f),0) else ([],13)
def bE:AZ:={ ins:=[FL,E7,T3],pre:=λ(h,f,n,_)=>XR h f/\(0:Int)<=n/\n<(List.length f:Int),out:=λ(h,f,n,_)=>[.p LO (BI h f n).1,.p C0 (BI h f n).2] }
theorem wI:Ac Tryz.prog 42 bE:=by
 refine fK [0,1,2,3,4,6,7,8,9,10,11,12,13,14,20,29,35,77] Tryz.func42 Tryz.ntmps42 (AE Qi (AE Sw (AE nF (AE aZ AH)))) ?_;rintro w0 O0 ⟨h,f,n,u⟩ c-⟨o,h0,h1⟩;have o:XR h f:=o;obtain⟨hk,b,ht,ha⟩:=id o;have h0:0<=n:=h0;have h1:n<(f.length:Int):=h1;have j:(h.1,h.2)=h:=rfl;have m:0<f.length:=AC6 (DF ⟨h0,h1⟩);have B:=EI (h:=h) b n ⟨#[67,79,78,83]⟩ m;have g:BI h f n=if AQ h f n ⟨#[67,79,78,83]⟩<0 then ([],13) else if (AO h f (AQ h f n ⟨#[67,79,78,83]⟩)).2≠0 then ([],(AO h f (AQ h f n ⟨#[67,79,78,83]⟩)).2)
  else if Ax (bD h f (AO h f (AQ h f n ⟨#[67,79,78,83]⟩)).1) true (AO h f (AQ h f n ⟨#[67,79,78,83]⟩)).1.length 0=true then ((AO h f (AQ h f n ⟨#[67,79,78,83]⟩)).1.map (O3 h f),0) else ([],13):=rfl
 generalize y:AQ h f n ⟨#[67,79,78,83]⟩=V at *;have z:=Fg (h:=h) b V;simp only[bE,AL];repeat'(first|exact a6|apply eS rfl|apply AB|refine rX c ?_ ?_|refine rC ?_ ?_<;>intro a<;>try(cases a;done))
 all_goals try simp only[j,y]at *
 .exact⟨b,h0,h1⟩
 .rw[g,At a];exact fI c [.tmp 6,.tmp 7]
 .exact⟨hk,b,ht,a,B⟩
 .rename_i q;rw[g,An (AAy.2 q),At a];exact fI c [.tmp 6,.tmp 7]
 rename_i q;have w:(AO h f V).2=0:=by simpa using a
 obtain⟨⟨A,E⟩,-⟩:=z;rw[g,An (AAy.2 q),An (by rw[w];simp)];clear g a w;generalize (AO h f V).1=l at *;generalize x:Ax (bD h f l) true l.length 0=S;refine AI (ι:={i:Nat//i<=l.length/\Ax (bD h f l) true (l.length-i) i=S}) (λi=>⟨[(3,.bp 3 [] 0),(4,.bp 4 [] 0),(9,.p Bx l),(11,.sr 31 y7 0 ((l.take i.1).map (O3 h f)).length),(12,.p (.int .i64) (i.1:Int))],[(31,.arr 93 y7 ((l.take i.1).map (O3 h f))),(4,.box 34 true [.p Ij f]),(3,.box 26 true [.p Qu h.1,.p SZ h.2])]⟩) (λi=>l.length-i.1) ⟨0,Do _,x⟩ (AC [(3,.nm 3),(4,.nm 4),(31,.nm 31)] rfl rfl ?_ ?_) (λi=>?_)
 .first|exact eN|refine eM ?_
 .first|exact eN|refine eM ?_
 obtain⟨i,hi,k⟩:=i;have F:((l.take i).map (O3 h f)).length=i:=by simp only[Of,ON];omega
 simp only;have s:=λq:i<l.length=>A _ (AF l 0 q);have C:=λq:i<l.length=>EI (h:=h) b (l.getD i 0) ⟨#[72,73,71,72]⟩ m;have D:=λq:i<l.length=>EI (h:=h) b (l.getD i 0) ⟨#[76,79,87]⟩ m;repeat'(first|exact a6|apply eS rfl|apply AB|refine rX c ?_ ?_|refine rC ?_ ?_<;>intro a<;>try(cases a;done))
 all_goals have j:(h.1,h.2)=h:=rfl
 all_goals try simp only[j]at *
 .exact⟨a,b,s eV⟩
 .exact⟨a,b,s eV⟩
 .have q:=s eV;exact⟨a,q,⟨hk,ht _ (AF f (0,[]) (DF q))⟩,λ_=>⟨hk,ht,C eV⟩,λ_=>⟨hk,ht,D eV⟩⟩
 .have q:IV h f (l.getD i 0)=false:=by
   have t:f.getD (l.getD i 0).toNat (0,[])=AW f (l.getD i 0):=rfl;simp only[t]at a;unfold IV;rcases a with (q|q)|q<;>rw[q]<;>simp
  have e:S=false:=CR k eV (An (by rw[q];simp));rw[e];exact fI c [.tmp 6,.tmp 7]
 .simp only[AP];omega
 .omega
 .have q:IV h f (l.getD i 0)=true:=by
   have t:f.getD (l.getD i 0).toNat (0,[])=AW f (l.getD i 0):=rfl;simp only[t]at a;unfold IV;rw[a.1.1,a.1.2,a.2];rfl
  have r:i<l.length:=by exact eV
  have d:=FH (O3 h f) l 0 r;have v:O3 h f (l.getD i 0)=(AQ h f (l.getD i 0) ⟨#[72,73,71,72]⟩,AQ h f (l.getD i 0) ⟨#[76,79,87]⟩):=rfl;refine⟨⟨i+1,r,Cz k r (At q)⟩,a2,AC [(3,.nm 3),(4,.nm 4),(31,.nm 31)] rfl rfl ?_ ?_⟩
  .simp only[d,v];first|exact eN|refine eM ?_
  simp only[d,v];first|exact eN|refine eM ?_
 have e:S=true:=Dh k eV;have d:l.take i=l:=BY eV;simp only[d]at *;rw[e];refine Cj [31] ?_;exact fI c [.tmp 6,.tmp 7]
end
section
attribute [local go_sem] iE R3 Yz bC bE lG RT LP LK Nj KW JH OX
theorem IM {a b:ByteArray} (h:AK a b=true):a=b:=by
 have h:=Ep.1 h;rw[ByteArray.toList_eq,ByteArray.toList_eq]at h;exact ABj ByteArray.mk (Array.toList_inj.1 h)
theorem nK (q:AK (Dk h f n) ⟨#[]⟩=false):0<=n:=by
 by_cases hn:n<0
 .unfold Dk at q;rw[At hn]at q;exact absurd q a3
 omega
theorem A56 (q:AK (Dk h f n) ⟨#[104]⟩=true):0<=n:=by
 by_cases hn:n<0
 .unfold Dk at q;rw[At hn]at q;exact absurd q a3
 omega
def InN (f:List AD) (n:Int):Prop:=0<=n/\n<(f.length:Int)
theorem A20 (g:AX f) {s:Int} (b:(BH h f s).2=0):(BH h f s).1.length<=200000/\∀e∈(BH h f s).1,InN f e.2.1/\e.2.2.length<=100000/\∀a∈e.2.2,InN f a.2:=by
 unfold BH at b ⊢;split at b
 .cases b
 rename_i h1;rw[An h1];split at b
 .rename_i l;exact absurd b l
 rename_i l;rw[An l];split at b
 .rename_i p;rw[At p];obtain⟨⟨v,w⟩,-⟩:=Fg (h:=h) g (AQ h f s ⟨#[82,69,76,83]⟩);refine⟨by simpa using w,λe C=>?_⟩;obtain⟨x,D,rfl⟩:=GO.1 C;obtain⟨j,t,rfl⟩:=AAd.1 D;have c:=FA (λi r o=>by unfold bB at o;split at o<;>cases o;decide) _ 0 p j (Do _) O1;have q:=v _ (AA5 t);have z:(AO h f (AQ h f s ⟨#[82,69,76,83]⟩)).1.getD j 0=(AO h f (AQ h f s ⟨#[82,69,76,83]⟩)).1[j]:=by simp[AS,t]
  unfold bB at c;rw[z]at c;generalize (AO h f (AQ h f s ⟨#[82,69,76,83]⟩)).1[j]=x at *;have m:(Bk h f x).2=true:=by
   cases n:(Bk h f x).2 with
   | true=>rfl
   | false=>rw[n,An sc]at c;cases c
  have d:Gv h f x=true:=by
   cases n:Gv h f x with
   | true=>rfl
   | false=>unfold Bk at m;rw[n,An sc]at m;cases m
  have A:Bk h f x=((Y3 h f x,AQ h f x ⟨#[76,65,66,69,76]⟩,(AW f x).2.filterMap (G4 h f)),true):=At d;rw[A];unfold Gv at d;simp only[AT]at d;have u:=AF f (0,[]) (DF q);refine⟨⟨A56 d.2,EI g _ _ (AC6 (DF q))⟩,gO (List.length_filterMap_le _ _) (g.2 _ u).1,λa B=>?_⟩;obtain⟨y,E,k⟩:=AC1.1 B;unfold G4 at k;split at k
  .cases k;exact(g.2 _ u).2 y E
  cases k
 cases b
theorem A21 (g:AX f) {s:Int} (a:(BI h f s).2=0):(BI h f s).1.length<=200000/\∀e∈(BI h f s).1,InN f e.1/\InN f e.2:=by
 unfold BI at a ⊢;split at a
 .cases a
 rename_i h1;rw[An h1];split at a
 .rename_i d;exact absurd a d
 rename_i d;rw[An d];split at a
 .rename_i l;rw[At l];obtain⟨⟨n,o⟩,-⟩:=Fg (h:=h) g (AQ h f s ⟨#[67,79,78,83]⟩);refine⟨by simpa using o,λe u=>?_⟩;obtain⟨x,v,rfl⟩:=GO.1 u;obtain⟨j,m,rfl⟩:=AAd.1 v;have b:=FA (λi r k=>by unfold bD at k;split at k<;>cases k;decide) _ 0 l j (Do _) O1;have q:=n _ (AA5 m);have p:(AO h f (AQ h f s ⟨#[67,79,78,83]⟩)).1.getD j 0=(AO h f (AQ h f s ⟨#[67,79,78,83]⟩)).1[j]:=by simp[AS,m]
  unfold bD at b;rw[p]at b;generalize (AO h f (AQ h f s ⟨#[67,79,78,83]⟩)).1[j]=x at *;have c:IV h f x=true:=by
   cases t:IV h f x with
   | true=>rfl
   | false=>rw[t,An sc]at b;cases b
  unfold IV at c;simp only[AT]at c;have h0:=AC6 (DF q);exact⟨⟨A56 c.1.2,EI g _ _ h0⟩,A56 c.2,EI g _ _ h0⟩
 cases a
def Co (h:AG) (f:List AD) (s:Int):CQ:=(AQ h f s ⟨#[84,79,80]⟩,AQ h f s ⟨#[73,78,68,69,88]⟩,(List.range f.length).map (λi:Nat=>Dk h f (i:Int)),(BH h f s).1,(BI h f s).1)
def zM:CQ:=(0,0,[],[],[])
def Sx (h:AG) (f:List AD):CQ×Int :=
 if AQ h f 0 ⟨#[83,69,77]⟩<0 then (zM,13)
 else if AK (Dk h f (AQ h f (AQ h f 0 ⟨#[83,69,77]⟩) ⟨#[84,79,80]⟩)) ⟨#[104]⟩=false\/AK (Dk h f (AQ h f (AQ h f 0 ⟨#[83,69,77]⟩) ⟨#[73,78,68,69,88]⟩)) ⟨#[]⟩=true then (zM,13)
 else if (BH h f (AQ h f 0 ⟨#[83,69,77]⟩)).2≠0 then (zM,(BH h f (AQ h f 0 ⟨#[83,69,77]⟩)).2)
 else if (BI h f (AQ h f 0 ⟨#[83,69,77]⟩)).2≠0 then (zM,(BI h f (AQ h f 0 ⟨#[83,69,77]⟩)).2)
 else if G3 (Ct (Co h f (AQ h f 0 ⟨#[83,69,77]⟩)))≠0 then (zM,7) else (Ct (Co h f (AQ h f 0 ⟨#[83,69,77]⟩)),0)
def A22:AZ:={ ins:=[FL,E7],pre:=λ(h,f,_)=>XR h f/\0<List.length f,out:=λ(h,f,_)=>[.p dZ (Sx h f).1,.p C0 (Sx h f).2] }
theorem Wm (d:AX f) (i:0<f.length) {V:Int} (m:AK (Dk h f (AQ h f V ⟨#[84,79,80]⟩)) ⟨#[104]⟩=true) (n:AK (Dk h f (AQ h f V ⟨#[73,78,68,69,88]⟩)) ⟨#[]⟩=false) (l:(BH h f V).2=0) (j:(BI h f V).2=0) :
  ME (Co h f V)/\∀x∈BG (Co h f V),0<=x/\x<((Co h f V).2.2.1.length:Int):=by
 obtain⟨o,g⟩:=A20 d l;obtain⟨c1,c2⟩:=A21 d j;have k:(Co h f V).2.2.1.length=f.length:=by simp[Co]
 refine⟨⟨trivial,o,λe c=>(g e c).2.1,c1⟩,λx b=>?_⟩;rw[k];simp only[BG,If,AB9,By,LL,E0,ABl,ACG]at b;rcases b with ((b|b)|⟨e,c,b|b⟩)|⟨e,c,b|b⟩
 .rw[b];exact⟨A56 m,EI d _ _ i⟩
 .rw[b];exact⟨nK n,EI d _ _ i⟩
 .rw[b];exact(g e c).1
 .obtain⟨a,ha,rfl⟩:=GO.1 b;exact(g e c).2.2 a ha
 .rw[b];exact(c2 e c).1
 rw[b];exact(c2 e c).2
theorem A89 (d:ME m):ME (Ct m):=by
 obtain⟨h0,h1,a,b⟩:=d;refine⟨trivial,by simpa[Ct] using h1,λe c=>?_,by simpa[Ct] using b⟩;obtain⟨x,f,rfl⟩:=GO.1 c;simpa[Tm] using a x f
theorem A57:Ac Tryz.prog 16 A22:=by
 refine fKP [0,1,2,3,4,5,6,7,8,9,10,11,16,40,50,61,72,88] [81] [] Tryz.func16 Tryz.ntmps16 (AE Qi (AE aZ (AE wH (AE wI (AE A0D (AE eU AH)))))) ?_;rintro w0 O0 ⟨h,f,u⟩ c-⟨n,e⟩;have n:XR h f:=n;have e:0<f.length:=e;obtain⟨hk,g,ht,ha⟩:=id n;have o:(h.1,h.2)=h:=rfl;have s:=EI (h:=h) g 0 ⟨#[83,69,77]⟩ e;have l:Sx h f=if AQ h f 0 ⟨#[83,69,77]⟩<0 then (zM,13)
  else if AK (Dk h f (AQ h f (AQ h f 0 ⟨#[83,69,77]⟩) ⟨#[84,79,80]⟩)) ⟨#[104]⟩=false\/AK (Dk h f (AQ h f (AQ h f 0 ⟨#[83,69,77]⟩) ⟨#[73,78,68,69,88]⟩)) ⟨#[]⟩=true then (zM,13)
  else if (BH h f (AQ h f 0 ⟨#[83,69,77]⟩)).2≠0 then (zM,(BH h f (AQ h f 0 ⟨#[83,69,77]⟩)).2)
  else if (BI h f (AQ h f 0 ⟨#[83,69,77]⟩)).2≠0 then (zM,(BI h f (AQ h f 0 ⟨#[83,69,77]⟩)).2)
  else if G3 (Ct (Co h f (AQ h f 0 ⟨#[83,69,77]⟩)))≠0 then (zM,7) else (Ct (Co h f (AQ h f 0 ⟨#[83,69,77]⟩)),0):=rfl
 generalize x:AQ h f 0 ⟨#[83,69,77]⟩=V at *;have C:=EI (h:=h) g V ⟨#[84,79,80]⟩ e;have D:=EI (h:=h) g V ⟨#[73,78,68,69,88]⟩ e;simp only[A22,AL];repeat'(first|exact a6|apply eS rfl|apply AB|refine rX c ?_ ?_|refine rC ?_ ?_<;>intro a<;>try(cases a;done))
 all_goals try simp only[o,x]at *
 .exact⟨g,f4.2 e⟩
 .rw[l,At a];exact fI c [.cell 4 41,.tmp 5] (by first|exact eR|refine KP ?_;rfl)
 .exact⟨g,a,s⟩
 .exact⟨⟨hk,ht,C⟩,λ_=>⟨hk,ht,D⟩⟩
 .rename_i j;rw[l,An (AAy.2 j),At a];exact fI c [.cell 4 41,.tmp 5] (by first|exact eR|refine KP ?_;rfl)
 .exact⟨n,a4,s⟩
 .rename_i j b;rw[l,An (AAy.2 j),An (by rw[b.1,b.2];simp),At a];exact fI c [.cell 4 41,.tmp 5] (by first|exact eR|refine KP ?_;rfl)
 .exact⟨n,a4,s⟩
 .rename_i j b k;rw[l,An (AAy.2 j),An (by rw[b.1,b.2];simp),An (by simpa using k),At a];exact fI c [.cell 4 41,.tmp 5] (by first|exact eR|refine KP ?_;rfl)
 rename_i j b k;have k:(BH h f V).2=0:=by simpa using k
 have t:(BI h f V).2=0:=by simpa using a
 have r:=Wm g e b.1 b.2 k t;rw[l,An (AAy.2 j),An (by rw[b.1,b.2];simp),An (by rw[k];simp),An (by rw[t];simp)];have y:Co h f V=(AQ h f V ⟨#[84,79,80]⟩,AQ h f V ⟨#[73,78,68,69,88]⟩,(List.range f.length).map (λi:Nat=>Dk h f (i:Int)),(BH h f V).1,(BI h f V).1):=rfl;clear l a b k t;have F:=g.1;generalize AQ h f V ⟨#[84,79,80]⟩=A at *;generalize AQ h f V ⟨#[73,78,68,69,88]⟩=B at *;generalize (BH h f V).1=R at *;generalize (BI h f V).1=d at *;refine AI (ι:={i:Nat//i<=f.length}) (λi=>⟨[(2,.bp 2 [] 0),(3,.bp 3 [] 0),(4,.bp 4 [] 0),(7,.bp 7 [] 0),(11,.p (.int .i64) (i.1:Int))],[(7,.box 41 true [.p T3 A,.p T3 B,.sr 82 T9 0 (((List.range f.length).take i.1).map (λi:Nat=>Dk h f (i:Int))).length,.p Jy R,.p LO d]),(82,.arr 9 T9 (((List.range f.length).take i.1).map (λi:Nat=>Dk h f (i:Int)))),(4,.box 41 true [.p T3 0,.p T3 0,.raw (.slice none 0 0),.raw (.slice none 0 0),.raw (.slice none 0 0)]),(3,.box 34 true [.p Ij f]),(2,.box 26 true [.p Qu h.1,.p SZ h.2])]⟩) (λi=>f.length-i.1) ⟨0,Do _⟩ (AC [(2,.nm 2),(3,.nm 3),(4,.nm 4),(7,.nm 7),(82,.nil)] rfl rfl ?_ ?_) (λi=>?_)
 .first|exact eN|refine eM ?_
 .first|exact eN|refine eM ?_
 obtain⟨i,hi⟩:=i;have G:(((List.range f.length).take i).map (λi:Nat=>Dk h f (i:Int))).length=i:=by simp only[Of,ON,ABT];omega
 have o:(h.1,h.2)=h:=rfl;simp only;repeat'(first|exact a6|apply eS rfl|apply AB|refine rP c ?_ ?_|fail)
 refine rC ?_ ?_<;>intro a
 .repeat'(first|exact a6|apply eS rfl|apply AB|refine rX c ?_ ?_|refine rC ?_ ?_<;>intro a<;>try(cases a;done))
  all_goals try simp only[o]at *
  .refine⟨⟨hk,ht,a⟩,?_⟩;simp only[AP];omega
  .omega
  have q:i<f.length:=by exact eV
  have m:=FH (λi:Nat=>Dk h f (i:Int)) (List.range f.length) 0 (by simpa using q);have w:(List.range f.length).getD i 0=i:=by simp[AS,q]
  rw[w]at m;refine⟨⟨i+1,q⟩,a2,AC [(2,.nm 2),(3,.nm 3),(4,.nm 4),(7,.nm 7),(82,.nm 82)] rfl rfl ?_ ?_⟩
  .simp only[m];first|exact eN|refine eM ?_
  simp only[m];first|exact eN|refine eM ?_
 have m:(List.range f.length).take i=List.range f.length:=BY (by simp only[ABT];exact eV);simp only[m]at *;refine Cj [82] ?_;generalize E:((List.range f.length).map λi:Nat=>Dk h f (i:Int))=M at *;repeat'(first|exact a6|apply eS rfl|apply AB|refine rX c ?_ ?_|refine rC ?_ ?_<;>intro a<;>try(cases a;done))
 all_goals have v:Co h f V=(A,B,M,R,d):=y
 all_goals rw[v]at r
 all_goals try rw[v]
 all_goals have z:((Ct (A,B,M,R,d)).1,(Ct (A,B,M,R,d)).2.1,(Ct (A,B,M,R,d)).2.2.1,(Ct (A,B,M,R,d)).2.2.2.1,(Ct (A,B,M,R,d)).2.2.2.2)=Ct (A,B,M,R,d):=rfl
 all_goals try simp only[z]at *
 .exact r
 .exact A89 r.1
 .rw[At a];exact fI c [.cell 4 41,.tmp 5] (by first|exact eR|refine KP ?_;rfl)
 rw[An (by simpa using a)];exact fI c [.cell 4 41,.tmp 5]
end
section
attribute [local go_sem] QR Nm LP LK Nj KW JH OX
def A23 (h:AG):Prop:=0<=Ar h ⟨#[104,97,110,100,108,101]⟩/\0<=Ar h ⟨#[101,118,101,110,116]⟩/\0<=Ar h ⟨#[101,110,116,105,116,121]⟩/\0<=Ar h ⟨#[105,110,100,101,120]⟩
def JG:List (ByteArray×ByteArray):=[(⟨#[104]⟩,⟨#[104,97,110,100,108,101]⟩),(⟨#[101]⟩,⟨#[101,118,101,110,116]⟩),(⟨#[120]⟩,⟨#[101,110,116,105,116,121]⟩),(⟨#[105]⟩,⟨#[105,110,100,101,120]⟩)]
def nL (h:AG) (t:Int) (i:Nat):Option ByteArray:=if Ah h (Ar h (JG.getD i (ByteArray.empty,ByteArray.empty)).2) t=true then some (JG.getD i (ByteArray.empty,ByteArray.empty)).1 else none
theorem A24 (hs:A23 h) (t:Int):Ax (nL h t) ⟨#[]⟩ 4 0=Bu h t:=by
 obtain⟨h1,e,f,g⟩:=hs;have a:nL h t 0=if Mg h ⟨#[104,97,110,100,108,101]⟩ t=true then some ⟨#[104]⟩ else none:=by unfold Mg;rw[AB7 h1];rfl
 have b:nL h t 1=if Mg h ⟨#[101,118,101,110,116]⟩ t=true then some ⟨#[101]⟩ else none:=by unfold Mg;rw[AB7 e];rfl
 have c:nL h t 2=if Mg h ⟨#[101,110,116,105,116,121]⟩ t=true then some ⟨#[120]⟩ else none:=by unfold Mg;rw[AB7 f];rfl
 have d:nL h t 3=if Mg h ⟨#[105,110,100,101,120]⟩ t=true then some ⟨#[105]⟩ else none:=by unfold Mg;rw[AB7 g];rfl
 simp only[Ax,Bu,a,b,c,d,AAY,Nat.reduceAdd];split<;>rename_i q
 .split at q<;>cases q;rename_i q;rw[At q]
 split at q<;>cases q;rename_i q;rw[An q];split<;>rename_i q
 .split at q<;>cases q;rename_i q;rw[At q]
 split at q<;>cases q;rename_i q;rw[An q];split<;>rename_i q
 .split at q<;>cases q;rename_i q;rw[At q]
 split at q<;>cases q;rename_i q;rw[An q];split<;>rename_i q
 .split at q<;>cases q;rename_i q;rw[At q]
 split at q<;>cases q;rename_i q;rw[An q]
theorem AAC (hs:A23 h) (hi:i<4):0<=Ar h (JG.getD i (ByteArray.empty,ByteArray.empty)).2:=by
 obtain⟨h1,a,b,c⟩:=hs;match i,hi with
 | 0,_=>exact h1
 | 1,_=>exact a
 | 2,_=>exact b
 | 3,_=>exact c
def bF:AZ:={ ins:=[FL,T3],pre:=λ(h,t,_)=>A23 h/\(0:Int)<=t/\t<(List.length (h:AG).1:Int),out:=λ(h,t,_)=>[.p T9 (Bu h t)],lend:=true }
theorem iJ:Ac Tryz.prog 11 bF:=by
 refine fK [0,1,2,4,6,7,8,9,10,19] Tryz.func11 Tryz.ntmps11 (AE QT (AE QA AH)) ?_;rintro w0 O0 ⟨h,t,u⟩ a-⟨hs,h0,h1⟩;have hs:A23 h:=hs;have h0:0<=t:=h0;have h1:t<(h.1.length:Int):=h1;have d:(h.1,h.2)=h:=rfl;simp only[bF,AL];repeat'(first|exact a6|apply eS rfl|apply AB|refine rP a ?_ ?_|fail)
 refine cP 0 a ?_ ?_
 .trivial
 refine A9h a ?_;refine rL a ?_ ?_
 .trivial
 repeat'(first|exact a6|apply eS rfl|apply AB|refine rP a ?_ ?_|fail)
 rw[<-A24 hs t];generalize e:Ax (nL h t) ⟨#[]⟩ 4 0=S;refine AI (ι:={i:Nat//i<=4/\Ax (nL h t) ⟨#[]⟩ (4-i) i=S}) (λi=>⟨[(1,.p T3 t),(2,.bp 2 [] 0),(7,.p T71 JG),(8,.p (.int .i64) 4),(9,.p (.int .i64) (i.1:Int))],[(2,.box 26 true [.p Qu h.1,.p SZ h.2])]⟩) (λi=>4-i.1) ⟨0,Do _,e⟩ (AC [(2,.nm 2)] rfl rfl ?_ ?_) (λi=>?_)
 .first|exact eN|refine eM ?_
 .first|exact eN|refine eM ?_
  exact⟨rfl,rfl⟩
 obtain⟨i,hi,c⟩:=i;simp only;repeat'(first|exact a6|apply eS rfl|apply AB|refine rX a ?_ ?_|refine rC ?_ ?_<;>intro b<;>try(cases b;done))
 all_goals have d:(h.1,h.2)=h:=rfl
 all_goals try simp only[d]at *
 .exact b
 .exact⟨⟨AAC hs O1,Ga h _⟩,h0,h1⟩
 .rw[CR c O1 (At b)];exact fI a [.tmp 4]
 .omega
 .refine⟨⟨i+1,O1,Cz c O1 (An (by rw[b];simp))⟩,a2,AC [(2,.nm 2)] rfl rfl ?_ ?_⟩
  .first|exact eN|refine eM ?_
  first|exact eN|refine eM ?_
 rw[Dh c O1];exact fI a [.tmp 4]
end
section
attribute [local go_sem] pD pE A3R LP LK Nj KW JH OX
def A25:AZ:={ ins:=[Ty.int .i32],pre:=λ_=>True,out:=λ(c,_)=>[.p .bool (CP 97 122 c)] }
attribute [local go_sem] A25
theorem A58:Ac Tryz.prog 197 A25:=by
 refine fK [0,2] Tryz.func197 Tryz.ntmps197 AH ?_;rintro w0 O0 ⟨c,u⟩ a - -;simp only[A25,AL];repeat'(first|exact a6|apply eS rfl|apply AB|refine rX a ?_ ?_|refine rC ?_ ?_<;>intro b<;>try(cases b;done))
 exact fI a [.tmp 2] (by unfold CP;exact eR)
def A26:AZ:={ ins:=[Ty.int .i32],pre:=λ_=>True,out:=λ(c,_)=>[.p .bool (CP 48 57 c)] }
attribute [local go_sem] A26
theorem A59:Ac Tryz.prog 211 A26:=by
 refine fK [0,2] Tryz.func211 Tryz.ntmps211 AH ?_;rintro w0 O0 ⟨c,u⟩ a - -;simp only[A26,AL];repeat'(first|exact a6|apply eS rfl|apply AB|refine rX a ?_ ?_|refine rC ?_ ?_<;>intro b<;>try(cases b;done))
 exact fI a [.tmp 2] (by unfold CP;exact eR)
def flB (s:ByteArray) (i:Nat):Bool:=CP 97 122 (Nh s i)||(decide (i≠0)&&(CP 48 57 (Nh s i)||Nh s i==45))
theorem Wn (s:ByteArray):BF s false=(decide (1<=s.size/\s.size<=32)&&(List.range s.size).all (flB s)):=by
 rw[ABW];simp only[BF,OQ,AT,bY,AAb,aS,IN,No,oS];constructor
 .rintro⟨⟨⟨⟨h1,c⟩,d⟩,e⟩,a⟩;refine⟨⟨O1,O1⟩,λi hi=>?_⟩;have:=a i hi;unfold OP at this;unfold flB;by_cases h0:i=0
  .subst h0;rw[d,e]at this;simpa using this
  simp only[Bool.false_and,ACl,ACs,ABZ,tO]at this;simp only[ne_eq,h0,ACV,decide_true,ABZ,tO];rcases this with (h|h)|h
  .exact .inr (.inl h)
  .exact .inr (.inr h)
  exact .inl h
 rintro⟨⟨h1,c⟩,a⟩;have h0:=a 0 O1;simp only[flB,ne_eq,AC5,decide_false,Bool.false_and,ACl]at h0;have b:=h0;simp only[CP,AT,IN]at b;refine⟨⟨⟨⟨O1,O1⟩,?_⟩,?_⟩,λi hi=>?_⟩
 .simp only[CP,AB0,aS];right;omega
 .simp only[AB6];omega
 have:=a i hi;unfold flB at this;unfold OP;simp only[Bool.false_and,ACl,ACs,ABZ,tO];simp only[tO,AT]at this;rcases this with h|⟨-,h|h⟩
 .exact .inr h
 .exact .inl (.inl h)
 exact .inl (.inr h)
theorem A5b (s:ByteArray) (p:Nat) (h:p<s.size):Nh s p=((s[p]'h).toNat:Int):=by
 have a:p<s.data.size:=h;show ((s.data.getD p 0).toNat:Int)=_;simp only[Array.getD_eq_getD_getElem?,AAx a,ACx];rfl
theorem A5c {p:Nat} (h:p<s.size) {q:Nat} {r:Int} (h1:(s[p]'h).toNat<128->q=p+1/\r=((s[p]'h).toNat:Int)) (b:128<=(s[p]'h).toNat->128<=r) :
  (CP 97 122 r||(decide (p≠0)&&(CP 48 57 r||r==45)))=flB s p/\(flB s p=true->q=p+1):=by
 unfold flB;rw[A5b s p h];by_cases c:(s[p]'h).toNat<128
 .obtain⟨d,a⟩:=h1 c;rw[a];exact⟨rfl,λ_=>d⟩
 have a:=b O1;have f:∀x:Int,128<=x->(CP 97 122 x||(decide (p≠0)&&(CP 48 57 x||x==45)))=false:=by
  intro x e;simp only[CP,AAb,AB0,aS,AB6];exact⟨.inr O1,.inr ⟨.inr O1,O1⟩⟩
 rw[f r a,f _ O1];exact⟨rfl,λh=>by cases h⟩
theorem nM (s:ByteArray):BE Tryz.prog 196 [.p T9 s,.fn 197] [] [] (λres _=>res=.p .bool (BF s false)):=by
 refine Jx [0,1,4,5,6,14,16,17,18,37] [] [] Tryz.func196 Tryz.ntmps196 (AE A58 (AE A59 AH)) ?_;intro w0 K O0 ρ0 a n t;have o:s.size<=AP:=n.1;simp only[Ap];repeat'(first|exact a6|apply eS rfl|apply AB|refine rX a ?_ ?_|refine rC ?_ ?_<;>intro b<;>try(cases b;done))
 .have hf:BF s false=false:=by
   rw[Wn,AB0];exact .inl (ABC O1)
  exact fM a [.tmp 4] (.p .bool false) eT (by rw[hf])
 refine cP 1 a ?_ ?_
 .trivial
 refine AAr a a5 ?_;refine FG ?_;repeat'(first|exact a6|apply eS rfl|apply AB|refine rP a ?_ ?_|fail)
 refine AI (ι:={p:Nat//p<=s.size/\∀i,i<p->flB s i=true}) (λp=>⟨[(0,.p T9 s),(1,.fn 197),(16,.bp 16 [] 0)],[(16,.sit s p.1)]⟩) (λp=>s.size-p.1) ⟨0,Do _,λ_ h=>by omega⟩ (AC [(16,.nm 16)] rfl rfl ?_ ?_) (λp=>?_)
 .first|exact eN|refine eM ?_
 .first|exact eN|refine eM ?_
 obtain⟨p,u,f⟩:=p;simp only;repeat'(first|exact a6|apply eS rfl|apply AB|refine rP a ?_ ?_|fail)
 refine cP 0 a ?_ ?_
 .trivial
 refine AAs a o (λh=>?_) (λh q r x h1 j hi=>?_)
 .refine rL a ?_ ?_
  .trivial
  repeat'(first|exact a6|apply eS rfl|apply AB|refine rX a ?_ ?_|refine rC ?_ ?_<;>intro b<;>try(cases b;done))
  have w:p=s.size:=by omega
  have hf:BF s false=true:=by
   rw[Wn,AT];exact⟨AB7 O1,No.2 λi hi=>f i (by rw[oS]at hi;omega)⟩
  exact fM a [.tmp 4] (.p .bool true) eT (by rw[hf])
 have d:=A5c h h1 j;refine rL a ?_ ?_
 .trivial
 repeat'(first|exact a6|apply eS rfl|apply AB|refine rX a ?_ ?_|refine rC ?_ ?_<;>intro b<;>try(cases b;done))
 .have hf:BF s false=false:=by
   rw[Wn,AB0];refine .inr (ABh.2 λl=>?_);have:=No.1 l p (oS.2 h);rw[<-d.1]at this;simp only[tO,AT,IN,AA9]at this;rcases b with ⟨ha,c⟩
   rw[ha]at this;rcases this with h|⟨v,h⟩
   .cases h
   rcases c with e|⟨e,g⟩
   .omega
   rw[e]at h;rcases h with h|h
   .cases h
   exact g h
  exact fM a [.tmp 4] (.p .bool false) eT (by rw[hf])
 have hf:flB s p=true:=by
  rw[<-d.1];simp only[tO,AT,IN,AA9];cases ha:CP 97 122 r
  .obtain⟨h0,k⟩:=b ha;refine .inr ⟨O1,?_⟩;cases c:CP 48 57 r
   .have:=k c;exact .inr (by simpa using this)
   exact .inl rfl
  exact .inl rfl
 obtain rfl:=d.2 hf;refine⟨⟨p+1,O1,λi hi=>?_⟩,a2,AC [(16,.nm 16)] rfl rfl ?_ ?_⟩
 .by_cases m:i=p
  .rw[m];exact hf
  exact f i O1
 .first|exact eN|refine eM ?_
 first|exact eN|refine eM ?_
def bG:AZ:={ ins:=[T9],pre:=λ_=>True,out:=λ(s,_)=>[.p .bool (BF s false)] }
attribute [local go_sem] bG
theorem A27:Ac Tryz.prog 186 bG:=by
 refine fK [0,2] Tryz.func186 Tryz.ntmps186 AH ?_;rintro w0 O0 ⟨s,u⟩ a - -;simp only[bG,AL];repeat'(first|exact a6|apply eS rfl|apply AB|refine rX a ?_ ?_|refine rC ?_ ?_<;>intro b<;>try(cases b;done))
 refine cP 1 a ?_ ?_
 .trivial
 refine rM a (nM s) [] [] ?_ ?_ ?_
 .exact eN
 .exact eN
 rintro _ _ rfl;refine⟨[],.p .bool (BF s false),[],rfl,rfl,?_,?_,rfl,rfl,?_⟩
 .exact eN
 .exact eN
 refine rL a ?_ ?_
 .trivial
 repeat'(first|exact a6|apply eS rfl|apply AB|refine rX a ?_ ?_|refine rC ?_ ?_<;>intro b<;>try(cases b;done))
 exact fI a [.tmp 2]
end
section
attribute [local go_sem] nmS bF QR Nm bG LP LK Nj KW JH OX
theorem X1 (h:(match P.underlying t with|some (.struct _)=>true|_=>false)=true):∃fs,P.underlying t=some (.struct fs):=by
 cases e:P.underlying t with
 | none=>rw[e]at h;cases h
 | some u =>
  rw[e]at h;cases u<;>first|exact⟨_,rfl⟩|cases h
theorem rJ {nm:String} {f:FuncId} (hs:∃fs,P.underlying t=some (.struct fs))
  (h:(match P.info? t with|some i=>(match i.methods.find? (·.name==nm) with|some m=>m.path.toList.isEmpty&&(m.func==some (f,false))|none=>false)|none=>false)=true) (w:World) (v:Value) :
  (method (P.types.size+Made.depth) t v nm).run P w=.ok (f,v) w:=by
 obtain⟨fs,hs⟩:=hs;cases hi:P.info? t with
 | none=>rw[hi]at h;cases h
 | some i =>
  rw[hi]at h;simp only at h;cases a:i.methods.find? (·.name==nm) with
  | none=>rw[a]at h;cases h
  | some m =>
   rw[a]at h;simp only[AT,List.isEmpty_iff,AA9]at h;obtain⟨h1,b⟩:=h;have hk:P.types.size+Made.depth=(P.types.size+(Made.depth-1))+1:=rfl;rw[hk];have c:(typeInfo t).run P w=.ok i w:=by simp[typeInfo,Sem.run,program,hi]
   simp[method,c,a,h1,b,follow,receiverAt,iF hs,Place.get]
theorem A28:Ac Tryz.prog 234 nmS:=by
 refine fK [0,1,2] Tryz.func234 Tryz.ntmps234 AH ?_;rintro w0 O0 ⟨s,u⟩ a - -;simp only[nmS,AL];repeat'(first|exact a6|apply eS rfl|apply AB|refine rX a ?_ ?_|refine rC ?_ ?_<;>intro b<;>try(cases b;done))
 exact fI a [.tmp 2]
theorem A29:Ac Tryz.prog 235 nmS:=by
 refine fK [0,1,2] Tryz.func235 Tryz.ntmps235 AH ?_;rintro w0 O0 ⟨s,u⟩ a - -;simp only[nmS,AL];repeat'(first|exact a6|apply eS rfl|apply AB|refine rX a ?_ ?_|refine rC ?_ ?_<;>intro b<;>try(cases b;done))
 exact fI a [.tmp 2]
def UA (h:AG):Prop:=A23 h/\0<=Ar h ⟨#[114,101,108]⟩/\0<=Ar h ⟨#[113,101,113]⟩
def TG (h:AG) (f:List AD) (n:Int):List Qw:=if AK (Bu h (AW f n).1) ⟨#[]⟩=false then [some (241,some (Bu h (AW f n).1))] else []
def Nv (h:AG) (f:List AD) (n:Int):Bool:=Ah h (Ar h ⟨#[114,101,108]⟩) (AW f n).1&&BF (Y3 h f n) false
def TH (h:AG) (f:List AD) (n:Int):List Qw:=if Nv h f n=true then [some (244,some (Y3 h f n))] else []
def TJ (h:AG) (f:List AD) (n:Int):List Qw:=if Ah h (Ar h ⟨#[113,101,113]⟩) (AW f n).1=true then [some (246,none)] else []
def Gw (h:AG) (f:List AD) (n:Int):List Qw:=TG h f n++TH h f n++TJ h f n
def FU (h:AG) (f:List AD) (a b:Int) (d:List (Int×Int)) (c:List ByteArray) (es:List GX) (qs:List NR):List (Nat×Obj) :=
  [(1,.box 81 true [.p FL h,.p E7 f,.mp 2,.ag [.p T3 a,.p T3 b,.sr 3 T9 0 c.length,.sr 4 kU 0 es.length,.sr 5 y7 0 qs.length]]),
   (2,.mapo T3 T3 d),(3,.arr 9 T9 c),(4,.arr 54 kU es),(5,.arr 93 y7 qs)]
theorem Ql (q:Ah h (Ar h ⟨#[114,101,108]⟩) (AW f n).1=true/\BF (Y3 h f n) false=true):Nv h f n=true:=by
 unfold Nv;rw[q.1,q.2];rfl
theorem Qm (q:Ah h (Ar h ⟨#[114,101,108]⟩) (AW f n).1=true->BF (Y3 h f n) false=false):¬Nv h f n=true:=by
 unfold Nv;rw[AT];rintro⟨a,b⟩;rw[q a]at b;cases b
theorem A2a (hs:UA h) (ht:Ck h f) (h0:0<=n) (h1:n<(f.length:Int)) (a b:Int) (k:List (Int×Int)) (l:List ByteArray) (es:List GX) (qs:List NR) :
  BE Tryz.prog 167 [.bp 1 [] 0,.p T3 n] (FU h f a b k l es qs) [1,2]
  (λres m=>res=.p RK (Gw h f n)/\m=FU h f a b k l es qs):=by
 refine Jx [0,1,4,5,6,7,8,25,55,72] [30,60,76] [] Tryz.func167 Tryz.ntmps167 (AE iJ (AE QT (AE QA (AE A27 AH)))) ?_;intro w0 K O0 ρ0 c o q;simp only[Ap,FU];have j:0<=(f.getD n.toNat (0,[])).1/\(f.getD n.toNat (0,[])).1<(h.1.length:Int):=ht _ (AF f (0,[]) (DF ⟨h0,h1⟩));repeat'(first|exact a6|apply eS rfl|apply AB|refine rX c ?_ ?_|refine rC ?_ ?_<;>intro d<;>try(cases d;done))
 .exact⟨h0,h1⟩
 .exact⟨hs.1,j⟩
 .refine cP 3 c ?_ ?_
  .trivial
  refine A72 c (X1 a5) ?_;refine rL c ?_ ?_
  .trivial
  repeat'(first|exact a6|apply eS rfl|apply AB|refine rX c ?_ ?_|refine rC ?_ ?_<;>intro d<;>try(cases d;done))
  .exact j
  .exact⟨⟨hs.2.1,Ga h _⟩,j⟩
  .refine cP 3 c ?_ ?_
   .trivial
   refine A72 c (X1 a5) ?_;refine rL c ?_ ?_
   .trivial
   repeat'(first|exact a6|apply eS rfl|apply AB|refine rX c ?_ ?_|refine rC ?_ ?_<;>intro d<;>try(cases d;done))
   .exact⟨⟨hs.2.2,Ga h _⟩,j⟩
   .refine cP 1 c ?_ ?_
    .trivial
    refine A3P c (X1 a5) (λw=>run_build w _ #[] #[] a5) df ?_;refine rL c ?_ ?_
    .trivial
    repeat'(first|exact a6|apply eS rfl|apply AB|refine rX c ?_ ?_|refine rC ?_ ?_<;>intro d<;>try(cases d;done))
    rename_i g i;have e:Gw h f n=[some (241,some (Bu h (f.getD n.toNat (0,[])).1)),some (244,some (List.getD h.1 (Int.toNat (f.getD n.toNat (0,[])).1) (ByteArray.empty,[],[],[])).1),some (246,none)]:=by
     unfold Gw TG TH TJ;rw[At (show AK (Bu h (AW f n).1) ⟨#[]⟩=false from g),At (Ql i),At (show Ah h (Ar h ⟨#[113,101,113]⟩) (AW f n).1=true from d)];rfl
    refine Cj [31] ?_;exact fM c [.tmp 4] (.p RK [some (241,some (Bu h (f.getD n.toNat (0,[])).1)),some (244,some (List.getD h.1 (Int.toNat (f.getD n.toNat (0,[])).1) (ByteArray.empty,[],[],[])).1),some (246,none)]) eT ⟨by rw[e],rfl⟩
   skip
   rename_i g i;have e:Gw h f n=[some (241,some (Bu h (f.getD n.toNat (0,[])).1)),some (244,some (List.getD h.1 (Int.toNat (f.getD n.toNat (0,[])).1) (ByteArray.empty,[],[],[])).1)]:=by
    unfold Gw TG TH TJ;rw[At (show AK (Bu h (AW f n).1) ⟨#[]⟩=false from g),At (Ql i),An (show ¬Ah h (Ar h ⟨#[113,101,113]⟩) (AW f n).1=true by rw[show Ah h (Ar h ⟨#[113,101,113]⟩) (AW f n).1=false from d];simp)];rfl
   refine Cj [31] ?_;exact fM c [.tmp 4] (.p RK [some (241,some (Bu h (f.getD n.toNat (0,[])).1)),some (244,some (List.getD h.1 (Int.toNat (f.getD n.toNat (0,[])).1) (ByteArray.empty,[],[],[])).1)]) eT ⟨by rw[e],rfl⟩
  .exact⟨⟨hs.2.2,Ga h _⟩,j⟩
  .refine cP 1 c ?_ ?_
   .trivial
   refine A3P c (X1 a5) (λw=>run_build w _ #[] #[] a5) df ?_;refine rL c ?_ ?_
   .trivial
   repeat'(first|exact a6|apply eS rfl|apply AB|refine rX c ?_ ?_|refine rC ?_ ?_<;>intro d<;>try(cases d;done))
   rename_i g i;have e:Gw h f n=[some (241,some (Bu h (f.getD n.toNat (0,[])).1)),some (246,none)]:=by
    unfold Gw TG TH TJ;rw[At (show AK (Bu h (AW f n).1) ⟨#[]⟩=false from g),An (Qm i),At (show Ah h (Ar h ⟨#[113,101,113]⟩) (AW f n).1=true from d)];rfl
   refine Cj [31] ?_;exact fM c [.tmp 4] (.p RK [some (241,some (Bu h (f.getD n.toNat (0,[])).1)),some (246,none)]) eT ⟨by rw[e],rfl⟩
  skip
  rename_i g i;have e:Gw h f n=[some (241,some (Bu h (f.getD n.toNat (0,[])).1))]:=by
   unfold Gw TG TH TJ;rw[At (show AK (Bu h (AW f n).1) ⟨#[]⟩=false from g),An (Qm i),An (show ¬Ah h (Ar h ⟨#[113,101,113]⟩) (AW f n).1=true by rw[show Ah h (Ar h ⟨#[113,101,113]⟩) (AW f n).1=false from d];simp)];rfl
  refine Cj [31] ?_;exact fM c [.tmp 4] (.p RK [some (241,some (Bu h (f.getD n.toNat (0,[])).1))]) eT ⟨by rw[e],rfl⟩
 .exact j
 .exact⟨⟨hs.2.1,Ga h _⟩,j⟩
 .refine cP 3 c ?_ ?_
  .trivial
  refine A72 c (X1 a5) ?_;refine rL c ?_ ?_
  .trivial
  repeat'(first|exact a6|apply eS rfl|apply AB|refine rX c ?_ ?_|refine rC ?_ ?_<;>intro d<;>try(cases d;done))
  .exact⟨⟨hs.2.2,Ga h _⟩,j⟩
  .refine cP 1 c ?_ ?_
   .trivial
   refine A3P c (X1 a5) (λw=>run_build w _ #[] #[] a5) df ?_;refine rL c ?_ ?_
   .trivial
   repeat'(first|exact a6|apply eS rfl|apply AB|refine rX c ?_ ?_|refine rC ?_ ?_<;>intro d<;>try(cases d;done))
   rename_i g i;have e:Gw h f n=[some (244,some (List.getD h.1 (Int.toNat (f.getD n.toNat (0,[])).1) (ByteArray.empty,[],[],[])).1),some (246,none)]:=by
    unfold Gw TG TH TJ;rw[An (show ¬AK (Bu h (AW f n).1) ⟨#[]⟩=false by rw[show AK (Bu h (AW f n).1) ⟨#[]⟩=true from g];simp),At (Ql i),At (show Ah h (Ar h ⟨#[113,101,113]⟩) (AW f n).1=true from d)];rfl
   refine Cj [61] ?_;exact fM c [.tmp 4] (.p RK [some (244,some (List.getD h.1 (Int.toNat (f.getD n.toNat (0,[])).1) (ByteArray.empty,[],[],[])).1),some (246,none)]) eT ⟨by rw[e],rfl⟩
  skip
  rename_i g i;have e:Gw h f n=[some (244,some (List.getD h.1 (Int.toNat (f.getD n.toNat (0,[])).1) (ByteArray.empty,[],[],[])).1)]:=by
   unfold Gw TG TH TJ;rw[An (show ¬AK (Bu h (AW f n).1) ⟨#[]⟩=false by rw[show AK (Bu h (AW f n).1) ⟨#[]⟩=true from g];simp),At (Ql i),An (show ¬Ah h (Ar h ⟨#[113,101,113]⟩) (AW f n).1=true by rw[show Ah h (Ar h ⟨#[113,101,113]⟩) (AW f n).1=false from d];simp)];rfl
  refine Cj [61] ?_;exact fM c [.tmp 4] (.p RK [some (244,some (List.getD h.1 (Int.toNat (f.getD n.toNat (0,[])).1) (ByteArray.empty,[],[],[])).1)]) eT ⟨by rw[e],rfl⟩
 .exact⟨⟨hs.2.2,Ga h _⟩,j⟩
 .refine cP 1 c ?_ ?_
  .trivial
  refine A3P c (X1 a5) (λw=>run_build w _ #[] #[] a5) df ?_;refine rL c ?_ ?_
  .trivial
  repeat'(first|exact a6|apply eS rfl|apply AB|refine rX c ?_ ?_|refine rC ?_ ?_<;>intro d<;>try(cases d;done))
  rename_i g i;have e:Gw h f n=[some (246,none)]:=by
   unfold Gw TG TH TJ;rw[An (show ¬AK (Bu h (AW f n).1) ⟨#[]⟩=false by rw[show AK (Bu h (AW f n).1) ⟨#[]⟩=true from g];simp),An (Qm i),At (show Ah h (Ar h ⟨#[113,101,113]⟩) (AW f n).1=true from d)];rfl
  refine Cj [77] ?_;exact fM c [.tmp 4] (.p RK [some (246,none)]) eT ⟨by rw[e],rfl⟩
 skip
 rename_i g i;have e:Gw h f n=[]:=by
  unfold Gw TG TH TJ;rw[An (show ¬AK (Bu h (AW f n).1) ⟨#[]⟩=false by rw[show AK (Bu h (AW f n).1) ⟨#[]⟩=true from g];simp),An (Qm i),An (show ¬Ah h (Ar h ⟨#[113,101,113]⟩) (AW f n).1=true by rw[show Ah h (Ar h ⟨#[113,101,113]⟩) (AW f n).1=false from d];simp)];rfl
 exact fM c [.tmp 4] (.p RK []) eT ⟨by rw[e],rfl⟩
end
section
attribute [local go_sem] nmS FU LP LK Nj KW JH OX
def G5 (s:ByteArray×ByteArray×Bool):Qw->ByteArray×ByteArray×Bool
 | some (t,some x)=>if t=241 then (x,s.2.1,s.2.2) else if t=244 then (s.1,x,s.2.2) else s
 | some (t,none)=>if t=246 then (s.1,s.2.1,true) else s
 | none=>s
def Nw (h:AG) (f:List AD) (n:Int):ByteArray×ByteArray×Bool:=(Bu h (AW f n).1,if Nv h f n=true then Y3 h f n else ⟨#[]⟩,Ah h (Ar h ⟨#[113,101,113]⟩) (AW f n).1)
theorem A5d (h:AG) (f:List AD) (n:Int):(Gw h f n).foldl G5 (⟨#[]⟩,⟨#[]⟩,false)=Nw h f n:=by
 unfold Gw TG TH TJ Nw;cases a:AK (Bu h (AW f n).1) ⟨#[]⟩<;>cases b:Nv h f n<;>cases c:Ah h (Ar h ⟨#[113,101,113]⟩) (AW f n).1<;>simp[G5];all_goals exact(IM a).symm
theorem A5e {r:Qw} (a:r∈Gw h f n):(∃s,r=some (241,some s))\/(∃s,r=some (244,some s))\/r=some (246,none):=by
 unfold Gw TG TH TJ at a;simp only[If]at a;rcases a with (a|a)|a<;>split at a
 .exact .inl ⟨_,oN.1 a⟩
 .cases a
 .exact .inr (.inl ⟨_,oN.1 a⟩)
 .cases a
 .exact .inr (.inr (oN.1 a))
 cases a
theorem A5f (h:AG) (f:List AD) (n:Int):(Gw h f n).length<=3:=by
 unfold Gw TG TH TJ;simp only[IS];split<;>split<;>split<;>simp
theorem rK (hs:UA h) (ht:Ck h f) (h0:0<=n) (h1:n<(f.length:Int)) (a b:Int) (j:List (Int×Int)) (k:List ByteArray) (es:List GX) (qs:List NR) :
  BE Tryz.prog 129 [.bp 1 [] 0,.p T3 n] (FU h f a b j k es qs) [1,2]
  (λres t=>res=.tup [.p T9 (Nw h f n).1,.p T9 (Nw h f n).2.1,.p .bool (Nw h f n).2.2]/\t=FU h f a b j k es qs):=by
 refine Jx [0,1,4,5,6,8,11,12,13,14,17,19,24,29] [] [] Tryz.func129 Tryz.ntmps129 AH ?_;intro w0 K O0 ρ0 c v x;simp only[Ap,FU];repeat'(first|exact a6|apply eS rfl|apply AB|refine rP c ?_ ?_|fail)
 refine cP 2 c ?_ ?_
 .trivial
 refine rM c (A2a hs ht h0 h1 a b j k es qs) [(1,.nm 1),(2,.nm 2),(3,.nm 3),(4,.nm 4),(5,.nm 5)] [3,4,5] ?_ ?_ ?_
 .first|exact eN|refine eM ?_
 .first|exact eN|refine eM ?_
 rintro _ _ ⟨rfl,rfl⟩;refine⟨[(1,.nm 1),(2,.nm 2),(3,.nm 3),(4,.nm 4),(5,.nm 5)],.p RK (Gw h f n),FU h f a b j k es qs,rfl,rfl,?_,?_,rfl,rfl,?_⟩
 .first|exact eN|refine eM ?_
 .first|exact eN|refine eM ?_
 simp only[FU];refine rL c ?_ ?_
 .trivial
 repeat'(first|exact a6|apply eS rfl|apply AB|refine rP c ?_ ?_|fail)
 have o:=λr (q:r∈Gw h f n)=>A5e q;have m:=A5d h f n;have u:=A5f h f n;generalize Gw h f n=L at *;refine AI (ι:={i:Nat//i<=L.length}) (λi=>⟨[(0,.bp 1 [] 0),(4,.p T9 ((L.take i.1).foldl G5 (⟨#[]⟩,⟨#[]⟩,false)).1),(5,.p T9 ((L.take i.1).foldl G5 (⟨#[]⟩,⟨#[]⟩,false)).2.1),(6,.p .bool ((L.take i.1).foldl G5 (⟨#[]⟩,⟨#[]⟩,false)).2.2),(11,.p RK L),(12,.p (.int .i64) (L.length:Int)),(13,.p (.int .i64) (i.1:Int))],FU h f a b j k es qs⟩) (λi=>L.length-i.1) ⟨0,Do _⟩ (AC [(1,.nm 1),(2,.nm 2),(3,.nm 3),(4,.nm 4),(5,.nm 5)] rfl rfl ?_ ?_) (λi=>?_)
 .first|exact eN|refine eM ?_
 .first|exact eN|refine eM ?_
  exact⟨rfl,rfl,rfl⟩
 obtain⟨i,hi⟩:=i;have g:i<L.length->(L.take (i+1)).foldl G5 (⟨#[]⟩,⟨#[]⟩,false)=G5 ((L.take i).foldl G5 (⟨#[]⟩,⟨#[]⟩,false)) (L.getD i none):=by
  intro e;rw[List.take_add_one,As e,ABq,AS,As e];rfl
 have l:i<L.length->L.getD i none∈L:=by
  intro e;rw[AS,As e];exact AA5 e
 simp only[FU];repeat'(first|exact a6|apply eS rfl|apply AB|refine rX c ?_ ?_|refine rC ?_ ?_<;>intro d<;>try(cases d;done))
 .exact d
 .have e:i<L.length:=by omega
  have g:=g e;generalize (L.take i).foldl G5 (⟨#[]⟩,⟨#[]⟩,false)=Z at *;have l:=o _ (l e);generalize L.getD i none=r at *;rcases l with ⟨s,rfl⟩|⟨s,rfl⟩|rfl
  .skip
   refine cP 0 c ?_ ?_
   .trivial
   refine t4 c (X1 a5) ⟨_,λw=>rfl⟩ ?_;refine rL c ?_ ?_
   .trivial
   repeat'(first|exact a6|apply eS rfl|apply AB|refine rX c ?_ ?_|refine rC ?_ ?_<;>intro d<;>try(cases d;done))
   refine cP 1 c ?_ ?_
   .trivial
   refine A9i c A28 (rJ (X1 a5) a5) ?_;refine rL c ?_ ?_
   .trivial
   repeat'(first|exact a6|apply eS rfl|apply AB|refine rX c ?_ ?_|refine rC ?_ ?_<;>intro d<;>try(cases d;done))
   .exact eV
   refine⟨⟨i+1,O1⟩,a2,AC [(1,.nm 1),(2,.nm 2),(3,.nm 3),(4,.nm 4),(5,.nm 5)] rfl rfl ?_ ?_⟩
   .first|exact eN|refine eM ?_
   simp only[g,G5];first|exact eN|refine eM ?_
  .skip
   refine cP 0 c ?_ ?_
   .trivial
   refine t4 c (X1 a5) ⟨_,λw=>rfl⟩ ?_;refine rL c ?_ ?_
   .trivial
   repeat'(first|exact a6|apply eS rfl|apply AB|refine rX c ?_ ?_|refine rC ?_ ?_<;>intro d<;>try(cases d;done))
   refine cP 0 c ?_ ?_
   .trivial
   refine t4 c (X1 a5) ⟨_,λw=>rfl⟩ ?_;refine rL c ?_ ?_
   .trivial
   repeat'(first|exact a6|apply eS rfl|apply AB|refine rX c ?_ ?_|refine rC ?_ ?_<;>intro d<;>try(cases d;done))
   refine cP 1 c ?_ ?_
   .trivial
   refine A9i c A29 (rJ (X1 a5) a5) ?_;refine rL c ?_ ?_
   .trivial
   repeat'(first|exact a6|apply eS rfl|apply AB|refine rX c ?_ ?_|refine rC ?_ ?_<;>intro d<;>try(cases d;done))
   .exact eV
   refine⟨⟨i+1,O1⟩,a2,AC [(1,.nm 1),(2,.nm 2),(3,.nm 3),(4,.nm 4),(5,.nm 5)] rfl rfl ?_ ?_⟩
   .first|exact eN|refine eM ?_
   simp only[g,G5];first|exact eN|refine eM ?_
  skip
  refine cP 0 c ?_ ?_
  .trivial
  refine t4 c (X1 a5) ⟨_,λw=>rfl⟩ ?_;refine rL c ?_ ?_
  .trivial
  repeat'(first|exact a6|apply eS rfl|apply AB|refine rX c ?_ ?_|refine rC ?_ ?_<;>intro d<;>try(cases d;done))
  refine cP 0 c ?_ ?_
  .trivial
  refine t4 c (X1 a5) ⟨_,λw=>rfl⟩ ?_;refine rL c ?_ ?_
  .trivial
  repeat'(first|exact a6|apply eS rfl|apply AB|refine rX c ?_ ?_|refine rC ?_ ?_<;>intro d<;>try(cases d;done))
  refine cP 0 c ?_ ?_
  .trivial
  refine t4 c (X1 a5) ⟨_,λw=>rfl⟩ ?_;refine rL c ?_ ?_
  .trivial
  repeat'(first|exact a6|apply eS rfl|apply AB|refine rX c ?_ ?_|refine rC ?_ ?_<;>intro d<;>try(cases d;done))
  .exact eV
  refine⟨⟨i+1,O1⟩,a2,AC [(1,.nm 1),(2,.nm 2),(3,.nm 3),(4,.nm 4),(5,.nm 5)] rfl rfl ?_ ?_⟩
  .first|exact eN|refine eM ?_
  simp only[g,G5];first|exact eN|refine eM ?_
 have e:i=L.length:=by omega
 subst e;rw[oR,m];exact fM c [.tmp 4,.tmp 5,.tmp 6] (.tup [.p T9 (Nw h f n).1,.p T9 (Nw h f n).2.1,.p .bool (Nw h f n).2.2]) eT ⟨rfl,rfl⟩
end
section
attribute [local go_sem] Jr FU LP LK Nj KW JH OX
theorem A5g (h:∀a∈l,0<=a.1):BU l (-1)=-1:=by
 induction l with
 | nil=>rfl
 | cons a l d =>
  have:=h a jB;unfold BU;rw[An O1];exact d λb c=>h b (IF _ c)
theorem rO (ha:O2 h f) (n:Int) (s:ByteArray):AQ h f n s=BU (AW f n).2 (BO h s):=by
 unfold AQ;split
 .rfl
 have h1:=(GZ h s).1;rw[show BO h s=-1 by omega,A5g];intro a b;by_cases c:n.toNat<f.length
 .exact(ha _ (by unfold AW;rw[AS,As c];exact AA5 c) a b).1
 have:AW f n=(0,[]):=by unfold AW;rw[AS,oF O1];rfl
 rw[this]at b;cases b
def Qn (h:AG) (f:List AD) (n:Int) (s:ByteArray):Int×Bool:=if AQ h f n s<0 then (0,false) else (AQ h f n s,true)
theorem bH (o:AX f) (ha:O2 h f) (h0:0<=n) (h1:n<(f.length:Int)) (s:ByteArray) (a b:Int) (g:List (Int×Int)) (i:List ByteArray) (es:List GX) (qs:List NR) :
  BE Tryz.prog 83 [.bp 1 [] 0,.p T3 n,.p T9 s] (FU h f a b g i es qs) [1,2]
  (λres u=>res=.tup [.p T3 (Qn h f n s).1,.p .bool (Qn h f n s).2]/\u=FU h f a b g i es qs):=by
 refine Jx [0,1,2,6,7,8,10,25,26,27,28,34] [] [] Tryz.func83 Tryz.ntmps83 (AE WE AH) ?_;intro w0 K O0 ρ0 e w x;have y:=(o.2 _ (AF f (0,[]) (DF ⟨h0,h1⟩))).1;have t:AQ h f n s=BU (f.getD n.toNat (0,[])).2 (BO h s):=rO ha n s;simp only[Ap,FU];repeat'(first|exact a6|apply eS rfl|apply AB|refine rX e ?_ ?_|refine rC ?_ ?_<;>intro c<;>try(cases c;done))
 .exact⟨h0,h1⟩
 refine AI (ι:={k:Nat//k<=(f.getD n.toNat (0,[])).2.length/\BU (f.getD n.toNat (0,[])).2 (BO h s)=BU ((f.getD n.toNat (0,[])).2.drop k) (BO h s)}) (λk=>⟨[(0,.bp 1 [] 0),(8,.p T3 (BO h s)),(25,.p NQ (f.getD n.toNat (0,[])).2),(26,.p (.int .i64) ((f.getD n.toNat (0,[])).2.length:Int)),(27,.p (.int .i64) (k.1:Int))],FU h f a b g i es qs⟩) (λk=>(f.getD n.toNat (0,[])).2.length-k.1) ⟨0,Do _,rfl⟩ (AC [(1,.nm 1),(2,.nm 2),(3,.nm 3),(4,.nm 4),(5,.nm 5)] rfl rfl ?_ ?_) (λk=>?_)
 .first|exact eN|refine eM ?_
 .first|exact eN|refine eM ?_
 obtain⟨k,hk,m⟩:=k;have r:=λd:k<(f.getD n.toNat (0,[])).2.length=>NC (BO h s) (f.getD n.toNat (0,[])).2 d;simp only[FU];repeat'(first|exact a6|apply eS rfl|apply AB|refine rX e ?_ ?_|refine rC ?_ ?_<;>intro c<;>try(cases c;done))
 .exact c
 .rename_i q;have d:k<(f.getD n.toNat (0,[])).2.length:=by omega
  have j:AQ h f n s=((f.getD n.toNat (0,[])).2.getD k (0,0)).2:=by rw[t,m,r d,At c]
  have v:0<=AQ h f n s:=by rw[j];exact((o.2 _ (AF f (0,[]) (DF ⟨h0,h1⟩))).2 _ (AF _ (0,0) d)).1
  have l:Qn h f n s=(((f.getD n.toNat (0,[])).2.getD k (0,0)).2,true):=by unfold Qn;rw[An O1,j]
  refine Ev.ent (σ':=⟨[(6,.p (.int .i64) ((f.getD n.toNat (0,[])).2.getD k (0,0)).2),(7,.p .bool true)],FU h f a b g i es qs⟩) ?_ (AC [(1,.nm 1),(2,.nm 2),(3,.nm 3),(4,.nm 4),(5,.nm 5)] rfl rfl ?_ ?_)
  .exact fM e [.tmp 6,.tmp 7] (.tup [.p T3 (((f.getD n.toNat (0,[])).2.getD k (0,0)).2),.p .bool true]) eT ⟨by rw[l],rfl⟩
  .first|exact eN|refine eM ?_
  first|exact eN|refine eM ?_
 .exact eV
 .rename_i q;refine⟨⟨k+1,eV,m.trans ((r eV).trans (An c))⟩,a2,AC [(1,.nm 1),(2,.nm 2),(3,.nm 3),(4,.nm 4),(5,.nm 5)] rfl rfl ?_ ?_⟩
  .first|exact eN|refine eM ?_
  first|exact eN|refine eM ?_
 have j:AQ h f n s=-1:=by
  rw[t,m,Is O1];rfl
 have l:Qn h f n s=(0,false):=by unfold Qn;rw[At O1]
 exact fM e [.tmp 6,.tmp 7] (.tup [.p T3 (0:Int),.p .bool false]) eT ⟨by rw[l],rfl⟩
end
section
attribute [local go_sem] FU LP LK Nj KW JH OX
def Nx:Nat->List Int->List (Int×Int)
 | _,[]=>[]
 | k,x :: r=>(x,(k:Int)) :: Nx (k+1) r
def IW (ns:List Int):List (Int×Int):=Nx 0 ns
theorem bI (x:Int):∀(l:List Int) (k:Nat),D5 x k l=-1\/(k:Int)<=D5 x k l/\D5 x k l<((k+l.length:Nat):Int)
 | [],k=>.inl rfl
 | y :: l,k=>by
  unfold D5;split
  .exact .inr ⟨O1,by simp only[NO];omega⟩
  rcases bI x l (k+1) with h|⟨h1,a⟩
  .exact .inl h
  exact .inr ⟨O1,by simp only[NO];omega⟩
theorem Wo (x:Int):∀(l:List Int) (k:Nat),BV T3 T3 x (Nx k l)=if D5 x k l<0 then none else some (D5 x k l)
 | [],k=>rfl
 | y :: l,k=>by
  have b:=Wo x l (k+1);unfold Nx BV D5;by_cases h:y=x
  .subst h;simp[HZ]
  have a:¬x=y:=λe=>h e.symm;simp only[HZ,IN,h,a,ABi];simpa[a] using b
theorem rQ (x:Int) (v:Int):∀(l:List Int) (k:Nat),D5 x k l<0->FJ T3 T3 x v (Nx k l)=Nx k l++[(x,v)]
 | [],k,_=>rfl
 | y :: l,k,h=>by
  unfold D5 at h;by_cases e:y=x
  .rw[At e]at h;omega
  rw[An e]at h;have b:=rQ x v l (k+1) h;have a:¬x=y:=λq=>e q.symm;unfold Nx FJ;simp only[HZ,IN,a,ABi];simpa[a] using b
theorem iK (x:Int):∀(l:List Int) (k:Nat),Nx k (l++[x])=Nx k l++[(x,((k+l.length:Nat):Int))]
 | [],k=>rfl
 | y :: l,k=>by
  have a:=iK x l (k+1);simp only[To,Nx,a,NO];rw[show k+1+l.length=k+(l.length+1) by omega]
theorem Qo (x:Int):∀(l:List Int) (k:Nat),D5 x k l<0->D5 x k (l++[x])=((k+l.length:Nat):Int)
 | [],k,_=>by simp[D5]
 | y :: l,k,h=>by
  unfold D5 at h;by_cases e:y=x
  .rw[At e]at h;omega
  rw[An e]at h;have a:=Qo x l (k+1) h;simp only[To,D5,An e,a,NO];rw[show k+1+l.length=k+(l.length+1) by omega]
def G6 (f:List AD) (ns:List Int):Prop:=ns.Nodup/\∀x∈ns,0<=x/\x<(f.length:Int)
theorem rR {x:Int}:∀(l:List Int) (k:Nat),D5 x k l<0->x∉l
 | [],_,_=>by simp
 | y :: l,k,h=>by
  unfold D5 at h;by_cases e:y=x
  .rw[At e]at h;omega
  rw[An e]at h;have a:=rR l (k+1) h;simp only[By,not_or];exact⟨λq=>e q.symm,a⟩
theorem A5h {ns:List Int} (h:G6 f ns) (h0:0<=n) (h1:n<(f.length:Int)):G6 f (Ab ns n):=by
 unfold Ab;split
 .rename_i q;refine⟨?_,λx c=>?_⟩
  .have:=rR ns 0 q;exact ABb.2 ⟨h.1,sc,by rintro a ha b d rfl;rw[oN]at d;subst d;exact this ha⟩
  rcases If.1 c with c|c
  .exact h.2 x c
  rw[oN.1 c];exact⟨h0,h1⟩
 exact h
theorem A8a {ns:List Int} (h:G6 f ns):ns.length<=f.length:=by
 have h1:(ns.map Int.toNat).Nodup:=by
  refine AAN.2 (h.1.imp_of_mem ?_);intro a b ha d j e;have:=h.2 a ha;have:=h.2 b d;omega
 have c:=DG f.length _ h1 (λx g=>by
  obtain⟨y,i,rfl⟩:=GO.1 g;have:=h.2 y i;omega)
 simpa using c
def Ej (h:AG) (f:List AD) (a b:Int) (ns:List Int) (es:List GX) (qs:List NR):List (Nat×Obj):=FU h f a b (IW ns) (ns.map (Dk h f)) es qs
def O8 (h:AG) (f:List AD) (ns:List Int) (n:Int):(Int×Bool)×List Int:=if AK (Dk h f n) ⟨#[]⟩=true then ((0,false),ns) else ((Ec (Ab ns n) n,true),Ab ns n)
theorem bJ (hs:UA h) (s:AX f) (ht:Ck h f) (h0:0<=n) (h1:n<(f.length:Int)) {ns:List Int} (hn:G6 f ns) (a b:Int) (es:List GX) (qs:List NR) :
  BE Tryz.prog 84 [.bp 1 [] 0,.p T3 n] (Ej h f a b ns es qs) [1,2]
  (λres t=>res=.tup [.p T3 (O8 h f ns n).1.1,.p .bool (O8 h f ns n).1.2]/\t=Ej h f a b (O8 h f ns n).2 es qs):=by
 refine Jx [0,1,4,5,6,9,10,19,30] [50] [] Tryz.func84 Tryz.ntmps84 AH ?_;intro w0 K O0 ρ0 c w x;have j:Dk h f n=Bu h (AW f n).1:=An O1;have v:=A8a hn;have u:=s.1;simp only[Ap,Ej,FU];repeat'(first|exact a6|apply eS rfl|apply AB|refine rP c ?_ ?_|fail)
 refine cP 2 c ?_ ?_
 .trivial
 refine rM c (rK hs ht h0 h1 a b (IW ns) (ns.map (Dk h f)) es qs) [(1,.nm 1),(2,.nm 2),(3,.nm 3),(4,.nm 4),(5,.nm 5)] [3,4,5] ?_ ?_ ?_
 .first|exact eN|refine eM ?_
 .first|exact eN|refine eM ?_
 rintro _ _ ⟨rfl,rfl⟩;refine⟨[(1,.nm 1),(2,.nm 2),(3,.nm 3),(4,.nm 4),(5,.nm 5)],.tup [.p T9 (Nw h f n).1,.p T9 (Nw h f n).2.1,.p .bool (Nw h f n).2.2],FU h f a b (IW ns) (ns.map (Dk h f)) es qs,rfl,rfl,?_,?_,rfl,rfl,?_⟩
 .first|exact eN|refine eM ?_
 .first|exact eN|refine eM ?_
 simp only[FU];refine rL c ?_ ?_
 .trivial
 repeat'(first|exact a6|apply eS rfl|apply AB|refine rX c ?_ ?_|refine rC ?_ ?_<;>intro d<;>try(cases d;done))
 .have e:O8 h f ns n=((0,false),ns):=At (by rw[j];exact d);exact fM c [.tmp 4,.tmp 5] (.tup [.p T3 (0:Int),.p .bool false]) eT ⟨by rw[e],by rw[e]⟩
 .simp only[Of,AP];omega
 .rename_i q;have q:¬AK (Dk h f n) ⟨#[]⟩=true:=by rw[j];rw[show AK (Bu h (AW f n).1) ⟨#[]⟩=false from q];simp
  have g:Ec ns n<0:=by
   have:=Wo n ns 0;by_cases i:D5 n 0 ns<0
   .exact i
   rw[An i]at this;rw[show BV T3 T3 n (IW ns)=some (D5 n 0 ns) from this]at d;cases d
  have k:Ab ns n=ns++[n]:=At g;have e:O8 h f ns n=(((ns.length:Int),true),ns++[n]):=by
   unfold O8;rw[An q,k];have:=Qo n ns 0 g;rw[AAY]at this;rw[show Ec (ns++[n]) n=(ns.length:Int) from this]
  have l:FJ T3 T3 n (((ns.map (Dk h f)).length:Int)) (IW ns)=IW (ns++[n]):=by
   have h1:=rQ n (ns.length:Int) ns 0 g;have m:=iK n ns 0;rw[AAY]at m;rw[Of];exact h1.trans m.symm
  have o:ns.map (Dk h f)++[(Nw h f n).1]=(ns++[n]).map (Dk h f):=by
   rw[AAT,List.map_singleton,j];rfl
  have r:(ns.map (Dk h f)).length+1=((ns++[n]).map (Dk h f)).length:=by simp
  rw[l,o,r];exact fM c [.tmp 4,.tmp 5] (.tup [.p T3 ((ns.map (Dk h f)).length:Int),.p .bool true]) eT ⟨by rw[e,Of],by rw[e]⟩
 rename_i q;have q:¬AK (Dk h f n) ⟨#[]⟩=true:=by rw[j];rw[show AK (Bu h (AW f n).1) ⟨#[]⟩=false from q];simp
 have hf:=Wo n ns 0;have g:¬Ec ns n<0:=by
  intro i;rw[At (show D5 n 0 ns<0 from i)]at hf;rw[show BV T3 T3 n (IW ns)=none from hf]at d;cases d
 rw[An (show ¬D5 n 0 ns<0 from g)]at hf;have k:Ab ns n=ns:=An g;have e:O8 h f ns n=((Ec ns n,true),ns):=by unfold O8;rw[An q,k]
 have l:(BV T3 T3 n (IW ns)).getD 0=Ec ns n:=by rw[show BV T3 T3 n (IW ns)=some (D5 n 0 ns) from hf];rfl
 rw[l];exact fM c [.tmp 4,.tmp 5] (.tup [.p T3 (Ec ns n),.p .bool true]) eT ⟨by rw[e],by rw[e]⟩
end
section
attribute [local go_sem] FU Ej LP LK Nj KW JH OX
def CU (h:AG) (f:List AD) (ns:List Int) (n:Int) (s:ByteArray):(Int×Bool)×List Int :=
 if AQ h f n s<0 then ((0,false),ns) else if AK (Dk h f (AQ h f n s)) ⟨#[104]⟩=false then ((0,false),ns) else O8 h f ns (AQ h f n s)
theorem UB (hs:UA h) (g:AX f) (ht:Ck h f) (ha:O2 h f) (h0:0<=n) (h1:n<(f.length:Int)) (s:ByteArray) {ns:List Int} (hn:G6 f ns) (a b:Int) (es:List GX) (qs:List NR) :
  BE Tryz.prog 82 [.bp 1 [] 0,.p T3 n,.p T9 s] (Ej h f a b ns es qs) [1,2]
  (λres m=>res=.tup [.p T3 (CU h f ns n s).1.1,.p .bool (CU h f ns n s).1.2]/\m=Ej h f a b (CU h f ns n s).2 es qs):=by
 refine Jx [0,1,2,6,7,8,9,10,21,30] [] [] Tryz.func82 Tryz.ntmps82 AH ?_;intro w0 K O0 ρ0 c o r;have k:=EI (h:=h) g n s O1;simp only[Ap,Ej,FU];repeat'(first|exact a6|apply eS rfl|apply AB|refine rP c ?_ ?_|fail)
 refine cP 3 c ?_ ?_
 .trivial
 refine rM c (bH g ha h0 h1 s a b (IW ns) (ns.map (Dk h f)) es qs) [(1,.nm 1),(2,.nm 2),(3,.nm 3),(4,.nm 4),(5,.nm 5)] [3,4,5] ?_ ?_ ?_
 .first|exact eN|refine eM ?_
 .first|exact eN|refine eM ?_
 rintro _ _ ⟨rfl,rfl⟩;refine⟨[(1,.nm 1),(2,.nm 2),(3,.nm 3),(4,.nm 4),(5,.nm 5)],.tup [.p T3 (Qn h f n s).1,.p .bool (Qn h f n s).2],FU h f a b (IW ns) (ns.map (Dk h f)) es qs,rfl,rfl,?_,?_,rfl,rfl,?_⟩
 .first|exact eN|refine eM ?_
 .first|exact eN|refine eM ?_
 simp only[Ej,FU];refine rL c ?_ ?_
 .trivial
 repeat'(first|exact a6|apply eS rfl|apply AB|refine rX c ?_ ?_|refine rC ?_ ?_<;>intro d<;>try(cases d;done))
 .have q:AQ h f n s<0:=by
   unfold Qn at d;split at d
   .assumption
   cases d
  have e:CU h f ns n s=((0,false),ns):=At q;exact fM c [.tmp 6,.tmp 7] (.tup [.p T3 (0:Int),.p .bool false]) eT ⟨by rw[e],by rw[e]⟩
 have q:0<=AQ h f n s/\(Qn h f n s).1=AQ h f n s:=by
  unfold Qn at d ⊢;split
  .rename_i q;rw[At q]at d;cases d
  exact⟨O1,rfl⟩
 rw[q.2];have l:=q.1;have j:Dk h f (AQ h f n s)=(Nw h f (AQ h f n s)).1:=An O1;have i:CU h f ns n s=if AK (Dk h f (AQ h f n s)) ⟨#[104]⟩=false then ((0,false),ns) else O8 h f ns (AQ h f n s):=An O1
 generalize AQ h f n s=v at *;refine cP 2 c ?_ ?_
 .trivial
 refine rM c (rK hs ht l k a b (IW ns) (ns.map (Dk h f)) es qs) [(1,.nm 1),(2,.nm 2),(3,.nm 3),(4,.nm 4),(5,.nm 5)] [3,4,5] ?_ ?_ ?_
 .first|exact eN|refine eM ?_
 .first|exact eN|refine eM ?_
 rintro _ _ ⟨rfl,rfl⟩;refine⟨[(1,.nm 1),(2,.nm 2),(3,.nm 3),(4,.nm 4),(5,.nm 5)],.tup [.p T9 (Nw h f v).1,.p T9 (Nw h f v).2.1,.p .bool (Nw h f v).2.2],FU h f a b (IW ns) (ns.map (Dk h f)) es qs,rfl,rfl,?_,?_,rfl,rfl,?_⟩
 .first|exact eN|refine eM ?_
 .first|exact eN|refine eM ?_
 simp only[Ej,FU];refine rL c ?_ ?_
 .trivial
 repeat'(first|exact a6|apply eS rfl|apply AB|refine rX c ?_ ?_|refine rC ?_ ?_<;>intro d<;>try(cases d;done))
 .have e:CU h f ns n s=((0,false),ns):=i.trans (At (by rw[j];exact d));exact fM c [.tmp 6,.tmp 7] (.tup [.p T3 (0:Int),.p .bool false]) eT ⟨by rw[e],by rw[e]⟩
 have e:CU h f ns n s=O8 h f ns v:=i.trans (An (by rw[j];rw[d];simp));rw[e];refine cP 2 c ?_ ?_
 .trivial
 refine rM c (bJ hs g ht l k hn a b es qs) [(1,.nm 1),(2,.nm 2),(3,.nm 3),(4,.nm 4),(5,.nm 5)] [3,4,5] ?_ ?_ ?_
 .first|exact eN|refine eM ?_
 .first|exact eN|refine eM ?_
 rintro _ _ ⟨rfl,rfl⟩;refine⟨[(1,.nm 1),(2,.nm 2),(3,.nm 3),(4,.nm 4),(5,.nm 5)],.tup [.p T3 (O8 h f ns v).1.1,.p .bool (O8 h f ns v).1.2],Ej h f a b (O8 h f ns v).2 es qs,rfl,rfl,?_,?_,rfl,rfl,?_⟩
 .first|exact eN|refine eM ?_
 .first|exact eN|refine eM ?_
 simp only[Ej,FU];refine rL c ?_ ?_
 .trivial
 repeat'(first|exact a6|apply eS rfl|apply AB|refine rX c ?_ ?_|refine rC ?_ ?_<;>intro d<;>try(cases d;done))
 exact fM c [.tmp 6,.tmp 7] (.tup [.p T3 (O8 h f ns v).1.1,.p .bool (O8 h f ns v).1.2]) eT ⟨rfl,rfl⟩
end
section
attribute [local go_sem] FU Ej LP LK Nj KW JH OX
def FW (h:AG) (f:List AD) (st:List Int×List Px) (a:Int×Int):List Int×List Px :=
 if AK (Wl h a) ⟨#[76,65,66,69,76]⟩=true then st else ((O8 h f st.1 a.2).2,if (O8 h f st.1 a.2).1.2=true then st.2++[(Wl h a,(O8 h f st.1 a.2).1.1)] else st.2)
def Ks (h:AG) (f:List AD) (ns:List Int) (es:List GX) (n:Int):Bool×List Int×List GX :=
 if AK (Nw h f n).2.1 ⟨#[]⟩=true\/(CU h f ns n ⟨#[76,65,66,69,76]⟩).1.2=false then (false,(CU h f ns n ⟨#[76,65,66,69,76]⟩).2,es)
 else (true,((AW f n).2.foldl (FW h f) ((CU h f ns n ⟨#[76,65,66,69,76]⟩).2,[])).1,es++[((Nw h f n).2.1,(CU h f ns n ⟨#[76,65,66,69,76]⟩).1.1,((AW f n).2.foldl (FW h f) ((CU h f ns n ⟨#[76,65,66,69,76]⟩).2,[])).2)])
theorem rS {ns:List Int} (hn:G6 f ns) (h:AG) (h0:0<=n) (h1:n<(f.length:Int)):G6 f (O8 h f ns n).2:=by
 unfold O8;split
 .exact hn
 exact A5h hn h0 h1
theorem O4 {ns:List Int} (hn:G6 f ns) (b:AX f) (n:Int) (s:ByteArray) (h0:0<f.length):G6 f (CU h f ns n s).2:=by
 unfold CU;have a:=EI (h:=h) b n s h0;split
 .exact hn
 split
 .exact hn
 exact rS hn h O1 a
theorem rT (l:List (Int×Int)):∀(st:List Int×List Px),G6 f st.1->(∀a∈l,0<=a.2/\a.2<(f.length:Int))->G6 f (l.foldl (FW h f) st).1/\(l.foldl (FW h f) st).2.length<=st.2.length+l.length:=by
 induction l with
 | nil=>intro st h _;exact⟨h,sc⟩
 | cons a l g =>
  intro st d ha;have h1:G6 f (FW h f st a).1/\(FW h f st a).2.length<=st.2.length+1:=by
   unfold FW;split
   .exact⟨d,O1⟩
   refine⟨rS d h (ha a jB).1 (ha a jB).2,?_⟩;dsimp only;split
   .simp
   omega
  have c:=g (FW h f st a) h1.1 (λb e=>ha b (IF _ e));refine⟨c.1,?_⟩;have:=c.2;have:=h1.2;simp only[OS,NO];omega
theorem A5i (hs:UA h) (l:AX f) (ht:Ck h f) (ha:O2 h f) (h0:0<=n) (h1:n<(f.length:Int)) {ns:List Int} (hn:G6 f ns) (a b:Int) (es:List GX) (F:es.length<=200000) (qs:List NR) :
  BE Tryz.prog 86 [.bp 1 [] 0,.p T3 n] (Ej h f a b ns es qs) [1,2]
  (λres D=>res=.p .bool (Ks h f ns es n).1/\D=Ej h f a b (Ks h f ns es n).2.1 (Ks h f ns es n).2.2 qs):=by
 refine Jx [0,1,4,6,8,9,10,12,13,14,15,34,46,47,48,49,63,71] [77,88] [] Tryz.func86 Tryz.ntmps86 AH ?_;intro w0 K O0 ρ0 c G H;have s:=AF f (0,[]) (DF ⟨h0,h1⟩);have E:=(l.2 _ s).1;have t:=(l.2 _ s).2;have z:=ha _ s;have A:0<f.length:=by omega
 have hh:=O4 (h:=h) hn l n ⟨#[76,65,66,69,76]⟩ A;have o:Ks h f ns es n=if AK (Nw h f n).2.1 ⟨#[]⟩=true\/(CU h f ns n ⟨#[76,65,66,69,76]⟩).1.2=false then (false,(CU h f ns n ⟨#[76,65,66,69,76]⟩).2,es)
  else (true,((AW f n).2.foldl (FW h f) ((CU h f ns n ⟨#[76,65,66,69,76]⟩).2,[])).1,es++[((Nw h f n).2.1,(CU h f ns n ⟨#[76,65,66,69,76]⟩).1.1,((AW f n).2.foldl (FW h f) ((CU h f ns n ⟨#[76,65,66,69,76]⟩).2,[])).2)]):=rfl
 simp only[Ap,Ej,FU];repeat'(first|exact a6|apply eS rfl|apply AB|refine rP c ?_ ?_|fail)
 refine cP 2 c ?_ ?_
 .trivial
 refine rM c (rK hs ht h0 h1 a b (IW ns) (ns.map (Dk h f)) es qs) [(1,.nm 1),(2,.nm 2),(3,.nm 3),(4,.nm 4),(5,.nm 5)] [3,4,5] ?_ ?_ ?_
 .first|exact eN|refine eM ?_
 .first|exact eN|refine eM ?_
 rintro _ _ ⟨rfl,rfl⟩;refine⟨[(1,.nm 1),(2,.nm 2),(3,.nm 3),(4,.nm 4),(5,.nm 5)],.tup [.p T9 (Nw h f n).1,.p T9 (Nw h f n).2.1,.p .bool (Nw h f n).2.2],FU h f a b (IW ns) (ns.map (Dk h f)) es qs,rfl,rfl,?_,?_,rfl,rfl,?_⟩
 .first|exact eN|refine eM ?_
 .first|exact eN|refine eM ?_
 simp only[Ej,FU];refine rL c ?_ ?_
 .trivial
 repeat'(first|exact a6|apply eS rfl|apply AB|refine rX c ?_ ?_|refine rC ?_ ?_<;>intro d<;>try(cases d;done))
 generalize (Nw h f n).2.1=p at *;refine cP 2 c ?_ ?_
 .trivial
 refine rM c (UB hs l ht ha h0 h1 ⟨#[76,65,66,69,76]⟩ hn a b es qs) [(1,.nm 1),(2,.nm 2),(3,.nm 3),(4,.nm 4),(5,.nm 5)] [3,4,5] ?_ ?_ ?_
 .first|exact eN|refine eM ?_
 .first|exact eN|refine eM ?_
 rintro _ _ ⟨rfl,rfl⟩;refine⟨[(1,.nm 1),(2,.nm 2),(3,.nm 3),(4,.nm 4),(5,.nm 5)],.tup [.p T3 (CU h f ns n ⟨#[76,65,66,69,76]⟩).1.1,.p .bool (CU h f ns n ⟨#[76,65,66,69,76]⟩).1.2],Ej h f a b (CU h f ns n ⟨#[76,65,66,69,76]⟩).2 es qs,rfl,rfl,?_,?_,rfl,rfl,?_⟩
 .first|exact eN|refine eM ?_
 .first|exact eN|refine eM ?_
 simp only[Ej,FU];generalize CU h f ns n ⟨#[76,65,66,69,76]⟩=i at *;refine rL c ?_ ?_
 .trivial
 repeat'(first|exact a6|apply eS rfl|apply AB|refine rX c ?_ ?_|refine rC ?_ ?_<;>intro d<;>try(cases d;done))
 .have e:Ks h f ns es n=(false,i.2,es):=o.trans (At (by revert d;simp));exact fM c [.tmp 4] (.p .bool false) eT ⟨by rw[e],by rw[e]⟩
 .exact⟨h0,h1⟩
 have e:=o.trans (An (by revert d;simp));rw[e];clear e o d;have B:f.getD n.toNat (0,[])=AW f n:=rfl;simp only[B]at *;refine AI (ι:={k:Nat//k<=(AW f n).2.length}) (λk=>⟨[(0,.bp 1 [] 0),(10,.bp 10 [] 0),(46,.p NQ (AW f n).2),(47,.p (.int .i64) ((AW f n).2.length:Int)),(48,.p (.int .i64) (k.1:Int))],(10,.box 54 true [.p T9 p,.p T3 i.1.1,.sr 78 T91 0 (((AW f n).2.take k.1).foldl (FW h f) (i.2,[])).2.length]) :: (78,.arr 91 T91 (((AW f n).2.take k.1).foldl (FW h f) (i.2,[])).2) :: Ej h f a b (((AW f n).2.take k.1).foldl (FW h f) (i.2,[])).1 es qs⟩) (λk=>(AW f n).2.length-k.1) ⟨0,Do _⟩ (AC [(1,.nm 1),(2,.nm 2),(3,.nm 3),(4,.nm 4),(5,.nm 5),(10,.nm 10),(78,.nil)] rfl rfl ?_ ?_) (λk=>?_)
 .first|exact eN|refine eM ?_
  exact⟨rfl,rfl,rfl,rfl,rfl⟩
 .first|exact eN|refine eM ?_
 obtain⟨k,hk⟩:=k;have g:=λq:k<(AW f n).2.length=>eP (FW h f) (AW f n).2 (0,0) (i.2,[]) q;have u:=λq:k<(AW f n).2.length=>AF (AW f n).2 (0,0) q;have r:=rT (h:=h) ((AW f n).2.take k) (i.2,[]) hh (λx C=>t x (AAw C));generalize w:((AW f n).2.take k).foldl (FW h f) (i.2,[])=Z at *;simp only[Ej,FU];repeat'(first|exact a6|apply eS rfl|apply AB|refine rX c ?_ ?_|refine rC ?_ ?_<;>intro d<;>try(cases d;done))
 .exact d
 .exact z _ (u eV)
 .exact eV
 .have g:=g eV;rw[show FW h f Z ((AW f n).2.getD k (0,0))=Z from At d]at g;refine⟨⟨k+1,eV⟩,a2,AC [(1,.nm 1),(2,.nm 2),(3,.nm 3),(4,.nm 4),(5,.nm 5),(10,.nm 10),(78,.nm 78)] rfl rfl ?_ ?_⟩
  .simp only[g];first|exact eN|refine eM ?_
  simp only[g,Ej,FU];first|exact eN|refine eM ?_
 .rename_i J;have j:k<(AW f n).2.length:=by omega
  have m:=t _ (u j);have g:=(g j).trans (An (show ¬AK (Wl h ((AW f n).2.getD k (0,0))) ⟨#[76,65,66,69,76]⟩=true by unfold Wl;rw[d];simp));have I:=rS r.1 h m.1 m.2;refine cP 3 c ?_ ?_
  .trivial
  refine rM c (bJ hs l ht m.1 m.2 r.1 a b es qs) [(1,.nm 1),(2,.nm 2),(3,.nm 3),(4,.nm 4),(5,.nm 5)] [3,4,5] ?_ ?_ ?_
  .first|exact eN|refine eM ?_
  .first|exact eN|refine eM ?_
  rintro _ _ ⟨rfl,rfl⟩;refine⟨[(1,.nm 1),(2,.nm 2),(3,.nm 3),(4,.nm 4),(5,.nm 5)],.tup [.p T3 (O8 h f Z.1 ((AW f n).2.getD k (0,0)).2).1.1,.p .bool (O8 h f Z.1 ((AW f n).2.getD k (0,0)).2).1.2],Ej h f a b (O8 h f Z.1 ((AW f n).2.getD k (0,0)).2).2 es qs,rfl,rfl,?_,?_,rfl,rfl,?_⟩
  .first|exact eN|refine eM ?_
  .first|exact eN|refine eM ?_
  simp only[Ej,FU];generalize O8 h f Z.1 ((AW f n).2.getD k (0,0)).2=V at *;refine rL c ?_ ?_
  .trivial
  repeat'(first|exact a6|apply eS rfl|apply AB|refine rX c ?_ ?_|refine rC ?_ ?_<;>intro d<;>try(cases d;done))
  .simp only[AP];have:=r.2;simp only[ON,AAl]at this;omega
  .exact eV
  .rw[d,At rfl]at g;refine⟨⟨k+1,j⟩,a2,AC [(1,.nm 1),(2,.nm 2),(3,.nm 3),(4,.nm 4),(5,.nm 5),(10,.nm 10),(78,.nm 78)] rfl rfl ?_ ?_⟩
   .simp only[g,Ej,FU,Wl];first|exact eN|refine eM ?_
   simp only[g,Ej,FU];first|exact eN|refine eM ?_
  .exact eV
  rw[d,An sc]at g;refine⟨⟨k+1,j⟩,a2,AC [(1,.nm 1),(2,.nm 2),(3,.nm 3),(4,.nm 4),(5,.nm 5),(10,.nm 10),(78,.nm 78)] rfl rfl ?_ ?_⟩
  .simp only[g,Ej,FU];first|exact eN|refine eM ?_
  simp only[g,Ej,FU];first|exact eN|refine eM ?_
 have j:(AW f n).2.take k=(AW f n).2:=BY eV;refine Cj [78] ?_;refine L2 drawsAny c 9 [([1,2,3,4,5,6,7],8)] [0] a5 (mxA ?_ ?_)
 .trivial
 refine mxL c [4] ?_ ?_
 .simp only[AP];omega
 refine mxE c ?_ ?_ ?_
 .trivial
 .trivial
 repeat'(first|exact a6|apply eS rfl|apply AB|refine rX c ?_ ?_|refine rC ?_ ?_<;>intro d<;>try(cases d;done))
 have y:(AW f n).2.foldl (FW h f) (i.2,[])=Z:=by rw[<-w,j]
 rw[y];have v:es.length+1=(es++[(p,i.1.1,Z.2)]).length:=by simp
 rw[v];refine Ev.ent (σ':=⟨[(4,.p .bool true)],Ej h f a b Z.1 (es++[(p,i.1.1,Z.2)]) qs⟩) ?_ (AC [(1,.nm 1),(2,.nm 2),(3,.nm 3),(4,.nm 4),(5,.nm 5)] rfl rfl ?_ ?_)
 .exact fM c [.tmp 4] (.p .bool true) eT ⟨rfl,rfl⟩
 .first|exact eN|refine eM ?_
 first|exact eN|refine eM ?_
end
section
attribute [local go_sem] FU Ej LP LK Nj KW JH OX
def Kt (h:AG) (f:List AD) (ns:List Int) (qs:List NR) (n:Int):Bool×List Int×List NR :=
 if (Nw h f n).2.2=false\/(CU h f ns n ⟨#[72,73,71,72]⟩).1.2=false then (false,(CU h f ns n ⟨#[72,73,71,72]⟩).2,qs)
 else ((CU h f (CU h f ns n ⟨#[72,73,71,72]⟩).2 n ⟨#[76,79,87]⟩).1.2,(CU h f (CU h f ns n ⟨#[72,73,71,72]⟩).2 n ⟨#[76,79,87]⟩).2,qs++[((CU h f ns n ⟨#[72,73,71,72]⟩).1.1,(CU h f (CU h f ns n ⟨#[72,73,71,72]⟩).2 n ⟨#[76,79,87]⟩).1.1)])
theorem A5j (hs:UA h) (i:AX f) (ht:Ck h f) (ha:O2 h f) (h0:0<=n) (h1:n<(f.length:Int)) {ns:List Int} (hn:G6 f ns) (a b:Int) (es:List GX) (qs:List NR) (t:qs.length<=200000) :
  BE Tryz.prog 87 [.bp 1 [] 0,.p T3 n] (Ej h f a b ns es qs) [1,2]
  (λres o=>res=.p .bool (Kt h f ns qs n).1/\o=Ej h f a b (Kt h f ns qs n).2.1 es (Kt h f ns qs n).2.2):=by
 refine Jx [0,1,4,7,8,9,10,29] [45] [] Tryz.func87 Tryz.ntmps87 AH ?_;intro w0 K O0 ρ0 c r s;have l:0<f.length:=by omega
 have hh:=O4 (h:=h) hn i n ⟨#[72,73,71,72]⟩ l;have q:=O4 (h:=h) hh i n ⟨#[76,79,87]⟩ l;have j:Kt h f ns qs n=if (Nw h f n).2.2=false\/(CU h f ns n ⟨#[72,73,71,72]⟩).1.2=false then (false,(CU h f ns n ⟨#[72,73,71,72]⟩).2,qs)
  else ((CU h f (CU h f ns n ⟨#[72,73,71,72]⟩).2 n ⟨#[76,79,87]⟩).1.2,(CU h f (CU h f ns n ⟨#[72,73,71,72]⟩).2 n ⟨#[76,79,87]⟩).2,qs++[((CU h f ns n ⟨#[72,73,71,72]⟩).1.1,(CU h f (CU h f ns n ⟨#[72,73,71,72]⟩).2 n ⟨#[76,79,87]⟩).1.1)]):=rfl
 simp only[Ap,Ej,FU];repeat'(first|exact a6|apply eS rfl|apply AB|refine rP c ?_ ?_|fail)
 refine cP 2 c ?_ ?_
 .trivial
 refine rM c (rK hs ht h0 h1 a b (IW ns) (ns.map (Dk h f)) es qs) [(1,.nm 1),(2,.nm 2),(3,.nm 3),(4,.nm 4),(5,.nm 5)] [3,4,5] ?_ ?_ ?_
 .first|exact eN|refine eM ?_
 .first|exact eN|refine eM ?_
 rintro _ _ ⟨rfl,rfl⟩;refine⟨[(1,.nm 1),(2,.nm 2),(3,.nm 3),(4,.nm 4),(5,.nm 5)],.tup [.p T9 (Nw h f n).1,.p T9 (Nw h f n).2.1,.p .bool (Nw h f n).2.2],FU h f a b (IW ns) (ns.map (Dk h f)) es qs,rfl,rfl,?_,?_,rfl,rfl,?_⟩
 .first|exact eN|refine eM ?_
 .first|exact eN|refine eM ?_
 simp only[Ej,FU];refine rL c ?_ ?_
 .trivial
 repeat'(first|exact a6|apply eS rfl|apply AB|refine rX c ?_ ?_|refine rC ?_ ?_<;>intro d<;>try(cases d;done))
 generalize (Nw h f n).2.2=p at *;refine cP 2 c ?_ ?_
 .trivial
 refine rM c (UB hs i ht ha h0 h1 ⟨#[72,73,71,72]⟩ hn a b es qs) [(1,.nm 1),(2,.nm 2),(3,.nm 3),(4,.nm 4),(5,.nm 5)] [3,4,5] ?_ ?_ ?_
 .first|exact eN|refine eM ?_
 .first|exact eN|refine eM ?_
 rintro _ _ ⟨rfl,rfl⟩;refine⟨[(1,.nm 1),(2,.nm 2),(3,.nm 3),(4,.nm 4),(5,.nm 5)],.tup [.p T3 (CU h f ns n ⟨#[72,73,71,72]⟩).1.1,.p .bool (CU h f ns n ⟨#[72,73,71,72]⟩).1.2],Ej h f a b (CU h f ns n ⟨#[72,73,71,72]⟩).2 es qs,rfl,rfl,?_,?_,rfl,rfl,?_⟩
 .first|exact eN|refine eM ?_
 .first|exact eN|refine eM ?_
 simp only[Ej,FU];generalize CU h f ns n ⟨#[72,73,71,72]⟩=g at *;refine rL c ?_ ?_
 .trivial
 repeat'(first|exact a6|apply eS rfl|apply AB|refine rX c ?_ ?_|refine rC ?_ ?_<;>intro d<;>try(cases d;done))
 .have e:Kt h f ns qs n=(false,g.2,qs):=j.trans (At (by revert d;simp));exact fM c [.tmp 4] (.p .bool false) eT ⟨by rw[e],by rw[e]⟩
 have e:=j.trans (An (by revert d;simp));rw[e];clear e j d;refine cP 2 c ?_ ?_
 .trivial
 refine rM c (UB hs i ht ha h0 h1 ⟨#[76,79,87]⟩ hh a b es qs) [(1,.nm 1),(2,.nm 2),(3,.nm 3),(4,.nm 4),(5,.nm 5)] [3,4,5] ?_ ?_ ?_
 .first|exact eN|refine eM ?_
 .first|exact eN|refine eM ?_
 rintro _ _ ⟨rfl,rfl⟩;refine⟨[(1,.nm 1),(2,.nm 2),(3,.nm 3),(4,.nm 4),(5,.nm 5)],.tup [.p T3 (CU h f g.2 n ⟨#[76,79,87]⟩).1.1,.p .bool (CU h f g.2 n ⟨#[76,79,87]⟩).1.2],Ej h f a b (CU h f g.2 n ⟨#[76,79,87]⟩).2 es qs,rfl,rfl,?_,?_,rfl,rfl,?_⟩
 .first|exact eN|refine eM ?_
 .first|exact eN|refine eM ?_
 simp only[Ej,FU];generalize CU h f g.2 n ⟨#[76,79,87]⟩=k at *;refine rL c ?_ ?_
 .trivial
 repeat'(first|exact a6|apply eS rfl|apply AB|refine rX c ?_ ?_|refine rC ?_ ?_<;>intro d<;>try(cases d;done))
 .simp only[AP];omega
 have m:qs.length+1=(qs++[(g.1.1,k.1.1)]).length:=by simp
 rw[m];exact fM c [.tmp 4] (.p .bool k.1.2) eT ⟨rfl,rfl⟩
end
section
attribute [local go_sem] FU Ej Mj LP LK Nj KW JH OX
abbrev D0:=List Int×List GX×List NR
def CS (G:D0->Int->Bool×D0):List Int->D0->Bool×D0
 | [],st=>(true,st)
 | x :: l,st=>if (G st x).1=true then CS G l (G st x).2 else (false,(G st x).2)
theorem nN (G:D0->Int->Bool×D0) (l:List Int) (st:D0) {k:Nat} (h:k<l.length):CS G (l.drop k) st=if (G st (l.getD k 0)).1=true then CS G (l.drop (k+1)) (G st (l.getD k 0)).2 else (false,(G st (l.getD k 0)).2):=by
 rw[OR h,AS,As h];rfl
def Ef (h:AG) (f:List AD) (G:D0->Int->Bool×D0) (st:D0) (n:Int) (s:ByteArray):Int×D0 :=
 if AQ h f n s<0 then (13,st) else if (AO h f (AQ h f n s)).2≠0 then ((AO h f (AQ h f n s)).2,st)
 else (if (CS G (AO h f (AQ h f n s)).1 st).1=true then 0 else 13,(CS G (AO h f (AQ h f n s)).1 st).2)
theorem Wp (u:AX f) (ht:Ck h f) (ha:O2 h f) (h0:0<=n) (h1:n<(f.length:Int)) (s:ByteArray) (a b:Int) (g:Nat) (G:D0->Int->Bool×D0) (Q:Nat->D0->Prop)
  (hG:∀k st x,Q k st->k<200000->0<=x->x<(f.length:Int)->BE Tryz.prog g [.bp 1 [] 0,.p T3 x] (Ej h f a b st.1 st.2.1 st.2.2) [1,2] (λres z=>res=.p .bool (G st x).1/\z=Ej h f a b (G st x).2.1 (G st x).2.2.1 (G st x).2.2.2))
  (w:∀k st x,Q k st->0<=x->x<(f.length:Int)->Q (k+1) (G st x).2) (st:D0) (A:Q 0 st) :
  BE Tryz.prog 85 [.bp 1 [] 0,.p T3 n,.p T9 s,.clo (1000000+g) [1]] (Ej h f a b st.1 st.2.1 st.2.2) [1,2]
  (λres z=>res=.p C0 (Ef h f G st n s).1/\z=Ej h f a b (Ef h f G st n s).2.1 (Ef h f G st n s).2.2.1 (Ef h f G st n s).2.2.2):=by
 refine Jx [0,1,2,3,8,9,10,11,12,14,23,38,40,41,42,43,49] [] [] Tryz.func85 Tryz.ntmps85 (AE iI AH) ?_;intro w0 K O0 ρ0 d H I;have C:0<f.length:=by omega
 have E:=EI (h:=h) u n s C;have r:Ef h f G st n s=if AQ h f n s<0 then (13,st) else if (AO h f (AQ h f n s)).2≠0 then ((AO h f (AQ h f n s)).2,st)
  else (if (CS G (AO h f (AQ h f n s)).1 st).1=true then 0 else 13,(CS G (AO h f (AQ h f n s)).1 st).2):=rfl
 simp only[Ap,Ej,FU];repeat'(first|exact a6|apply eS rfl|apply AB|refine rP d ?_ ?_|fail)
 refine cP 3 d ?_ ?_
 .trivial
 refine rM d (bH u ha h0 h1 s a b (IW st.1) (st.1.map (Dk h f)) st.2.1 st.2.2) [(1,.nm 1),(2,.nm 2),(3,.nm 3),(4,.nm 4),(5,.nm 5)] [3,4,5] ?_ ?_ ?_
 .first|exact eN|refine eM ?_
 .first|exact eN|refine eM ?_
 rintro _ _ ⟨rfl,rfl⟩;refine⟨[(1,.nm 1),(2,.nm 2),(3,.nm 3),(4,.nm 4),(5,.nm 5)],.tup [.p T3 (Qn h f n s).1,.p .bool (Qn h f n s).2],FU h f a b (IW st.1) (st.1.map (Dk h f)) st.2.1 st.2.2,rfl,rfl,?_,?_,rfl,rfl,?_⟩
 .first|exact eN|refine eM ?_
 .first|exact eN|refine eM ?_
 simp only[Ej,FU];generalize m:Qn h f n s=V at *;refine rL d ?_ ?_
 .trivial
 repeat'(first|exact a6|apply eS rfl|apply AB|refine rX d ?_ ?_|refine rC ?_ ?_<;>intro c<;>try(cases c;done))
 .have q:AQ h f n s<0:=by
   rw[<-m]at c;unfold Qn at c;split at c
   .assumption
   cases c
  have e:Ef h f G st n s=(13,st):=r.trans (At q);exact fM d [.tmp 8] (.p C0 (13:Int)) eT ⟨by rw[e],by rw[e]⟩
 .have q:0<=AQ h f n s/\V.1=AQ h f n s:=by
   rw[<-m]at c ⊢;unfold Qn at c ⊢;split
   .rename_i q;rw[At q]at c;cases c
   exact⟨O1,rfl⟩
  rw[q.2];exact⟨u,ht,q.1,E⟩
 .rename_i i;have q:0<=AQ h f n s/\V.1=AQ h f n s:=by
   rw[<-m]at i ⊢;unfold Qn at i ⊢;split
   .rename_i q;rw[At q]at i;cases i
   exact⟨O1,rfl⟩
  rw[q.2]at c ⊢;have e:Ef h f G st n s=((AO h f (AQ h f n s)).2,st):=r.trans ((An O1).trans (At (by simpa using c)));exact fM d [.tmp 8] (.p C0 (AO h f (AQ h f n s)).2) eT ⟨by rw[e],by rw[e]⟩
 rename_i i;have q:0<=AQ h f n s/\V.1=AQ h f n s:=by
  rw[<-m]at i ⊢;unfold Qn at i ⊢;split
  .rename_i q;rw[At q]at i;cases i
  exact⟨O1,rfl⟩
 rw[q.2]at c ⊢;have e:=r.trans ((An O1).trans (An (by simpa using c)));rw[e];clear e r i m;obtain⟨⟨B,F⟩,-⟩:=Fg (h:=h) u (AQ h f n s);clear c;generalize (AO h f (AQ h f n s)).1=l at *;refine AI (ι:={x:Nat×D0//x.1<=l.length/\CS G (l.drop x.1) x.2=CS G l st/\Q x.1 x.2}) (λx=>⟨[(0,.bp 1 [] 0),(3,.clo (1000000+g) [1]),(40,.p Bx l),(41,.p (.int .i64) (l.length:Int)),(42,.p (.int .i64) (x.1.1:Int))],Ej h f a b x.1.2.1 x.1.2.2.1 x.1.2.2.2⟩) (λx=>l.length-x.1.1) ⟨(0,st),Do _,rfl,A⟩ (AC [(1,.nm 1),(2,.nm 2),(3,.nm 3),(4,.nm 4),(5,.nm 5)] rfl rfl ?_ ?_) (λx=>?_)
 .first|exact eN|refine eM ?_
 .first|exact eN|refine eM ?_
 obtain⟨⟨k,Z⟩,hk,t,y⟩:=x;simp only at hk t y;have o:=λj:k<l.length=>nN G l Z j;simp only[Ej,FU];repeat'(first|exact a6|apply eS rfl|apply AB|refine rX d ?_ ?_|refine rC ?_ ?_<;>intro c<;>try(cases c;done))
 .exact c
 .have j:k<l.length:=by omega
  have v:=B _ (AF l 0 j);have o:=o j;have hG:=hG k Z (l.getD k 0) y O1 v.1 v.2;have w:=w k Z (l.getD k 0) y v.1 v.2;refine cP 2 d ?_ ?_
  .trivial
  refine A3Q d (f:=g) (n:=1) (aw:=[.p T3 (l.getD k 0)]) ?_ ?_ hG [(1,.nm 1),(2,.nm 2),(3,.nm 3),(4,.nm 4),(5,.nm 5)] [3,4,5] rfl rfl rfl ?_ ?_ ?_
  .rfl
  .rfl
  .first|exact eN|refine eM ?_
  .first|exact eN|refine eM ?_
  rintro _ _ ⟨rfl,rfl⟩;refine⟨[(1,.nm 1),(2,.nm 2),(3,.nm 3),(4,.nm 4),(5,.nm 5)],.p .bool (G Z (l.getD k 0)).1,Ej h f a b (G Z (l.getD k 0)).2.1 (G Z (l.getD k 0)).2.2.1 (G Z (l.getD k 0)).2.2.2,rfl,rfl,?_,?_,rfl,rfl,?_⟩
  .first|exact eN|refine eM ?_
  .first|exact eN|refine eM ?_
  simp only[Ej,FU];refine rL d ?_ ?_
  .trivial
  repeat'(first|exact a6|apply eS rfl|apply AB|refine rX d ?_ ?_|refine rC ?_ ?_<;>intro c<;>try(cases c;done))
  .have e:CS G l st=(false,(G Z (l.getD k 0)).2):=by rw[<-t,o,An (by rw[c];simp)]
   rw[e];exact fM d [.tmp 8] (.p C0 (13:Int)) eT ⟨rfl,rfl⟩
  .exact eV
  rw[At c]at o;refine⟨⟨(k+1,(G Z (l.getD k 0)).2),j,by rw[<-t,o],w⟩,a2,AC [(1,.nm 1),(2,.nm 2),(3,.nm 3),(4,.nm 4),(5,.nm 5)] rfl rfl ?_ ?_⟩
  .first|exact eN|refine eM ?_
  first|exact eN|refine eM ?_
 have D:l.drop k=[]:=Is O1;rw[<-t,D];exact fM d [.tmp 8] (.p C0 (0:Int)) eT ⟨rfl,rfl⟩
end
section
attribute [local go_sem] FU Ej Jr atS LP LK Nj KW JH OX
theorem iL (e:Int):∀ {l:List (Int×Int)},(∀a∈l,0<=a.2)->F8 l e=if BU l e<0 then (0,false) else (BU l e,true)
 | [],_=>rfl
 | a :: l,h=>by
  unfold F8 BU;split
  .have:=h a jB;rw[An O1]
  exact iL e λb c=>h b (IF _ c)
theorem A5k (c:AX f) (ha:O2 h f) (s:ByteArray) (hf:0<f.length):TF f 0 [BO h s]=Qn h f 0 s:=by
 have h1:=iL (BO h s) (l:=(AW f 0).2) (λa q=>((c.2 _ (AF f (0,[]) (DF ⟨ABN 0,f4.2 hf⟩))).2 a q).1);have b:TF f 0 [BO h s]=if (F8 (AW f 0).2 (BO h s)).2=true then ((F8 (AW f 0).2 (BO h s)).1,true) else (0,false):=rfl
 rw[b,h1];unfold Qn;rw[rO ha];split<;>rfl
def GU (h:AG) (f:List AD) (st:D0) (x:Int):Bool×D0:=((Ks h f st.1 st.2.1 x).1,(Ks h f st.1 st.2.1 x).2.1,(Ks h f st.1 st.2.1 x).2.2,st.2.2)
def G7 (h:AG) (f:List AD) (st:D0) (x:Int):Bool×D0:=((Kt h f st.1 st.2.2 x).1,(Kt h f st.1 st.2.2 x).2.1,st.2.1,(Kt h f st.1 st.2.2 x).2.2)
def Fh (h:AG) (f:List AD):Int:=AQ h f 0 ⟨#[83,69,77]⟩
def IX (h:AG) (f:List AD):(Int×Bool)×List Int:=CU h f [] (Fh h f) ⟨#[84,79,80]⟩
def jG (h:AG) (f:List AD):Int:=AQ h f (Fh h f) ⟨#[73,78,68,69,88]⟩
def O5 (h:AG) (f:List AD):(Int×Bool)×List Int:=O8 h f (IX h f).2 (jG h f)
def NV (h:AG) (f:List AD):Int×D0:=Ef h f (GU h f) ((O5 h f).2,[],[]) (Fh h f) ⟨#[82,69,76,83]⟩
def HE (h:AG) (f:List AD):Int×D0:=Ef h f (G7 h f) (NV h f).2 (Fh h f) ⟨#[67,79,78,83]⟩
def Ku (h:AG) (f:List AD):Int :=
 if Fh h f<0 then 13 else if (IX h f).1.2=false then 13 else if jG h f<0 then 13 else if (O5 h f).1.2=false then 13
 else if (NV h f).1≠0 then (NV h f).1 else if (HE h f).1≠0 then (HE h f).1
 else if 16<(HE h f).2.2.1.length\/16<(HE h f).2.2.2.length\/256<(HE h f).2.1.length then 7 else 0
def iM (h:AG) (f:List AD):Int×Int×D0:=((IX h f).1.1,(O5 h f).1.1,(HE h f).2)
def AAD (h:AG) (f:List AD) (res:AV) (a:List (Nat×Obj)):Prop:=res=.p C0 (Ku h f)/\∃x:Int×Int×D0,a=Ej h f x.1 x.2.1 x.2.2.1 x.2.2.2.1 x.2.2.2.2/\(Ku h f=0->x=iM h f)
theorem A6l (q:(Qn h f n s).2=true):0<=AQ h f n s/\(Qn h f n s).1=AQ h f n s:=by
 unfold Qn at q ⊢;split
 .rename_i p;rw[At p]at q;cases q
 exact⟨O1,rfl⟩
theorem A6m (q:(Qn h f n s).2=false):AQ h f n s<0:=by
 unfold Qn at q;split at q
 .assumption
 cases q
theorem A6n (a:AX f) {ns:List Int} (hn:G6 f ns) (es:List GX) {x:Int} (c:0<=x) (d:x<(f.length:Int)):G6 f (Ks h f ns es x).2.1/\(Ks h f ns es x).2.2.length<=es.length+1:=by
 have hh:=O4 (h:=h) hn a x ⟨#[76,65,66,69,76]⟩ O1;have b:=(a.2 _ (AF f (0,[]) (DF ⟨c,d⟩))).2;unfold Ks;split
 .exact⟨hh,sc⟩
 exact⟨(rT (h:=h) (AW f x).2 (_,[]) hh b).1,sc⟩
theorem A9U (a:AX f) {ns:List Int} (hn:G6 f ns) (qs:List NR) {x:Int} (c:0<=x) (d:x<(f.length:Int)):G6 f (Kt h f ns qs x).2.1/\(Kt h f ns qs x).2.2.length<=qs.length+1:=by
 have hh:=O4 (h:=h) hn a x ⟨#[72,73,71,72]⟩ O1;have b:=O4 (h:=h) hh a x ⟨#[76,79,87]⟩ O1;unfold Kt;split
 .exact⟨hh,sc⟩
 exact⟨b,sc⟩
theorem rU {f:List AD} (G:D0->Int->Bool×D0) (P:D0->Prop) (hG:∀st x,P st->0<=x->x<(f.length:Int)->P (G st x).2):∀(l:List Int) (st:D0),(∀x∈l,0<=x/\x<(f.length:Int))->P st->P (CS G l st).2
 | [],st,_,h=>h
 | x :: l,st,b,h=>by
  have c:=b x jB;have a:=hG st x h c.1 c.2;unfold CS;split
  .exact rU G P hG l _ (λy d=>b y (IF _ d)) a
  exact a
theorem rV (a:AX f) (G:D0->Int->Bool×D0) (P:D0->Prop) (hG:∀st x,P st->0<=x->x<(f.length:Int)->P (G st x).2) (st:D0) (n:Int) (s:ByteArray) (h0:P st):P (Ef h f G st n s).2:=by
 unfold Ef;split
 .exact h0
 split
 .exact h0
 exact rU G P hG _ st (Fg (h:=h) a _).1.1 h0
theorem A5l (hs:UA h) (d:AX f) (ht:Ck h f) (ha:O2 h f) (h0:0<f.length) :
  BE Tryz.prog 38 [.bp 1 [] 0] (Ej h f 0 0 [] [] []) [1,2]
  (AAD h f):=by
 refine Jx [0,2,3,4,5,6,7,23,35,43,55,62,70,96] [18] [] Tryz.func38 Tryz.ntmps38 (AE WE (AE A9T AH)) ?_;intro w0 K O0 ρ0 a M N;simp only[Ap,Ej,FU];have t:TF f 0 [BO h ⟨#[83,69,77]⟩]=Qn h f 0 ⟨#[83,69,77]⟩:=A5k d ha ⟨#[83,69,77]⟩ h0;have r:Fh h f<(f.length:Int):=EI d 0 ⟨#[83,69,77]⟩ h0;have v:jG h f<(f.length:Int):=EI d (Fh h f) ⟨#[73,78,68,69,88]⟩ h0;have w:G6 f []:=⟨List.Pairwise.nil,λx F=>by cases F⟩;have A:G6 f (IX h f).2:=O4 w d (Fh h f) ⟨#[84,79,80]⟩ h0;have c:Ku h f=if Fh h f<0 then 13 else if (IX h f).1.2=false then 13 else if jG h f<0 then 13 else if (O5 h f).1.2=false then 13
  else if (NV h f).1≠0 then (NV h f).1 else if (HE h f).1≠0 then (HE h f).1
  else if 16<(HE h f).2.2.1.length\/16<(HE h f).2.2.2.length\/256<(HE h f).2.1.length then 7 else 0:=rfl
 repeat'(first|exact a6|apply eS rfl|apply AB|refine rX a ?_ ?_|refine rC ?_ ?_<;>intro b<;>try(cases b;done))
 .exact⟨d,h0⟩
 .have q:Fh h f<0:=A6m (by rw[<-t];exact b);have e:Ku h f=13:=c.trans (At q);exact fM a [.tmp 2] (.p C0 (13:Int)) eT ⟨by rw[e],(0,0,[],[],[]),rfl,λz=>by rw[e]at z;cases z⟩
 have q:=A6l (h:=h) (f:=f) (n:=0) (s:=⟨#[83,69,77]⟩) (by rw[<-t];exact b);have u:0<=Fh h f:=q.1;have o:(TF f 0 [BO h ⟨#[83,69,77]⟩]).1=Fh h f:=by rw[t];exact q.2
 rw[o];replace c:=c.trans (An O1);clear q o b t;have G:BE Tryz.prog 82 [.bp 1 [] 0,.p T3 (Fh h f),.p T9 ⟨#[84,79,80]⟩] (Ej h f 0 0 [] [] []) [1,2]
  (λres l=>res=.tup [.p T3 (IX h f).1.1,.p .bool (IX h f).1.2]/\l=Ej h f 0 0 (IX h f).2 [] []):=UB hs d ht ha u r ⟨#[84,79,80]⟩ w 0 0 [] []
 refine cP 3 a ?_ ?_
 .trivial
 refine rM a (G) [(1,.nm 1),(2,.nm 2),(3,.nm 3),(4,.nm 4),(5,.nm 5)] [3,4,5] ?_ ?_ ?_
 .first|exact eN|refine eM ?_
 .first|exact eN|refine eM ?_
 rintro _ _ ⟨rfl,rfl⟩;refine⟨[(1,.nm 1),(2,.nm 2),(3,.nm 3),(4,.nm 4),(5,.nm 5)],.tup [.p T3 (IX h f).1.1,.p .bool (IX h f).1.2],Ej h f 0 0 (IX h f).2 [] [],rfl,rfl,?_,?_,rfl,rfl,?_⟩
 .first|exact eN|refine eM ?_
 .first|exact eN|refine eM ?_
 simp only[Ej,FU];refine rL a ?_ ?_
 .trivial
 repeat'(first|exact a6|apply eS rfl|apply AB|refine rX a ?_ ?_|refine rC ?_ ?_<;>intro b<;>try(cases b;done))
 .have e:Ku h f=13:=c.trans (At b);exact fM a [.tmp 2] (.p C0 (13:Int)) eT ⟨by rw[e],((IX h f).1.1,0,(IX h f).2,[],[]),rfl,λz=>by rw[e]at z;cases z⟩
 replace c:=c.trans (An (by rw[b];simp));clear b;refine cP 2 a ?_ ?_
 .trivial
 refine rM a (bH d ha u r ⟨#[73,78,68,69,88]⟩ (IX h f).1.1 0 (IW (IX h f).2) ((IX h f).2.map (Dk h f)) [] []) [(1,.nm 1),(2,.nm 2),(3,.nm 3),(4,.nm 4),(5,.nm 5)] [3,4,5] ?_ ?_ ?_
 .first|exact eN|refine eM ?_
 .first|exact eN|refine eM ?_
 rintro _ _ ⟨rfl,rfl⟩;refine⟨[(1,.nm 1),(2,.nm 2),(3,.nm 3),(4,.nm 4),(5,.nm 5)],.tup [.p T3 (Qn h f (Fh h f) ⟨#[73,78,68,69,88]⟩).1,.p .bool (Qn h f (Fh h f) ⟨#[73,78,68,69,88]⟩).2],FU h f (IX h f).1.1 0 (IW (IX h f).2) ((IX h f).2.map (Dk h f)) [] [],rfl,rfl,?_,?_,rfl,rfl,?_⟩
 .first|exact eN|refine eM ?_
 .first|exact eN|refine eM ?_
 simp only[Ej,FU];refine rL a ?_ ?_
 .trivial
 repeat'(first|exact a6|apply eS rfl|apply AB|refine rX a ?_ ?_|refine rC ?_ ?_<;>intro b<;>try(cases b;done))
 .have e:Ku h f=13:=c.trans (At (A6m b));exact fM a [.tmp 2] (.p C0 (13:Int)) eT ⟨by rw[e],((IX h f).1.1,0,(IX h f).2,[],[]),rfl,λz=>by rw[e]at z;cases z⟩
 have q:=A6l b;have o:0<=jG h f:=q.1;have B:(Qn h f (Fh h f) ⟨#[73,78,68,69,88]⟩).1=jG h f:=q.2;rw[B];replace c:=c.trans (An O1);clear q B b;have y:G6 f (O5 h f).2:=rS A h o v;have H:BE Tryz.prog 84 [.bp 1 [] 0,.p T3 (jG h f)] (Ej h f (IX h f).1.1 0 (IX h f).2 [] []) [1,2] (λres l=>res=.tup [.p T3 (O5 h f).1.1,.p .bool (O5 h f).1.2]/\l=Ej h f (IX h f).1.1 0 (O5 h f).2 [] []):=bJ hs d ht o v A _ 0 [] [];refine cP 3 a ?_ ?_
 .trivial
 refine rM a (H) [(1,.nm 1),(2,.nm 2),(3,.nm 3),(4,.nm 4),(5,.nm 5)] [3,4,5] ?_ ?_ ?_
 .first|exact eN|refine eM ?_
 .first|exact eN|refine eM ?_
 rintro _ _ ⟨rfl,rfl⟩;refine⟨[(1,.nm 1),(2,.nm 2),(3,.nm 3),(4,.nm 4),(5,.nm 5)],.tup [.p T3 (O5 h f).1.1,.p .bool (O5 h f).1.2],Ej h f (IX h f).1.1 0 (O5 h f).2 [] [],rfl,rfl,?_,?_,rfl,rfl,?_⟩
 .first|exact eN|refine eM ?_
 .first|exact eN|refine eM ?_
 simp only[Ej,FU];refine rL a ?_ ?_
 .trivial
 repeat'(first|exact a6|apply eS rfl|apply AB|refine rX a ?_ ?_|refine rC ?_ ?_<;>intro b<;>try(cases b;done))
 .have e:Ku h f=13:=c.trans (At b);exact fM a [.tmp 2] (.p C0 (13:Int)) eT ⟨by rw[e],((IX h f).1.1,(O5 h f).1.1,(O5 h f).2,[],[]),rfl,λz=>by rw[e]at z;cases z⟩
 replace c:=c.trans (An (by rw[b];simp));clear b;have I:BE Tryz.prog 85 [.bp 1 [] 0,.p T3 (Fh h f),.p T9 ⟨#[82,69,76,83]⟩,.clo (1000000+86) [1]] (Ej h f (IX h f).1.1 (O5 h f).1.1 (O5 h f).2 [] []) [1,2] (λres l=>res=.p C0 (NV h f).1/\l=Ej h f (IX h f).1.1 (O5 h f).1.1 (NV h f).2.1 (NV h f).2.2.1 (NV h f).2.2.2) :=
  Wp d ht ha u r ⟨#[82,69,76,83]⟩ (IX h f).1.1 (O5 h f).1.1 _ (GU h f) (λk st=>G6 f st.1/\st.2.1.length<=k) (λk st x g hk i j=>A5i hs d ht ha i j g.1 _ _ st.2.1 O1 st.2.2) (λk st x g i j=>by have:=A6n (h:=h) d g.1 st.2.1 i j;exact⟨this.1,gO this.2 O1⟩) ((O5 h f).2,[],[]) ⟨y,Do _⟩
 have D:G6 f (NV h f).2.1:=rV d (GU h f) (λst=>G6 f st.1) (λst x g i j=>(A6n d g st.2.1 i j).1) _ _ _ y;refine cP 4 a ?_ ?_
 .trivial
 refine rM a (I) [(1,.nm 1),(2,.nm 2),(3,.nm 3),(4,.nm 4),(5,.nm 5)] [3,4,5] ?_ ?_ ?_
 .first|exact eN|refine eM ?_
 .first|exact eN|refine eM ?_
 rintro _ _ ⟨rfl,rfl⟩;refine⟨[(1,.nm 1),(2,.nm 2),(3,.nm 3),(4,.nm 4),(5,.nm 5)],.p C0 (NV h f).1,Ej h f (IX h f).1.1 (O5 h f).1.1 (NV h f).2.1 (NV h f).2.2.1 (NV h f).2.2.2,rfl,rfl,?_,?_,rfl,rfl,?_⟩
 .first|exact eN|refine eM ?_
 .first|exact eN|refine eM ?_
 simp only[Ej,FU];refine rL a ?_ ?_
 .trivial
 repeat'(first|exact a6|apply eS rfl|apply AB|refine rX a ?_ ?_|refine rC ?_ ?_<;>intro b<;>try(cases b;done))
 .have e:Ku h f=(NV h f).1:=c.trans (At b);exact fM a [.tmp 2] (.p C0 (NV h f).1) eT ⟨by rw[e],((IX h f).1.1,(O5 h f).1.1,(NV h f).2),rfl,λz=>by rw[e]at z;exact absurd z b⟩
 have L:(NV h f).1=0:=by simpa using b
 replace c:=c.trans (An (by rw[L];simp));clear b;have E:(NV h f).2.2.2=[]:=rV d (GU h f) (λst=>st.2.2=[]) (λst x g _ _=>g) _ _ _ rfl;have J:BE Tryz.prog 85 [.bp 1 [] 0,.p T3 (Fh h f),.p T9 ⟨#[67,79,78,83]⟩,.clo (1000000+87) [1]] (Ej h f (IX h f).1.1 (O5 h f).1.1 (NV h f).2.1 (NV h f).2.2.1 (NV h f).2.2.2) [1,2] (λres l=>res=.p C0 (HE h f).1/\l=Ej h f (IX h f).1.1 (O5 h f).1.1 (HE h f).2.1 (HE h f).2.2.1 (HE h f).2.2.2) :=
  Wp d ht ha u r ⟨#[67,79,78,83]⟩ (IX h f).1.1 (O5 h f).1.1 _ (G7 h f) (λk st=>G6 f st.1/\st.2.2.length<=k) (λk st x g hk i j=>A5j hs d ht ha i j g.1 _ _ st.2.1 st.2.2 O1) (λk st x g i j=>by have:=A9U (h:=h) d g.1 st.2.2 i j;exact⟨this.1,gO this.2 O1⟩) (NV h f).2 ⟨D,by rw[E];exact On 0⟩
 refine cP 4 a ?_ ?_
 .trivial
 refine rM a (J) [(1,.nm 1),(2,.nm 2),(3,.nm 3),(4,.nm 4),(5,.nm 5)] [3,4,5] ?_ ?_ ?_
 .first|exact eN|refine eM ?_
 .first|exact eN|refine eM ?_
 rintro _ _ ⟨rfl,rfl⟩;refine⟨[(1,.nm 1),(2,.nm 2),(3,.nm 3),(4,.nm 4),(5,.nm 5)],.p C0 (HE h f).1,Ej h f (IX h f).1.1 (O5 h f).1.1 (HE h f).2.1 (HE h f).2.2.1 (HE h f).2.2.2,rfl,rfl,?_,?_,rfl,rfl,?_⟩
 .first|exact eN|refine eM ?_
 .first|exact eN|refine eM ?_
 simp only[Ej,FU];refine rL a ?_ ?_
 .trivial
 repeat'(first|exact a6|apply eS rfl|apply AB|refine rX a ?_ ?_|refine rC ?_ ?_<;>intro b<;>try(cases b;done))
 .have e:Ku h f=(HE h f).1:=c.trans (At b);exact fM a [.tmp 2] (.p C0 (HE h f).1) eT ⟨by rw[e],iM h f,rfl,λ_=>rfl⟩
 .rename_i m;have m:(HE h f).1=0:=by simpa using m
  have C:((HE h f).2.1.map (Dk h f)).length=(HE h f).2.1.length:=Of _;have e:Ku h f=7:=c.trans ((An (by rw[m];simp)).trans (At O1));exact fM a [.tmp 2] (.p C0 (7:Int)) eT ⟨by rw[e],iM h f,rfl,λ_=>rfl⟩
 rename_i m;have m:(HE h f).1=0:=by simpa using m
 have C:((HE h f).2.1.map (Dk h f)).length=(HE h f).2.1.length:=Of _;have e:Ku h f=0:=c.trans ((An (by rw[m];simp)).trans (An O1));exact fM a [.tmp 2] (.p C0 (0:Int)) eT ⟨by rw[e],iM h f,rfl,λ_=>rfl⟩
end
section
attribute [local go_sem] FU Ej LP LK Nj KW JH OX
theorem Wq {c:Cx} {k:List Cp} {ops:Array Oper} {rest:List Oper} {d:Nat} {av:AV} {env:List (Nat×AV)} {objs:List (Nat×Obj)} (t:Ty) (x:t.den)
  (hk:ED c R k ops rest ⟨(d,.p t x) :: env,objs⟩) (h:Ix false ⟨(d,av) :: env,objs⟩ t av=some x:=by simp only[go_sem,Nat.reduceEqDiff,reduceCtorEq,Nat.reduceAdd,Nat.reduceSub,Nat.reduceMul,Nat.reduceLeDiff,Nat.reduceLT,Int.reduceLE,Int.reduceToNat,Int.reduceNeg,↓reduceIte]):ED c R k ops rest ⟨(d,av) :: env,objs⟩:=by
 intro f g a w i;obtain⟨ρ,b⟩:=i;refine hk f g a w ⟨ρ,b.frm,b.nt,b.defers,b.pin,b.objs,b.free,b.dist,λs v hs=>?_⟩;by_cases e:s=d
 .subst e;simp only[lk,AB1,ABa]at hs;subst hs;exact FX (V:=vw w c.O0 ⟨(s,av) :: env,objs⟩ ρ) (O':=own c.O0 ⟨(s,av) :: env,objs⟩ ρ) (λ_ h=>h) (λh=>by cases h) b.objs h (b.env s av (by simp only[lk,AB1]))
 exact b.env s v (by simp only[lk,An e]at hs ⊢;exact hs)
def A2b (h:AG) (f:List AD) (x:Int×Int×D0):CQ:=(x.1,x.2.1,x.2.2.1.map (Dk h f),x.2.2.2.1,x.2.2.2.2)
def LN (h:AG) (f:List AD):CQ×Int:=if Ku h f≠0 then (zM,Ku h f) else (A2b h f (iM h f),0)
def A5m:AZ:={ ins:=[FL,E7],pre:=λ(h,f,_)=>UA h/\AX f/\Ck h f/\O2 h f/\0<List.length f,out:=λ(h,f,_)=>[.p dZ (LN h f).1,.p C0 (LN h f).2] }
theorem A2c:Ac Tryz.prog 15 A5m:=by
 refine fKP [0,1,2,3,4,5,6,7,16] [11] [] Tryz.func15 Tryz.ntmps15 AH ?_;rintro w0 O0 ⟨h,f,u⟩ a-⟨hs,c,ht,ha,h0⟩;have hs:UA h:=hs;have c:AX f:=c;have ht:Ck h f:=ht;have ha:O2 h f:=ha;have h0:0<f.length:=h0;have g:(h.1,h.2)=h:=rfl;simp only[A5m,AL];repeat'(first|exact a6|apply eS rfl|apply AB|refine rP a ?_ ?_|fail)
 refine cP 1 a ?_ ?_
 .trivial
 refine Wq FL h ?_;refine rN 1 a ?_ ?_
 .trivial
 refine Wq E7 f ?_;refine rL a ?_ ?_
 .trivial
 repeat'(first|exact a6|apply eS rfl|apply AB|refine rP a ?_ ?_|fail)
 refine cP 1 a ?_ ?_
 .trivial
 refine rM a (A5l hs c ht ha h0) [(1,.nm 12),(2,.nm 10),(3,.nil),(4,.nil),(5,.nil)] [] ?_ ?_ ?_
 .first|exact eN|refine eM ?_
 .first|exact eN|refine eM ?_
  rfl
 rintro _ _ ⟨rfl,x,rfl,d⟩;refine⟨[(12,.nm 1),(10,.nm 2),(103,.nm 3),(104,.nm 4),(105,.nm 5)],.p C0 (Ku h f),[(12,.box 81 true [.p FL h,.p E7 f,.mp 10,.ag [.p T3 x.1,.p T3 x.2.1,.sr 103 T9 0 (x.2.2.1.map (Dk h f)).length,.sr 104 kU 0 x.2.2.2.1.length,.sr 105 y7 0 x.2.2.2.2.length]]),(10,.mapo T3 T3 (IW x.2.2.1)),(103,.arr 9 T9 (x.2.2.1.map (Dk h f))),(104,.arr 54 kU x.2.2.2.1),(105,.arr 93 y7 x.2.2.2.2)],rfl,rfl,?_,?_,rfl,rfl,?_⟩
 .first|exact eN|refine eM ?_
 .first|exact eN|refine eM ?_
 refine rL a ?_ ?_
 .trivial
 repeat'(first|exact a6|apply eS rfl|apply AB|refine rX a ?_ ?_|refine rC ?_ ?_<;>intro b<;>try(cases b;done))
 .have e:LN h f=(zM,Ku h f):=At b;exact fI a [.cell 4 41,.tmp 5] (by rw[e];first|exact eR|refine KP ?_;rfl)
 have z:Ku h f=0:=by simpa using b
 have e:LN h f=(A2b h f (iM h f),0):=An (by rw[z];simp);rw[e,<-d z];refine Cj [103,104,105] ?_;exact fI a [.cell 4 41,.tmp 5] (by unfold A2b;exact eR)
end
def DY (a b:List Int):Prop:=∀y,0<=Ec a y->Ec b y=Ec a y
theorem DY.rfl' (a:List Int):DY a a:=λ_ _=>rfl
theorem DY.trans {a b c:List Int} (h:DY a b) (k:DY b c):DY a c:=λy d=>by
 have:=h y d;rw[k y O1,this]
theorem rW (y:Int) (r:List Int):∀(l:List Int) (k:Nat),0<=D5 y k l->D5 y k (l++r)=D5 y k l
 | [],k,h=>by simp[D5]at h
 | x :: l,k,h=>by
  unfold D5 at h;simp only[To,D5];split
  .rfl
  rename_i e;rw[An e]at h;exact rW y r l (k+1) h
theorem nP (ns:List Int) (x:Int):DY ns (Ab ns x):=by
 unfold Ab;split
 .exact λy a=>rW y [x] ns 0 a
 exact DY.rfl' ns
theorem iO (ns:List Int) (x:Int):0<=Ec (Ab ns x) x:=by
 unfold Ab;split
 .rename_i h;have:=Qo x ns 0 h;rw[show Ec (ns++[x]) x=((0+ns.length:Nat):Int) from this];omega
 omega
theorem Kv (l:List Int):∀ns:List Int,DY ns (l.foldl Ab ns):=by
 induction l with
 | nil=>exact DY.rfl'
 | cons x l a=>exact λns=>(nP ns x).trans (a _)
theorem rZ {ns:List Int} (q:AK (Dk h f n) ⟨#[]⟩=false) {N:List Int} (a:DY (Ab ns n) N):O8 h f ns n=((Ec N n,true),Ab ns n):=by
 unfold O8;rw[An (by rw[q];simp),a n (iO ns n)]
theorem A6o {ns:List Int} (q:AK (Dk h f n) ⟨#[]⟩=true):O8 h f ns n=((0,false),ns):=At q
theorem A5n (l:List (Int×Int)):∀(st:List Int×List Px),
  (l.foldl (FW h f) st).1=((l.filterMap (G4 h f)).map (λa=>a.2)).foldl Ab st.1 /\
  ∀N,DY (l.foldl (FW h f) st).1 N->(l.foldl (FW h f) st).2=st.2++(l.filterMap (G4 h f)).map (λa=>(a.1,Ec N a.2)):=by
 induction l with
 | nil=>exact λst=>⟨rfl,λ_ _=>by simp⟩
 | cons a l o =>
  intro st;rw[OS];obtain⟨b,e⟩:=o (FW h f st a);by_cases c:AK (Wl h a) ⟨#[76,65,66,69,76]⟩=true
  .have j:FW h f st a=st:=At c;have d:G4 h f a=none:=An (by rw[c];simp);rw[j]at b e ⊢;rw[ACe d];exact⟨b,e⟩
  cases g:AK (Dk h f a.2) ⟨#[]⟩ with
  | true =>
   have j:FW h f st a=st:=by unfold FW;rw[An c,A6o g];rfl
   have d:G4 h f a=none:=An (by rw[g];simp);rw[j]at b e ⊢;rw[ACe d];exact⟨b,e⟩
  | false =>
   have d:G4 h f a=some (Wl h a,a.2):=At ⟨by simpa using c,g⟩;have k:(FW h f st a).1=Ab st.1 a.2:=by unfold FW;rw[An c,rZ g (DY.rfl' _)]
   have m:∀N,DY (Ab st.1 a.2) N->(FW h f st a).2=st.2++[(Wl h a,Ec N a.2)]:=λN i=>by unfold FW;rw[An c,rZ g i];rfl
   rw[List.filterMap_cons_some d];refine⟨by rw[b,k];rfl,λN i=>?_⟩;have n:DY (Ab st.1 a.2) N:=by
    have:=Kv ((l.filterMap (G4 h f)).map (λa=>a.2)) (FW h f st a).1;rw[<-b,k]at this;exact this.trans i
   rw[e N i,m N n,AA8];rfl
theorem A8b {v:Int} (q:AK (Dk h f v) ⟨#[104]⟩=true):0<=v/\AK (Dk h f v) ⟨#[]⟩=false:=by grind [IM,Dk]
theorem bK {ns:List Int} (q:AK (Dk h f (AQ h f n s)) ⟨#[104]⟩=true) {N:List Int} (a:DY (Ab ns (AQ h f n s)) N):CU h f ns n s=((Ec N (AQ h f n s),true),Ab ns (AQ h f n s)):=by
 have b:=A8b q;grind [CU,rZ]
theorem bL {ns:List Int} (q:AK (Dk h f (AQ h f n s)) ⟨#[104]⟩=false):CU h f ns n s=((0,false),ns):=by grind [CU,AQ]
theorem A2d (q:BF s false=true):AK s ⟨#[]⟩=false:=by
 rw[ABh];intro e;have e:=IM e;rw[e]at q;exact absurd q df
theorem bM (q:0<=Ar h s) (t:Int):Mg h s t=Ah h (Ar h s) t:=by grind [Mg]
theorem A8c (hs:UA h) {ns:List Int} {es:List GX} (q:Gv h f n=false):(Ks h f ns es n).1=false:=by
 unfold Gv at q;rw[bM hs.2.1]at q;unfold Ks;rw[At];cases a:Nv h f n
 .left;show AK (if Nv h f n=true then Y3 h f n else ⟨#[]⟩) ⟨#[]⟩=true;rw[a];exact Ep.2 rfl
 right;have b:AK (Dk h f (AQ h f n ⟨#[76,65,66,69,76]⟩)) ⟨#[104]⟩=false:=by
  have a:(Ah h (Ar h ⟨#[114,101,108]⟩) (AW f n).1&&BF (Y3 h f n) false)=true:=a;grind
 rw[bL b]
theorem A2e (hs:UA h) {ns:List Int} {es:List GX} (q:Gv h f n=true) :
  (Ks h f ns es n).1=true/\(Ks h f ns es n).2.1=(LL (Bk h f n).1).foldl Ab ns/\∀N,DY (Ks h f ns es n).2.1 N->(Ks h f ns es n).2.2=es++[Tm N (Bk h f n).1]:=by
 have g:Bk h f n=((Y3 h f n,AQ h f n ⟨#[76,65,66,69,76]⟩,(AW f n).2.filterMap (G4 h f)),true):=At q;unfold Gv at q;rw[bM hs.2.1]at q;obtain⟨e,k⟩:=ABQ.1 q;have l:Nv h f n=true:=e;have p:BF (Y3 h f n) false=true:=(ABQ.1 e).2;have o:(Nw h f n).2.1=Y3 h f n:=At l;have m:=bK (ns:=ns) k (DY.rfl' _);have i:Ks h f ns es n=(true,((AW f n).2.foldl (FW h f) (Ab ns (AQ h f n ⟨#[76,65,66,69,76]⟩),[])).1,es++[(Y3 h f n,Ec (Ab ns (AQ h f n ⟨#[76,65,66,69,76]⟩)) (AQ h f n ⟨#[76,65,66,69,76]⟩),((AW f n).2.foldl (FW h f) (Ab ns (AQ h f n ⟨#[76,65,66,69,76]⟩),[])).2)]):=by grind [Ks,A2d]
 obtain⟨c,b⟩:=A5n (h:=h) (f:=f) (AW f n).2 (Ab ns (AQ h f n ⟨#[76,65,66,69,76]⟩),[]);rw[i,g];refine⟨rfl,c,λN d=>?_⟩;have b:=b N d;have j:DY (Ab ns (AQ h f n ⟨#[76,65,66,69,76]⟩)) N:=by
  have:=Kv (((AW f n).2.filterMap (G4 h f)).map (λa=>a.2)) (Ab ns (AQ h f n ⟨#[76,65,66,69,76]⟩));rw[<-c]at this;exact this.trans d
 simp only[Tm];rw[b,j _ (iO ns _)];rfl
theorem A8d (hs:UA h) {ns:List Int} {qs:List NR} (q:IV h f n=false):(Kt h f ns qs n).1=false:=by
 unfold IV at q;rw[bM hs.2.2]at q;unfold Kt;split
 .rfl
 rename_i p;simp only[not_or,Bool.not_eq_false]at p;have a:Ah h (Ar h ⟨#[113,101,113]⟩) (AW f n).1=true:=p.1;rw[a,ABZ]at q;rcases AB0.1 q with q|q
 .grind [bL]
 rw[bL q]
theorem A2f (hs:UA h) {ns:List Int} {qs:List NR} (q:IV h f n=true) :
  (Kt h f ns qs n).1=true/\(Kt h f ns qs n).2.1=(E0 (O3 h f n)).foldl Ab ns/\∀N,DY (Kt h f ns qs n).2.1 N->(Kt h f ns qs n).2.2=qs++[jE N (O3 h f n)]:=by
 unfold IV at q;rw[bM hs.2.2]at q;obtain⟨a,g⟩:=ABQ.1 q;obtain⟨a,e⟩:=ABQ.1 a;have k:(Nw h f n).2.2=true:=a;have i:=bK (ns:=ns) e (DY.rfl' _);have j:=bK (ns:=Ab ns (AQ h f n ⟨#[72,73,71,72]⟩)) g (DY.rfl' _);have c:Kt h f ns qs n=(true,Ab (Ab ns (AQ h f n ⟨#[72,73,71,72]⟩)) (AQ h f n ⟨#[76,79,87]⟩),qs++[(Ec (Ab ns (AQ h f n ⟨#[72,73,71,72]⟩)) (AQ h f n ⟨#[72,73,71,72]⟩),Ec (Ab (Ab ns (AQ h f n ⟨#[72,73,71,72]⟩)) (AQ h f n ⟨#[76,79,87]⟩)) (AQ h f n ⟨#[76,79,87]⟩))]):=by grind [Kt]
 rw[c];refine⟨rfl,rfl,λN b=>?_⟩;have d:=b _ (iO _ (AQ h f n ⟨#[76,79,87]⟩));have h1:=((nP (Ab ns (AQ h f n ⟨#[72,73,71,72]⟩)) (AQ h f n ⟨#[76,79,87]⟩)).trans b) _ (iO ns (AQ h f n ⟨#[72,73,71,72]⟩));simp only[jE,O3];rw[h1,d]
theorem iP {h:AG} {f:List AD} (hs:UA h):∀(l:List Int) (st:D0),(∀x∈l,Gv h f x=true) ->
  (CS (GU h f) l st).1=true/\(CS (GU h f) l st).2.1=(l.flatMap λx=>LL (Bk h f x).1).foldl Ab st.1/\(CS (GU h f) l st).2.2.2=st.2.2 /\
  ∀N,DY (CS (GU h f) l st).2.1 N->(CS (GU h f) l st).2.2.1=st.2.1++l.map λx=>Tm N (Bk h f x).1
 | [],st,_=>⟨rfl,rfl,rfl,λ_ _=>by simp[CS]⟩
 | x :: l,st,a=>by
  obtain⟨j,k,p⟩:=A2e (ns:=st.1) (es:=st.2.1) hs (a x jB);have e:CS (GU h f) (x :: l) st=CS (GU h f) l (GU h f st x).2:=At j;obtain⟨d,g,i,o⟩:=iP hs l (GU h f st x).2 (λy c=>a y (IF _ c));have m:(GU h f st x).2.1=(LL (Bk h f x).1).foldl Ab st.1:=k;rw[e];refine⟨d,?_,i,λN b=>?_⟩
  .grind
  have n:DY (GU h f st x).2.1 N:=by
   have:=Kv (l.flatMap λx=>LL (Bk h f x).1) (GU h f st x).2.1;rw[<-g]at this;exact this.trans b
  grind [GU,Tm,Bk]
theorem iQ {h:AG} {f:List AD} (hs:UA h):∀(l:List Int) (st:D0),(∃x∈l,Gv h f x=false)->(CS (GU h f) l st).1=false
 | [],st,a=>by obtain⟨x,b,_⟩:=a;cases b
 | x :: l,st,a=>by
  cases q:Gv h f x
  .grind [CS,GU,A8c]
  have e:CS (GU h f) (x :: l) st=CS (GU h f) l (GU h f st x).2:=At (A2e (ns:=st.1) (es:=st.2.1) hs q).1;rw[e];refine iQ hs l _ ?_;grind
theorem iR {h:AG} {f:List AD} (hs:UA h):∀(l:List Int) (st:D0),(∀x∈l,IV h f x=true) ->
  (CS (G7 h f) l st).1=true/\(CS (G7 h f) l st).2.1=(l.flatMap λx=>E0 (O3 h f x)).foldl Ab st.1/\(CS (G7 h f) l st).2.2.1=st.2.1 /\
  ∀N,DY (CS (G7 h f) l st).2.1 N->(CS (G7 h f) l st).2.2.2=st.2.2++l.map λx=>jE N (O3 h f x)
 | [],st,_=>⟨rfl,rfl,rfl,λ_ _=>by simp[CS]⟩
 | x :: l,st,a=>by
  obtain⟨j,k,p⟩:=A2f (ns:=st.1) (qs:=st.2.2) hs (a x jB);have e:CS (G7 h f) (x :: l) st=CS (G7 h f) l (G7 h f st x).2:=At j;obtain⟨d,g,i,o⟩:=iR hs l (G7 h f st x).2 (λy c=>a y (IF _ c));have m:(G7 h f st x).2.1=(E0 (O3 h f x)).foldl Ab st.1:=k;rw[e];refine⟨d,?_,i,λN b=>?_⟩
  .grind
  have n:DY (G7 h f st x).2.1 N:=by
   have:=Kv (l.flatMap λx=>E0 (O3 h f x)) (G7 h f st x).2.1;rw[<-g]at this;exact this.trans b
  grind [G7,jE,O3]
theorem iT {h:AG} {f:List AD} (hs:UA h):∀(l:List Int) (st:D0),(∃x∈l,IV h f x=false)->(CS (G7 h f) l st).1=false
 | [],st,a=>by obtain⟨x,b,_⟩:=a;cases b
 | x :: l,st,a=>by
  cases q:IV h f x
  .grind [CS,G7,A8d]
  have e:CS (G7 h f) (x :: l) st=CS (G7 h f) l (G7 h f st x).2:=At (A2f (ns:=st.1) (qs:=st.2.2) hs q).1;rw[e];refine iT hs l _ ?_;grind
theorem iU (p:Int->Bool) (l:List Int):Ax (λi=>if p (l.getD i 0)=true then none else some false) true l.length 0=true↔∀x∈l,p x=true:=by
 constructor
 .intro h x b;obtain⟨i,hi,rfl⟩:=List.getElem_of_mem b;have:=FA (g:=λi=>if p (l.getD i 0)=true then none else some false) (d:=true) (λi r a=>by
   split at a<;>cases a;decide) l.length 0 h i (Do _) O1
  grind
 grind [HP]
theorem A5o (h:AG) (f:List AD) (x:Int):(Bk h f x).2=Gv h f x:=by grind [Bk]
theorem A2g (hs:UA h) (st:D0) (n:Int) :
  (Ef h f (GU h f) st n ⟨#[82,69,76,83]⟩).1=(BH h f n).2/\((BH h f n).2=0->(Ef h f (GU h f) st n ⟨#[82,69,76,83]⟩).2.1=((BH h f n).1.flatMap LL).foldl Ab st.1/\(Ef h f (GU h f) st n ⟨#[82,69,76,83]⟩).2.2.2=st.2.2 /\
   ∀N,DY (Ef h f (GU h f) st n ⟨#[82,69,76,83]⟩).2.1 N->(Ef h f (GU h f) st n ⟨#[82,69,76,83]⟩).2.2.1=st.2.1++(BH h f n).1.map (Tm N)):=by
 unfold Ef BH;by_cases a:AQ h f n ⟨#[82,69,76,83]⟩<0
 .grind
 rw[An a,An a];by_cases b:(AO h f (AQ h f n ⟨#[82,69,76,83]⟩)).2≠0
 .grind
 rw[An b,An b];generalize (AO h f (AQ h f n ⟨#[82,69,76,83]⟩)).1=l at *;have e:Ax (bB h f l) true l.length 0=true↔∀x∈l,Gv h f x=true:=by
  have:=iU (Gv h f) l;simp only[<-A5o]at this ⊢;exact this
 by_cases c:∀x∈l,Gv h f x=true
 .obtain⟨g,i,j,k⟩:=iP hs l st c;rw[At (e.2 c),At g];refine⟨rfl,λ_=>⟨?_,j,λN d=>?_⟩⟩
  .rw[i,ACy]
  have:=k N d;rw[ABm];exact this
 grind [Gv,iQ]
theorem A2h (hs:UA h) (st:D0) (n:Int) :
  (Ef h f (G7 h f) st n ⟨#[67,79,78,83]⟩).1=(BI h f n).2/\((BI h f n).2=0->(Ef h f (G7 h f) st n ⟨#[67,79,78,83]⟩).2.1=((BI h f n).1.flatMap E0).foldl Ab st.1/\(Ef h f (G7 h f) st n ⟨#[67,79,78,83]⟩).2.2.1=st.2.1 /\
   ∀N,DY (Ef h f (G7 h f) st n ⟨#[67,79,78,83]⟩).2.1 N->(Ef h f (G7 h f) st n ⟨#[67,79,78,83]⟩).2.2.2=st.2.2++(BI h f n).1.map (jE N)):=by
 unfold Ef BI;by_cases a:AQ h f n ⟨#[67,79,78,83]⟩<0
 .grind
 rw[An a,An a];by_cases b:(AO h f (AQ h f n ⟨#[67,79,78,83]⟩)).2≠0
 .grind
 rw[An b,An b];generalize (AO h f (AQ h f n ⟨#[67,79,78,83]⟩)).1=l at *;have e:Ax (bD h f l) true l.length 0=true↔∀x∈l,IV h f x=true:=iU (IV h f) l;by_cases c:∀x∈l,IV h f x=true
 .obtain⟨g,i,j,k⟩:=iR hs l st c;rw[At (e.2 c),At g];refine⟨rfl,λ_=>⟨?_,j,λN d=>?_⟩⟩
  .rw[i,ACy]
  have:=k N d;rw[ABm];exact this
 grind [IV,iT]
def nQ (m:CQ):Prop:=16<m.2.2.2.1.length\/16<m.2.2.2.2.length\/256<(IQ (BG m)).length
theorem A2i (hs:UA h) (B:AX f) (h0:0<f.length)
  (s:AK (Dk h f (AQ h f (Fh h f) ⟨#[84,79,80]⟩)) ⟨#[104]⟩=true->AK (Dk h f (AQ h f (Fh h f) ⟨#[73,78,68,69,88]⟩)) ⟨#[]⟩=false->(BH h f (Fh h f)).2=0->(BI h f (Fh h f)).2=0->(G3 (Ct (Co h f (Fh h f)))≠0↔nQ (Co h f (Fh h f)))):LN h f=Sx h f:=by
 have b:Sx h f=if Fh h f<0 then (zM,13) else if AK (Dk h f (AQ h f (Fh h f) ⟨#[84,79,80]⟩)) ⟨#[104]⟩=false\/AK (Dk h f (AQ h f (Fh h f) ⟨#[73,78,68,69,88]⟩)) ⟨#[]⟩=true then (zM,13)
  else if (BH h f (Fh h f)).2≠0 then (zM,(BH h f (Fh h f)).2) else if (BI h f (Fh h f)).2≠0 then (zM,(BI h f (Fh h f)).2)
  else if G3 (Ct (Co h f (Fh h f)))≠0 then (zM,7) else (Ct (Co h f (Fh h f)),0):=rfl
 have a:Ku h f=if Fh h f<0 then 13 else if (IX h f).1.2=false then 13 else if jG h f<0 then 13 else if (O5 h f).1.2=false then 13
  else if (NV h f).1≠0 then (NV h f).1 else if (HE h f).1≠0 then (HE h f).1
  else if 16<(HE h f).2.2.1.length\/16<(HE h f).2.2.2.length\/256<(HE h f).2.1.length then 7 else 0:=rfl
 have fail:∀e:Int,e≠0->Ku h f=e->LN h f=(zM,e):=λe A q=>by unfold LN;rw[q,At A]
 by_cases D:Fh h f<0
 .grind
 rw[An D]at b a;cases g:AK (Dk h f (AQ h f (Fh h f) ⟨#[84,79,80]⟩)) ⟨#[104]⟩ with
 | false =>
  rw[b,At (.inl g)];exact fail 13 df (a.trans (At (by unfold IX;rw[bL g])))
 | true =>
  have hT:∀N,DY (Ab [] (AQ h f (Fh h f) ⟨#[84,79,80]⟩)) N->IX h f=((Ec N (AQ h f (Fh h f) ⟨#[84,79,80]⟩),true),Ab [] (AQ h f (Fh h f) ⟨#[84,79,80]⟩)):=λN c=>bK g c;rw[An (by rw[hT _ (DY.rfl' _)];simp)]at a;cases d:AK (Dk h f (AQ h f (Fh h f) ⟨#[73,78,68,69,88]⟩)) ⟨#[]⟩ with
  | true =>
   rw[b,At (.inr d)];refine fail 13 df (a.trans ?_);split
   .rfl
   grind [O5,O8,IX,jG,A6o]
  | false =>
   have M:0<=jG h f:=nK d;have k:∀N,DY (Ab (IX h f).2 (jG h f)) N->O5 h f=((Ec N (jG h f),true),Ab (IX h f).2 (jG h f)):=λN c=>rZ d c;rw[An O1,An (by rw[k _ (DY.rfl' _)];simp)]at a;rw[An (by rw[g,d];simp)]at b;obtain⟨n,E⟩:=A2g (f:=f) hs ((O5 h f).2,[],[]) (Fh h f);have n:(NV h f).1=(BH h f (Fh h f)).2:=n;by_cases u:(BH h f (Fh h f)).2≠0
   .grind
   rw[An u]at b;rw[An (by rw[n];exact u)]at a;have m:(BH h f (Fh h f)).2=0:=by omega
   obtain⟨o,F,P⟩:=E m;obtain⟨c1,c2⟩:=A2h (f:=f) hs (NV h f).2 (Fh h f);have c1:(HE h f).1=(BI h f (Fh h f)).2:=c1;by_cases t:(BI h f (Fh h f)).2≠0
   .grind
   rw[An t]at b;rw[An (by rw[c1];exact t)]at a;have l:(BI h f (Fh h f)).2=0:=by omega
   obtain⟨j,J,v⟩:=c2 l;have s:=s g d m l;have y:=Wm B h0 g d m l;have C:(O5 h f).2=Ab (IX h f).2 (jG h f):=by rw[k _ (DY.rfl' _)]
   have G:(IX h f).2=Ab [] (AQ h f (Fh h f) ⟨#[84,79,80]⟩):=by rw[hT _ (DY.rfl' _)]
   have j:(HE h f).2.1=((BI h f (Fh h f)).1.flatMap E0).foldl Ab (NV h f).2.1:=j;have o:(NV h f).2.1=((BH h f (Fh h f)).1.flatMap LL).foldl Ab (O5 h f).2:=o;have Q:DY (NV h f).2.1 (HE h f).2.1:=by rw[j];exact Kv _ _
   have I:DY (Ab (IX h f).2 (jG h f)) (HE h f).2.1:=by grind [DY.trans,Kv]
   have H:DY (Ab [] (AQ h f (Fh h f) ⟨#[84,79,80]⟩)) (HE h f).2.1:=by grind [DY.trans,nP]
   have c:(HE h f).2.1=IQ (BG (Co h f (Fh h f))):=by
    rw[j,o,C,G];simp only[IQ,BG,Co,ABq,OS,ACU];rfl
   have w:(IX h f).1.1=Ec (HE h f).2.1 (AQ h f (Fh h f) ⟨#[84,79,80]⟩):=by rw[hT _ H]
   have x:(O5 h f).1.1=Ec (HE h f).2.1 (jG h f):=by rw[k _ I]
   have p:(HE h f).2.2.1=(BH h f (Fh h f)).1.map (Tm (HE h f).2.1):=by grind [HE,NV,BH,Fh,Tm]
   have r:(HE h f).2.2.2=(BI h f (Fh h f)).1.map (jE (HE h f).2.1):=by
    rw[show (HE h f).2.2.2=(NV h f).2.2.2++(BI h f (Fh h f)).1.map (jE (HE h f).2.1) from v _ (DY.rfl' _),show (NV h f).2.2.2=[] from F];rfl
   have K:A2b h f (iM h f)=Ct (Co h f (Fh h f)):=by
    unfold A2b iM Ct;simp only;rw[w,x,p,r,c];refine ABj (λz=>(_,_,z,_,_)) (AAe λi hi=>?_);have:=y.2 i ((lH (BG (Co h f (Fh h f))) [] i hi).resolve_left sc);grind [Co]
   have L:nQ (Co h f (Fh h f))↔(16<(HE h f).2.2.1.length\/16<(HE h f).2.2.2.length\/256<(HE h f).2.1.length):=by
    unfold nQ;rw[p,r,<-c,Of,Of];rfl
   by_cases O:nQ (Co h f (Fh h f))
   .grind
   grind [Ku,LN]
def Qp:Nat->Nat->List Int
 | _,0=>[]
 | s,k+1=>(s:Int) :: Qp (s+1) k
theorem nS (j:Int):∀(k s:Nat),D5 j s (Qp s k)=if (s:Int)<=j/\j<((s+k:Nat):Int) then j else -1
 | 0,s=>by rw[An O1];rfl
 | k+1,s=>by
  unfold Qp D5;by_cases e:(s:Int)=j
  .rw[At e,At ⟨O1,O1⟩,e]
  rw[An e,nS j k (s+1)];by_cases h:((s+1:Nat):Int)<=j/\j<((s+1+k:Nat):Int)
  .rw[At h,At ⟨O1,O1⟩]
  rw[An h,An O1]
theorem iV:∀(k s:Nat),Qp s k++[((s+k:Nat):Int)]=Qp s (k+1)
 | 0,s=>by simp[Qp]
 | k+1,s=>by
  have:=iV k (s+1);rw[show s+1+k=s+(k+1) by omega]at this;rw[Qp,To,this];rfl
theorem A2j {N:List Int}:∀(l ns:List Int),DY (l.foldl Ab ns) N->(l.map (Ec N)).foldl Ab (Qp 0 ns.length)=Qp 0 (l.foldl Ab ns).length
 | [],ns,_=>rfl
 | x :: l,ns,h=>by
  rw[sQ,OS,OS];have c:DY (Ab ns x) N:=(Kv l _).trans h;have d:=A2j l (Ab ns x) h;rw[<-d]
  congr 1
  have e:=c x (iO ns x);by_cases q:Ec ns x<0
  .have a:Ab ns x=ns++[x]:=At q;have b:Ec (ns++[x]) x=(ns.length:Int):=by
    have:=Qo x ns 0 q;rw[AAY]at this;exact this
   rw[e,a,b,IS,nO];unfold Ab;rw[At (by unfold Ec;rw[nS,An O1];decide)];have:=iV ns.length 0;rw[AAY]at this;exact this
  have a:Ab ns x=ns:=An q;rw[a]at e;rw[e,a];have f:=bI x ns 0;have g:0<=Ec ns x/\Ec ns x<(ns.length:Int):=by
   unfold Ec at q ⊢;omega
  unfold Ab;rw[An];rw[show Ec (Qp 0 ns.length) (Ec ns x)=if ((0:Nat):Int)<=Ec ns x/\Ec ns x<((0+ns.length:Nat):Int) then Ec ns x else -1 from nS _ _ _,At ⟨O1,O1⟩];omega
theorem r7:∀(k s:Nat),(Qp s k).length=k
 | 0,_=>rfl
 | k+1,s=>by rw[Qp,NO,r7 k (s+1)]
theorem r8:∀(k s i:Nat),i<k->(Qp s k).getD i 0=((s+i:Nat):Int)
 | k+1,s,0,_=>rfl
 | k+1,s,i+1,h=>by
  have:=r8 k (s+1) i O1;rw[show s+1+i=s+(i+1) by omega]at this;exact this
theorem r9 (m:CQ):BG (Ct m)=(BG m).map (Ec (IQ (BG m))):=by
 generalize a:IQ (BG m)=N;have b:∀e:GX,LL (Tm N e)=(LL e).map (Ec N):=λe=>by simp[LL,Tm,ABm,Function.comp_def]
 have c:∀q:NR,E0 (jE N q)=(E0 q).map (Ec N):=λq=>rfl;unfold Ct;rw[a];simp only[BG,AAT,sQ,ABK,ACy,List.map_flatMap,b,c]
theorem A5p (h:FM (Ct m)=0):G3 (Ct m)=0:=by
 have e:IQ (BG (Ct m))=Qp 0 (IQ (BG m)).length:=by
  rw[r9];exact A2j (BG m) [] (DY.rfl' _)
 unfold G3;rw[An (by rw[h];simp),e,r7,An (by simp[Ct])];refine HP _ _ λj _ a=>?_;unfold A0C;rw[r8 _ _ _ O1,At O1]
theorem A2k:∀(x y:List UInt8),Op.bytesLess x y=true↔x<y
 | _,[]=>by
  unfold Op.bytesLess;simp
 | [],b :: y=>by
  unfold Op.bytesLess;simp
 | a :: x,b :: y=>by
  unfold Op.bytesLess;rw[tO,AT,A2k x y,List.cons_lt_cons_iff];simp
theorem Es {x:ByteArray}:CK x y=true↔x.toList<y.toList:=A2k _ _
theorem Mk {x z:ByteArray} (h1:CK x y=true) (a:CK y z=true):CK x z=true:=Es.2 (List.lt_trans (Es.1 h1) (Es.1 a))
theorem iW {x:ByteArray} (h1:¬CK x y=true) (c:¬AK x y=true):CK y x=true:=by
 refine Es.2 ?_;have a:¬x.toList<y.toList:=λq=>h1 (Es.2 q);have b:¬x.toList=y.toList:=λq=>c (by unfold AK;rw[q];exact ACw _);exact DO λq=>b (List.le_antisymm (List.not_lt.1 q) (List.not_lt.1 a))
def nT (l:List ByteArray):Prop:=l.Pairwise λa b=>CK a b=true
theorem A2l {l:List ByteArray} (d:nT l) (s:ByteArray):nT (Dt l s):=by
 unfold Dt;split
 .exact d
 rename_i hn;have k:l.take (W4 l s)=l.takeWhile λx=>CK x s:=by
  unfold W4;exact(List.prefix_iff_eq_take.1 (List.takeWhile_prefix _)).symm
 have h1:∀x∈l.take (W4 l s),CK x s=true:=λx c=>by
  rw[k]at c;have:=List.all_takeWhile (p:=λx=>CK x s) (l:=l);rw[No]at this;exact this x c
 have h:∀x∈l.drop (W4 l s),CK s x=true:=by
  by_cases f:W4 l s<l.length
  .have j:=OR f;have e:l.getD (W4 l s) ByteArray.empty=l[W4 l s]:=by simp[AS,f]
   have hh:CK s l[W4 l s]=true:=by
    refine iW (λq=>?_) λq=>hn ?_
    .have:=(kZ (λx=>CK x s) ByteArray.empty l (W4 l s) (On _)).1 ⟨f,by rw[e];exact q⟩;exact absurd this (by unfold W4;omega)
    rw[AT,IN,e];exact⟨f,q⟩
   intro x c;have i:(l.drop (W4 l s)).Pairwise λa b=>CK a b=true:=d.drop;rw[j]at c i;rcases By.1 c with rfl|c
   .exact hh
   exact Mk hh ((AAv.1 i).1 x c)
  rw[Is O1];exact λx c=>by cases c
 show List.Pairwise _ _;rw[AA8,ABP];refine⟨d.take,AAv.2 ⟨h,d.drop⟩,λa ha b g=>?_⟩;rcases By.1 g with rfl|g
 .exact h1 a ha
 exact Mk (h1 a ha) (h b g)
theorem wJ (d:List AJ):nT (BM d):=by
 have b:∀(l:List (ByteArray×ByteArray)) (o:List ByteArray),nT o->nT (l.foldl Jc o):=by
  intro l;induction l with
  | nil=>exact λo h=>h
  | cons x l a=>exact λo h=>a _ (A2l h x.1)
 have c:∀(l:List AJ) (o:List ByteArray),nT o->nT (l.foldl JE o):=by
  intro l;induction l with
  | nil=>exact λo h=>h
  | cons x l a=>exact λo h=>a _ (b x.2.2 o h)
 exact c d [] .nil
def nU (h:AG):Prop:=h.2.Pairwise λa b=>CK a.1 b.1=true
theorem iX (d:List AJ):nU (Ad d).1:=by
 unfold Ad;split
 .exact .nil
 show List.Pairwise _ (DI d).1;unfold DI;split
 .exact .nil
 show List.Pairwise _ ((BM d).map (MK d));rw[AAN];exact wJ d
theorem Qq (s:ByteArray):∀(l:List P8) (k:Nat),0<=jF s k l->∃i,i<l.length/\jF s k l=((k+i:Nat):Int)/\∃x,l[i]?=some x/\AK x.1 s=true
 | [],k,h=>absurd h (by unfold jF;decide)
 | x :: l,k,h=>by
  unfold jF at h ⊢;split
  .rename_i e;exact⟨0,sc,O1,x,rfl,e⟩
  rename_i e;rw[An e]at h;obtain⟨i,h1,a,y,b,c⟩:=Qq s l (k+1) h;exact⟨i+1,by simp only[NO];omega,by rw[a];omega,y,by rw[List.getElem?_cons_succ];exact b,c⟩
theorem A9V (hs:nU h) {t:ByteArray} (e:CK s t=true) (h1:0<=BO h s) (n:0<=BO h t):BO h s<BO h t:=by
 obtain⟨i,f,p,x,g,r⟩:=Qq s h.2 0 h1;obtain⟨j,k,u,y,b,v⟩:=Qq t h.2 0 n;have ex:x.1.toList=s.toList:=AA9.1 r;have c:y.1.toList=t.toList:=AA9.1 v;have d:=Es.1 e;unfold BO;rw[p,u];by_cases w:i<j
 .omega
 exfalso;by_cases o:i=j
 .subst o;rw[g]at b;injection b with b
  subst b;rw[ex]at c;rw[c]at d;exact List.lt_irrefl _ d
 have a:=iN.1 hs j i k f O1;have l:h.2[i]=x:=by have:=As f;rw[g]at this;injection this with q;exact q.symm
 have m:h.2[j]=y:=by have:=As k;rw[b]at this;injection this with q;exact q.symm
 rw[l,m]at a;have a:=Es.1 a;rw[ex,c]at a;exact List.lt_irrefl _ (List.lt_trans a d)
theorem Wr (s:ByteArray):∀(l:List FB) (k:Nat),0<=Yd s k l->∃i,i<l.length/\Yd s k l=((k+i:Nat):Int)/\∃x,l[i]?=some x/\AK x.1 s=true
 | [],k,h=>absurd h (by unfold Yd;decide)
 | x :: l,k,h=>by
  unfold Yd at h ⊢;split
  .rename_i e;exact⟨0,sc,O1,x,rfl,e⟩
  rename_i e;rw[An e]at h;obtain⟨i,h1,a,y,b,c⟩:=Wr s l (k+1) h;exact⟨i+1,by simp only[NO];omega,by rw[a];omega,y,by rw[List.getElem?_cons_succ];exact b,c⟩
theorem A9W {t:ByteArray} (e:AK s t=false) (h1:0<=Ar h s):Ar h s≠Ar h t:=λq=>by
 obtain⟨i,m,c,x,d,f⟩:=Wr s h.1 0 h1;obtain⟨j,n,g,y,a,k⟩:=Wr t h.1 0 (show 0<=Ar h t by rw[<-q];exact h1);have l:((0+i:Nat):Int)=((0+j:Nat):Int):=c.symm.trans (q.trans g);have:i=j:=by omega
 subst this;rw[d]at a;injection a with a
 subst a;have ex:x.1.toList=s.toList:=AA9.1 f;have b:x.1.toList=t.toList:=AA9.1 k;have:AK s t=true:=by
  unfold AK;rw[<-ex,<-b];exact ACw _
 rw[e]at this;cases this
structure LOk (h:AG):Prop where
 lw:LQ h=true
 srt:nU h
theorem LOk.ne (l:LOk h):(Bp h).list≠(Bp h).null:=A9W a3 (Yf l.lw).2.2.2.1
theorem LOk.rng (l:LOk h):((Bp h).list<(h.1.length:Int)/\(Bp h).cons<(h.1.length:Int)/\(Bp h).null<(h.1.length:Int)/\(Bp h).dlist<(h.1.length:Int))/\(Bp h).first<(h.2.length:Int)/\(Bp h).rest<(h.2.length:Int)/\(Bp h).head<(h.2.length:Int)/\(Bp h).last<(h.2.length:Int) :=
 ⟨⟨(DQ h _).2,(DQ h _).2,(DQ h _).2,(DQ h _).2⟩,(GZ h _).2,(GZ h _).2,(GZ h _).2,(GZ h _).2⟩
theorem LOk.sub (l:LOk h):Ah h (Bp h).list (Bp h).cons=true/\Ah h (Bp h).list (Bp h).null=true:=by
 have e:=l.lw;unfold LQ at e;rw[AT,AT]at e;exact⟨e.1.2,e.2⟩
theorem A2m {all:List ByteArray} {l:List FV}:∀ {r:List FV} {k:Nat},pX all l k r=0->∀y∈r,BF y.1 true=true
 | [],_,_,y,a=>by cases a
 | x :: r,k,h,y,a=>by
  simp only[pX]at h;split at h
  .cases h
  rename_i h0;split at h
  .cases h
  split at h
  .cases h
  rcases By.1 a with rfl|a
  .simpa using h0
  exact A2m h y a
theorem sA {all:List ByteArray}:∀ {l:List AJ},Vd all l=0->∀x∈l,∀y∈x.2.2,BF y.1 true=true
 | [],_,x,a=>by cases a
 | z :: l,h,x,a=>by
  simp only[Vd]at h;split at h
  .rename_i h1;exact absurd h h1
  rename_i h1;rcases By.1 a with rfl|a
  .exact A2m (DO h1)
  exact sA h x a
theorem Y5:∀(l:List (ByteArray×ByteArray)) (o:List ByteArray),∀s∈l.foldl Jc o,s∈o\/∃y∈l,y.1=s
 | [],o,s,h=>.inl h
 | x :: l,o,s,h=>by
  rcases Y5 l _ s h with h|⟨y,a,e⟩
  .rcases Fz h with h|h
   .exact .inl h
   grind
  grind
theorem Ws:∀(l:List AJ) (o:List ByteArray),∀s∈l.foldl JE o,s∈o\/∃x∈l,∃y∈x.2.2,y.1=s
 | [],o,s,h=>.inl h
 | x :: l,o,s,h=>by
  rcases Ws l _ s h with h|⟨z,b,y,a,e⟩
  .rcases Y5 x.2.2 o s h with h|⟨y,a,e⟩
   .exact .inl h
   grind
  grind
def A2n (h:AG):Prop:=∀x∈h.2,BF x.1 true=true
theorem nV (d:List AJ):A2n (Ad d).1:=by
 by_cases a:Am d=0
 .rw[Ko a];obtain⟨-,-,c,-,-⟩:=WU a;intro x b;rw[Md a]at b;obtain⟨s,hs,rfl⟩:=GO.1 b;rcases Ws d [] s hs with h|⟨z,g,y,f,e⟩
  .cases h
  show BF s true=true;rw[<-e];exact sA c z g y f
 have:(Ad d).1=([],[]):=by
  unfold Ad A8;rw[At a,At a]
 rw[this];exact λx b=>by cases b
theorem A2o {t:Int} (q:AK (Bu h t) ⟨#[]⟩=false):VW (Bu h t)=true:=by
 unfold Bu at q ⊢;split
 .decide +kernel
 rename_i h1;rw[An h1]at q;split
 .decide +kernel
 rename_i a;rw[An a]at q;split
 .decide +kernel
 rename_i b;rw[An b]at q;split
 .decide +kernel
 rename_i c;rw[An c]at q;exact absurd q a3
theorem A8e (q:AK (Dk h f n) ⟨#[]⟩=false):VW (Dk h f n)=true:=by
 have a:=nK q;grind [Dk,A2o]
theorem A5q (h:MO l):l.Pairwise λa b=>a.1<b.1:=by
 rw[iN];intro i j hi f e;have key:∀k,i+k+1<l.length->(l.getD i (0,0)).1<(l.getD (i+k+1) (0,0)).1:=by
  intro k;induction k with
  | zero=>exact λhk=>h i hk
  | succ k c =>
   intro hk;have h1:=c O1;have d:=h (i+k+1) hk;rw[show i+(k+1)+1=i+k+1+1 by omega];omega
 have h1:=key (j-i-1) O1;grind
theorem A2p (hs:nU h) (hn:A2n h) (hf:QJ f) (ha:O2 h f) (q:Gv h f n=true):Py (Bk h f n).1=0:=by
 have e:Bk h f n=((Y3 h f n,AQ h f n ⟨#[76,65,66,69,76]⟩,(AW f n).2.filterMap (G4 h f)),true):=At q;rw[e];unfold Gv at q;simp only[AT]at q;unfold Py;rw[At q.1.2];have k:MO (AW f n).2/\∀a∈(AW f n).2,0<=a.1/\a.1<(h.2.length:Int):=by
  unfold AW;by_cases hi:n.toNat<f.length
  .have:=Aw (d:=((0,[]):AD)) hi;exact⟨(hf _ this).1,ha _ this⟩
  have:f.getD n.toNat (0,[])=(0,[]):=by simp[AS,AD2 hi]
  rw[this];exact⟨λi hi=>by simp at hi,λa h=>by cases h⟩
 generalize (AW f n).2=R at *;have D:(R.filterMap (G4 h f)).Pairwise λa b=>CK a.1 b.1=true:=by
  rw[List.pairwise_filterMap];refine ACf ?_ (A5q k.1);intro a b o A G x c y m;unfold G4 at c m;split at c
  .split at m
   .cases c;cases m;obtain⟨u,v⟩:=k.2 a o;obtain⟨F,b1⟩:=k.2 b A;have:=iN.1 hs a.1.toNat b.1.toNat O1 O1 O1;simpa[Wl,AS,show a.1.toNat<h.2.length by omega,show b.1.toNat<h.2.length by omega] using this
   cases m
  cases c
 have C:∀x∈R.filterMap (G4 h f),BF x.1 true=true/\AK x.1 ⟨#[76,65,66,69,76]⟩=false:=by
  intro x c;obtain⟨a,o,g⟩:=AC1.1 c;unfold G4 at g;split at g
  .rename_i E;cases g;obtain⟨u,v⟩:=k.2 a o;exact⟨hn (h.2.getD a.1.toNat (ByteArray.empty,0)) (Aw O1),E.1⟩
  cases g
 generalize R.filterMap (G4 h f)=l at *;refine HP _ _ λj _ B=>?_;have p:j<l.length:=by simpa using B
 have r:=C _ (Aw (d:=(ByteArray.empty,(0:Int))) p);unfold lE;rw[An (by rw[r.1,r.2];simp),An];intro⟨H,s⟩;have t:=iN.1 D (j-1) j O1 p O1;have w:l.getD j (ByteArray.empty,0)=l[j]:=by simp[AS,p]
 have z:l.getD (j-1) (ByteArray.empty,0)=l[j-1]:=by simp[AS,show j-1<l.length by omega]
 rw[w,z]at s;have t:=Es.1 t;rcases s with h1|h1
 .grind [Es]
 grind [Ep]
theorem Qr {s:Int} (a:(BH h f s).2=0):∀e∈(BH h f s).1,∃x,Gv h f x=true/\e=(Bk h f x).1:=by
 unfold BH at a ⊢;split at a
 .cases a
 rename_i h1;rw[An h1];split at a
 .rename_i c;exact absurd a c
 rename_i c;rw[An c];split at a
 .rename_i l;rw[At l];intro e o;obtain⟨x,p,rfl⟩:=GO.1 o;obtain⟨j,n,rfl⟩:=AAd.1 p;have b:=FA (λi r k=>by unfold bB at k;split at k<;>cases k;decide) _ 0 l j (Do _) O1;have m:(AO h f (AQ h f s ⟨#[82,69,76,83]⟩)).1.getD j 0=(AO h f (AQ h f s ⟨#[82,69,76,83]⟩)).1[j]:=by simp[AS,n]
  unfold bB at b;rw[m]at b;refine⟨_,?_,rfl⟩;generalize (AO h f (AQ h f s ⟨#[82,69,76,83]⟩)).1[j]=x at *;have d:(Bk h f x).2=true:=by
   cases g:(Bk h f x).2 with
   | true=>rfl
   | false=>rw[g,An sc]at b;cases b
  cases g:Gv h f x with
  | true=>rfl
  | false=>unfold Bk at d;rw[g,An sc]at d;cases d
 cases a
theorem Qs {s:Int} (a:(BI h f s).2=0):∀e∈(BI h f s).1,AK (Dk h f e.1) ⟨#[104]⟩=true/\AK (Dk h f e.2) ⟨#[104]⟩=true:=by
 unfold BI at a ⊢;split at a
 .cases a
 rename_i h1;rw[An h1];split at a
 .rename_i d;exact absurd a d
 rename_i d;rw[An d];split at a
 .rename_i k;rw[At k];intro e o;obtain⟨x,p,rfl⟩:=GO.1 o;obtain⟨j,n,rfl⟩:=AAd.1 p;have b:=FA (λi r g=>by unfold bD at g;split at g<;>cases g;decide) _ 0 k j (Do _) O1;have l:(AO h f (AQ h f s ⟨#[67,79,78,83]⟩)).1.getD j 0=(AO h f (AQ h f s ⟨#[67,79,78,83]⟩)).1[j]:=by simp[AS,n]
  unfold bD at b;rw[l]at b;generalize (AO h f (AQ h f s ⟨#[67,79,78,83]⟩)).1[j]=x at *;have c:IV h f x=true:=by
   cases m:IV h f x with
   | true=>rfl
   | false=>rw[m,An sc]at b;cases b
  unfold IV at c;simp only[AT]at c;exact⟨c.1.2,c.2⟩
 cases a
theorem sB {x:Int}:∀(l:List Int) (k:Nat),x∈l->∃i,i<l.length/\D5 x k l=((k+i:Nat):Int)/\l[i]?=some x
 | y :: l,k,h=>by
  unfold D5;by_cases e:y=x
  .grind
  rw[An e];obtain⟨i,h1,a,b⟩:=sB l (k+1) ((By.1 h).resolve_left λq=>e q.symm);exact⟨i+1,by simp only[NO];omega,by rw[a];omega,by simpa using b⟩
theorem A2q:∀(l out:List Int) (x:Int),x∈out\/x∈l->x∈l.foldl Ab out
 | [],out,x,h=>h.elim id λh=>by cases h
 | y :: l,out,x,h=>by
  refine A2q l (Ab out y) x ?_;rcases h with h|h
  .grind [Ab]
  rcases By.1 h with rfl|h
  .left;unfold Ab;split
   .grind
   rename_i q;rcases bI x out 0 with d|d
   .exact absurd q (by unfold Ec;omega)
   exact DO λb=>by
    have:∀(l:List Int) (k:Nat),x∉l->D5 x k l=-1:=by
     intro l;induction l with
     | nil=>exact λ_ _=>rfl
     | cons z l c =>
      intro k a;unfold D5;rw[An (λq=>a (by rw[q];exact jB))];exact c _ λq=>a (IF _ q)
    have:=this out 0 b;omega
  exact .inr h
theorem A5r (m:CQ):Jf (Ct m)=(Jf m).map (Ec (IQ (BG m))):=by
 generalize a:IQ (BG m)=N;have b:∀e:GX,RS (Tm N e)=(RS e).map (Ec N):=λe=>rfl;have c:∀q:NR,E0 (jE N q)=(E0 q).map (Ec N):=λq=>rfl;unfold Ct;rw[a];simp only[Jf,AAT,sQ,ABK,ACy,List.map_flatMap,b,c]
theorem UC:∀ {s:ByteArray},AK s ⟨#[104]⟩=true->AK s ⟨#[]⟩=false:=λ{s} q=>by
 rw[IM q];decide +kernel
theorem A8f (N:List Int) (e:GX):Py (Tm N e)=Py e:=by
 unfold Py Tm;split
 .simp only[Of]
  congr 1
  grind [lE,Ec]
 rfl
theorem A8g (hs:nU h) (hn:A2n h) (hf:QJ f) (H:XR h f) (h0:0<f.length) {s:Int} (p:AK (Dk h f (AQ h f s ⟨#[84,79,80]⟩)) ⟨#[104]⟩=true) (v:AK (Dk h f (AQ h f s ⟨#[73,78,68,69,88]⟩)) ⟨#[]⟩=false) (l:(BH h f s).2=0) (k:(BI h f s).2=0) :
  G3 (Ct (Co h f s))≠0↔nQ (Co h f s):=by
 obtain⟨-,G,-,ha⟩:=H;have D:=Wm G h0 p v l k;have B:∀x∈BG (Co h f s),AK (Dk h f x) ⟨#[]⟩=false:=by
  intro x a;simp only[BG,If,AB9,By,LL,E0,ABl,ACG]at a;rcases a with ((a|a)|⟨e,c,a|a⟩)|⟨e,c,a|a⟩
  .rw[a];exact UC p
  .rw[a];exact v
  .obtain⟨y,m,rfl⟩:=Qr l e c;grind [Bk,Gv,UC]
  .obtain⟨y,m,rfl⟩:=Qr l e c;grind [Bk,G4]
  .rw[a];exact UC (Qs k e c).1
  rw[a];exact UC (Qs k e c).2
 have C:∀x∈Jf (Co h f s),AK (Dk h f x) ⟨#[104]⟩=true:=by
  intro x a;simp only[Jf,If,AB9,By,RS,E0,ABl,ACG]at a;rcases a with (a|⟨e,c,a⟩)|⟨e,c,a|a⟩
  .rw[a];exact p
  .obtain⟨y,m,rfl⟩:=Qr l e c;grind [Bk,Gv]
  .rw[a];exact(Qs k e c).1
  rw[a];exact(Qs k e c).2
 have r:∀x:Int,0<=x->x<(f.length:Int)->(Co h f s).2.2.1.getD x.toNat ByteArray.empty=Dk h f x:=by grind [Co]
 have I:(Co h f s).2.2.1.length=f.length:=by simp[Co]
 have E:∀e∈(Co h f s).2.2.2.1,Py e=0:=by
  intro e c;obtain⟨y,m,rfl⟩:=Qr l e c;exact A2p hs hn hf ha m
 have g:=D.2;rw[I]at g;have J:=pQ (Co h f s);generalize O:Co h f s=M at *;have o:(Ct M).2.2.1.length=(IQ (BG M)).length:=by simp[Ct]
 have u:(Ct M).2.2.2.1.length=M.2.2.2.1.length:=by simp[Ct]
 have N:(Ct M).2.2.2.2.length=M.2.2.2.2.length:=by simp[Ct]
 have q:∀x∈BG M,∃i,i<(IQ (BG M)).length/\Ec (IQ (BG M)) x=(i:Int)/\(IQ (BG M))[i]?=some x:=by
  intro x a;obtain⟨i,t,n,L⟩:=sB (IQ (BG M)) 0 (A2q (BG M) [] x (.inr a));grind [Ec]
 constructor
 .intro K;apply DO;intro F;refine K (A5p ?_);unfold nQ at F;unfold FM;rw[An (by rw[o,u,N];omega)];have w:Ax (eQ (Ct M).2.2.1) 0 (Ct M).2.2.1.length 0=0:=by
   refine HP _ _ λj _ b=>?_;rw[o]at b;have b:j<(IQ (BG M)).length:=by omega
   unfold eQ;rw[At];have d:(IQ (BG M))[j]∈BG M:=(lH (BG M) [] _ (AA5 b)).resolve_left sc;have:(Ct M).2.2.1.getD j ByteArray.empty=M.2.2.1.getD ((IQ (BG M))[j]).toNat ByteArray.empty:=by
    simp[Ct,AS,b]
   rw[this,r _ (g _ d).1 (g _ d).2];exact A8e (B _ d)
  rw[An (by rw[w];simp)];have z:Ax (XI (Ct M).2.2.2.1) 0 (Ct M).2.2.2.1.length 0=0:=by
   refine HP _ _ λj _ b=>?_;rw[u]at b;have b:j<M.2.2.2.1.length:=by omega
   unfold XI;have:(Ct M).2.2.2.1.getD j (ByteArray.empty,0,[])=Tm (IQ (BG M)) M.2.2.2.1[j]:=by
    simp[Ct,AS,b]
   rw[this,A8f,At (E _ (AA5 b))]
  rw[An (by rw[z];simp)];have A:Ax (Zx (Ct M).2.2.1.length (BG (Ct M))) 0 (BG (Ct M)).length 0=0:=by
   refine HP _ _ λj _ b=>?_;rw[r9]at b ⊢;rw[Of]at b;have b:j<(BG M).length:=by omega
   have:((BG M).map (Ec (IQ (BG M)))).getD j 0=Ec (IQ (BG M)) (BG M)[j]:=by simp[AS,b]
   obtain⟨i,t,n,-⟩:=q _ (AA5 b);unfold Zx;rw[this,n,o,An O1]
  rw[An (by rw[A];simp)];refine HP _ _ λj _ b=>?_;rw[A5r]at b ⊢;rw[Of]at b;have b:j<(Jf M).length:=by omega
  have:((Jf M).map (Ec (IQ (BG M)))).getD j 0=Ec (IQ (BG M)) (Jf M)[j]:=by simp[AS,b]
  have d:=J _ (AA5 b);obtain⟨i,t,n,L⟩:=q _ d;unfold A0A;rw[this,n,At];have:(Ct M).2.2.1.getD ((i:Int)).toNat ByteArray.empty=M.2.2.1.getD ((Jf M)[j]).toNat ByteArray.empty:=by grind [Ct]
  rw[this,r _ (g _ d).1 (g _ d).2];exact C _ (AA5 b)
 grind [FM,Ct,nQ,G3]
theorem A8h (b:UA h) (hs:nU h) (hn:A2n h) (hf:QJ f) (a:XR h f) (h0:0<f.length):LN h f=Sx h f :=
 A2i b a.2.1 h0 λc d e g=>A8g hs hn hf a h0 c d e g
section
attribute [local go_sem] QR Jr LP LK Nj KW JH OX
def IP (h:AG) (a:List AD):List (Nat×Obj) :=
 [(1,.box 98 true [.p FL h,.ag [.sr 2 W3 0 a.length]]),(2,.nest 57 59 T3 DH a none)]
def D8 (a:List AD) (n e m:Int):List AD:=a.set n.toNat ((a.getD n.toNat (0,[])).1,(a.getD n.toNat (0,[])).2++[(e,m)])
def JJ (h:AG) (a:List AD) (s:ByteArray):List AD:=a++[(Ar h s,[])]
theorem Gx (h:AG) (a:List AD) (g:a.length<=100000) (s:ByteArray):BE Tryz.prog 46 [.bp 1 [] 0,.p T9 s] (IP h a) [1]
  (λres f=>res=.p T3 (a.length:Int)/\f=IP h (JJ h a s)):=by
 refine Jx [0,1,4] [] [(18,59)] Tryz.func46 Tryz.ntmps46 (AE QT AH) ?_;intro w0 K O0 ρ0 b i j;simp only[Ap,IP];repeat'(first|exact a6|apply eS rfl|apply AB|refine rP b ?_ ?_|fail)
 refine L2 drawsAny b 15 [([1,2,3,4,5,6,7,8,9,10,11,12,13],14)] [0] a5 (mxA ?_ ?_)
 .trivial
 refine mxL b [2,18] ?_ ?_
 .simp only[AP];omega
 refine mxE b ?_ ?_ ?_
 .trivial
 .trivial
 repeat'(first|exact a6|apply eS rfl|apply AB|refine rX b ?_ ?_|refine rC ?_ ?_<;>intro c<;>try(cases c;done))
 .omega
 have d:a.length+1=(a++[(Ar h s,([]:List (Int×Int)))]).length:=by simp
 have e:(a.length:Int)+1-1=a.length:=by omega
 rw[e,d];refine Ev.ent (σ':=⟨[(4,.p (.int .i64) (a.length:Int))],IP h (a++[(Ar h s,[])])⟩) ?_ (AC [(1,.nm 1),(2,.nm 2)] rfl rfl ?_ ?_)
 .exact fM b [.tmp 4] (.p T3 (a.length:Int)) eT ⟨rfl,rfl⟩
 .simp only[IP];first|exact eN|refine eM ?_
 first|exact eN|refine eM ?_
attribute [local go_sem] VI kN ne_eq not_false_eq_true
theorem Et (h:AG) (a:List AD) (f:a.length<=100000) (h0:0<=n) (h1:n<(a.length:Int)) (j:(a.getD n.toNat (0,[])).2.length<=100000) (s:ByteArray) (m:Int):BE Tryz.prog 47 [.bp 1 [] 0,.p T3 n,.p T9 s,.p T3 m] (IP h a) [1]
  (λres e=>res=.raw (.tuple #[])/\e=IP h (D8 a n (BO h s) m)):=by
 refine Jx [0,1,2,3] [31] [] Tryz.func47 Tryz.ntmps47 (AE WE AH) ?_;intro w0 K O0 ρ0 b g i;simp only[Ap,IP];repeat'(first|exact a6|apply eS rfl|apply AB|refine rP b ?_ ?_|fail)
 refine L2 drawsAny b 25 [([6,7,8,9,10,11,12,13,14,15,16,17,18,19,20,21,22,23],24)] [0,1,2,3,4,5] a5 (mxA ?_ ?_)
 .exact⟨h0,h1⟩
 refine mxN b 2 ?_ ?_
 .simp only[AP];dsimp only[Ty.den]at *;omega
 refine mxE b ?_ ?_ ?_
 .trivial
 .exact⟨h0,h1⟩
 repeat'(first|exact a6|apply eS rfl|apply AB|refine rX b ?_ ?_|refine rC ?_ ?_<;>intro c<;>try(cases c;done))
 have d:a.length=(D8 a n (BO h s) m).length:=(AAt ..).symm;rw[d];refine Ev.ent (σ':=⟨[],IP h (D8 a n (BO h s) m)⟩) ?_ (AC [(1,.nm 1),(2,.nm 2)] rfl rfl ?_ ?_)
 .exact fM b [] (.raw (.tuple #[])) rfl ⟨rfl,rfl⟩
 .simp only[IP];first|exact eN|refine eM ?_
  rfl
 first|exact eN|refine eM ?_
end
section
attribute [local go_sem] IP LP LK Nj KW JH OX
def Jw (K:Nat) (a:List AD):Prop:=∀x∈a,x.2.length<=K
theorem O6 (h:AG) (a:List AD) (s:ByteArray):(JJ h a s).length=a.length+1:=by simp[JJ]
theorem A5s {b:List AD} {K:Nat} (hk:Jw K b) (s:ByteArray):Jw K (JJ h b s):=by
 intro x a;rcases If.1 a with a|a
 .exact hk x a
 rw[oN.1 a];exact Do _
theorem bN (a:List AD) (n e m:Int):(D8 a n e m).length=a.length:=AAt ..
theorem iY {a:List AD} {K:Nat} (hk:Jw K a) (n:Int):(a.getD n.toNat (0,[])).2.length<=K:=by
 by_cases h:n.toNat<a.length
 .exact hk _ (AF a (0,[]) h)
 rw[AS,oF O1];exact Do _
theorem A5t {b:List AD} {K:Nat} (hk:Jw K b) (n e m:Int):Jw (K+1) (D8 b n e m):=by
 intro x a;rcases ABd a with a|rfl
 .have:=hk x a;omega
 have:=iY hk n;simp only[IS,nO];omega
def Eg (h:AG) (st:List AD×Int×ByteArray) (x:Int):List AD×Int×ByteArray :=
 (D8 (D8 (JJ h st.1 ⟨#[99,111,110,115]⟩) st.2.1 (BO h st.2.2) (st.1.length:Int)) (st.1.length:Int) (BO h ⟨#[70,73,82,83,84]⟩) x,(st.1.length:Int),⟨#[82,69,83,84]⟩)
def sC (h:AG) (d:Int) (st:List AD×Int×ByteArray):List AD :=
 D8 (D8 (JJ h st.1 ⟨#[108,105,115,116]⟩) st.2.1 (BO h st.2.2) (st.1.length:Int)) d (BO h ⟨#[76,65,83,84]⟩) (st.1.length:Int)
def iZ (h:AG) (a:List AD) (l:List Int):List AD:=sC h (a.length:Int) (l.foldl (Eg h) (JJ h a ⟨#[100,108,105,115,116]⟩,(a.length:Int),⟨#[76,73,83,84]⟩))
theorem A2r {α β:Type} (g:β->α->β) (l:List α) (d:α) (b:β) {k:Nat} (h:k<l.length):(l.drop k).foldl g b=(l.drop (k+1)).foldl g (g b (l.getD k d)):=by
 rw[OR h,AS,As h];rfl
theorem A2s {st:List AD×Int×ByteArray} {L K:Nat} (h1:st.1.length=L) (a:Jw K st.1) (b:0<=st.2.1/\st.2.1<(st.1.length:Int)) (x:Int) :
  (Eg h st x).1.length=L+1/\Jw (K+2) (Eg h st x).1/\0<=(Eg h st x).2.1/\(Eg h st x).2.1<((Eg h st x).1.length:Int):=by
 refine⟨by simp only[Eg,bN,O6,h1],A5t (A5t (A5s a _) _ _ _) _ _ _,by simp only[Eg];omega,?_⟩;simp only[Eg,bN,O6];omega
theorem i5 (h:AG) (b:List AD) (I:b.length<=1000) {K:Nat} (y:Jw K b) (G:K<=1000) (l:List Int) (J:l.length<=1000):BE Tryz.prog 48 [.bp 1 [] 0,.p Bx l] (IP h b) [1]
  (λres E=>res=.p T3 (b.length:Int)/\E=IP h (iZ h b l)):=by
 refine Jx [0,1,4,5,6,7,9,10,11,15,16,17,18] [] [] Tryz.func48 Tryz.ntmps48 AH ?_;intro w0 F O0 ρ0 a L M;have B:iZ h b l=sC h (b.length:Int) (l.foldl (Eg h) (JJ h b ⟨#[100,108,105,115,116]⟩,(b.length:Int),⟨#[76,73,83,84]⟩)):=rfl;simp only[Ap,IP];repeat'(first|exact a6|apply eS rfl|apply AB|refine rP a ?_ ?_|fail)
 refine cP 1 a ?_ ?_
 .trivial
 refine rM a (Gx h b O1 ⟨#[100,108,105,115,116]⟩) [(1,.nm 1),(2,.nm 2)] [2] ?_ ?_ ?_
 .first|exact eN|refine eM ?_
 .first|exact eN|refine eM ?_
 rintro _ _ ⟨rfl,rfl⟩;refine⟨[(1,.nm 1),(2,.nm 2)],.p T3 (b.length:Int),IP h (JJ h b ⟨#[100,108,105,115,116]⟩),rfl,rfl,?_,?_,rfl,rfl,?_⟩
 .first|exact eN|refine eM ?_
 .first|exact eN|refine eM ?_
 simp only[IP];refine rL a ?_ ?_
 .trivial
 repeat'(first|exact a6|apply eS rfl|apply AB|refine rX a ?_ ?_|refine rC ?_ ?_<;>intro c<;>try(cases c;done))
 have u:=O6 h b ⟨#[100,108,105,115,116]⟩;have C:=A5s (h:=h) y ⟨#[100,108,105,115,116]⟩;generalize JJ h b ⟨#[100,108,105,115,116]⟩=s at *;refine AI (ι:={x:Nat×List AD×Int×ByteArray//x.1<=l.length/\(l.drop x.1).foldl (Eg h) x.2=l.foldl (Eg h) (s,(b.length:Int),⟨#[76,73,83,84]⟩)/\x.2.1.length=b.length+1+x.1/\Jw (K+2*x.1) x.2.1/\0<=x.2.2.1/\x.2.2.1<(x.2.1.length:Int)}) (λx=>⟨[(0,.bp 1 [] 0),(5,.p T3 (b.length:Int)),(6,.p T3 x.1.2.2.1),(7,.p T9 x.1.2.2.2),(15,.p Bx l),(16,.p (.int .i64) (l.length:Int)),(17,.p (.int .i64) (x.1.1:Int))],IP h x.1.2.1⟩) (λx=>l.length-x.1.1) ⟨(0,s,(b.length:Int),⟨#[76,73,83,84]⟩),Do _,rfl,by simpa using u,by simpa using C,sc,by simp only[u];omega⟩ (AC [(1,.nm 1),(2,.nm 2)] rfl rfl ?_ ?_) (λx=>?_)
 .first|exact eN|refine eM ?_
 .first|exact eN|refine eM ?_
 obtain⟨⟨i,Z⟩,hi,k,v,f,g,w⟩:=x;simp only at hi k v f g w;have r:=λq:i<l.length=>A2r (Eg h) l 0 Z q;simp only[IP];repeat'(first|exact a6|apply eS rfl|apply AB|refine rX a ?_ ?_|refine rC ?_ ?_<;>intro c<;>try(cases c;done))
 .exact c
 .have t:i<l.length:=by omega
  have r:=r t;have e:=A2s (h:=h) v f ⟨g,w⟩ (l.getD i 0);have D:=O6 h Z.1 ⟨#[99,111,110,115]⟩;have d:=A5s (h:=h) f ⟨#[99,111,110,115]⟩;refine cP 1 a ?_ ?_
  .trivial
  refine rM a (Gx h Z.1 O1 ⟨#[99,111,110,115]⟩) [(1,.nm 1),(2,.nm 2)] [2] ?_ ?_ ?_
  .first|exact eN|refine eM ?_
  .first|exact eN|refine eM ?_
  rintro _ _ ⟨rfl,rfl⟩;refine⟨[(1,.nm 1),(2,.nm 2)],.p T3 (Z.1.length:Int),IP h (JJ h Z.1 ⟨#[99,111,110,115]⟩),rfl,rfl,?_,?_,rfl,rfl,?_⟩
  .first|exact eN|refine eM ?_
  .first|exact eN|refine eM ?_
  simp only[IP];refine rL a ?_ ?_
  .trivial
  repeat'(first|exact a6|apply eS rfl|apply AB|refine rX a ?_ ?_|refine rC ?_ ?_<;>intro c<;>try(cases c;done))
  have m:=iY d Z.2.1;have A:=bN (JJ h Z.1 ⟨#[99,111,110,115]⟩) Z.2.1 (BO h Z.2.2) (Z.1.length:Int);have j:=A5t d Z.2.1 (BO h Z.2.2) (Z.1.length:Int);have o:=iY j (Z.1.length:Int);refine cP 4 a ?_ ?_
  .trivial
  refine rM a (Et h (JJ h Z.1 ⟨#[99,111,110,115]⟩) O1 g O1 (gO m O1) Z.2.2 (Z.1.length:Int)) [(1,.nm 1),(2,.nm 2)] [2] ?_ ?_ ?_
  .first|exact eN|refine eM ?_
  .first|exact eN|refine eM ?_
  rintro _ _ ⟨rfl,rfl⟩;refine⟨[(1,.nm 1),(2,.nm 2)],.raw (.tuple #[]),IP h (D8 (JJ h Z.1 ⟨#[99,111,110,115]⟩) Z.2.1 (BO h Z.2.2) (Z.1.length:Int)),rfl,rfl,?_,?_,rfl,rfl,?_⟩
  .first|exact eN|refine eM ?_
  .first|exact eN|refine eM ?_
  simp only[IP];refine rL a ?_ ?_
  .trivial
  repeat'(first|exact a6|apply eS rfl|apply AB|refine rX a ?_ ?_|refine rC ?_ ?_<;>intro c<;>try(cases c;done))
  refine cP 3 a ?_ ?_
  .trivial
  refine rM a (Et h (D8 (JJ h Z.1 ⟨#[99,111,110,115]⟩) Z.2.1 (BO h Z.2.2) (Z.1.length:Int)) O1 (n:=(Z.1.length:Int)) O1 O1 (gO o O1) ⟨#[70,73,82,83,84]⟩ (l.getD i 0)) [(1,.nm 1),(2,.nm 2)] [2] ?_ ?_ ?_
  .first|exact eN|refine eM ?_
  .first|exact eN|refine eM ?_
  rintro _ _ ⟨rfl,rfl⟩;refine⟨[(1,.nm 1),(2,.nm 2)],.raw (.tuple #[]),IP h (D8 (D8 (JJ h Z.1 ⟨#[99,111,110,115]⟩) Z.2.1 (BO h Z.2.2) (Z.1.length:Int)) (Z.1.length:Int) (BO h ⟨#[70,73,82,83,84]⟩) (l.getD i 0)),rfl,rfl,?_,?_,rfl,rfl,?_⟩
  .first|exact eN|refine eM ?_
  .first|exact eN|refine eM ?_
  simp only[IP];refine rL a ?_ ?_
  .trivial
  repeat'(first|exact a6|apply eS rfl|apply AB|refine rX a ?_ ?_|refine rC ?_ ?_<;>intro c<;>try(cases c;done))
  .exact eV
  refine⟨⟨(i+1,Eg h Z (l.getD i 0)),t,by rw[<-k,r],by simp only;rw[e.1];omega,by have:=e.2.1;rw[show K+2*i+2=K+2*(i+1) by omega]at this;exact this,e.2.2.1,e.2.2.2⟩,a2,AC [(1,.nm 1),(2,.nm 2)] rfl rfl ?_ ?_⟩
  .simp only[Eg];first|exact eN|refine eM ?_
  simp only[Eg];first|exact eN|refine eM ?_
 have H:i=l.length:=by omega
 have z:iZ h b l=sC h (b.length:Int) Z:=by rw[B,<-k,Is O1];rfl
 have D:=O6 h Z.1 ⟨#[108,105,115,116]⟩;have d:=A5s (h:=h) f ⟨#[108,105,115,116]⟩;refine cP 1 a ?_ ?_
 .trivial
 refine rM a (Gx h Z.1 O1 ⟨#[108,105,115,116]⟩) [(1,.nm 1),(2,.nm 2)] [2] ?_ ?_ ?_
 .first|exact eN|refine eM ?_
 .first|exact eN|refine eM ?_
 rintro _ _ ⟨rfl,rfl⟩;refine⟨[(1,.nm 1),(2,.nm 2)],.p T3 (Z.1.length:Int),IP h (JJ h Z.1 ⟨#[108,105,115,116]⟩),rfl,rfl,?_,?_,rfl,rfl,?_⟩
 .first|exact eN|refine eM ?_
 .first|exact eN|refine eM ?_
 simp only[IP];refine rL a ?_ ?_
 .trivial
 repeat'(first|exact a6|apply eS rfl|apply AB|refine rX a ?_ ?_|refine rC ?_ ?_<;>intro c<;>try(cases c;done))
 have m:=iY d Z.2.1;have A:=bN (JJ h Z.1 ⟨#[108,105,115,116]⟩) Z.2.1 (BO h Z.2.2) (Z.1.length:Int);have j:=A5t d Z.2.1 (BO h Z.2.2) (Z.1.length:Int);have o:=iY j (b.length:Int);refine cP 4 a ?_ ?_
 .trivial
 refine rM a (Et h (JJ h Z.1 ⟨#[108,105,115,116]⟩) O1 g O1 (gO m O1) Z.2.2 (Z.1.length:Int)) [(1,.nm 1),(2,.nm 2)] [2] ?_ ?_ ?_
 .first|exact eN|refine eM ?_
 .first|exact eN|refine eM ?_
 rintro _ _ ⟨rfl,rfl⟩;refine⟨[(1,.nm 1),(2,.nm 2)],.raw (.tuple #[]),IP h (D8 (JJ h Z.1 ⟨#[108,105,115,116]⟩) Z.2.1 (BO h Z.2.2) (Z.1.length:Int)),rfl,rfl,?_,?_,rfl,rfl,?_⟩
 .first|exact eN|refine eM ?_
 .first|exact eN|refine eM ?_
 simp only[IP];refine rL a ?_ ?_
 .trivial
 repeat'(first|exact a6|apply eS rfl|apply AB|refine rX a ?_ ?_|refine rC ?_ ?_<;>intro c<;>try(cases c;done))
 refine cP 3 a ?_ ?_
 .trivial
 refine rM a (Et h (D8 (JJ h Z.1 ⟨#[108,105,115,116]⟩) Z.2.1 (BO h Z.2.2) (Z.1.length:Int)) O1 (n:=(b.length:Int)) O1 O1 (gO o O1) ⟨#[76,65,83,84]⟩ (Z.1.length:Int)) [(1,.nm 1),(2,.nm 2)] [2] ?_ ?_ ?_
 .first|exact eN|refine eM ?_
 .first|exact eN|refine eM ?_
 rintro _ _ ⟨rfl,rfl⟩;refine⟨[(1,.nm 1),(2,.nm 2)],.raw (.tuple #[]),IP h (D8 (D8 (JJ h Z.1 ⟨#[108,105,115,116]⟩) Z.2.1 (BO h Z.2.2) (Z.1.length:Int)) (b.length:Int) (BO h ⟨#[76,65,83,84]⟩) (Z.1.length:Int)),rfl,rfl,?_,?_,rfl,rfl,?_⟩
 .first|exact eN|refine eM ?_
 .first|exact eN|refine eM ?_
 simp only[IP];refine rL a ?_ ?_
 .trivial
 repeat'(first|exact a6|apply eS rfl|apply AB|refine rX a ?_ ?_|refine rC ?_ ?_<;>intro c<;>try(cases c;done))
 rw[z];exact fM a [.tmp 4] (.p T3 (b.length:Int)) eT ⟨rfl,rfl⟩
end
section
attribute [local go_sem] QR Jr Nm LP LK Nj KW JH OX
def Wu (h:AG):List Px->Bool
 | []=>false
 | a :: l=>if BO h a.1<0 then true else Wu h l
def IY (h:AG):List GX->Int
 | []=>0
 | e :: l=>if Ar h e.1<0 then 5 else if Ah h (Ar h ⟨#[114,101,108]⟩) (Ar h e.1)=false then 13 else if Wu h e.2.2=true then 5 else IY h l
theorem wK (h:AG) (l:List Px) {k:Nat} (q:k<l.length):Wu h (l.drop k)=if BO h (l.getD k (ByteArray.empty,0)).1<0 then true else Wu h (l.drop (k+1)):=by
 rw[OR q,AS,As q];rfl
theorem wL (h:AG) (l:List GX) {k:Nat} (q:k<l.length):IY h (l.drop k)=if Ar h (l.getD k (ByteArray.empty,0,[])).1<0 then 5 else if Ah h (Ar h ⟨#[114,101,108]⟩) (Ar h (l.getD k (ByteArray.empty,0,[])).1)=false then 13 else if Wu h (l.getD k (ByteArray.empty,0,[])).2.2=true then 5 else IY h (l.drop (k+1)):=by
 rw[OR q,AS,As q];rfl
def bO:AZ:={ ins:=[FL,dZ],pre:=λ(h,m,_)=>UA h/\ME m,out:=λ(h,m,_)=>[.p C0 (IY h (m:CQ).2.2.2.1)],lend:=true }
theorem wM:Ac Tryz.prog 45 bO:=by
 refine fK [0,1,2,3,4,6,7,9,11,12,13,14,22,28,30,31,32,33,40] Tryz.func45 Tryz.ntmps45 (AE QT (AE WE (AE QA AH))) ?_;rintro w0 O0 ⟨h,m,u⟩ g-⟨hs,s⟩;have hs:UA h:=hs;have s:ME m:=s;have n:(h.1,h.2)=h:=rfl;obtain⟨v,w,t,x⟩:=s;obtain⟨a,b,B,es,qs⟩:=m;simp only at v w t x;simp only[bO,AL];repeat'(first|exact a6|apply eS rfl|apply AB|refine rX g ?_ ?_|refine rC ?_ ?_<;>intro c<;>try(cases c;done))
 refine AI (ι:={i:Nat//i<=es.length/\IY h (es.drop i)=IY h es}) (λi=>⟨[(2,.bp 2 [] 0),(11,.p Jy es),(12,.p (.int .i64) (es.length:Int)),(13,.p (.int .i64) (i.1:Int))],[(2,.box 26 true [.p Qu h.1,.p SZ h.2])]⟩) (λi=>es.length-i.1) ⟨0,Do _,rfl⟩ (AC [(2,.nm 2)] rfl rfl ?_ ?_) (λi=>?_)
 .first|exact eN|refine eM ?_
 .first|exact eN|refine eM ?_
 obtain⟨i,hi,j⟩:=i;have f:=λq:i<es.length=>wL h es q;simp only;repeat'(first|exact a6|apply eS rfl|apply AB|refine rX g ?_ ?_|refine rC ?_ ?_<;>intro c<;>try(cases c;done))
 all_goals have n:(h.1,h.2)=h:=rfl
 all_goals try simp only[n]at *
 .exact c
 .have e:IY h es=5:=by rw[<-j,f O1,At c]
  exact fI g [.tmp 4] (by rw[e];exact eR)
 .exact⟨⟨hs.2.1,Ga h _⟩,c,Ga h _⟩
 .rename_i y z;have e:IY h es=13:=by rw[<-j,f O1,An O1,At c]
  exact fI g [.tmp 4] (by rw[e];exact eR)
 .rename_i y z;have f:=f O1;rw[An O1,An (by rw[c];simp)]at f;have A:(es.getD i (ByteArray.empty,0,[])).2.2.length<=100000:=t _ (AF es (ByteArray.empty,0,[]) O1);generalize (es.getD i (ByteArray.empty,0,[])).2.2=d at *;refine AI (ι:={k:Nat//k<=d.length/\Wu h (d.drop k)=Wu h d}) (λk=>⟨[(2,.bp 2 [] 0),(11,.p Jy es),(12,.p (.int .i64) (es.length:Int)),(13,.p (.int .i64) (i:Int)),(30,.p T52 d),(31,.p (.int .i64) (d.length:Int)),(32,.p (.int .i64) (k.1:Int))],[(2,.box 26 true [.p Qu h.1,.p SZ h.2])]⟩) (λk=>d.length-k.1) ⟨0,Do _,rfl⟩ (AC [(2,.nm 2)] rfl rfl ?_ ?_) (λk=>?_)
  .first|exact eN|refine eM ?_
  .first|exact eN|refine eM ?_
  obtain⟨k,hk,r⟩:=k;have l:=λq:k<d.length=>wK h d q;simp only;repeat'(first|exact a6|apply eS rfl|apply AB|refine rX g ?_ ?_|refine rC ?_ ?_<;>intro c<;>try(cases c;done))
  all_goals have n:(h.1,h.2)=h:=rfl
  all_goals try simp only[n]at *
  .exact c
  .have o:Wu h d=true:=by rw[<-r,l O1,At c]
   have e:IY h es=5:=by rw[<-j,f,At o]
   exact fI g [.tmp 4] (by rw[e];exact eR)
  .exact eV
  .have l:=l O1;rw[An O1]at l;refine⟨⟨k+1,O1,by rw[<-r,l]⟩,a2,AC [(2,.nm 2)] rfl rfl ?_ ?_⟩
   .first|exact eN|refine eM ?_
   first|exact eN|refine eM ?_
  .exact eV
  have o:Wu h d=false:=by rw[<-r,Is O1];rfl
  rw[An (by rw[o];simp)]at f;refine⟨⟨i+1,O1,by rw[<-j,f]⟩,a2,AC [(2,.nm 2)] rfl rfl ?_ ?_⟩
  .first|exact eN|refine eM ?_
  first|exact eN|refine eM ?_
 have e:IY h es=0:=by rw[<-j,Is (AA7.1 c)];rfl
 exact fI g [.tmp 4] (by rw[e];exact eR)
end
section
attribute [local go_sem] QQ Jr iE LP LK Nj KW JH OX
def A8i:AZ:={ ins:=[FL,T9,T3],pre:=λ_=>True,out:=λ(h,s,m,_)=>[.p DH (BO h s,m)] }
def Y6 (h:AG) (v:ByteArray):Int:=if AK v ⟨#[104]⟩=true then Ar h ⟨#[104,97,110,100,108,101]⟩ else if AK v ⟨#[101]⟩=true then Ar h ⟨#[101,118,101,110,116]⟩ else if AK v ⟨#[120]⟩=true then Ar h ⟨#[101,110,116,105,116,121]⟩ else Ar h ⟨#[105,110,100,101,120]⟩
def A8j:AZ:={ ins:=[E7,W3],pre:=λ(f,_,_)=>List.length f<=100000,out:=λ(f,x,_)=>[.p E7 ((f:List AD)++[(x:AD)])] }
end
section
attribute [local go_sem] LK JH
def eqV (a b:List ByteArray) (i:Nat):Option Bool:=if AK (a.getD i ByteArray.empty) (b.getD i ByteArray.empty)=true then none else some false
def eqA (a b:List Px) (i:Nat):Option Bool:=if (AK (a.getD i (ByteArray.empty,0)).1 (b.getD i (ByteArray.empty,0)).1&&(a.getD i (ByteArray.empty,0)).2==(b.getD i (ByteArray.empty,0)).2)=true then none else some false
def i6 (x y:GX):Bool:=AK x.1 y.1&&x.2.1==y.2.1&&decide ((x.2.2.length:Int)=(y.2.2.length:Int))&&Ax (eqA x.2.2 y.2.2) true x.2.2.length 0
def eqR (a b:List GX) (i:Nat):Option Bool:=if i6 (a.getD i (ByteArray.empty,0,[])) (b.getD i (ByteArray.empty,0,[]))=true then none else some false
def eqQ (a b:List NR) (i:Nat):Option Bool:=if ((a.getD i (0,0)).1==(b.getD i (0,0)).1&&(a.getD i (0,0)).2==(b.getD i (0,0)).2)=true then none else some false
def nW (a b:CQ):Bool:=a.1==b.1&&a.2.1==b.2.1&&decide ((a.2.2.1.length:Int)=(b.2.2.1.length:Int))&&decide ((a.2.2.2.1.length:Int)=(b.2.2.2.1.length:Int))&&decide ((a.2.2.2.2.length:Int)=(b.2.2.2.2.length:Int))
def Sy (a b:CQ):Bool:=nW a b&&Ax (eqV a.2.2.1 b.2.2.1) true a.2.2.1.length 0&&Ax (eqR a.2.2.2.1 b.2.2.2.1) true a.2.2.2.1.length 0&&Ax (eqQ a.2.2.2.2 b.2.2.2.2) true a.2.2.2.2.length 0
def sD:AZ:={ ins:=[dZ,dZ],pre:=λ_=>True,out:=λ(a,b,_)=>[.p .bool (Sy a b)] }
theorem sE:Ac Tryz.prog 17 sD:=by
 refine fK [0,1,2,3,4,5,6,7,8,9,10,49,54,67,72,105,110,123,128,141] Tryz.func17 Tryz.ntmps17 AH ?_;rintro w0 O0 ⟨⟨tp,ix,f,a,cs⟩,⟨r,o,n,c,m⟩,u⟩ d ⟨⟨-,-,⟨N,-⟩,⟨L,M⟩,⟨K,-⟩⟩,-⟩ -;simp only[AP]at N L K;simp only[sD,AL];repeat'(first|exact a6|apply eS rfl|apply AB|refine rX d ?_ ?_|refine rC ?_ ?_<;>intro b<;>try(cases b;done))
 .have e:Sy (tp,ix,f,a,cs) (r,o,n,c,m)=false:=by
   have q:nW (tp,ix,f,a,cs) (r,o,n,c,m)=false:=by
    cases v:nW (tp,ix,f,a,cs) (r,o,n,c,m) with
    | false=>rfl
    | true =>
     simp only[nW,AT,AA9,IN]at v;obtain⟨⟨⟨⟨s,t⟩,w⟩,y⟩,z⟩:=v;rcases b with (((h|h)|h)|h)|h
     .exact absurd s h
     .exact absurd t h
     .exact absurd w h
     .exact absurd y h
     exact absurd z h
   unfold Sy;rw[q];rfl
  exact fI d [.tmp 4] (by rw[e];exact eR)
 simp only[ABX]at b;obtain⟨⟨⟨⟨s,t⟩,w⟩,y⟩,z⟩:=b;have e:Sy (tp,ix,f,a,cs) (r,o,n,c,m)=(Ax (eqV f n) true f.length 0&&Ax (eqR a c) true a.length 0&&Ax (eqQ cs m) true cs.length 0):=by
  have q:nW (tp,ix,f,a,cs) (r,o,n,c,m)=true:=by
   simp only[nW,AT,AA9,IN];exact⟨⟨⟨⟨s,t⟩,w⟩,y⟩,z⟩
  unfold Sy;rw[q];rfl
 rw[e];clear e s t;generalize D:Ax (eqV f n) true f.length 0=V;generalize C:Ax (eqR a c) true a.length 0=R;generalize H:Ax (eqQ cs m) true cs.length 0=Q;refine AI (ι:={i:Nat//i<=f.length/\Ax (eqV f n) true (f.length-i) i=V}) (λi=>⟨[(2,.bp 2 [] 0),(3,.bp 3 [] 0),(5,.p (.int .i64) (i.1:Int))],[(3,.box 41 true [.p T3 r,.p T3 o,.p CV n,.p Jy c,.p LO m]),(2,.box 41 true [.p T3 tp,.p T3 ix,.p CV f,.p Jy a,.p LO cs])]⟩) (λi=>f.length-i.1) ⟨0,Do _,D⟩ (AC [(2,.nm 2),(3,.nm 3)] rfl rfl ?_ ?_) (λi=>?_)
 .first|exact eN|refine eM ?_
 .first|exact eN|refine eM ?_
 obtain⟨i,hi,g⟩:=i;simp only;repeat'(first|exact a6|apply eS rfl|apply AB|refine rX d ?_ ?_|refine rC ?_ ?_<;>intro b<;>try(cases b;done))
 .exact⟨b,eV⟩
 .rw[CR g eV (An (by rw[b];simp))];exact fI d [.tmp 4]
 .omega
 .refine⟨⟨i+1,eV,Cz g eV (At b)⟩,a2,AC [(2,.nm 2),(3,.nm 3)] rfl rfl ?_ ?_⟩
  .first|exact eN|refine eM ?_
  first|exact eN|refine eM ?_
 rw[Dh g eV];clear g D;refine AI (ι:={j:Nat//j<=a.length/\Ax (eqR a c) true (a.length-j) j=R}) (λj=>⟨[(2,.bp 2 [] 0),(3,.bp 3 [] 0),(6,.p (.int .i64) (j.1:Int))],[(3,.box 41 true [.p T3 r,.p T3 o,.p CV n,.p Jy c,.p LO m]),(2,.box 41 true [.p T3 tp,.p T3 ix,.p CV f,.p Jy a,.p LO cs])]⟩) (λj=>a.length-j.1) ⟨0,Do _,C⟩ (AC [(2,.nm 2),(3,.nm 3)] rfl rfl ?_ ?_) (λj=>?_)
 .first|exact eN|refine eM ?_
 .first|exact eN|refine eM ?_
 obtain⟨j,S,g⟩:=j;simp only;repeat'(first|exact a6|apply eS rfl|apply AB|refine rX d ?_ ?_|refine rC ?_ ?_<;>intro b<;>try(cases b;done))
 .exact b
 .exact eV
 .have q:i6 (a.getD j (ByteArray.empty,0,[])) (c.getD j (ByteArray.empty,0,[]))=false:=by
   cases v:i6 (a.getD j (ByteArray.empty,0,[])) (c.getD j (ByteArray.empty,0,[])) with
   | false=>rfl
   | true =>
    simp only[i6,AT,AA9,IN]at v;obtain⟨⟨⟨s,t⟩,w⟩,-⟩:=v;rcases b with (h|h)|h
    .rw[s]at h;cases h
    .exact absurd t h
    exact absurd w h
  rw[CR g eV (An (by rw[q];simp))];exact fI d [.tmp 4]
 .have J:j<a.length:=by exact eV
  have I:(a.getD j (ByteArray.empty,0,[])).2.2.length<=AP:=(M _ (AF a (ByteArray.empty,0,[]) J)).2.2.1;simp only[AP]at I;obtain⟨⟨O,P⟩,B⟩:=b;have q:i6 (a.getD j (ByteArray.empty,0,[])) (c.getD j (ByteArray.empty,0,[]))=Ax (eqA (a.getD j (ByteArray.empty,0,[])).2.2 (c.getD j (ByteArray.empty,0,[])).2.2) true (a.getD j (ByteArray.empty,0,[])).2.2.length 0:=by
   unfold i6;rw[O,AA9.2 (ABX.1 P),AB7 (ABX.1 B)];rfl
  have B:=ABX.1 B;generalize E:Ax (eqA (a.getD j (ByteArray.empty,0,[])).2.2 (c.getD j (ByteArray.empty,0,[])).2.2) true (a.getD j (ByteArray.empty,0,[])).2.2.length 0=A at q;refine AI (ι:={k:Nat//k<=(a.getD j (ByteArray.empty,0,[])).2.2.length/\Ax (eqA (a.getD j (ByteArray.empty,0,[])).2.2 (c.getD j (ByteArray.empty,0,[])).2.2) true ((a.getD j (ByteArray.empty,0,[])).2.2.length-k) k=A}) (λk=>⟨[(2,.bp 2 [] 0),(3,.bp 3 [] 0),(6,.p (.int .i64) (j:Int)),(7,.bp 7 [] 0),(8,.bp 8 [] 0),(9,.p (.int .i64) (k.1:Int))],[(8,.box 54 true [.p T9 (c.getD j (ByteArray.empty,0,[])).1,.p T3 (c.getD j (ByteArray.empty,0,[])).2.1,.p T52 (c.getD j (ByteArray.empty,0,[])).2.2]),(7,.box 54 true [.p T9 (a.getD j (ByteArray.empty,0,[])).1,.p T3 (a.getD j (ByteArray.empty,0,[])).2.1,.p T52 (a.getD j (ByteArray.empty,0,[])).2.2]),(3,.box 41 true [.p T3 r,.p T3 o,.p CV n,.p Jy c,.p LO m]),(2,.box 41 true [.p T3 tp,.p T3 ix,.p CV f,.p Jy a,.p LO cs])]⟩) (λk=>(a.getD j (ByteArray.empty,0,[])).2.2.length-k.1) ⟨0,Do _,E⟩ (AC [(2,.nm 2),(3,.nm 3),(7,.nm 7),(8,.nm 8)] rfl rfl ?_ ?_) (λk=>?_)
  .first|exact eN|refine eM ?_
  .first|exact eN|refine eM ?_
  obtain⟨k,hk,x⟩:=k;simp only;repeat'(first|exact a6|apply eS rfl|apply AB|refine rX d ?_ ?_|refine rC ?_ ?_<;>intro b<;>try(cases b;done))
  .refine cD 10 d ?_ ?_
   .exact⟨b,eV⟩
   refine A9j (j:=.i64) d a5 ?_;refine rL d ?_ ?_
   .trivial
   repeat'(first|exact a6|apply eS rfl|apply AB|refine rX d ?_ ?_|refine rC ?_ ?_<;>intro b<;>try(cases b;done))
   .have F:=CR x eV (An (by simp only[AT,AA9];exact λh=>b h.1 h.2));rw[CR g eV (An (by rw[q,F];simp))];exact fI d [.tmp 4]
   .exact eV
   refine⟨⟨k+1,eV,Cz x eV (At (by simp only[AT,AA9];exact b))⟩,a2,AC [(2,.nm 2),(3,.nm 3),(7,.nm 7),(8,.nm 8)] rfl rfl ?_ ?_⟩
   .first|exact eN|refine eM ?_
   first|exact eN|refine eM ?_
  .omega
  have G:=Dh x eV;refine⟨⟨j+1,eV,Cz g eV (At (q.trans G))⟩,a2,AC [(2,.nm 2),(3,.nm 3)] rfl rfl ?_ ?_⟩
  .first|exact eN|refine eM ?_
  first|exact eN|refine eM ?_
 rw[Dh g eV];clear g C;refine AI (ι:={l:Nat//l<=cs.length/\Ax (eqQ cs m) true (cs.length-l) l=Q}) (λl=>⟨[(2,.bp 2 [] 0),(3,.bp 3 [] 0),(10,.p (.int .i64) (l.1:Int))],[(3,.box 41 true [.p T3 r,.p T3 o,.p CV n,.p Jy c,.p LO m]),(2,.box 41 true [.p T3 tp,.p T3 ix,.p CV f,.p Jy a,.p LO cs])]⟩) (λl=>cs.length-l.1) ⟨0,Do _,H⟩ (AC [(2,.nm 2),(3,.nm 3)] rfl rfl ?_ ?_) (λl=>?_)
 .first|exact eN|refine eM ?_
 .first|exact eN|refine eM ?_
 obtain⟨l,T,g⟩:=l;simp only;repeat'(first|exact a6|apply eS rfl|apply AB|refine rX d ?_ ?_|refine rC ?_ ?_<;>intro b<;>try(cases b;done))
 .refine cD 10 d ?_ ?_
  .exact⟨b,eV⟩
  refine A9k d ?_;refine rL d ?_ ?_
  .trivial
  repeat'(first|exact a6|apply eS rfl|apply AB|refine rX d ?_ ?_|refine rC ?_ ?_<;>intro b<;>try(cases b;done))
  .rw[CR g eV (An (by simp only[AT,AA9];exact λh=>b h.1 h.2))];exact fI d [.tmp 4]
  .omega
  refine⟨⟨l+1,eV,Cz g eV (At (by simp only[AT,AA9];exact b))⟩,a2,AC [(2,.nm 2),(3,.nm 3)] rfl rfl ?_ ?_⟩
  .first|exact eN|refine eM ?_
  first|exact eN|refine eM ?_
 rw[Dh g eV];exact fI d [.tmp 4]
end
section
attribute [local go_sem] RT F0 pY LP LK Nj KW JH OX
theorem A2t:BE Tryz.prog 29 [] [] [] (λres c=>res=.sr 20 zA 0 Bt.length/\c=[(20,.arr 65 zA Bt)]):=by
 refine Jx [0] [3,6,12,14,16,18] [] Tryz.func29 Tryz.ntmps29 (AE pZ AH) ?_;intro w0 K O0 ρ0 a d e;simp only[Ap];repeat'(first|exact a6|apply eS rfl|apply AB|refine rX a ?_ ?_|refine rC ?_ ?_<;>intro b<;>try(cases b;done))
 exact fM a [.tmp 0] (.sr 20 zA 0 13) eT ⟨rfl,rfl⟩
def dcB (d:List AJ) (i:Nat):Bool:=decide (8<((d.getD i (ByteArray.empty,[],[])).2.1.length:Int))||decide (8<((d.getD i (ByteArray.empty,[],[])).2.2.length:Int))
def bP (d:List AJ):Bool:=decide (d.length<=8)&&(List.range d.length).all λi=>!dcB d i
def Wv (d:List AJ):AG×Bool:=if bP d=true then ((Ad (Bt++d)).1,(Ad (Bt++d)).2==0) else (([],[]),false)
def nX:AZ:={ ins:=[Ey],pre:=λ_=>True,out:=λ(d,_)=>[.p FL (Wv d).1,.p .bool (Wv d).2] }
theorem AAE {c:Cx} {k:List Cp} {ops:Array Oper} {rest:List Oper} {σ a:St} (l:List Nat) (hk:ED c R k ops rest a) (h:C3 l σ=a:=by exact a1):ED c R k ops rest σ:=A3J hk (Zc l h λ_ _ h=>h)
theorem A2u:Ac Tryz.prog 9 nX:=by
 refine fK [0,2,3,4,5,6,9,12,13,14,31] Tryz.func9 Tryz.ntmps9 (AE Vh AH) ?_;rintro w0 O0 ⟨d,u⟩ a - -;simp only[nX,AL];repeat'(first|exact a6|apply eS rfl|apply AB|refine rX a ?_ ?_|refine rC ?_ ?_<;>intro b<;>try(cases b;done))
 .have e:Wv d=(([],[]),false):=An (by unfold bP;rw[ABC O1];simp);exact fI a [.cell 2 26,.tmp 3] (by rw[e];first|exact eR|refine KP ?_;rfl)
 refine AI (ι:={i:Nat//i<=d.length/\∀j,j<i->dcB d j=false}) (λi=>⟨[(0,.p Ey d),(2,.bp 2 [] 0),(12,.p (.int .i64) (d.length:Int)),(13,.p (.int .i64) (i.1:Int))],[(2,.box 26 true [.raw (.slice none 0 0),.raw (.slice none 0 0)])]⟩) (λi=>d.length-i.1) ⟨0,Do _,λ_ h=>by omega⟩ (AC [(2,.nm 2)] rfl rfl ?_ ?_) (λi=>?_)
 .first|exact eN|refine eM ?_
 .first|exact eN|refine eM ?_
 obtain⟨i,hi,c⟩:=i;simp only;repeat'(first|exact a6|apply eS rfl|apply AB|refine rX a ?_ ?_|refine rC ?_ ?_<;>intro b<;>try(cases b;done))
 .exact⟨b,λ_=>b⟩
 .have f:dcB d i=true:=by unfold dcB;rw[tO,IN,IN];exact b
  have e:Wv d=(([],[]),false):=by
   refine An λq=>?_;unfold bP at q;have:=No.1 (ABQ.1 q).2 i (oS.2 O1);rw[f]at this;cases this
  exact fI a [.cell 2 26,.tmp 3] (by rw[e];first|exact eR|refine KP ?_;rfl)
 .exact eV
 .have f:dcB d i=false:=by unfold dcB;rw[AAb,aS,aS];exact⟨AAy.2 b.1,AAy.2 b.2⟩
  refine⟨⟨i+1,O1,λj g=>?_⟩,a2,AC [(2,.nm 2)] rfl rfl ?_ ?_⟩
  .by_cases e:j=i
   .rw[e];exact f
   exact c j O1
  .first|exact eN|refine eM ?_
  first|exact eN|refine eM ?_
 have e:Wv d=((Ad (Bt++d)).1,(Ad (Bt++d)).2==0):=by
  refine At ?_;unfold bP;rw[AT];refine⟨AB7 O1,No.2 λj g=>?_⟩;rw[oS]at g;rw[c j O1];rfl
 rw[e];have k:=A2t;have l:Bt.length=13:=rfl;clear e c;generalize Bt=p at *;repeat'(first|exact a6|apply eS rfl|apply AB|refine rP a ?_ ?_|fail)
 refine cP 0 a ?_ ?_
 .trivial
 refine rM a (k) [] [] ?_ ?_ ?_
 .first|exact eN|refine eM ?_
 .first|exact eN|refine eM ?_
 rintro _ _ ⟨rfl,rfl⟩;refine⟨[(20,.nm 20)],.sr 20 zA 0 p.length,[(20,.arr 65 zA p)],rfl,rfl,?_,?_,rfl,rfl,?_⟩
 .first|exact eN|refine eM ?_
 .first|exact eN|refine eM ?_
 refine rN 2 a ?_ ?_
 .have m:d.length<=8:=by exact eV
  rw[l];simp only[AP];dsimp only[Ty.den]at *;omega
 refine AAE [20] ?_;refine rL a ?_ ?_
 .trivial
 repeat'(first|exact a6|apply eS rfl|apply AB|refine rX a ?_ ?_|refine rC ?_ ?_<;>intro b<;>try(cases b;done))
 exact fI a [.cell 2 26,.tmp 3]
end
theorem sF (s:ByteArray):∀(l:List FB) (r:List AR) (k:Nat),(l.map λx=>x.1)=(r.map λx=>x.1)->Yd s k l=KV s k r
 | [],[],_,_=>rfl
 | x :: l,y :: r,k,h=>by
  simp only[sQ,ABv]at h;unfold Yd KV;rw[h.1,sF s l r (k+1) h.2]
 | [],y :: r,_,h=>by simp at h
 | x :: l,[],_,h=>by simp at h
theorem A5u (d:List AJ) (s:ByteArray):Ar (Bo d) s=BN (AM d) s:=by
 refine sF s _ _ 0 (AAL (by simp[WT d]) λi h1 a=>?_);have hi:i<(AM d).length:=by simpa using a
 have b:i<(Bo d).1.length:=by simpa using h1
 have:=ABj (λx:FB=>x.1) (m4 d hi);simpa[AS,hi,b] using this
theorem A2v (s:ByteArray):∀(l:List P8) (k:Nat),(∃x∈l,AK x.1 s=true)->0<=jF s k l
 | [],_,h=>by obtain⟨x,a,-⟩:=h;cases a
 | y :: l,k,h=>by
  unfold jF;split
  .omega
  rename_i q;obtain⟨x,a,e⟩:=h;rcases By.1 a with rfl|a
  .exact absurd e q
  exact A2v s l (k+1) ⟨x,a,e⟩
theorem O7 {s:ByteArray}:∀(l:List (ByteArray×ByteArray)) (o:List ByteArray),Aa o s=true->Aa (l.foldl Jc o) s=true
 | [],_,h=>h
 | x :: l,o,h=>O7 l _ (Hf (λ_=>Jg) h)
theorem Y7 {y:ByteArray×ByteArray}:∀(l:List (ByteArray×ByteArray)) (o:List ByteArray),y∈l->Aa (l.foldl Jc o) y.1=true
 | x :: l,o,h=>by
  rcases By.1 h with rfl|h
  .exact O7 l _ MH
  exact Y7 l _ h
theorem Sz {s:ByteArray}:∀(l:List AJ) (o:List ByteArray),Aa o s=true->Aa (l.foldl JE o) s=true
 | [],_,h=>h
 | x :: l,o,h=>Sz l _ (O7 x.2.2 o h)
theorem Ww {x:AJ} {y:ByteArray×ByteArray} (a:y∈x.2.2):∀(l:List AJ) (o:List ByteArray),x∈l->Aa (l.foldl JE o) y.1=true
 | z :: l,o,h=>by
  rcases By.1 h with rfl|h
  .exact Sz l _ (Y7 _ o a)
  exact Ww a l _ h
def A6p:List ByteArray:=Bt.map λx=>x.1
def A6q:List ByteArray:=Bt.flatMap λx=>x.2.2.map λy=>y.1
structure Fi (h:AG):Prop where
 h14:H14 h
 srt:nU h
 nm:A2n h
 ty:∀s,(A6p.any λx=>AK x s)=true->0<=Ar h s
 ft:∀s,(A6q.any λx=>AK x s)=true->0<=BO h s
theorem wN (a:(A8 d).2=0):Am d=0:=by
 unfold A8 at a;split at a
 .rename_i h;exact absurd a h
 rename_i h;exact DO h
theorem wO (h:(Ad d).2=0):Am d=0:=by
 unfold Ad at h;split at h
 .rename_i q;exact absurd h q
 rename_i q;exact wN (DO q)
theorem A2w (d:List AJ) (h:(Ad (Bt++d)).2=0):Fi (Ad (Bt++d)).1:=by
 have b:=wO h;obtain⟨g,-,k,-,-⟩:=WU b;refine⟨Wb _,iX _,nV _,λs hs=>?_,λs hs=>?_⟩
 .obtain⟨x,a,e⟩:=aT.1 hs;obtain⟨y,c,rfl⟩:=GO.1 a;rw[Ko b,A5u,<-IM e];exact MJ g (wT _ c)
 obtain⟨x,a,e⟩:=aT.1 hs;obtain⟨z,j,a⟩:=AB9.1 a;obtain⟨y,c,rfl⟩:=GO.1 a;rw[Ko b,<-IM e];have:=Ww c (Bt++d) [] (wT _ j);obtain⟨w,i,f⟩:=aT.1 this;refine A2v _ _ 0 ⟨MK (Bt++d) w,?_,f⟩;rw[Md b];exact List.mem_map_of_mem i
theorem A5v (h:(Wv d).2=true):Fi (Wv d).1:=by
 unfold Wv at h ⊢;split at h
 .rename_i q;rw[At q];exact A2w d (AA9.1 h)
 cases h
theorem Fi.so (p:Fi h):UA h:=⟨⟨p.ty _ a3,p.ty _ a3,p.ty _ a3,p.ty _ a3⟩,p.ty _ a3,p.ty _ a3⟩
def w3 (h:AG):Nat->List Int->List AD
 | _,[]=>[(Ar h ⟨#[108,105,115,116]⟩,[])]
 | b,x :: l=>(Ar h ⟨#[99,111,110,115]⟩,[(BO h ⟨#[70,73,82,83,84]⟩,x),(BO h ⟨#[82,69,83,84]⟩,((b+1:Nat):Int))]) :: w3 h (b+1) l
def Wx (h:AG) (n:Nat) (l:List Int):List AD:=(Ar h ⟨#[100,108,105,115,116]⟩,[(BO h ⟨#[76,73,83,84]⟩,((n+1:Nat):Int)),(BO h ⟨#[76,65,83,84]⟩,((n+1+l.length:Nat):Int))]) :: w3 h (n+1) l
theorem HW (A B:List AD) (t:Int) (L:List (Int×Int)) (n e m:Int) (hn:n=(A.length:Int)):D8 (A++(t,L) :: B) n e m=A++(t,L++[(e,m)]) :: B:=by
 subst hn;unfold D8;rw[jC,AS,AAa (On _),ABt,List.set_append,An (Nat.lt_irrefl _),ABt];rfl
theorem Y8 (h:AG):∀(l:List Int) (A:List AD) (t:Int) (L:List (Int×Int)) (s:ByteArray),
  D8 (JJ h (l.foldl (Eg h) (A++[(t,L)],(A.length:Int),s)).1 ⟨#[108,105,115,116]⟩) (l.foldl (Eg h) (A++[(t,L)],(A.length:Int),s)).2.1 (BO h (l.foldl (Eg h) (A++[(t,L)],(A.length:Int),s)).2.2) ((l.foldl (Eg h) (A++[(t,L)],(A.length:Int),s)).1.length:Int)=A++(t,L++[(BO h s,((A.length+1:Nat):Int))]) :: w3 h (A.length+1) l /\
  (l.foldl (Eg h) (A++[(t,L)],(A.length:Int),s)).1.length=A.length+1+l.length
 | [],A,t,L,s=>by
  refine⟨?_,sc⟩;simp only[ACU];unfold JJ;rw[AA8];rw[show [(t,L)]++[(Ar h ⟨#[108,105,115,116]⟩,([]:List (Int×Int)))]=(t,L) :: [(Ar h ⟨#[108,105,115,116]⟩,[])] from rfl,HW A _ t L _ _ _ rfl];simp only[IS,NO,AAl];rfl
 | x :: l,A,t,L,s=>by
  have e:Eg h (A++[(t,L)],(A.length:Int),s) x=((A++[(t,L++[(BO h s,((A.length+1:Nat):Int))])])++[(Ar h ⟨#[99,111,110,115]⟩,[(BO h ⟨#[70,73,82,83,84]⟩,x)])],((A++[(t,L++[(BO h s,((A.length+1:Nat):Int))])]).length:Int),⟨#[82,69,83,84]⟩):=by
   unfold Eg JJ;simp only;rw[AA8,show [(t,L)]++[(Ar h ⟨#[99,111,110,115]⟩,([]:List (Int×Int)))]=(t,L) :: [(Ar h ⟨#[99,111,110,115]⟩,[])] from rfl,HW A _ t L _ _ _ rfl];have a:(A++[(t,L)]).length=A.length+1:=by simp
   rw[a];have b:A++(t,L++[(BO h s,((A.length+1:Nat):Int))]) :: [(Ar h ⟨#[99,111,110,115]⟩,([]:List (Int×Int)))]=(A++[(t,L++[(BO h s,((A.length+1:Nat):Int))])])++(Ar h ⟨#[99,111,110,115]⟩,[]) :: []:=by simp
   rw[b,HW _ [] _ _ _ _ _ sc];simp
  rw[OS,e];obtain⟨h1,c⟩:=Y8 h l (A++[(t,L++[(BO h s,((A.length+1:Nat):Int))])]) (Ar h ⟨#[99,111,110,115]⟩) [(BO h ⟨#[70,73,82,83,84]⟩,x)] ⟨#[82,69,83,84]⟩;refine⟨?_,?_⟩
  .rw[h1,w3];simp
  rw[c];simp;omega
theorem sG (h:AG) (a:List AD) (l:List Int):iZ h a l=a++Wx h a.length l:=by
 obtain⟨h1,b⟩:=Y8 h l a (Ar h ⟨#[100,108,105,115,116]⟩) [] ⟨#[76,73,83,84]⟩;unfold iZ sC;rw[show JJ h a ⟨#[100,108,105,115,116]⟩=a++[(Ar h ⟨#[100,108,105,115,116]⟩,[])] from rfl,h1,b,HW _ _ _ _ _ _ _ rfl];rfl
theorem sH (h:AG):∀(l:List Int) (b:Nat),(w3 h b l).length=l.length+1
 | [],_=>rfl
 | x :: l,b=>by simp[w3,sH h l]
theorem bQ (h:AG) (n:Nat) (l:List Int):(Wx h n l).length=l.length+2:=by simp[Wx,sH]
def rkF (h:AG) (e:GX):AD:=(Ar h e.1,(BO h ⟨#[76,65,66,69,76]⟩,2+e.2.1) :: e.2.2.map λa=>(BO h a.1,2+a.2))
def ckF (h:AG) (q:NR):AD:=(Ar h ⟨#[113,101,113]⟩,[(BO h ⟨#[72,73,71,72]⟩,2+q.1),(BO h ⟨#[76,79,87]⟩,2+q.2)])
def vkF (h:AG) (v:ByteArray):AD:=(Y6 h v,[])
def bR (h:AG) (m:CQ):List AD:=m.2.2.1.map (vkF h)++m.2.2.2.1.map (rkF h)++m.2.2.2.2.map (ckF h)
def A2x (h:AG) (m:CQ) (r c:Int):List AD:=(Ar h ⟨#[115,105,103,110]⟩,[(BO h ⟨#[83,69,77]⟩,1)]) :: (Ar h ⟨#[115,101,109]⟩,[(BO h ⟨#[84,79,80]⟩,2+m.1),(BO h ⟨#[73,78,68,69,88]⟩,2+m.2.1),(BO h ⟨#[82,69,76,83]⟩,r),(BO h ⟨#[67,79,78,83]⟩,c)]) :: bR h m
def Gy (b k:Nat):List Int:=(List.range k).map λi=>((b+i:Nat):Int)
def pN (m:CQ):Nat:=2+m.2.2.1.length+m.2.2.2.1.length+m.2.2.2.2.length
def qN (m:CQ):Nat:=pN m+m.2.2.2.1.length+2
def wP (m:CQ):List Int:=Gy (2+m.2.2.1.length) m.2.2.2.1.length
def wQ (m:CQ):List Int:=Gy (2+m.2.2.1.length+m.2.2.2.1.length) m.2.2.2.2.length
def D9 (h:AG) (m:CQ):List AD:=A2x h m (pN m:Int) (qN m:Int)++Wx h (pN m) (wP m)++Wx h (qN m) (wQ m)
theorem HX (b k:Nat):(Gy b k).length=k:=by simp[Gy]
theorem UD (h:AG) (m:CQ):(bR h m).length=pN m-2:=by simp[bR,pN];omega
theorem A5x (h:AG) (m:CQ) (r c:Int):(A2x h m r c).length=pN m:=by
 have:=UD h m;have:2<=pN m:=by unfold pN;omega
 simp[A2x,UD];omega
theorem Wy (h:AG) (m:CQ):(D9 h m).length=qN m+m.2.2.2.2.length+2:=by
 simp only[D9,IS,A5x,bQ,wP,wQ,HX,qN];omega
def nY (m:CQ):Prop:=∀x∈BG m,0<=x/\x<(m.2.2.1.length:Int)
theorem A6s {e:GX} (b:e∈m.2.2.2.1):e.2.1∈BG m/\∀a∈e.2.2,a.2∈BG m:=by
 refine⟨?_,λa ha=>?_⟩
 .refine wT _ (AAZ _ (AB9.2 ⟨e,b,?_⟩));exact jB
 refine wT _ (AAZ _ (AB9.2 ⟨e,b,?_⟩));exact IF _ (List.mem_map_of_mem ha)
theorem A6t {q:NR} (a:q∈m.2.2.2.2):q.1∈BG m/\q.2∈BG m:=by
 refine⟨AAZ _ (AB9.2 ⟨q,a,?_⟩),AAZ _ (AB9.2 ⟨q,a,?_⟩)⟩<;>simp[E0]
theorem A6u (m:CQ):m.1∈BG m/\m.2.1∈BG m:=by
 refine⟨?_,?_⟩<;>exact wT _ (wT _ sc)
theorem A5y (d:nY m):∀x∈bR h m,∀a∈x.2,2<=a.2/\a.2<((2+m.2.2.1.length:Nat):Int):=by
 intro x c a ha;unfold bR at c;rw[If,If]at c;rcases c with (c|c)|c
 .obtain⟨v,d,rfl⟩:=GO.1 c;cases ha
 .obtain⟨e,j,rfl⟩:=GO.1 c;obtain⟨f,g⟩:=A6s j;rcases By.1 ha with rfl|ha
  .have:=d _ f;simp only;omega
  obtain⟨b,i,rfl⟩:=GO.1 ha;have:=d _ (g b i);simp only;omega
 obtain⟨q,k,rfl⟩:=GO.1 c;obtain⟨f,g⟩:=A6t k;have v1:=d _ f;have l:=d _ g;unfold ckF at ha;simp only[By,ABl,ACG]at ha;rcases ha with rfl|rfl<;>simp only<;>omega
theorem A5z {b:Nat} {x:Int} (h:x∈Gy b k):(b:Int)<=x/\x<((b+k:Nat):Int):=by
 obtain⟨i,hi,rfl⟩:=GO.1 h;have:=oS.1 hi;omega
theorem Ny {t:ByteArray} (e:AK s t=false) (h1:0<=BO h s):BO h s≠BO h t:=λq=>by grind [Qq,BO,BP,B0]
structure sI (m:CQ):Prop where
 loose:FM m=0
 chk:G3 m=0
 rels:m.2.2.2.1.length<=4
 cons:m.2.2.2.2.length<=4
 vars:m.2.2.1.length<=256
 args:∀e∈m.2.2.2.1,e.2.2.length<=10
theorem sI.prd (k:sI m):∀e∈m.2.2.2.1,Py e=0:=by
 have l:=k.loose;unfold FM at l;split at l
 .cases l
 split at l
 .cases l
 split at l
 .rename_i q;exact absurd l q
 rename_i q;intro e b;obtain⟨j,c,rfl⟩:=AAd.1 b;have h1:=FA (λi r a=>by unfold XI at a;split at a<;>cases a;assumption) _ 0 (DO q) j (Do _) O1;grind [XI]
theorem sI.rng (k:sI m):nY m:=by
 have l:=k.loose;unfold FM at l;split at l
 .cases l
 split at l
 .cases l
 split at l
 .rename_i q;exact absurd l q
 split at l
 .cases l
 rename_i q;exact pR (DO q)
theorem sI.srt (k:sI m):∀v∈m.2.2.1,VW v=true:=by
 have l:=k.loose;unfold FM at l;split at l
 .cases l
 split at l
 .cases l
 rename_i q;intro v b;obtain⟨j,c,rfl⟩:=AAd.1 b;have h1:=FA (λi r a=>by unfold eQ at a;split at a<;>cases a;decide) _ 0 (DO q) j (Do _) O1;grind [eQ]
theorem wR {e:GX} (h:Py e=0):BF e.1 false=true/\(∀a∈e.2.2,BF a.1 true=true/\AK a.1 ⟨#[76,65,66,69,76]⟩=false)/\e.2.2.Pairwise λa b=>CK a.1 b.1=true:=by
 unfold Py at h;split at h
 .rename_i q;have key:∀j,(c:j<e.2.2.length)->lE e.2.2 j=none:=λj c=>FA (λi r d=>by unfold lE at d;split at d<;>(try split at d)<;>cases d<;>decide) _ 0 h j (Do _) O1;have f:∀j,(c:j<e.2.2.length)->BF (e.2.2[j]).1 true=true/\AK (e.2.2[j]).1 ⟨#[76,65,66,69,76]⟩=false/\(0<j->CK (e.2.2[j-1]).1 (e.2.2[j]).1=true):=by grind [lE,BF,AK,iW]
  refine⟨q,λa ha=>?_,?_⟩
  .obtain⟨j,c,rfl⟩:=AAd.1 ha;grind
  rw[iN];intro i j hi c l;have step:∀k,(hk:i+k+1<e.2.2.length)->CK (e.2.2[i]).1 (e.2.2[i+k+1]).1=true:=by
   intro k;induction k with
   | zero=>exact λhk=>(f (i+1) hk).2.2 O1
   | succ k g =>
    intro hk;exact Mk (g O1) ((f (i+k+2) hk).2.2 O1)
  have:=step (j-i-1) O1;simpa[show i+(j-i-1)+1=j by omega] using this
 cases h
theorem Y9 {h:AG}:∀ {l:List GX},IY h l=0->∀e∈l,0<=Ar h e.1/\Ah h (Ar h ⟨#[114,101,108]⟩) (Ar h e.1)=true/\∀a∈e.2.2,0<=BO h a.1
 | [],_,e,c=>by cases c
 | x :: l,b,e,c=>by
  unfold IY at b;split at b
  .cases b
  rename_i h1;split at b
  .cases b
  rename_i f;split at b
  .cases b
  rename_i i;rcases By.1 c with rfl|c
  .refine⟨O1,by simpa using f,?_⟩;have key:∀l:List Px,Wu h l=false->∀a∈l,0<=BO h a.1:=by
    intro l;induction l with
    | nil=>exact λ_ a ha=>by cases ha
    | cons y l g =>
     intro d a ha;unfold Wu at d;split at d
     .cases d
     rcases By.1 ha with rfl|ha
     .omega
     exact g d a ha
   grind
  exact Y9 b e c
structure NOk (h:AG) (n:Nat) (x:AD):Prop where
 ty:0<=x.1/\x.1<(h.1.length:Int)
 nd:YU x.2
 len:x.2.length<=12
 arc:∀a∈x.2,(0<=a.1/\a.1<(h.2.length:Int))/\0<=a.2/\a.2<(n:Int)
theorem nd2 {a b:Int×Int} (e:a.1≠b.1):YU [a,b]:=by
 unfold YU;simp[e]
theorem Fi.tyr (p:Fi h) (s:ByteArray) (q:(A6p.any λx=>AK x s)=true):0<=Ar h s/\Ar h s<(h.1.length:Int):=⟨p.ty s q,(DQ h s).2⟩
theorem Fi.ftr (p:Fi h) (s:ByteArray) (q:(A6q.any λx=>AK x s)=true):0<=BO h s/\BO h s<(h.2.length:Int):=⟨p.ft s q,(GZ h s).2⟩
theorem A2y {h:AG} (p:Fi h) {n:Nat}:∀(l:List Int) (b:Nat),(∀x∈l,0<=x/\x<(n:Int))->b+l.length<n->∀x∈w3 h b l,NOk h n x
 | [],b,_,_,x,c=>by
  rw[w3,oN]at c;subst c;exact⟨p.tyr _ a3,List.Pairwise.nil,sc,λa ha=>by cases ha⟩
 | y :: l,b,d,e,x,c=>by
  rw[w3,By]at c;simp only[NO]at e;rcases c with rfl|c
  .refine⟨p.tyr _ a3,nd2 (Ny a3 (p.ft _ a3)),sc,λa ha=>?_⟩;simp only[By,ABl,ACG]at ha;rcases ha with rfl|rfl
   .exact⟨p.ftr _ a3,d y jB⟩
   exact⟨p.ftr _ a3,a2,a2⟩
  exact A2y p l (b+1) (λz f=>d z (IF _ f)) O1 x c
theorem A2z (p:Fi h) {n b:Nat} {l:List Int} (d:∀x∈l,0<=x/\x<(n:Int)) (e:b+1+l.length<n):∀x∈Wx h b l,NOk h n x:=by
 intro x c;rw[Wx,By]at c;rcases c with rfl|c
 .refine⟨p.tyr _ a3,nd2 (Ny a3 (p.ft _ a3)),sc,λa ha=>?_⟩;simp only[By,ABl,ACG]at ha;rcases ha with rfl|rfl
  .exact⟨p.ftr _ a3,a2,a2⟩
  exact⟨p.ftr _ a3,a2,a2⟩
 exact A2y p l (b+1) d O1 x c
theorem A5A (p:Fi h) (v:ByteArray):0<=Y6 h v/\Y6 h v<(h.1.length:Int):=by
 unfold Y6;split
 .exact p.tyr _ a3
 split
 .exact p.tyr _ a3
 split
 .exact p.tyr _ a3
 exact p.tyr _ a3
theorem A6v {b n:Nat} (hn:b+k<=n):∀x∈Gy b k,0<=x/\x<(n:Int):=λx a=>by
 have:=A5z a;omega
theorem i7 (p:Fi h) (k:sI m) (G:IY h m.2.2.2.1=0):∀x∈D9 h m,NOk h (D9 h m).length x:=by
 have o:=k.rng;have O:pN m=2+m.2.2.1.length+m.2.2.2.1.length+m.2.2.2.2.length:=rfl;have F:qN m=pN m+m.2.2.2.1.length+2:=rfl;have I:(wP m).length=m.2.2.2.1.length:=HX _ _;have H:(wQ m).length=m.2.2.2.2.length:=HX _ _;rw[Wy];intro x d;unfold D9 at d;rw[If,If]at d;rcases d with (d|d)|d
 .unfold A2x at d;rw[By,By]at d;rcases d with rfl|rfl|d
  .refine⟨p.tyr _ a3,List.pairwise_singleton _ _,sc,λa ha=>?_⟩;rw[oN]at ha;subst ha;exact⟨p.ftr _ a3,a2,a2⟩
  .obtain⟨L,M⟩:=A6u m;have v1:=o _ L;have Q:=o _ M;refine⟨p.tyr _ a3,?_,sc,λa ha=>?_⟩
   .have g:=p.ft ⟨#[84,79,80]⟩ a3;have u:=p.ft ⟨#[73,78,68,69,88]⟩ a3;have D:=p.ft ⟨#[82,69,76,83]⟩ a3;have w:=Ny (h:=h) (s:=⟨#[84,79,80]⟩) (t:=⟨#[73,78,68,69,88]⟩) a3 g;have y:=Ny (h:=h) (s:=⟨#[84,79,80]⟩) (t:=⟨#[82,69,76,83]⟩) a3 g;have z:=Ny (h:=h) (s:=⟨#[84,79,80]⟩) (t:=⟨#[67,79,78,83]⟩) a3 g;have A:=Ny (h:=h) (s:=⟨#[73,78,68,69,88]⟩) (t:=⟨#[82,69,76,83]⟩) a3 u;have B:=Ny (h:=h) (s:=⟨#[73,78,68,69,88]⟩) (t:=⟨#[67,79,78,83]⟩) a3 u;have C:=Ny (h:=h) (s:=⟨#[82,69,76,83]⟩) (t:=⟨#[67,79,78,83]⟩) a3 D;unfold YU;simp[w,y,z,A,B,C]
   simp only[By,ABl,ACG]at ha;rcases ha with rfl|rfl|rfl|rfl
   .exact⟨p.ftr _ a3,a2,a2⟩
   .exact⟨p.ftr _ a3,a2,a2⟩
   .exact⟨p.ftr _ a3,a2,a2⟩
   exact⟨p.ftr _ a3,a2,a2⟩
  have f:=A5y (h:=h) o x d;unfold bR at d;rw[If,If]at d;rcases d with (d|d)|d
  .obtain⟨v,-,rfl⟩:=GO.1 d;exact⟨A5A p v,List.Pairwise.nil,by simp[vkF],λa ha=>by cases ha⟩
  .obtain⟨e,n,rfl⟩:=GO.1 d;obtain⟨N,-,r⟩:=Y9 G e n;obtain⟨-,J,K⟩:=wR (k.prd e n);have P:=k.args e n;refine⟨⟨N,(DQ h _).2⟩,?_,by simp[rkF];omega,λa ha=>⟨?_,by have:=f a ha;omega,by have:=f a ha;omega⟩⟩
   .show YU ((BO h ⟨#[76,65,66,69,76]⟩,2+e.2.1) :: e.2.2.map λa=>(BO h a.1,2+a.2));refine AAv.2 ⟨λb i=>?_,?_⟩
    .obtain⟨c,j,rfl⟩:=GO.1 i;exact Ny (Iu (J c j).2) (p.ft _ a3)
    rw[AAN];refine ACf ?_ K;intro a b ha i E;have:=A9V p.srt E (r a ha) (r b i);simp only;omega
   rcases By.1 ha with rfl|ha
   .exact p.ftr _ a3
   obtain⟨c,j,rfl⟩:=GO.1 ha;exact⟨r c j,(GZ h _).2⟩
  obtain⟨q,F,rfl⟩:=GO.1 d;refine⟨p.tyr _ a3,nd2 (Ny a3 (p.ft _ a3)),by simp[ckF],λa ha=>⟨?_,by have:=f a ha;omega,by have:=f a ha;omega⟩⟩;unfold ckF at ha;simp only[By,ABl,ACG]at ha;rcases ha with rfl|rfl
  .exact p.ftr _ a3
  exact p.ftr _ a3
 .exact A2z p (l:=wP m) (A6v O1) (by rw[I];omega) x d
 exact A2z p (l:=wQ m) (A6v O1) (by rw[H];omega) x d
theorem A2A (g:f.length<=4096) (h0:0<f.length) (hn:∀x∈f,NOk h f.length x):AX f/\wX f/\Sm f/\B7 f=0/\PF h (DP f):=by
 have d:AX f:=⟨O1,λx b=>⟨by have:=(hn x b).len;omega,λa ha=>((hn x b).arc a ha).2⟩⟩;have hs:Sm f:=λx b=>⟨by have:=(hn x b).len;omega,.inl (hn x b).len⟩;have e:wX f:=λx b=>⟨(hn x b).nd,hs x b⟩;refine⟨d,e,hs,?_,NA d,by rw[Ed];exact h0,λx b=>?_,λx b=>?_,λx b a ha=>?_⟩
 .unfold B7;rw[An O1,An O1];refine hJ λx b=>⟨(hn x b).ty.1,A1R ?_ λa ha=>⟨((hn x b).arc a ha).1.1,((hn x b).arc a ha).2⟩⟩;rw[List.Nodup,AAN];exact(hn x b).nd
 .obtain⟨y,c,rfl⟩:=GO.1 b;exact(hn y c).ty
 .obtain⟨y,c,rfl⟩:=GO.1 b;exact IC (hn y c).nd
 obtain⟨y,c,rfl⟩:=GO.1 b;have:=(Eq y.2).mem_iff.1 ha;exact((hn y c).arc a this).1
theorem nZ (k:sI m) (h:AG):(D9 h m).length<=1000:=by
 have a:pN m=2+m.2.2.1.length+m.2.2.2.1.length+m.2.2.2.2.length:=rfl;have b:qN m=pN m+m.2.2.2.1.length+2:=rfl;have:=k.rels;have:=k.cons;have:=k.vars;rw[Wy];omega
theorem A2B (h:AG) (m:CQ):0<(D9 h m).length:=by
 rw[Wy];omega
theorem A2C (p:Fi h) (k:sI m) (a:IY h m.2.2.2.1=0):A3 (D9 h m)=(AU (DP (D9 h m)) 0,0)/\VF h (AU (DP (D9 h m)) 0)/\Sm (D9 h m):=by
 have h0:=A2B h m;obtain⟨h1,b,c,d,e⟩:=A2A (by have:=nZ k h;omega) h0 (i7 p k a);grind [A84,Ed,A3,MS]
section
attribute [local go_sem] IP bO QN WG LP LK Nj KW JH OX
def mkF (h:AG) (m:CQ):List AD×Int:=if IY h m.2.2.2.1≠0 then ([],IY h m.2.2.2.1) else if (EH h (A3 (D9 h m)).1).2=true then ((EH h (A3 (D9 h m)).1).1,0) else ([],12)
def A8k:AZ:={ ins:=[FL,dZ],pre:=λ(h,m,_)=>Fi h/\sI m,out:=λ(h,m,_)=>[.p E7 (mkF h m).1,.p C0 (mkF h m).2] }
def Dm (h:AG) (a:List AD):List (Nat×Obj) :=
 [(37,.box 98 true [.p FL h,.ag [.sr 200 W3 0 a.length]]),(200,.nest 57 59 T3 DH a none)]
attribute [local go_sem] Dm
theorem A2D (h:AG) {j:Nat} (a:j<4) {v:ByteArray} (q:AK (JG.getD j (ByteArray.empty,ByteArray.empty)).1 v=true):Ar h (JG.getD j (ByteArray.empty,ByteArray.empty)).2=Y6 h v:=by
 have e:=IM q;rw[<-e];unfold Y6;match j,a with
 | 0,_=>exact(At a3).symm
 | 1,_=>rw[An a3,At a3];rfl
 | 2,_=>rw[An a3,An a3,At a3];rfl
 | 3,_=>rw[An a3,An a3,An a3];rfl
theorem A5B:∀i:Nat,i<4->∀j:Nat,j<4->AK (JG.getD i (ByteArray.empty,ByteArray.empty)).1 (JG.getD j (ByteArray.empty,ByteArray.empty)).1=true->i=j:=by decide +kernel
theorem A2E {j:Nat} (hi:i<4) (a:j<4) {v:ByteArray} (b:AK (JG.getD i (ByteArray.empty,ByteArray.empty)).1 v=true) (c:AK (JG.getD j (ByteArray.empty,ByteArray.empty)).1 v=true):i=j :=
 A5B i hi j a (BP b (B0 c))
theorem A2F {v:ByteArray} (q:VW v=true):∃j,j<4/\AK (JG.getD j (ByteArray.empty,ByteArray.empty)).1 v=true:=by
 unfold VW at q;simp only[tO]at q;rcases q with ((q|q)|q)|q
 .exact⟨0,O1,B0 q⟩
 .exact⟨1,O1,B0 q⟩
 .exact⟨2,O1,B0 q⟩
 exact⟨3,O1,B0 q⟩
def n4 (h:AG) (v:ByteArray) (A:List AD) (L:List Int) (x:Nat×List AD×List Int):Prop :=
 (∀j,j<x.1->¬AK (JG.getD j (ByteArray.empty,ByteArray.empty)).1 v=true)/\x.2=(A,L)\/(∃j,j<x.1/\j<4/\AK (JG.getD j (ByteArray.empty,ByteArray.empty)).1 v=true)/\x.2=(A++[vkF h v],L++[(A.length:Int)])
theorem A8l {v:ByteArray} {A:List AD} {j:Nat} (c:n4 h v A L (j,Z,M)) (a:j<4) (q:AK (JG.getD j (ByteArray.empty,ByteArray.empty)).1 v=true) :
  n4 h v A L (j+1,JJ h Z (JG.getD j (ByteArray.empty,ByteArray.empty)).2,M++[(Z.length:Int)]):=by
 rcases c with ⟨h1,b⟩|⟨⟨i,d,e,f⟩,-⟩
 .cases b;refine .inr ⟨⟨j,ABf j,a,q⟩,?_⟩;unfold JJ vkF;rw[A2D h a q]
 have:=A2E e a f q;simp only at d;omega
theorem A8m {v:ByteArray} {A:List AD} {j:Nat} (b:n4 h v A L (j,Z,M)) (q:AK (JG.getD j (ByteArray.empty,ByteArray.empty)).1 v=false):n4 h v A L (j+1,Z,M):=by
 rcases b with ⟨h1,a⟩|⟨⟨i,c,d,f⟩,a⟩
 .refine .inl ⟨λi hi=>?_,a⟩;by_cases e:i=j
  .rw[e,q];simp
  exact h1 i (by simp only at hi ⊢;omega)
 exact .inr ⟨⟨i,by simp only at c ⊢;omega,d,f⟩,a⟩
theorem A8n {v:ByteArray} {A:List AD} {j:Nat} (b:n4 h v A L (j,Z,M)) (d:4<=j) (q:VW v=true):Z=A++[vkF h v]/\M=L++[(A.length:Int)]:=by
 rcases b with ⟨h1,a⟩|⟨-,a⟩
 .obtain⟨i,e,c⟩:=A2F q;exact absurd c (h1 i a2)
 cases a;exact⟨rfl,rfl⟩
theorem A2G {v:ByteArray} {A:List AD} {j:Nat} (b:n4 h v A L (j,Z,M)):Z.length<=A.length+1/\M.length<=L.length+1:=by
 rcases b with ⟨h1,a⟩|⟨-,a⟩<;>cases a<;>simp
theorem Wz (b k:Nat):Gy b (k+1)=Gy b k++[((b+k:Nat):Int)]:=by simp[Gy,AAz]
theorem A5C {b:Nat} {x:Int} (a:0<=x) (c:x<(k:Int)):(Gy b k).getD x.toNat 0=(b:Int)+x:=by
 have:x.toNat<k:=by omega
 simp[Gy,AS,this];omega
def i8 (h:AG):List AD:=[(Ar h ⟨#[115,105,103,110]⟩,[(BO h ⟨#[83,69,77]⟩,1)]),(Ar h ⟨#[115,101,109]⟩,[])]
def vsN (h:AG) (a:List ByteArray) (i:Nat):List AD:=i8 h++(a.take i).map (vkF h)
def rsN (h:AG) (b:List ByteArray) (a:List GX) (i:Nat):List AD:=i8 h++b.map (vkF h)++(a.take i).map (rkF h)
def n5 (h:AG) (A:List AD) (e:GX) (q:Nat):List AD:=A++[(Ar h e.1,(BO h ⟨#[76,65,66,69,76]⟩,2+e.2.1) :: (e.2.2.take q).map λa=>(BO h a.1,2+a.2))]
theorem A5D (h:AG) (A:List AD) (e:GX) (q:Nat):(n5 h A e q).length=A.length+1:=by simp[n5]
theorem Qt (A:List AD) (x:AD):(A++[x]).getD ((A.length:Int)).toNat (0,[])=x:=by simp[AS]
theorem A5E (h:AG) (A:List AD) (e:GX) (q:Nat) (a:e.2.2.length<=10):((n5 h A e q).getD ((A.length:Int)).toNat (0,[])).2.length<=100000:=by
 unfold n5;rw[Qt];simp only[NO,Of,ON];omega
theorem A9X (h:AG) (A:List AD) (e:GX):D8 (JJ h A e.1) (A.length:Int) (BO h ⟨#[76,65,66,69,76]⟩) (2+e.2.1)=n5 h A e 0:=by
 unfold JJ n5;exact HW A [] _ _ _ _ _ rfl
theorem A9Y (h:AG) (A:List AD) (e:GX) {q:Nat} (b:q<e.2.2.length):D8 (n5 h A e q) (A.length:Int) (BO h (e.2.2.getD q (ByteArray.empty,0)).1) (2+(e.2.2.getD q (ByteArray.empty,0)).2)=n5 h A e (q+1):=by
 unfold n5;rw[FH (λa:Px=>(BO h a.1,2+a.2)) e.2.2 (ByteArray.empty,0) b];exact HW A [] _ _ _ _ _ rfl
theorem A5F (h:AG) (A:List AD) (e:GX):n5 h A e e.2.2.length=A++[rkF h e]:=by
 unfold n5 rkF;rw[BY (On _)]
theorem AAG (h:AG) (A:List AD) (q:NR):D8 (JJ h A ⟨#[113,101,113]⟩) (A.length:Int) (BO h ⟨#[72,73,71,72]⟩) (2+q.1)=A++[(Ar h ⟨#[113,101,113]⟩,[(BO h ⟨#[72,73,71,72]⟩,2+q.1)])]:=by
 unfold JJ;exact HW A [] _ _ _ _ _ rfl
theorem AAH (h:AG) (A:List AD) (q:NR):D8 (A++[(Ar h ⟨#[113,101,113]⟩,[(BO h ⟨#[72,73,71,72]⟩,2+q.1)])]) (A.length:Int) (BO h ⟨#[76,79,87]⟩) (2+q.2)=A++[ckF h q]:=by
 unfold ckF;exact HW A [] _ _ _ _ _ rfl
theorem A5G (h:AG) (a:List ByteArray) (b:List GX):vsN h a a.length=rsN h a b 0:=by simp[vsN,rsN]
def w4 (h:AG) (b:List ByteArray) (a:List GX) (cs:List NR) (i:Nat):List AD:=i8 h++b.map (vkF h)++a.map (rkF h)++(cs.take i).map (ckF h)
theorem A5H (h:AG) (a:List ByteArray) (hi:i<=a.length):(vsN h a i).length=2+i:=by simp[vsN,i8];omega
theorem A2J (h:AG) (a:List ByteArray) (hi:i<a.length):vsN h a (i+1)=vsN h a i++[vkF h (a.getD i ByteArray.empty)]:=by
 unfold vsN;rw[FH (vkF h) a ByteArray.empty hi,AA8]
theorem A5I (h:AG) (b:List ByteArray) (a:List GX) (hi:i<=a.length):(rsN h b a i).length=2+b.length+i:=by simp[rsN,i8];omega
theorem A2K (h:AG) (b:List ByteArray) (a:List GX) (hi:i<a.length):rsN h b a (i+1)=rsN h b a i++[rkF h (a.getD i (ByteArray.empty,0,[]))]:=by
 unfold rsN;rw[FH (rkF h) a (ByteArray.empty,0,[]) hi];simp only[AA8]
theorem A5J (h:AG) (b:List ByteArray) (a:List GX) (cs:List NR):rsN h b a a.length=w4 h b a cs 0:=by simp[rsN,w4]
def W6 (h:AG) (m:CQ) (L:List (Int×Int)):List AD:=(Ar h ⟨#[115,105,103,110]⟩,[(BO h ⟨#[83,69,77]⟩,1)]) :: (Ar h ⟨#[115,101,109]⟩,L) :: bR h m
theorem A5K (h:AG) (tp ix:Int) (b:List ByteArray) (a:List GX) (cs:List NR):w4 h b a cs cs.length=W6 h (tp,ix,b,a,cs) []:=by simp[w4,i8,W6,bR]
theorem A5L (h:AG) (m:CQ) (L:List (Int×Int)) (D:List AD) (e x:Int):D8 (W6 h m L++D) 1 e x=W6 h m (L++[(e,x)])++D:=HW [(Ar h ⟨#[115,105,103,110]⟩,[(BO h ⟨#[83,69,77]⟩,1)])] (bR h m++D) (Ar h ⟨#[115,101,109]⟩) L 1 e x rfl
theorem A8o (h:AG) (m:CQ) (L:List (Int×Int)):(W6 h m L).length=pN m:=by
 have:=UD h m;have:2<=pN m:=by unfold pN;omega
 simp[W6,UD];omega
theorem bS (h:AG) (m:CQ) (L:List (Int×Int)) (D:List AD) (a:L.length<=10):((W6 h m L++D).getD (1:Int).toNat (0,[])).2.length<=100000:=by
 show L.length<=100000;omega
theorem AAI (p:Fi h) (k:sI m) (c:IY h m.2.2.2.1=0) (L:List (Int×Int)) (D:List AD) (d:L.length<=10) (b:Jw 12 D):Jw 12 (W6 h m L++D):=by
 intro x a;unfold W6 at a;rw[To,To,By,By,If]at a;rcases a with rfl|rfl|a|a
 .simp
 .simp only;omega
 .refine(i7 p k c x ?_).len;unfold D9 A2x;exact wT _ (wT _ (IF _ (IF _ a)))
 exact b x a
theorem AAJ (h:AG) (n:Nat) (l:List Int):Jw 12 (Wx h n l):=by
 have key:∀(l:List Int) (b:Nat),Jw 12 (w3 h b l):=by
  intro l;induction l with
  | nil =>
   intro b x a;rw[w3,oN]at a;subst a;simp
  | cons y l c =>
   intro b x a;rw[w3,By]at a;rcases a with rfl|a
   .simp
   exact c _ x a
 intro x a;unfold Wx at a;rcases By.1 a with rfl|a
 .simp
 exact key _ _ x a
theorem A5M (h:AG) (m:CQ):W6 h m [(BO h ⟨#[84,79,80]⟩,2+m.1),(BO h ⟨#[73,78,68,69,88]⟩,2+m.2.1),(BO h ⟨#[82,69,76,83]⟩,(pN m:Int)),(BO h ⟨#[67,79,78,83]⟩,(qN m:Int))]++(Wx h (pN m) (wP m)++Wx h (qN m) (wQ m))=D9 h m:=by
 unfold D9;rw[AA8];rfl
theorem A2L (p:Fi h) (k:sI m) (d:IY h m.2.2.2.1=0):A1m h (A3 (D9 h m)).1/\(A3 (D9 h m)).2=0/\Sm (D9 h m):=by
 obtain⟨h1,a,b⟩:=A2C p k d;have c:=A82 p.h14 a;generalize AU (DP (D9 h m)) 0=e at *;rw[h1];exact⟨c,rfl,b⟩
theorem sJ (h:AG) (b:List ByteArray) (a:List GX) (cs:List NR) (hi:i<=cs.length):(w4 h b a cs i).length=2+b.length+a.length+i:=by simp[w4,i8];omega
theorem A2M (h:AG) (b:List ByteArray) (a:List GX) (cs:List NR) (hi:i<cs.length):w4 h b a cs (i+1)=w4 h b a cs i++[ckF h (cs.getD i (0,0))]:=by
 unfold w4;rw[FH (ckF h) cs (0,0) hi];simp only[AA8]
theorem A2N:Ac Tryz.prog 19 A8k:=by
 refine fKP [0,1,2,3,4,5,6,7,8,9,10,11,12,14,16,18,19,21,23,24,25,26,27,32,47,48,49,50,53,54,55,56,62,73,74,75,76,92,93,94,95,115,116,117,118,181,191] [36,68,111,141] [] Tryz.func19 Tryz.ntmps19 (AE wM (AE vE (AE A1n AH))) ?_;rintro w0 O0 ⟨h,⟨tp,ix,b,f,cs⟩,u⟩ c-⟨I,r⟩;have I:Fi h:=I;have r:sI (tp,ix,b,f,cs):=r;have bf:=I.so;have bc:ME (tp,ix,b,f,cs):=⟨trivial,by have:=r.rels;omega,λe ad=>by have:=r.args e ad;omega,by have:=r.cons;omega⟩;have ca:b.length<=256:=r.vars;have bz:f.length<=4:=r.rels;have br:cs.length<=4:=r.cons;have av:∀e∈f,e.2.2.length<=10:=r.args;have bh:∀v∈b,VW v=true:=r.srt;have E:nY (tp,ix,b,f,cs):=r.rng;have ao:mkF h (tp,ix,b,f,cs)=if IY h f≠0 then ([],IY h f) else if (EH h (A3 (D9 h (tp,ix,b,f,cs))).1).2=true then ((EH h (A3 (D9 h (tp,ix,b,f,cs))).1).1,0) else ([],12):=rfl
 have ad:(h.1,h.2)=h:=rfl;simp only[A8k,AL];repeat'(first|exact a6|apply eS rfl|apply AB|refine rP c ?_ ?_|fail)
 all_goals try simp only[ad]at *
 .exact⟨bf,bc⟩
 refine rC ?_ ?_<;>intro g
 .have g:IY h f≠0:=by simpa using g
  rw[ao,At g];repeat'(first|exact a6|apply eS rfl|apply AB|refine rX c ?_ ?_|refine rC ?_ ?_<;>intro g<;>try(cases g;done))
  exact fI c [.cell 4 34,.tmp 5] (by first|exact eR|refine KP ?_;rfl)
 have ak:IY h f=0:=by simpa using g
 clear g;rw[ao,An (by rw[ak];simp)];repeat'(first|exact a6|apply eS rfl|apply AB|refine rP c ?_ ?_|fail)
 refine cP 1 c ?_ ?_
 .trivial
 refine Wq FL h ?_;refine rL c ?_ ?_
 .trivial
 repeat'(first|exact a6|apply eS rfl|apply AB|refine rP c ?_ ?_|fail)
 refine cP 1 c ?_ ?_
 .trivial
 refine rM c (Gx h [] sc ⟨#[115,105,103,110]⟩) [(1,.nm 37),(2,.nil)] [] ?_ ?_ ?_
 .first|exact eN|refine eM ?_
 .first|exact eN|refine eM ?_
 rintro _ _ ⟨rfl,rfl⟩;refine⟨[(37,.nm 1),(200,.nm 2)],.p T3 0,Dm h ([(Ar h ⟨#[115,105,103,110]⟩,[])]),rfl,rfl,?_,?_,rfl,rfl,?_⟩
 .simp only[IP,Dm,JJ,iS];first|exact eN|refine eM ?_
 .first|exact eN|refine eM ?_
 simp only[Dm];refine rN 1 c ?_ ?_
 .trivial
 refine rM c (Gx h [(Ar h ⟨#[115,105,103,110]⟩,[])] sc ⟨#[115,101,109]⟩) [(1,.nm 37),(2,.nm 200)] [200] ?_ ?_ ?_
 .first|exact eN|refine eM ?_
 .first|exact eN|refine eM ?_
 rintro _ _ ⟨rfl,rfl⟩;refine⟨[(37,.nm 1),(200,.nm 2)],.p T3 1,Dm h ([(Ar h ⟨#[115,105,103,110]⟩,[]),(Ar h ⟨#[115,101,109]⟩,[])]),rfl,rfl,?_,?_,rfl,rfl,?_⟩
 .simp only[IP,Dm,JJ,AC3];first|exact eN|refine eM ?_
 .first|exact eN|refine eM ?_
  all_goals rfl
 simp only[Dm];refine rL c ?_ ?_
 .trivial
 repeat'(first|exact a6|apply eS rfl|apply AB|refine rP c ?_ ?_|fail)
 refine cP 3 c ?_ ?_
 .trivial
 refine rM c (Et h [(Ar h ⟨#[115,105,103,110]⟩,[]),(Ar h ⟨#[115,101,109]⟩,[])] sc (n:=0) O1 sc sc ⟨#[83,69,77]⟩ 1) [(1,.nm 37),(2,.nm 200)] [200] ?_ ?_ ?_
 .first|exact eN|refine eM ?_
 .first|exact eN|refine eM ?_
 rintro _ _ ⟨rfl,rfl⟩;refine⟨[(37,.nm 1),(200,.nm 2)],.raw (.tuple #[]),Dm h (vsN h b 0),rfl,rfl,?_,?_,rfl,rfl,?_⟩
 .simp only[IP,Dm,vsN,i8,AB8,ABK,AAu];first|exact eN|refine eM ?_
  exact⟨rfl,rfl⟩
 .first|exact eN|refine eM ?_
 simp only[Dm];refine rL c ?_ ?_
 .trivial
 repeat'(first|exact a6|apply eS rfl|apply AB|refine rP c ?_ ?_|fail)
 refine AI (ι:={i:Nat//i<=b.length}) (λi=>⟨[(2,.bp 2 [] 0),(3,.bp 3 [] 0),(4,.bp 4 [] 0),(7,.bp 37 [] 0),(9,.p T3 1),(10,.sr 69 T3 0 (Gy 2 i.1).length),(11,.raw (.slice none 0 0)),(12,.raw (.slice none 0 0)),(47,.p CV b),(48,.p (.int .i64) (b.length:Int)),(49,.p (.int .i64) (i.1:Int))],Dm h (vsN h b i.1)++[(69,.arr 3 T3 (Gy 2 i.1)),(4,.box 34 true [.raw (.slice none 0 0)]),(3,.box 41 true [.p T3 tp,.p T3 ix,.p CV b,.p Jy f,.p LO cs]),(2,.box 26 true [.p Qu h.1,.p SZ h.2])]⟩) (λi=>b.length-i.1) ⟨0,Do _⟩ (AC [(2,.nm 2),(3,.nm 3),(4,.nm 4),(37,.nm 37),(200,.nm 200),(69,.nil)] rfl rfl ?_ ?_) (λi=>?_)
 .simp only[Dm,To,iS];first|exact eN|refine eM ?_
  rfl
 .simp only[Dm,To,iS];first|exact eN|refine eM ?_
  rfl
 obtain⟨i,hi⟩:=i;have y:=A5H h b hi;have ae:=HX 2 i;have V:=λq=>A2J h b (i:=i) q;have t:=Wz 2 i;simp only[Dm,To,iS];repeat'(first|exact a6|apply eS rfl|apply AB|refine rP c ?_ ?_|fail)
 refine rC ?_ ?_<;>intro g
 .have R:i<b.length:=by exact eV
  have V:=V R;have bi:VW (b.getD i ByteArray.empty)=true:=bh _ (Aw R);generalize al:vsN h b i=A at *;generalize N:Gy 2 i=L at *;repeat'(first|exact a6|apply eS rfl|apply AB|refine rP c ?_ ?_|fail)
  .exact g
  refine cP 0 c ?_ ?_
  .trivial
  refine A9h c ?_;refine rL c ?_ ?_
  .trivial
  repeat'(first|exact a6|apply eS rfl|apply AB|refine rP c ?_ ?_|fail)
  refine AI (ι:={x:Nat×List AD×List Int//x.1<=4/\n4 h (b.getD i ByteArray.empty) A L x}) (λx=>⟨[(2,.bp 2 [] 0),(3,.bp 3 [] 0),(4,.bp 4 [] 0),(7,.bp 37 [] 0),(9,.p T3 1),(10,.sr 69 T3 0 x.1.2.2.length),(11,.raw (.slice none 0 0)),(12,.raw (.slice none 0 0)),(14,.p T9 (b.getD i ByteArray.empty)),(47,.p CV b),(48,.p (.int .i64) (b.length:Int)),(49,.p (.int .i64) (i:Int)),(53,.p T71 JG),(54,.p (.int .i64) 4),(55,.p (.int .i64) (x.1.1:Int))],Dm h x.1.2.1++[(69,.arr 3 T3 (x.1.2.2)),(4,.box 34 true [.raw (.slice none 0 0)]),(3,.box 41 true [.p T3 tp,.p T3 ix,.p CV b,.p Jy f,.p LO cs]),(2,.box 26 true [.p Qu h.1,.p SZ h.2])]⟩) (λx=>4-x.1.1) ⟨(0,A,L),Do _,.inl ⟨λj H=>absurd H (Nat.not_lt_zero j),rfl⟩⟩ (AC [(2,.nm 2),(3,.nm 3),(4,.nm 4),(37,.nm 37),(200,.nm 200),(69,.nm 69)] rfl rfl ?_ ?_) (λx=>?_)
  .simp only[Dm,To,iS];first|exact eN|refine eM ?_
  .simp only[Dm,To,iS];first|exact eN|refine eM ?_
   exact⟨rfl,rfl⟩
  obtain⟨⟨j,Z,M⟩,H,G⟩:=x;simp only at H G;have cc:=A2G G;simp only[Dm,To,iS];repeat'(first|exact a6|apply eS rfl|apply AB|refine rP c ?_ ?_|fail)
  refine rC ?_ ?_<;>intro g
  .have z:j<4:=by omega
   repeat'(first|exact a6|apply eS rfl|apply AB|refine rP c ?_ ?_|fail)
   .exact g
   refine rC ?_ ?_<;>intro g
   .repeat'(first|exact a6|apply eS rfl|apply AB|refine rP c ?_ ?_|fail)
    refine cP 4 c ?_ ?_
    .trivial
    refine rM c (Gx h Z O1 (JG.getD j (ByteArray.empty,ByteArray.empty)).2) [(1,.nm 37),(2,.nm 200)] [200] ?_ ?_ ?_
    .first|exact eN|refine eM ?_
    .first|exact eN|refine eM ?_
    rintro _ _ ⟨rfl,rfl⟩;refine⟨[(37,.nm 1),(200,.nm 2)],.p T3 (Z.length:Int),Dm h (JJ h Z (JG.getD j (ByteArray.empty,ByteArray.empty)).2),rfl,rfl,?_,?_,rfl,rfl,?_⟩
    .simp only[IP,Dm];first|exact eN|refine eM ?_
    .first|exact eN|refine eM ?_
    simp only[Dm];refine rL c ?_ ?_
    .simp only[AP];omega
    repeat'(first|exact a6|apply eS rfl|apply AB|refine rP c ?_ ?_|fail)
    .exact eV
    refine⟨⟨(j+1,JJ h Z (JG.getD j (ByteArray.empty,ByteArray.empty)).2,M++[(Z.length:Int)]),a2,A8l G z g⟩,a2,AC [(2,.nm 2),(3,.nm 3),(4,.nm 4),(37,.nm 37),(200,.nm 200),(69,.nm 69)] rfl rfl ?_ ?_⟩
    .simp only[Dm,To,iS];first|exact eN|refine eM ?_
    simp only[Dm,To,iS];first|exact eN|refine eM ?_
   have g:AK (JG.getD j (ByteArray.empty,ByteArray.empty)).1 (b.getD i ByteArray.empty)=false:=by simpa using g
   repeat'(first|exact a6|apply eS rfl|apply AB|refine rP c ?_ ?_|fail)
   .exact eV
   refine⟨⟨(j+1,Z,M),a2,A8m G g⟩,a2,AC [(2,.nm 2),(3,.nm 3),(4,.nm 4),(37,.nm 37),(200,.nm 200),(69,.nm 69)] rfl rfl ?_ ?_⟩
   .simp only[Dm,To,iS];first|exact eN|refine eM ?_
   simp only[Dm,To,iS];first|exact eN|refine eM ?_
  obtain⟨ap,aq⟩:=A8n G O1 bi;subst ap;subst aq;repeat'(first|exact a6|apply eS rfl|apply AB|refine rP c ?_ ?_|fail)
  .exact eV
  refine⟨⟨i+1,O1⟩,a2,AC [(2,.nm 2),(3,.nm 3),(4,.nm 4),(37,.nm 37),(200,.nm 200),(69,.nm 69)] rfl rfl ?_ ?_⟩
  .simp only[Dm,To,iS,V,t];first|exact eN|refine eM ?_
   rw[y]
  simp only[Dm,To,iS,V,t];first|exact eN|refine eM ?_
 have R:i=b.length:=by omega
 subst R;repeat'(first|exact a6|apply eS rfl|apply AB|refine rP c ?_ ?_|fail)
 refine Cj [69] ?_;have bl:=A5G h b f;have F:=HX 2 b.length;have C:∀x:Int,0<=x->x<(b.length:Int)->(Gy 2 b.length).getD x.toNat 0=2+x:=λx bo bq=>A5C bo bq;simp only[bl];refine AI (ι:={k:Nat//k<=f.length}) (λk=>⟨[(2,.bp 2 [] 0),(3,.bp 3 [] 0),(4,.bp 4 [] 0),(7,.bp 37 [] 0),(9,.p T3 1),(10,.p Bx (Gy 2 b.length)),(11,.sr 112 T3 0 (Gy (2+b.length) k.1).length),(12,.raw (.slice none 0 0)),(73,.p Jy f),(74,.p (.int .i64) (f.length:Int)),(75,.p (.int .i64) (k.1:Int))],Dm h (rsN h b f k.1)++[(112,.arr 3 T3 (Gy (2+b.length) k.1)),(4,.box 34 true [.raw (.slice none 0 0)]),(3,.box 41 true [.p T3 tp,.p T3 ix,.p CV b,.p Jy f,.p LO cs]),(2,.box 26 true [.p Qu h.1,.p SZ h.2])]⟩) (λk=>f.length-k.1) ⟨0,Do _⟩ (AC [(2,.nm 2),(3,.nm 3),(4,.nm 4),(37,.nm 37),(200,.nm 200),(112,.nil)] rfl rfl ?_ ?_) (λk=>?_)
 .simp only[Dm,To,iS];first|exact eN|refine eM ?_
  rfl
 .simp only[Dm,To,iS];first|exact eN|refine eM ?_
  rfl
 obtain⟨k,hk⟩:=k;have y:=A5I h b f hk;have ae:=HX (2+b.length) k;have w:=λq=>A2K h b f (i:=k) q;have t:=Wz (2+b.length) k;simp only[Dm,To,iS];repeat'(first|exact a6|apply eS rfl|apply AB|refine rP c ?_ ?_|fail)
 refine rC ?_ ?_<;>intro g
 .have S:k<f.length:=by exact eV
  have w:=w S;have P:f.getD k (ByteArray.empty,0,[])∈f:=Aw S;have az:=av _ P;obtain⟨ah,ai⟩:=A6s (m:=(tp,ix,b,f,cs)) P;have o:=E _ ah;have s:∀a∈(f.getD k (ByteArray.empty,0,[])).2.2,0<=a.2/\a.2<(b.length:Int):=λa ha=>E _ (ai a ha);simp only at o;generalize al:rsN h b f k=A at *;generalize N:Gy (2+b.length) k=L at *;repeat'(first|exact a6|apply eS rfl|apply AB|refine rP c ?_ ?_|fail)
  .exact g
  generalize au:f.getD k (ByteArray.empty,0,[])=e at *;have B:=C e.2.1 o.1 o.2;have bm:=O6 h A e.1;have h0:=A9X h A e;rw[<-B]at h0;refine cP 3 c ?_ ?_
  .trivial
  refine rM c (Gx h A O1 e.1) [(1,.nm 37),(2,.nm 200)] [200] ?_ ?_ ?_
  .first|exact eN|refine eM ?_
  .first|exact eN|refine eM ?_
  rintro _ _ ⟨rfl,rfl⟩;refine⟨[(37,.nm 1),(200,.nm 2)],.p T3 (A.length:Int),Dm h (JJ h A e.1),rfl,rfl,?_,?_,rfl,rfl,?_⟩
  .simp only[IP,Dm];first|exact eN|refine eM ?_
  .first|exact eN|refine eM ?_
  simp only[Dm];refine rL c ?_ ?_
  .trivial
  repeat'(first|exact a6|apply eS rfl|apply AB|refine rP c ?_ ?_|fail)
  refine cP 7 c ?_ ?_
  .rw[F];exact o
  refine rM c (Et h (JJ h A e.1) O1 (n:=(A.length:Int)) O1 O1 (by unfold JJ;rw[Qt];simp) ⟨#[76,65,66,69,76]⟩ ((Gy 2 b.length).getD e.2.1.toNat 0)) [(1,.nm 37),(2,.nm 200)] [200] ?_ ?_ ?_
  .first|exact eN|refine eM ?_
  .first|exact eN|refine eM ?_
  rintro _ _ ⟨rfl,rfl⟩;refine⟨[(37,.nm 1),(200,.nm 2)],.raw (.tuple #[]),Dm h (n5 h A e 0),rfl,rfl,?_,?_,rfl,rfl,?_⟩
  .simp only[IP,Dm,h0];first|exact eN|refine eM ?_
  .first|exact eN|refine eM ?_
  simp only[Dm];have am:=A5D h A e;have aa:=λq=>A5E h A e q az;refine rL c ?_ ?_
  .trivial
  repeat'(first|exact a6|apply eS rfl|apply AB|refine rP c ?_ ?_|fail)
  refine AI (ι:={q:Nat//q<=e.2.2.length}) (λq=>⟨[(2,.bp 2 [] 0),(3,.bp 3 [] 0),(4,.bp 4 [] 0),(7,.bp 37 [] 0),(9,.p T3 1),(10,.p Bx (Gy 2 b.length)),(11,.sr 112 T3 0 L.length),(12,.raw (.slice none 0 0)),(18,.bp 18 [] 0),(19,.p T3 (A.length:Int)),(73,.p Jy f),(74,.p (.int .i64) (f.length:Int)),(75,.p (.int .i64) (k:Int)),(92,.p T52 e.2.2),(93,.p (.int .i64) (e.2.2.length:Int)),(94,.p (.int .i64) (q.1:Int))],Dm h (n5 h A e q.1)++[(112,.arr 3 T3 (L)),(18,.box 54 true [.p T9 e.1,.p T3 e.2.1,.p T52 e.2.2]),(4,.box 34 true [.raw (.slice none 0 0)]),(3,.box 41 true [.p T3 tp,.p T3 ix,.p CV b,.p Jy f,.p LO cs]),(2,.box 26 true [.p Qu h.1,.p SZ h.2])]⟩) (λq=>e.2.2.length-q.1) ⟨0,Do _⟩ (AC [(2,.nm 2),(3,.nm 3),(4,.nm 4),(37,.nm 37),(200,.nm 200),(112,.nm 112),(18,.nm 18)] rfl rfl ?_ ?_) (λq=>?_)
  .simp only[Dm,To,iS];first|exact eN|refine eM ?_
  .simp only[Dm,To,iS];first|exact eN|refine eM ?_
  obtain⟨q,bw⟩:=q;have aa:=aa q;have am:=am q;simp only[Dm,To,iS];repeat'(first|exact a6|apply eS rfl|apply AB|refine rP c ?_ ?_|fail)
  refine rC ?_ ?_<;>intro g
  .have U:q<e.2.2.length:=by exact eV
   have hs:=A9Y h A e U;have ag:=s _ (Aw (d:=(ByteArray.empty,(0:Int))) U);have ba:=C _ ag.1 ag.2;rw[<-ba]at hs;repeat'(first|exact a6|apply eS rfl|apply AB|refine rP c ?_ ?_|fail)
   .exact g
   refine cD 9 c ?_ ?_
   .rw[F];exact ag
   refine rM c (Et h (n5 h A e q) O1 (n:=(A.length:Int)) O1 O1 aa (e.2.2.getD q (ByteArray.empty,0)).1 ((Gy 2 b.length).getD (e.2.2.getD q (ByteArray.empty,0)).2.toNat 0)) [(1,.nm 37),(2,.nm 200)] [200] ?_ ?_ ?_
   .first|exact eN|refine eM ?_
   .first|exact eN|refine eM ?_
   rintro _ _ ⟨rfl,rfl⟩;refine⟨[(37,.nm 1),(200,.nm 2)],.raw (.tuple #[]),Dm h (n5 h A e (q+1)),rfl,rfl,?_,?_,rfl,rfl,?_⟩
   .simp only[IP,Dm,hs];first|exact eN|refine eM ?_
   .first|exact eN|refine eM ?_
   simp only[Dm];refine rL c ?_ ?_
   .trivial
   repeat'(first|exact a6|apply eS rfl|apply AB|refine rP c ?_ ?_|fail)
   .exact eV
   refine⟨⟨q+1,O1⟩,a2,AC [(2,.nm 2),(3,.nm 3),(4,.nm 4),(37,.nm 37),(200,.nm 200),(112,.nm 112),(18,.nm 18)] rfl rfl ?_ ?_⟩
   .simp only[Dm,To,iS];first|exact eN|refine eM ?_
   simp only[Dm,To,iS];first|exact eN|refine eM ?_
  have U:q=e.2.2.length:=by omega
  subst U;rw[A5F,<-w];repeat'(first|exact a6|apply eS rfl|apply AB|refine rP c ?_ ?_|fail)
  .simp only[AP];omega
  .exact eV
  refine⟨⟨k+1,O1⟩,a2,AC [(2,.nm 2),(3,.nm 3),(4,.nm 4),(37,.nm 37),(200,.nm 200),(112,.nm 112)] rfl rfl ?_ ?_⟩
  .simp only[Dm,To,iS,t,y];first|exact eN|refine eM ?_
  simp only[Dm,To,iS,t,y];first|exact eN|refine eM ?_
 have S:k=f.length:=by omega
 subst S;repeat'(first|exact a6|apply eS rfl|apply AB|refine rP c ?_ ?_|fail)
 refine Cj [112] ?_;have bd:=A5J h b f cs;simp only[bd];refine AI (ι:={j:Nat//j<=cs.length}) (λj=>⟨[(2,.bp 2 [] 0),(3,.bp 3 [] 0),(4,.bp 4 [] 0),(7,.bp 37 [] 0),(9,.p T3 1),(10,.p Bx (Gy 2 b.length)),(11,.p Bx (Gy (2+b.length) f.length)),(12,.sr 142 T3 0 (Gy (2+b.length+f.length) j.1).length),(115,.p LO cs),(116,.p (.int .i64) (cs.length:Int)),(117,.p (.int .i64) (j.1:Int))],Dm h (w4 h b f cs j.1)++[(142,.arr 3 T3 (Gy (2+b.length+f.length) j.1)),(4,.box 34 true [.raw (.slice none 0 0)]),(3,.box 41 true [.p T3 tp,.p T3 ix,.p CV b,.p Jy f,.p LO cs]),(2,.box 26 true [.p Qu h.1,.p SZ h.2])]⟩) (λj=>cs.length-j.1) ⟨0,Do _⟩ (AC [(2,.nm 2),(3,.nm 3),(4,.nm 4),(37,.nm 37),(200,.nm 200),(142,.nil)] rfl rfl ?_ ?_) (λj=>?_)
 .simp only[Dm,To,iS];first|exact eN|refine eM ?_
  rfl
 .simp only[Dm,To,iS];first|exact eN|refine eM ?_
  rfl
 obtain⟨j,H⟩:=j;have y:=sJ h b f cs H;have ae:=HX (2+b.length+f.length) j;have w:=λq=>A2M h b f cs (i:=j) q;have t:=Wz (2+b.length+f.length) j;simp only[Dm,To,iS];repeat'(first|exact a6|apply eS rfl|apply AB|refine rP c ?_ ?_|fail)
 refine rC ?_ ?_<;>intro g
 .have z:j<cs.length:=by exact eV
  have w:=w z;have P:cs.getD j (0,0)∈cs:=Aw z;obtain⟨ah,ai⟩:=A6t (m:=(tp,ix,b,f,cs)) P;have o:=E _ ah;have s:=E _ ai;simp only at o s;generalize al:w4 h b f cs j=A at *;generalize N:Gy (2+b.length+f.length) j=L at *;repeat'(first|exact a6|apply eS rfl|apply AB|refine rP c ?_ ?_|fail)
  .exact g
  generalize au:cs.getD j (0,0)=e at *;have B:=C e.1 o.1 o.2;have Q:=C e.2 s.1 s.2;have bm:=O6 h A ⟨#[113,101,113]⟩;have h1:=AAG h A e;have J:=AAH h A e;rw[<-B]at h1 J;rw[<-Q]at J;rw[<-w]at J;refine cP 1 c ?_ ?_
  .trivial
  refine rM c (Gx h A O1 ⟨#[113,101,113]⟩) [(1,.nm 37),(2,.nm 200)] [200] ?_ ?_ ?_
  .first|exact eN|refine eM ?_
  .first|exact eN|refine eM ?_
  rintro _ _ ⟨rfl,rfl⟩;refine⟨[(37,.nm 1),(200,.nm 2)],.p T3 (A.length:Int),Dm h (JJ h A ⟨#[113,101,113]⟩),rfl,rfl,?_,?_,rfl,rfl,?_⟩
  .simp only[IP,Dm];first|exact eN|refine eM ?_
  .first|exact eN|refine eM ?_
  simp only[Dm];refine rL c ?_ ?_
  .trivial
  repeat'(first|exact a6|apply eS rfl|apply AB|refine rP c ?_ ?_|fail)
  refine cP 7 c ?_ ?_
  .rw[F];exact o
  refine rM c (Et h (JJ h A ⟨#[113,101,113]⟩) O1 (n:=(A.length:Int)) O1 O1 (by unfold JJ;rw[Qt];simp) ⟨#[72,73,71,72]⟩ ((Gy 2 b.length).getD e.1.toNat 0)) [(1,.nm 37),(2,.nm 200)] [200] ?_ ?_ ?_
  .first|exact eN|refine eM ?_
  .first|exact eN|refine eM ?_
  rintro _ _ ⟨rfl,rfl⟩;refine⟨[(37,.nm 1),(200,.nm 2)],.raw (.tuple #[]),Dm h (A++[(Ar h ⟨#[113,101,113]⟩,[(BO h ⟨#[72,73,71,72]⟩,(Gy 2 b.length).getD e.1.toNat 0)])]),rfl,rfl,?_,?_,rfl,rfl,?_⟩
  .simp only[IP,Dm,h1];first|exact eN|refine eM ?_
  .first|exact eN|refine eM ?_
  simp only[Dm];refine rL c ?_ ?_
  .trivial
  repeat'(first|exact a6|apply eS rfl|apply AB|refine rP c ?_ ?_|fail)
  refine cP 7 c ?_ ?_
  .rw[F];exact s
  refine rM c (Et h (A++[(Ar h ⟨#[113,101,113]⟩,[(BO h ⟨#[72,73,71,72]⟩,(Gy 2 b.length).getD e.1.toNat 0)])]) (by simp only[IS,nO];omega) (n:=(A.length:Int)) O1 (by simp only[IS,nO];omega) (by rw[Qt];simp) ⟨#[76,79,87]⟩ ((Gy 2 b.length).getD e.2.toNat 0)) [(1,.nm 37),(2,.nm 200)] [200] ?_ ?_ ?_
  .first|exact eN|refine eM ?_
  .first|exact eN|refine eM ?_
  rintro _ _ ⟨rfl,rfl⟩;refine⟨[(37,.nm 1),(200,.nm 2)],.raw (.tuple #[]),Dm h (w4 h b f cs (j+1)),rfl,rfl,?_,?_,rfl,rfl,?_⟩
  .simp only[IP,Dm,J];first|exact eN|refine eM ?_
  .first|exact eN|refine eM ?_
  simp only[Dm];refine rL c ?_ ?_
  .trivial
  repeat'(first|exact a6|apply eS rfl|apply AB|refine rP c ?_ ?_|fail)
  .simp only[AP];omega
  .exact eV
  have cb:=sJ h b f cs z;refine⟨⟨j+1,O1⟩,a2,AC [(2,.nm 2),(3,.nm 3),(4,.nm 4),(37,.nm 37),(200,.nm 200),(142,.nm 142)] rfl rfl ?_ ?_⟩
  .simp only[Dm,To,iS,t,y];first|exact eN|refine eM ?_
  simp only[Dm,To,iS,t,y];first|exact eN|refine eM ?_
 have z:j=cs.length:=by omega
 subst z;repeat'(first|exact a6|apply eS rfl|apply AB|refine rP c ?_ ?_|fail)
 refine Cj [142] ?_;have an:=A5K h tp ix b f cs;simp only[an];clear an w y ae t;obtain⟨bj,bk⟩:=A6u (tp,ix,b,f,cs);have o:=E _ bj;have s:=E _ bk;simp only at o s;have B:=C tp o.1 o.2;have Q:=C ix s.1 s.2;have bv:pN (tp,ix,b,f,cs)=2+b.length+f.length+cs.length:=rfl;have bx:qN (tp,ix,b,f,cs)=pN (tp,ix,b,f,cs)+f.length+2:=rfl;have be:wP (tp,ix,b,f,cs)=Gy (2+b.length) f.length:=rfl;have ax:wQ (tp,ix,b,f,cs)=Gy (2+b.length+f.length) cs.length:=rfl;have l:=A8o h (tp,ix,b,f,cs);have W:=A5L h (tp,ix,b,f,cs) [] [] (BO h ⟨#[84,79,80]⟩) ((Gy 2 b.length).getD tp.toNat 0);have X:=A5L h (tp,ix,b,f,cs) [(BO h ⟨#[84,79,80]⟩,2+tp)] [] (BO h ⟨#[73,78,68,69,88]⟩) ((Gy 2 b.length).getD ix.toNat 0);simp only[AAu,iS,AC3]at W X;rw[B]at W;rw[Q]at X;have T:=A5M h (tp,ix,b,f,cs);simp only at T;have af:=λL D (N:L.length<=10) ar=>AAI I r ak L D N ar;obtain⟨bb,aw,bg⟩:=A2L I r ak;generalize bu:(tp,ix,b,f,cs)=m at *;have bt:=HX (2+b.length) f.length;have bs:=HX (2+b.length+f.length) cs.length;have O:=bQ h (pN m) (Gy (2+b.length) f.length);refine cP 7 c ?_ ?_
 .rw[F];exact o
 refine rM c (Et h (W6 h m []) (by rw[l];omega) (n:=1) O1 (by rw[l];omega) (by simpa using bS h m [] [] sc) ⟨#[84,79,80]⟩ ((Gy 2 b.length).getD tp.toNat 0)) [(1,.nm 37),(2,.nm 200)] [200] ?_ ?_ ?_
 .first|exact eN|refine eM ?_
 .first|exact eN|refine eM ?_
 rintro _ _ ⟨rfl,rfl⟩;refine⟨[(37,.nm 1),(200,.nm 2)],.raw (.tuple #[]),Dm h (W6 h m [(BO h ⟨#[84,79,80]⟩,2+tp)]),rfl,rfl,?_,?_,rfl,rfl,?_⟩
 .simp only[IP,Dm,B,W,l];first|exact eN|refine eM ?_
 .first|exact eN|refine eM ?_
 simp only[Dm];refine rL c ?_ ?_
 .trivial
 repeat'(first|exact a6|apply eS rfl|apply AB|refine rP c ?_ ?_|fail)
 refine cP 7 c ?_ ?_
 .rw[F];exact s
 refine rM c (Et h (W6 h m [(BO h ⟨#[84,79,80]⟩,2+tp)]) (by rw[l];omega) (n:=1) O1 (by rw[l];omega) (by simpa using bS h m [(BO h ⟨#[84,79,80]⟩,2+tp)] [] sc) ⟨#[73,78,68,69,88]⟩ ((Gy 2 b.length).getD ix.toNat 0)) [(1,.nm 37),(2,.nm 200)] [200] ?_ ?_ ?_
 .first|exact eN|refine eM ?_
 .first|exact eN|refine eM ?_
 rintro _ _ ⟨rfl,rfl⟩;refine⟨[(37,.nm 1),(200,.nm 2)],.raw (.tuple #[]),Dm h (W6 h m [(BO h ⟨#[84,79,80]⟩,2+tp),(BO h ⟨#[73,78,68,69,88]⟩,2+ix)]),rfl,rfl,?_,?_,rfl,rfl,?_⟩
 .simp only[IP,Dm,Q,X,l];first|exact eN|refine eM ?_
 .first|exact eN|refine eM ?_
 simp only[Dm];refine rL c ?_ ?_
 .trivial
 repeat'(first|exact a6|apply eS rfl|apply AB|refine rP c ?_ ?_|fail)
 refine cP 4 c ?_ ?_
 .trivial
 refine rM c (i5 h (W6 h m [(BO h ⟨#[84,79,80]⟩,2+tp),(BO h ⟨#[73,78,68,69,88]⟩,2+ix)]) (by rw[l];omega) (K:=12) (by simpa using af [(BO h ⟨#[84,79,80]⟩,2+tp),(BO h ⟨#[73,78,68,69,88]⟩,2+ix)] [] sc (λx bn=>by cases bn)) O1 (Gy (2+b.length) f.length) O1) [(1,.nm 37),(2,.nm 200)] [200] ?_ ?_ ?_
 .first|exact eN|refine eM ?_
 .first|exact eN|refine eM ?_
 rintro _ _ ⟨rfl,rfl⟩;refine⟨[(37,.nm 1),(200,.nm 2)],.p T3 (pN m:Int),Dm h (W6 h m [(BO h ⟨#[84,79,80]⟩,2+tp),(BO h ⟨#[73,78,68,69,88]⟩,2+ix)]++Wx h (pN m) (Gy (2+b.length) f.length)),rfl,rfl,?_,?_,rfl,rfl,?_⟩
 .simp only[IP,Dm,sG,l];first|exact eN|refine eM ?_
 .first|exact eN|refine eM ?_
  all_goals rw[l]
 simp only[Dm];have aj:=A5L h m [(BO h ⟨#[84,79,80]⟩,2+tp),(BO h ⟨#[73,78,68,69,88]⟩,2+ix)] (Wx h (pN m) (Gy (2+b.length) f.length)) (BO h ⟨#[82,69,76,83]⟩) (pN m:Int);simp only[To,iS]at aj;refine rM c (Et h (W6 h m [(BO h ⟨#[84,79,80]⟩,2+tp),(BO h ⟨#[73,78,68,69,88]⟩,2+ix)]++Wx h (pN m) (Gy (2+b.length) f.length)) (by rw[IS,l,O];omega) (n:=1) O1 (by rw[IS,l,O];omega) (bS h m [(BO h ⟨#[84,79,80]⟩,2+tp),(BO h ⟨#[73,78,68,69,88]⟩,2+ix)] _ sc) ⟨#[82,69,76,83]⟩ (pN m:Int)) [(1,.nm 37),(2,.nm 200)] [200] ?_ ?_ ?_
 .first|exact eN|refine eM ?_
 .first|exact eN|refine eM ?_
 rintro _ _ ⟨rfl,rfl⟩;refine⟨[(37,.nm 1),(200,.nm 2)],.raw (.tuple #[]),Dm h (W6 h m [(BO h ⟨#[84,79,80]⟩,2+tp),(BO h ⟨#[73,78,68,69,88]⟩,2+ix),(BO h ⟨#[82,69,76,83]⟩,(pN m:Int))]++Wx h (pN m) (Gy (2+b.length) f.length)),rfl,rfl,?_,?_,rfl,rfl,?_⟩
 .simp only[IP,Dm,aj];first|exact eN|refine eM ?_
 .first|exact eN|refine eM ?_
 simp only[Dm];refine rL c ?_ ?_
 .trivial
 repeat'(first|exact a6|apply eS rfl|apply AB|refine rP c ?_ ?_|fail)
 have ay:=bQ h (qN m) (Gy (2+b.length+f.length) cs.length);have ab:(W6 h m [(BO h ⟨#[84,79,80]⟩,2+tp),(BO h ⟨#[73,78,68,69,88]⟩,2+ix),(BO h ⟨#[82,69,76,83]⟩,(pN m:Int))]++Wx h (pN m) (Gy (2+b.length) f.length)).length=qN m:=by rw[IS,l,O];omega
 refine cP 4 c ?_ ?_
 .trivial
 refine rM c (i5 h (W6 h m [(BO h ⟨#[84,79,80]⟩,2+tp),(BO h ⟨#[73,78,68,69,88]⟩,2+ix),(BO h ⟨#[82,69,76,83]⟩,(pN m:Int))]++Wx h (pN m) (Gy (2+b.length) f.length)) (by rw[ab];omega) (K:=12) (af [(BO h ⟨#[84,79,80]⟩,2+tp),(BO h ⟨#[73,78,68,69,88]⟩,2+ix),(BO h ⟨#[82,69,76,83]⟩,(pN m:Int))] _ sc (AAJ h _ _)) O1 (Gy (2+b.length+f.length) cs.length) O1) [(1,.nm 37),(2,.nm 200)] [200] ?_ ?_ ?_
 .first|exact eN|refine eM ?_
 .first|exact eN|refine eM ?_
 rintro _ _ ⟨rfl,rfl⟩;refine⟨[(37,.nm 1),(200,.nm 2)],.p T3 (qN m:Int),Dm h (W6 h m [(BO h ⟨#[84,79,80]⟩,2+tp),(BO h ⟨#[73,78,68,69,88]⟩,2+ix),(BO h ⟨#[82,69,76,83]⟩,(pN m:Int))]++(Wx h (pN m) (Gy (2+b.length) f.length)++Wx h (qN m) (Gy (2+b.length+f.length) cs.length))),rfl,rfl,?_,?_,rfl,rfl,?_⟩
 .simp only[IP,Dm,sG,ab,AA8];first|exact eN|refine eM ?_
 .first|exact eN|refine eM ?_
  all_goals(rw[<-IS,ab])
 simp only[Dm];have Y:=A5L h m [(BO h ⟨#[84,79,80]⟩,2+tp),(BO h ⟨#[73,78,68,69,88]⟩,2+ix),(BO h ⟨#[82,69,76,83]⟩,(pN m:Int))] (Wx h (pN m) (Gy (2+b.length) f.length)++Wx h (qN m) (Gy (2+b.length+f.length) cs.length)) (BO h ⟨#[67,79,78,83]⟩) (qN m:Int);simp only[To,iS]at Y;rw[be,ax]at T;rw[T]at Y;refine rM c (Et h (W6 h m [(BO h ⟨#[84,79,80]⟩,2+tp),(BO h ⟨#[73,78,68,69,88]⟩,2+ix),(BO h ⟨#[82,69,76,83]⟩,(pN m:Int))]++(Wx h (pN m) (Gy (2+b.length) f.length)++Wx h (qN m) (Gy (2+b.length+f.length) cs.length))) (by rw[IS,IS,l,O,ay];omega) (n:=1) O1 (by rw[IS,l];omega) (bS h m [(BO h ⟨#[84,79,80]⟩,2+tp),(BO h ⟨#[73,78,68,69,88]⟩,2+ix),(BO h ⟨#[82,69,76,83]⟩,(pN m:Int))] _ sc) ⟨#[67,79,78,83]⟩ (qN m:Int)) [(1,.nm 37),(2,.nm 200)] [200] ?_ ?_ ?_
 .first|exact eN|refine eM ?_
 .first|exact eN|refine eM ?_
 rintro _ _ ⟨rfl,rfl⟩;refine⟨[(37,.nm 1),(200,.nm 2)],.raw (.tuple #[]),Dm h (D9 h m),rfl,rfl,?_,?_,rfl,rfl,?_⟩
 .simp only[IP,Dm,Y];first|exact eN|refine eM ?_
 .first|exact eN|refine eM ?_
 simp only[Dm];refine rL c ?_ ?_
 .trivial
 repeat'(first|exact a6|apply eS rfl|apply AB|refine rP c ?_ ?_|fail)
 refine Cj [200] ?_;clear T Y aj X W af;repeat'(first|exact a6|apply eS rfl|apply AB|refine rP c ?_ ?_|fail)
 .exact bg
 refine rC ?_ ?_<;>intro g
 .exact absurd aw (by simpa using g)
 repeat'(first|exact a6|apply eS rfl|apply AB|refine rP c ?_ ?_|fail)
 .exact bb
 refine rC ?_ ?_<;>intro g
 .have hf:(EH h (A3 (D9 h m)).1).2=false:=by simpa using g
  rw[An (by rw[hf];simp)];repeat'(first|exact a6|apply eS rfl|apply AB|refine rX c ?_ ?_|refine rC ?_ ?_<;>intro g<;>try(cases g;done))
  exact fI c [.cell 4 34,.tmp 5] (by first|exact eR|refine KP ?_;rfl)
 have hf:(EH h (A3 (D9 h m)).1).2=true:=by simpa using g
 rw[At hf];repeat'(first|exact a6|apply eS rfl|apply AB|refine rX c ?_ ?_|refine rC ?_ ?_<;>intro g<;>try(cases g;done))
 exact fI c [.cell 4 34,.tmp 5]
end
section
attribute [local go_sem] Je LP LK Nj KW JH OX
abbrev HY:=ByteArray×Int×Int×List ByteArray×List ByteArray
def A5N:AZ:={ ins:=[.int .u8,.int .u8,.int .u8],pre:=λ_=>True,out:=λ(c,a,b,_)=>[.p .bool (CP a b c)] }
attribute [local go_sem] A5N
theorem A8p:Ac Tryz.prog 120 A5N:=by
 refine fK [0,1,2,6] Tryz.func120 Tryz.ntmps120 AH ?_;rintro w0 O0 ⟨c,a,b,u⟩ d - -;simp only[A5N,AL];repeat'(first|exact a6|apply eS rfl|apply AB|refine rX d ?_ ?_|refine rC ?_ ?_<;>intro e<;>try(cases e;done))
 exact fI d [.tmp 6] (by first|exact eR|refine KP ?_;rfl)
def nxB (r:HY) (c:Int):Bool:=r.2.2.1==0&&decide (r.2.1<(r.1.size:Int))&&Nh r.1 r.2.1.toNat==c
def A5O:AZ:={ ins:=[XG,.int .u8],pre:=λ(r,_,_)=>0<=(r:HY).2.1,out:=λ(r,c,_)=>[.p .bool (nxB r c)] }
attribute [local go_sem] A5O
theorem A2O:Ac Tryz.prog 121 A5O:=by
 refine fK [0,1,2,4] Tryz.func121 Tryz.ntmps121 AH ?_;rintro w0 O0 ⟨⟨s,n,e,so,te⟩,c,u⟩ a-h0;have h0:0<=n:=h0;simp only[A5O,AL];repeat'(first|exact a6|apply eS rfl|apply AB|refine rX a ?_ ?_|refine rC ?_ ?_<;>intro b<;>try(cases b;done))
 .intro q;simp only[AT,IN]at q;exact⟨h0,q.2⟩
 exact fI a [.tmp 4] (by first|exact eR|refine KP ?_;rfl)
def i9:AZ:={ ins:=[XG,T9],pre:=λ(r,w,_)=>ByteArray.size (r:HY).1<=1000/\(r:HY).2.2.1=0/\0<=(r:HY).2.1/\(r:HY).2.1+(ByteArray.size w:Int)<=(ByteArray.size (r:HY).1:Int)/\∀i,i<ByteArray.size w->Nh (r:HY).1 ((r:HY).2.1.toNat+i)=Nh w i,out:=λ(r,w,_)=>[.p XG ((r:HY).1,(r:HY).2.1+(ByteArray.size w:Int),(0:Int),(r:HY).2.2.2.1,(r:HY).2.2.2.2)] }
attribute [local go_sem] i9
theorem bT:Ac Tryz.prog 70 i9:=by
 refine fK [0,1,2,4,5,14,33] Tryz.func70 Tryz.ntmps70 AH ?_;rintro w0 O0 ⟨⟨s,n,e,so,te⟩,w,u⟩ c-⟨f,h0,h1,d,b⟩;have f:s.size<=1000:=f;have h0:e=0:=h0;have h1:0<=n:=h1;have d:n+(w.size:Int)<=(s.size:Int):=d;have b:∀i,i<w.size->Nh s (n.toNat+i)=Nh w i:=b;subst h0;dsimp only[Ty.den]at *;simp only[i9,AL];repeat'(first|exact a6|apply eS rfl|apply AB|refine rX c ?_ ?_|refine rC ?_ ?_<;>intro a<;>try(cases a;done))
 refine AI (ι:={k:Nat//k<=w.size}) (λk=>⟨[(1,.p T9 w),(2,.bp 2 [] 0),(4,.bp 4 [] 0),(5,.p (.int .i64) (k.1:Int))],[(4,.box 133 true [.p T9 ByteArray.empty,.p T3 0,.p C0 0,.raw (.slice none 0 0),.raw (.slice none 0 0)]),(2,.box 133 true [.p T9 s,.p T3 (n+(k.1:Int)),.p C0 0,.p CV so,.p CV te])]⟩) (λk=>w.size-k.1) ⟨0,Do _⟩ (AC [(2,.nm 2),(4,.nm 4)] rfl rfl ?_ ?_) (λk=>?_)
 .first|exact eN|refine eM ?_
  all_goals exact eV
 .first|exact eN|refine eM ?_
  all_goals exact eV
 obtain⟨k,hk⟩:=k;simp only;repeat'(first|exact a6|apply eS rfl|apply AB|refine rX c ?_ ?_|refine rC ?_ ?_<;>intro a<;>try(cases a;done))
 .exact⟨λ_=>⟨eV,eV⟩,λ_=>a⟩
 .exfalso;rcases a with q|q
  .exact eV
  exact q (by rw[show (n+(k:Int)).toNat=n.toNat+k by exact eV];exact b k eV)
 .exact eV
 .exact eV
 .refine⟨⟨k+1,eV⟩,a2,AC [(2,.nm 2),(4,.nm 4)] rfl rfl ?_ ?_⟩
  .first|exact eN|refine eM ?_
   all_goals exact eV
  first|exact eN|refine eM ?_
  all_goals exact eV
 have e:n+(w.size:Int)=n+(k:Int):=by exact eV
 exact fI c [.cell 4 133] (by rw[e];exact eR)
theorem A8q (s w:ByteArray) (n:Int) (so te:List ByteArray) (j:s.size<=1000) (h1:0<=n) (f:n+(w.size:Int)<=(s.size:Int)) (c:∀i,i<w.size->Nh s (n.toNat+i)=Nh w i):BE Tryz.prog 70 [.ag [.p T9 s,.p T3 (n),.p C0 0,.sr 501 T9 0 so.length,.sr 502 T9 0 te.length],.p T9 w] [(501,.arr 9 T9 so),(502,.arr 9 T9 te)] [] (λres d=>res=.ag [.p T9 s,.p T3 (n+(w.size:Int)),.p C0 0,.sr 501 T9 0 so.length,.sr 502 T9 0 te.length]/\d=[(4,.box 133 true [.p T9 s,.p T3 (n+(w.size:Int)),.p C0 0,.sr 501 T9 0 so.length,.sr 502 T9 0 te.length]),(501,.arr 9 T9 so),(502,.arr 9 T9 te)]):=by
 refine Jx [0,1,2,4,5,14,33] [] [] Tryz.func70 Tryz.ntmps70 AH ?_;intro w0 K O0 ρ0 b g h;simp only[Ap];repeat'(first|exact a6|apply eS rfl|apply AB|refine rX b ?_ ?_|refine rC ?_ ?_<;>intro a<;>try(cases a;done))
 refine AI (ι:={k:Nat//k<=w.size}) (λk=>⟨[(1,.p T9 w),(2,.bp 2 [] 0),(4,.bp 4 [] 0),(5,.p (.int .i64) (k.1:Int))],[(4,.box 133 true [.p T9 ByteArray.empty,.p T3 0,.p C0 0,.raw (.slice none 0 0),.raw (.slice none 0 0)]),(2,.box 133 true [.p T9 s,.p T3 (n+(k.1:Int)),.p C0 0,.sr 501 T9 0 so.length,.sr 502 T9 0 te.length]),(501,.arr 9 T9 so),(502,.arr 9 T9 te)]⟩) (λk=>w.size-k.1) ⟨0,Do _⟩ (AC [(2,.nm 2),(4,.nm 4),(501,.nm 501),(502,.nm 502)] rfl rfl ?_ ?_) (λk=>?_)
 .first|exact eN|refine eM ?_
  all_goals exact eV
 .first|exact eN|refine eM ?_
  all_goals exact eV
 obtain⟨k,hk⟩:=k;simp only;repeat'(first|exact a6|apply eS rfl|apply AB|refine rX b ?_ ?_|refine rC ?_ ?_<;>intro a<;>try(cases a;done))
 .exact⟨λ_=>⟨eV,eV⟩,λ_=>a⟩
 .exfalso;rcases a with q|q
  .exact eV
  exact q (by rw[show (n+(k:Int)).toNat=n.toNat+k by omega];exact c k eV)
 .exact eV
 .exact eV
 .refine⟨⟨k+1,eV⟩,a2,AC [(2,.nm 2),(4,.nm 4),(501,.nm 501),(502,.nm 502)] rfl rfl ?_ ?_⟩
  .first|exact eN|refine eM ?_
   all_goals exact eV
  first|exact eN|refine eM ?_
  all_goals exact eV
 have e:n+(w.size:Int)=n+(k:Int):=by exact eV
 rw[e];refine Ev.ent (σ':=⟨[(4,.bp 4 [] 0)],[(4,.box 133 true [.p T9 s,.p T3 (n+(k:Int)),.p C0 0,.sr 501 T9 0 so.length,.sr 502 T9 0 te.length]),(501,.arr 9 T9 so),(502,.arr 9 T9 te)]⟩) ?_ (AC [(4,.nm 4),(501,.nm 501),(502,.nm 502)] rfl rfl ?_ ?_)
 .exact fM b [.cell 4 133] (.ag [.p T9 s,.p T3 (n+(k:Int)),.p C0 0,.sr 501 T9 0 so.length,.sr 502 T9 0 te.length]) eT ⟨rfl,rfl⟩
 .first|exact eN|refine eM ?_
 first|exact eN|refine eM ?_
theorem sK (s:ByteArray) (n:Int) (so te:List ByteArray) (z:s.size<=1000) (h1:0<=n) (u:n+2<(s.size:Int)) (h:s.extract n.toNat (n+1).toNat=⟨#[104]⟩) (d:Nh s (n+1).toNat=48) (j:s.extract (n+1).toNat (n+2).toNat=⟨#[48]⟩) (v:so.length<=10) (w:te.length<=10):BE Tryz.prog 69 [.ag [.p T9 s,.p T3 (n),.p C0 0,.sr 501 T9 0 so.length,.sr 502 T9 0 te.length]] [(501,.arr 9 T9 so),(502,.arr 9 T9 te)] [] (λres t=>res=.tup [.ag [.p T9 s,.p T3 (n+2),.p C0 0,.sr 501 T9 0 (so++[(⟨#[104]⟩:ByteArray)]).length,.sr 502 T9 0 (te++[(⟨#[48]⟩:ByteArray)]).length],.p T3 (te.length:Int)]/\t=[(2,.box 133 true [.p T9 s,.p T3 (n+2),.p C0 0,.sr 501 T9 0 (so++[(⟨#[104]⟩:ByteArray)]).length,.sr 502 T9 0 (te++[(⟨#[48]⟩:ByteArray)]).length]),(501,.arr 9 T9 (so++[(⟨#[104]⟩:ByteArray)])),(502,.arr 9 T9 (te++[(⟨#[48]⟩:ByteArray)]))]):=by
 refine Jx [0,1,2,3,4,5,8,27,56,87] [95,106] [] Tryz.func69 Tryz.ntmps69 (AE Se (AE A8p AH)) ?_;intro w0 K O0 ρ0 a x y;have r:VW ⟨#[104]⟩=true:=by decide +kernel
 have f:CP 48 57 48=true:=by decide
 have m:∀n:Int,n+1+((0:Nat):Int)=n+1:=λn=>by omega
 have o:∀n:Int,n+1+((1:Nat):Int)=n+2:=λn=>by omega
 simp only[Ap];repeat'(first|exact a6|apply eS rfl|apply AB|refine rX a ?_ ?_|refine rC ?_ ?_<;>intro b<;>try(cases b;done))
 all_goals try simp only[h,d,r,f]at b ⊢
 .exact eV
 .exfalso;rcases b with q|q
  .omega
  cases q
 .exact eV
 .exact eV
 .exact eV
 .exfalso;rcases b with q|q
  .omega
  cases q
 refine AI (ι:={k:Nat//k<=1}) (λk=>⟨[(1,.bp 1 [] 0),(2,.bp 2 [] 0),(4,.p T9 ⟨#[104]⟩),(5,.p (.int .i64) (n+1))],[(2,.box 133 true [.p T9 ByteArray.empty,.p T3 0,.p C0 0,.raw (.slice none 0 0),.raw (.slice none 0 0)]),(1,.box 133 true [.p T9 s,.p T3 (n+1+(k.1:Int)),.p C0 0,.sr 501 T9 0 so.length,.sr 502 T9 0 te.length]),(501,.arr 9 T9 so),(502,.arr 9 T9 te)]⟩) (λk=>1-k.1) ⟨0,O1⟩ (AC [(1,.nm 1),(2,.nm 2),(501,.nm 501),(502,.nm 502)] rfl rfl ?_ ?_) (λk=>?_)
 .first|exact eN|refine eM ?_
  all_goals exact eV
 .first|exact eN|refine eM ?_
  all_goals exact eV
 obtain⟨k,hk⟩:=k;simp only;repeat'(first|exact a6|apply eS rfl|apply AB|refine rP a ?_ ?_|fail)
 refine rX a ?_ ?_
 .exact⟨λq=>⟨eV,q⟩,λ_=>⟨eV,eV⟩⟩
 repeat'(first|exact a6|apply eS rfl|apply AB|refine rP a ?_ ?_|fail)
 refine rC ?_ ?_<;>intro b
 .have e:k=0:=by
   rcases b.2 with q|q
   .omega
   exact absurd d q
  subst e;repeat'(first|exact a6|apply eS rfl|apply AB|refine rX a ?_ ?_|refine rC ?_ ?_<;>intro b<;>try(cases b;done))
  .exact eV
  refine⟨⟨1,O1⟩,a2,AC [(1,.nm 1),(2,.nm 2),(501,.nm 501),(502,.nm 502)] rfl rfl ?_ ?_⟩
  .first|exact eN|refine eM ?_
   all_goals exact eV
  first|exact eN|refine eM ?_
  all_goals exact eV
 have l:k=1:=by
  refine DO λq=>?_;have e:k=0:=by omega
  subst e;have c:=m n;rw[c]at b;have i:((s.data.getD (n+1).toNat 0).toNat:Int)=48:=d;have:=b ⟨O1,by rw[i];exact f⟩;exact this.1 rfl
 subst l;have c:=o n;simp only[c];repeat'(first|exact a6|apply eS rfl|apply AB|refine rP a ?_ ?_|fail)
 .simp only[AP];omega
 refine rX a ?_ ?_
 .simp only[AP];exact⟨⟨eV,eV,eV⟩,eV⟩
 repeat'(first|exact a6|apply eS rfl|apply AB|refine rP a ?_ ?_|fail)
 refine L2 drawsAny a 6 [([0],5)] [1,2,3,4] a5 (mxA ?_ ?_)
 .exact eV
 refine mxL a [] ?_ ?_
 .trivial
 refine mxE a ?_ ?_ ?_
 .exact eV
 .trivial
 repeat'(first|exact a6|apply eS rfl|apply AB|refine rX a ?_ ?_|refine rC ?_ ?_<;>intro b<;>try(cases b;done))
 have g:(te.length:Int)+1-1=(te.length:Int):=by omega
 simp only[g,j];refine Ev.ent (σ':=⟨[(2,.bp 2 [] 0),(3,.p (.int .i64) (te.length:Int))],[(2,.box 133 true [.p T9 s,.p T3 (n+2),.p C0 0,.sr 501 T9 0 (so++[(⟨#[104]⟩:ByteArray)]).length,.sr 502 T9 0 (te++[(⟨#[48]⟩:ByteArray)]).length]),(501,.arr 9 T9 (so++[(⟨#[104]⟩:ByteArray)])),(502,.arr 9 T9 (te++[(⟨#[48]⟩:ByteArray)]))]⟩) ?_ (AC [(2,.nm 2),(501,.nm 501),(502,.nm 502)] rfl rfl ?_ ?_)
 .exact fM a [.cell 2 133,.tmp 3] (.tup [.ag [.p T9 s,.p T3 (n+2),.p C0 0,.sr 501 T9 0 (so++[(⟨#[104]⟩:ByteArray)]).length,.sr 502 T9 0 (te++[(⟨#[48]⟩:ByteArray)]).length],.p T3 (te.length:Int)]) eT ⟨rfl,rfl⟩
 .first|exact eN|refine eM ?_
  all_goals simp
 first|exact eN|refine eM ?_
end
section
attribute [local go_sem] A5N A5O i9 Zj Jd LP LK Nj KW JH OX
def sL:AZ:={ ins:=[T9],pre:=λ(s,_)=>(s:ByteArray)=⟨#[48]⟩,out:=λ_=>[.p T3 0,.p C0 0] }
attribute [local go_sem] sL
theorem A5P:Ac Tryz.prog 124 sL:=by
 refine fK [0,2,3,4,5,6,7,8,17,36,40,47,51,63,72,77] Tryz.func124 Tryz.ntmps124 (AE VM AH) ?_;rintro w0 O0 ⟨s,u⟩ b-hs;have hs:s=⟨#[48]⟩:=hs;have g:s.size=1:=by rw[hs];rfl
 have h0:((s.data.getD 0 0).toNat:Int)=48:=by rw[hs];rfl
 have d:AK s ⟨#[]⟩=false:=by rw[hs];decide +kernel
 clear hs;simp only[sL,AL];repeat'(first|exact a6|apply eS rfl|apply AB|refine rP b ?_ ?_|fail)
 refine rX b ?_ ?_
 .exact id
 repeat'(first|exact a6|apply eS rfl|apply AB|refine rP b ?_ ?_|fail)
 refine rC (λa=>?_) (λ_=>?_)
 .exfalso;have:=a.2;omega
 repeat'(first|exact a6|apply eS rfl|apply AB|refine rP b ?_ ?_|fail)
 refine rX b ?_ ?_
 .intro _;exact eV
 repeat'(first|exact a6|apply eS rfl|apply AB|refine rP b ?_ ?_|fail)
 refine rC (λa=>?_) (λ_=>?_)
 .exfalso;rcases a with q|q
  .rw[d]at q;cases q
  omega
 repeat'(first|exact a6|apply eS rfl|apply AB|refine rP b ?_ ?_|fail)
 refine AI (ι:={k:Nat//k<=1}) (λk=>⟨[(0,.p T9 s),(4,.p T9 s),(5,.p (.int .i64) (k.1:Int))],[]⟩) (λk=>1-k.1) ⟨0,O1⟩ (AC [] rfl rfl ?_ ?_) (λk=>?_)
 .first|exact eN|refine eM ?_
 .first|exact eN|refine eM ?_
 obtain⟨k,hk⟩:=k;simp only;repeat'(first|exact a6|apply eS rfl|apply AB|refine rX b ?_ ?_|refine rC ?_ ?_<;>intro a<;>try(cases a;done))
 .exact eV
 .exfalso;have c:k=0:=by omega
  subst c;rw[h0]at a;exact absurd a df
 .exact eV
 .have c:k=0:=by exact eV
  subst c;refine⟨⟨1,O1⟩,a2,AC [] rfl rfl ?_ ?_⟩
  .first|exact eN|refine eM ?_
   all_goals rfl
  first|exact eN|refine eM ?_
  all_goals rfl
 refine AI (ι:={j:Nat//j<=1}) (λj=>⟨[(0,.p T9 s),(4,.p T9 s),(6,.p (.int .u64) 0),(7,.p (.int .i64) (j.1:Int))],[]⟩) (λj=>1-j.1) ⟨0,O1⟩ (AC [] rfl rfl ?_ ?_) (λj=>?_)
 .first|exact eN|refine eM ?_
 .first|exact eN|refine eM ?_
 obtain⟨j,f⟩:=j;simp only;repeat'(first|exact a6|apply eS rfl|apply AB|refine rP b ?_ ?_|fail)
 refine rC ?_ ?_<;>intro a
 .have e:j=0:=by exact eV
  subst e;repeat'(first|exact a6|apply eS rfl|apply AB|refine rX b ?_ ?_|refine rC ?_ ?_<;>intro a<;>try(cases a;done))
  .rw[h0];exact⟨a,df,df⟩
  .rw[h0];decide
  .exfalso;rw[h0]at a;exact absurd a df
  .rw[h0];decide
  .decide
  refine⟨⟨1,O1⟩,a2,AC [] rfl rfl ?_ ?_⟩
  .first|exact eN|refine eM ?_
   all_goals(first|rfl|(rw[h0];decide))
  first|exact eN|refine eM ?_
  all_goals(first|rfl|(rw[h0];decide))
 repeat'(first|exact a6|apply eS rfl|apply AB|refine rP b ?_ ?_|fail)
 refine rC ?_ ?_<;>intro a
 .exact absurd a (Int.lt_irrefl _)
 repeat'(first|exact a6|apply eS rfl|apply AB|refine rP b ?_ ?_|fail)
 refine rC ?_ ?_<;>intro a
 .cases a
 repeat'(first|exact a6|apply eS rfl|apply AB|refine rX b ?_ ?_|refine rC ?_ ?_<;>intro a<;>try(cases a;done))
 exact fI b [.tmp 2,.tmp 3]
def A8r:AZ:={ ins:=[XG],pre:=λ(r,_)=>(r:HY).2.2.2.1=[⟨#[104]⟩,⟨#[104]⟩]/\(r:HY).2.2.2.2=[⟨#[48]⟩,⟨#[48]⟩],out:=λ_=>[.p Bx [0,0],.p CV [⟨#[104]⟩],.p C0 0] }
theorem A8s:Ac Tryz.prog 74 A8r:=by
 refine fK [0,1,2,3,4,5,6,7,8,9,10,11,12,13,14,20,33,44,49,73,77,81,88] Tryz.func74 Tryz.ntmps74 (AE A5P (AE OY AH)) ?_;rintro w0 O0 ⟨⟨s,n,e,so,te⟩,u⟩ a-⟨h1,d⟩;have h1:so=[⟨#[104]⟩,⟨#[104]⟩]:=h1;have d:te=[⟨#[48]⟩,⟨#[48]⟩]:=d;subst h1;subst d;have l:∀i:Nat,i<2->([(⟨#[48]⟩:ByteArray),⟨#[48]⟩]).getD i ByteArray.empty=⟨#[48]⟩:=λi hi=>by
  match i,hi with
  | 0,_=>rfl
  | 1,_=>rfl
 have ht:∀i:Nat,i<2->([0,0]:List Int).take i++[0]=([0,0]:List Int).take (i+1):=λi hi=>by
  match i,hi with
  | 0,_=>rfl
  | 1,_=>rfl
 have hh:∀i:Nat,i<2->([(⟨#[104]⟩:ByteArray),⟨#[104]⟩]).getD i ByteArray.empty=⟨#[104]⟩:=λi hi=>by
  match i,hi with
  | 0,_=>rfl
  | 1,_=>rfl
 have g:Ec [0,0] 0=0:=rfl;simp only[A8r,AL];repeat'(first|exact a6|apply eS rfl|apply AB|refine rP a ?_ ?_|fail)
 refine AI (ι:={i:Nat//i<=2}) (λi=>⟨[(1,.bp 1 [] 0),(5,.sr 15 T3 0 (([0,0]:List Int).take i.1).length),(6,.p (.int .i64) (if i.1=0 then (-1:Int) else 0)),(7,.p (.int .i64) (i.1:Int))],[(15,.arr 3 T3 (([0,0]:List Int).take i.1)),(1,.box 133 true [.p T9 s,.p T3 n,.p C0 e,.p CV [⟨#[104]⟩,⟨#[104]⟩],.p CV [⟨#[48]⟩,⟨#[48]⟩]])]⟩) (λi=>2-i.1) ⟨0,O1⟩ (AC [(1,.nm 1),(15,.nm 15)] rfl rfl ?_ ?_) (λi=>?_)
 .first|exact eN|refine eM ?_
 .first|exact eN|refine eM ?_
 obtain⟨i,hi⟩:=i;simp only;repeat'(first|exact a6|apply eS rfl|apply AB|refine rP a ?_ ?_|fail)
 refine rC ?_ ?_<;>intro b
 .have c:i<2:=by exact eV
  repeat'(first|exact a6|apply eS rfl|apply AB|refine rX a ?_ ?_|refine rC ?_ ?_<;>intro b<;>try(cases b;done))
  .exact⟨b,l i c⟩
  .simp only[AP,ON];omega
  .exact eV
  have h:(if (if i=0 then (-1:Int) else 0)<0 then (0:Int) else (if i=0 then (-1:Int) else 0))=(if i+1=0 then (-1:Int) else 0):=by
   rw[An (AD1 i)];by_cases q:i=0
   .rw[At q];rfl
   rw[An q];rfl
  refine⟨⟨i+1,O1⟩,a2,AC [(1,.nm 1),(15,.nm 15)] rfl rfl ?_ ?_⟩
  .simp only[<-ht i c];first|exact eN|refine eM ?_
   all_goals(rw[h,An (AD1 i)])
  simp only[<-ht i c];first|exact eN|refine eM ?_
  all_goals(rw[h,An (AD1 i)])
 have c:i=2:=by exact eV
 subst c;repeat'(first|exact a6|apply eS rfl|apply AB|refine rP a ?_ ?_|fail)
 refine Cj [15] ?_;refine AI (ι:={j:Nat//j<=2}) (λj=>⟨[(1,.bp 1 [] 0),(5,.p Bx [0,0]),(6,.p (.int .i64) 0),(10,.p (.int .i64) (j.1:Int))],[(1,.box 133 true [.p T9 s,.p T3 n,.p C0 e,.p CV [⟨#[104]⟩,⟨#[104]⟩],.p CV [⟨#[48]⟩,⟨#[48]⟩]])]⟩) (λj=>2-j.1) ⟨0,O1⟩ (AC [(1,.nm 1)] rfl rfl ?_ ?_) (λj=>?_)
 .first|exact eN|refine eM ?_
 .first|exact eN|refine eM ?_
 obtain⟨j,m⟩:=j;simp only;repeat'(first|exact a6|apply eS rfl|apply AB|refine rP a ?_ ?_|fail)
 refine rC ?_ ?_<;>intro b
 .have o:j<2:=by exact eV
  repeat'(first|exact a6|apply eS rfl|apply AB|refine rP a ?_ ?_|fail)
  refine AI (ι:={k:Nat//k<=j}) (λk=>⟨[(1,.bp 1 [] 0),(5,.p Bx [0,0]),(6,.p (.int .i64) 0),(10,.p (.int .i64) (j:Int)),(11,.p (.int .i64) (k.1:Int))],[(1,.box 133 true [.p T9 s,.p T3 n,.p C0 e,.p CV [⟨#[104]⟩,⟨#[104]⟩],.p CV [⟨#[48]⟩,⟨#[48]⟩]])]⟩) (λk=>j-k.1) ⟨0,O1⟩ (AC [(1,.nm 1)] rfl rfl ?_ ?_) (λk=>?_)
  .first|exact eN|refine eM ?_
  .first|exact eN|refine eM ?_
  obtain⟨k,hk⟩:=k;simp only;repeat'(first|exact a6|apply eS rfl|apply AB|refine rX a ?_ ?_|refine rC ?_ ?_<;>intro b<;>try(cases b;done))
  .exact⟨eV,eV,λ_=>by exact eV,λ_=>by exact eV⟩
  .exfalso;have q:=b.2;rw[hh k eV,hh j eV]at q;exact absurd q a3
  .exact eV
  .refine⟨⟨k+1,eV⟩,by simp only;exact eV,AC [(1,.nm 1)] rfl rfl ?_ ?_⟩
   .first|exact eN|refine eM ?_
   first|exact eN|refine eM ?_
  .exact eV
  refine⟨⟨j+1,eV⟩,by simp only;exact eV,AC [(1,.nm 1)] rfl rfl ?_ ?_⟩
  .first|exact eN|refine eM ?_
  first|exact eN|refine eM ?_
 repeat'(first|exact a6|apply eS rfl|apply AB|refine rP a ?_ ?_|fail)
 refine rC ?_ ?_<;>intro b
 .exact absurd b df
 repeat'(first|exact a6|apply eS rfl|apply AB|refine rP a ?_ ?_|fail)
 refine AI (ι:={i:Nat//i<=1}) (λi=>⟨[(1,.bp 1 [] 0),(5,.p Bx [0,0]),(6,.p (.int .i64) 0),(12,.sr 78 T9 0 (([⟨#[104]⟩]:List ByteArray).take i.1).length),(13,.p (.int .i64) (i.1:Int))],[(78,.arr 9 T9 (([⟨#[104]⟩]:List ByteArray).take i.1)),(1,.box 133 true [.p T9 s,.p T3 n,.p C0 e,.p CV [⟨#[104]⟩,⟨#[104]⟩],.p CV [⟨#[48]⟩,⟨#[48]⟩]])]⟩) (λi=>1-i.1) ⟨0,O1⟩ (AC [(1,.nm 1),(78,.nm 78)] rfl rfl ?_ ?_) (λi=>?_)
 .first|exact eN|refine eM ?_
 .first|exact eN|refine eM ?_
 obtain⟨i,hi⟩:=i;simp only;repeat'(first|exact a6|apply eS rfl|apply AB|refine rP a ?_ ?_|fail)
 refine rC ?_ ?_<;>intro b
 .have f:i=0:=by exact eV
  subst f;repeat'(first|exact a6|apply eS rfl|apply AB|refine rX a ?_ ?_|refine rC ?_ ?_<;>intro b<;>try(cases b;done))
  .rw[g];exact⟨⟨df,df⟩,df⟩
  .decide
  refine⟨⟨1,O1⟩,a2,AC [(1,.nm 1),(78,.nm 78)] rfl rfl ?_ ?_⟩
  .first|exact eN|refine eM ?_
   all_goals(rw[g];rfl)
  first|exact eN|refine eM ?_
  all_goals(rw[g];rfl)
 have f:i=1:=by exact eV
 subst f;repeat'(first|exact a6|apply eS rfl|apply AB|refine rP a ?_ ?_|fail)
 refine Cj [78] ?_;exact fI a [.tmp 2,.tmp 3,.tmp 4]
def AA0 (c:Int):HY->Prop:=λr=>r.1.size<=1000/\r.2.2.1=0/\0<=r.2.1/\r.2.1<(r.1.size:Int)/\Nh r.1 r.2.1.toNat=c
def n6:AZ:={ ins:=[XG],pre:=λ(r,_)=>AA0 125 r,out:=λ(r,_)=>[.p XG ((r:HY).1,(r:HY).2.1+1,(0:Int),(r:HY).2.2.2.1,(r:HY).2.2.2.2),.p Jy []] }
theorem A2P:Ac Tryz.prog 71 n6:=by
 refine fKP [0,1,2,3,4,5,6,7,21,51] [8] [] Tryz.func71 Tryz.ntmps71 (AE A2O (AE bT AH)) ?_;rintro w0 O0 ⟨⟨s,n,e,so,te⟩,u⟩ f-⟨h0,h1,a,d,b⟩;have h0:s.size<=1000:=h0;have h1:e=0:=h1;have a:0<=n:=a;have d:n<(s.size:Int):=d;have b:Nh s n.toNat=125:=b;subst h1;have hn:nxB (s,n,0,so,te) 125=true:=by
  unfold nxB;simp only[b];simpa using d
 simp only[n6,AL];repeat'(first|exact a6|apply eS rfl|apply AB|refine rP f ?_ ?_|fail)
 refine AI (ι:={i:Nat//i<=0}) (λi=>⟨[(1,.bp 1 [] 0),(2,.bp 2 [] 0),(4,.p Jy [])],[(2,.box 133 true [.p T9 ByteArray.empty,.p T3 0,.p C0 0,.raw (.slice none 0 0),.raw (.slice none 0 0)]),(1,.box 133 true [.p T9 s,.p T3 n,.p C0 0,.p CV so,.p CV te])]⟩) (λi=>0) ⟨0,O1⟩ (AC [(1,.nm 1),(2,.nm 2)] rfl rfl ?_ ?_) (λi=>?_)
 .first|exact eN|refine eM ?_
 .first|exact eN|refine eM ?_
 repeat'(first|exact a6|apply eS rfl|apply AB|refine rX f ?_ ?_|refine rC ?_ ?_<;>intro c<;>try(cases c;done))
 .exact λ_=>a
 .rw[hn]at c;cases c
 .refine⟨h0,a,?_,λi hi=>?_⟩
  .have:((⟨#[125]⟩:ByteArray).size:Int)=1:=rfl;rw[this];exact eV
  have hi:i<1:=hi;have g:i=0:=by omega
  subst g;exact b
 exact fI f [.cell 2 133,.tmp 3] (by first|exact eR|refine KP ?_;rfl)
def n7:AZ:={ ins:=[XG],pre:=λ(r,_)=>AA0 125 r,out:=λ(r,_)=>[.p XG ((r:HY).1,(r:HY).2.1+1,(0:Int),(r:HY).2.2.2.1,(r:HY).2.2.2.2),.p LO []] }
theorem A2Q:Ac Tryz.prog 72 n7:=by
 refine fKP [0,1,2,3,4,5,6,20,41] [7] [] Tryz.func72 Tryz.ntmps72 (AE A2O (AE bT AH)) ?_;rintro w0 O0 ⟨⟨s,n,e,so,te⟩,u⟩ f-⟨h0,h1,a,d,b⟩;have h0:s.size<=1000:=h0;have h1:e=0:=h1;have a:0<=n:=a;have d:n<(s.size:Int):=d;have b:Nh s n.toNat=125:=b;subst h1;have hn:nxB (s,n,0,so,te) 125=true:=by
  unfold nxB;simp only[b];simpa using d
 simp only[n7,AL];repeat'(first|exact a6|apply eS rfl|apply AB|refine rP f ?_ ?_|fail)
 refine AI (ι:={i:Nat//i<=0}) (λi=>⟨[(1,.bp 1 [] 0),(2,.bp 2 [] 0),(4,.p LO [])],[(2,.box 133 true [.p T9 ByteArray.empty,.p T3 0,.p C0 0,.raw (.slice none 0 0),.raw (.slice none 0 0)]),(1,.box 133 true [.p T9 s,.p T3 n,.p C0 0,.p CV so,.p CV te])]⟩) (λi=>0) ⟨0,O1⟩ (AC [(1,.nm 1),(2,.nm 2)] rfl rfl ?_ ?_) (λi=>?_)
 .first|exact eN|refine eM ?_
 .first|exact eN|refine eM ?_
 repeat'(first|exact a6|apply eS rfl|apply AB|refine rX f ?_ ?_|refine rC ?_ ?_<;>intro c<;>try(cases c;done))
 .exact λ_=>a
 .rw[hn]at c;cases c
 .refine⟨h0,a,?_,λi hi=>?_⟩
  .have:((⟨#[125]⟩:ByteArray).size:Int)=1:=rfl;rw[this];exact eV
  have hi:i<1:=hi;have g:i=0:=by omega
  subst g;exact b
 exact fI f [.cell 2 133,.tmp 3] (by first|exact eR|refine KP ?_;rfl)
end
section
attribute [local go_sem] sL A8r n6 n7 i9 RT LP LK cs2 Nj KW JH OX
def AA1:ByteArray:=⟨#[104,48,32,104,48,32,123,125,32,123,125]⟩
def bU:CQ:=(0,0,[⟨#[104]⟩],[],[])
def A8t:AZ:={ ins:=[T9],pre:=λ(s,_)=>(s:ByteArray)=AA1,out:=λ_=>[.p dZ bU,.p C0 0] }
theorem A8u:Ac Tryz.prog 30 A8t:=by
 refine fKP [0,2,3,4,5,6,7,8,9,10,11,12,13,14,15,16,17,18,21,67,72,83,102,129,171,201] [23,24,26] [] Tryz.func30 Tryz.ntmps30 (AE bT (AE A2P (AE A2Q (AE A8s (AE eU AH))))) ?_;rintro w0 O0 ⟨s,u⟩ a-hs;have hs:s=AA1:=hs;have d:s.size=11:=by rw[hs];rfl
 have v1:s.extract 0 1=⟨#[104]⟩:=by rw[hs];decide +kernel
 have r:Nh s 1=48:=by rw[hs];rfl
 have t:s.extract 1 2=⟨#[48]⟩:=by rw[hs];decide +kernel
 have v4:s.extract 3 4=⟨#[104]⟩:=by rw[hs];decide +kernel
 have v:Nh s 4=48:=by rw[hs];rfl
 have v6:s.extract 4 5=⟨#[48]⟩:=by rw[hs];decide +kernel
 have c2:Nh s 2=32:=by rw[hs];rfl
 have h:Nh s 5=32:=by rw[hs];rfl
 have k:Nh s 6=123:=by rw[hs];rfl
 have l:Nh s 7=125:=by rw[hs];rfl
 have m:Nh s 8=32:=by rw[hs];rfl
 have n:Nh s 9=123:=by rw[hs];rfl
 have g:Nh s 10=125:=by rw[hs];rfl
 clear hs;have c:s.size<=1000:=by omega
 have q:G3 (0,0,[⟨#[104]⟩],[],[])=0:=by decide +kernel
 simp only[A8t,AL];repeat'(first|exact a6|apply eS rfl|apply AB|refine rP a ?_ ?_|fail)
 refine rC ?_ ?_<;>intro b
 .exfalso;exact eV
 repeat'(first|exact a6|apply eS rfl|apply AB|refine rP a ?_ ?_|fail)
 refine cP 1 a ?_ ?_
 .trivial
 refine rM a (sK s 0 [] [] c O1 O1 v1 r t sc sc) [(501,.nil),(502,.nil)] [] ?_ ?_ ?_
 .first|exact eN|refine eM ?_
 .first|exact eN|refine eM ?_
 rintro _ _ ⟨rfl,rfl⟩;refine⟨[(302,.nm 2),(501,.nm 501),(502,.nm 502)],.tup [.ag [.p T9 s,.p T3 2,.p C0 0,.sr 501 T9 0 1,.sr 502 T9 0 1],.p T3 0],[(302,.box 133 true [.p T9 s,.p T3 2,.p C0 0,.sr 501 T9 0 1,.sr 502 T9 0 1]),(501,.arr 9 T9 ([⟨#[104]⟩]:List ByteArray)),(502,.arr 9 T9 ([⟨#[48]⟩]:List ByteArray))],rfl,rfl,?_,?_,rfl,rfl,?_⟩
 .first|exact eN|refine eM ?_
  all_goals(first|rfl|decide|exact⟨rfl,rfl⟩)
 .first|exact eN|refine eM ?_
  all_goals(first|rfl|decide|exact⟨rfl,rfl⟩)
 refine rL a ?_ ?_
 .trivial
 repeat'(first|exact a6|apply eS rfl|apply AB|refine rP a ?_ ?_|fail)
 refine cP 1 a ?_ ?_
 .trivial
 refine rM a (A8q s ⟨#[32]⟩ 2 [⟨#[104]⟩] [⟨#[48]⟩] c O1 (by rw[d];decide) (λi hi=>by have hi:i<1:=hi;obtain rfl:i=0:=(by omega);exact c2)) [(501,.nm 501),(502,.nm 502)] [302,501,502] ?_ ?_ ?_
 .first|exact eN|refine eM ?_
 .first|exact eN|refine eM ?_
 rintro _ _ ⟨rfl,rfl⟩;refine⟨[(303,.nm 4),(501,.nm 501),(502,.nm 502)],.ag [.p T9 s,.p T3 3,.p C0 0,.sr 501 T9 0 1,.sr 502 T9 0 1],[(303,.box 133 true [.p T9 s,.p T3 3,.p C0 0,.sr 501 T9 0 1,.sr 502 T9 0 1]),(501,.arr 9 T9 ([⟨#[104]⟩]:List ByteArray)),(502,.arr 9 T9 ([⟨#[48]⟩]:List ByteArray))],rfl,rfl,?_,?_,rfl,rfl,?_⟩
 .first|exact eN|refine eM ?_
  all_goals(first|rfl|decide|exact⟨rfl,rfl⟩)
 .first|exact eN|refine eM ?_
  all_goals(first|rfl|decide|exact⟨rfl,rfl⟩)
 refine rL a ?_ ?_
 .trivial
 repeat'(first|exact a6|apply eS rfl|apply AB|refine rP a ?_ ?_|fail)
 refine cP 1 a ?_ ?_
 .trivial
 refine rM a (sK s 3 [⟨#[104]⟩] [⟨#[48]⟩] c O1 O1 v4 v v6 sc sc) [(501,.nm 501),(502,.nm 502)] [303,501,502] ?_ ?_ ?_
 .first|exact eN|refine eM ?_
 .first|exact eN|refine eM ?_
 rintro _ _ ⟨rfl,rfl⟩;refine⟨[(304,.nm 2),(501,.nm 501),(502,.nm 502)],.tup [.ag [.p T9 s,.p T3 5,.p C0 0,.sr 501 T9 0 2,.sr 502 T9 0 2],.p T3 1],[(304,.box 133 true [.p T9 s,.p T3 5,.p C0 0,.sr 501 T9 0 2,.sr 502 T9 0 2]),(501,.arr 9 T9 ([⟨#[104]⟩,⟨#[104]⟩]:List ByteArray)),(502,.arr 9 T9 ([⟨#[48]⟩,⟨#[48]⟩]:List ByteArray))],rfl,rfl,?_,?_,rfl,rfl,?_⟩
 .first|exact eN|refine eM ?_
  all_goals(first|rfl|decide|exact⟨rfl,rfl⟩)
 .first|exact eN|refine eM ?_
  all_goals(first|rfl|decide|exact⟨rfl,rfl⟩)
 refine rL a ?_ ?_
 .trivial
 repeat'(first|exact a6|apply eS rfl|apply AB|refine rP a ?_ ?_|fail)
 refine Cj [501,502] ?_;have f:(⟨#[32,123]⟩:ByteArray).size=2:=rfl;repeat'(first|exact a6|apply eS rfl|apply AB|refine rX a ?_ ?_|refine rC ?_ ?_<;>intro b<;>try(cases b;done))
 .refine⟨c,by rw[f,d];decide,λi hi=>?_⟩;have hi:i<2:=hi;rcases (by omega:i=0\/i=1) with rfl|rfl
  .exact h
  exact k
 .exact⟨c,rfl,by show (0:Int)<=5+((⟨#[32,123]⟩:ByteArray).size:Int);omega,by show (5:Int)+((⟨#[32,123]⟩:ByteArray).size:Int)<(s.size:Int);rw[f,d];decide,l⟩
 .refine⟨c,by rw[f];decide,by rw[f,d];decide,λi hi=>?_⟩;have hi:i<2:=hi;rcases (by omega:i=0\/i=1) with rfl|rfl
  .exact m
  exact n
 .exact⟨c,rfl,by show (0:Int)<=5+((⟨#[32,123]⟩:ByteArray).size:Int)+1+((⟨#[32,123]⟩:ByteArray).size:Int);omega,by show (5:Int)+((⟨#[32,123]⟩:ByteArray).size:Int)+1+((⟨#[32,123]⟩:ByteArray).size:Int)<(s.size:Int);rw[f,d];decide,g⟩
 .exfalso;rw[f,d]at b;exact absurd b df
 .exact⟨df,df⟩
 refine AI (ι:={i:Nat//i<=0}) (λi=>⟨[(2,.bp 2 [] 0),(9,.bp 9 [] 0),(10,.p Bx [0,0]),(13,.bp 13 [] 0),(14,.p (.int .i64) 0)],[(13,.box 41 true [.p T3 0,.p T3 0,.p CV [⟨#[104]⟩],.raw (.slice none 0 0),.raw (.slice none 0 0)]),(9,.box 41 true [.p T3 0,.p T3 1,.raw (.slice none 0 0),.p Jy [],.p LO []]),(2,.box 41 true [.p T3 0,.p T3 0,.raw (.slice none 0 0),.raw (.slice none 0 0),.raw (.slice none 0 0)])]⟩) (λi=>0) ⟨0,O1⟩ (AC [(2,.nm 2),(9,.nm 9),(13,.nm 13)] rfl rfl ?_ ?_) (λi=>?_)
 .first|exact eN|refine eM ?_
  all_goals(first|rfl|exact⟨rfl,rfl⟩)
 .first|exact eN|refine eM ?_
  all_goals(first|rfl|exact⟨rfl,rfl⟩)
 repeat'(first|exact a6|apply eS rfl|apply AB|refine rX a ?_ ?_|refine rC ?_ ?_<;>intro b<;>try(cases b;done))
 refine AI (ι:={j:Nat//j<=0}) (λj=>⟨[(2,.bp 2 [] 0),(9,.bp 9 [] 0),(10,.p Bx [0,0]),(13,.bp 13 [] 0),(17,.p (.int .i64) 0)],[(13,.box 41 true [.p T3 0,.p T3 0,.p CV [⟨#[104]⟩],.raw (.slice none 0 0),.raw (.slice none 0 0)]),(9,.box 41 true [.p T3 0,.p T3 1,.raw (.slice none 0 0),.p Jy [],.p LO []]),(2,.box 41 true [.p T3 0,.p T3 0,.raw (.slice none 0 0),.raw (.slice none 0 0),.raw (.slice none 0 0)])]⟩) (λj=>0) ⟨0,O1⟩ (AC [(2,.nm 2),(9,.nm 9),(13,.nm 13)] rfl rfl ?_ ?_) (λj=>?_)
 .first|exact eN|refine eM ?_
 .first|exact eN|refine eM ?_
 repeat'(first|exact a6|apply eS rfl|apply AB|refine rX a ?_ ?_|refine rC ?_ ?_<;>intro b<;>try(cases b;done))
 .exact⟨trivial,df,(λe o=>by cases o),df⟩
 .exact absurd q b
 exact fI a [.cell 2 41,.tmp 3] (by unfold bU;exact eR)
end
def Dn:AG:=([(ByteArray.mk #[116,111,112],[8191],[],[]),(ByteArray.mk #[105,110,100,101,120],[60],[0],[]),(ByteArray.mk #[108,105,115,116],[193],[0],[]),(ByteArray.mk #[99,111,110,115],[1],[2],[(2,0),(10,2)]),(ByteArray.mk #[100,108,105,115,116],[2],[0],[(6,2),(7,2)]),(ByteArray.mk #[101,110,116,105,116,121],[4],[1],[]),(ByteArray.mk #[101,118,101,110,116],[8],[1],[]),(ByteArray.mk #[104,97,110,100,108,101],[16],[1],[]),(ByteArray.mk #[110,117,108,108],[128],[2],[]),(ByteArray.mk #[113,101,113],[256],[0],[(3,7),(8,7)]),(ByteArray.mk #[114,101,108],[512],[0],[(5,7)]),(ByteArray.mk #[115,101,109],[1024],[0],[(1,4),(4,1),(9,4),(12,7)]),(ByteArray.mk #[115,105,103,110],[2048],[0],[(0,2),(11,11)])],[(ByteArray.mk #[65,82,71,83],12),(ByteArray.mk #[67,79,78,83],11),(ByteArray.mk #[70,73,82,83,84],3),(ByteArray.mk #[72,73,71,72],9),(ByteArray.mk #[73,78,68,69,88],11),(ByteArray.mk #[76,65,66,69,76],10),(ByteArray.mk #[76,65,83,84],4),(ByteArray.mk #[76,73,83,84],4),(ByteArray.mk #[76,79,87],9),(ByteArray.mk #[82,69,76,83],11),(ByteArray.mk #[82,69,83,84],3),(ByteArray.mk #[83,69,77],12),(ByteArray.mk #[84,79,80],11)])
instance baDec:DecidableEq ByteArray:=λa b =>
 if h:a.data.toList=b.data.toList then isTrue (by
  cases a
  cases b
  exact ABj ByteArray.mk (Array.toList_inj.1 h))
 else isFalse λe=>h (by rw[e])
theorem A2R:((NE []).1:List (ByteArray×List Int×List Int×List (Int×Int)))=Dn.1:=by decide +kernel
theorem A2S:((NE []).2:List (ByteArray×Int))=Dn.2:=by decide +kernel
theorem bV:NE []=Dn:=Prod.ext A2R A2S
theorem A5Q:FC Dn:=by rw[<-bV];exact(show FC (if _ then _ else _) by split<;>exact Gp _)
theorem A2T:JF Dn:=by rw[<-bV];exact(show JF (if _ then _ else _) by split<;>exact Sk _)
def AA2 (h:AG):Bool:=(h.2.all λx=>decide (0<=x.2)&&decide (x.2<(h.1.length:Int)))&&h.1.all λt=>t.2.2.2.all λp=>decide (0<=p.2)&&decide (p.2<(h.1.length:Int))
theorem A8v (e:AA2 h=true):bW h:=by
 unfold AA2 at e;rw[AT,No,No]at e;refine⟨λx b=>?_,λt ht p a=>?_⟩
 .have:=e.1 x b;simpa using this
 have:=No.1 (e.2 t ht) p a;simpa using this
theorem A5R:bW Dn:=A8v a3
def sM (h:AG) (f:List AD):Bool:=decide (f.length<=100)&&f.all λx=>decide (x.2.length<=12)&&(decide (0<=x.1)&&decide (x.1<(h.1.length:Int)))&&x.2.all λa=>(decide (0<=a.1)&&decide (a.1<(h.2.length:Int)))&&(decide (0<=a.2)&&decide (a.2<(f.length:Int)))
theorem A8w (hk:FC h) (hi:JF h) (hf:bW h) (d:h.2.length<=100000) (e:sM h f=true):A1m h f/\K0 f/\Sm f/\∀x∈f,x.2.length<=100:=by
 unfold sM at e;rw[AT,IN,No]at e;have c:∀x∈f,x.2.length<=12/\(0<=x.1/\x.1<(h.1.length:Int))/\∀a∈x.2,Jm h f.length a:=λx b=>by
  have:=e.2 x b;rw[AT,AT,AT,IN,IN,IN,No]at this;refine⟨this.1.1,this.1.2,λa ha=>?_⟩;have:=this.2 a ha;rw[AT,AT,AT,IN,IN,IN,IN]at this;exact⟨this.1,this.2⟩
 refine⟨⟨hk,hi,hf,d,⟨O1,λx b=>⟨by have:=(c x b).1;omega,λa ha=>((c x b).2.2 a ha).2⟩⟩,λx b=>(c x b).2.2,λx b=>(c x b).2.1⟩,⟨O1,λx b=>by have:=(c x b).1;omega⟩,λx b=>⟨by have:=(c x b).1;omega,.inl (c x b).1⟩,λx b=>by have:=(c x b).1;omega⟩
section
attribute [local go_sem] H9 F0 A8t A8k A5m bF QQ QR sD gC LP LK Nj KW JH OX
theorem AAK {α:Type} (a b c d e f g h i j k:UInt8) (x y:α):(if ({ data:=#[a,b,c,d,e,f,g,h,i,j,k] }:ByteArray).size<=AP then x else y)=x:=At (by show 11<=AP;decide)
attribute [local go_sem] AAK
theorem jA:(Ad Bt).2=0:=by decide +kernel
theorem ZA:(Ad Bt).1=Dn:=by
 rw[<-bV];unfold NE;split
 .rename_i q;exact absurd q.2 a3
 rfl
theorem Ml:Fi Dn:=by
 rw[<-ZA];exact A2w [] jA
theorem AA3:sI bU:=⟨a3,a3,df,df,df,λe a=>by cases a⟩
def ZB:List AD:=(mkF Dn bU).1
theorem A8x:(mkF Dn bU).2=0:=by decide +kernel
theorem A2U:sM Dn ZB=true/\0<ZB.length:=by decide +kernel
theorem A8y:(LN Dn ZB).2=0/\Sy bU (LN Dn ZB).1=true:=by decide +kernel
theorem A8z:(LN Dn [(0,[])]).2=13:=by decide +kernel
theorem A8A:AK (Bu Dn (Ar Dn ⟨#[101,118,101,110,116]⟩)) ⟨#[101]⟩=true/\AK (Bu Dn 0) ⟨#[]⟩=true:=by decide +kernel
theorem A8B:0<=Ar Dn ⟨#[101,118,101,110,116]⟩/\Ar Dn ⟨#[101,118,101,110,116]⟩<(Dn.1.length:Int)/\(0:Int)<(Dn.1.length:Int):=by decide +kernel
theorem sN (e:sM Dn f=true):AX f/\Ck Dn f/\O2 Dn f:=by
 obtain⟨h1,-,-,-⟩:=A8w A5Q A2T A5R a3 e;exact⟨h1.good,h1.ty,λx b a ha=>(h1.arcs x b a ha).1⟩
def A2V:AZ:={ ins:=[],pre:=λ_=>True,out:=λ_=>[.p .bool true] }
theorem A5S:Ac Tryz.prog 10 A2V:=by
 refine fK [0,1,2,3,4,5,6,7,8,10] Tryz.func10 Tryz.ntmps10 (AE lW (AE Vh (AE A8u (AE A2N (AE A2c (AE A4z (AE sE (AE ND (AE iJ AH))))))))) ?_;rintro w0 O0 u a - -;have f:Ad Bt=(Dn,0):=Prod.ext ZA jA;have m:(Dn.1,Dn.2)=Dn:=rfl;simp only[A2V,AL];have o:(bU.1,bU.2.1,bU.2.2.1,bU.2.2.2.1,bU.2.2.2.2)=bU:=rfl;have v:(mkF Dn bU).1=ZB:=rfl;have c:=sN A2U.1;have g:=A8y;have n:=A2U.2;have ha:=A8x;repeat'(first|exact a6|apply eS rfl|apply AB|refine rP a ?_ ?_|fail)
 all_goals try simp only[f,m,o,v,ha]at *
 .rfl
 .exact⟨Ml,AA3⟩
 .exact⟨Ml.so,c.1,c.2.1,c.2.2,n⟩
 generalize ZB=G at *;have b:AX [((0:Int),([]:List (Int×Int)))]/\Ck Dn [(0,[])]/\O2 Dn [(0,[])]:=sN a3;refine L2 drawsAny a 8 [([0,1,2,3,4,6],7)] [5] a5 (mxA ?_ ?_)
 .exact⟨Ml.so,b.1,b.2.1,b.2.2⟩
 refine mxL a [] ?_ ?_
 .trivial
 refine mxE a ?_ ?_ ?_
 .trivial
 .trivial
 have j:=A8z;obtain⟨k,l⟩:=A8A;obtain⟨r,s,t⟩:=A8B;have d:(Dn.1,Dn.2)=Dn:=rfl;have p:(bU.1,bU.2.1,bU.2.2.1,bU.2.2.2.1,bU.2.2.2.2)=bU:=rfl;have q:((LN Dn G).1.1,(LN Dn G).1.2.1,(LN Dn G).1.2.2.1,(LN Dn G).1.2.2.2.1,(LN Dn G).1.2.2.2.2)=(LN Dn G).1:=rfl;obtain⟨h,i⟩:=g;repeat'(first|exact a6|apply eS rfl|apply AB|refine rX a ?_ ?_|refine rC ?_ ?_<;>intro e<;>try(cases e;done))
 .simp only[d];exact⟨λ_=>⟨Ml.so.1,r,s⟩,λ_=>⟨Ml.so.1,t⟩⟩
 simp only[d,p,q,h,i,j,k,l];exact fI a [.tmp 0] (by first|exact eR|refine KP ?_;rfl)
end
section
attribute [local go_sem] aF Oo qG
theorem A6w {n:Nat} (d:YU l) (h:∀a∈l,0<=a.1/\a.1<(n:Int)):l.length<=n:=by
 have h1:(l.map λa=>a.1.toNat).Nodup:=by
  rw[List.Nodup,AAN];refine ACf ?_ d;intro a b ha c g e;have:=h a ha;have:=h b c;omega
 have:=DG n _ h1 (λj f=>by
  obtain⟨a,ha,rfl⟩:=GO.1 f;have:=h a ha;omega)
 simpa using this
theorem sO {ht:List FB} {hf:List P8} (e:(A3 f).2=0) (i:f.all (TC (ht,hf))=true) (j:hf.length<=64):Kh f:=by
 have b:B7 f=0:=by
  unfold A3 at e;split at e
  .assumption
  exact e
 have g:Gu (f.length:Int) f=0:=by
  unfold B7 at b;split at b
  .cases b
  split at b
  .cases b
  exact b
 intro x d;have h1:=QM g x d;have h:=IE g x d;have c:=No.1 i x d;unfold TC at c;rw[AT,No]at c;have:=A6w (n:=hf.length) h1 λa ha=>⟨(h.2 a ha).1,by
  have:=c.2 a ha;unfold qJ at this;simpa using this⟩
 omega
def W2:AZ:={ ins:=[FL,E7],pre:=λ(h,f,_)=>List.length (h:AG).2<=64/\List.length f<=100000/\MU f,out:=λ(h,f,_)=>[.p C0 (Cg h f)] }
theorem n8:Ac Tryz.prog 13 W2:=by
 refine fK [0,1,2,3,4,5,6,7,8,9,16,22,35,40,52,56] Tryz.func13 Tryz.ntmps13 (AE YZ (AE f8 AH)) ?_;rintro w0 O0 ⟨⟨ht,hf⟩,f,u⟩ c-hs;obtain⟨l,n,hs⟩:=hs;have l:hf.length<=64:=l;have n:f.length<=100000:=n;have hs:MU f:=hs;simp only[W2,AL];repeat'(first|exact a6|apply eS rfl|refine rX c ?_ ?_|refine rC ?_ ?_<;>intro a<;>try(cases a;done))
 .exact hs
 .have h1:Cg (ht,hf) f=(A3 f).2:=by unfold Cg;rw[At a]
  exact fI c [.tmp 4] (by rw[h1];exact eR)
 have s:(A3 f).2=0:=by simpa using a
 have t:=n;have d:Cg (ht,hf) f=if f.all (TC (ht,hf))=false then 2 else if (Di f (A3 f).1==0)=false then 3 else 0:=by unfold Cg;rw[An (by rw[s];simp)]
 refine AI (ι:={i:Nat//i<=f.length/\(f.take i).all (TC (ht,hf))=true}) (λi=>⟨[(2,.bp 2 [] 0),(3,.bp 3 [] 0),(5,.bp 5 [] 0),(7,.p (.int .i64) (i.1:Int))],[(2,.box 26 true [.p Qu ht,.p SZ hf]),(3,.box 34 true [.p Ij f]),(5,.box 34 true [.p Ij (A3 f).1])]⟩) (λi=>f.length-i.1) ⟨0,sc⟩ (eW [(2,.nm 2),(3,.nm 3),(5,.nm 5)]) (λi=>?_)
 obtain⟨i,hi,g⟩:=i;have v:=λh:i<f.length=>GL f (0,[]) (TC (ht,hf)) h;simp only;repeat'(first|exact a6|apply eS rfl|refine rX c ?_ ?_|refine rC ?_ ?_<;>intro a<;>try(cases a;done))
 .exact a
 .have b:i<f.length:=f4.1 a4;have e:f.all (TC (ht,hf))=false:=by
   rw[ABr];refine⟨_,AF f (0,[]) b,?_⟩;unfold TC;rw[ABC (AAy.2 a)];simp
  rw[At e]at d;exact fI c [.tmp 4] (by rw[d];exact eR)
 .have b:i<f.length:=f4.1 a4;have o:=AF f (0,[]) b;have q:TC (ht,hf) (f.getD i (0,[]))=(f.getD i (0,[])).2.all (qJ (ht,hf)):=by
   unfold TC;rw[AB7 (show (f.getD i (0,[])).1<(ht.length:Int) from a)];rfl
  have x:(f.getD i (0,[])).2.length<=8796093022207:=hs _ o;refine AI (ι:={k:Nat//k<=(f.getD i (0,[])).2.length/\((f.getD i (0,[])).2.take k).all (qJ (ht,hf))=true}) (λk=>⟨[(2,.bp 2 [] 0),(3,.bp 3 [] 0),(5,.bp 5 [] 0),(7,.p (.int .i64) (i:Int)),(8,.bp 8 [] 0),(9,.p (.int .i64) (k.1:Int))],[(2,.box 26 true [.p Qu ht,.p SZ hf]),(3,.box 34 true [.p Ij f]),(5,.box 34 true [.p Ij (A3 f).1]),(8,.box 57 true [.p T3 (f.getD i (0,[])).1,.p NQ (f.getD i (0,[])).2])]⟩) (λk=>(f.getD i (0,[])).2.length-k.1) ⟨0,sc⟩ (eW [(2,.nm 2),(3,.nm 3),(5,.nm 5),(8,.nm 8)]) (λk=>?_)
  obtain⟨k,hk,m⟩:=k;have w:=λh:k<(f.getD i (0,[])).2.length=>GL (f.getD i (0,[])).2 (0,0) (qJ (ht,hf)) h;simp only;repeat'(first|exact a6|apply eS rfl|apply AB|refine rX c ?_ ?_|refine rC ?_ ?_<;>intro a<;>try(cases a;done))
  .exact a
  .have j:k<(f.getD i (0,[])).2.length:=f4.1 a4;have e:f.all (TC (ht,hf))=false:=by
    rw[ABr];refine⟨_,o,?_⟩;rw[q,ABr.2 ⟨_,AF (f.getD i (0,[])).2 (0,0) j,by unfold qJ;rw[ABC (AAy.2 a)];simp⟩];simp
   rw[At e]at d;exact fI c [.tmp 4] (by rw[d];exact eR)
  .exact eV
  .have j:k<(f.getD i (0,[])).2.length:=f4.1 a4;refine⟨⟨k+1,j,?_⟩,a2,AC [(2,.nm 2),(3,.nm 3),(5,.nm 5),(8,.nm 8)] rfl rfl ?_ ?_⟩
   .rw[w j,m];unfold qJ;exact AB7 a
   .exact eN
   exact eN
  .exact eV
  have j:(f.getD i (0,[])).2.take k=(f.getD i (0,[])).2:=BY (AA7.1 a);rw[j]at m;refine⟨⟨i+1,b,?_⟩,a2,AC [(2,.nm 2),(3,.nm 3),(5,.nm 5)] rfl rfl ?_ ?_⟩
  .rw[v b,g,q,m];rfl
  .exact eN
  exact eN
 .have b:f.take i=f:=BY (AA7.1 a4);rw[b]at g;have r:=sO s g l;exact⟨⟨t,r⟩,Sn r⟩
 .have b:f.take i=f:=BY (AA7.1 a4);rw[b]at g;rw[An (by rw[g];simp),At (by simpa using a)]at d;exact fI c [.tmp 4] (by rw[d];exact eR)
 have b:f.take i=f:=BY (AA7.1 a4);rw[b]at g;rw[An (by rw[g];simp),An (by rw[a];simp)]at d;exact fI c [.tmp 4] (by rw[d];exact eR)
end
section
attribute [local go_sem] nX W2 MY A2V A5m A22 sD LP LK Nj KW JH OX
theorem UE {g:Nat->Option Bool} (h:∀i,g i=none) (k i:Nat):Ax g true k i=true:=HP k i λj _ _=>h j
theorem wS (m:CQ):Sy m m=true:=by
 have f:∀l i,eqV l l i=none:=λl i=>by unfold eqV;rw[At (CD _)]
 have a:∀l i,eqA l l i=none:=λl i=>by
  unfold eqA;rw[At (by rw[CD,ABZ];exact ACw _)]
 have b:∀e,i6 e e=true:=λe=>by
  unfold i6;rw[CD,UE (a _)];simp
 have d:∀l i,eqR l l i=none:=λl i=>by unfold eqR;rw[At (b _)]
 have c:∀l i,eqQ l l i=none:=λl i=>by unfold eqQ;rw[At sc]
 unfold Sy nW;rw[UE (f _),UE (d _),UE (c _)];simp
theorem sP (p:Fi h) (e:Cg h f=0):XR h f/\QJ f/\K0 f/\0<f.length/\VF h f:=by
 have hh:=p.h14;unfold Cg at e;split at e
 .rename_i q;exact absurd e q
 rename_i h1;split at e
 .cases e
 rename_i g;split at e
 .cases e
 rename_i k;have h1:(A3 f).2=0:=DO h1;have g:f.all (TC h)=true:=by simpa using g
 have k:Di f (A3 f).1=0:=by simpa using k
 have w:Kh f:=sO (ht:=h.1) (hf:=h.2) h1 g hh.b2;have d:B7 f=0:=by
  unfold A3 at h1;split at h1
  .assumption
  exact h1
 obtain⟨j,h0⟩:=Ki d w;have t:Gu (f.length:Int) f=0:=by
  unfold B7 at d;split at d
  .cases d
  split at d
  .cases d
  exact d
 have v:=QM t;have s:=IE t;have r:f=Jk f 0:=by
  have:=gE k;unfold A3 at this
  rwa [At d]at this
 have u:∀x∈f,u5 x.2:=by
  intro x b;rw[r]at b;obtain⟨n,-,rfl⟩:=GO.1 b;show u5 ((Ae (f.getD n.toNat (0,[])).2).map _);have c:YU (f.getD n.toNat (0,[])).2:=by
   by_cases hi:n.toNat<f.length
   .exact v _ (Aw hi)
   rw[AS,oF O1];exact List.Pairwise.nil
  have i:=IC c;unfold u5 at i ⊢;rw[AAN];exact i
 have l:∀x∈f,∀a∈x.2,0<=a.1/\a.1<(h.2.length:Int):=λx b a ha=>by
  have c:=No.1 g x b;unfold TC at c;rw[AT,No]at c;have i:=c.2 a ha;unfold qJ at i;exact⟨((s x b).2 a ha).1,by simpa using i⟩
 have y:Ck h f:=λx b=>by
  have c:=No.1 g x b;unfold TC at c;rw[AT,IN]at c;exact⟨(s x b).1,c.1⟩
 have z:∀x∈f,x.2.length<=64:=λx b=>gO (A6w (n:=h.2.length) (v x b) (l x b)) hh.b2;have m:QJ f:=λx b=>⟨aB (u x b),by have:=z x b;omega⟩;have A:wX f:=A7J m;have o:AU f 0=f:=by
  have:=MS j A (ABN 0) O1;rw[u7 m]at this;rw[<-this];exact r.symm
 have B:RO f:=by
  have:=rI j (ABN 0) (show (0:Int)<(f.length:Int) by omega)
  rwa [o]at this
 exact⟨⟨hh.ok,j,y,l⟩,m,⟨j.1,w⟩,h0,⟨j,h0,y,u,l,o,B⟩⟩
def A2W:AZ:={ ins:=[Ey,E7],pre:=λ(d,f,_)=>MU f,out:=λ_=>[.p .bool true] }
theorem A2X:Ac Tryz.prog 4 A2W:=by
 refine fK [0,1,3,4,5,6,7,8,9,10,35] Tryz.func4 Tryz.ntmps4 (AE A2u (AE n8 (AE mS (AE A5S (AE A2c (AE A57 (AE sE AH))))))) ?_;rintro w0 O0 ⟨d,f,u⟩ b-h;have h:MU f:=h;simp only[A2W,AL];have a:(Wv d).2=true->Fi (Wv d).1:=A5v;generalize i:Wv d=c at *;repeat'(first|exact a6|apply eS rfl|apply AB|refine rP b ?_ ?_|fail)
 refine rX b ?_ ?_
 .simp only[i];refine⟨λq=>?_,λq=>?_⟩
  .simp only[bY,AAb,ABx,aS]at q;exact⟨(a q.1).h14.b2,O1,h⟩
  simp only[bY,AAb,ABx,ABX]at q;have a:=a q.1.1;exact⟨a.h14.ft,(sP a q.2).2.2.1,a.h14.ok⟩
 simp only[i];repeat'(first|exact a6|apply eS rfl|apply AB|refine rP b ?_ ?_|fail)
 refine rC ?_ ?_<;>intro e
 .repeat'(first|exact a6|apply eS rfl|apply AB|refine rX b ?_ ?_|refine rC ?_ ?_<;>intro e<;>try(cases e;done))
  exact fI b [.tmp 4]
 obtain⟨⟨⟨c1,c2⟩,j⟩,t⟩:=e;have n:(c.1.1,c.1.2)=c.1:=rfl;have a:=a c1;have hk:Cg c.1 f=0:=by simpa using j
 obtain⟨g,s,w,h0,vf⟩:=sP a hk;have r:=A8h a.so a.srt a.nm s g h0;obtain⟨v,k,l,m⟩:=id g;repeat'(first|exact a6|apply eS rfl|apply AB|refine rP b ?_ ?_|fail)
 .exact⟨a.so,k,l,m,h0⟩
 .exact⟨g,h0⟩
 simp only[n,r];have p:=wS (Sx c.1 f).1;generalize Sx c.1 f=K at *;have o:(K.1.1,K.1.2.1,K.1.2.2.1,K.1.2.2.2.1,K.1.2.2.2.2)=K.1:=rfl;repeat'(first|exact a6|apply eS rfl|apply AB|refine rX b ?_ ?_|refine rC ?_ ?_<;>intro e<;>try(cases e;done))
 simp only[o,p];exact fI b [.tmp 4]
theorem szB (ds:IT [Ey,E7]) (h:SzA [Ey,E7] ds):MU ds.2.1:=by
 intro x c;have h1:List.length ds.2.1*(W3).bts<=reachBytes/\∀x∈(ds.2.1:List AD),pF W3 x:=h.2.1;have a:List.length x.2*(DH).bts<=reachBytes:=(h1.2 x c).2.1;have b:(DH).bts=16:=rfl;rw[b]at a;simp only[reachBytes]at a;omega
end
end Go.Proofs.YtglkoagnnnpimaaGreatDoor.Fw
