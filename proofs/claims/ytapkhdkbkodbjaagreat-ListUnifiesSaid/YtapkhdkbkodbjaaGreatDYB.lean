/- Contracts of the program's and the reference's functions, and the plain laws of what they compute: PA PB PC PD PE PF PL PG PH T1 G4 G5 G6 P1 P9 R08a P3 P4 P5 P2 P7 W1 W2 W3 W4 D2 D3 W5 U1 U2 U3 U4 U5 U6 U7 U8 U9 U10 N7 U11 U12 N8 U14. -/
import Derived.Test.YtapkhdkbkodbjaaGreatDYA
import Derived.Test.YtapkhdkbkodbjaaGreatDZI
import Derived.Test.YtapkhdkbkodbjaaGreatDZJ
set_option linter.unusedVariables false
set_option linter.unusedSimpArgs false
namespace Go.Proofs.YtapkhdkbkodbjaaGreat.Fw
open Go
attribute [local irreducible] Ev
attribute [local go_sem] eZ AM List.toList_toArray Bn evG evK YA Er Ko Gx Fy Hw TB Ns DJ DS My CY DG frz lK Gr DR A4 Fj Bb AV.frz AV.frzs AV.drp AV.drps AV.names AV.namess aq Gu LS Kd UK JR Bc Bg Jr Eb Ir Ec Iu It Iv VJ Ph HJ Kg Fm EW VK Ri qUn Js Iw Ll FJ Dr JU Kh Ed UL DX Ee E9 Rj Ix Nq FW Np Pi Rk Lm JV Ki Ef Ds HT Du Hv DY FA DZ Eg Fs CY Co Pf Rh OO Gp JT JS Ke Pl S9 Nr Lq Lo Kl TA Lp Km Z7 Pn Pm AV.trn AV.trns E3 DI Obj.trn J7 fS Dt Ei EX Eh Ce FB Ap lk HY Gt Hs bin lJ YD lM S7 zP zQ pfs AV.cells CF Jq Pg Kk Pk CT Nn Ty.cell1 Iq E4 Dq GK Mx E2 Kb Lk Rc FU HI Nf UI VI Lj KZ Z5 dY S6 Hr Cp HS RV.flat Ty.flat Ty.size St.add upd del Bd Value.oneCell' Lg Ty.dflt Ip QD H9 QO List.take_succ_cons List.take_zero List.length_cons fF fG QN J4 L6 Hm J5 A2h Fz M9 NA NB NC Rv Rw ND JA Vb Option.map_some Option.map_none Option.bind_some Option.getD_some Option.getD_none Option.isNone_none Option.isNone_some Bool.and_true Bool.true_and Bool.and_false Bool.false_and Bool.not_true Bool.not_false if_true if_false List.length_cons List.length_nil and_true true_and and_self List.all_cons List.all_nil List.append_nil List.nil_append List.cons_append List.getElem?_cons_zero List.getElem?_cons_succ List.getElem?_nil List.map_cons List.map_nil List.set_cons_zero List.set_cons_succ List.isEmpty_nil List.isEmpty_cons decide_true decide_false beq_self_eq_true bne_self_eq_false Nat.zero_add Nat.add_zero Nat.sub_zero Int.toNat_natCast Int.toNat_zero Int.toNat_one List.take_length List.length_append List.length_singleton true_or or_true or_self false_or or_false Ty.agg.injEq Ty.slice.injEq Ty.prod.injEq Ty.int.injEq Option.some.injEq beq_iff_eq L4 evMG evMQ opM IB L2 B4 J0 HK QG Jy IA JB Kx LY Ob Nx Oc UO L3 QI QJ Jz Aa Al Op.operands Call.operands List.filterMap_cons List.filterMap_nil List.append_eq Bool.cond_false_right Bool.cond_true_left cond_true cond_false implies_true decide_eq_true_eq beq_true beq_false Bool.or_true Bool.or_false Bool.true_or Bool.false_or Option.isSome_some Array.empty_append List.append_toArray Fk Mz FC Ht Z6 Pj Fq GU GT Iy Hu Kj Ln YE lL Ik inB Kn Ft Gq Jt Ak fH List.drop_zero Df IC aX CP K5 CN AV.fgt AV.fgts Obj.fgt Ar Aj Aa DL Im BJ Gy List.any_cons List.any_nil mM fJ aY fL L9 R1 qs List.flatMap_cons List.flatMap_nil List.cons_append tn bA HV List.take_succ_cons List.drop_succ_cons bE Ga BA qW NI B8 CO Ad FF Kw Bi FE Dw H7 I9 GY H8
attribute [local go_sem] ty1 ty2 ty3 ty4 ty5 ty9 A62 A63 A64 A65 A66 A67 A68 A69 A6a A6b A6c A6d A6e A6f A6g A6h A6i A6j A6k A6l A6m A6n A6o A6p A6q A6r A6s A6t A6u A6v A6w A6x A6y A6z A6A A6B A6C A6D A6E A6F A6G A6H A6I A6J A6K A6L A6M A6N A6O A6P A6Q A6R A6S A6T A6U A6V A6W A6X A6Y A6Z A70 A71 A72 A73 A74 A75 A76 A77 A78 A79 A7a rF rG rH rI rJ rK rO rQ rR rS rT rU rV rW rZ r7 r8 r9 sC sD sE sF sG sH sI sJ sK sL sM sO sP sQ sR sS sT sU sV sW sY sZ s5 s6 s7 s8 s9 tA tB tC tD tE tF tG tH tI tJ tK tL tM tQ tR tS tT tU tV tW tY tZ t4 t5 t6 t7 t8 t9 uA uB uC uD uE uF uG uH uI uJ uK uL uM uN uP uQ uR uS uT uU uV uW uX uY uZ u3 u4 u5 u6 u7 u9 vC vE vF vG vH vI vJ vL vO vP vQ vS vU vV vW vY vZ v5 v6 v7 v8 v9 wA wB wC wD wF wG wH wI wJ wK wL wM wN wP wQ wR wS wT wU wV wW wX wY wZ w5 w6 w9 xA xB xC xE xF xG xH xI xJ xL xM xN xO
set_option maxRecDepth 100000
set_option maxHeartbeats 4000000
section
attribute [local go_sem] Cv
def CC (a b:Int×Int):Int:=UU a.1 b.1
theorem CH:SO CC:=⟨λa b=>by unfold CC UU;(repeat' split)<;>omega,λ{a b c} h1 d=>by
 unfold CC UU at *
 (repeat' split at h1)<;>(repeat' split at d)<;>(repeat' split)<;>omega⟩
theorem A7C (l:List (Int×Int)) (hl:l.length<=100000) (w:lH CC (0,0) l) (a b:Nat) (H:a<=100000) (I:b<=l.length):A9 Tryz.prog 232 [.sr 1000000 AU 0 l.length,.p T3 (a:Int),.p T3 (b:Int),.fn 192] [(1000000,.arr 106 AU l)] [1000000] (λres F=>res=.raw (.tuple #[])/\∃r,F=[(1000000,.arr 106 AU r)]/\EC (0,0) a b l r/\SV CC (0,0) a b r):=by
 refine KY [0,1,2,3,8,9,14,34] [] [] Tryz.func232 Tryz.ntmps232 (AF Ey AH) ?_;intro w0 K O0 ρ0 d N O;simp only[Ak];repeat'(first|exact trivial|apply eS rfl|apply AB|refine rX d ?_ ?_|refine rC ?_ ?_<;>intro e<;>try(cases e;done))
 .omega
 refine AK (ι:={s:Nat×List (Int×Int)//a+1<=s.1/\(s.1=a+1\/s.1<=b)/\EC (0,0) a b l s.2/\SV CC (0,0) a s.1 s.2}) (λs=>⟨[(0,.sr 1000000 AU 0 l.length),(1,.p T3 (a:Int)),(2,.p T3 (b:Int)),(3,.fn 192),(8,.p (.int .i64) (s.1.1:Int))],[(1000000,.arr 106 AU s.1.2)]⟩) (λs=>b-s.1.1) ⟨(a+1,l),If _,.inl rfl,EC.refl a b l,cD a l⟩ (AC [(1000000,.nm 1000000)] rfl rfl ?_ ?_) (λs=>?_)
 .first|exact eN|refine eM ?_
 .first|exact eN|refine eM ?_
 obtain⟨⟨i,m⟩,B,C,hp,hs⟩:=s;simp only at B C hp hs ⊢;have M:=hp.len;repeat'(first|exact trivial|apply eS rfl|apply AB|refine rX d ?_ ?_|refine rC ?_ ?_<;>intro e<;>try(cases e;done))
 .have D:i<b:=by exact eV
  refine AK (ι:={t:Nat×List (Int×Int)//a<=t.1/\t.1<=i/\EC (0,0) a b l t.2/\oM CC (0,0) a i t.1 t.2}) (λt=>⟨[(0,.sr 1000000 AU 0 l.length),(1,.p T3 (a:Int)),(2,.p T3 (b:Int)),(3,.fn 192),(8,.p (.int .i64) (i:Int)),(9,.p (.int .i64) (t.1.1:Int))],[(1000000,.arr 106 AU t.1.2)]⟩) (λt=>t.1.1) ⟨(i,m),by omega,If i,hp,oO hs⟩ (AC [(1000000,.nm 1000000)] rfl rfl ?_ ?_) (λt=>?_)
  .first|exact eN|refine eM ?_
  .first|exact eN|refine eM ?_
  obtain⟨⟨j,c⟩,ha,q,g,o⟩:=t;simp only at ha q g o ⊢;have J:=g.len;have z:=w.perm CH g.perm;repeat'(first|exact trivial|apply eS rfl|apply AB|refine rX d ?_ ?_)
  .dsimp only[Ty.den]at *;exact⟨λ_=>by omega,λ_=>⟨by omega,by omega⟩,λ_=>⟨by omega,by omega⟩⟩
  have n:a<j->((j:Int)-1).toNat=j-1:=λ_=>by omega
  refine Dd (by simp only[go_sem,Nat.reduceEqDiff,reduceCtorEq,Nat.reduceAdd,Nat.reduceSub,Nat.reduceMul,Nat.reduceLeDiff,Nat.reduceLT,Int.reduceLE,Int.reduceToNat,Int.reduceNeg,↓reduceIte];rfl) ?_ ?_
  .intro f;simp only[An,Do]at f;have k:a<j:=by omega
   have u:CC (c.getD j (0,0)) (c.getD ((j:Int)-1).toNat (0,0))<0:=f.2;rw[n k]at u;have E:CR (0,0) c j (j-1)=(c.set j (c.getD (j-1) (0,0))).set (j-1) (c.getD j (0,0)):=rfl;repeat'(first|exact trivial|apply eS rfl|apply AB|refine rP d ?_ ?_|fail)
   (refine CA drawsAny d 16 [([0,1,5,6,7,8,9,10,11,12,13,14],15)] [2,3,4] (by kernel_rfl) (KX ?_ ?_);(next=>exact CS);refine NJ d [] ?_ ?_;(next=>exact CS);refine Re d ?_ ?_ ?_;(next=>exact CS);(next=>exact CS))
   rw[n k];repeat'(first|exact trivial|apply eS rfl|apply AB|refine rX d ?_ ?_|refine rC ?_ ?_<;>intro e<;>try(cases e;done))
   .dsimp only[Ty.den]at *;omega
   refine⟨⟨(j-1,CR (0,0) c j (j-1)),by simp only;omega,by simp only;omega,g.trans (EC.swap c (by omega) (by omega) (by omega) (by omega) (by omega)),ZR o k q (by omega) u⟩,by simp only;omega,AC [(1000000,.nm 1000000)] rfl rfl ?_ ?_⟩
   .simp only;rw[E];first|exact eN|refine eM ?_
   simp only;rw[show ((j-1:Nat):Int)=(j:Int)-1 by omega];first|exact eN|refine eM ?_
  intro f;have A:j=a\/CC (c.getD (j-1) (0,0)) (c.getD j (0,0))<0:=by
   by_cases k:j=a
   .exact .inl k
   right;simp only[AAH,On]at f;rw[n (by omega)]at f;rcases f with h|h
   .omega
   exact z.lt CH (by omega) (by omega) (by omega) h
  repeat'(first|exact trivial|apply eS rfl|apply AB|refine rX d ?_ ?_|refine rC ?_ ?_<;>intro e<;>try(cases e;done))
  .exact eV
  refine⟨⟨(i+1,c),by simp only;omega,.inr D,g,XB CH o ha q A⟩,by simp only;omega,AC [(1000000,.nm 1000000)] rfl rfl ?_ ?_⟩
  .first|exact eN|refine eM ?_
  first|exact eN|refine eM ?_
 have L:b<=i:=by exact eV
 exact fM d [] (.raw (.tuple #[])) rfl ⟨rfl,m,rfl,hp,λx y h1 v G=>hs x y h1 v (by omega)⟩
end
section
attribute [local go_sem] Cv
theorem A7D (l:List (Int×Int)) (hl:l.length<=100000) (a b:Nat) (h:a<b) (k:b<=l.length):A9 Tryz.prog 236 [.sr 1000000 AU 0 l.length,.p T3 (a:Int),.p T3 (b:Int),.fn 192] [(1000000,.arr 106 AU l)] [1000000] (λres g=>res=.raw (.tuple #[])/\∃r,g=[(1000000,.arr 106 AU r)]/\EC (0,0) a b l r):=by
 refine KY [0,1,2,8,9,15] [] [] Tryz.func236 Tryz.ntmps236 AH ?_;intro w0 K O0 ρ0 c q t;simp only[Ak];repeat'(first|exact trivial|apply eS rfl|apply AB|refine rX c ?_ ?_|refine rC ?_ ?_<;>intro d<;>try(cases d;done))
 .omega
 rw[show (b:Int)-1=((b-1:Nat):Int) by omega];refine AK (ι:={s:Nat×Nat×List (Int×Int)//a<=s.1/\s.2.1<b/\EC (0,0) a b l s.2.2}) (λs=>⟨[(0,.sr 1000000 AU 0 l.length),(8,.p (.int .i64) (s.1.1:Int)),(9,.p (.int .i64) (s.1.2.1:Int))],[(1000000,.arr 106 AU s.1.2.2)]⟩) (λs=>s.1.2.1-s.1.1) ⟨(a,b-1,l),If _,by simp only;omega,EC.refl a b l⟩ (AC [(1000000,.nm 1000000)] rfl rfl ?_ ?_) (λs=>?_)
 .first|exact eN|refine eM ?_
 .first|exact eN|refine eM ?_
 obtain⟨⟨i,j,m⟩,hi,e,hp⟩:=s;simp only at hi e hp ⊢;have o:=hp.len;repeat'(first|exact trivial|apply eS rfl|apply AB|refine rX c ?_ ?_)
 refine rC ?_ ?_<;>intro d
 .repeat'(first|exact trivial|apply eS rfl|apply AB|refine rP c ?_ ?_|fail)
  have n:i<j:=by omega
  have f:CR (0,0) m i j=(m.set i (m.getD j (0,0))).set j (m.getD i (0,0)):=rfl
  (refine CA drawsAny c 14 [([0,1,4,5,6,7,8,9,10,11,12],13)] [2,3] (by kernel_rfl) (KX ?_ ?_);(next=>exact CS);refine NJ c [] ?_ ?_;(next=>exact CS);refine Re c ?_ ?_ ?_;(next=>exact CS);(next=>exact CS))
  repeat'(first|exact trivial|apply eS rfl|apply AB|refine rX c ?_ ?_|refine rC ?_ ?_<;>intro d<;>try(cases d;done))
  .omega
  .omega
  refine⟨⟨(i+1,j-1,CR (0,0) m i j),by simp only;omega,by simp only;omega,hp.trans (EC.swap m (by omega) (by omega) (by omega) (by omega) (by omega))⟩,by simp only;omega,AC [(1000000,.nm 1000000)] rfl rfl ?_ ?_⟩
  .simp only;rw[f];first|exact eN|refine eM ?_
  simp only;rw[show ((j-1:Nat):Int)=(j:Int)-1 by omega];first|exact eN|refine eM ?_
 repeat'(first|exact trivial|apply eS rfl|apply AB|refine rX c ?_ ?_|refine rC ?_ ?_<;>intro d<;>try(cases d;done))
 exact fM c [] (.raw (.tuple #[])) rfl ⟨rfl,m,rfl,hp⟩
theorem iZ (l:List (Int×Int)) (hl:l.length<=100000) (v:lH CC (0,0) l) (lo hi f:Nat) (B:lo<=100000) (hf:f+hi<=l.length) (w:HpX CC (0,0) f hi lo lo l):A9 Tryz.prog 244 [.sr 1000000 AU 0 l.length,.p T3 (lo:Int),.p T3 (hi:Int),.p T3 (f:Int),.fn 192] [(1000000,.arr 106 AU l)] [1000000] (λres A=>res=.raw (.tuple #[])/\∃r,A=[(1000000,.arr 106 AU r)]/\EC (0,0) f (f+hi) l r/\Hp CC (0,0) f hi lo r):=by
 refine KY [0,1,2,3,4,10,11,18,40,58] [] [] Tryz.func244 Tryz.ntmps244 (AF Ey AH) ?_;intro w0 K O0 ρ0 a D E;simp only[Ak];repeat'(first|exact trivial|apply eS rfl|apply AB|refine rX a ?_ ?_|refine rC ?_ ?_<;>intro d<;>try(cases d;done))
 refine AK (ι:={s:Nat×List (Int×Int)//s.1<=lo+hi/\EC (0,0) f (f+hi) l s.2/\HpX CC (0,0) f hi lo s.1 s.2}) (λs=>⟨[(0,.sr 1000000 AU 0 l.length),(2,.p T3 (hi:Int)),(3,.p T3 (f:Int)),(4,.fn 192),(10,.p (.int .i64) (s.1.1:Int))],[(1000000,.arr 106 AU s.1.2)]⟩) (λs=>lo+hi-s.1.1) ⟨(lo,l),by omega,EC.refl _ _ l,w⟩ (AC [(1000000,.nm 1000000)] rfl rfl ?_ ?_) (λs=>?_)
 .first|exact eN|refine eM ?_
 .first|exact eN|refine eM ?_
 obtain⟨⟨root,m⟩,z,hp,hx⟩:=s;simp only at z hp hx ⊢;have C:=hp.len;have k:=v.perm CH hp.perm;repeat'(first|exact trivial|apply eS rfl|apply AB|refine rX a ?_ ?_)
 .omega
 refine rC ?_ ?_<;>intro d
 .have hl:hi<=2*root+1:=by omega
  repeat'(first|exact trivial|apply eS rfl|apply AB|refine rX a ?_ ?_|refine rC ?_ ?_<;>intro d<;>try(cases d;done))
  exact fM a [] (.raw (.tuple #[])) rfl ⟨rfl,m,rfl,hp,A3M hx hl⟩
 have hl:2*root+1<hi:=by omega
 have e1:((f:Int)+(2*(root:Int)+1)).toNat=f+(2*root+1):=by omega
 have e2:((f:Int)+(2*(root:Int)+1+1)).toNat=f+(2*root+2):=by omega
 have q:((f:Int)+(2*(root:Int)+1)+1).toNat=f+(2*root+2):=by omega
 have g:((f:Int)+(root:Int)).toNat=f+root:=by omega
 repeat'(first|exact trivial|apply eS rfl|apply AB|refine rX a ?_ ?_)
 .dsimp only[Ty.den];exact⟨by omega,λ_=>by omega,λ_=>by omega,λ_=>by omega,λ_=>by omega,λ_=>by omega⟩
 refine Dd (by simp only[go_sem,Nat.reduceEqDiff,reduceCtorEq,Nat.reduceAdd,Nat.reduceSub,Nat.reduceMul,Nat.reduceLeDiff,Nat.reduceLT,Int.reduceLE,Int.reduceToNat,Int.reduceNeg,↓reduceIte];rfl) ?_ ?_
 .intro e;simp only[An,Do]at e;obtain⟨hh,e⟩:=e;have y:CC (m.getD (f+(2*root+1)) (0,0)) (m.getD (f+(2*root+2)) (0,0))<0:=by rw[<-e1,<-q];exact e
  have x:2*root+2<hi:=by omega
  have hs:∀c,(c=2*root+1\/c=2*root+2)->c<hi->c≠2*root+2->CC (m.getD (f+c) (0,0)) (m.getD (f+(2*root+2)) (0,0))<0:=λc h1 t u=>by
   rw[show c=2*root+1 by omega];exact y
  repeat'(first|exact trivial|apply eS rfl|apply AB|refine rX a ?_ ?_)
  .omega
  .exact CS
  refine Dd (by simp only[go_sem,Nat.reduceEqDiff,reduceCtorEq,Nat.reduceAdd,Nat.reduceSub,Nat.reduceMul,Nat.reduceLeDiff,Nat.reduceLT,Int.reduceLE,Int.reduceToNat,Int.reduceNeg,↓reduceIte];rfl) ?_ ?_
  .intro b;simp only[RH,On]at b;rw[g,e2]at b;have n:=k.lt CH (i:=f+root) (j:=f+(2*root+2)) (by omega) (by omega) (by omega) b;repeat'(first|exact trivial|apply eS rfl|apply AB|refine rX a ?_ ?_|refine rC ?_ ?_<;>intro d<;>try(cases d;done))
   exact fM a [] (.raw (.tuple #[])) rfl ⟨rfl,m,rfl,hp,iV CH hx (.inr rfl) n hs⟩
  intro b;simp only[ADE,Do]at b;rw[g,e2]at b;have o:CR (0,0) m (f+root) (f+(2*root+2))=(m.set (f+root) (m.getD (f+(2*root+2)) (0,0))).set (f+(2*root+2)) (m.getD (f+root) (0,0)):=rfl;repeat'(first|exact trivial|apply eS rfl|apply AB|refine rP a ?_ ?_|fail)
  (refine CA drawsAny a 22 [([0,1,2,3,8,9,10,11,12,13,14,15,16,17,18,19,20],21)] [4,5,6,7] (by kernel_rfl) (KX ?_ ?_);(next=>exact CS);refine NJ a [] ?_ ?_;(next=>exact CS);refine Re a ?_ ?_ ?_;(next=>exact CS);(next=>exact CS))
  rw[g,e2];repeat'(first|exact trivial|apply eS rfl|apply AB|refine rX a ?_ ?_|refine rC ?_ ?_<;>intro d<;>try(cases d;done))
  refine⟨⟨(2*root+2,CR (0,0) m (f+root) (f+(2*root+2))),by simp only;omega,hp.trans (EC.swap m (by omega) (by omega) (by omega) (by omega) (by omega)),iW hx x (by omega) (.inr rfl) b hs⟩,by simp only;omega,AC [(1000000,.nm 1000000)] rfl rfl ?_ ?_⟩
  .simp only;rw[o];first|exact eN|refine eM ?_
  simp only;rw[show ((2*root+2:Nat):Int)=2*(root:Int)+1+1 by omega];first|exact eN|refine eM ?_
 intro e;have hs:∀c,(c=2*root+1\/c=2*root+2)->c<hi->c≠2*root+1->CC (m.getD (f+c) (0,0)) (m.getD (f+(2*root+1)) (0,0))<0:=λc h1 t u=>by
  simp only[AAH,On]at e;have a:c=2*root+2:=by omega
  subst a;rcases e with h|h
  .omega
  rw[e1,q]at h;exact k.lt CH (by omega) (by omega) (by omega) h
 repeat'(first|exact trivial|apply eS rfl|apply AB|refine rX a ?_ ?_)
 .exact CS
 refine Dd (by simp only[go_sem,Nat.reduceEqDiff,reduceCtorEq,Nat.reduceAdd,Nat.reduceSub,Nat.reduceMul,Nat.reduceLeDiff,Nat.reduceLT,Int.reduceLE,Int.reduceToNat,Int.reduceNeg,↓reduceIte];rfl) ?_ ?_
 .intro b;simp only[RH,On]at b;rw[g,e1]at b;have n:=k.lt CH (i:=f+root) (j:=f+(2*root+1)) (by omega) (by omega) (by omega) b;repeat'(first|exact trivial|apply eS rfl|apply AB|refine rX a ?_ ?_|refine rC ?_ ?_<;>intro d<;>try(cases d;done))
  exact fM a [] (.raw (.tuple #[])) rfl ⟨rfl,m,rfl,hp,iV CH hx (.inl rfl) n hs⟩
 intro b;simp only[ADE,Do]at b;rw[g,e1]at b;have o:CR (0,0) m (f+root) (f+(2*root+1))=(m.set (f+root) (m.getD (f+(2*root+1)) (0,0))).set (f+(2*root+1)) (m.getD (f+root) (0,0)):=rfl;repeat'(first|exact trivial|apply eS rfl|apply AB|refine rP a ?_ ?_|fail)
 (refine CA drawsAny a 22 [([0,1,2,3,8,9,10,11,12,13,14,15,16,17,18,19,20],21)] [4,5,6,7] (by kernel_rfl) (KX ?_ ?_);(next=>exact CS);refine NJ a [] ?_ ?_;(next=>exact CS);refine Re a ?_ ?_ ?_;(next=>exact CS);(next=>exact CS))
 rw[g,e1];repeat'(first|exact trivial|apply eS rfl|apply AB|refine rX a ?_ ?_|refine rC ?_ ?_<;>intro d<;>try(cases d;done))
 refine⟨⟨(2*root+1,CR (0,0) m (f+root) (f+(2*root+1))),by simp only;omega,hp.trans (EC.swap m (by omega) (by omega) (by omega) (by omega) (by omega)),iW hx hl (by omega) (.inl rfl) b hs⟩,by simp only;omega,AC [(1000000,.nm 1000000)] rfl rfl ?_ ?_⟩
 .simp only;rw[o];first|exact eN|refine eM ?_
 simp only;rw[show ((2*root+1:Nat):Int)=2*(root:Int)+1 by omega];first|exact eN|refine eM ?_
end
section
attribute [local go_sem] Cv
theorem A3O (l:List (Int×Int)) (hl:l.length<=100000) (t:lH CC (0,0) l) (a b:Nat) (G:a<=b) (H:b<=l.length):A9 Tryz.prog 233 [.sr 1000000 AU 0 l.length,.p T3 (a:Int),.p T3 (b:Int),.fn 192] [(1000000,.arr 106 AU l)] [1000000] (λres A=>res=.raw (.tuple #[])/\∃r,A=[(1000000,.arr 106 AU r)]/\EC (0,0) a b l r/\SV CC (0,0) a b r):=by
 refine KY [0,1,2,3,8,9,10,11,12,21,33] [] [] Tryz.func233 Tryz.ntmps233 AH ?_;intro w0 K O0 ρ0 d I J;simp only[Ak];obtain⟨n,hn⟩:∃n,b=a+n:=⟨b-a,by omega⟩;subst hn;have q:(((a+n:Nat):Int)-(a:Int)-1).tdiv 2=(((n-1) / 2+1:Nat):Int)-1:=by
  by_cases h0:n=0
  .subst h0;rw[show ((a+0:Nat):Int)-(a:Int)-1=-1 by omega];decide
  rw[AAd (by omega)];omega
 have en:((a+n:Nat):Int)-(a:Int)=(n:Int):=by omega
 repeat'(first|exact trivial|apply eS rfl|apply AB|refine rX d ?_ ?_|refine rC ?_ ?_<;>intro e<;>try(cases e;done))
 .omega
 .rw[q];exact⟨by omega,by decide,by omega⟩
 rw[q,en];refine AK (ι:={s:Nat×List (Int×Int)//s.1<=n+1/\EC (0,0) a (a+n) l s.2/\Hp CC (0,0) a n s.1 s.2}) (λs=>⟨[(0,.sr 1000000 AU 0 l.length),(3,.fn 192),(8,.p T3 (a:Int)),(9,.p (.int .i64) (0:Int)),(10,.p (.int .i64) (n:Int)),(11,.p (.int .i64) ((s.1.1:Int)-1))],[(1000000,.arr 106 AU s.1.2)]⟩) (λs=>s.1.1) ⟨((n-1) / 2+1,l),by simp only;omega,EC.refl _ _ l,λk c h1 E F=>by simp only at h1;omega⟩ (AC [(1000000,.nm 1000000)] rfl rfl ?_ ?_) (λs=>?_)
 .first|exact eN|refine eM ?_
 .first|exact eN|refine eM ?_
 obtain⟨⟨k,m⟩,hk,hp,hx⟩:=s;simp only at hk hp hx ⊢;have w:=hp.len;have v:=t.perm CH hp.perm;repeat'(first|exact trivial|apply eS rfl|apply AB|refine rX d ?_ ?_)
 refine rC ?_ ?_<;>intro e
 .have f:0<k:=by omega
  have key:=iZ m (by omega) v (k-1) n a (by omega) (by omega) (A0O (by rw[show k-1+1=k by omega];exact hx));rw[w,show ((k-1:Nat):Int)=(k:Int)-1 by omega]at key;repeat'(first|exact trivial|apply eS rfl|apply AB|refine rX d ?_ ?_)
  refine cP 5 d ?_ ?_
  .trivial
  refine rM d (key) [(1000000,.nm 1000000)] [] ?_ ?_ ?_
  .first|exact eN|refine eM ?_
  .first|exact eN|refine eM ?_
  rintro _ _ ⟨rfl,r,rfl,i,j⟩;refine⟨[(1000000,.nm 1000000)],.raw (.tuple #[]),[(1000000,.arr 106 AU r)],rfl,rfl,?_,?_,rfl,rfl,BV ?_⟩
  .first|exact eN|refine eM ?_
  .first|exact eN|refine eM ?_
  repeat'(first|exact trivial|apply eS rfl|apply AB|refine rX d ?_ ?_|refine rC ?_ ?_<;>intro e<;>try(cases e;done))
  .omega
  refine⟨⟨(k-1,r),by simp only;omega,hp.trans i,j⟩,by simp only;omega,AC [(1000000,.nm 1000000)] rfl rfl ?_ ?_⟩
  .simp only;first|exact eN|refine eM ?_
  simp only;rw[show ((k-1:Nat):Int)=(k:Int)-1 by omega];first|exact eN|refine eM ?_
 have f:k=0:=by omega
 subst f;repeat'(first|exact trivial|apply eS rfl|apply AB|refine rX d ?_ ?_)
 .omega
 refine AK (ι:={s:Nat×List (Int×Int)//s.1<=n/\EC (0,0) a (a+n) l s.2/\A0P CC (0,0) a n s.1 s.2}) (λs=>⟨[(0,.sr 1000000 AU 0 l.length),(3,.fn 192),(8,.p T3 (a:Int)),(9,.p (.int .i64) (0:Int)),(12,.p (.int .i64) ((s.1.1:Int)-1))],[(1000000,.arr 106 AU s.1.2)]⟩) (λs=>s.1.1) ⟨(n,m),If _,hp,oP hx⟩ (AC [(1000000,.nm 1000000)] rfl rfl ?_ ?_) (λs=>?_)
 .first|exact eN|refine eM ?_
 .first|exact eN|refine eM ?_
 obtain⟨⟨k,c⟩,hk,g,h⟩:=s;simp only at hk g h ⊢;have u:=g.len;repeat'(first|exact trivial|apply eS rfl|apply AB|refine rX d ?_ ?_)
 refine rC ?_ ?_<;>intro e
 .have f:0<k:=by omega
  have h:A0P CC (0,0) a n (k-1+1) c:=by rw[show k-1+1=k by omega];exact h
  obtain⟨B,C,D⟩:=A0Q CH h (by omega) (by omega);have o:EC (0,0) a (a+n) c (CR (0,0) c a (a+(k-1))):=EC.swap c (by omega) (by omega) (by omega) (by omega) (by omega);have y:=o.len;have x:=t.perm CH (g.trans o).perm;have e1:((a:Int)+((k:Int)-1)).toNat=a+(k-1):=by omega
  have z:CR (0,0) c a (a+(k-1))=(c.set a (c.getD (a+(k-1)) (0,0))).set (a+(k-1)) (c.getD a (0,0)):=rfl;have key:=iZ (CR (0,0) c a (a+(k-1))) (by omega) x 0 (k-1) a (by omega) (by omega) B;rw[y,u,show ((k-1:Nat):Int)=(k:Int)-1 by omega]at key;repeat'(first|exact trivial|apply eS rfl|apply AB|refine rP d ?_ ?_|fail)
  (refine CA drawsAny d 18 [([0,1,6,7,8,9,10,11,12,13,14,15,16],17)] [2,3,4,5] (by kernel_rfl) (KX ?_ ?_);(next=>exact CS);refine NJ d [] ?_ ?_;(next=>exact CS);refine Re d ?_ ?_ ?_;(next=>exact CS);(next=>exact CS))
  rw[e1,<-z];repeat'(first|exact trivial|apply eS rfl|apply AB|refine rP d ?_ ?_|fail)
  refine cP 5 d ?_ ?_
  .trivial
  refine rM d (key) [(1000000,.nm 1000000)] [] ?_ ?_ ?_
  .first|exact eN|refine eM ?_
  .first|exact eN|refine eM ?_
  rintro _ _ ⟨rfl,r,rfl,i,j⟩;refine⟨[(1000000,.nm 1000000)],.raw (.tuple #[]),[(1000000,.arr 106 AU r)],rfl,rfl,?_,?_,rfl,rfl,BV ?_⟩
  .first|exact eN|refine eM ?_
  .first|exact eN|refine eM ?_
  repeat'(first|exact trivial|apply eS rfl|apply AB|refine rX d ?_ ?_|refine rC ?_ ?_<;>intro e<;>try(cases e;done))
  .omega
  refine⟨⟨(k-1,r),by simp only;omega,(g.trans o).trans (i.mono (If _) (by omega)),A0R i j C D⟩,by simp only;omega,AC [(1000000,.nm 1000000)] rfl rfl ?_ ?_⟩
  .simp only;first|exact eN|refine eM ?_
  simp only;rw[show ((k-1:Nat):Int)=(k:Int)-1 by omega];first|exact eN|refine eM ?_
 have f:k=0:=by omega
 subst f;repeat'(first|exact trivial|apply eS rfl|apply AB|refine rX d ?_ ?_|refine rC ?_ ?_<;>intro e<;>try(cases e;done))
 exact fM d [] (.raw (.tuple #[])) rfl ⟨rfl,c,rfl,g,A3N h⟩
end
section
attribute [local go_sem] Cv
theorem A7E (l:List (Int×Int)) (hl:l.length<=100000) (O:lH CC (0,0) l) (a b p:Nat) (hap:a<=p) (aa:p<b) (V:b<=l.length):A9 Tryz.prog 239 [.sr 1000000 AU 0 l.length,.p T3 (a:Int),.p T3 (b:Int),.p T3 (p:Int),.fn 192] [(1000000,.arr 106 AU l)] [1000000] (λres ae=>∃(q:Nat) (w:Bool) (r:List (Int×Int)),res=.tup [.p T3 (q:Int),.p .bool w]/\ae=[(1000000,.arr 106 AU r)]/\EC (0,0) a b l r/\PtE CC (0,0) a b q r):=by
 refine KY [0,1,2,3,4,10,11,12,13,47,66,71,120,139,144] [] [] Tryz.func239 Tryz.ntmps239 (AF Ey AH) ?_;intro w0 K O0 ρ0 c ah ai;simp only[Ak];have g:EC (0,0) a b l (CR (0,0) l a p):=EC.swap l (If _) (by omega) hap aa V;have n:CR (0,0) l a p=(l.set a (l.getD p (0,0))).set p (l.getD a (0,0)):=rfl;repeat'(first|exact trivial|apply eS rfl|apply AB|refine rP c ?_ ?_|fail)
 (refine CA drawsAny c 14 [([0,1,4,5,6,7,8,9,10,11,12],13)] [2,3] (by kernel_rfl) (KX ?_ ?_);(next=>exact CS);refine NJ c [] ?_ ?_;(next=>exact CS);refine Re c ?_ ?_ ?_;(next=>exact CS);(next=>exact CS))
 rw[<-n];have y:=O.perm CH g.perm;have R:=g.len;clear n;generalize CR (0,0) l a p=m at *;repeat'(first|exact trivial|apply eS rfl|apply AB|refine rP c ?_ ?_|fail)
 .exact CS
 rw[show (a:Int)+1=((a+1:Nat):Int) by omega,show (b:Int)-1=((b-1:Nat):Int) by omega];refine AK (ι:={i:Nat//a<i/\i<=b/\PtI CC (0,0) a b i (b-1) m}) (λs=>⟨[(0,.sr 1000000 AU 0 l.length),(1,.p T3 (a:Int)),(4,.fn 192),(12,.p (.int .i64) (s.1:Int)),(13,.p (.int .i64) ((b-1:Nat):Int))],[(1000000,.arr 106 AU m)]⟩) (λs=>b-s.1) ⟨a+1,by omega,by omega,⟨λx h1 f=>by omega,λx h1 f=>by omega⟩⟩ (AC [(1000000,.nm 1000000)] rfl rfl ?_ ?_) (λs=>?_)
 .first|exact eN|refine eM ?_
 .first|exact eN|refine eM ?_
 obtain⟨i,E,I,t⟩:=s;simp only at E I t ⊢;repeat'(first|exact trivial|apply eS rfl|apply AB|refine rX c ?_ ?_)
 .dsimp only[Ty.den];exact⟨λ_=>by omega,λ_=>by omega⟩
 refine Dd (by simp only[go_sem,Nat.reduceEqDiff,reduceCtorEq,Nat.reduceAdd,Nat.reduceSub,Nat.reduceMul,Nat.reduceLeDiff,Nat.reduceLT,Int.reduceLE,Int.reduceToNat,Int.reduceNeg,↓reduceIte];rfl) ?_ ?_
 .intro d;simp only[An,Do]at d;obtain⟨h1,f⟩:=d;repeat'(first|exact trivial|apply eS rfl|apply AB|refine rX c ?_ ?_)
  .exact CS
  refine⟨⟨i+1,by omega,by omega,⟨λx G H=>?_,t.hi⟩⟩,by simp only;omega,AC [(1000000,.nm 1000000)] rfl rfl ?_ ?_⟩
  .by_cases e:x=i
   .rw[e];exact f
   exact t.lo x G (by omega)
  .first|exact eN|refine eM ?_
  first|exact eN|refine eM ?_
 intro d;have A:i<=b-1->CC (m.getD a (0,0)) (m.getD i (0,0))<0:=λh1=>y.lt CH (by omega) (by omega) (by omega) λf=>by
  simp only[AAH,On]at d;rcases d with h|h
  .omega
  exact h f
 have ag:i<=b-1+1:=by omega
 repeat'(first|exact trivial|apply eS rfl|apply AB|refine rX c ?_ ?_)
 refine AK (ι:={j:Nat//a<=j/\j<b/\i<=j+1/\PtI CC (0,0) a b i j m}) (λs=>⟨[(0,.sr 1000000 AU 0 l.length),(1,.p T3 (a:Int)),(4,.fn 192),(12,.p (.int .i64) (i:Int)),(13,.p (.int .i64) (s.1:Int))],[(1000000,.arr 106 AU m)]⟩) (λs=>s.1) ⟨b-1,by omega,by omega,by omega,t⟩ (AC [(1000000,.nm 1000000)] rfl rfl ?_ ?_) (λs=>?_)
 .first|exact eN|refine eM ?_
 .first|exact eN|refine eM ?_
 obtain⟨j,u,v,W,C⟩:=s;simp only at u v W C ⊢;clear d;repeat'(first|exact trivial|apply eS rfl|apply AB|refine rX c ?_ ?_)
 .dsimp only[Ty.den];exact⟨λ_=>by omega,λ_=>by omega⟩
 refine Dd (by simp only[go_sem,Nat.reduceEqDiff,reduceCtorEq,Nat.reduceAdd,Nat.reduceSub,Nat.reduceMul,Nat.reduceLeDiff,Nat.reduceLT,Int.reduceLE,Int.reduceToNat,Int.reduceNeg,↓reduceIte];rfl) ?_ ?_
 .intro d;simp only[An,Do,RH,On]at d;obtain⟨h1,f⟩:=d;have f:=y.lt CH (i:=j) (j:=a) (by omega) (by omega) (by omega) f;repeat'(first|exact trivial|apply eS rfl|apply AB|refine rX c ?_ ?_)
  .exact CS
  refine⟨⟨j-1,by omega,by omega,by omega,⟨C.lo,λx G H=>?_⟩⟩,by simp only;omega,AC [(1000000,.nm 1000000)] rfl rfl ?_ ?_⟩
  .by_cases e:x=j
   .rw[e];exact f
   exact C.hi x (by omega) H
  .first|exact eN|refine eM ?_
  simp only;rw[show ((j-1:Nat):Int)=(j:Int)-1 by omega];first|exact eN|refine eM ?_
 intro d;have B:i<=j->CC (m.getD j (0,0)) (m.getD a (0,0))<0:=λh1=>by
  simp only[AAH,On,ADE,Do]at d;rcases d with h|h
  .omega
  exact h
 repeat'(first|exact trivial|apply eS rfl|apply AB|refine rX c ?_ ?_)
 refine rC ?_ ?_<;>intro D
 .have Q:i=j+1:=by omega
  subst Q;have o:EC (0,0) a b m (CR (0,0) m j a):=EC.swap m u v (If _) (by omega) (by omega);have n:CR (0,0) m j a=(m.set j (m.getD a (0,0))).set a (m.getD j (0,0)):=rfl;repeat'(first|exact trivial|apply eS rfl|apply AB|refine rP c ?_ ?_|fail)
  (refine CA drawsAny c 14 [([0,1,4,5,6,7,8,9,10,11,12],13)] [2,3] (by kernel_rfl) (KX ?_ ?_);(next=>exact CS);refine NJ c [] ?_ ?_;(next=>exact CS);refine Re c ?_ ?_ ?_;(next=>exact CS);(next=>exact CS))
  rw[<-n];repeat'(first|exact trivial|apply eS rfl|apply AB|refine rX c ?_ ?_|refine rC ?_ ?_<;>intro D<;>try(cases D;done))
  exact fM c [.tmp 10,.tmp 11] (.tup [.p T3 (j:Int),.p .bool true]) eT ⟨j,true,_,rfl,rfl,g.trans o,yG C u v (by omega)⟩
 have Z:i≠j:=λe=>by
  have S:=A (by omega);have af:=B (by omega);rw[e,CH.anti]at S;omega
 have P:i<j:=by omega
 have o:EC (0,0) a b m (CR (0,0) m i j):=EC.swap m (by omega) (by omega) u v (by omega);have n:CR (0,0) m i j=(m.set i (m.getD j (0,0))).set j (m.getD i (0,0)):=rfl;have M:=iY C E P v (by omega) (A (by omega)) (B (by omega));repeat'(first|exact trivial|apply eS rfl|apply AB|refine rP c ?_ ?_|fail)
 (refine CA drawsAny c 14 [([0,1,4,5,6,7,8,9,10,11,12],13)] [2,3] (by kernel_rfl) (KX ?_ ?_);(next=>exact CS);refine NJ c [] ?_ ?_;(next=>exact CS);refine Re c ?_ ?_ ?_;(next=>exact CS);(next=>exact CS))
 rw[<-n];have J:=g.trans o;have y:=O.perm CH J.perm;have R:=J.len;clear n o C t A B d g;generalize CR (0,0) m i j=ad at *;repeat'(first|exact trivial|apply eS rfl|apply AB|refine rX c ?_ ?_)
 .exact CS
 .exact CS
 rw[show (i:Int)+1=((i+1:Nat):Int) by omega,show (j:Int)-1=((j-1:Nat):Int) by omega];refine AK (ι:={s:Nat×Nat×List (Int×Int)//(a<s.1/\s.1<=s.2.1+1)/\(a<=s.2.1/\s.2.1<b)/\EC (0,0) a b l s.2.2/\PtI CC (0,0) a b s.1 s.2.1 s.2.2}) (λs=>⟨[(0,.sr 1000000 AU 0 l.length),(1,.p T3 (a:Int)),(4,.fn 192),(12,.p (.int .i64) (s.1.1:Int)),(13,.p (.int .i64) (s.1.2.1:Int))],[(1000000,.arr 106 AU s.1.2.2)]⟩) (λs=>s.1.2.1+1-s.1.1) ⟨(i+1,j-1,ad),by simp only;omega,by simp only;omega,J,M⟩ (AC [(1000000,.nm 1000000)] rfl rfl ?_ ?_) (λs=>?_)
 .first|exact eN|refine eM ?_
 .first|exact eN|refine eM ?_
 clear M y R J;obtain⟨⟨i,j,m⟩,⟨E,I⟩,⟨u,v⟩,g,t⟩:=s;simp only at E I u v g t ⊢;have y:=O.perm CH g.perm;have R:=g.len;repeat'(first|exact trivial|apply eS rfl|apply AB|refine rX c ?_ ?_)
 refine AK (ι:={k:Nat//a<k/\i<=k/\k<=j+1/\PtI CC (0,0) a b k j m}) (λs=>⟨[(0,.sr 1000000 AU 0 l.length),(1,.p T3 (a:Int)),(4,.fn 192),(12,.p (.int .i64) (s.1:Int)),(13,.p (.int .i64) (j:Int))],[(1000000,.arr 106 AU m)]⟩) (λs=>j+1-s.1) ⟨i,E,If _,I,t⟩ (AC [(1000000,.nm 1000000)] rfl rfl ?_ ?_) (λs=>?_)
 .first|exact eN|refine eM ?_
 .first|exact eN|refine eM ?_
 obtain⟨k,T,X,U,L⟩:=s;simp only at T U X L ⊢;repeat'(first|exact trivial|apply eS rfl|apply AB|refine rX c ?_ ?_)
 .dsimp only[Ty.den];exact⟨λ_=>by omega,λ_=>by omega⟩
 refine Dd (by simp only[go_sem,Nat.reduceEqDiff,reduceCtorEq,Nat.reduceAdd,Nat.reduceSub,Nat.reduceMul,Nat.reduceLeDiff,Nat.reduceLT,Int.reduceLE,Int.reduceToNat,Int.reduceNeg,↓reduceIte];rfl) ?_ ?_
 .intro d;simp only[An,Do]at d;obtain⟨h1,f⟩:=d;repeat'(first|exact trivial|apply eS rfl|apply AB|refine rX c ?_ ?_)
  .exact CS
  refine⟨⟨k+1,by omega,by omega,by omega,⟨λx G H=>?_,L.hi⟩⟩,by simp only;omega,AC [(1000000,.nm 1000000)] rfl rfl ?_ ?_⟩
  .by_cases e:x=k
   .rw[e];exact f
   exact L.lo x G (by omega)
  .first|exact eN|refine eM ?_
  first|exact eN|refine eM ?_
 intro d;have A:k<=j->CC (m.getD a (0,0)) (m.getD k (0,0))<0:=λh1=>y.lt CH (by omega) (by omega) (by omega) λf=>by
  simp only[AAH,On]at d;rcases d with h|h
  .omega
  exact h f
 repeat'(first|exact trivial|apply eS rfl|apply AB|refine rX c ?_ ?_)
 refine AK (ι:={z:Nat//a<=z/\z<=j/\k<=z+1/\PtI CC (0,0) a b k z m}) (λs=>⟨[(0,.sr 1000000 AU 0 l.length),(1,.p T3 (a:Int)),(4,.fn 192),(12,.p (.int .i64) (k:Int)),(13,.p (.int .i64) (s.1:Int))],[(1000000,.arr 106 AU m)]⟩) (λs=>s.1) ⟨j,u,If _,U,L⟩ (AC [(1000000,.nm 1000000)] rfl rfl ?_ ?_) (λs=>?_)
 .first|exact eN|refine eM ?_
 .first|exact eN|refine eM ?_
 obtain⟨z,N,ab,Y,F⟩:=s;simp only at N ab Y F ⊢;clear d;repeat'(first|exact trivial|apply eS rfl|apply AB|refine rX c ?_ ?_)
 .dsimp only[Ty.den];exact⟨λ_=>by omega,λ_=>by omega⟩
 refine Dd (by simp only[go_sem,Nat.reduceEqDiff,reduceCtorEq,Nat.reduceAdd,Nat.reduceSub,Nat.reduceMul,Nat.reduceLeDiff,Nat.reduceLT,Int.reduceLE,Int.reduceToNat,Int.reduceNeg,↓reduceIte];rfl) ?_ ?_
 .intro d;simp only[An,Do,RH,On]at d;obtain⟨h1,f⟩:=d;have f:=y.lt CH (i:=z) (j:=a) (by omega) (by omega) (by omega) f;repeat'(first|exact trivial|apply eS rfl|apply AB|refine rX c ?_ ?_)
  .exact CS
  refine⟨⟨z-1,by omega,by omega,by omega,⟨F.lo,λx G H=>?_⟩⟩,by simp only;omega,AC [(1000000,.nm 1000000)] rfl rfl ?_ ?_⟩
  .by_cases e:x=z
   .rw[e];exact f
   exact F.hi x (by omega) H
  .first|exact eN|refine eM ?_
  simp only;rw[show ((z-1:Nat):Int)=(z:Int)-1 by omega];first|exact eN|refine eM ?_
 intro d;have B:k<=z->CC (m.getD z (0,0)) (m.getD a (0,0))<0:=λh1=>by
  simp only[AAH,On,ADE,Do]at d;rcases d with h|h
  .omega
  exact h
 repeat'(first|exact trivial|apply eS rfl|apply AB|refine rX c ?_ ?_)
 refine rC ?_ ?_<;>intro D
 .have Q:k=z+1:=by omega
  subst Q;have o:EC (0,0) a b m (CR (0,0) m z a):=EC.swap m N (by omega) (If _) (by omega) (by omega);have n:CR (0,0) m z a=(m.set z (m.getD a (0,0))).set a (m.getD z (0,0)):=rfl;repeat'(first|exact trivial|apply eS rfl|apply AB|refine rP c ?_ ?_|fail)
  (refine CA drawsAny c 14 [([0,1,4,5,6,7,8,9,10,11,12],13)] [2,3] (by kernel_rfl) (KX ?_ ?_);(next=>exact CS);refine NJ c [] ?_ ?_;(next=>exact CS);refine Re c ?_ ?_ ?_;(next=>exact CS);(next=>exact CS))
  rw[<-n];repeat'(first|exact trivial|apply eS rfl|apply AB|refine rX c ?_ ?_|refine rC ?_ ?_<;>intro D<;>try(cases D;done))
  exact fM c [.tmp 10,.tmp 11] (.tup [.p T3 (z:Int),.p .bool false]) eT ⟨z,false,_,rfl,rfl,g.trans o,yG F N (by omega) (by omega)⟩
 have Z:k≠z:=λe=>by
  have S:=A (by omega);have af:=B (by omega);rw[e,CH.anti]at S;omega
 have P:k<z:=by omega
 have o:EC (0,0) a b m (CR (0,0) m k z):=EC.swap m (by omega) (by omega) N (by omega) (by omega);have n:CR (0,0) m k z=(m.set k (m.getD z (0,0))).set z (m.getD k (0,0)):=rfl;have M:=iY F T P (by omega) (by omega) (A (by omega)) (B (by omega));repeat'(first|exact trivial|apply eS rfl|apply AB|refine rP c ?_ ?_|fail)
 (refine CA drawsAny c 14 [([0,1,4,5,6,7,8,9,10,11,12],13)] [2,3] (by kernel_rfl) (KX ?_ ?_);(next=>exact CS);refine NJ c [] ?_ ?_;(next=>exact CS);refine Re c ?_ ?_ ?_;(next=>exact CS);(next=>exact CS))
 rw[<-n];repeat'(first|exact trivial|apply eS rfl|apply AB|refine rX c ?_ ?_)
 .exact CS
 .exact CS
 refine⟨⟨(k+1,z-1,CR (0,0) m k z),by simp only;omega,by simp only;omega,g.trans o,M⟩,by simp only;omega,AC [(1000000,.nm 1000000)] rfl rfl ?_ ?_⟩
 .first|exact eN|refine eM ?_
 simp only;rw[show ((z-1:Nat):Int)=(z:Int)-1 by omega];first|exact eN|refine eM ?_
end
section
attribute [local go_sem] Cv
theorem A7F (l:List (Int×Int)) (hl:l.length<=100000) (L:lH CC (0,0) l) (a b:Nat) (ak:a<b) (al:b<=l.length) (U:Bf CC (0,0) a b l):A9 Tryz.prog 237 [.sr 1000000 AU 0 l.length,.p T3 (a:Int),.p T3 (b:Int),.fn 192] [(1000000,.arr 106 AU l)] [1000000] (λres aj=>∃(w:Bool) (r:List (Int×Int)),res=.p .bool w/\aj=[(1000000,.arr 106 AU r)]/\EC (0,0) a b l r/\(w=true->SV CC (0,0) a b r)):=by
 refine KY [0,1,2,3,8,9,10,11,12,16,36,41,45,65,69,84,104,109,124] [] [] Tryz.func237 Tryz.ntmps237 (AF Ey AH) ?_;intro w0 K O0 ρ0 f am an;simp only[Ak];repeat'(first|exact trivial|apply eS rfl|apply AB|refine rX f ?_ ?_|refine rC ?_ ?_<;>intro q<;>try(cases q;done))
 .exact CS
 refine AK (ι:={s:Nat×Nat×List (Int×Int)//(a+1<=s.1/\s.1<=b)/\s.2.1<=5/\EC (0,0) a b l s.2.2/\SV CC (0,0) a s.1 s.2.2}) (λs=>⟨[(0,.sr 1000000 AU 0 l.length),(1,.p T3 (a:Int)),(2,.p T3 (b:Int)),(3,.fn 192),(9,.p (.int .i64) (s.1.1:Int)),(10,.p (.int .i64) (s.1.2.1:Int))],[(1000000,.arr 106 AU s.1.2.2)]⟩) (λs=>5-s.1.2.1) ⟨(a+1,0,l),by simp only;omega,NO _,EC.refl a b l,cD a l⟩ (AC [(1000000,.nm 1000000)] rfl rfl ?_ ?_) (λs=>?_)
 .first|exact eN|refine eM ?_
 .first|exact eN|refine eM ?_
 obtain⟨⟨i,t,m⟩,⟨ab,N⟩,ai,u,Q⟩:=s;simp only at ab N ai u Q ⊢;have P:=L.perm CH u.perm;have ah:=u.len;repeat'(first|exact trivial|apply eS rfl|apply AB|refine rX f ?_ ?_)
 refine rC ?_ ?_<;>intro q
 .repeat'(first|exact trivial|apply eS rfl|apply AB|refine rX f ?_ ?_)
  refine AK (ι:={k:Nat//i<=k/\k<=b/\SV CC (0,0) a k m}) (λs=>⟨[(0,.sr 1000000 AU 0 l.length),(1,.p T3 (a:Int)),(2,.p T3 (b:Int)),(3,.fn 192),(9,.p (.int .i64) (s.1:Int)),(10,.p (.int .i64) (t:Int))],[(1000000,.arr 106 AU m)]⟩) (λs=>b-s.1) ⟨i,If _,N,Q⟩ (AC [(1000000,.nm 1000000)] rfl rfl ?_ ?_) (λs=>?_)
  .first|exact eN|refine eM ?_
  .first|exact eN|refine eM ?_
  obtain⟨k,ae,af,F⟩:=s;simp only at ae af F ⊢;have J:((k:Int)-1).toNat=k-1:=by omega
  repeat'(first|exact trivial|apply eS rfl|apply AB|refine rX f ?_ ?_)
  .dsimp only[Ty.den];exact⟨λ_=>by omega,λ_=>by omega,λ_=>by omega⟩
  refine Dd (by simp only[go_sem,Nat.reduceEqDiff,reduceCtorEq,Nat.reduceAdd,Nat.reduceSub,Nat.reduceMul,Nat.reduceLeDiff,Nat.reduceLT,Int.reduceLE,Int.reduceToNat,Int.reduceNeg,↓reduceIte];rfl) ?_ ?_
  .intro g;simp only[An,Do,RH,On]at g;obtain⟨h1,z⟩:=g;rw[J]at z;have z:=P.lt CH (i:=k) (j:=k-1) (by omega) (by omega) (by omega) z;repeat'(first|exact trivial|apply eS rfl|apply AB|refine rX f ?_ ?_)
   .exact CS
   refine⟨⟨k+1,by omega,by omega,A3L CH F (by omega) z⟩,by simp only;omega,AC [(1000000,.nm 1000000)] rfl rfl ?_ ?_⟩
   .first|exact eN|refine eM ?_
   first|exact eN|refine eM ?_
  intro g;clear g;repeat'(first|exact trivial|apply eS rfl|apply AB|refine rX f ?_ ?_)
  refine rC (λZ=>?_) (λZ=>?_)
  .have O:k=b:=by omega
   subst O;repeat'(first|exact trivial|apply eS rfl|apply AB|refine rX f ?_ ?_|refine rC ?_ ?_<;>intro q<;>try(cases q;done))
   exact fM f [.tmp 8] (.p .bool true) eT ⟨true,m,rfl,rfl,u,λ_=>F⟩
  have O:k<b:=by omega
  repeat'(first|exact trivial|apply eS rfl|apply AB|refine rX f ?_ ?_)
  .exact CS
  refine rC (λaa=>?_) (λaa=>?_)
  .repeat'(first|exact trivial|apply eS rfl|apply AB|refine rX f ?_ ?_|refine rC ?_ ?_<;>intro q<;>try(cases q;done))
   exact fM f [.tmp 8] (.p .bool false) eT ⟨false,m,rfl,rfl,u,λh=>by cases h⟩
  have v:EC (0,0) a b m (CR (0,0) m k (k-1)):=EC.swap m (by omega) (by omega) (by omega) (by omega) (by omega);have B:CR (0,0) m k (k-1)=(m.set k (m.getD (k-1) (0,0))).set (k-1) (m.getD k (0,0)):=rfl;have R:oM CC (0,0) a (k-1) (k-1) (CR (0,0) m k (k-1)):=⟨λx y h0 h1 z S T=>by
   have M:=Ib (d:=(0,0)) (l:=m) (i:=k) (j:=k-1) (by omega) (by omega);rw[M x,M y,As S,As (show ¬x=k by omega),As T,As (show ¬y=k by omega)];exact F x y h0 h1 (by omega),λy h1 z=>by omega⟩
  repeat'(first|exact trivial|apply eS rfl|apply AB|refine rP f ?_ ?_|fail)
  (refine CA drawsAny f 16 [([0,1,5,6,7,8,9,10,11,12,13,14],15)] [2,3,4] (by kernel_rfl) (KX ?_ ?_);(next=>exact CS);refine NJ f [] ?_ ?_;(next=>exact CS);refine Re f ?_ ?_ ?_;(next=>exact CS);(next=>exact CS))
  rw[J,<-B];have I:=u.trans v;clear B v P ah;generalize CR (0,0) m k (k-1)=c0 at *;refine H5 ?_;refine QC (ι:={c:List (Int×Int)//EC (0,0) a b l c/\SV CC (0,0) a k c}) (λs=>⟨[(0,.sr 1000000 AU 0 l.length),(1,.p T3 (a:Int)),(2,.p T3 (b:Int)),(3,.fn 192),(9,.p (.int .i64) (k:Int)),(10,.p (.int .i64) (t:Int))],[(1000000,.arr 106 AU s.1)]⟩) ?_ (λs=>?_)
  .repeat'(first|exact trivial|apply eS rfl|apply AB|refine rX f ?_ ?_)
   .exact CS
   refine rC (λG=>?_) (λG=>?_)
   .repeat'(first|exact trivial|apply eS rfl|apply AB|refine rX f ?_ ?_)
    .exact CS
    rw[show (k:Int)-1=((k-1:Nat):Int) by omega];refine AK (ι:={s:Nat×List (Int×Int)//(a<=s.1/\s.1<=k-1)/\EC (0,0) a b l s.2/\oM CC (0,0) a (k-1) s.1 s.2}) (λs=>⟨[(0,.sr 1000000 AU 0 l.length),(1,.p T3 (a:Int)),(2,.p T3 (b:Int)),(3,.fn 192),(9,.p (.int .i64) (k:Int)),(10,.p (.int .i64) (t:Int)),(11,.p (.int .i64) (s.1.1:Int))],[(1000000,.arr 106 AU s.1.2)]⟩) (λs=>s.1.1) ⟨(k-1,c0),by simp only;omega,I,R⟩ (AC [(1000000,.nm 1000000)] rfl rfl ?_ ?_) (λs=>?_)
    .first|exact eN|refine eM ?_
    .first|exact eN|refine eM ?_
    obtain⟨⟨j,c⟩,⟨D,A⟩,n,o⟩:=s;simp only at D A n o ⊢;have X:=L.perm CH n.perm;have Y:=n.len;have C:((j:Int)-1).toNat=j-1:=by omega
    have V:=U.pin n;repeat'(first|exact trivial|apply eS rfl|apply AB|refine rX f ?_ ?_)
    refine rC (λH=>?_) (λH=>?_)
    .repeat'(first|exact trivial|apply eS rfl|apply AB|refine rX f ?_ ?_)
     .exact CS
     refine Dd (by simp only[go_sem,Nat.reduceEqDiff,reduceCtorEq,Nat.reduceAdd,Nat.reduceSub,Nat.reduceMul,Nat.reduceLeDiff,Nat.reduceLT,Int.reduceLE,Int.reduceToNat,Int.reduceNeg,↓reduceIte];rfl) ?_ ?_
     .intro g;simp only[RH,On]at g;rw[C]at g;have g:=X.lt CH (i:=j) (j:=j-1) (by omega) (by omega) (by omega) g;have E:=XB CH o D A (.inr g);rw[show k-1+1=k by omega]at E;repeat'(first|exact trivial|apply eS rfl|apply AB|refine rX f ?_ ?_)
      refine⟨⟨c,n,E⟩,AC [(1000000,.nm 1000000)] rfl rfl ?_ ?_⟩
      .first|exact eN|refine eM ?_
      first|exact eN|refine eM ?_
     intro g;simp only[ADE,Do]at g;rw[C]at g;have g:CC (c.getD j (0,0)) (c.getD (j-1) (0,0))<0:=g;have W:a<j:=by
      refine FT λhn=>?_;have e:j=a:=by omega
      subst e;rcases V with h|h
      .omega
      have:=h j (If _) (by omega);rw[CH.anti]at this;omega
     have v:EC (0,0) a b c (CR (0,0) c j (j-1)):=EC.swap c (by omega) (by omega) (by omega) (by omega) (by omega);have B:CR (0,0) c j (j-1)=(c.set j (c.getD (j-1) (0,0))).set (j-1) (c.getD j (0,0)):=rfl;repeat'(first|exact trivial|apply eS rfl|apply AB|refine rP f ?_ ?_|fail)
     (refine CA drawsAny f 16 [([0,1,5,6,7,8,9,10,11,12,13,14],15)] [2,3,4] (by kernel_rfl) (KX ?_ ?_);(next=>exact CS);refine NJ f [] ?_ ?_;(next=>exact CS);refine Re f ?_ ?_ ?_;(next=>exact CS);(next=>exact CS))
     rw[C,<-B];repeat'(first|exact trivial|apply eS rfl|apply AB|refine rX f ?_ ?_)
     .exact CS
     refine⟨⟨(j-1,CR (0,0) c j (j-1)),by simp only;omega,n.trans v,ZR o W A (by omega) g⟩,by simp only;omega,AC [(1000000,.nm 1000000)] rfl rfl ?_ ?_⟩
     .first|exact eN|refine eM ?_
     simp only;rw[show ((j-1:Nat):Int)=(j:Int)-1 by omega];first|exact eN|refine eM ?_
    have ad:j=a:=by omega
    have E:=XB CH o D A (.inl ad);rw[show k-1+1=k by omega]at E;repeat'(first|exact trivial|apply eS rfl|apply AB|refine rX f ?_ ?_)
    refine⟨⟨c,n,E⟩,AC [(1000000,.nm 1000000)] rfl rfl ?_ ?_⟩
    .first|exact eN|refine eM ?_
    first|exact eN|refine eM ?_
   have ag:k=a+1:=by omega
   repeat'(first|exact trivial|apply eS rfl|apply AB|refine rX f ?_ ?_)
   refine⟨⟨c0,I,by rw[ag];exact cD a c0⟩,AC [(1000000,.nm 1000000)] rfl rfl ?_ ?_⟩
   .first|exact eN|refine eM ?_
   first|exact eN|refine eM ?_
  obtain⟨c,n,o⟩:=s;simp only;clear I R;repeat'(first|exact trivial|apply eS rfl|apply AB|refine rX f ?_ ?_)
  .exact CS
  refine rC (λG=>?_) (λG=>?_)
  .repeat'(first|exact trivial|apply eS rfl|apply AB|refine rX f ?_ ?_)
   .exact CS
   rw[show (k:Int)+1=((k+1:Nat):Int) by omega];refine AK (ι:={s:Nat×List (Int×Int)//(k+1<=s.1/\s.1<=b)/\EC (0,0) a b l s.2/\SV CC (0,0) a k s.2}) (λs=>⟨[(0,.sr 1000000 AU 0 l.length),(1,.p T3 (a:Int)),(2,.p T3 (b:Int)),(3,.fn 192),(9,.p (.int .i64) (k:Int)),(10,.p (.int .i64) (t:Int)),(12,.p (.int .i64) (s.1.1:Int))],[(1000000,.arr 106 AU s.1.2)]⟩) (λs=>b-s.1.1) ⟨(k+1,c),by simp only;omega,n,o⟩ (AC [(1000000,.nm 1000000)] rfl rfl ?_ ?_) (λs=>?_)
   .first|exact eN|refine eM ?_
   .first|exact eN|refine eM ?_
   clear n o;obtain⟨⟨j,c⟩,⟨D,A⟩,n,o⟩:=s;simp only at D A n o ⊢;have Y:=n.len;have C:((j:Int)-1).toNat=j-1:=by omega
   repeat'(first|exact trivial|apply eS rfl|apply AB|refine rX f ?_ ?_)
   refine rC (λH=>?_) (λH=>?_)
   .repeat'(first|exact trivial|apply eS rfl|apply AB|refine rX f ?_ ?_)
    .exact CS
    refine Dd (by simp only[go_sem,Nat.reduceEqDiff,reduceCtorEq,Nat.reduceAdd,Nat.reduceSub,Nat.reduceMul,Nat.reduceLeDiff,Nat.reduceLT,Int.reduceLE,Int.reduceToNat,Int.reduceNeg,↓reduceIte];rfl) ?_ ?_
    .intro g;clear g;repeat'(first|exact trivial|apply eS rfl|apply AB|refine rX f ?_ ?_)
     .exact CS
     refine⟨⟨(k,t+1,c),by simp only;omega,by simp only;omega,n,o⟩,by simp only;omega,AC [(1000000,.nm 1000000)] rfl rfl ?_ ?_⟩
     .first|exact eN|refine eM ?_
     first|exact eN|refine eM ?_
    intro g;clear g;have v:EC (0,0) k b c (CR (0,0) c j (j-1)):=EC.swap c (by omega) (by omega) (by omega) (by omega) (by omega);have B:CR (0,0) c j (j-1)=(c.set j (c.getD (j-1) (0,0))).set (j-1) (c.getD j (0,0)):=rfl;repeat'(first|exact trivial|apply eS rfl|apply AB|refine rP f ?_ ?_|fail)
    (refine CA drawsAny f 16 [([0,1,5,6,7,8,9,10,11,12,13,14],15)] [2,3,4] (by kernel_rfl) (KX ?_ ?_);(next=>exact CS);refine NJ f [] ?_ ?_;(next=>exact CS);refine Re f ?_ ?_ ?_;(next=>exact CS);(next=>exact CS))
    rw[C,<-B];repeat'(first|exact trivial|apply eS rfl|apply AB|refine rX f ?_ ?_)
    .exact CS
    refine⟨⟨(j+1,CR (0,0) c j (j-1)),by simp only;omega,n.trans (v.mono (by omega) (If _)),NT o λx ao ap=>v.out x (by omega)⟩,by simp only;omega,AC [(1000000,.nm 1000000)] rfl rfl ?_ ?_⟩
    .first|exact eN|refine eM ?_
    first|exact eN|refine eM ?_
   repeat'(first|exact trivial|apply eS rfl|apply AB|refine rX f ?_ ?_)
   .exact CS
   refine⟨⟨(k,t+1,c),by simp only;omega,by simp only;omega,n,o⟩,by simp only;omega,AC [(1000000,.nm 1000000)] rfl rfl ?_ ?_⟩
   .first|exact eN|refine eM ?_
   first|exact eN|refine eM ?_
  repeat'(first|exact trivial|apply eS rfl|apply AB|refine rX f ?_ ?_)
  .exact CS
  refine⟨⟨(k,t+1,c),by simp only;omega,by simp only;omega,n,o⟩,by simp only;omega,AC [(1000000,.nm 1000000)] rfl rfl ?_ ?_⟩
  .first|exact eN|refine eM ?_
  first|exact eN|refine eM ?_
 repeat'(first|exact trivial|apply eS rfl|apply AB|refine rX f ?_ ?_|refine rC ?_ ?_<;>intro q<;>try(cases q;done))
 exact fM f [.tmp 8] (.p .bool false) eT ⟨false,m,rfl,rfl,u,λh=>by cases h⟩
end
section
attribute [local go_sem] Cv
def Gg (l:List (Int×Int)) (s:Nat):List (Nat×Obj):=[(1000000,.arr 106 AU l),(70,.box 3 false [.p T3 (s:Int)])]
theorem XC (l:List (Int×Int)) (a b s:Nat) (f:a<l.length) (g:b<l.length) (hs:s<=1000):A9 Tryz.prog 251 [.sr 1000000 AU 0 l.length,.p T3 (a:Int),.p T3 (b:Int),.bp 70 [] 0,.fn 192] (Gg l s) [1000000,70] (λres e=>∃x y t:Nat,res=.tup [.p T3 (x:Int),.p T3 (y:Int)]/\e=Gg l t/\((x=a/\y=b)\/(x=b/\y=a))/\t<=s+1):=by
 refine KY [0,1,2,3,4,10,11,22] [] [] Tryz.func251 Tryz.ntmps251 (AF Ey AH) ?_;intro w0 K O0 ρ0 c h i;simp only[Ak,Gg];repeat'(first|exact trivial|apply eS rfl|apply AB|refine rX c ?_ ?_|refine rC ?_ ?_<;>intro d<;>try(cases d;done))
 .exact CS
 .exact CS
 .refine fM c [.tmp 10,.tmp 11] (.tup [.p T3 (b:Int),.p T3 (a:Int)]) eT ⟨b,a,s+1,rfl,?_,.inr ⟨rfl,rfl⟩,If _⟩;rw[show ((s+1:Nat):Int)=(s:Int)+1 by omega]
 exact fM c [.tmp 10,.tmp 11] (.tup [.p T3 (a:Int),.p T3 (b:Int)]) eT ⟨a,b,s,rfl,rfl,.inl ⟨rfl,rfl⟩,by omega⟩
theorem cE (l:List (Int×Int)) (a b c s:Nat) (j:a<l.length) (k:b<l.length) (cl:c<l.length) (hs:s<=900):A9 Tryz.prog 248 [.sr 1000000 AU 0 l.length,.p T3 (a:Int),.p T3 (b:Int),.p T3 (c:Int),.bp 70 [] 0,.fn 192] (Gg l s) [1000000,70] (λres m=>∃x t:Nat,res=.p T3 (x:Int)/\m=Gg l t/\(x=a\/x=b\/x=c)/\t<=s+3):=by
 refine KY [0,1,2,3,4,5,12] [] [] Tryz.func248 Tryz.ntmps248 AH ?_;intro w0 K O0 ρ0 d q r;simp only[Ak,Gg];repeat'(first|exact trivial|apply eS rfl|apply AB|refine rX d ?_ ?_|refine rC ?_ ?_<;>intro e<;>try(cases e;done))
 refine cP 5 d ?_ ?_
 .trivial
 refine rM d (XC l a b s j k (by omega)) [(1000000,.nm 1000000),(70,.nm 70)] [] ?_ ?_ ?_
 .first|exact eN|refine eM ?_
 .simp only[Gg];first|exact eN|refine eM ?_
 rintro _ _ ⟨g,b1,s1,rfl,rfl,h1,u⟩;refine⟨[(1000000,.nm 1000000),(70,.nm 70)],.tup [.p T3 (g:Int),.p T3 (b1:Int)],[(1000000,.arr 106 AU l),(70,.box 3 false [.p T3 (s1:Int)])],rfl,rfl,?_,?_,rfl,rfl,?_⟩
 .simp only[Gg];first|exact eN|refine eM ?_
 .first|exact eN|refine eM ?_
 refine rL d ?_ ?_
 .trivial
 repeat'(first|exact trivial|apply eS rfl|apply AB|refine rX d ?_ ?_|refine rC ?_ ?_<;>intro e<;>try(cases e;done))
 refine cP 5 d ?_ ?_
 .trivial
 refine rM d (XC l b1 c s1 (by omega) cl (by omega)) [(1000000,.nm 1000000),(70,.nm 70)] [] ?_ ?_ ?_
 .first|exact eN|refine eM ?_
 .simp only[Gg];first|exact eN|refine eM ?_
 rintro _ _ ⟨b2,c2,s2,rfl,rfl,n,v⟩;refine⟨[(1000000,.nm 1000000),(70,.nm 70)],.tup [.p T3 (b2:Int),.p T3 (c2:Int)],[(1000000,.arr 106 AU l),(70,.box 3 false [.p T3 (s2:Int)])],rfl,rfl,?_,?_,rfl,rfl,?_⟩
 .simp only[Gg];first|exact eN|refine eM ?_
 .first|exact eN|refine eM ?_
 refine rL d ?_ ?_
 .trivial
 repeat'(first|exact trivial|apply eS rfl|apply AB|refine rX d ?_ ?_|refine rC ?_ ?_<;>intro e<;>try(cases e;done))
 refine cP 5 d ?_ ?_
 .trivial
 refine rM d (XC l g b2 s2 (by omega) (by omega) (by omega)) [(1000000,.nm 1000000),(70,.nm 70)] [] ?_ ?_ ?_
 .first|exact eN|refine eM ?_
 .simp only[Gg];first|exact eN|refine eM ?_
 rintro _ _ ⟨i,f,h,rfl,rfl,o,w⟩;refine⟨[(1000000,.nm 1000000),(70,.nm 70)],.tup [.p T3 (i:Int),.p T3 (f:Int)],[(1000000,.arr 106 AU l),(70,.box 3 false [.p T3 (h:Int)])],rfl,rfl,?_,?_,rfl,rfl,?_⟩
 .simp only[Gg];first|exact eN|refine eM ?_
 .first|exact eN|refine eM ?_
 refine rL d ?_ ?_
 .trivial
 repeat'(first|exact trivial|apply eS rfl|apply AB|refine rX d ?_ ?_|refine rC ?_ ?_<;>intro e<;>try(cases e;done))
 exact fM d [.tmp 12] (.p T3 (f:Int)) eT ⟨f,h,rfl,rfl,by omega,by omega⟩
theorem cF (l:List (Int×Int)) (b s:Nat) (g:1<=b) (d:b+1<l.length) (hl:l.length<=100000) (hs:s<=900):A9 Tryz.prog 247 [.sr 1000000 AU 0 l.length,.p T3 (b:Int),.bp 70 [] 0,.fn 192] (Gg l s) [1000000,70] (λres f=>∃x t:Nat,res=.p T3 (x:Int)/\f=Gg l t/\(b-1<=x/\x<=b+1)/\t<=s+3):=by
 refine KY [0,1,2,3,8] [] [] Tryz.func247 Tryz.ntmps247 AH ?_;intro w0 K O0 ρ0 a h i;simp only[Ak,Gg];have key:=cE l (b-1) b (b+1) s (by omega) (by omega) d hs;rw[show ((b-1:Nat):Int)=(b:Int)-1 by omega,show ((b+1:Nat):Int)=(b:Int)+1 by omega]at key;repeat'(first|exact trivial|apply eS rfl|apply AB|refine rX a ?_ ?_|refine rC ?_ ?_<;>intro c<;>try(cases c;done))
 refine cP 8 a ?_ ?_
 .exact CS
 refine rM a (key) [(1000000,.nm 1000000),(70,.nm 70)] [] ?_ ?_ ?_
 .first|exact eN|refine eM ?_
 .simp only[Gg];first|exact eN|refine eM ?_
 rintro _ _ ⟨x,t,rfl,rfl,hx,e⟩;refine⟨[(1000000,.nm 1000000),(70,.nm 70)],.p T3 (x:Int),[(1000000,.arr 106 AU l),(70,.box 3 false [.p T3 (t:Int)])],rfl,rfl,?_,?_,rfl,rfl,?_⟩
 .simp only[Gg];first|exact eN|refine eM ?_
 .first|exact eN|refine eM ?_
 refine rL a ?_ ?_
 .trivial
 repeat'(first|exact trivial|apply eS rfl|apply AB|refine rX a ?_ ?_|refine rC ?_ ?_<;>intro c<;>try(cases c;done))
 exact fM a [.tmp 8] (.p T3 (x:Int)) eT ⟨x,t,rfl,rfl,by omega,e⟩
theorem A7G (l:List (Int×Int)) (hl:l.length<=100000) (a b:Nat) (y:a+13<=b) (z:b<=l.length):A9 Tryz.prog 235 [.sr 1000000 AU 0 l.length,.p T3 (a:Int),.p T3 (b:Int),.fn 192] [(1000000,.arr 106 AU l)] [1000000] (λres w=>∃(j:Nat) (h:Int),res=.tup [.p T3 (j:Int),.p T3 h]/\w=[(1000000,.arr 106 AU l)]/\a<=j/\j<b):=by
 refine KY [0,1,2,3,8,9,10,11,12,13,14,34,36,55,57,60] [] [] Tryz.func235 Tryz.ntmps235 AH ?_;intro w0 K O0 ρ0 c A B;simp only[Ak];obtain⟨t,u⟩:∃t,t=(b-a) / 4:=⟨_,rfl⟩;have et:((b:Int)-(a:Int)).tdiv 4=(t:Int):=by
  rw[AAd (by omega)];omega
 have F:4*t<=b-a:=by omega
 have G:3<=t:=by omega
 clear u
 (apply eS rfl;refine rX c ?_ ?_;(next=>first|exact trivial|exact CS))
 (apply eS rfl;refine rX c ?_ ?_;(next=>first|exact trivial|exact CS))
 (apply eS rfl;refine rX c ?_ ?_;(next=>first|exact trivial|exact CS))
 (apply eS rfl;refine rX c ?_ ?_;(next=>first|exact trivial|exact CS|(rw[et];refine⟨⟨by decide,?_⟩,?_,?_⟩<;>omega)))
 (apply eS rfl;refine rX c ?_ ?_;(next=>first|exact trivial|exact CS|(rw[et];refine⟨⟨by decide,?_⟩,?_,?_⟩<;>omega)))
 (apply eS rfl;refine rX c ?_ ?_;(next=>first|exact trivial|exact CS|(rw[et];refine⟨⟨by decide,?_⟩,?_,?_⟩<;>omega)))
 rw[et,show (a:Int)+(t:Int)*1=((a+t:Nat):Int) by omega,show (a:Int)+(t:Int)*2=((a+t*2:Nat):Int) by omega,show (a:Int)+(t:Int)*3=((a+t*3:Nat):Int) by omega];refine H5 ?_;refine QC (ι:={x:Nat×Nat//a<=x.1/\x.1<b}) (λx=>⟨[(11,.bp 11 [] 0),(13,.p T3 (x.1.1:Int))],[(1000000,.arr 106 AU l),(11,.box 3 false [.p T3 (x.1.2:Int)])]⟩) ?_ (λx=>?_)
 .repeat'(first|exact trivial|apply eS rfl|apply AB|refine rX c ?_ ?_)
  refine rC ?_ ?_<;>intro i
  .repeat'(first|exact trivial|apply eS rfl|apply AB|refine rX c ?_ ?_)
   refine rC (λq=>?_) (λq=>?_)
   .repeat'(first|exact trivial|apply eS rfl|apply AB|refine rP c ?_ ?_|fail)
    refine cP 3 c ?_ ?_
    .trivial
    refine rM c (cF l (a+t) 0 (by omega) (by omega) hl (by omega)) [(1000000,.nm 1000000),(70,.nm 11)] [] ?_ ?_ ?_
    .first|exact eN|refine eM ?_
    .simp only[Gg];first|exact eN|refine eM ?_
    rintro _ _ ⟨m,s1,rfl,rfl,H,C⟩;refine⟨[(1000000,.nm 1000000),(11,.nm 70)],.p T3 (m:Int),[(1000000,.arr 106 AU l),(11,.box 3 false [.p T3 (s1:Int)])],rfl,rfl,?_,?_,rfl,rfl,?_⟩
    .simp only[Gg];first|exact eN|refine eM ?_
    .first|exact eN|refine eM ?_
    refine rL c ?_ ?_
    .trivial
    repeat'(first|exact trivial|apply eS rfl|apply AB|refine rX c ?_ ?_)
    refine cP 3 c ?_ ?_
    .trivial
    refine rM c (cF l (a+t*2) s1 (by omega) (by omega) hl (by omega)) [(1000000,.nm 1000000),(70,.nm 11)] [] ?_ ?_ ?_
    .first|exact eN|refine eM ?_
    .simp only[Gg];first|exact eN|refine eM ?_
    rintro _ _ ⟨n,s2,rfl,rfl,I,D⟩;refine⟨[(1000000,.nm 1000000),(11,.nm 70)],.p T3 (n:Int),[(1000000,.arr 106 AU l),(11,.box 3 false [.p T3 (s2:Int)])],rfl,rfl,?_,?_,rfl,rfl,?_⟩
    .simp only[Gg];first|exact eN|refine eM ?_
    .first|exact eN|refine eM ?_
    refine rL c ?_ ?_
    .trivial
    repeat'(first|exact trivial|apply eS rfl|apply AB|refine rX c ?_ ?_)
    refine cP 3 c ?_ ?_
    .trivial
    refine rM c (cF l (a+t*3) s2 (by omega) (by omega) hl (by omega)) [(1000000,.nm 1000000),(70,.nm 11)] [] ?_ ?_ ?_
    .first|exact eN|refine eM ?_
    .simp only[Gg];first|exact eN|refine eM ?_
    rintro _ _ ⟨o,k,rfl,rfl,J,E⟩;refine⟨[(1000000,.nm 1000000),(11,.nm 70)],.p T3 (o:Int),[(1000000,.arr 106 AU l),(11,.box 3 false [.p T3 (k:Int)])],rfl,rfl,?_,?_,rfl,rfl,?_⟩
    .simp only[Gg];first|exact eN|refine eM ?_
    .first|exact eN|refine eM ?_
    refine rL c ?_ ?_
    .trivial
    repeat'(first|exact trivial|apply eS rfl|apply AB|refine rX c ?_ ?_)
    refine cP 5 c ?_ ?_
    .trivial
    refine rM c (cE l (m) (n) (o) k (by omega) (by omega) (by omega) (by omega)) [(1000000,.nm 1000000),(70,.nm 11)] [] ?_ ?_ ?_
    .first|exact eN|refine eM ?_
    .simp only[Gg];first|exact eN|refine eM ?_
    rintro _ _ ⟨e,d,rfl,rfl,v,r⟩;refine⟨[(1000000,.nm 1000000),(11,.nm 70)],.p T3 (e:Int),[(1000000,.arr 106 AU l),(11,.box 3 false [.p T3 (d:Int)])],rfl,rfl,?_,?_,rfl,rfl,?_⟩
    .simp only[Gg];first|exact eN|refine eM ?_
    .first|exact eN|refine eM ?_
    refine rL c ?_ ?_
    .trivial
    repeat'(first|exact trivial|apply eS rfl|apply AB|refine rX c ?_ ?_)
    refine⟨⟨(e,d),by simp only;omega,by simp only;omega⟩,AC [(1000000,.nm 1000000),(11,.nm 11)] rfl rfl ?_ ?_⟩
    .first|exact eN|refine eM ?_
    first|exact eN|refine eM ?_
   repeat'(first|exact trivial|apply eS rfl|apply AB|refine rP c ?_ ?_|fail)
   refine cP 5 c ?_ ?_
   .trivial
   refine rM c (cE l (a+t) (a+t*2) (a+t*3) 0 (by omega) (by omega) (by omega) (by omega)) [(1000000,.nm 1000000),(70,.nm 11)] [] ?_ ?_ ?_
   .first|exact eN|refine eM ?_
   .simp only[Gg];first|exact eN|refine eM ?_
   rintro _ _ ⟨e,d,rfl,rfl,v,r⟩;refine⟨[(1000000,.nm 1000000),(11,.nm 70)],.p T3 (e:Int),[(1000000,.arr 106 AU l),(11,.box 3 false [.p T3 (d:Int)])],rfl,rfl,?_,?_,rfl,rfl,?_⟩
   .simp only[Gg];first|exact eN|refine eM ?_
   .first|exact eN|refine eM ?_
   refine rL c ?_ ?_
   .trivial
   repeat'(first|exact trivial|apply eS rfl|apply AB|refine rX c ?_ ?_)
   refine⟨⟨(e,d),by simp only;omega,by simp only;omega⟩,AC [(1000000,.nm 1000000),(11,.nm 11)] rfl rfl ?_ ?_⟩
   .first|exact eN|refine eM ?_
   first|exact eN|refine eM ?_
  exfalso;omega
 obtain⟨⟨j,s⟩,f,g⟩:=x;simp only at f g ⊢;repeat'(first|exact trivial|apply eS rfl|apply AB|refine rX c ?_ ?_|refine rC ?_ ?_<;>intro i<;>try(cases i;done))
 .refine Ev.ent (σ':=⟨[(8,.p T3 (j:Int)),(9,.p T3 (1:Int))],[(1000000,.arr 106 AU l)]⟩) ?_ (AC [(1000000,.nm 1000000)] rfl rfl ?_ ?_)
  .exact fM c [.tmp 8,.tmp 9] (.tup [.p T3 (j:Int),.p T3 (1:Int)]) eT ⟨j,1,rfl,rfl,f,g⟩
  .first|exact eN|refine eM ?_
  first|exact eN|refine eM ?_
 .refine Ev.ent (σ':=⟨[(8,.p T3 (j:Int)),(9,.p T3 (2:Int))],[(1000000,.arr 106 AU l)]⟩) ?_ (AC [(1000000,.nm 1000000)] rfl rfl ?_ ?_)
  .exact fM c [.tmp 8,.tmp 9] (.tup [.p T3 (j:Int),.p T3 (2:Int)]) eT ⟨j,2,rfl,rfl,f,g⟩
  .first|exact eN|refine eM ?_
  first|exact eN|refine eM ?_
 refine Ev.ent (σ':=⟨[(8,.p T3 (j:Int)),(9,.p T3 (0:Int))],[(1000000,.arr 106 AU l)]⟩) ?_ (AC [(1000000,.nm 1000000)] rfl rfl ?_ ?_)
 .exact fM c [.tmp 8,.tmp 9] (.tup [.p T3 (j:Int),.p T3 (0:Int)]) eT ⟨j,0,rfl,rfl,f,g⟩
 .first|exact eN|refine eM ?_
 first|exact eN|refine eM ?_
end
theorem A7H (x y:Int) (h0:0<=y) (h1:y<4611686018427387904):0<=B6 .and .u64 x y/\B6 .and .u64 x y<=y:=by
 have d:(IntKind.u64).bits=64:=rfl;have e2:(BitVec.ofInt 64 y).toNat=y.toNat:=by
  rw[BitVec.toNat_ofInt];omega
 have c:(BitVec.ofInt 64 x &&& BitVec.ofInt 64 y).toNat<=y.toNat:=by
  rw[BitVec.toNat_and,e2];exact Nat.and_le_right
 have a:B6 .and .u64 x y=IntKind.u64.wrap (((BitVec.ofInt 64 x &&& BitVec.ofInt 64 y).toNat:Nat):Int):=rfl;rw[a];generalize (BitVec.ofInt 64 x &&& BitVec.ofInt 64 y).toNat=z at *;have b:IntKind.u64.wrap (z:Int)=(z:Int):=by
  have e:(z:Int)<18446744073709551616:=by omega
  have:IntKind.u64.wrap (z:Int)=(z:Int) % 18446744073709551616:=by
   first|rfl|(simp[IntKind.wrap];done)
  rw[this];omega
 rw[b];omega
theorem ADa (z:Int):0<=IntKind.u64.wrap z/\IntKind.u64.wrap z<=18446744073709551615:=by
 have:IntKind.u64.wrap z=z % 18446744073709551616:=by
  first|rfl|(simp[IntKind.wrap];done)
 omega
theorem i5 (x y:Int):0<=B6 .xor .u64 x y/\B6 .xor .u64 x y<=18446744073709551615:=ADa _
theorem A3P {x:Int} (h0:0<=x) (h1:x<=18446744073709551615):0<=YC .u64 x 7/\YC .u64 x 7<=18446744073709551615:=by
 show 0<=x.fdiv 128/\x.fdiv 128<=18446744073709551615;rw[Int.fdiv_eq_ediv_of_nonneg _ (by decide)];omega
theorem A0U (x:Int) (h0:0<=x) (h1:x<256):A9 Tryz.prog 241 [.p (.int .u64) x] [] [] (λres f=>(∃n:Nat,res=.p T3 (n:Int)/\n<=8/\(1<=x.toNat->x.toNat<2 ^ n/\2 ^ n<=2*x.toNat))/\f=[]):=by
 refine KY [0,2,4,8,14] [] [] Tryz.func241 Tryz.ntmps241 AH ?_;intro w0 K O0 ρ0 a g h;simp only[Ak];repeat'(first|exact trivial|apply eS rfl|refine rX a ?_ ?_|refine rC ?_ ?_<;>intro b<;>try(cases b;done))
 all_goals first|(exfalso;omega)|skip
 refine L8 [0,2] a rfl (by simp only[go_sem,Nat.reduceEqDiff,reduceCtorEq,Nat.reduceAdd,Nat.reduceSub,Nat.reduceMul,Nat.reduceLeDiff,Nat.reduceLT,Int.reduceLE,Int.reduceToNat,Int.reduceNeg,↓reduceIte,ByteArray.size,List.size_toArray,AO];rfl) ?_ ?_
 .have hu:∀u:UInt8,((u.toNat:Nat):Int)<=255:=λu=>by have:=u.toNat_lt;omega
  have c:0<=x:=by omega
  refine⟨⟨c,by omega⟩,⟨c,?_⟩,⟨?_,?_⟩,?_,?_⟩
  .have d:x<((256:Nat):Int):=h1;exact d
  .exact ADL (by decide) (ADD _)
  .exact ADL (hu _) (by decide)
  .rw[AFC];exact ADL (by decide) (ADD _)
  rw[AFC];exact ADL (hu _) (by decide)
 repeat' apply eS rfl
 refine fM a [.tmp 2] (.p T3 _) (by simp only[TV,A02,Rz,Ym,Kv,Ku,Ja,go_sem,Nat.reduceEqDiff,reduceCtorEq,Nat.reduceAdd,Nat.reduceSub,Nat.reduceMul,Nat.reduceLeDiff,Nat.reduceLT,Int.reduceLE,Int.reduceToNat,Int.reduceNeg,↓reduceIte];rfl) ⟨⟨_,by rw[AFC],?_⟩,rfl⟩;have e:x.toNat<256:=by omega
 generalize x.toNat=k at *;clear b;revert e;revert k;decide
theorem yH (x:Int) (h0:0<=x) (h1:x<256):A9 Tryz.prog 230 [.p (.int .u64) x] [] [] (λres d=>(∃n:Nat,res=.p T3 (n:Int)/\n<=8/\(1<=x.toNat->x.toNat<2 ^ n/\2 ^ n<=2*x.toNat))/\d=[]):=by
 refine KY [0,2] [] [] Tryz.func230 Tryz.ntmps230 AH ?_;intro w0 K O0 ρ0 a e f;simp only[Ak];repeat'(first|exact trivial|apply eS rfl|refine rX a ?_ ?_|refine rC ?_ ?_<;>intro b<;>try(cases b;done))
 refine cP 1 a ?_ ?_
 .trivial
 refine rM a (A0U x h0 h1) [] [] ?_ ?_ ?_
 .exact eN
 .exact eN
 rintro _ _ ⟨⟨n,rfl,c⟩,rfl⟩;refine⟨[],.p T3 (n:Int),[],rfl,rfl,?_,?_,rfl,rfl,?_⟩
 .exact eN
 .exact eN
 refine rL a ?_ ?_
 .trivial
 repeat' apply eS rfl
 exact fM a [.tmp 2] (.p T3 (n:Int)) eT ⟨⟨n,rfl,c⟩,rfl⟩
theorem A7I (x:Int) (h0:1<=x) (h1:x<256):A9 Tryz.prog 245 [.p T3 x] [] [] (λres f=>(∃m:Nat,res=.p (.int .u64) (m:Int)/\x.toNat<m/\m<=2*x.toNat)/\f=[]):=by
 refine KY [0,2] [] [] Tryz.func245 Tryz.ntmps245 AH ?_;intro w0 K O0 ρ0 a h i;simp only[Ak];repeat'(first|exact trivial|apply eS rfl|refine rX a ?_ ?_)
 refine cP 2 a ?_ ?_
 .exact CS
 refine rM a (yH x (by omega) h1) [] [] ?_ ?_ ?_
 .exact eN
 .exact eN
 rintro _ _ ⟨⟨n,rfl,g,d⟩,rfl⟩;obtain⟨b,c⟩:=d (by omega);refine⟨[],.p T3 (n:Int),[],rfl,rfl,?_,?_,rfl,rfl,?_⟩
 .exact eN
 .exact eN
 refine rL a ?_ ?_
 .trivial
 have e:UJ .u64 1 (n:Int)=((2 ^ n:Nat):Int):=by
  clear b c;have:∀n:Fin 9,UJ .u64 1 ((n.val:Nat):Int)=((2 ^ n.val:Nat):Int):=by decide
  exact this ⟨n,by omega⟩
 rw[e];repeat' apply eS rfl
 exact fM a [.tmp 2] (.p (.int .u64) ((2 ^ n:Nat):Int)) eT ⟨⟨_,rfl,b,c⟩,rfl⟩
theorem A7J (s:Int) (hs:0<=s/\s<=18446744073709551615):A9 Tryz.prog 246 [.bp 70 [] 0] [(70,.box 263 false [.p (.int .u64) s])] [70] (λres b=>∃v:Int,(0<=v/\v<=18446744073709551615)/\res=.p (.int .u64) v/\b=[(70,.box 263 false [.p (.int .u64) v])]):=by
 refine KY [0,2] [] [] Tryz.func246 Tryz.ntmps246 AH ?_;intro w0 K O0 ρ0 a c d;simp only[Ak];repeat'(first|exact trivial|apply eS rfl|refine rX a ?_ ?_)
 .have:=i5 s (UJ .u64 s 13);exact A3P this.1 this.2
 exact fM a [.tmp 2] (.p (.int .u64) _) eT ⟨_,i5 _ _,rfl,rfl⟩
section
attribute [local go_sem] Cv
theorem A7K (l:List (Int×Int)) (hl:l.length<256) (a b:Nat) (E:a+8<=b) (G:b<=l.length):A9 Tryz.prog 234 [.sr 1000000 AU 0 l.length,.p T3 (a:Int),.p T3 (b:Int),.fn 192] [(1000000,.arr 106 AU l)] [1000000] (λres D=>res=.raw (.tuple #[])/\∃r,D=[(1000000,.arr 106 AU r)]/\EC (0,0) a b l r):=by
 refine KY [0,1,2,8,9,10,11,12,17,35,45] [] [] Tryz.func234 Tryz.ntmps234 AH ?_;intro w0 K O0 ρ0 d I J;simp only[Ak];obtain⟨n,hn⟩:∃n,b=a+n:=⟨b-a,by omega⟩;subst hn;have en:((a+n:Nat):Int)-(a:Int)=(n:Int):=by omega
 obtain⟨t,C⟩:∃t,t=n / 4:=⟨_,rfl⟩;have et:(n:Int).tdiv 4=(t:Int):=by
  rw[AAd (by omega)];omega
 have L:4*t<=n:=by omega
 have M:2<=t:=by omega
 clear C
 (apply eS rfl;refine rX d ?_ ?_;(next=>first|exact trivial|exact CS))
 rw[en];repeat'(first|exact trivial|apply eS rfl|apply AB|refine rX d ?_ ?_)
 refine rC ?_ ?_<;>intro j
 .repeat'(first|exact trivial|apply eS rfl|apply AB|refine rX d ?_ ?_)
  .exact CS
  refine cP 1 d ?_ ?_
  .trivial
  refine rM d (A7I (n:Int) (by omega) (by omega)) [] [] ?_ ?_ ?_
  .first|exact eN|refine eM ?_
  .first|exact eN|refine eM ?_
  rintro _ _ ⟨⟨m,rfl,z,A⟩,rfl⟩;rw[RK]at z A;refine⟨[],.p (.int .u64) (m:Int),[],rfl,rfl,?_,?_,rfl,rfl,?_⟩
  .first|exact eN|refine eM ?_
  .first|exact eN|refine eM ?_
  refine rL d ?_ ?_
  .trivial
  repeat'(first|exact trivial|apply eS rfl|apply AB|refine rX d ?_ ?_)
  .rw[et];refine⟨⟨by decide,?_⟩,?_,?_,?_⟩<;>omega
  rw[et,show (a:Int)+(t:Int)*2-1=((a+t*2-1:Nat):Int) by omega];refine AK (ι:={s:Nat×Int×List (Int×Int)//(a<=s.1/\s.1<=a+t*2+2)/\(0<=s.2.1/\s.2.1<=18446744073709551615)/\EC (0,0) a (a+n) l s.2.2}) (λs=>⟨[(0,.sr 1000000 AU 0 l.length),(1,.p T3 (a:Int)),(8,.p (.int .i64) (n:Int)),(9,.bp 9 [] 0),(10,.p (.int .u64) (m:Int)),(11,.p (.int .i64) (s.1.1:Int))],[(1000000,.arr 106 AU s.1.2.2),(9,.box 263 false [.p (.int .u64) s.1.2.1])]⟩) (λs=>a+t*2+2-s.1.1) ⟨(a+t*2-1,(n:Int),l),by simp only;omega,by simp only;omega,EC.refl _ _ l⟩ (AC [(1000000,.nm 1000000),(9,.nm 9)] rfl rfl ?_ ?_) (λs=>?_)
  .first|exact eN|refine eM ?_
  .first|exact eN|refine eM ?_
  obtain⟨⟨i,x,c⟩,⟨w,y⟩,hx,hp⟩:=s;simp only at w y hx hp ⊢;have H:=hp.len;repeat'(first|exact trivial|apply eS rfl|apply AB|refine rX d ?_ ?_)
  .rw[et];refine⟨⟨by decide,?_⟩,?_,?_,?_⟩<;>omega
  rw[et];refine rC (λq=>?_) (λq=>?_)
  .apply eS rfl;refine cP 0 d ?_ ?_
   .trivial
   refine rM d (A7J x hx) [(70,.nm 9)] [] ?_ ?_ ?_
   .first|exact eN|refine eM ?_
   .first|exact eN|refine eM ?_
   rintro _ _ ⟨v,k,rfl,rfl⟩;refine⟨[(9,.nm 70)],.p (.int .u64) v,[(9,.box 263 false [.p (.int .u64) v])],rfl,rfl,?_,?_,rfl,rfl,?_⟩
   .first|exact eN|refine eM ?_
   .first|exact eN|refine eM ?_
   have F:=A7H v ((m:Int)-1) (by omega) (by omega);refine rL d ?_ ?_
   .exact⟨by omega,by omega⟩
   generalize B6 .and .u64 v ((m:Int)-1)=r at *;repeat'(first|exact trivial|apply eS rfl|apply AB|refine rX d ?_ ?_)
   refine rC (λu=>?_) (λu=>?_)
   .obtain⟨o,f⟩:∃o:Nat,r-(n:Int)=(o:Int):=⟨(r-(n:Int)).toNat,by omega⟩;have B:o<n:=by omega
    refine rX d ?_ ?_
    .exact CS
    rw[f];have g:EC (0,0) a (a+n) c (CR (0,0) c i (a+o)):=EC.swap c (by omega) (by omega) (by omega) (by omega) (by omega);have h:CR (0,0) c i (a+o)=(c.set i (c.getD (a+o) (0,0))).set (a+o) (c.getD i (0,0)):=rfl;have e:((a:Int)+(o:Int)).toNat=a+o:=by omega
    repeat'(first|exact trivial|apply eS rfl|apply AB|refine rP d ?_ ?_|fail)
    (refine CA drawsAny d 18 [([0,1,6,7,8,9,10,11,12,13,14,15,16],17)] [2,3,4,5] (by kernel_rfl) (KX ?_ ?_);(next=>exact CS);refine NJ d [] ?_ ?_;(next=>exact CS);refine Re d ?_ ?_ ?_;(next=>exact CS);(next=>exact CS))
    rw[e,<-h];repeat'(first|exact trivial|apply eS rfl|apply AB|refine rX d ?_ ?_)
    .exact CS
    refine⟨⟨(i+1,v,CR (0,0) c i (a+o)),by simp only;omega,k,hp.trans g⟩,by simp only;omega,AC [(1000000,.nm 1000000),(9,.nm 9)] rfl rfl ?_ ?_⟩
    .first|exact eN|refine eM ?_
    first|exact eN|refine eM ?_
   obtain⟨o,f⟩:∃o:Nat,r=(o:Int):=⟨r.toNat,by omega⟩;subst f;have B:o<n:=by omega
   have g:EC (0,0) a (a+n) c (CR (0,0) c i (a+o)):=EC.swap c (by omega) (by omega) (by omega) (by omega) (by omega);have h:CR (0,0) c i (a+o)=(c.set i (c.getD (a+o) (0,0))).set (a+o) (c.getD i (0,0)):=rfl;have e:((a:Int)+(o:Int)).toNat=a+o:=by omega
   repeat'(first|exact trivial|apply eS rfl|apply AB|refine rP d ?_ ?_|fail)
   (refine CA drawsAny d 18 [([0,1,6,7,8,9,10,11,12,13,14,15,16],17)] [2,3,4,5] (by kernel_rfl) (KX ?_ ?_);(next=>exact CS);refine NJ d [] ?_ ?_;(next=>exact CS);refine Re d ?_ ?_ ?_;(next=>exact CS);(next=>exact CS))
   rw[e,<-h];repeat'(first|exact trivial|apply eS rfl|apply AB|refine rX d ?_ ?_)
   .exact CS
   refine⟨⟨(i+1,v,CR (0,0) c i (a+o)),by simp only;omega,k,hp.trans g⟩,by simp only;omega,AC [(1000000,.nm 1000000),(9,.nm 9)] rfl rfl ?_ ?_⟩
   .first|exact eN|refine eM ?_
   first|exact eN|refine eM ?_
  repeat'(first|exact trivial|apply eS rfl|apply AB|refine rX d ?_ ?_|refine rC ?_ ?_<;>intro j<;>try(cases j;done))
  refine Ev.ent (σ':=⟨[],[(1000000,.arr 106 AU c)]⟩) ?_ (AC [(1000000,.nm 1000000)] rfl rfl ?_ ?_)
  .exact fM d [] (.raw (.tuple #[])) rfl ⟨rfl,c,rfl,hp⟩
  .first|exact eN|refine eM ?_
  first|exact eN|refine eM ?_
 exfalso;omega
end
section
attribute [local go_sem] Cv
def i6 (l:List (Int×Int)) (a b c:Nat):Prop:=A9 Tryz.prog 229 [.sr 1000000 AU 0 l.length,.p T3 (a:Int),.p T3 (b:Int),.p T3 (c:Int),.fn 192] [(1000000,.arr 106 AU l)] [1000000] (λres d=>res=.raw (.tuple #[])/\∃r,d=[(1000000,.arr 106 AU r)]/\EC (0,0) a b l r/\SV CC (0,0) a b r)
theorem A0V (l:List (Int×Int)) (hl:l.length<256) (aa:lH CC (0,0) l) (a b S:Nat) (ar:a<=b) (ay:b<=l.length) (av:S<=1000) (aq:Bf CC (0,0) a b l)
  (V:∀(l':List (Int×Int)),l'.length<256->lH CC (0,0) l'->∀J b' an:Nat,b'-J<b-a->J<=b'->b'<=l'.length->an<=1000->Bf CC (0,0) J b' l'->i6 l' J b' an):i6 l a b S:=by
 unfold i6;refine KY [0,1,2,3,4,10,11,12,13,14,15,16,17,18,19,20,25,32,39,56,75,80,97,125] [] [] Tryz.func229 Tryz.ntmps229 (AF Ey AH) ?_;intro w0 K O0 ρ0 c ba bb;simp only[Ak];repeat'(first|exact trivial|apply eS rfl|apply AB|refine rX c ?_ ?_)
 refine AK (ι:={s:(Nat×Nat×Nat)×(Bool×Bool)×List (Int×Int)//Cut CC (0,0) a b s.1.1 s.1.2.1 s.2.2/\EC (0,0) a b l s.2.2/\Bf CC (0,0) s.1.1 s.1.2.1 s.2.2/\s.1.2.2<=1000}) (λs=>⟨[(0,.sr 1000000 AU 0 l.length),(1,.p T3 (s.1.1.1:Int)),(2,.p T3 (s.1.1.2.1:Int)),(3,.p T3 (s.1.1.2.2:Int)),(4,.fn 192),(10,.p .bool s.1.2.1.1),(11,.p .bool s.1.2.1.2)],[(1000000,.arr 106 AU s.1.2.2)]⟩) (λs=>s.1.1.2.1-s.1.1.1) ⟨((a,b,S),(true,true),l),A0T ar l,EC.refl a b l,aq,av⟩ (AC [(1000000,.nm 1000000)] rfl rfl ?_ ?_) (λs=>?_)
 .first|exact eN|refine eM ?_
 .first|exact eN|refine eM ?_
 obtain⟨⟨⟨d,b1,H⟩,⟨T,U⟩,m⟩,t,n,Q,ag⟩:=s;simp only at t n Q ag ⊢;obtain⟨D,ax,E⟩:=t.ab;have N:=aa.perm CH n.perm;have u:=n.len;repeat'(first|exact trivial|apply eS rfl|apply AB|refine rX c ?_ ?_)
 .exact CS
 refine rC ?_ ?_<;>intro o
 .have key:=A7C m (by omega) N d b1 (by omega) (by omega);rw[u]at key;repeat'(first|exact trivial|apply eS rfl|apply AB|refine rX c ?_ ?_)
  refine cP 4 c ?_ ?_
  .trivial
  refine rM c (key) [(1000000,.nm 1000000)] [] ?_ ?_ ?_
  .first|exact eN|refine eM ?_
  .first|exact eN|refine eM ?_
  rintro _ _ ⟨rfl,r,rfl,e,g⟩;refine⟨[(1000000,.nm 1000000)],.raw (.tuple #[]),[(1000000,.arr 106 AU r)],rfl,rfl,?_,?_,rfl,rfl,BV ?_⟩
  .first|exact eN|refine eM ?_
  .first|exact eN|refine eM ?_
  repeat'(first|exact trivial|apply eS rfl|apply AB|refine rX c ?_ ?_|refine rC ?_ ?_<;>intro o<;>try(cases o;done))
  exact fM c [] (.raw (.tuple #[])) rfl ⟨rfl,r,rfl,n.trans (e.mono D E),(t.pin e).done g⟩
 have ap:d+13<=b1:=by omega
 have el:(b1:Int)-(d:Int)=((b1-d:Nat):Int):=by omega
 rw[el];repeat'(first|exact trivial|apply eS rfl|apply AB|refine rX c ?_ ?_)
 refine rC (λau=>?_) (λau=>?_)
 .have key:=A3O m (by omega) N d b1 ax (by omega);rw[u]at key;repeat'(first|exact trivial|apply eS rfl|apply AB|refine rX c ?_ ?_)
  refine cP 4 c ?_ ?_
  .trivial
  refine rM c (key) [(1000000,.nm 1000000)] [] ?_ ?_ ?_
  .first|exact eN|refine eM ?_
  .first|exact eN|refine eM ?_
  rintro _ _ ⟨rfl,r,rfl,e,g⟩;refine⟨[(1000000,.nm 1000000)],.raw (.tuple #[]),[(1000000,.arr 106 AU r)],rfl,rfl,?_,?_,rfl,rfl,BV ?_⟩
  .first|exact eN|refine eM ?_
  .first|exact eN|refine eM ?_
  repeat'(first|exact trivial|apply eS rfl|apply AB|refine rX c ?_ ?_|refine rC ?_ ?_<;>intro o<;>try(cases o;done))
  exact fM c [] (.raw (.tuple #[])) rfl ⟨rfl,r,rfl,n.trans (e.mono D E),(t.pin e).done g⟩
 have az:0<H:=by omega
 refine qJ ?_;refine H5 ?_;refine QC (ι:={x:Nat×List (Int×Int)//x.1<=1000/\EC (0,0) d b1 m x.2}) (λx=>⟨[(0,.sr 1000000 AU 0 l.length),(1,.p T3 (d:Int)),(2,.p T3 (b1:Int)),(3,.p T3 (x.1.1:Int)),(4,.fn 192),(10,.p .bool T),(11,.p .bool U),(12,.p (.int .i64) ((b1-d:Nat):Int))],[(1000000,.arr 106 AU x.1.2)]⟩) ?_ (λx=>?_)
 .repeat'(first|exact trivial|apply eS rfl|apply AB|refine rX c ?_ ?_)
  refine rC (λk=>?_) (λk=>?_)
  .have key:=A7K m (by omega) d b1 (by omega) (by omega);rw[u]at key;apply eS rfl;refine cP 4 c ?_ ?_
   .trivial
   refine rM c (key) [(1000000,.nm 1000000)] [] ?_ ?_ ?_
   .first|exact eN|refine eM ?_
   .first|exact eN|refine eM ?_
   rintro _ _ ⟨rfl,r,rfl,e⟩;refine⟨[(1000000,.nm 1000000)],.raw (.tuple #[]),[(1000000,.arr 106 AU r)],rfl,rfl,?_,?_,rfl,rfl,BV ?_⟩
   .first|exact eN|refine eM ?_
   .first|exact eN|refine eM ?_
   repeat'(first|exact trivial|apply eS rfl|apply AB|refine rX c ?_ ?_)
   .exact CS
   refine⟨⟨(H-1,r),by simp only;omega,e⟩,AC [(1000000,.nm 1000000)] rfl rfl ?_ ?_⟩
   .first|exact eN|refine eM ?_
   simp only;rw[show ((H-1:Nat):Int)=(H:Int)-1 by omega];first|exact eN|refine eM ?_
  repeat'(first|exact trivial|apply eS rfl|apply AB|refine rX c ?_ ?_)
  refine⟨⟨(H,m),ag,EC.refl _ _ m⟩,AC [(1000000,.nm 1000000)] rfl rfl ?_ ?_⟩
  .first|exact eN|refine eM ?_
  first|exact eN|refine eM ?_
 obtain⟨⟨C,i⟩,G,f⟩:=x;simp only at G f ⊢;have v:i.length=l.length:=f.len.trans u;have key:=A7G i (by omega) d b1 ap (by omega);rw[v]at key;apply eS rfl;refine cP 4 c ?_ ?_
 .trivial
 refine rM c (key) [(1000000,.nm 1000000)] [] ?_ ?_ ?_
 .first|exact eN|refine eM ?_
 .first|exact eN|refine eM ?_
 rintro _ _ ⟨j,hint,rfl,rfl,z,A⟩;refine⟨[(1000000,.nm 1000000)],.tup [.p T3 (j:Int),.p T3 hint],[(1000000,.arr 106 AU i)],rfl,rfl,?_,?_,rfl,rfl,?_⟩
 .first|exact eN|refine eM ?_
 .first|exact eN|refine eM ?_
 refine rL c ?_ ?_
 .trivial
 refine H5 ?_;refine QC (ι:={x:Nat×Int×List (Int×Int)//(d<=x.1/\x.1<b1)/\EC (0,0) d b1 m x.2.2}) (λx=>⟨[(0,.sr 1000000 AU 0 l.length),(1,.p T3 (d:Int)),(2,.p T3 (b1:Int)),(3,.p T3 (C:Int)),(4,.fn 192),(10,.p .bool T),(11,.p .bool U),(12,.p (.int .i64) ((b1-d:Nat):Int)),(13,.p T3 (x.1.1:Int)),(14,.p T3 x.1.2.1)],[(1000000,.arr 106 AU x.1.2.2)]⟩) ?_ (λx=>?_)
 .repeat'(first|exact trivial|apply eS rfl|apply AB|refine rX c ?_ ?_)
  refine rC (λk=>?_) (λk=>?_)
  .have key:=A7D i (by omega) d b1 (by omega) (by omega);rw[v]at key;apply eS rfl;refine cP 4 c ?_ ?_
   .trivial
   refine rM c (key) [(1000000,.nm 1000000)] [] ?_ ?_ ?_
   .first|exact eN|refine eM ?_
   .first|exact eN|refine eM ?_
   rintro _ _ ⟨rfl,r,rfl,e⟩;refine⟨[(1000000,.nm 1000000)],.raw (.tuple #[]),[(1000000,.arr 106 AU r)],rfl,rfl,?_,?_,rfl,rfl,BV ?_⟩
   .first|exact eN|refine eM ?_
   .first|exact eN|refine eM ?_
   repeat'(first|exact trivial|apply eS rfl|apply AB|refine rX c ?_ ?_)
   .exact CS
   refine⟨⟨(b1-1-(j-d),1,r),by simp only;omega,f.trans e⟩,AC [(1000000,.nm 1000000)] rfl rfl ?_ ?_⟩
   .first|exact eN|refine eM ?_
   simp only;rw[show ((b1-1-(j-d):Nat):Int)=(b1:Int)-1-((j:Int)-(d:Int)) by omega];first|exact eN|refine eM ?_
  repeat'(first|exact trivial|apply eS rfl|apply AB|refine rX c ?_ ?_)
  refine⟨⟨(j,hint,i),⟨z,A⟩,f⟩,AC [(1000000,.nm 1000000)] rfl rfl ?_ ?_⟩
  .first|exact eN|refine eM ?_
  first|exact eN|refine eM ?_
 clear z A f v key;obtain⟨⟨j,hint,i⟩,⟨z,A⟩,f⟩:=x;simp only at z A f ⊢;have v:i.length=l.length:=f.len.trans u;have ah:=N.perm CH f.perm;have Y:=Q.pin f;refine QC (ι:={x:List (Int×Int)//EC (0,0) d b1 m x}) (λx=>⟨[(0,.sr 1000000 AU 0 l.length),(1,.p T3 (d:Int)),(2,.p T3 (b1:Int)),(3,.p T3 (C:Int)),(4,.fn 192),(10,.p .bool T),(11,.p .bool U),(12,.p (.int .i64) ((b1-d:Nat):Int)),(13,.p T3 (j:Int))],[(1000000,.arr 106 AU x.1)]⟩) ?_ (λx=>?_)
 .repeat'(first|exact trivial|apply eS rfl|apply AB|refine rX c ?_ ?_)
  refine rC (λk=>?_) (λk=>?_)
  .have key:=A7F i (by omega) ah d b1 (by omega) (by omega) Y;rw[v]at key;apply eS rfl;refine cP 4 c ?_ ?_
   .trivial
   refine rM c (key) [(1000000,.nm 1000000)] [] ?_ ?_ ?_
   .first|exact eN|refine eM ?_
   .first|exact eN|refine eM ?_
   rintro _ _ ⟨w,r,rfl,rfl,e,g⟩;refine⟨[(1000000,.nm 1000000)],.p .bool w,[(1000000,.arr 106 AU r)],rfl,rfl,?_,?_,rfl,rfl,BV ?_⟩
   .first|exact eN|refine eM ?_
   .first|exact eN|refine eM ?_
   apply eS rfl;refine rC (λaf=>?_) (λaf=>?_)
   .repeat'(first|exact trivial|apply eS rfl|apply AB|refine rX c ?_ ?_|refine rC ?_ ?_<;>intro o<;>try(cases o;done))
    have am:=f.trans e;exact fM c [] (.raw (.tuple #[])) rfl ⟨rfl,r,rfl,n.trans (am.mono D E),(t.pin am).done (g af)⟩
   repeat'(first|exact trivial|apply eS rfl|apply AB|refine rX c ?_ ?_)
   refine⟨⟨r,f.trans e⟩,AC [(1000000,.nm 1000000)] rfl rfl ?_ ?_⟩
   .first|exact eN|refine eM ?_
   first|exact eN|refine eM ?_
  repeat'(first|exact trivial|apply eS rfl|apply AB|refine rX c ?_ ?_)
  refine⟨⟨i,f⟩,AC [(1000000,.nm 1000000)] rfl rfl ?_ ?_⟩
  .first|exact eN|refine eM ?_
  first|exact eN|refine eM ?_
 clear v ah Y f;obtain⟨ao,y⟩:=x;simp only;have ak:ao.length=l.length:=y.len.trans u;have ai:=N.perm CH y.perm;have R:=Q.pin y;have ad:=t.pin y;repeat'(first|exact trivial|apply eS rfl|apply AB|refine rX c ?_ ?_)
 .dsimp only[Ty.den];exact⟨λ_=>by omega,λ_=>by omega,λ_=>by omega⟩
 refine Dd (by simp only[go_sem,Nat.reduceEqDiff,reduceCtorEq,Nat.reduceAdd,Nat.reduceSub,Nat.reduceMul,Nat.reduceLeDiff,Nat.reduceLT,Int.reduceLE,Int.reduceToNat,Int.reduceNeg,↓reduceIte];rfl) ?_ ?_
 .intro L;exfalso;simp only[An,Do,RH,On]at L;obtain⟨h1,X⟩:=L;rw[show ((d:Int)-1).toNat=d-1 by omega]at X;rcases R with h|h
  .omega
  exact X (h j z A)
 intro L;clear L;have key:=A7E ao (by omega) ai d b1 j z A (by omega);rw[ak]at key;repeat'(first|exact trivial|apply eS rfl|apply AB|refine rX c ?_ ?_)
 refine cP 5 c ?_ ?_
 .trivial
 refine rM c (key) [(1000000,.nm 1000000)] [] ?_ ?_ ?_
 .first|exact eN|refine eM ?_
 .first|exact eN|refine eM ?_
 rintro _ _ ⟨q,w,I,rfl,rfl,P,F⟩;refine⟨[(1000000,.nm 1000000)],.tup [.p T3 (q:Int),.p .bool w],[(1000000,.arr 106 AU I)],rfl,rfl,?_,?_,rfl,rfl,?_⟩
 .first|exact eN|refine eM ?_
 .first|exact eN|refine eM ?_
 have aw:=F.l;have bc:=F.r;have O:=n.trans ((y.trans P).mono D E);have al:=O.len;have aj:=aa.perm CH O.perm;have Z:=R.pin P;have ae:=ad.pin P;clear y ak ai R ad P key;have W:(((b1-d:Nat):Int)).tdiv 8=(((b1-d) / 8:Nat):Int):=by
  rw[AAd (by omega)];omega
 refine rL c ?_ ?_
 .trivial
 repeat'(first|exact trivial|apply eS rfl|apply AB|refine rX c ?_ ?_)
 .exact CS
 .rw[W];exact⟨by decide,by omega,by omega⟩
 rw[W];refine rC (λk=>?_) (λk=>?_)
 .have key:=V I (by omega) aj d q C (by omega) aw (by omega) G (Z.sub (by omega));unfold i6 at key;rw[al]at key;repeat'(first|exact trivial|apply eS rfl|apply AB|refine rX c ?_ ?_)
  refine cP 5 c ?_ ?_
  .trivial
  refine rM c (key) [(1000000,.nm 1000000)] [] ?_ ?_ ?_
  .first|exact eN|refine eM ?_
  .first|exact eN|refine eM ?_
  rintro _ _ ⟨rfl,r,rfl,e,g⟩;refine⟨[(1000000,.nm 1000000)],.raw (.tuple #[]),[(1000000,.arr 106 AU r)],rfl,rfl,?_,?_,rfl,rfl,BV ?_⟩
  .first|exact eN|refine eM ?_
  .first|exact eN|refine eM ?_
  have M:=F.pinL e;have B:EC (0,0) d b1 I r:=e.mono (If _) (by omega);repeat'(first|exact trivial|apply eS rfl|apply AB|refine rX c ?_ ?_)
  .exact CS
  refine⟨⟨((q+1,b1,C),(decide ((((b1-d) / 8:Nat):Int)<=(q:Int)-(d:Int)),w),r),(ae.pin B).left CH M g,O.trans (B.mono D E),M.bf,G⟩,by simp only;omega,AC [(1000000,.nm 1000000)] rfl rfl ?_ ?_⟩
  .first|exact eN|refine eM ?_
  first|exact eN|refine eM ?_
 have key:=V I (by omega) aj (q+1) b1 C (by omega) (by omega) (by omega) G F.bf;unfold i6 at key;rw[al,show ((q+1:Nat):Int)=(q:Int)+1 by omega]at key;repeat'(first|exact trivial|apply eS rfl|apply AB|refine rX c ?_ ?_)
 refine cP 6 c ?_ ?_
 .exact CS
 refine rM c (key) [(1000000,.nm 1000000)] [] ?_ ?_ ?_
 .first|exact eN|refine eM ?_
 .first|exact eN|refine eM ?_
 rintro _ _ ⟨rfl,r,rfl,e,g⟩;refine⟨[(1000000,.nm 1000000)],.raw (.tuple #[]),[(1000000,.arr 106 AU r)],rfl,rfl,?_,?_,rfl,rfl,BV ?_⟩
 .first|exact eN|refine eM ?_
 .first|exact eN|refine eM ?_
 have M:=F.pinR e;have B:EC (0,0) d b1 I r:=e.mono (by omega) (If _);repeat'(first|exact trivial|apply eS rfl|apply AB|refine rX c ?_ ?_)
 refine⟨⟨((d,q,C),(decide ((((b1-d) / 8:Nat):Int)<=(b1:Int)-(q:Int)),w),r),(ae.pin B).right CH M g,O.trans (B.mono D E),(Z.pin B).sub (b':=q) (by omega),G⟩,by simp only;omega,AC [(1000000,.nm 1000000)] rfl rfl ?_ ?_⟩
 .first|exact eN|refine eM ?_
 first|exact eN|refine eM ?_
theorem A7L (l:List (Int×Int)) (hl:l.length<256) (e:lH CC (0,0) l) (a b c:Nat) (f:a<=b) (g:b<=l.length) (i:c<=1000) (d:Bf CC (0,0) a b l):i6 l a b c:=by
 have key:∀(n:Nat) (l:List (Int×Int)),l.length<256->lH CC (0,0) l->∀a b c:Nat,b-a<n->a<=b->b<=l.length->c<=1000->Bf CC (0,0) a b l->i6 l a b c:=by
  intro n;induction n with
  | zero=>intro l _ _ a b c h;omega
  | succ n r =>
   intro l hl e a b c hn f g i d;exact A0V l hl e a b c f g i d λl' h1 k j b' s t m o p q=>r l' h1 k j b' s (by omega) m o p q
 exact key (b-a+1) l hl e a b c (by omega) f g i d
end
def NdA (l:List (Int×Int)):Prop:=l.Pairwise λa b=>a.1≠b.1
def LtA (l:List (Int×Int)):Prop:=l.Pairwise λa b=>a.1<b.1
theorem ZS (x:Int×Int) (s:List (Int×Int)):∀n,(∀j,IX x s n<=j->j<n->x.1<(s.getD j (0,0)).1)/\(IX x s n=0\/¬x.1<(s.getD (IX x s n-1) (0,0)).1)
 | 0=>⟨λj h1 a=>by omega,.inl rfl⟩
 | n+1=>by
  obtain⟨h1,a⟩:=ZS x s n;unfold IX;split
  .rename_i h;refine⟨λj b c=>?_,a⟩;by_cases e:j=n
   .rw[e];exact h
   exact h1 j b (by omega)
  rename_i h;exact⟨λj b c=>by omega,.inr (by simpa using h)⟩
theorem A7M {s:List (Int×Int)} (hs:LtA s) {x:Int×Int} (hx:∀a∈s,a.1≠x.1):LtA (PQ s x):=by
 obtain⟨h1,c⟩:=ZS x s s.length;have l:=Uo x s s.length;unfold PQ;generalize IX x s s.length=p at *;have hp:=hs;unfold LtA at hp;rw[<-AEe p s,ADB]at hp;have g:∀i (h:i<s.length),s.getD i (0,0)=s[i]:=λi h=>by rw[AS,AT h];rfl
 have k:∀a∈s.take p,a.1<x.1:=by
  intro a ha;rcases c with c|c
  .subst c;simp at ha
  obtain⟨i,hi,rfl⟩:=ADu.1 ha;rw[OS]at hi;rw[List.getElem_take];by_cases n:p=0
  .omega
  have f:p-1<s.length:=by omega
  rw[g (p-1) f]at c;have m:=hx s[p-1] (S3 f);by_cases e:i=p-1
  .subst e;omega
  have:=(RR.1 hs) i (p-1) (by omega) f (by omega);omega
 have j:∀a∈s.drop p,x.1<a.1:=by
  intro a ha;obtain⟨i,hi,rfl⟩:=ADu.1 ha;rw[S0]at hi;rw[List.getElem_drop,<-g (p+i) (by omega)];exact h1 (p+i) (by omega) (by omega)
 unfold LtA;rw[RN,ADB];refine⟨hp.1,?_,λa ha b d=>?_⟩
 .rw[List.singleton_append,Rb];exact⟨j,hp.2.1⟩
 rcases DO.1 (by simpa using d:b∈x :: s.drop p) with rfl|d
 .exact k a ha
 exact hp.2.2 a ha b d
theorem PR {l:List (Int×Int)} (h:NdA l):LtA (Ab l):=by
 induction l using EO with
 | h0=>exact List.Pairwise.nil
 | h1 l a d =>
  unfold NdA at h;rw[ADB]at h;rw[He];exact A7M (d h.1) λb c=>h.2.2 b ((Ex l).mem_iff.1 c) a (by simp)
theorem A0W {l r:List (Int×Int)} (hp:r.Perm l) (h1:LtA r) (c:LtA l):r=l :=
 List.Perm.eq_of_pairwise (le:=λa b:Int×Int=>a.1<b.1) (λa b _ _ d e=>by omega) h1 c hp
theorem yI {l:List (Int×Int)} (h:LtA l):iR l:=by
 intro i hi;have a:∀i (h:i<l.length),l.getD i (0,0)=l[i]:=λi h=>by rw[AS,AT h];rfl
 rw[a i (by omega),a (i+1) hi];exact(RR.1 h) i (i+1) (by omega) hi (by omega)
theorem A3Q {l:List (Int×Int)} (h:iR l):LtA l:=by
 refine RR.2 λi j hi f k=>?_;have c:∀i (h:i<l.length),l.getD i (0,0)=l[i]:=λi h=>by rw[AS,AT h];rfl
 have key:∀d i,i+d+1<l.length->(l.getD i (0,0)).1<(l.getD (i+d+1) (0,0)).1:=by
  intro d;induction d with
  | zero=>exact λi hi=>h i hi
  | succ d g =>
   intro i hi;have a:=g i (by omega);have b:=h (i+d+1) (by omega);have e:i+(d+1)+1=i+d+1+1:=by omega
   rw[e];omega
 have:=key (j-i-1) i (by omega);rw[show i+(j-i-1)+1=j by omega,c i hi,c j f]at this;exact this
theorem A9F {l:List (Int×Int)} (h:LtA l):NdA l:=h.imp λg=>by omega
theorem A9G {l:List (Int×Int)} (h:NdA l):lH CC (0,0) l:=by
 rw[yF CH];refine h.imp λ{a b} g e=>g ?_;unfold CC UU at e;split at e
 .omega
 split at e<;>omega
theorem oQ {l r:List (Int×Int)} (h:NdA l) (hp:r.Perm l) (hs:SV CC (0,0) 0 l.length r):r=Ab l:=by
 refine A0W (hp.trans (Ex l).symm) (RR.2 λi j hi b c=>?_) (PR h);have a:∀i (h:i<r.length),r.getD i (0,0)=r[i]:=λi h=>by rw[AS,AT h];rfl
 have:=hs i j (NO _) c (by rw[<-hp.length_eq];exact b);rw[a i hi,a j b]at this;unfold CC UU at this;split at this
 .assumption
 split at this<;>omega
theorem Ma {l:List (Int×Int)} (h:NdA l):Ab (Ab l)=Ab l:=JL (yI (PR h))
def NdF (f:List AD):Prop:=∀x∈f,NdA x.2/\x.2.length<=200
def Di (f:List AD):List AD:=f.map λx=>(x.1,Ab x.2)
theorem F7 (f:List AD):(Di f).length=f.length:=OR _
theorem Qm (f:List AD) (n:Nat):(Di f).getD n (0,[])=((f.getD n (0,[])).1,Ab (f.getD n (0,[])).2):=by
 unfold Di;simp only[AS,gO];cases f[n]?<;>rfl
theorem SW {f:List AD} (h:AN f):AN (Di f):=by
 refine⟨by rw[F7];exact h.1,λx hx=>?_⟩;obtain⟨y,d,rfl⟩:=GO.1 hx;obtain⟨b,c⟩:=h.2 y d;refine⟨by simp only[Ci];exact b,λa ha=>?_⟩;rw[F7];exact c a ((Ex _).mem_iff.1 ha)
theorem A3R {f:List AD} (h:NdF f):Io (Di f):=by
 intro x hx;obtain⟨y,c,rfl⟩:=GO.1 hx;obtain⟨a,b⟩:=h y c;exact⟨yI (PR a),by simp only[Ci];exact b⟩
theorem A0X {f:List AD} (h:Io f):Di f=f:=by
 unfold Di
 conv=>rhs;rw[<-List.map_id f]
 refine RI λx hx=>?_;rw[JL (h x hx).1];rfl
theorem A9H {f:List AD} (h:Io f):NdF f:=λx hx=>⟨A9F (A3Q (h x hx).1),(h x hx).2⟩
theorem yJ {f:List AD} (hf:NdF f) (n:Int):NdA (f.getD n.toNat (0,[])).2/\(f.getD n.toNat (0,[])).2.length<=200:=by
 by_cases h:n.toNat<f.length
 .have a:f.getD n.toNat (0,[])∈f:=by
   rw[AS,AT h];exact S3 h
  exact hf _ a
 rw[AS,RP (by omega)];exact⟨List.Pairwise.nil,by simp⟩
theorem Ts {f:List AD} (h:NdF f):∀(k:Nat) (s:List Int×List Int) (n:Int),D7 (Di f) k s n=D7 f k s n
 | 0,_,_=>rfl
 | k+1,s,n=>by
  rw[Fc,Fc,Qm];simp only;rw[Ma (yJ h n).1];refine AAc (λg=>List.foldl g _ _) ?_;funext s a;unfold EY;rw[Ts h k s a.2]
theorem A0Y {f:List AD} (h:NdF f) (r:Int):JK (Di f) r=JK f r:=by
 have a:GR (Di f) r=GR f r:=by
  unfold GR;rw[F7,Ts h]
 unfold JK;rw[a];refine RI λn _=>?_;unfold MY;rw[Qm];simp only;rw[Ma (yJ h n).1]
theorem i7 {f:List AD} (hf:AN f) (hn:NdF f) {root:Int} (h0:0<=root) (h1:root<f.length):JK f root=AL (Di f) root:=by
 rw[<-A0Y hn];exact Ia (SW hf) (A3R hn) h0 (by rw[F7];exact h1)
theorem Qn {L:Go.Loop} (h1:L.state=.ready) (a:L.pending=none):{ { L with state:=.busy } with state:=.ready,pending:=none }=L:=by
 cases L;simp_all
theorem ZT (l:List (Int×Int)):A9 Tryz.prog 191 [.p Cm l] [] [] (λres b=>res=.clo 216 [1]/\b=[(1,.box 91 false [.p Cm l])]):=by
 refine KY [0,1,2] [] [] Tryz.func191 Tryz.ntmps191 AH ?_;intro w0 K O0 ρ0 a c d;simp only[Ak];repeat'(first|exact trivial|apply eS rfl|refine rX a ?_ ?_)
 exact fM a [.tmp 2] (.clo 216 [1]) eT ⟨rfl,rfl⟩
def CM (l:List (Int×Int)) (L:Go.Loop) (a:Array Value) (i:Nat):List (Nat×Obj):=[(1,.box 91 false [.p Cm l]),(101,.loop L),(102,.frame a [(2,.bp 2 [] 0),(6,.clo 216 [1])]),(2,.box 91 false [.sr 7 AU 0 i]),(7,.arr 106 AU (l.take i))]
theorem oT (l:List (Int×Int)) (hl:l.length<=100000) (L:Go.Loop) (b:Array Value) (f:∀i,i<l.length->V0 Tryz.prog 101 [.p AU (l.getD i (0,0))] (CM l L b i) [1,101,102,2] (λres e=>res=.p .bool true/\e=CM l L b (i+1))) :
  A9 Tryz.prog 216 [.yl 101,.bp 1 [] 0] (CM l L b 0) [1,101,102,2] (λres e=>res=.raw (.tuple #[])/\e=CM l L b l.length):=by
 refine KY [0,1,4,5,6,7,8,14] [] [] Tryz.func216 Tryz.ntmps216 AH ?_;intro w0 K O0 ρ0 a g h;simp only[Ak,CM];repeat'(first|exact trivial|apply eS rfl|refine rX a ?_ ?_)
 refine AK (ι:={i:Nat//i<=l.length}) (λi=>⟨[(0,.yl 101),(1,.bp 1 [] 0),(5,.p Cm l),(6,.p (.int .i64) (l.length:Int)),(7,.p (.int .i64) (i.1:Int))],CM l L b i.1⟩) (λi=>l.length-i.1) ⟨0,by omega⟩ (AC [(1,.nm 1),(101,.nm 101),(102,.nm 102),(2,.nm 2),(7,.nm 7)] rfl rfl ?_ ?_) (λi=>?_)
 .simp only[CM];exact eN
 .exact eN
 obtain⟨i,hi⟩:=i;simp only[CM];repeat'(first|exact trivial|apply eS rfl|refine rX a ?_ ?_|refine rC ?_ ?_<;>intro c<;>try(cases c;done))
 .exact eV
 .have d:i<l.length:=by exact eV
  refine cP 2 a ?_ ?_
  .trivial
  refine rY 101 101 a (f i d) [(1,.nm 1),(101,.nm 101),(102,.nm 102),(2,.nm 2),(7,.nm 7)] [7] ?_ ?_ ?_
  .exact eN
  .simp only[CM];exact eN
  rintro _ _ ⟨rfl,rfl⟩;refine⟨[(1,.nm 1),(101,.nm 101),(102,.nm 102),(2,.nm 2),(7,.nm 7)],.p .bool true,CM l L b (i+1),rfl,rfl,?_,?_,rfl,rfl,?_⟩
  .simp only[CM];exact eN
  .exact eN
  simp only[CM];refine IE [0,1,5,6,7,14] a (by simp only[go_sem,Nat.reduceEqDiff,reduceCtorEq,Nat.reduceAdd,Nat.reduceSub,Nat.reduceMul,Nat.reduceLeDiff,Nat.reduceLT,Int.reduceLE,Int.reduceToNat,Int.reduceNeg,↓reduceIte];rfl) ?_ ?_
  .trivial
  repeat'(first|apply eS rfl|apply AB|refine rX a ?_ ?_|refine rC ?_ ?_<;>intro c<;>try(cases c;done))
  .exact eV
  refine⟨⟨i+1,by omega⟩,by simp only;omega,AC [(1,.nm 1),(101,.nm 101),(102,.nm 102),(2,.nm 2),(7,.nm 7)] rfl rfl ?_ ?_⟩
  .simp only[CM];exact eN
  exact eN
 have d:i=l.length:=by exact eV
 subst d;refine fM a [] (.raw (.tuple #[])) rfl ⟨rfl,?_⟩;simp only[CM,RD]
theorem cH (l:List (Int×Int)) (hl:l.length<=100000):A9 Tryz.prog 228 [.raw (.slice none 0 0),.clo 216 [1]] [(1,.box 91 false [.p Cm l])] [] (λres o=>res=.sr 7 AU 0 l.length/\o=[(7,.arr 106 AU l)]):=by
 refine fKR [0,1,2,4,5,6,7] [] [] Tryz.func228 Tryz.ntmps228 AH ?_;intro w0 K O0 ρ0 a s t;simp only[Ak];repeat'(first|exact trivial|apply eS rfl|refine rX a ?_ ?_)
 refine WB a rfl rfl (by simp only[go_sem,Nat.reduceEqDiff,reduceCtorEq,Nat.reduceAdd,Nat.reduceSub,Nat.reduceMul,Nat.reduceLeDiff,Nat.reduceLT,Int.reduceLE,Int.reduceToNat,Int.reduceNeg,↓reduceIte];rfl) 101 103 102 rfl rfl rfl rfl ?_;intro L c d f g h j k n;refine⟨_,CM l L c 0,[1,101,102,2],_,[(1,.nm 1),(101,.nm 101),(102,.nm 102),(2,.nm 2),(7,.nil)],[],oT l hl L c ?_,rfl,rfl,?_,?_,rfl,?_⟩
 .intro i hi;refine WA (fr:=102) rfl rfl d h j k g n rfl (by kernel_rfl) (by simp) rfl rfl (by kernel_rfl) (by kernel_rfl) (tyTab_ok [] [0,1,2,4,5,6,7]) AH ?_;intro x q r y w a u v m;simp only[CM,Ga];repeat'(first|exact trivial|apply AB|refine rX a ?_ ?_)
  refine⟨rfl,?_⟩;repeat'(first|apply eS rfl|refine rX a ?_ ?_)
  .simp only[AO];omega
  have e:List.take i (List.take i l)++[((l.getD i (0,0)).1,(l.getD i (0,0)).2)]=l.take (i+1):=by
   rw[Au l (0,0) hi,At (Nat.le_of_eq (by rw[OS];omega):(l.take i).length<=i)]
  refine Ev.ent (σ':=⟨[],[(1,.box 91 false [.p Cm l]),(101,.loop { L with state:=.busy }),(102,.frame c [(2,.bp 2 [] 0),(6,.clo 216 [1])]),(2,.box 91 false [.sr 7 AU 0 (i+1)]),(7,.arr 106 AU (l.take (i+1)))]⟩) ?_ (AC [(1,.nm 1),(101,.nm 101),(102,.nm 102),(2,.nm 2),(7,.nm 7)] rfl rfl ?_ ?_)
  .refine NH a (yn:=101) rfl rfl (by simp) m ⟨rfl,?_⟩;simp only[CM,go_sem,Nat.reduceEqDiff,reduceCtorEq,Nat.reduceAdd,Nat.reduceSub,Nat.reduceMul,Nat.reduceLeDiff,Nat.reduceLT,Int.reduceLE,Int.reduceToNat,Int.reduceNeg,↓reduceIte,Qn d f]
  .refine eM ?_;exact e
  exact eN
 .simp only[BA];exact eN
 .simp only[BA,CM];exact eN
 rintro _ _ ⟨rfl,rfl⟩;refine⟨[(1,.nm 1),(101,.nm 101),(102,.nm 102),(2,.nm 2),(7,.nm 7)],CM l L c l.length,L,rfl,rfl,?_,rfl,rfl,rfl,by rw[d];rfl,?_⟩
 .simp only[CM];exact eN
 intro b;rw[f];simp only[EvJ,CM,BA,go_sem,Nat.reduceEqDiff,reduceCtorEq,Nat.reduceAdd,Nat.reduceSub,Nat.reduceMul,Nat.reduceLeDiff,Nat.reduceLT,Int.reduceLE,Int.reduceToNat,Int.reduceNeg,↓reduceIte];replace a:=Ho (dn:=103) (b:=b) a;repeat'(first|exact trivial|apply eS rfl|refine rX a ?_ ?_)
 refine Ev.ent (σ':=⟨[(4,.sr 7 AU 0 l.length)],[(7,.arr 106 AU l),(103,.dfr)]⟩) ?_ (AC [(7,.nm 7),(103,.nm 103)] rfl rfl ?_ ?_)
 .exact J8 a [.tmp 4] rfl (.inl rfl) rfl rfl (.sr 7 AU 0 l.length) eT ⟨rfl,by simp only[go_sem,Nat.reduceEqDiff,reduceCtorEq,Nat.reduceAdd,Nat.reduceSub,Nat.reduceMul,Nat.reduceLeDiff,Nat.reduceLT,Int.reduceLE,Int.reduceToNat,Int.reduceNeg,↓reduceIte]⟩
 .exact eN
 exact eN
theorem oU (l:List (Int×Int)) (hl:l.length<=100000):A9 Tryz.prog 214 [.clo 216 [1]] [(1,.box 91 false [.p Cm l])] [] (λres b=>res=.sr 7 AU 0 l.length/\b=[(7,.arr 106 AU l)]):=by
 refine KY [0,2] [] [] Tryz.func214 Tryz.ntmps214 AH ?_;intro w0 K O0 ρ0 a c d;simp only[Ak];repeat'(first|exact trivial|apply eS rfl|refine rX a ?_ ?_)
 refine cP 1 a ?_ ?_
 .trivial
 refine rM a (cH l hl) [(1,.nm 1)] [1] ?_ ?_ ?_
 .exact eN
 .exact eN
 rintro _ _ ⟨rfl,rfl⟩;refine⟨[(7,.nm 7)],.sr 7 AU 0 l.length,[(7,.arr 106 AU l)],rfl,rfl,?_,?_,rfl,rfl,?_⟩
 .exact eN
 .exact eN
 refine IE [2] a (by simp only[go_sem,Nat.reduceEqDiff,reduceCtorEq,Nat.reduceAdd,Nat.reduceSub,Nat.reduceMul,Nat.reduceLeDiff,Nat.reduceLT,Int.reduceLE,Int.reduceToNat,Int.reduceNeg,↓reduceIte];rfl) ?_ ?_
 .trivial
 repeat' apply eS rfl
 exact fM a [.tmp 2] (.sr 7 AU 0 l.length) eT ⟨rfl,rfl⟩
theorem i8 (l:List (Int×Int)) (hl:l.length<=200) (hs:NdA l):A9 Tryz.prog 215 [.sr 1000000 AU 0 l.length,.fn 192] [(1000000,.arr 106 AU l)] [1000000] (λres f=>res=.raw (.tuple #[])/\f=[(1000000,.arr 106 AU (Ab l))]):=by
 have d:=A9G hs;refine KY [0,1,4] [] [] Tryz.func215 Tryz.ntmps215 AH ?_;intro w0 K O0 ρ0 a h i;simp only[Ak];repeat'(first|exact trivial|apply eS rfl|refine rX a ?_ ?_)
 refine cP 4 a ?_ ?_
 .exact eV
 refine rM a (yH (l.length:Int) (by omega) (by omega)) [] [] ?_ ?_ ?_
 .exact eN
 .exact eN
 rintro _ _ ⟨⟨n,rfl,g,-⟩,rfl⟩;refine⟨[],.p T3 (n:Int),[],rfl,rfl,?_,?_,rfl,rfl,?_⟩
 .exact eN
 .exact eN
 have key:=A7L l (by omega) d 0 l.length n (NO _) (If _) (by omega) (.inl rfl);unfold i6 at key;rw[show ((0:Nat):Int)=0 from rfl]at key;refine QM a 1 (by simp only[go_sem,Nat.reduceEqDiff,reduceCtorEq,Nat.reduceAdd,Nat.reduceSub,Nat.reduceMul,Nat.reduceLeDiff,Nat.reduceLT,Int.reduceLE,Int.reduceToNat,Int.reduceNeg,↓reduceIte];rfl) ?_ ?_
 .trivial
 refine rM a (key) [(1000000,.nm 1000000)] [] ?_ ?_ ?_
 .exact eN
 .exact eN
 rintro _ _ ⟨rfl,r,rfl,hp,e⟩;have c:=oQ hs hp.perm e;subst c;have j:=Ci l;refine⟨[(1000000,.nm 1000000)],.raw (.tuple #[]),[(1000000,.arr 106 AU (Ab l))],rfl,rfl,?_,?_,rfl,rfl,BV ?_⟩
 .exact eN
 .exact eN
 repeat'(first|exact trivial|apply eS rfl|apply AB|refine rX a ?_ ?_|refine rC ?_ ?_<;>intro b<;>try(cases b;done))
 exact fM a [] (.raw (.tuple #[])) rfl ⟨rfl,rfl⟩
theorem OH (l:List (Int×Int)) (hl:l.length<=200) (hs:NdA l):A9 Tryz.prog 190 [.clo 216 [1],.fn 192] [(1,.box 91 false [.p Cm l])] [] (λres b=>res=.sr 7 AU 0 l.length/\b=[(7,.arr 106 AU (Ab l))]):=by
 have e:=Ci l;refine KY [0,1,4,5] [] [] Tryz.func190 Tryz.ntmps190 AH ?_;intro w0 K O0 ρ0 a c d;simp only[Ak];repeat'(first|exact trivial|apply eS rfl|refine rX a ?_ ?_)
 refine cP 1 a ?_ ?_
 .trivial
 refine rM a (oU l (by omega)) [(1,.nm 1)] [1] ?_ ?_ ?_
 .exact eN
 .exact eN
 rintro _ _ ⟨rfl,rfl⟩;refine⟨[(1000000,.nm 7)],.sr 1000000 AU 0 l.length,[(1000000,.arr 106 AU l)],rfl,rfl,?_,?_,rfl,rfl,?_⟩
 .exact eN
 .exact eN
 refine IE [1,5] a (by simp only[go_sem,Nat.reduceEqDiff,reduceCtorEq,Nat.reduceAdd,Nat.reduceSub,Nat.reduceMul,Nat.reduceLeDiff,Nat.reduceLT,Int.reduceLE,Int.reduceToNat,Int.reduceNeg,↓reduceIte];rfl) ?_ ?_
 .trivial
 repeat' apply eS rfl
 refine cP 2 a ?_ ?_
 .trivial
 refine rM a (i8 l hl hs) [(1000000,.nm 1000000)] [] ?_ ?_ ?_
 .exact eN
 .exact eN
 rintro _ _ ⟨rfl,rfl⟩;refine⟨[(1000000,.nm 1000000)],.raw (.tuple #[]),[(1000000,.arr 106 AU (Ab l))],rfl,rfl,?_,?_,rfl,rfl,BV ?_⟩
 .exact eN
 .exact eN
 repeat'(first|exact trivial|apply eS rfl|refine rX a ?_ ?_)
 refine Ev.ent (σ':=⟨[(4,.sr 7 AU 0 l.length)],[(7,.arr 106 AU (Ab l))]⟩) ?_ (AC [(7,.nm 1000000)] rfl rfl ?_ ?_)
 .exact fM a [.tmp 4] (.sr 7 AU 0 l.length) eT ⟨rfl,rfl⟩
 .exact eN
 exact eN
def Lf (f:List AD) (o:List Int):List (Nat×Obj):=[(1,.box 61 false [.sr 5 T3 0 o.length]),(2,.box 177 false [.mp 6]),(3,.box 25 true [.p G2 f]),(4,.box 178 false [.clo 189 [1,2,3,4]]),(5,.arr 3 T3 o),(6,.mapo T3 T3 (lG o))]
theorem ADb {f:List AD} {o:List Int} (h:Ji f o):Ji (Di f) o:=⟨h.nd,λx hx=>by rw[F7];exact h.rng x hx⟩
theorem A8T {f:List AD} {o:List Int} (h:Ji (Di f) o):Ji f o:=⟨h.nd,λx hx=>by have:=h.rng x hx;rwa [F7]at this⟩
theorem A0Z (f:List AD) (hf:AN f) (hs:NdF f):∀(k:Nat) (o:List Int) (n:Int),Ji f o->0<=n->n<f.length->n∉o->f.length-o.length<=k ->
  A9 Tryz.prog 189 [.p T3 n,.bp 1 [] 0,.bp 2 [] 0,.bp 3 [] 0,.bp 4 [] 0] (Lf f o) [1,2,3,4,6] (λres Q=>res=.raw (.tuple #[])/\Q=Lf f (Ca (Di f) k o n)):=by
 intro k;induction k with
 | zero =>
  intro o n h0 h1 A B R;have:=(h0.snoc h1 A B).len;simp only[By,IS]at this;omega
 | succ k P =>
  intro o n D u v w hk;have t:=D.snoc u v w;have I:=t.len;simp only[By,IS]at I;have S:=hf.1;refine KY [0,1,2,3,4,7,9,25,26,27,28,39] [] [] Tryz.func189 Tryz.ntmps189 AH ?_;intro w0 K O0 ρ0 b T U;simp only[Lf,Ak];repeat'(first|exact trivial|apply eS rfl|refine rX b ?_ ?_)
  .simp only[AO];omega
  rw[iU w];obtain⟨O,G⟩:=yJ hs n;have s:=λa (ha:a∈Ab (f.getD n.toNat (0,[])).2)=>Ay hf ((Ex _).mem_iff.1 ha);have F:Ca (Di f) (k+1) o n=(Ab (f.getD n.toNat (0,[])).2).foldl (AX (Di f) k) (o++[n]):=by rw[Bu,Qm]
  have E:=ADb (f:=f) t;refine cP 6 b ?_ ?_
  .exact⟨u,v⟩
  generalize (f.getD n.toNat (0,[])).2=g at *;refine rM b (ZT g) [] [] ?_ ?_ ?_
  .exact eN
  .exact eN
  rintro _ _ ⟨rfl,rfl⟩;refine⟨[(50,.nm 1)],.clo 216 [50],[(50,.box 91 false [.p Cm g])],rfl,rfl,?_,?_,rfl,rfl,?_⟩
  .exact eN
  .exact eN
  refine rM b (OH g G O) [(1,.nm 50)] [50] ?_ ?_ ?_
  .exact eN
  .exact eN
  rintro _ _ ⟨rfl,rfl⟩;have C:=Ci g;rw[<-C];generalize Ab g=L at *;refine⟨[(51,.nm 7)],.sr 51 AU 0 L.length,[(51,.arr 106 AU L)],rfl,rfl,?_,?_,rfl,rfl,?_⟩
  .exact eN
  .exact eN
  refine IE [0,1,2,3,4,25,26,27] b (by simp only[go_sem,Nat.reduceEqDiff,reduceCtorEq,Nat.reduceAdd,Nat.reduceSub,Nat.reduceMul,Nat.reduceLeDiff,Nat.reduceLT,Int.reduceLE,Int.reduceToNat,Int.reduceNeg,↓reduceIte];rfl) ?_ ?_
  .trivial
  have N:∀i,Ji (Di f) ((L.take i).foldl (AX (Di f) k) (o++[n]))/\o++[n] <+: (L.take i).foldl (AX (Di f) k) (o++[n]):=λi=>EH (DW (SW hf) k) _ _ (λa ha=>by rw[F7];exact s a (S4 ha)) E;generalize J:o++[n]=q at *;have M:q.length=o.length+1:=by rw[<-J];simp
  rw[<-M];repeat' apply eS rfl
  refine AK (ι:={i:Nat//i<=L.length}) (λi=>⟨[(0,.p T3 n),(1,.bp 1 [] 0),(2,.bp 2 [] 0),(3,.bp 3 [] 0),(4,.bp 4 [] 0),(25,.p Cm L),(26,.p (.int .i64) (L.length:Int)),(27,.p (.int .i64) (i.1:Int))],Lf f ((L.take i.1).foldl (AX (Di f) k) q)⟩) (λi=>L.length-i.1) ⟨0,by omega⟩ (AAI [51] (AC [(1,.nm 1),(2,.nm 2),(3,.nm 3),(4,.nm 4),(5,.nm 5),(6,.nm 6)] rfl rfl ?_ ?_)) (λi=>?_)
  .simp only[Lf,ADl,AFq];exact eN
  .exact eN
  obtain⟨i,hi⟩:=i;obtain⟨j,y⟩:=N i;replace j:=A8T j;have r:=λ(h:i<L.length)=>KF (AX (Di f) k) L (0,0) q h;have H:=y.length_le;generalize x:(L.take i).foldl (AX (Di f) k) q=c at j y r H;simp only[Lf];repeat'(first|exact trivial|apply eS rfl|apply AB|refine rX b ?_ ?_|refine rC ?_ ?_<;>intro d<;>try(cases d;done))
  .exact eV
  .have l:i<L.length:=by exact eV
   have z:=s _ (AE L (0,0) l);have m:(L.getD i (0,0)).2∉c:=by rw[LG]at d;simpa using d
   refine cP 3 b ?_ ?_
   .trivial
   refine rM b (P c (L.getD i (0,0)).2 j z.1 z.2 m (by omega)) [(1,.nm 1),(2,.nm 2),(3,.nm 3),(4,.nm 4),(5,.nm 5),(6,.nm 6)] [5] ?_ ?_ ?_
   .exact eN
   .simp only[Lf];exact eN
   rintro _ _ ⟨rfl,rfl⟩;refine⟨[(1,.nm 1),(2,.nm 2),(3,.nm 3),(4,.nm 4),(5,.nm 5),(6,.nm 6)],.raw (.tuple #[]),Lf f (Ca (Di f) k c (L.getD i (0,0)).2),rfl,rfl,?_,?_,rfl,rfl,BV ?_⟩
   .simp only[Lf];exact eN
   .exact eN
   simp only[Lf];repeat'(first|apply eS rfl|apply AB|refine rX b ?_ ?_)
   .exact eV
   have e:AX (Di f) k c (L.getD i (0,0))=Ca (Di f) k c (L.getD i (0,0)).2:=As m;refine⟨⟨i+1,by omega⟩,by simp only;omega,AC [(1,.nm 1),(2,.nm 2),(3,.nm 3),(4,.nm 4),(5,.nm 5),(6,.nm 6)] rfl rfl ?_ ?_⟩
   .simp only[r l,e];exact eN
   exact eN
  .exact eV
  .have l:i<L.length:=by exact eV
   have m:(L.getD i (0,0)).2∈c:=by rw[LG]at d;simpa using d
   have e:AX (Di f) k c (L.getD i (0,0))=c:=BY m;refine⟨⟨i+1,by omega⟩,by simp only;omega,AC [(1,.nm 1),(2,.nm 2),(3,.nm 3),(4,.nm 4),(5,.nm 5),(6,.nm 6)] rfl rfl ?_ ?_⟩
   .simp only[r l,e];exact eN
   exact eN
  have hk:L.take i=L:=At (by exact eV);rw[hk]at x;rw[F,x];exact fM b [] (.raw (.tuple #[])) rfl ⟨rfl,rfl⟩
section
def Cb:AZ:={ ins:=[DE,T3],pre:=λ(f,n,_)=>AN f/\Io f/\0<=n/\n<(List.length f:Int),out:=λ(f,n,_)=>[.p DE (AL f n)] }
attribute [local go_sem] Cb
theorem A10 {α β:Type} (g:α->β) (o:List α) (d:α) (z:β) {i:Nat} (h:i<o.length):((o.take i).map g++List.replicate (o.length-i) z).set i (g (o.getD i d))=(o.take (i+1)).map g++List.replicate (o.length-(i+1)) z:=by
 obtain⟨m,a⟩:∃m,o.length-i=m+1:=⟨o.length-i-1,by omega⟩;have b:o.length-(i+1)=m:=by omega
 have hl:((o.take i).map g).length=i:=by rw[OR,OS];omega
 rw[a,b,AEs _ _ (by omega),hl,AE5,AFa,AEV,Au o d h,Sw];simp
def Qo:AZ:={ ins:=[DE,T3],pre:=λ(f,n,_)=>AN f/\NdF f/\0<=n/\n<(List.length f:Int),out:=λ(f,n,_)=>[.p DE (AL (Di f) n)] }
attribute [local go_sem] Qo
theorem SX:Af Tryz.prog 149 Qo:=by
 refine fK [0,1,2,4,5,6,7,8,9,10,11,12,22,23,24,25,38,39,40] Tryz.func149 Tryz.ntmps149 AH ?_;rintro w0 O0 ⟨f,root,u⟩ a-⟨hf,hs,r,s⟩;simp only[Qo,AM];have z:=hf.1;have j:Ji f []:=⟨by simp,λx hx=>by cases hx⟩;obtain⟨g,G⟩:=DW (SW hf) f.length [] root (ADb j) r (by rw[F7];exact s) (by simp);replace g:=A8T g;have w:AL (Di f) root=(Ca (Di f) f.length [] root).map (Cj (Di f) (Ca (Di f) f.length [] root)):=by unfold AL;rw[F7]
 rw[w];repeat'(first|exact trivial|apply eS rfl|apply AB|refine rX a ?_ ?_|refine rC ?_ ?_<;>intro c<;>try(cases c;done))
 refine cP 2 a ?_ ?_
 .trivial
 refine rM a (A0Z f hf hs (List.length f) [] root j r s (by simp) (by simp)) [(1,.nm 6),(2,.nm 5),(3,.nm 2),(4,.nm 7),(5,.nil),(6,.nm 13)] [] ?_ ?_ ?_
 .exact eN
 .simp only[Lf];refine eM ?_;rfl
 rintro _ _ ⟨rfl,rfl⟩;refine⟨[(6,.nm 1),(5,.nm 2),(2,.nm 3),(7,.nm 4),(101,.nm 5),(13,.nm 6)],.raw (.tuple #[]),[(6,.box 61 false [.sr 101 T3 0 (Ca (Di f) (List.length f) [] root).length]),(5,.box 177 false [.mp 13]),(2,.box 25 true [.p G2 f]),(7,.box 178 false [.clo 189 [6,5,2,7]]),(101,.arr 3 T3 (Ca (Di f) (List.length f) [] root)),(13,.mapo T3 T3 (lG (Ca (Di f) (List.length f) [] root)))],rfl,rfl,?_,?_,rfl,rfl,BV ?_⟩
 .simp only[Lf];exact eN
 .exact eN
 generalize Ca (Di f) (List.length f) [] root=o at *;have F:=g.len;repeat'(first|exact trivial|apply eS rfl|apply AB|refine rX a ?_ ?_|refine rC ?_ ?_<;>intro c<;>try(cases c;done))
 .simp only[AO];omega
 refine AK (ι:={i:Nat//i<=o.length}) (λi=>⟨[(2,.bp 2 [] 0),(4,.bp 4 [] 0),(5,.bp 5 [] 0),(8,.bp 8 [] 0),(22,.sr 101 T3 0 o.length),(23,.p (.int .i64) (o.length:Int)),(24,.p (.int .i64) (i.1:Int))],[(8,.box 25 true [.sr 20 Hd 0 o.length]),(20,.arr 93 Hd ((o.take i.1).map (Cj (Di f) o)++List.replicate (o.length-i.1) (0,[]))),(5,.box 177 false [.mp 13]),(2,.box 25 true [.p G2 f]),(101,.arr 3 T3 o),(13,.mapo T3 T3 (lG o)),(4,.box 25 true [.raw (.slice none 0 0)])]⟩) (λi=>o.length-i.1) ⟨0,by omega⟩ (eW [(8,.nm 8),(20,.nm 20),(5,.nm 5),(2,.nm 2),(101,.nm 101),(13,.nm 13),(4,.nm 4)]) (λi=>?_)
 obtain⟨i,hi⟩:=i;repeat'(first|exact trivial|apply eS rfl|apply AB|refine rX a ?_ ?_|refine rC ?_ ?_<;>intro c<;>try(cases c;done))
 .exact eV
 .have l:i<o.length:=by exact eV
  have hn:=g.rng _ (AE o 0 l);have q:Cj (Di f) o (o.getD i 0)=((f.getD (o.getD i 0).toNat (0,[])).1,(Ab (f.getD (o.getD i 0).toNat (0,[])).2).map (HC o)):=by unfold Cj;rw[Qm]
  obtain⟨t,m⟩:=yJ hs (o.getD i 0);refine cP 6 a ?_ ?_
  .exact hn
  have E:List.length f<=100000:=z;generalize B:o.getD i 0=n at *;generalize A:f.getD n.toNat (0,[])=x at *;obtain⟨H,d⟩:=x;simp only at t m q;refine rM a (ZT d) [] [] ?_ ?_ ?_
  .exact eN
  .exact eN
  rintro _ _ ⟨rfl,rfl⟩;refine⟨[(50,.nm 1)],.clo 216 [50],[(50,.box 91 false [.p Cm d])],rfl,rfl,?_,?_,rfl,rfl,?_⟩
  .exact eN
  .exact eN
  refine rM a (OH d m t) [(1,.nm 50)] [50] ?_ ?_ ?_
  .exact eN
  .exact eN
  rintro _ _ ⟨rfl,rfl⟩;have v:=Ci d;rw[<-v];generalize D:Ab d=L at *;refine⟨[(51,.nm 7)],.sr 51 AU 0 L.length,[(51,.arr 106 AU L)],rfl,rfl,?_,?_,rfl,rfl,?_⟩
  .exact eN
  .exact eN
  refine IE [2,4,5,8,9,10,11,22,23,24] a (by simp only[go_sem,Nat.reduceEqDiff,reduceCtorEq,Nat.reduceAdd,Nat.reduceSub,Nat.reduceMul,Nat.reduceLeDiff,Nat.reduceLT,Int.reduceLE,Int.reduceToNat,Int.reduceNeg,↓reduceIte];rfl) ?_ ?_
  .trivial
  repeat'(first|exact trivial|apply eS rfl|apply AB|refine rX a ?_ ?_|refine rC ?_ ?_<;>intro c<;>try(cases c;done))
  refine AK (ι:={k:Nat//k<=L.length}) (λk=>⟨[(2,.bp 2 [] 0),(4,.bp 4 [] 0),(5,.bp 5 [] 0),(8,.bp 8 [] 0),(9,.p (.int .i64) (i:Int)),(10,.p T3 n),(11,.sr 51 AU 0 L.length),(22,.sr 101 T3 0 o.length),(23,.p (.int .i64) (o.length:Int)),(24,.p (.int .i64) (i:Int)),(38,.p (.int .i64) (L.length:Int)),(39,.p (.int .i64) (k.1:Int))],[(51,.arr 106 AU ((L.take k.1).map (HC o)++L.drop k.1)),(8,.box 25 true [.sr 20 Hd 0 o.length]),(20,.arr 93 Hd ((o.take i).map (Cj (Di f) o)++List.replicate (o.length-i) (0,[]))),(5,.box 177 false [.mp 13]),(2,.box 25 true [.p G2 f]),(101,.arr 3 T3 o),(13,.mapo T3 T3 (lG o)),(4,.box 25 true [.raw (.slice none 0 0)])]⟩) (λk=>L.length-k.1) ⟨0,by omega⟩ (eW [(51,.nm 51),(8,.nm 8),(20,.nm 20),(5,.nm 5),(2,.nm 2),(101,.nm 101),(13,.nm 13),(4,.nm 4)]) (λk=>?_)
  obtain⟨k,hk⟩:=k;repeat'(first|exact trivial|apply eS rfl|apply AB|refine rX a ?_ ?_|refine rC ?_ ?_<;>intro c<;>try(cases c;done))
  .exact eV
  .exact eV
  .have h:k<L.length:=by exact eV
   have e:=W8 (HC o) (λb=>b) L (0,0) h (HC o);refine⟨⟨k+1,by omega⟩,by simp only;omega,AC [(51,.nm 51),(8,.nm 8),(20,.nm 20),(5,.nm 5),(2,.nm 2),(101,.nm 101),(13,.nm 13),(4,.nm 4)] rfl rfl ?_ ?_⟩
   .refine eM ?_;rw[e.2];rw[<-e.1];unfold HC;rw[<-yE]
   exact eN
  .exact⟨hn,by exact eV⟩
  .exact eV
  have h:L.take k=L:=At (by exact eV);have y:L.drop k=[]:=RC (by exact eV);refine⟨⟨i+1,by omega⟩,by simp only;omega,AC [(8,.nm 8),(20,.nm 20),(5,.nm 5),(2,.nm 2),(101,.nm 101),(13,.nm 13),(4,.nm 4)] rfl rfl ?_ ?_⟩
  .refine eM ?_;rw[h,y,Ra];have e:=A10 (Cj (Di f) o) o 0 (0,[]) l;rw[B,q]at e;rw[<-e,A,At (by simp:(L.map (HC o)).length<=L.length)]
  exact eN
 have hk:o.take i=o:=At (by exact eV);have C:o.length-i=0:=by exact eV
 rw[hk,C];exact fI a [.cell 4 25] (by simp only[List.replicate_zero,Ra];first|exact eR|refine Yw ?_;exact At (by rw[OR];exact eV))
theorem cI:Af Tryz.prog 149 Cb:=by
 refine⟨SX.1,λw O h ds d g hp=>?_⟩;obtain⟨f,n,u⟩:=ds;obtain⟨h1,a,b,c⟩:=hp;have key:=SX.2 w O h (f,n,u) d g ⟨h1,A9H a,b,c⟩;have e:Qo.out (f,n,u)=Cb.out (f,n,u):=by
  show [RV.p DE (AL (Di f) n)]=[RV.p DE (AL f n)];rw[A0X a]
 rw[e]at key;exact key
theorem A9I:Af Tryz.prog 128 Cb:=by
 refine fK [0,1,2,4] Tryz.func128 Tryz.ntmps128 (AF cI AH) ?_;rintro w0 O0 ⟨f,root,u⟩ a-hp;simp only[Cb,AM];repeat'(first|exact trivial|apply eS rfl|apply AB|refine rX a ?_ ?_|refine rC ?_ ?_<;>intro b<;>try(cases b;done))
 .exact hp
 exact fI a [.cell 4 25]
end
section
attribute [local go_sem] Cb
def A3S (a:Int->Int×Int->Bool) (f:List AD) (i:Nat):AD:=((f.getD i (0,[])).1,(f.getD i (0,[])).2.filter (a (i:Int)))
def GS (a:Int->Int×Int->Bool) (f:List AD) (i:Nat):List AD:=(List.range i).map (A3S a f)
def XD (a:Int->Int×Int->Bool) (f:List AD):List AD:=AL (GS a f f.length) 0
theorem KG (a:Int->Int×Int->Bool) (f:List AD) (i:Nat):(GS a f i).length=i:=by simp[GS]
theorem Mb (l:List (Int×Int)):iR l↔l.Pairwise (λa b=>a.1<b.1):=by
 constructor
 .intro h;rw[RR];have key:∀d i,i+d+1<l.length->(l.getD i (0,0)).1<(l.getD (i+d+1) (0,0)).1:=by
   intro d;induction d with
   | zero=>intro i hi;exact h i hi
   | succ d e =>
    intro i hi;have h1:=e i (by omega);have f:=h (i+d+1) (by omega);have:i+(d+1)+1=i+d+1+1:=by omega
    rw[this];omega
  intro i j hi c g;have h1:=key (j-i-1) i (by omega);rw[show i+(j-i-1)+1=j by omega]at h1;simpa[AS,hi,c] using h1
 intro h i hi;rw[RR]at h;have:=h i (i+1) (by omega) hi (by omega);simpa[AS,hi,show i<l.length by omega] using this
theorem i9 {l:List (Int×Int)} (h:iR l) (p:Int×Int->Bool):iR (l.filter p):=by
 rw[Mb]at h ⊢;exact h.sublist List.filter_sublist
theorem ZU {f:List AD} (hf:AN f) (hs:Io f) (c:Int->Int×Int->Bool):AN (GS c f f.length)/\Io (GS c f f.length):=by
 have d:∀i,i<f.length->f.getD i (0,[])∈f:=λi hi=>AE f (0,[]) hi;refine⟨⟨by rw[KG];exact hf.1,λx hx=>?_⟩,λx hx=>?_⟩
 .obtain⟨i,hi,rfl⟩:=GO.1 hx;have hi:i<f.length:=RY.1 hi;obtain⟨h1,b⟩:=hf.2 _ (d i hi);rw[KG];exact⟨RG (AAw _ _) h1,λa ha=>b a (ADR.1 ha).1⟩
 obtain⟨i,hi,rfl⟩:=GO.1 hx;have hi:i<f.length:=RY.1 hi;obtain⟨h1,b⟩:=hs _ (d i hi);exact⟨i9 h1 _,RG (AAw _ _) b⟩
def Fd (l:List Int):List (Int×Bool):=l.foldl (λm x=>Fl T3 .bool x true m) []
theorem oV {a:Ty} (x k:Int) (v:a.den) (m:List (Int×a.den)):BT T3 a x (Fl T3 a k v m)=if x=k then some v else BT T3 a x m:=by
 induction m with
 | nil=>simp[Fl,BT,Ik]
 | cons y m f =>
  simp only[Fl];by_cases b:Ik T3 k y.1=true
  .rw[BY b];have c:k=y.1:=by simpa[Ik] using b
   simp only[BT,Ik,S1];by_cases hx:x=k
   .rw[BY hx,BY hx]
   rw[As hx,As hx,As (by rw[<-c];exact hx)]
  rw[As b];have c:¬k=y.1:=by simpa[Ik] using b
  simp only[BT];by_cases hx:Ik T3 x y.1=true
  .have d:x=y.1:=by simpa[Ik] using hx
   rw[BY hx,BY hx,As (by rw[d];exact λe=>c e.symm)]
  rw[As hx,As hx,f]
theorem yK (l:List Int) (x:Int):(BT T3 .bool x (Fd l)).getD false=inF l x:=by
 induction l using EO with
 | h0=>rfl
 | h1 l a b =>
  have e:Fd (l++[a])=Fl T3 .bool a true (Fd l):=by simp[Fd]
  rw[e,oV];by_cases hx:x=a
  .rw[BY hx];subst hx;simp[inF]
  rw[As hx,b];simp only[inF,AEM,List.any_cons,List.any_nil,Bool.or_false];have:(a==x)=false:=by simpa using λe=>hx e.symm
  rw[this,Bool.or_false]
end
theorem KH {x y:Int} {xs ys:List Int} (h:LE (x :: xs) (y :: ys)=0):x=y/\LE xs ys=0:=by
 simp only[LE]at h;split at h
 .cases h
 split at h
 .cases h
 exact⟨by omega,h⟩
theorem XE:∀ {l m:List (Int×Int)} {r s:List Int},l.length=m.length->LE (l.flatMap (λa=>[a.1,a.2])++r) (m.flatMap (λa=>[a.1,a.2])++s)=0->l=m/\LE r s=0
 | [],[],_,_,_,h=>⟨rfl,by simpa using h⟩
 | [],_ :: _,_,_,hl,_=>by simp at hl
 | _ :: _,[],_,_,hl,_=>by simp at hl
 | (b,c) :: l,(b1,b2) :: m,r,s,hl,h=>by
  have h:LE (b :: c :: (l.flatMap (λa=>[a.1,a.2])++r)) (b1 :: b2 :: (m.flatMap (λa=>[a.1,a.2])++s))=0:=by simpa using h
  obtain⟨e1,e⟩:=KH h;obtain⟨e2,f⟩:=KH e;obtain⟨d,g⟩:=XE (l:=l) (m:=m) (by simpa using hl) f;exact⟨by rw[e1,e2,d],g⟩
theorem XF:∀ {l m:List AD} {r s:List Int},l.length=m.length->LE (l.flatMap Wu++r) (m.flatMap Wu++s)=0->l=m/\LE r s=0
 | [],[],_,_,_,h=>⟨rfl,by simpa using h⟩
 | [],_ :: _,_,_,hl,_=>by simp at hl
 | _ :: _,[],_,_,hl,_=>by simp at hl
 | (c,b) :: l,(b1,b2) :: m,r,s,hl,h=>by
  have h:LE (c :: (b.length:Int) :: (b.flatMap (λa=>[a.1,a.2])++(l.flatMap Wu++r))) (b1 :: (b2.length:Int) :: (b2.flatMap (λa=>[a.1,a.2])++(m.flatMap Wu++s)))=0:=by simpa[Wu] using h
  obtain⟨e1,f⟩:=KH h;obtain⟨e2,g⟩:=KH f;obtain⟨d,i⟩:=XE (l:=b) (m:=b2) (by omega) g;obtain⟨e,j⟩:=XF (l:=l) (m:=m) (by simpa using hl) i;exact⟨by rw[e1,d,e],j⟩
theorem Mc {a b:List AD} (h:CQ a b=0):a=b:=by
 unfold CQ Bt at h;obtain⟨h1,c⟩:=KH h;have:=XF (l:=a) (m:=b) (r:=[]) (s:=[]) (by omega) (by simpa using c);exact this.1
theorem ZV:∀l:List Int,LE l l=0
 | []=>rfl
 | x :: l=>by simp[LE,ZV l]
theorem Jj (a:List AD):CQ a a=0:=ZV _
theorem XG (x:Int×Int) (s:List (Int×Int)):∀n,(∀j,IX x s n<=j->j<n->x.1<(s.getD j (0,0)).1)/\(0<IX x s n->(s.getD (IX x s n-1) (0,0)).1<=x.1)
 | 0=>⟨λj h1 b=>by omega,λh=>by simp[IX]at h⟩
 | n+1=>by
  obtain⟨h1,b⟩:=XG x s n;unfold IX;split
  .rename_i c;refine⟨λj a d=>?_,b⟩;by_cases e:j=n
   .subst e;exact c
   exact h1 j a (by omega)
  rename_i c;exact⟨λj a d=>by omega,λ_=>by simp only[Nat.add_sub_cancel];omega⟩
theorem A9J {l:List (Int×Int)} (h:l.Pairwise (λa b=>a.1<=b.1)) {i j:Nat} (d:i<=j) (c:j<l.length):(l.getD i (0,0)).1<=(l.getD j (0,0)).1:=by
 rcases Nat.eq_or_lt_of_le d with rfl|e
 .exact ADC _
 rw[RR]at h;have:=h i j (by omega) c e;simpa[AS,c,show i<l.length by omega] using this
theorem jA {s:List (Int×Int)} (h:s.Pairwise (λa b=>a.1<=b.1)) (x:Int×Int):(PQ s x).Pairwise (λa b=>a.1<=b.1):=by
 obtain⟨h1,g⟩:=XG x s s.length;have hp:=Uo x s s.length;unfold PQ;generalize IX x s s.length=p at *;rw[ADB,ADB];have f:∀a∈s.take p,a.1<=x.1:=λa ha=>by
  obtain⟨i,hi,rfl⟩:=ADu.1 ha;rw[OS]at hi;have k:=A9J h (i:=i) (j:=p-1) (by omega) (by omega);have l:=g (by omega);have e:(s.take p)[i].1=(s.getD i (0,0)).1:=by simp[AS,show i<s.length by omega]
  rw[e];omega
 have d:∀b∈s.drop p,x.1<=b.1:=λb c=>by
  obtain⟨i,hi,rfl⟩:=ADu.1 c;rw[S0]at hi;have k:=h1 (p+i) (by omega) (by omega);have e:(s.drop p)[i].1=(s.getD (p+i) (0,0)).1:=by simp[AS,show p+i<s.length by omega]
  rw[e];omega
 refine⟨⟨h.sublist (List.take_sublist _ _),by simp,λa ha b c=>?_⟩,h.sublist (List.drop_sublist _ _),λa ha b c=>?_⟩
 .have:b=x:=by simpa using c
  rw[this];exact f a ha
 rcases Is.1 ha with ha|ha
 .exact ADL (f a ha) (d b c)
 have:a=x:=by simpa using ha
 rw[this];exact d b c
theorem UV (l:List (Int×Int)):(Ab l).Pairwise (λa b=>a.1<=b.1):=by
 induction l using EO with
 | h0=>exact List.Pairwise.nil
 | h1 l a c=>rw[He];exact jA c a
theorem Tt {n:Int}:∀ {l seen:List (Int×Int)},F6 n seen l=0->(l.map (·.1)).Nodup/\∀a∈l,∀b∈seen,b.1≠a.1
 | [],_,_=>⟨by simp,λa ha=>by cases ha⟩
 | x :: l,seen,h=>by
  simp only[F6]at h;split at h
  .cases h
  split at h
  .cases h
  rename_i h1 d;obtain⟨g,f⟩:=Tt h;have d:∀b∈seen,b.1≠x.1:=λb c e=>d (RT.2 ⟨b,c,by simp[e]⟩);refine⟨?_,λa ha b c=>?_⟩
  .rw[RS,TO];refine⟨λi=>?_,g⟩;obtain⟨a,ha,e⟩:=GO.1 i;exact f a ha x (by simp) e.symm
  rcases DO.1 ha with rfl|ha
  .exact d b c
  exact f a ha b (by simp[c])
theorem XH {m:Int}:∀ {f:List AD},GQ m f=0->∀x∈f,GP x.2 m=0
 | [],_,x,hx=>by cases hx
 | y :: f,h,x,hx=>by
  simp only[GQ]at h;split at h
  .cases h
  split at h
  .rename_i h1 a;exact absurd h a
  rename_i h1 a;rcases DO.1 hx with rfl|hx
  .exact FT a
  exact XH h x hx
theorem A11 {l:List (Int×Int)} (h:l.Pairwise (λa b=>a.1<=b.1)) (hn:(l.map (·.1)).Nodup):l.Pairwise (λa b=>a.1<b.1):=by
 rw[List.Nodup,AAe]at hn;refine(h.and hn).imp λ{a b} c=>?_;have h1:=c.1;have d:¬a.1=b.1:=c.2;omega
theorem Md {f:List AD} (h:D8 f=true):AN f/\Io f/\0<f.length/\HO f=true:=by
 unfold D8 at h;simp only[An,S1]at h;obtain⟨⟨hl,_⟩,b,c⟩:=h;obtain⟨r,d⟩:=MZ hl;have p:SS f:=λx hx=>RG (d x hx) (by omega);have a:CE f=0:=by
  unfold A0 at b;split at b
  .assumption
  exact b
 obtain⟨l,h0⟩:=IY a p;have i:(A0 f).1=JK f 0:=by unfold A0;rw[BY a]
 rw[i]at c;have j:=Mc c;refine⟨l,λx hx=>⟨?_,RG (d x hx) (by omega)⟩,h0,hl⟩;rw[<-j]at hx;obtain⟨n,_,rfl⟩:=GO.1 hx;rw[Mb];have g:((f.getD n.toNat (0,[])).2.map (·.1)).Nodup:=by
  by_cases m:n.toNat<f.length
  .have o:f.getD n.toNat (0,[])∈f:=AE f (0,[]) m;have k:GQ f.length f=0:=by
    unfold CE at a;split at a
    .cases a
    split at a
    .cases a
    exact a
   exact(Tt (XH k _ o)).1
  rw[AS,RP (by omega)];simp
 have q:=A11 (UV (f.getD n.toNat (0,[])).2) (((Ex _).map (·.1)).nodup_iff.2 g);unfold MY;simp only;rw[AAe];exact q.imp λe=>e
section
open Go
end
theorem getD_set_ne {α:Type} (l:List α) (d v:α) {i j:Nat} (h:i≠j):(l.set i v).getD j d=l.getD j d:=by
 simp only[AS];rw[List.getElem?_set_ne h]
theorem YP {α:Type} (l:List α) (d v:α) {i:Nat} (h:i<l.length):(l.set i v).getD i d=v:=by
 simp only[AS];rw[List.getElem?_set_self h];rfl
section
open Go
end
section
attribute [local go_sem] Cb
end
section
attribute [local go_sem] Cb
def lI (l:List (Int×Int)) (x:Int):Int:=l.foldl (λt a=>if a.1=x then a.2 else t) (-1)
end
section
attribute [local go_sem] IV ZQ
end
abbrev AP (f:List AD) (n:Int):List (Int×Int):=(f.getD n.toNat (0,[])).2
def B2 (f:List AD):Int->List Int->Option Int
 | n,[]=>some n
 | n,x :: r=>if lI (AP f n) x<0 then none else B2 f (lI (AP f n) x) r
theorem PT (f:List AD):∀(p:List Int) (n m x:Int),B2 f n p=some m->B2 f n (p++[x])=if lI (AP f m) x<0 then none else some (lI (AP f m) x)
 | [],n,m,x,h=>by
  simp only[B2,ADj]at h;subst h;rfl
 | y :: p,n,m,x,h=>by
  simp only[B2,AE6]at h ⊢;split at h
  .cases h
  rename_i a;rw[As a];exact PT f p _ m x h
theorem yL {l:List (Int×Int)} (h:l.Pairwise (λa b=>a.1<b.1)) {a:Int×Int} (ha:a∈l):lI l a.1=a.2:=by
 have j:∀(l:List (Int×Int)) (t:Int),(∀b∈l,¬b.1=a.1)->l.foldl (λt b=>if b.1=a.1 then b.2 else t) t=t:=by
  intro l;induction l with
  | nil=>intro t _;rfl
  | cons b l i =>
   intro t hl;rw[RE,As (hl b (by simp))];exact i t (λc g=>hl c (by simp[g]))
 obtain⟨m,k,rfl⟩:=List.append_of_mem ha;rw[ADB,Rb]at h;obtain⟨-,⟨d,-⟩,-⟩:=h;unfold lI;rw[AEl,RE,BY rfl];exact j k _ (λb f e=>by have:=d b f;omega)
theorem OI {f:List AD} (h:D8 f=true):AL f 0=f:=by
 obtain⟨d,hs,h0,_⟩:=Md h;unfold D8 at h;simp only[An,S1]at h;obtain⟨_,a,b⟩:=h;have c:(A0 f).1=JK f 0:=by
  unfold A0 at a ⊢;split at a
  .rename_i hh;rw[BY hh]
  rename_i hh;exact absurd a hh
 rw[c]at b;rw[<-Ia d hs (by omega) (by omega)];exact Mc b
theorem oW {b:Int->Int×Int->Bool} {f:List AD} (h:∀i,i<f.length->∀a∈(f.getD i (0,[])).2,b (i:Int) a=true):GS b f f.length=f:=by
 apply iS
 .exact KG _ _ _
 intro i h1 c;have e:f.getD i (0,[])=f[i]:=by simp[AS,c]
 have:=h i c;simp only[GS,AEq,AEt,A3S];rw[List.filter_eq_self.2 this,e]
theorem oX {b:Int->Int×Int->Bool} {f:List AD} (c:D8 f=true) (h:∀i,i<f.length->∀a∈(f.getD i (0,[])).2,b (i:Int) a=true):XD b f=f:=by
 unfold XD;rw[oW h];exact OI c
theorem jB {f:List AD} (hf:AN f):∀(k:Nat) (o:List Int) (n:Int),Ji f o->0<=n->n<f.length->n∉o->f.length-o.length<=k->Ca f (k+1) o n=Ca f k o n
 | 0,o,n,h,h0,h1,c,hk=>by
  have:=(h.snoc h0 h1 c).len;grind
 | k+1,o,n,h,h0,h1,c,hk=>by
  rw[Bu,Bu];have key:∀(l:List (Int×Int)) (t:List Int),(∀a∈l,0<=a.2/\a.2<(f.length:Int))->Ji f t->f.length-t.length<=k->l.foldl (AX f (k+1)) t=l.foldl (AX f k) t:=by
   intro l;induction l with
   | nil=>intros;rfl
   | cons a l m =>
    intro t hl j i;have e:=hl a (by simp);have hs:AX f (k+1) t a=AX f k t a:=by
     unfold AX;split
     .rfl
     rename_i hn;exact jB hf k t a.2 j e.1 e.2 hn i
    have d:Ji f (AX f k t a)/\t <+: AX f k t a:=by grind [AX,DW]
    rw[RE,RE,hs];have:=d.2.length_le;exact m _ (λb g=>hl b (by simp[g])) d.1 (by omega)
  exact key _ _ (λa ha=>Ay hf ha) (h.snoc h0 h1 c) (by simp only[By,IS];omega)
theorem F8 (f:List AD):Ji f []:=⟨by simp,λx hx=>by cases hx⟩
theorem Me {f:List AD} (hf:AN f) {n:Int} (h0:0<=n) (h1:n<f.length):∀m,Ca f (f.length+m) [] n=Ca f f.length [] n
 | 0=>rfl
 | m+1=>by
  rw[<-AFv,jB hf _ [] n (F8 f) h0 h1 (by simp) (by simp only[AAg];omega)];exact Me hf h0 h1 m
structure Iso (Q R:List AD) (ψ:Int->Int) (C:Int->Prop):Prop where
 arc:∀i,C i->AP R (ψ i)=(AP Q i).map λa=>(a.1,ψ a.2)
 cl:∀i,C i->∀a∈AP Q i,C a.2
 inj:∀i j,C i->C j->ψ i=ψ j->i=j
theorem Ur {Q R:List AD} {ψ:Int->Int} {C:Int->Prop} (h:Iso Q R ψ C):∀(k:Nat) (t:List Int) (i:Int),(∀x∈t,C x)->C i->Ca R k (t.map ψ) (ψ i)=(Ca Q k t i).map ψ/\∀x∈Ca Q k t i,C x
 | 0,t,i,c,hi=>⟨rfl,c⟩
 | k+1,t,i,c,hi=>by
  have key:∀(l:List (Int×Int)) (t:List Int),(∀a∈l,C a.2)->(∀x∈t,C x) ->
    (l.map λa=>(a.1,ψ a.2)).foldl (AX R k) (t.map ψ)=(l.foldl (AX Q k) t).map ψ/\∀x∈l.foldl (AX Q k) t,C x:=by
   intro l;induction l with
   | nil=>intro t _ c;exact⟨rfl,c⟩
   | cons a l m =>
    intro t hl c;have ha:=hl a (by simp);have hs:AX R k (t.map ψ) (a.1,ψ a.2)=(AX Q k t a).map ψ/\∀x∈AX Q k t a,C x:=by
     unfold AX;by_cases d:a.2∈t
     .grind
     have j:¬ψ a.2∈t.map ψ:=by
      intro hh;obtain⟨x,hx,e⟩:=GO.1 hh;exact d (h.inj x a.2 (c x hx) ha e▸hx)
     rw[As d];simp only[As j];exact Ur h k t a.2 c ha
    rw[RS,RE,RE,hs.1];exact m _ (λb g=>hl b (by simp[g])) hs.2
  rw[Bu,Bu];have e:t.map ψ++[ψ i]=(t++[i]).map ψ:=by simp
  have f:(R.getD (ψ i).toNat (0,[])).2=(AP Q i).map λa=>(a.1,ψ a.2):=h.arc i hi;rw[f,e];refine key _ _ (h.cl i hi) λx hx=>?_;grind
theorem A3T {o:List Int} {ψ:Int->Int} {x:Int} (h:∀y∈o,ψ y=ψ x->y=x):Bv (o.map ψ) (ψ x)=Bv o x:=by
 have hi:(o.map ψ).idxOf (ψ x)=o.idxOf x:=by
  induction o with
  | nil=>rfl
  | cons y o b =>
   rw[RS,List.idxOf_cons,List.idxOf_cons];have a:=h y (by simp);by_cases e:y=x
   .subst e;simp
   grind
 grind [Bv]
theorem YQ {Q R:List AD} {ψ:Int->Int} {C:Int->Prop} (h:Iso Q R ψ C) (g:AN Q) (f:C 0) (h0:ψ 0=0) (l:0<Q.length) (m:Q.length<=R.length)
  (hty:∀i,C i->(R.getD (ψ i).toNat (0,[])).1=(Q.getD i.toNat (0,[])).1):AL R 0=AL Q 0:=by
 have c:Ca R R.length [] 0=(Ca Q Q.length [] 0).map ψ/\∀x∈Ca Q Q.length [] 0,C x:=by
  have h1:=Ur h R.length [] 0 (λx hx=>by cases hx) f;rw[h0]at h1;have k:=Me g (n:=0) (by omega) (by omega) (R.length-Q.length)
  simp_all
 unfold AL;rw[c.1];generalize Ca Q Q.length [] 0=o at *;rw[nO];refine RI λi hi=>?_;have b:=c.2 i hi;show Cj R (o.map ψ) (ψ i)=Cj Q o i;unfold Cj;have d:(R.getD (ψ i).toNat (0,[])).2=(AP Q i).map λa=>(a.1,ψ a.2):=h.arc i b;rw[hty i b,d,nO];refine AAc _ (RI λa ha=>?_);show (a.1,Bv (o.map ψ) (ψ a.2))=(a.1,Bv o a.2);rw[A3T λy j e=>h.inj y a.2 (c.2 y j) (h.cl i b a ha) e]
structure Ord (f:List AD) (o:List Int):Prop where
 ok:Ji f o
 zero:o.getD 0 0=0/\0<o.length
 cl:∀n∈o,∀a∈AP f n,a.2∈o
theorem A3U {f:List AD} (hf:AN f) (h0:0<f.length):[0] <+: Ca f f.length [] 0:=by
 obtain⟨k,hk⟩:∃k,f.length=k+1:=⟨f.length-1,by omega⟩;rw[hk,Bu];exact(EH (DW hf k) _ _ (λa ha=>Ay hf ha) ((F8 f).snoc (by omega) (by omega) (by simp))).2
theorem A3V {f:List AD} (hf:AN f) (h0:0<f.length):Ord f (Ca f f.length [] 0):=by
 have h1:=DW hf f.length [] 0 (F8 f) (by omega) (by omega) (by simp);have d:=IZ hf f.length [] 0 (F8 f) (by omega) (by omega) (by simp) (by simp);have b:=A3U hf h0;refine⟨h1.1,?_,λn hn a ha=>?_⟩
 .obtain⟨t,c⟩:=b;rw[<-c];exact⟨rfl,by simp⟩
 grind
theorem F9 {o:List Int} (hn:o.Nodup) {i:Nat} (hi:i<o.length):Bv o (o.getD i 0)=(i:Int):=by grind [Bv]
theorem DN {o:List Int} {x:Int} (h:x∈o):0<=Bv o x/\Bv o x<(o.length:Int)/\o.getD (Bv o x).toNat 0=x:=by
 unfold Bv;rw[BY h];have hl:=List.idxOf_lt_length_of_mem h
 simp_all
theorem A12 (f:List AD):(AL f 0).length=(Ca f f.length [] 0).length:=by simp[AL]
theorem A13 {f:List AD} {i:Nat} (hi:i<(Ca f f.length [] 0).length):(AL f 0).getD i (0,[])=Cj f (Ca f f.length [] 0) ((Ca f f.length [] 0).getD i 0):=by grind [AL]
theorem jC (a:Int->Int×Int->Bool) {f:List AD} {n:Int} (h0:0<=n) (h1:n<f.length):(GS a f f.length).getD n.toNat (0,[])=((f.getD n.toNat (0,[])).1,(AP f n).filter (a n)):=by grind [GS,A3S]
theorem A7O (l:List (Int×Int)) (x:Int):lI l x=-1\/∃a∈l,a.1=x/\a.2=lI l x:=by
 have key:∀(l:List (Int×Int)) (t:Int),l.foldl (λt a=>if a.1=x then a.2 else t) t=t\/∃a∈l,a.1=x/\a.2=l.foldl (λt a=>if a.1=x then a.2 else t) t:=by
  intro l;induction l with
  | nil=>intro t;exact .inl rfl
  | cons b l c =>
   intro t;rw[RE];by_cases h:b.1=x
   .rw[BY h];rcases c b.2 with e|⟨a,ha,e⟩
    .exact .inr ⟨b,by simp,h,e.symm⟩
    exact .inr ⟨a,by simp[ha],e⟩
   rw[As h];rcases c t with e|⟨a,ha,e⟩
   .exact .inl e
   exact .inr ⟨a,by simp[ha],e⟩
 exact key l (-1)
theorem A3W {l:List (Int×Int)} {x:Int} (h:0<=lI l x):∃a∈l,a.1=x/\a.2=lI l x:=by
 rcases A7O l x with e|h1
 .omega
 exact h1
theorem A3X {f:List AD} (hs:Io f) (n:Int):(AP f n).Pairwise (λa b=>a.1<b.1):=(Mb _).1 (oL hs n).1
theorem A14 {f:List AD} (hf:AN f) (hs:Io f) (h0:0<f.length) (a:Int->Int×Int->Bool) {n:Int} (hn:n∈Ca (GS a f f.length) f.length [] 0) :
  AP (XD a f) (Bv (Ca (GS a f f.length) f.length [] 0) n)=((AP f n).filter (a n)).map (HC (Ca (GS a f f.length) f.length [] 0)):=by
 obtain⟨h,l⟩:=ZU hf hs a;have c:=KG a f f.length;have e:=A3V h (by omega);have d:=λi=>A13 (f:=GS a f f.length) (i:=i);rw[c]at e d;obtain⟨j,k,g⟩:=DN hn;have b:=e.ok.rng n hn;rw[c]at b;show ((XD a f).getD _ (0,[])).2=_;have:XD a f=AL (GS a f f.length) 0:=rfl;rw[this,d _ (by omega),g];unfold Cj;rw[jC a b.1 b.2]
theorem SY {f:List AD}:∀(p:List Int) (n:Int) (z:List Int),B2 f n p=none->B2 f n (p++z)=none
 | [],_,_,h=>by cases h
 | x :: p,n,z,h=>by
  simp only[B2,AE6]at h ⊢;split
  .rfl
  rename_i a;rw[As a]at h;exact SY p _ z h
theorem ZW {f:List AD} {p:List Int} {e y:Int} (h:B2 f 0 (p++[e])=some y):∃x,B2 f 0 p=some x/\∃a∈AP f x,a.1=e/\a.2=y:=by
 cases hh:B2 f 0 p with
 | none=>rw[SY p 0 [e] hh]at h;cases h
 | some x =>
  have b:=PT f p 0 x e hh;rw[h]at b;split at b
  .cases b
  rename_i c;obtain⟨a,ha,e1,e2⟩:=A3W (l:=AP f x) (x:=e) (by omega);exact⟨x,rfl,a,ha,e1,by rw[e2];exact(Option.some.inj b).symm⟩
section
attribute [local go_sem] Wp
def Bw (l:List (Int×Int)) (e:Int):Int:=match l with
 | []=>-1
 | a :: l=>if a.1=e then a.2 else Bw l e
theorem A15 (e:Int) (l:List (Int×Int)) {k:Nat} (h:k<l.length):Bw (l.drop k) e=if (l.getD k (0,0)).1=e then (l.getD k (0,0)).2 else Bw (l.drop (k+1)) e:=by
 rw[Of h];have e:l.getD k (0,0)=l[k]:=by simp[AS,h]
 rw[e];rfl
end
section
attribute [local go_sem] Wp
structure A3Y (a b:List AD) (m:List Int):Prop where
 len:m.length=a.length
 rng:∀x∈m,x<(b.length:Int)
theorem Us {n:Int} (hn:0<=n):∀ {l:List (Int×Int)} (e:Int),(∀x∈l,x.2<n)->Bw l e<n
 | [],_,_=>by simp only[Bw];omega
 | x :: l,e,h=>by
  simp only[Bw];split
  .exact h x (by simp)
  exact Us hn e (λy a=>h y (by simp[a]))
theorem A3Y.set {a b:List AD} {m:List Int} (h:A3Y a b m) (k:Nat) {v:Int} (c:v<(b.length:Int)):A3Y a b (m.set k v):=by
 refine⟨by simp[h.len],λx hx=>?_⟩;rcases AEc hx with hx|hx
 .exact h.rng x hx
 rw[hx];exact c
theorem A3Y.get {a b:List AD} {m:List Int} (h:A3Y a b m) (c:0<b.length) (k:Nat):m.getD k 0<(b.length:Int):=by
 rw[AS];cases hh:m[k]? with
 | none=>show (0:Int)<_;omega
 | some x=>exact h.rng x (oF hh)
def Cc (h:AG) (f:List AD):Prop:=∀x∈f,0<=x.1/\x.1<(h.1.length:Int)
theorem KI {f:List AD} (hf:AN f) (k:Nat):∀x∈(f.getD k (0,[])).2,0<=x.2/\x.2<(f.length:Int):=by
 intro x hx;by_cases h:k<f.length
 .exact(hf.2 _ (AE f (0,[]) h)).2 x hx
 rw[AS,RP (by omega)]at hx;cases hx
end
structure HH (h:AG) (a b:List AD) (m:Int->Int):Prop where
 zero:m 0=0
 rng:∀i,0<=i->i<(a.length:Int)->0<=m i/\m i<(b.length:Int)
 ty:∀i,0<=i->i<(a.length:Int)->Av h (a.getD i.toNat (0,[])).1 (b.getD (m i).toNat (0,[])).1=true
 arc:∀i,0<=i->i<(a.length:Int)->∀x∈AP a i,Bw (AP b (m i)) x.1=m x.2
theorem EI {l:List (Int×Int)} (h:l.Pairwise (λa b=>a.1<b.1)) {a:Int×Int} (ha:a∈l):Bw l a.1=a.2:=by
 induction l with
 | nil=>cases ha
 | cons b l d =>
  obtain⟨h1,c⟩:=Rb.1 h;simp only[Bw];rcases DO.1 ha with rfl|ha
  .rw[BY rfl]
  grind
theorem Ic {l:List (Int×Int)} {e:Int} (h:0<=Bw l e):∃a∈l,a.1=e/\a.2=Bw l e:=by
 induction l with
 | nil=>simp only[Bw]at h;omega
 | cons b l c =>
  simp only[Bw]at h ⊢;split
  .grind
  grind
theorem A9K {f:List AD} (hs:Io f) {n:Int} {a:Int×Int} (ha:a∈AP f n):Bw (AP f n) a.1=a.2:=EI (A3X hs n) ha
def RO (f:List AD):Prop:=∀i:Int,0<i->i<(f.length:Int)->∃j,0<=j/\j<i/\∃x∈AP f j,x.2=i
theorem A7P {M:List Int} {k j:Nat} {v:Int} (hk:k<M.length):(M.set k v).getD j 0=if k=j then v else M.getD j 0:=by grind
theorem Qp {f:List AD} (hf:AN f):∀(k:Nat) (t:List Int) (n:Int),Ji f t->0<=n->n<f.length->n∉t ->
  ∀q,t.length<q->q<(Ca f k t n).length->∃j,j<q/\∃a∈AP f ((Ca f k t n).getD j 0),a.2=(Ca f k t n).getD q 0
 | 0,t,n,h,h0,h1,x,q,z,d=>by simp only[Ca]at d;omega
 | k+1,t,n,h,h0,h1,x,q,z,d=>by
  have key:∀(l:List (Int×Int)) (u:List Int),(∀a∈l,a∈AP f n)->Ji f u->t++[n] <+: u ->
    (∀q,t.length<q->q<u.length->∃j,j<q/\∃a∈AP f (u.getD j 0),a.2=u.getD q 0) ->
    ∀q,t.length<q->q<(l.foldl (AX f k) u).length->∃j,j<q/\∃a∈AP f ((l.foldl (AX f k) u).getD j 0),a.2=(l.foldl (AX f k) u).getD q 0:=by
   intro l;induction l with
   | nil=>intro u _ _ _ hu q o c;exact hu q o c
   | cons a l F =>
    intro u hl hu s D;have ha:=hl a (by simp);have g:=Ay hf ha;rw[RE];by_cases p:a.2∈u
    .grind [AX]
    have hs:AX f k u a=Ca f k u a.2:=by unfold AX;rw[As p]
    rw[hs];obtain⟨B,w⟩:=DW hf k u a.2 hu g.1 g.2 p;have r:∀j,j<u.length->(Ca f k u a.2).getD j 0=u.getD j 0:=λj C=>by
     obtain⟨v,m⟩:=w;rw[<-m];simp only[AS];rw[RZ C]
    have E:u.getD t.length 0=n:=by
     obtain⟨v,m⟩:=s;rw[<-m];simp[AS]
    have A:t.length<u.length:=by
     have:=s.length_le;simp at this;omega
    refine F (Ca f k u a.2) (λb i=>hl b (by simp[i])) B (s.trans w) (λq o c=>?_);by_cases y:q<u.length
    .obtain⟨j,G,b,i,e⟩:=D q o y;refine⟨j,G,b,?_,?_⟩
     .rw[r j (by omega)];exact i
     rw[r q y];exact e
    by_cases d:q=u.length
    .subst d;refine⟨t.length,A,a,?_,?_⟩
     .rw[r _ A,E];exact ha
     cases k with
     | zero=>simp only[Ca]at c;omega
     | succ k =>
      have hp:u++[a.2] <+: Ca f (k+1) u a.2:=by
       rw[Bu];exact(EH (DW hf k) _ _ (λb i=>Ay hf i) (hu.snoc g.1 g.2 p)).2
      obtain⟨v,m⟩:=hp;rw[<-m];simp[AS]
    exact Qp hf k u a.2 hu g.1 g.2 p q (by omega) c
  rw[Bu]at d ⊢;exact key _ (t++[n]) (λa ha=>ha) (h.snoc h0 h1 x) (ADy _) (λq o c=>by simp only[By,IS]at c;omega) q z d
theorem A7Q {f:List AD} (hf:AN f) (hs:Io f) (h0:0<f.length) (b:Int->Int×Int->Bool):RO (XD b f):=by
 obtain⟨g,t⟩:=ZU hf hs b;have h:=KG b f f.length;have c:=A3V g (by omega);have k:=A12 (GS b f f.length);have m:=Qp g (GS b f f.length).length [] 0 (F8 _) (by omega) (by omega) (by simp);have q:=λn hn=>A14 hf hs h0 b (n:=n) hn;rw[h]at c k m;have r:(XD b f).length=(Ca (GS b f f.length) f.length [] 0).length:=k;intro i s p;rw[r]at p;generalize Ca (GS b f f.length) f.length [] 0=o at *;obtain⟨j,u,a,ha,e⟩:=m i.toNat (by simp only[AAg];omega) (by omega);have l:o.getD j 0∈o:=AE _ 0 (by omega);have d:=c.ok.rng _ l;rw[h]at d;rw[AP,jC b d.1 d.2]at ha;refine⟨(j:Int),by omega,by omega,HC o a,?_,?_⟩
 .have:=q _ l;rw[F9 c.ok.nd (by omega)]at this;rw[this];exact GO.2 ⟨a,ha,rfl⟩
 show Bv o a.2=i;rw[e,F9 c.ok.nd (by omega)];omega
theorem oY (x:List Int):MU x x=true:=by grind [MU,Hq,Th]
theorem Fe (h:AG) (t:Int):Av h t t=true:=oY _
abbrev EP (p:List Int) (n:Int):Int:=p.getD n.toNat 0
structure Fo (p:List Int) (rk:Int->Nat):Prop where
 rng:∀n,0<=n->n<(p.length:Int)->0<=EP p n/\EP p n<(p.length:Int)
 dec:∀n,0<=n->n<(p.length:Int)->EP p n≠n->rk (EP p n)<rk n
inductive Rt (p:List Int):Int->Int->Prop
 | base {n:Int} (h:EP p n=n):Rt p n n
 | step {n r:Int} (h:EP p n≠n) (h2:Rt p (EP p n) r):Rt p n r
theorem Rt.det {p:List Int} {n r s:Int} (h:Rt p n r) (g:Rt p n s):r=s:=by
 induction h with
 | base h =>
  cases g with
  | base g=>rfl
  | step g _=>exact absurd h g
 | step h _ b =>
  cases g with
  | base g=>exact absurd g h
  | step _ a=>exact b a
theorem Rt.root {p:List Int} {n r:Int} (h:Rt p n r):EP p r=r:=by
 induction h with
 | base h=>exact h
 | step _ _ a=>exact a
theorem Fo.ex {p:List Int} {b:Int->Nat} (h:Fo p b):∀(k:Nat) (n:Int),b n<=k->0<=n->n<(p.length:Int)->∃r,Rt p n r/\0<=r/\r<(p.length:Int)
 | 0,n,hk,h0,h1=>by
  by_cases e:EP p n=n
  .exact⟨n,.base e,h0,h1⟩
  have:=h.dec n h0 h1 e;omega
 | k+1,n,hk,h0,h1=>by
  by_cases e:EP p n=n
  .exact⟨n,.base e,h0,h1⟩
  have g:=h.dec n h0 h1 e;have a:=h.rng n h0 h1;obtain⟨r,c,d,f⟩:=h.ex k (EP p n) (by omega) a.1 a.2;exact⟨r,.step e c,d,f⟩
theorem Fo.root {p:List Int} {a:Int->Nat} (h:Fo p a) {n:Int} (h0:0<=n) (h1:n<(p.length:Int)):∃r,Rt p n r/\0<=r/\r<(p.length:Int):=h.ex (a n) n (If _) h0 h1
theorem DC {p:List Int} {n v:Int} (h0:0<=n) (h1:n<(p.length:Int)) (x:Int) (hx:0<=x):EP (p.set n.toNat v) x=if x=n then v else EP p x:=by
 unfold EP;rw[A7P (by omega)];by_cases e:x=n
 .subst e;rw[BY rfl,BY rfl]
 rw[As (by omega),As e]
def GA (p:List Int) (n:Int):List Int:=p.set n.toNat (EP p (EP p n))
theorem SZ (p:List Int) (n:Int):(GA p n).length=p.length:=by simp[GA]
theorem A3Z {p:List Int} {d:Int->Nat} (h:Fo p d) {n:Int} (h0:0<=n) (h1:n<(p.length:Int)) (hn:EP p n≠n):Fo (GA p n) d:=by
 have c:=h.rng n h0 h1;have f:=h.rng _ c.1 c.2;have g:=h.dec n h0 h1 hn;have i:d (EP p (EP p n))<=d (EP p n):=by
  by_cases e:EP p (EP p n)=EP p n
  .rw[e];exact If _
  exact AFe (h.dec _ c.1 c.2 e)
 refine⟨λx a b=>?_,λx a b hx=>?_⟩
 .rw[SZ]at b ⊢;unfold GA;rw[DC h0 h1 x a];split
  .exact f
  exact h.rng x a b
 rw[SZ]at b;unfold GA at hx ⊢;rw[DC h0 h1 x a]at hx ⊢;split
 .rename_i e;subst e;omega
 rename_i e;rw[As e]at hx;exact h.dec x a b hx
theorem jD {p:List Int} {l:Int->Nat} (h:Fo p l) {n:Int} (h0:0<=n) (h1:n<(p.length:Int)) (hn:EP p n≠n):∀(k:Nat) (x r:Int),l x<=k->0<=x->x<(p.length:Int)->Rt p x r->Rt (GA p n) x r:=by
 intro k;induction k with
 | zero =>
  intro x r hk a f hx;have e:EP p x=x:=FT λe=>by have:=h.dec x a f e;omega
  have c:x≠n:=λe2=>hn (e2▸e);have:=hx.det (.base e);rw[this];refine .base ?_;unfold GA;rw[DC h0 h1 x a,As c];exact e
 | succ k i =>
  intro x r hk a f hx;by_cases e:EP p x=x
  .have c:x≠n:=λe2=>hn (e2▸e);have:=hx.det (.base e);rw[this];refine .base ?_;unfold GA;rw[DC h0 h1 x a,As c];exact e
  have s:=h.dec x a f e;have b:=h.rng x a f;have d:Rt p (EP p x) r:=by
   cases hx with
   | base g=>exact absurd g e
   | step _ g=>exact g
  by_cases c:x=n
  .subst c;by_cases e2:EP p (EP p x)=EP p x
   .have:=d.det (.base e2);rw[this]at d ⊢;refine .step (r:=EP p x) ?_ ?_
    .unfold GA;rw[DC h0 h1 x a,BY rfl,e2];exact e
    have hp:EP (GA p x) x=EP p x:=by
     unfold GA;rw[DC h0 h1 x a,BY rfl,e2]
    rw[hp];exact i _ _ (by omega) b.1 b.2 d
   have o:=h.dec _ b.1 b.2 e2;have j:=h.rng _ b.1 b.2;have q:Rt p (EP p (EP p x)) r:=by
    cases d with
    | base g=>exact absurd g e2
    | step _ g=>exact g
   have hp:EP (GA p x) x=EP p (EP p x):=by
    unfold GA;rw[DC h0 h1 x a,BY rfl]
   refine .step ?_ ?_
   .rw[hp];intro m;rw[m]at o;omega
   rw[hp];exact i _ _ (by omega) j.1 j.2 q
  have hp:EP (GA p n) x=EP p x:=by
   unfold GA;rw[DC h0 h1 x a,As c]
  refine .step ?_ ?_
  .rw[hp];exact e
  rw[hp];exact i _ _ (by omega) b.1 b.2 d
def Eo (p q:List Int):Prop:=p.length=q.length/\∀x r,0<=x->x<(p.length:Int)->(Rt p x r↔Rt q x r)
theorem Eo.refl (p:List Int):Eo p p:=⟨rfl,λ_ _ _ _=>Iff.rfl⟩
theorem Eo.trans {p q s:List Int} (h:Eo p q) (g:Eo q s):Eo p s :=
 ⟨h.1.trans g.1,λx r a b=>(h.2 x r a b).trans (g.2 x r a (by rw[<-h.1];exact b))⟩
theorem oZ {p:List Int} {c:Int->Nat} (h:Fo p c) {n:Int} (h0:0<=n) (h1:n<(p.length:Int)) (hn:EP p n≠n):Eo p (GA p n):=by
 refine⟨(SZ p n).symm,λx r a b=>⟨λhx=>jD h h0 h1 hn _ x r (If _) a b hx,λhx=>?_⟩⟩;obtain⟨s,hs,-,-⟩:=h.root a b;have:=jD h h0 h1 hn _ x s (If _) a b hs;have e:=this.det hx;rw[<-e];exact hs
def Tu (h:AG) (p ty:List Int) (ar:List (List (Int×Int))):List (Nat×Obj):=[(1,.box 111 true [.p Dn h,.sr 2 T3 0 p.length,.sr 3 T3 0 ty.length,.sr 4 Cm 0 ar.length]),(2,.arr 3 T3 p),(3,.arr 3 T3 ty),(4,.arr 91 Cm ar)]
theorem cJ (h:AG) (ty:List Int) (ar:List (List (Int×Int))) (d:Int->Nat) {p:List Int} (hp:Fo p d) {n:Int} (h0:0<=n) (h1:n<(p.length:Int)):A9 Tryz.prog 136 [.bp 1 [] 0,.p T3 n] (Tu h p ty ar) [1]
  (λres A=>∃(t:List Int) (r:Int),res=.p T3 r/\A=Tu h t ty ar/\Fo t d/\Eo p t/\Rt p n r):=by
 refine KY [0,1,4,13] [] [] Tryz.func136 Tryz.ntmps136 AH ?_;intro w0 K O0 ρ0 j C D;simp only[Ak,Tu];repeat'(first|exact trivial|apply eS rfl|refine rX j ?_ ?_)
 refine AK (ι:={x:List Int×Int//Fo x.1 d/\Eo p x.1/\0<=x.2/\x.2<(p.length:Int)/\(∀r,Rt x.1 x.2 r->Rt p n r)}) (λx=>⟨[(0,.bp 1 [] 0),(1,.p T3 x.1.2)],[(1,.box 111 true [.p Dn h,.sr 2 T3 0 p.length,.sr 3 T3 0 ty.length,.sr 4 Cm 0 ar.length]),(2,.arr 3 T3 x.1.1),(3,.arr 3 T3 ty),(4,.arr 91 Cm ar)]⟩) (λx=>d x.1.2) ⟨(p,n),hp,Eo.refl p,h0,h1,λ_ g=>g⟩ (eW [(1,.nm 1),(2,.nm 2),(3,.nm 3),(4,.nm 4)]) (λx=>?_)
 obtain⟨⟨q,m⟩,b,hs,a,f,s⟩:=x;simp only at b hs a f s;have o:q.length=p.length:=hs.1.symm;have c:=b.rng m a (by omega);simp only;repeat'(first|exact trivial|apply eS rfl|apply AB|refine rX j ?_ ?_|refine rC ?_ ?_<;>intro i<;>try(cases i;done))
 .exact⟨a,f⟩
 .exact⟨⟨a,f⟩,⟨c.1,by rw[<-o];exact c.2⟩,a,f⟩
 .exact⟨a,f⟩
 .have k:EP q m≠m:=i;have B:=b.dec m a (by omega) k;have u:=b.rng _ c.1 c.2;have w:d (EP q (EP q m))<=d (EP q m):=by
   by_cases e:EP q (EP q m)=EP q m
   .rw[e];exact If _
   exact AFe (b.dec _ c.1 c.2 e)
  have v:=oZ b a (by omega) k;have l:EP (GA q m) m=EP q (EP q m):=by
   unfold GA;rw[DC a (by omega) m a,BY rfl]
  refine⟨⟨(GA q m,EP q (EP q m)),A3Z b a (by omega) k,hs.trans v,u.1,by rw[<-o];exact u.2,λr z=>s r ?_⟩,by simp only;omega,AC [(1,.nm 1),(2,.nm 2),(3,.nm 3),(4,.nm 4)] rfl rfl ?_ ?_⟩
  .refine(v.2 m r a (by omega)).2 (.step ?_ ?_)
   .rw[l];intro e;rw[e]at w;omega
   rw[l];exact z
  .refine eM ?_;rfl
  refine eM ?_;exact l
 have y:EP q m=m:=by simpa using i
 refine Ev.ent (σ':=⟨[(4,.p T3 m)],Tu h q ty ar⟩) ?_ (AC [(1,.nm 1),(2,.nm 2),(3,.nm 3),(4,.nm 4)] rfl rfl ?_ ?_)
 .exact fM j [.tmp 4] (.p T3 m) eT ⟨q,m,rfl,rfl,b,hs,s m (.base y)⟩
 .unfold Tu;rw[o];exact eN
 exact eN
def BN (b n:Nat):List Int:=(List.range n).map λi=>((b+i:Nat):Int)
def AY (b:Nat) (l:List (Int×Int)):List (Int×Int):=l.map λa=>(a.1,a.2+(b:Int))
def Bm (l:List AD) (n:Nat):List Int:=(l.take n).map λx=>x.1
def DP (b:Nat) (l:List AD) (n:Nat):List (List (Int×Int)):=(l.take n).map λx=>AY b x.2
theorem o0 (b n:Nat):BN b (n+1)=BN b n++[((b+n:Nat):Int)]:=by simp[BN,S5]
theorem Gh (b n:Nat):(BN b n).length=n:=by simp[BN]
theorem XI (h:AG) (p ty:List Int) (ar:List (List (Int×Int))) (l:List AD) (hl:AN l) (I:p.length<=100000) (J:ty.length=p.length) (D:ar.length=p.length) :
  A9 Tryz.prog 85 [.bp 1 [] 0,.p G2 l] (Tu h p ty ar) [1]
  (λres C=>res=.raw (.tuple #[])/\C=Tu h (p++BN p.length l.length) (ty++Bm l l.length) (ar++DP p.length l l.length)):=by
 refine KY [0,1,4,5,6,7,9,15,16,17,18,46,47,48,49] [] [] Tryz.func85 Tryz.ntmps85 AH ?_;intro w0 K O0 ρ0 c G H;have F:=hl.1;simp only[Ak,Tu];repeat'(first|exact trivial|apply eS rfl|refine rX c ?_ ?_)
 refine AK (ι:={i:Nat//i<=l.length}) (λi=>⟨[(0,.bp 1 [] 0),(4,.p (.int .i64) (p.length:Int)),(15,.p G2 l),(16,.p (.int .i64) (l.length:Int)),(17,.p (.int .i64) (i.1:Int))],[(1,.box 111 true [.p Dn h,.sr 2 T3 0 (p++BN p.length i.1).length,.sr 3 T3 0 (ty++Bm l i.1).length,.sr 4 Cm 0 (ar++DP p.length l i.1).length]),(2,.arr 3 T3 (p++BN p.length i.1)),(3,.arr 3 T3 (ty++Bm l i.1)),(4,.arr 91 Cm (ar++DP p.length l i.1))]⟩) (λi=>l.length-i.1) ⟨0,NO _⟩ (AC [(1,.nm 1),(2,.nm 2),(3,.nm 3),(4,.nm 4)] rfl rfl ?_ ?_) (λi=>?_)
 .refine eM ?_;simp[BN,Bm,DP]
 .exact eN
 obtain⟨i,hi⟩:=i;have r:=Gh p.length i;have s:=o0 p.length i;have w:(Bm l i).length=i:=by unfold Bm;rw[OR,OS];omega
 have m:(DP p.length l i).length=i:=by unfold DP;rw[OR,OS];omega
 have y:=λh:i<l.length=>CL (λx:AD=>x.1) l (0,[]) h;have n:=λh:i<l.length=>CL (λx:AD=>AY p.length x.2) l (0,[]) h;simp only;repeat'(first|exact trivial|apply eS rfl|refine rX c ?_ ?_|refine rC ?_ ?_<;>intro b<;>try(cases b;done))
 .exact b
 .refine⟨⟨by omega,by omega⟩,?_⟩;rw[r];simp only[AO];omega
 .have d:i<l.length:=IN.1 b;refine CA drawsAny c 9 [([1,2,3,4,5,6,7],8)] [0] (by kernel_rfl) (KX ?_ ?_)
  .trivial
  refine NJ c [3] ?_ ?_
  .rw[w];simp only[AO];omega
  refine Re c ?_ ?_ ?_
  .trivial
  .trivial
  have z:=y d;have o:=n d;have j:p++BN p.length i++[(p.length:Int)+(i:Int)]=p++BN p.length (i+1):=by
   rw[s,RN];rfl
  have eT:ty++Bm l i++[(l.getD i (0,[])).1]=ty++Bm l (i+1):=by
   unfold Bm;rw[z,RN]
  have A:p.length+(BN p.length i).length+1=(p++BN p.length (i+1)).length:=by rw[By,Gh,Gh];omega
  have B:ty.length+(Bm l i).length+1=(ty++Bm l (i+1)).length:=by rw[<-eT,By,By,IS]
  have t:=KI hl i;have M:(l.getD i (0,[])).2.length<=100000:=(hl.2 _ (AE l (0,[]) d)).1;repeat'(first|exact trivial|apply eS rfl|refine rX c ?_ ?_)
  rw[j,eT,A,B];generalize L:(l.getD i (0,[])).2=xs at *;refine AK (ι:={k:Nat//k<=xs.length}) (λk=>⟨[(0,.bp 1 [] 0),(4,.p (.int .i64) (p.length:Int)),(7,.sr 61 AU 0 (AY p.length (xs.take k.1)).length),(15,.p G2 l),(16,.p (.int .i64) (l.length:Int)),(17,.p (.int .i64) (i:Int)),(46,.p Cm xs),(47,.p (.int .i64) (xs.length:Int)),(48,.p (.int .i64) (k.1:Int))],[(1,.box 111 true [.p Dn h,.sr 2 T3 0 (p++BN p.length (i+1)).length,.sr 3 T3 0 (ty++Bm l (i+1)).length,.sr 4 Cm 0 (ar++DP p.length l i).length]),(2,.arr 3 T3 (p++BN p.length (i+1))),(3,.arr 3 T3 (ty++Bm l (i+1))),(4,.arr 91 Cm (ar++DP p.length l i)),(61,.arr 106 AU (AY p.length (xs.take k.1)))]⟩) (λk=>xs.length-k.1) ⟨0,NO _⟩ (AC [(1,.nm 1),(2,.nm 2),(3,.nm 3),(4,.nm 4),(61,.nil)] rfl rfl ?_ ?_) (λk=>?_)
  .refine eM ?_;rfl
  .refine eM ?_;rfl
  obtain⟨k,hk⟩:=k;have u:(AY p.length (xs.take k)).length=k:=by unfold AY;rw[OR,OS];omega
  have v:=λh:k<xs.length=>CL (λa:Int×Int=>(a.1,a.2+(p.length:Int))) xs (0,0) h;have q:=λh:k<xs.length=>t _ (AE xs (0,0) h);simp only;repeat'(first|exact trivial|apply eS rfl|apply AB|refine rX c ?_ ?_|refine rC ?_ ?_<;>intro b<;>try(cases b;done))
  .exact b
  .have e:k<xs.length:=IN.1 b;have E:=q e;refine⟨⟨by omega,by omega⟩,?_⟩;rw[u];simp only[AO];omega
  .omega
  .have e:k<xs.length:=IN.1 b;have f:AY p.length (xs.take (k+1))=AY p.length (xs.take k)++[((xs.getD k (0,0)).1,(xs.getD k (0,0)).2+(p.length:Int))]:=v e;refine⟨⟨k+1,e⟩,by simp only;omega,AC [(1,.nm 1),(2,.nm 2),(3,.nm 3),(4,.nm 4),(61,.nm 61)] rfl rfl ?_ ?_⟩
   .simp only[f];exact eN
   simp only[f];exact eN
  .rw[m];simp only[AO];omega
  .omega
  have e:xs.take k=xs:=At (RJ.1 b);rw[e];have g:ar++DP p.length l i++[AY p.length xs]=ar++DP p.length l (i+1):=by
   unfold DP;rw[o,RN]
  refine⟨⟨i+1,d⟩,by simp only;omega,AC [(1,.nm 1),(2,.nm 2),(3,.nm 3),(4,.nm 4)] rfl rfl ?_ ?_⟩
  .simp only[<-g];exact eN
  exact eN
 have d:i=l.length:=by omega
 subst d;refine Ev.ent (σ':=⟨[],Tu h (p++BN p.length l.length) (ty++Bm l l.length) (ar++DP p.length l l.length)⟩) ?_ (AC [(1,.nm 1),(2,.nm 2),(3,.nm 3),(4,.nm 4)] rfl rfl ?_ ?_)
 .exact fM c [] (.raw (.tuple #[])) rfl ⟨rfl,rfl⟩
 .unfold Tu;exact eN
 exact eN
section
attribute [local go_sem] x7
def Bx:List (Int×Int)->List (Int×Int)->List (Int×Int)×List (Int×Int)
 | [],y=>(y,[])
 | a :: x,[]=>(a :: x,[])
 | a :: x,b :: y =>
  if a.1<b.1 then (a :: (Bx x (b :: y)).1,(Bx x (b :: y)).2)
  else if b.1<a.1 then (b :: (Bx (a :: x) y).1,(Bx (a :: x) y).2)
  else (a :: (Bx x y).1,(a.2,b.2) :: (Bx x y).2)
termination_by x y=>x.length+y.length
structure o4 (xs ys:List (Int×Int)) (W0:List (Int×Int)) (s:(List (Int×Int)×List (Int×Int))×(List (Int×Int)×List (Int×Int)×Nat)):Prop where
 hi:s.2.2.2<=s.2.2.1.length
 both:s.2.1++(Bx s.1.1 s.1.2).1=(Bx xs ys).1
 wait:s.2.2.1.take s.2.2.2++(Bx s.1.1 s.1.2).2=W0++(Bx xs ys).2
 len:s.2.1.length+s.1.1.length+s.1.2.length<=xs.length+ys.length
 num:s.2.2.2+s.1.1.length<=W0.length+xs.length
theorem ADc {x y:List (Int×Int)} (h0:0<x.length) (h:y.length=0\/(x.getD 0 (0,0)).1<(y.getD 0 (0,0)).1):Bx x y=(x.getD 0 (0,0) :: (Bx (x.drop 1) y).1,(Bx (x.drop 1) y).2):=by
 cases x with
 | nil=>simp at h0
 | cons a x =>
  cases y with
  | nil =>
   simp only[AE9,To];cases x<;>simp[Bx]
  | cons b y =>
   have h:a.1<b.1:=by simpa using h
   simp only[AE9,To];rw[Bx,BY h];rfl
theorem ADd {x y:List (Int×Int)} (h0:0<y.length) (h:x.length=0\/(y.getD 0 (0,0)).1<(x.getD 0 (0,0)).1):Bx x y=(y.getD 0 (0,0) :: (Bx x (y.drop 1)).1,(Bx x (y.drop 1)).2):=by
 cases y with
 | nil=>simp at h0
 | cons b y =>
  cases x with
  | nil=>simp[Bx]
  | cons a x =>
   have h:b.1<a.1:=by simpa using h
   simp only[AE9,To];rw[Bx,As (by omega),BY h];rfl
theorem A9L {x y:List (Int×Int)} (h0:0<x.length) (h1:0<y.length) (h:(x.getD 0 (0,0)).1=(y.getD 0 (0,0)).1):Bx x y=(x.getD 0 (0,0) :: (Bx (x.drop 1) (y.drop 1)).1,((x.getD 0 (0,0)).2,(y.getD 0 (0,0)).2) :: (Bx (x.drop 1) (y.drop 1)).2):=by
 cases x with
 | nil=>simp at h0
 | cons a x =>
  cases y with
  | nil=>simp at h1
  | cons b y =>
   have h:a.1=b.1:=by simpa using h
   simp only[AE9,To];rw[Bx,As (by omega),As (by omega)];rfl
section
variable {xs ys W0 x y bo V:List (Int×Int)} {k:Nat}
theorem A9M (h:o4 xs ys W0 ((x,y),bo,V,k)) (h0:0<x.length) (f:y.length=0\/(x.getD 0 (0,0)).1<(y.getD 0 (0,0)).1):o4 xs ys W0 ((x.drop 1,y),bo++[x.getD 0 (0,0)],V,k):=by
 have e:=ADc h0 f;obtain⟨h1,a,b,c,d⟩:=h;simp only at h1 a b c d;rw[e]at a b;exact⟨h1,by rw[RN];exact a,b,by simp only[By,IS,S0];omega,by simp only[S0];omega⟩
theorem A9N (h:o4 xs ys W0 ((x,y),bo,V,k)) (h0:0<y.length) (f:x.length=0\/(y.getD 0 (0,0)).1<(x.getD 0 (0,0)).1):o4 xs ys W0 ((x,y.drop 1),bo++[y.getD 0 (0,0)],V,k):=by
 have e:=ADd h0 f;obtain⟨h1,a,b,d,c⟩:=h;simp only at h1 a b d c;rw[e]at a b;exact⟨h1,by rw[RN];exact a,b,by simp only[By,IS,S0];omega,c⟩
theorem A7R (h:o4 xs ys W0 ((x,y),bo,V,k)) (h0:0<x.length) (h1:0<y.length) (g:(x.getD 0 (0,0)).1=(y.getD 0 (0,0)).1):o4 xs ys W0 ((x.drop 1,y.drop 1),bo++[x.getD 0 (0,0)],V.take k++[((x.getD 0 (0,0)).2,(y.getD 0 (0,0)).2)],k+1):=by
 have e:=A9L h0 h1 g;obtain⟨c,a,b,d,f⟩:=h;simp only at c a b d f;rw[e]at a b;have hl:(V.take k++[((x.getD 0 (0,0)).2,(y.getD 0 (0,0)).2)]).length=k+1:=by simp only[By,IS,OS];omega
 exact⟨by simp only[hl];omega,by rw[RN];exact a,by simp only;rw[At (by omega),RN];exact b,by simp only[By,IS,S0];omega,by simp only[S0];omega⟩
end
def mgO (h:AG) (p ty:List Int) (ar:List (List (Int×Int))) (W:List (Int×Int)) (hi:Nat):List (Nat×Obj) :=
 [(1,.box 111 true [.p Dn h,.sr 2 T3 0 p.length,.sr 3 T3 0 ty.length,.sr 4 Cm 0 ar.length]),(2,.arr 3 T3 p),(3,.arr 3 T3 ty),(4,.arr 91 Cm ar),(5,.box 108 false [.bp 1 [] 0]),(6,.box 173 false [.sr 7 R6 0 hi]),(7,.arr 172 R6 W)]
theorem A41 (h:AG) (hh:h.1.length<=100000) (H:∀x∈h.1,x.2.1.length<=100000) (p ty:List Int) (ar:List (List (Int×Int))) (W:List (Int×Int)) (hi:Nat) (I:hi<=W.length) (O:hi<=100000000000) {a b:Int} (m:0<=a) (M:a<(p.length:Int)) (o:0<=b) (b1:b<(p.length:Int)) (U:ty.length=p.length) (N:ar.length=p.length)
  (ta:0<=ty.getD a.toNat 0/\ty.getD a.toNat 0<(h.1.length:Int)) (tb:0<=ty.getD b.toNat 0/\ty.getD b.toNat 0<(h.1.length:Int)) (P:(ar.getD a.toNat []).length<=10000000) (Q:(ar.getD b.toNat []).length<=10000000) :
  A9 Tryz.prog 134 [.p T3 a,.p T3 b,.bp 5 [] 0,.bp 6 [] 0] (mgO h p ty ar W hi) [1,5,6]
  (λres A=>((Ba h (ty.getD a.toNat 0) (ty.getD b.toNat 0)).2=false/\res=.p .bool false/\A=mgO h p ty ar W hi) \/
   ((Ba h (ty.getD a.toNat 0) (ty.getD b.toNat 0)).2=true/\res=.p .bool true/\∃n q,q<=n.length/\n.take q=W.take hi++(Bx (ar.getD a.toNat []) (ar.getD b.toNat [])).2 /\
    A=mgO h (p.set b.toNat a) (ty.set a.toNat (Ba h (ty.getD a.toNat 0) (ty.getD b.toNat 0)).1) (ar.set a.toNat (Bx (ar.getD a.toNat []) (ar.getD b.toNat [])).1) n q)):=by
 refine KY [0,1,2,3,6,7,8,9,10,11,35,71,94,122] [] [] Tryz.func134 Tryz.ntmps134 (AF A7w AH) ?_;intro w0 K O0 ρ0 d R S;have u:a<(ty.length:Int):=by omega
 have C:b<(ty.length:Int):=by omega
 have r:a<(ar.length:Int):=by omega
 have B:b<(ar.length:Int):=by omega
 simp only[mgO,Ak];repeat'(first|exact trivial|apply eS rfl|refine rX d ?_ ?_|refine rC ?_ ?_<;>intro c<;>try(cases c;done))
 .refine⟨⟨m,u⟩,⟨o,C⟩,ta,tb,hh,H⟩
 .refine Ev.ent (σ':=⟨[(6,.p .bool false)],mgO h p ty ar W hi⟩) ?_ (AC [(1,.nm 1),(2,.nm 2),(3,.nm 3),(4,.nm 4),(5,.nm 5),(6,.nm 6),(7,.nm 7)] rfl rfl ?_ ?_)
  .exact fM d [.tmp 6] (.p .bool false) eT (.inl ⟨c,rfl,rfl⟩)
  .unfold mgO;exact eN
  exact eN
 .exact⟨o,b1⟩
 .exact⟨m,u⟩
 .exact⟨⟨m,r⟩,o,B⟩
 generalize T:(Ba h (ty.getD a.toNat 0) (ty.getD b.toNat 0)).1=t at *;generalize X:ar.getD a.toNat []=xs at *;generalize Y:ar.getD b.toNat []=ys at *;refine AK (ι:={s:(List (Int×Int)×List (Int×Int))×(List (Int×Int)×List (Int×Int)×Nat)//o4 xs ys (W.take hi) s}) (λs=>⟨[(0,.p T3 a),(1,.p T3 b),(2,.bp 5 [] 0),(3,.bp 6 [] 0),(9,.p Cm s.1.1.1),(10,.p Cm s.1.1.2),(11,.sr 11 AU 0 s.1.2.1.length)],[(1,.box 111 true [.p Dn h,.sr 2 T3 0 p.length,.sr 3 T3 0 ty.length,.sr 4 Cm 0 ar.length]),(2,.arr 3 T3 (p.set b.toNat a)),(3,.arr 3 T3 (ty.set a.toNat t)),(4,.arr 91 Cm ar),(5,.box 108 false [.bp 1 [] 0]),(6,.box 173 false [.sr 7 R6 0 s.1.2.2.2]),(7,.arr 172 R6 s.1.2.2.1),(11,.arr 106 AU s.1.2.1)]⟩) (λs=>s.1.1.1.length+s.1.1.2.length) ⟨((xs,ys),([],W,hi)),I,rfl,rfl,by simp,by simp only[OS];omega⟩ (eW [(1,.nm 1),(2,.nm 2),(3,.nm 3),(4,.nm 4),(5,.nm 5),(6,.nm 6),(7,.nm 7),(11,.nil)]) (λs=>?_)
 obtain⟨⟨⟨x,y⟩,bo,V,k⟩,i⟩:=s;have J:=i.len;have L:=i.num;have w:=i.hi;simp only[OS]at J L w ⊢;repeat'(first|exact trivial|apply eS rfl|refine rX d ?_ ?_|refine rC ?_ ?_<;>intro c<;>try(cases c;done))
 .refine⟨λh=>?_,λh=>?_⟩
  .rw[An,Do]at h;exact h.2
  rw[An,RH,ADF]at h;have E:=h.1;have l:y.length≠0:=λe=>E (by rw[e];rfl);exact IN.2 (ADM l)
 .have f:0<x.length:=by
   rcases c with c|c
   .omega
   exact IN.1 c.1
  have F:y.length=0\/(x.getD 0 (0,0)).1<(y.getD 0 (0,0)).1:=by
   rcases c with c|c
   .exact .inl (AFw c)
   exact .inr c.2
  refine CA drawsAny d 9 [([0,1,2,3,4],5),([],8)] [6,7] (by kernel_rfl) (KX ?_ ?_)
  .exact⟨IN.2 f,RJ.2 f⟩
  refine NJ d [11] ?_ ?_
  .simp only[AO];omega
  refine KX ?_ ?_
  .exact RJ.2 f
  refine NJ d [] ?_ ?_
  .trivial
  refine Re d ?_ ?_ ?_
  .exact RJ.2 f
  .trivial
  repeat'(first|apply eS rfl|apply AB)
  exact⟨⟨((x.drop 1,y),bo++[x.getD 0 (0,0)],V,k),A9M i f F⟩,by simp only[S0];omega,eW [(1,.nm 1),(2,.nm 2),(3,.nm 3),(4,.nm 4),(5,.nm 5),(6,.nm 6),(7,.nm 7),(11,.nm 11)]⟩
 .have l:y.length≠0:=λe=>c.1 (by rw[e];rfl);have D:0<y.length:=ADM l;refine⟨λh=>IN.2 D,λh=>?_⟩
  rw[RH,ADF]at h;have l:x.length≠0:=λe=>h (by rw[e];rfl);exact IN.2 (ADM l)
 .have g:0<y.length:=ADM λe=>(by assumption:¬_/\_).1 (by rw[e];rfl);have j:x.length=0\/(y.getD 0 (0,0)).1<(x.getD 0 (0,0)).1:=by
   rcases c with c|c
   .exact .inl (AFw c)
   exact .inr c
  refine CA drawsAny d 9 [([0,1,2,3,4],5),([],8)] [6,7] (by kernel_rfl) (KX ?_ ?_)
  .exact⟨IN.2 g,RJ.2 g⟩
  refine NJ d [11] ?_ ?_
  .simp only[AO];omega
  refine KX ?_ ?_
  .exact RJ.2 g
  refine NJ d [] ?_ ?_
  .trivial
  refine Re d ?_ ?_ ?_
  .exact RJ.2 g
  .trivial
  repeat'(first|apply eS rfl|apply AB)
  exact⟨⟨((x,y.drop 1),bo++[y.getD 0 (0,0)],V,k),A9N i g j⟩,by simp only[S0];omega,eW [(1,.nm 1),(2,.nm 2),(3,.nm 3),(4,.nm 4),(5,.nm 5),(6,.nm 6),(7,.nm 7),(11,.nm 11)]⟩
 .rename_i j;have f:0<x.length:=ADM λe=>c.1 (by rw[e];rfl);have g:0<y.length:=ADM λe=>j.1 (by rw[e];rfl);refine⟨IN.2 f,IN.2 g,?_⟩;simp only[AO];omega
 .rename_i j;have f:0<x.length:=ADM λe=>c.1 (by rw[e];rfl);have g:0<y.length:=ADM λe=>j.1 (by rw[e];rfl);have G:(x.getD 0 (0,0)).1=(y.getD 0 (0,0)).1:=Int.le_antisymm c.2 (j.2 (IN.2 f));refine CA drawsAny d 12 [([0,1,2,3,4],5),([],10),([6,7],11)] [8,9] (by kernel_rfl) (KX ?_ ?_)
  .exact⟨IN.2 f,RJ.2 f,RJ.2 g⟩
  refine NJ d [11] ?_ ?_
  .simp only[AO];omega
  refine KX ?_ ?_
  .exact⟨RJ.2 f,RJ.2 g⟩
  refine NJ d [] ?_ ?_
  .trivial
  refine KX ?_ ?_
  .exact⟨RJ.2 f,RJ.2 g⟩
  refine NJ d [] ?_ ?_
  .trivial
  refine Re d ?_ ?_ ?_
  .exact RJ.2 g
  .trivial
  repeat'(first|apply eS rfl|apply AB)
  exact⟨⟨((x.drop 1,y.drop 1),bo++[x.getD 0 (0,0)],V.take k++[((x.getD 0 (0,0)).2,(y.getD 0 (0,0)).2)],k+1),A7R i f g G⟩,by simp only[S0];omega,eW [(1,.nm 1),(2,.nm 2),(3,.nm 3),(4,.nm 4),(5,.nm 5),(6,.nm 6),(7,.nm 7),(11,.nm 11)]⟩
 .exact⟨m,r⟩
 have f:x=[]:=RQ (by omega);have g:y=[]:=RQ (by omega);subst f g;have v:=i.both;have z:=i.wait;simp only[Bx,Ra]at v z;refine Ev.ent (σ':=⟨[(6,.p .bool true)],mgO h (p.set b.toNat a) (ty.set a.toNat t) (ar.set a.toNat bo) V k⟩) ?_ (AC [(1,.nm 1),(2,.nm 2),(3,.nm 3),(4,.nm 4),(5,.nm 5),(6,.nm 6),(7,.nm 7)] rfl rfl ?_ ?_)
 .exact fM d [.tmp 6] (.p .bool true) eT (.inr ⟨by assumption,rfl,V,k,w,z,by rw[v];rfl⟩)
 .unfold mgO;simp only[aT];exact eN
 exact eN
end
theorem LH {h:AG} (hk:HX h) {a b c:Int} (d:0<=a) (e:a<(h.1.length:Int)) (f:0<=b) (b1:b<(h.1.length:Int)) (c0:0<=c) (c1:c<(h.1.length:Int)) (h1:Av h a b=true) (g:Av h b c=true):Av h a c=true :=
 (Be hk d e c0 c1).2 λi hi=>(Be hk d e f b1).1 h1 i ((Be hk f b1 c0 c1).1 g i hi)
theorem Qq:∀ {x y:List (Int×Int)} {a:Int×Int},a∈x->a∈(Bx x y).1
 | [],_,_,h=>by cases h
 | b :: x,[],a,h=>by simpa[Bx] using h
 | b :: x,c :: y,a,h=>by
  rw[Bx];split
  .rcases DO.1 h with rfl|h
   .simp
   exact IF _ (Qq h)
  split
  .exact IF _ (Qq h)
  rcases DO.1 h with rfl|h
  .simp
  exact IF _ (Qq h)
termination_by x y=>x.length+y.length
theorem NU:∀ {x y:List (Int×Int)} {a:Int×Int},a∈y->a∈(Bx x y).1\/∃t,(a.1,t)∈(Bx x y).1/\(t,a.2)∈(Bx x y).2
 | [],y,a,h=>by
  left;simpa[Bx] using h
 | b :: x,[],a,h=>by cases h
 | b :: x,c :: y,a,h=>by
  rw[Bx];split
  .rcases NU (x:=x) h with g|⟨t,d,e⟩
   .exact .inl (IF _ g)
   exact .inr ⟨t,IF _ d,e⟩
  split
  .rcases DO.1 h with rfl|h
   .left;simp
   rcases NU (x:=b :: x) h with g|⟨t,d,e⟩
   .exact .inl (IF _ g)
   exact .inr ⟨t,IF _ d,e⟩
  rcases DO.1 h with rfl|h
  .right;exact⟨b.2,by rw[show a.1=b.1 by omega];simp,by simp⟩
  rcases NU (x:=x) h with g|⟨t,d,e⟩
  .exact .inl (IF _ g)
  exact .inr ⟨t,IF _ d,IF _ e⟩
termination_by x y=>x.length+y.length
theorem JM:∀ {x y:List (Int×Int)} {a:Int×Int},a∈(Bx x y).1->a∈x\/a∈y
 | [],y,a,h=>by
  right;simpa[Bx] using h
 | b :: x,[],a,h=>by
  left;simpa[Bx] using h
 | b :: x,c :: y,a,h=>by
  rw[Bx]at h;split at h
  .rcases DO.1 h with rfl|h
   .left;simp
   rcases JM h with g|g
   .exact .inl (IF _ g)
   exact .inr g
  split at h
  .rcases DO.1 h with rfl|h
   .right;simp
   rcases JM h with g|g
   .exact .inl g
   exact .inr (IF _ g)
  rcases DO.1 h with rfl|h
  .left;simp
  rcases JM h with g|g
  .exact .inl (IF _ g)
  exact .inr (IF _ g)
termination_by x y=>x.length+y.length
theorem Qr:∀ {x y:List (Int×Int)} {q:Int×Int},q∈(Bx x y).2->∃e,(e,q.1)∈x/\(e,q.2)∈y
 | [],y,q,h=>by simp[Bx]at h
 | b :: x,[],q,h=>by simp[Bx]at h
 | b :: x,c :: y,q,h=>by
  rw[Bx]at h;split at h
  .obtain⟨e,h1,a⟩:=Qr h;exact⟨e,IF _ h1,a⟩
  split at h
  .obtain⟨e,h1,a⟩:=Qr h;exact⟨e,h1,IF _ a⟩
  rcases DO.1 h with rfl|h
  .exact⟨b.1,by simp,by rw[show b.1=c.1 by omega];simp⟩
  obtain⟨e,h1,a⟩:=Qr h;exact⟨e,IF _ h1,IF _ a⟩
termination_by x y=>x.length+y.length
theorem Qs:∀ {x y:List (Int×Int)},(Bx x y).2.length<=x.length
 | [],y=>by simp[Bx]
 | b :: x,[]=>by simp[Bx]
 | b :: x,c :: y=>by
  rw[Bx];split
  .have:=Qs (x:=x) (y:=c :: y);simp only[No];omega
  split
  .exact Qs (x:=b :: x) (y:=y)
  have:=Qs (x:=x) (y:=y);simp only[No];omega
termination_by x y=>x.length+y.length
abbrev Li (l:List (Int×Int)):Prop:=l.Pairwise (λa b=>a.1<b.1)
theorem Ut:∀ {x y:List (Int×Int)},Li x->Li y->Li (Bx x y).1
 | [],y,_,h=>by simpa[Bx] using h
 | b :: x,[],h,_=>by simpa[Bx] using h
 | b :: x,c :: y,hx,i=>by
  have d:=Rb.1 hx;have e:=Rb.1 i;rw[Bx];split
  .rename_i f;refine Rb.2 ⟨λa ha=>?_,Ut d.2 i⟩;rcases JM ha with g|g
   .exact d.1 a g
   rcases DO.1 g with rfl|g
   .exact f
   have:=e.1 a g;omega
  split
  .rename_i f;refine Rb.2 ⟨λa ha=>?_,Ut hx e.2⟩;rcases JM ha with g|g
   .rcases DO.1 g with rfl|g
    .exact f
    have:=d.1 a g;omega
   exact e.1 a g
  refine Rb.2 ⟨λa ha=>?_,Ut d.2 e.2⟩;rcases JM ha with g|g
  .exact d.1 a g
  have:=e.1 a g;omega
termination_by x y=>x.length+y.length
theorem A7S {p:List Int} {o:Int->Nat} (hp:Fo p o) {a b:Int} (j:0<=a) (c:0<=b) (b1:b<(p.length:Int)) (ha:EP p a=a) (k:EP p b=b) (f:a≠b) {x r:Int} (d:0<=x) (q:x<(p.length:Int)) (h:Rt p x r):Rt (p.set b.toNat a) x (if r=b then a else r):=by
 have l:Rt (p.set b.toNat a) a a:=.base (by rw[DC c b1 a j,As f];exact ha);induction h with
 | @base n hn =>
  split
  .rename_i e;rw[e];exact .step (by rw[DC c b1 b c,BY rfl];exact f) (by rw[DC c b1 b c,BY rfl];exact l)
  rename_i e;exact .base (by rw[DC c b1 n d,As e];exact hn)
 | @step n r hn _ m =>
  have g:n≠b:=λe=>hn (e▸k);have i:=hp.rng n d q;exact .step (by rw[DC c b1 n d,As g];exact hn) (by rw[DC c b1 n d,As g];exact m i.1 i.2)
theorem A7T {p:List Int} {c:Int->Nat} (hp:Fo p c) {a b:Int} (h:0<=a) (i:a<(p.length:Int)) (d:0<=b) (b1:b<(p.length:Int)) (ha:EP p a=a) (l:EP p b=b) (k:a≠b):∃o,Fo (p.set b.toNat a) o:=by
 classical
 refine⟨λx=>if Rt p x b then c x+c a+1 else c x,λn n0 n1=>?_,λn n0 n1 hn=>?_⟩
 .rw[aT]at n1 ⊢;rw[DC d b1 n n0];split
  .exact⟨h,i⟩
  exact hp.rng n n0 n1
 rw[aT]at n1;rw[DC d b1 n n0]at hn ⊢;by_cases e:n=b
 .subst e;rw[BY rfl];have h1:¬Rt p a n:=λg=>k (g.det (.base ha)).symm;rw[As h1,BY (.base l)];omega
 rw[As e]at hn ⊢;have m:=hp.dec n n0 n1 hn;have f:Rt p n b↔Rt p (EP p n) b:=by
  constructor
  .intro g;cases g with
   | base g=>exact absurd g hn
   | step _ g=>exact g
  exact λg=>.step hn g
 by_cases g:Rt p n b
 .rw[BY g,BY (f.1 g)];omega
 rw[As g,As (λj=>g (f.2 j))];exact m
inductive EG (n:Nat) (p:List Int) (W:List (Int×Int)):Int->Int->Prop
 | cls {x y r:Int} (x0:0<=x) (x1:x<(n:Int)) (y0:0<=y) (y1:y<(n:Int)) (h:Rt p x r) (g:Rt p y r):EG n p W x y
 | wt {x y:Int} (h:(x,y)∈W):EG n p W x y
 | symm {x y:Int} (h:EG n p W x y):EG n p W y x
 | trans {x y z:Int} (h:EG n p W x y) (g:EG n p W y z):EG n p W x z
theorem EG.mono {n:Nat} {p q:List Int} {W V:List (Int×Int)} (h1:∀x y r,0<=x->x<(n:Int)->0<=y->y<(n:Int)->Rt p x r->Rt p y r->EG n q V x y) (a:∀x y,(x,y)∈W->EG n q V x y) {x y:Int} (h:EG n p W x y):EG n q V x y:=by
 induction h with
 | cls e f i j h g=>exact h1 _ _ _ e f i j h g
 | wt h=>exact a _ _ h
 | symm _ b=>exact .symm b
 | trans _ _ c d=>exact .trans c d
structure LI (h:AG) (N:List AD) (P:List (Int×Int)) (X:List AD) (v:Int->Int):Prop where
 rng:∀x,0<=x->x<(N.length:Int)->0<=v x/\v x<(X.length:Int)
 ty:∀x,0<=x->x<(N.length:Int)->Av h (N.getD x.toNat (0,[])).1 (X.getD (v x).toNat (0,[])).1=true
 arc:∀x,0<=x->x<(N.length:Int)->∀a∈AP N x,Bw (AP X (v x)) a.1=v a.2
 eq:∀q∈P,v q.1=v q.2
structure JX (h:AG) (X:List AD) (v:Int->Int) (n:Nat) (p ty:List Int) (ar:List (List (Int×Int))) (W:List (Int×Int)):Prop where
 cls:∀x r,0<=x->x<(n:Int)->Rt p x r->v x=v r
 wt:∀w∈W,v w.1=v w.2
 ty:∀r,0<=r->r<(n:Int)->EP p r=r->Av h (ty.getD r.toNat 0) (X.getD (v r).toNat (0,[])).1=true
 arc:∀r,0<=r->r<(n:Int)->EP p r=r->∀a∈ar.getD r.toNat [],Bw (AP X (v r)) a.1=v a.2
def Cw (N:List AD):List Int:=N.flatMap λx=>x.2.map (·.1)
structure JI (h:AG) (N:List AD) (P:List (Int×Int)) (p ty:List Int) (ar:List (List (Int×Int))) (W:List (Int×Int)):Prop where
 nty:Cc h N
 fo:∃rk,Fo p rk
 lp:p.length=N.length
 lt:ty.length=N.length
 la:ar.length=N.length
 wr:∀w∈W,(0<=w.1/\w.1<(N.length:Int))/\(0<=w.2/\w.2<(N.length:Int))
 tyr:∀x,0<=x->x<(N.length:Int)->0<=ty.getD x.toNat 0/\ty.getD x.toNat 0<(h.1.length:Int)
 arr:∀k,∀a∈ar.getD k [],(0<=a.2/\a.2<(N.length:Int))/\a.1∈Cw N
 srt:∀k,Li (ar.getD k [])
 sp:∀q∈P,EG N.length p W q.1 q.2
 st:∀x r,0<=x->x<(N.length:Int)->Rt p x r->Av h (N.getD x.toNat (0,[])).1 (ty.getD r.toNat 0)=true
 sa:∀x r,0<=x->x<(N.length:Int)->Rt p x r->∀a∈AP N x,∃t,(a.1,t)∈ar.getD r.toNat []/\EG N.length p W a.2 t
 co:∀X v,Cc h X->LI h N P X v->JX h X v N.length p ty ar W
theorem GB {p:List Int} {a:Int->Nat} (hp:Fo p a) {x r:Int} (c:0<=x) (d:x<(p.length:Int)) (h:Rt p x r):0<=r/\r<(p.length:Int):=by
 obtain⟨s,hs,b,s1⟩:=hp.root c d;rw[h.det hs];exact⟨b,s1⟩
theorem Sa {p q:List Int} (h:Eo p q) {r:Int} (a:0<=r) (b:r<(p.length:Int)):EP p r=r↔EP q r=r :=
 ⟨λe=>((h.2 r r a b).1 (.base e)).root,λe=>((h.2 r r a b).2 (.base e)).root⟩
theorem A7U {h:AG} {N:List AD} {P:List (Int×Int)} {p q ty:List Int} {ar:List (List (Int×Int))} {W:List (Int×Int)} (hs:Eo p q) (j:∃z,Fo q z) (u:JI h N P p ty ar W):JI h N P q ty ar W:=by
 obtain⟨nty,fo,lp,lt,la,wr,tyr,arr,srt,sp,st,sa,co⟩:=u;have i:∀x r,0<=x->x<(N.length:Int)->(Rt p x r↔Rt q x r):=λx r b c=>hs.2 x r b (by rw[lp];exact c);have s:∀ {x y},EG N.length p W x y->EG N.length q W x y:=λ{x y} g=>g.mono (λx y r b c k l h1 o=>.cls b c k l ((i x r b c).1 h1) ((i y r k l).1 o)) (λ_ _ h=>.wt h);refine⟨nty,j,by rw[<-hs.1];exact lp,lt,la,wr,tyr,arr,srt,λq j=>s (sp q j),λx r b c d=>st x r b c ((i x r b c).2 d),λx r b c d a ha=>?_,λX v t w=>?_⟩
 .grind
 obtain⟨c1,c2,m,n⟩:=co X v t w;exact⟨λx r b c d=>c1 x r b c ((i x r b c).2 d),c2,λr e f d=>m r e f ((Sa hs e (by rw[lp];exact f)).2 d),λr e f d=>n r e f ((Sa hs e (by rw[lp];exact f)).2 d)⟩
section
variable {h:AG} {N:List AD} {P:List (Int×Int)} {p ty:List Int} {ar:List (List (Int×Int))} {W:List (Int×Int)} {s t a b:Int}
theorem cK (n:JI h N P p ty ar (W++[(s,t)])) (hs:Rt p s a) (u:Rt p t a):JI h N P p ty ar W:=by
 obtain⟨nty,fo,lp,lt,la,wr,tyr,arr,srt,sp,st,sa,co⟩:=n;have b:=wr (s,t) (by simp);have l:∀ {x y},EG N.length p (W++[(s,t)]) x y->EG N.length p W x y:=λ{x y} g=>g.mono (λx y r d f A B h1 k=>.cls d f A B h1 k) (λx y c=>by
  rcases Is.1 c with c|c
  .exact .wt c
  have e:(x,y)=(s,t):=by simpa using c
  cases e;exact .cls b.1.1 b.1.2 b.2.1 b.2.2 hs u)
 refine⟨nty,fo,lp,lt,la,λw b=>wr w (S2 _ b),tyr,arr,srt,λq o=>l (sp q o),st,λx r d f C a ha=>?_,λX v m z=>?_⟩
 .grind
 obtain⟨c1,c2,i,j⟩:=co X v m z;exact⟨c1,λw b=>c2 w (S2 _ b),i,j⟩
theorem Uu (hk:HX h) (c:JI h N P p ty ar (W++[(s,t)])) (hs:Rt p s a) (g:Rt p t b) {X:List AD} {v:Int->Int} (o:Cc h X) (q:LI h N P X v) :
  v a=v b/\(Ba h (ty.getD a.toNat 0) (ty.getD b.toNat 0)).2=true/\Av h (Ba h (ty.getD a.toNat 0) (ty.getD b.toNat 0)).1 (X.getD (v a).toNat (0,[])).1=true:=by
 obtain⟨A,fo⟩:=c.fo;obtain⟨⟨i,s1⟩,j,l⟩:=c.wr (s,t) (by simp);simp only at i s1 j l;have d:=GB fo i (by rw[c.lp];exact s1) hs;have f:=GB fo j (by rw[c.lp];exact l) g;rw[c.lp]at d f;obtain⟨c1,c2,m,y⟩:=c.co X v o q;have e1:=c1 s a i s1 hs;have e2:=c1 t b j l g;have r:v s=v t:=c2 (s,t) (by simp);have e:v a=v b:=by rw[<-e1,<-e2,r]
 have u:=m a d.1 d.2 hs.root;have n:=m b f.1 f.2 g.root;rw[<-e]at n;have z:=q.rng a d.1 d.2;have hx:=o _ (AE X (0,[]) (k:=(v a).toNat) (by omega));have ta:=c.tyr a d.1 d.2;have tb:=c.tyr b f.1 f.2;obtain⟨w,x⟩:=(IU hk ta.1 ta.2 tb.1 tb.2).2 _ hx.1 hx.2 u n;exact⟨e,w,x⟩
theorem ZX {α:Type} {l:List α} {d v:α} {a r:Int} (b:0<=a) (c:a<(l.length:Int)) (e:0<=r):(l.set a.toNat v).getD r.toNat d=if r=a then v else l.getD r.toNat d:=by grind
theorem XJ (hk:HX h) (aa:JI h N P p ty ar (W++[(s,t)])) (hs:Rt p s a) (K:Rt p t b) (U:a≠b) (ai:(Ba h (ty.getD a.toNat 0) (ty.getD b.toNat 0)).2=true) :
  JI h N P (p.set b.toNat a) (ty.set a.toNat (Ba h (ty.getD a.toNat 0) (ty.getD b.toNat 0)).1) (ar.set a.toNat (Bx (ar.getD a.toNat []) (ar.getD b.toNat [])).1) (W++(Bx (ar.getD a.toNat []) (ar.getD b.toNat [])).2):=by
 have aj:=λX v I L=>Uu (X:=X) (v:=v) hk aa hs K I L;obtain⟨nty,⟨ax,fo⟩,lp,lt,la,wr,tyr,arr,srt,sp,st,sa,co⟩:=aa;obtain⟨⟨M,s1⟩,O,Q⟩:=wr (s,t) (by simp);simp only at M s1 O Q;have n:=GB fo M (by rw[lp];exact s1) hs;have A:=GB fo O (by rw[lp];exact Q) K;have ha:=hs.root;have V:=K.root;have E:=λ{x r:Int} (c:0<=x) (i:x<(N.length:Int)) (hx:Rt p x r)=>A7S fo n.1 A.1 A.2 ha V U c (by rw[lp];exact i) hx;have Y:∀ {x r:Int},0<=x->x<(N.length:Int)->Rt (p.set b.toNat a) x r->∃j,Rt p x j/\r=if j=b then a else j:=λ{x r} c i hx=>by
  obtain⟨j,h1,-,-⟩:=fo.root c (by rw[lp];exact i);exact⟨j,h1,hx.det (E c i h1)⟩
 have ta:=tyr a n.1 (by rw[<-lp];exact n.2);have tb:=tyr b A.1 (by rw[<-lp];exact A.2);obtain⟨aq,au,av,aw⟩:=(IU hk ta.1 ta.2 tb.1 tb.2).1 ai;generalize an:(Ba h (ty.getD a.toNat 0) (ty.getD b.toNat 0)).1=m at *;generalize ad:ar.getD a.toNat []=xs at *;generalize ae:ar.getD b.toNat []=ys at *;have al:EG N.length (p.set b.toNat a) (W++(Bx xs ys).2) s t:=by
  have h1:=E M s1 hs;have H:=E O Q K;rw[As U]at h1;rw[BY rfl]at H;exact .cls M s1 O Q h1 H
 have D:∀ {x y},EG N.length p (W++[(s,t)]) x y->EG N.length (p.set b.toNat a) (W++(Bx xs ys).2) x y:=λ{x y} g=>g.mono (λx y r c i ag ah h1 H=>.cls c i ag ah (E c i h1) (E ag ah H)) (λx y F=>by
  rcases Is.1 F with F|F
  .exact .wt (S2 _ F)
  have e:(x,y)=(s,t):=by simpa using F
  cases e;exact al)
 have hty:=λ{r:Int} (C:0<=r)=>ZX (l:=ty) (d:=0) (v:=m) n.1 (by rw[lt,<-lp];exact n.2) C;have J:=λ{r:Int} (C:0<=r)=>ZX (l:=ar) (d:=[]) (v:=(Bx xs ys).1) n.1 (by rw[la,<-lp];exact n.2) C;refine⟨nty,A7T fo n.1 n.2 A.1 A.2 ha V U,by rw[aT];exact lp,by rw[aT];exact lt,by rw[aT];exact la,λw o=>?_,λx c i=>?_,λk y B=>?_,λk=>?_,λq ak=>D (sp q ak),λx r c i z=>?_,λx r c i z y B=>?_,λX v I L=>?_⟩
 .rcases Is.1 o with o|o
  .exact wr w (S2 _ o)
  grind [Qr]
 .grind
 .have h1:=J (r:=(k:Int)) (by omega);rw[RK]at h1;rw[h1]at B;split at B
  .grind [JM]
  exact arr _ _ B
 .have h1:=J (r:=(k:Int)) (by omega);rw[RK]at h1;rw[h1];split
  .grind [Ut]
  exact srt k
 .obtain⟨j,h1,rfl⟩:=Y c i z;have hx:=nty _ (AE N (0,[]) (k:=x.toNat) (by omega));have ab:=GB fo c (by rw[lp];exact i) h1;by_cases e:j=b
  .grind [LH]
  grind [LH]
 .obtain⟨j,h1,rfl⟩:=Y c i z;have ab:=GB fo c (by rw[lp];exact i) h1;obtain⟨u,G,R⟩:=sa x j c i h1 y B;by_cases e:j=b
  .rw[BY e,J n.1,BY rfl];rw[e,ae]at G;rcases NU (x:=xs) G with g|⟨w,S,T⟩
   .exact⟨u,g,D R⟩
   exact⟨w,S,.trans (D R) (.symm (.wt (AEf _ T)))⟩
  rw[As e,J ab.1];split
  .rename_i e2;rw[e2,ad]at G;exact⟨u,Qq G,D R⟩
  exact⟨u,G,D R⟩
 obtain⟨c1,c2,am,Z⟩:=co X v I L;obtain⟨e,-,ap⟩:=aj X v I L;have ao:∀r,0<=r->r<(N.length:Int)->EP (p.set b.toNat a) r=r->r≠b/\EP p r=r:=λr C af z=>by grind [DC]
 refine⟨λx r c i z=>?_,λw o=>?_,λr C af z=>?_,λr C af z y B=>?_⟩
 .obtain⟨j,h1,rfl⟩:=Y c i z;have:=c1 x j c i h1;split
  .rename_i e2;rw[this,e2,e]
  exact this
 .rcases Is.1 o with o|o
  .exact c2 w (S2 _ o)
  obtain⟨f,e1,e2⟩:=Qr o;rw[<-ad]at e1;rw[<-ae]at e2;have S:=Z a n.1 (by rw[<-lp];exact n.2) ha _ e1;have T:=Z b A.1 (by rw[<-lp];exact A.2) V _ e2;rw[<-S,<-T,e]
 .grind
 grind [JM]
end
theorem jE {l:List Nat} {f g:Nat->Bool} {b:Nat} (hn:l.Nodup) (c:b∈l) (h1:f b=true) (d:g b=false) (h:∀x∈l,x≠b->g x=f x):(l.filter g).length+1=(l.filter f).length:=by
 induction l with
 | nil=>cases c
 | cons x l k =>
  obtain⟨hx,j⟩:=TO.1 hn;by_cases e:x=b
  .subst e;have:l.filter g=l.filter f:=List.filter_congr λy a=>h y (by simp[a]) (λe=>hx (e▸a));rw[AAf,AAf,As (by rw[d];simp),BY h1,this];rfl
  have i:b∈l:=by
   rcases DO.1 c with g|g
   .exact absurd g.symm e
   exact g
  have m:=k j i (λy a=>h y (by simp[a]));rw[AAf,AAf,h x (by simp) e];split
  .simp only[No];omega
  exact m
def nR (p:List Int):Nat:=((List.range p.length).filter λk=>p.getD k 0==(k:Int)).length
theorem ADe (p:List Int):nR p<=p.length:=by
 have:=AAw (λk=>p.getD k 0==(k:Int)) (List.range p.length);rw[AEO]at this;exact this
theorem yM {p q:List Int} (h:Eo p q):nR q=nR p:=by
 unfold nR;rw[<-h.1];refine AAc List.length (List.filter_congr λk hk=>?_);have a:=RY.1 hk;have:=Sa h (r:=(k:Int)) (by omega) (by omega);unfold EP at this;rw[RK]at this;rw[AEN,S1,S1];exact this.symm
theorem yN {p:List Int} {a b:Int} (d:0<=b) (b1:b<(p.length:Int)) (c:EP p b=b) (e:a≠b):nR (p.set b.toNat a)+1=nR p:=by
 unfold nR;rw[aT];refine jE (b:=b.toNat) List.nodup_range (RY.2 (by omega)) ?_ ?_ λx _ hx=>?_
 .rw[S1];unfold EP at c;omega
 .rw[YP _ _ _ (by omega),ADF];omega
 rw[getD_set_ne _ _ _ (by omega)]
theorem Sb {α:Type} [DecidableEq α]:∀ {l l':List α},l.Nodup->(∀x∈l,x∈l')->l.length<=l'.length
 | [],_,_,_=>by simp
 | x :: l,l',hn,h=>by
  obtain⟨hx,c⟩:=TO.1 hn;have a:=h x (by simp);have:=Sb (l:=l) (l':=l'.erase x) c (λy b=>(AF6 (λe:y=x=>hx (by rw[<-e];exact b))).2 (h y (by simp[b])));rw[List.length_erase_of_mem a]at this;have:=List.length_pos_of_mem a;simp only[No];omega
theorem cL {l:List (Int×Int)} (h:Li l) {S:List Int} (hs:∀a∈l,a.1∈S):l.length<=S.length:=by
 have hn:(l.map (·.1)).Nodup:=by
  unfold List.Nodup;rw[AAe];exact h.imp λg=>by omega
 have:=Sb hn (l':=S) (λx hx=>by
  obtain⟨a,ha,rfl⟩:=GO.1 hx;exact hs a ha)
 rwa [OR]at this
theorem XK {h:AG} {N:List AD} {P:List (Int×Int)} {p ty:List Int} {ar:List (List (Int×Int))} (t:JI h N P p ty ar []) {a b:Int} (ha:0<=a/\a<(N.length:Int)) (s:0<=b/\b<(N.length:Int)):JI h N (P++[(a,b)]) p ty ar [(a,b)]:=by
 obtain⟨nty,fo,lp,lt,la,wr,tyr,arr,srt,sp,st,sa,co⟩:=t;have l:∀ {x y},EG N.length p [] x y->EG N.length p [(a,b)] x y:=λ{x y} g=>g.mono (λx y r j k C D h1 f=>.cls j k C D h1 f) (λx y A=>by cases A);refine⟨nty,fo,lp,lt,la,λw i=>?_,tyr,arr,srt,λq c=>?_,st,λx r j k z y B=>?_,λX v o d=>?_⟩
 .have e:w=(a,b):=by simpa using i
  subst e;exact⟨ha,s⟩
 .rcases Is.1 c with c|c
  .exact l (sp q c)
  have e:q=(a,b):=by simpa using c
  subst e;exact .wt (by simp)
 .obtain⟨u,h1,f⟩:=sa x r j k z y B;exact⟨u,h1,l f⟩
 obtain⟨c1,c2,m,n⟩:=co X v o ⟨d.rng,d.ty,d.arc,λq c=>d.eq q (S2 _ c)⟩;refine⟨c1,λw i=>?_,m,n⟩;have e:w=(a,b):=by simpa using i
 subst e;exact d.eq _ (by simp)
def Uv (h:AG) (p ty:List Int) (ar:List (List (Int×Int))):List (Nat×Obj):=[(101,.box 111 true [.p Dn h,.sr 102 T3 0 p.length,.sr 103 T3 0 ty.length,.sr 104 Cm 0 ar.length]),(102,.arr 3 T3 p),(103,.arr 3 T3 ty),(104,.arr 91 Cm ar)]
theorem Uw (h:AG) (hk:HX h) {N:List AD} {P:List (Int×Int)} {p ty:List Int} {ar:List (List (Int×Int))} (W:JI h N P p ty ar []) {a b:Int} (ha:0<=a/\a<(N.length:Int)) (ag:0<=b/\b<(N.length:Int)) (ae:N.length<=10000) (hF:(Cw N).length<=1000000) :
  A9 Tryz.prog 86 [.bp 101 [] 0,.p T3 a,.p T3 b] (Uv h p ty ar) [101]
  (λres L=>(res=.p .bool true/\∃B H u,L=Uv h B H u/\JI h N (P++[(a,b)]) B H u [])\/(res=.p .bool false/\(∃B H u,L=Uv h B H u)/\∀X v,Cc h X->¬LI h N (P++[(a,b)]) X v)):=by
 refine KY [0,1,2,3,6,7,8,9,10,11,19,48] [] [] Tryz.func86 Tryz.ntmps86 AH ?_;intro w0 K O0 ρ0 f ay az;have hh:h.1.length<=100000:=RG hk.2 (by omega);have ah:∀x∈h.1,x.2.1.length<=100000:=λx hx=>RG (hk.1.wid x.2.1 (GO.2 ⟨x,hx,rfl⟩)) (by omega);have ai:=XK W ha ag;generalize ax:P++[(a,b)]=Q at *;have aw:N.length*((Cw N).length+1)<=10000*1000001:=Nat.mul_le_mul ae (by omega);simp only[Uv,Ak];repeat'(first|exact trivial|apply eS rfl|refine rX f ?_ ?_)
 refine AK (ι:={s:(List Int×List Int×List (List (Int×Int)))×(List (Int×Int)×Nat)//JI h N Q s.1.1 s.1.2.1 s.1.2.2 (s.2.1.take s.2.2)/\s.2.2<=s.2.1.length/\nR s.1.1*((Cw N).length+1)+s.2.2<=N.length*((Cw N).length+1)+1}) (λs=>⟨[(3,.bp 3 [] 0),(7,.bp 7 [] 0),(8,.clo 134 [3,7])],[(101,.box 111 true [.p Dn h,.sr 102 T3 0 s.1.1.1.length,.sr 103 T3 0 s.1.1.2.1.length,.sr 104 Cm 0 s.1.1.2.2.length]),(102,.arr 3 T3 s.1.1.1),(103,.arr 3 T3 s.1.1.2.1),(104,.arr 91 Cm s.1.1.2.2),(3,.box 108 false [.bp 101 [] 0]),(7,.box 173 false [.sr 15 R6 0 s.1.2.2]),(15,.arr 172 R6 s.1.2.1)]⟩) (λs=>nR s.1.1.1*((Cw N).length+1)+s.1.2.2) ⟨((p,ty,ar),([(a,b)],1)),ai,by simp,by have:=RU ((Cw N).length+1) (ADe p);rw[W.lp]at this;simp only;omega⟩ (eW [(101,.nm 101),(102,.nm 102),(103,.nm 103),(104,.nm 104),(3,.nm 3),(7,.nm 7),(15,.nm 15)]) (λs=>?_)
 obtain⟨⟨⟨q,d,aq⟩,V,k⟩,l,aj,ad⟩:=s;simp only at l aj ad ⊢;repeat'(first|exact trivial|apply eS rfl|refine rX f ?_ ?_|refine rC ?_ ?_<;>intro j<;>try(cases j;done))
 .exact eV
 .exact eV
 .have Y:0<k:=IN.1 j;have ak:((k:Int)-1).toNat=k-1:=by omega
  have T:=Au V (0,0) (k:=k-1) (by omega);rw[show k-1+1=k by omega]at T;rw[ak];generalize bb:V.getD (k-1) (0,0)=st at *;obtain⟨s,t⟩:=st;rw[T]at l;obtain⟨⟨D,s1⟩,F,G⟩:=l.wr (s,t) (by simp);simp only at D s1 F G;obtain⟨M,fo⟩:=l.fo;have C:=l.lp;refine CA drawsAny f 8 [([0,1,2],3),([4,5,6],7)] [] (by kernel_rfl) (KX ?_ ?_)
  .trivial
  refine mxC f (cJ h d aq M fo D (by rw[C];exact s1)) [(1,.nm 101),(2,.nm 102),(3,.nm 103),(4,.nm 104)] [102,103,104] ?_ ?_ ?_
  .exact eN
  .simp only[Tu];exact eN
  rintro _ _ ⟨aa,c,rfl,rfl,ab,E,au⟩;refine⟨[(101,.nm 1),(102,.nm 2),(103,.nm 3),(104,.nm 4)],.p T3 c,[(101,.box 111 true [.p Dn h,.sr 102 T3 0 aa.length,.sr 103 T3 0 d.length,.sr 104 Cm 0 aq.length]),(102,.arr 3 T3 aa),(103,.arr 3 T3 d),(104,.arr 91 Cm aq)],rfl,rfl,?_,?_,rfl,rfl,rfl,?_⟩
  .simp only[Tu];exact eN
  .exact eN
  refine KX ?_ ?_
  .trivial
  refine mxC f (cJ h d aq M ab F (by rw[<-E.1,C];exact G)) [(1,.nm 101),(2,.nm 102),(3,.nm 103),(4,.nm 104)] [102,103,104] ?_ ?_ ?_
  .exact eN
  .simp only[Tu];exact eN
  rintro _ _ ⟨g,e,rfl,rfl,I,R,av⟩;refine⟨[(101,.nm 1),(102,.nm 2),(103,.nm 3),(104,.nm 4)],.p T3 e,[(101,.box 111 true [.p Dn h,.sr 102 T3 0 g.length,.sr 103 T3 0 d.length,.sr 104 Cm 0 aq.length]),(102,.arr 3 T3 g),(103,.arr 3 T3 d),(104,.arr 91 Cm aq)],rfl,rfl,?_,?_,rfl,rfl,rfl,?_⟩
  .simp only[Tu];exact eN
  .exact eN
  refine Re f ?_ ?_ ?_
  .trivial
  .trivial
  repeat' apply eS rfl
  have i:=A7U (E.trans R) ⟨M,I⟩ l;have O:=E.trans R;have A:=(O.2 s c D (by rw[C];exact s1)).1 au;have o:=(R.2 t e F (by rw[<-E.1,C];exact G)).1 av;have n:=i.lp;have w:=GB I D (by rw[n];exact s1) A;have m:=GB I F (by rw[n];exact G) o;refine evP f 4 ?_ ?_
  .trivial
  by_cases z:c=e
  .subst z;rw[show (c != c)=false from bne_self_eq_false c];refine rL f ?_ ?_
   .trivial
   repeat'(first|apply eS rfl|apply AB|refine rC ?_ ?_<;>intro j<;>try(cases j;done))
   have y:=cK i A o;have hn:=yM O;exact⟨⟨((g,d,aq),V,k-1),y,by simp only;omega,by simp only;rw[hn];omega⟩,by simp only;rw[hn];omega,eW [(101,.nm 101),(102,.nm 102),(103,.nm 103),(104,.nm 104),(3,.nm 3),(7,.nm 7),(15,.nm 15)]⟩
  rw[show (c != e)=true by simpa using z];refine rN 3 f ?_ ?_
  .trivial
  have J:=λr:Int=>cL (i.srt r.toNat) (λa ha=>(i.arr r.toNat a ha).2);refine clG f (A41 h hh ah g d aq V (k-1) (by omega) (by omega) w.1 w.2 m.1 m.2 (by rw[i.lt,n]) (by rw[i.la,n]) (i.tyr c w.1 (by rw[<-n];exact w.2)) (i.tyr e m.1 (by rw[<-n];exact m.2)) (RG (J c) (by omega)) (RG (J e) (by omega))) [(1,.nm 101),(2,.nm 102),(3,.nm 103),(4,.nm 104),(5,.nm 3),(6,.nm 7),(7,.nm 15)] [102,103,104,15] ?_ ?_ ?_
  .exact eN
  .simp only[mgO];exact eN
  rintro res L (⟨e1,rfl,rfl⟩|⟨e1,rfl,S,U,ao,Z,rfl⟩)
  .refine⟨[(101,.nm 1),(102,.nm 2),(103,.nm 3),(104,.nm 4),(3,.nm 5),(7,.nm 6),(15,.nm 7)],.p .bool false,[(101,.box 111 true [.p Dn h,.sr 102 T3 0 g.length,.sr 103 T3 0 d.length,.sr 104 Cm 0 aq.length]),(102,.arr 3 T3 g),(103,.arr 3 T3 d),(104,.arr 91 Cm aq),(3,.box 108 false [.bp 101 [] 0]),(7,.box 173 false [.sr 15 R6 0 (k-1)]),(15,.arr 172 R6 V)],rfl,rfl,?_,?_,rfl,rfl,?_⟩
   .simp only[mgO];exact eN
   .exact eN
   refine rL f ?_ ?_
   .trivial
   repeat'(first|exact trivial|apply eS rfl|refine rX f ?_ ?_|refine rC ?_ ?_<;>intro j<;>try(cases j;done))
   refine Ev.ent (σ':=⟨[(6,.p .bool false)],Uv h g d aq⟩) ?_ (AC [(101,.nm 101),(102,.nm 102),(103,.nm 103),(104,.nm 104)] rfl rfl ?_ ?_)
   .exact fM f [.tmp 6] (.p .bool false) eT (.inr ⟨rfl,⟨g,d,aq,rfl⟩,λX v af an=>by
     have:=(Uu hk i A o af an).2.1;rw[e1]at this;cases this⟩)
   .unfold Uv;exact eN
   exact eN
  refine⟨[(101,.nm 1),(102,.nm 2),(103,.nm 3),(104,.nm 4),(3,.nm 5),(7,.nm 6),(15,.nm 7)],.p .bool true,[(101,.box 111 true [.p Dn h,.sr 102 T3 0 (g.set e.toNat c).length,.sr 103 T3 0 (d.set c.toNat (Ba h (d.getD c.toNat 0) (d.getD e.toNat 0)).1).length,.sr 104 Cm 0 (aq.set c.toNat (Bx (aq.getD c.toNat []) (aq.getD e.toNat [])).1).length]),(102,.arr 3 T3 (g.set e.toNat c)),(103,.arr 3 T3 (d.set c.toNat (Ba h (d.getD c.toNat 0) (d.getD e.toNat 0)).1)),(104,.arr 91 Cm (aq.set c.toNat (Bx (aq.getD c.toNat []) (aq.getD e.toNat [])).1)),(3,.box 108 false [.bp 101 [] 0]),(7,.box 173 false [.sr 15 R6 0 U]),(15,.arr 172 R6 S)],rfl,rfl,?_,?_,rfl,rfl,?_⟩
  .simp only[mgO];exact eN
  .exact eN
  refine rL f ?_ ?_
  .trivial
  repeat'(first|apply eS rfl|apply AB|refine rC ?_ ?_<;>intro j<;>try(cases j;done))
  have y:=XJ hk i A o z e1;rw[<-Z]at y;have hn:=yM O;have am:=yN (a:=c) m.1 m.2 o.root z;have ba:(Bx (aq.getD c.toNat []) (aq.getD e.toNat [])).2.length<=(Cw N).length:=RG Qs (J c);have ap:=AAc List.length Z;rw[By,OS,OS]at ap;have al:nR g*((Cw N).length+1)=nR (g.set e.toNat c)*((Cw N).length+1)+((Cw N).length+1):=by rw[<-am,AF0,Nat.one_mul]
  rw[hn]at al;exact⟨⟨((g.set e.toNat c,d.set c.toNat (Ba h (d.getD c.toNat 0) (d.getD e.toNat 0)).1,aq.set c.toNat (Bx (aq.getD c.toNat []) (aq.getD e.toNat [])).1),S,U),y,ao,by simp only;omega⟩,by simp only;omega,eW [(101,.nm 101),(102,.nm 102),(103,.nm 103),(104,.nm 104),(3,.nm 3),(7,.nm 7),(15,.nm 15)]⟩
 have Y:k=0:=by
  have:=RJ.1 j;omega
 subst Y;rw[ADl]at l;refine Ev.ent (σ':=⟨[(6,.p .bool true)],Uv h q d aq⟩) ?_ (AC [(101,.nm 101),(102,.nm 102),(103,.nm 103),(104,.nm 104)] rfl rfl ?_ ?_)
 .exact fM f [.tmp 6] (.p .bool true) eT (.inl ⟨rfl,q,d,aq,rfl,l⟩)
 .unfold Uv;exact eN
 exact eN
open Classical in
noncomputable def ED (p:List Int) (x:Int):Int:=if h:∃r,Rt p x r then h.choose else x
theorem cM {p:List Int} {x r:Int} (h:Rt p x r):ED p x=r:=by
 unfold ED;rw[dif_pos ⟨r,h⟩];exact(Exists.choose_spec (p:=λr=>Rt p x r) ⟨r,h⟩).det h
theorem PU {p:List Int} {a:Int->Nat} (hp:Fo p a) {x:Int} (b:0<=x) (c:x<(p.length:Int)):Rt p x (ED p x):=by
 obtain⟨r,h,-,-⟩:=hp.root b c;rw[cM h];exact h
noncomputable def quo (p ty:List Int) (ar:List (List (Int×Int))):List AD:=(List.range p.length).map λk=>(ty.getD k 0,(ar.getD k []).map λa=>(a.1,ED p a.2))
theorem Ez (p ty:List Int) (ar:List (List (Int×Int))):(quo p ty ar).length=p.length:=by simp[quo]
theorem NV {p ty:List Int} {ar:List (List (Int×Int))} {n:Int} (n0:0<=n) (n1:n<(p.length:Int)):(quo p ty ar).getD n.toNat (0,[])=(ty.getD n.toNat 0,(ar.getD n.toNat []).map λa=>(a.1,ED p a.2)):=by
 unfold quo;rw[AS,gO,AE8 (by omega)];rfl
def LJ (len:Nat) (o:List Int):List Int:=(List.range len).map λ(k:Nat)=>if (k:Int)∈o then ((o.idxOf (k:Int):Nat):Int) else -1
theorem XL (len:Nat) (o:List Int):(LJ len o).length=len:=by simp[LJ]
theorem XM {len:Nat} {o:List Int} {n:Int} (n0:0<=n) (n1:n<(len:Int)):(LJ len o).getD n.toNat 0=if n∈o then (o.idxOf n:Int) else -1:=by
 unfold LJ;rw[AS,gO,AE8 (by omega)];simp only[AEm,AF4];rw[show ((n.toNat:Nat):Int)=n by omega]
theorem XN {o:List Int} {n:Int} (h:n∉o):(o++[n]).idxOf n=o.length:=by
 rw[AFt,As h];simp
theorem ZY {o t:List Int} {n:Int} (h:n∈o):(o++t).idxOf n=o.idxOf n:=by
 rw[AFt,BY h]
theorem A42 {len:Nat} {o:List Int} {n:Int} (n0:0<=n) (n1:n<(len:Int)) (h:n∉o):(LJ len o).set n.toNat (o.length:Int)=LJ len (o++[n]):=by
 apply iS
 .simp[LJ]
 intro i h1 b;rw[List.getElem_set];simp only[LJ,AEq,AEt];by_cases e:n.toNat=i
 .rw[BY e];have e2:(i:Int)=n:=by omega
  rw[e2,BY (by simp),XN h]
 rw[As e];have e2:(i:Int)≠n:=by omega
 by_cases a:(i:Int)∈o
 .rw[BY a,BY (by simp[a]),ZY a]
 rw[As a,As (by simp[a,e2])]
theorem XO {o t:List Int} {x:Int} (h:x∈o):Bv (o++t) x=Bv o x:=by
 unfold Bv;rw[BY (S2 _ h),BY h,ZY h]
theorem Qt {f:List AD} (hf:AN f) (k:Nat):∀(l:List (Int×Int)) (t:List Int),(∀a∈l,0<=a.2/\a.2<(f.length:Int))->Ji f t->f.length-t.length<=k ->
  (∀a∈l,a.2∈l.foldl (AX f k) t)/\∀x∈l.foldl (AX f k) t,x∈t\/∀a∈(f.getD x.toNat (0,[])).2,a.2∈l.foldl (AX f k) t:=by
 intro l;induction l with
 | nil=>exact λt _ _ _=>⟨λa ha=>(by cases ha),λx hx=>.inl hx⟩
 | cons a l r =>
  intro t hl i m;simp only[RE];have n:Ji f (AX f k t a)/\t <+: AX f k t a/\a.2∈AX f k t a/\∀x∈AX f k t a,x∈t\/∀b∈(f.getD x.toNat (0,[])).2,b.2∈AX f k t a:=by
   unfold AX;split
   .rename_i hn;exact⟨i,ADy _,hn,λx hx=>.inl hx⟩
   rename_i hn;have q:=hl a (by simp);obtain⟨d,e⟩:=DW hf k t a.2 i q.1 q.2 hn;obtain⟨g,h⟩:=IZ hf k t a.2 i q.1 q.2 hn m;exact⟨d,e,g,h⟩
  obtain⟨d,e,g,h⟩:=n;have s:=e.length_le;obtain⟨o,p⟩:=r (AX f k t a) (λb c=>hl b (by simp[c])) d (by omega);obtain⟨_,j⟩:=EH (DW hf k) l (AX f k t a) (λb c=>hl b (by simp[c])) d;refine⟨λb c=>?_,λx hx=>?_⟩
  .rcases DO.1 c with rfl|c
   .exact j.subset g
   exact o b c
  rcases p x hx with hx|hx
  .rcases h x hx with hx|hx
   .exact .inl hx
   exact .inr λb c=>j.subset (hx b c)
  exact .inr hx
def HP (f:List AD) (o a:List Int):List AD:=(a.drop o.length).map (Cj f a)
theorem A16 {f:List AD} {o t:List Int} {x:Int} (h:∀a∈(f.getD x.toNat (0,[])).2,a.2∈o):Cj f (o++t) x=Cj f o x:=by
 unfold Cj;refine AAc _ (RI λa ha=>?_);unfold HC;rw[XO (h a ha)]
theorem A43 {f:List AD} {c b d:List Int} (e:c <+: b) (g:b <+: d) (i:∀x∈b,x∈c\/∀a∈(f.getD x.toNat (0,[])).2,a.2∈b) (hn:b.Nodup):HP f c b++HP f b d=HP f c d:=by
 obtain⟨t,rfl⟩:=e;obtain⟨s,rfl⟩:=g;unfold HP;rw[AEG,AEG,RN,AEG,<-RN,Sw]
 congr 1
 refine RI λx hx=>?_;refine(A16 λa ha=>?_).symm;rcases i x (AEf _ hx) with h|h
 .exact absurd rfl ((ADA.1 hn).2.2 x h x hx)
 exact h a ha
theorem ZZ (f:List AD) (o:List Int):HP f o o=[]:=by
 unfold HP;rw[AEh];rfl
theorem Sc {α β:Type} (f:α->β) {l:List α} (d:α) (e:β) {i:Nat} (h:i<l.length):(l.map f).getD i e=f (l.getD i d):=by
 simp[AS,AT h]
structure ADf (Q:List AD) (o1:List Int) (L:List (Int×Int)) (j:Nat) (oo:Nat->List Int):Prop where
 zero:oo 0=o1
 succ:∀i,i<L.length->oo (i+1)=AX Q j (oo i) (0,(L.getD i (0,0)).2)
 dok:∀i,Ji Q (oo i)
 pre:∀i,o1 <+: oo i
 nxt:∀i,oo i <+: oo (i+1)
 tgt:∀i,∀a∈L.take i,a.2∈oo i
 cls:∀i,∀x∈oo i,x∈o1\/∀a∈(Q.getD x.toNat (0,[])).2,a.2∈oo i
 last:oo L.length=L.foldl (AX Q j) o1
theorem A7V {Q:List AD} (c:AN Q) {b:List Int} {L:List (Int×Int)} {j:Nat} (f:∀a∈L,0<=a.2/\a.2<(Q.length:Int)) (h1:Ji Q b) (g:Q.length-b.length<=j):ADf Q b L j (λi=>(L.take i).foldl (AX Q j) b):=by
 have hl:=λi=>λa (ha:a∈L.take i)=>f a (S4 ha);have hs:∀i,i<L.length->(L.take (i+1)).foldl (AX Q j) b=AX Q j ((L.take i).foldl (AX Q j) b) (0,(L.getD i (0,0)).2):=λi hi=>KF (AX Q j) L (0,0) b hi;have d:=λi=>EH (DW c j) (L.take i) b (hl i) h1;refine⟨rfl,hs,λi=>(d i).1,λi=>(d i).2,λi=>?_,λi=>(Qt c j _ b (hl i) h1 g).1,λi=>(Qt c j _ b (hl i) h1 g).2,by simp only[RD]⟩;by_cases h:i<L.length
 .show _ <+: (L.take (i+1)).foldl (AX Q j) b;rw[hs i h];have k:=f _ (AE L (0,0) h);exact(EH (DW c j) [(0,(L.getD i (0,0)).2)] _ (λa ha=>by
   have e:a=(0,(L.getD i (0,0)).2):=by simpa using ha
   subst e;exact k) (d i).1).2
 show (L.take i).foldl (AX Q j) b <+: (L.take (i+1)).foldl (AX Q j) b;rw[At (by omega),At (by omega)];exact ADy _
theorem A7W {α:Type} (l:List α) (x y:α) (t:List α) {k:Nat} (hk:k=l.length):(l++[x]++t).set k y=l++y :: t:=by
 subst hk;rw[RN,AEs _ _ (by omega),AE5];rfl
theorem A17 {Q:List AD} {o a:List Int} {n:Int} (h:o++[n] <+: a):HP Q o a=Cj Q a n :: HP Q (o++[n]) a:=by
 obtain⟨t,rfl⟩:=h;unfold HP;rw[AEG,RN,AEG];rfl
def uO (h:AG) (p ty:List Int) (ar:List (List (Int×Int))) (M:List Int) (out:List AD):List (Nat×Obj):=[(101,.box 111 true [.p Dn h,.sr 102 T3 0 p.length,.sr 103 T3 0 ty.length,.sr 104 Cm 0 ar.length]),(102,.arr 3 T3 p),(103,.arr 3 T3 ty),(104,.arr 91 Cm ar),(105,.box 108 false [.bp 101 [] 0]),(106,.box 61 false [.sr 107 T3 0 M.length]),(107,.arr 3 T3 M),(108,.box 25 true [.sr 109 Hd 0 out.length]),(109,.arr 93 Hd out),(110,.box 174 false [.clo 137 [105,106,108,110]])]
def A9O (h:AG) (p0 ty:List Int) (ar:List (List (Int×Int))) (k:Nat):Prop:=∀(p o:List Int) (out:List AD) (n:Int),(∃b,Fo p b)->Eo p0 p->Ji (quo p0 ty ar) o->out.length=o.length->0<=n->n<(p0.length:Int)->p0.length-o.length<=k ->
 A9 Tryz.prog 137 [.p T3 n,.bp 105 [] 0,.bp 106 [] 0,.bp 108 [] 0,.bp 110 [] 0] (uO h p ty ar (LJ p0.length o) out) [101,105,106,108,110]
  (λres c=>∃a,(∃b,Fo a b)/\Eo p0 a/\res=.p T3 (Bv (AX (quo p0 ty ar) k o (0,ED p0 n)) (ED p0 n))/\c=uO h a ty ar (LJ p0.length (AX (quo p0 ty ar) k o (0,ED p0 n))) (out++HP (quo p0 ty ar) o (AX (quo p0 ty ar) k o (0,ED p0 n))))
theorem jF (h:AG) {p0 ty:List Int} {ar:List (List (Int×Int))} (ai:∃m,Fo p0 m) (v:AN (quo p0 ty ar)) (aw:ty.length=p0.length) (ae:ar.length=p0.length) (ag:∀k,∀a∈ar.getD k [],0<=a.2/\a.2<(p0.length:Int)) (k:Nat) (ay:∀j,k=j+1->A9O h p0 ty ar j):A9O h p0 ty ar k:=by
 intro p o out n aj F O y n0 n1 hk;obtain⟨m,fo⟩:=aj;obtain⟨bj,L⟩:=ai;have U:=PU L n0 n1;have d:=GB L n0 n1 U;have hp:=v.1;rw[Ez]at hp;have C:=XL p0.length o;generalize bd:ED p0 n=b at *;refine KY [0,1,2,3,4,6,7,8,10,18,49,50,51,52] [] [] Tryz.func137 Tryz.ntmps137 AH ?_;intro w0 K O0 ρ0 f be bf;simp only[uO,Ak];repeat'(first|exact trivial|apply eS rfl|refine rX f ?_ ?_)
 refine cP 2 f ?_ ?_
 .trivial
 refine rM f (cJ h ty ar m fo n0 (by rw[<-F.1];exact n1)) [(1,.nm 101),(2,.nm 102),(3,.nm 103),(4,.nm 104)] [102,103,104] ?_ ?_ ?_
 .exact eN
 .simp only[Tu];exact eN
 rintro _ _ ⟨u,bi,rfl,rfl,M,bc,ba⟩;have aa:=F.trans bc;have e:=((F.2 n b n0 n1).1 U).det ba;subst e;refine⟨[(101,.nm 1),(102,.nm 2),(103,.nm 3),(104,.nm 4)],.p T3 b,[(101,.box 111 true [.p Dn h,.sr 102 T3 0 u.length,.sr 103 T3 0 ty.length,.sr 104 Cm 0 ar.length]),(102,.arr 3 T3 u),(103,.arr 3 T3 ty),(104,.arr 91 Cm ar)],rfl,rfl,?_,?_,rfl,rfl,?_⟩
 .simp only[Tu];exact eN
 .exact eN
 refine rL f ?_ ?_
 .trivial
 repeat'(first|exact trivial|apply eS rfl|refine rX f ?_ ?_|refine rC ?_ ?_<;>intro l<;>try(cases l;done))
 .exact⟨d.1,by rw[C];exact d.2⟩
 .exact⟨d.1,by rw[C];exact d.2⟩
 .rw[XM d.1 d.2]at l;have B:b∈o:=FT λe=>by rw[As e]at l;omega
  have W:AX (quo p0 ty ar) k o (0,b)=o:=BY B;have A:Bv o b=(LJ p0.length o).getD b.toNat 0:=by
   rw[XM d.1 d.2,BY B];unfold Bv;rw[BY B]
  refine Ev.ent (σ':=⟨[(6,.p T3 (Bv o b))],uO h u ty ar (LJ p0.length o) out⟩) ?_ (AC [(101,.nm 101),(102,.nm 102),(103,.nm 103),(104,.nm 104),(105,.nm 105),(106,.nm 106),(107,.nm 107),(108,.nm 108),(109,.nm 109),(110,.nm 110)] rfl rfl ?_ ?_)
  .refine fM f [.tmp 6] (.p T3 (Bv o b)) eT ⟨u,⟨m,M⟩,aa,by rw[W],?_⟩;rw[W,ZZ,Ra];rfl
  .unfold uO;exact eN
  refine eM ?_;exact A.symm
 .exact⟨d.1,by rw[C];exact d.2⟩
 .refine⟨⟨d.1,by rw[aw];exact d.2⟩,?_⟩;have:=O.len;rw[Ez]at this;simp only[AO];omega
 .exact⟨d.1,by rw[ae];exact d.2⟩
 rw[XM d.1 d.2]at l;have w:b∉o:=λe=>by rw[BY e]at l;omega
 have N:=O.snoc d.1 (by rw[Ez];exact d.2) w;have an:=N.len;rw[Ez,By,IS]at an;obtain⟨j,rfl⟩:∃j,k=j+1:=⟨k-1,by omega⟩;have am:=ay j rfl;have x:=NV (p:=p0) (ty:=ty) (ar:=ar) d.1 d.2;have ax:=λa (ha:a∈ar.getD b.toNat [])=>ag b.toNat a ha;have bg:(ar.getD b.toNat []).length<=100000:=by
  have:=(v.2 _ (AE (quo p0 ty ar) (0,[]) (k:=b.toNat) (by rw[Ez];omega))).1;rw[x,OR]at this;exact this
 have ad:∀a∈((ar.getD b.toNat []).map λa=>(a.1,ED p0 a.2)),0<=a.2/\a.2<((quo p0 ty ar).length:Int):=λa ha=>by
  refine Ay v (n:=b) ?_;rw[x];exact ha
 obtain⟨c,g⟩:∃c,ADf (quo p0 ty ar) (o++[b]) ((ar.getD b.toNat []).map λa=>(a.1,ED p0 a.2)) j c:=⟨_,A7V v (j:=j) ad N (by rw[Ez,By,IS];omega)⟩;have G:AX (quo p0 ty ar) (j+1) o (0,b)=((ar.getD b.toNat []).map λa=>(a.1,ED p0 a.2)).foldl (AX (quo p0 ty ar) j) (o++[b]):=by
  unfold AX;rw[As w];show Ca (quo p0 ty ar) (j+1) o b=_;rw[Bu,x];rfl
 rw[<-g.last,OR]at G;have ap:=λ(i:Nat) (hi:i<(ar.getD b.toNat []).length)=>show (((ar.getD b.toNat []).map λa=>(a.1,ED p0 a.2)).getD i (0,0))=(((ar.getD b.toNat []).getD i (0,0)).1,ED p0 ((ar.getD b.toNat []).getD i (0,0)).2) by
  exact Sc (λa:Int×Int=>(a.1,ED p0 a.2)) (0,0) (0,0) hi
 rw[y,A42 d.1 d.2 w];generalize bh:ar.getD b.toNat []=xs at *;refine AK (ι:={s:Nat×List Int//s.1<=xs.length/\(∃m,Fo s.2 m)/\Eo p0 s.2}) (λs=>⟨[(0,.p T3 b),(1,.bp 105 [] 0),(2,.bp 106 [] 0),(3,.bp 108 [] 0),(4,.bp 110 [] 0),(7,.p (.int .i64) (o.length:Int)),(8,.sr 64 AU 0 ((xs.take s.1.1).map λa=>(a.1,Bv (c s.1.1) (ED p0 a.2))).length),(49,.p Cm xs),(50,.p (.int .i64) (xs.length:Int)),(51,.p (.int .i64) (s.1.1:Int))],uO h s.1.2 ty ar (LJ p0.length (c s.1.1)) (out++[(ty.getD b.toNat 0,[])]++HP (quo p0 ty ar) (o++[b]) (c s.1.1))++[(64,.arr 106 AU ((xs.take s.1.1).map λa=>(a.1,Bv (c s.1.1) (ED p0 a.2))))]⟩) (λs=>xs.length-s.1.1) ⟨(0,u),NO _,⟨m,M⟩,aa⟩ (AC [(101,.nm 101),(102,.nm 102),(103,.nm 103),(104,.nm 104),(105,.nm 105),(106,.nm 106),(107,.nm 107),(108,.nm 108),(109,.nm 109),(110,.nm 110),(64,.nil)] rfl rfl ?_ ?_) (λs=>?_)
 .unfold uO;simp only[g.zero,ZZ,Ra];refine eM ?_;exact⟨by rw[XL,XL],y.symm⟩
 .exact eN
 obtain⟨⟨i,q⟩,hi,⟨Z,P⟩,V⟩:=s;have E:=g.pre i;have z:=g.dok i;have au:=E.length_le;have ah:=z.len;rw[By,IS]at au;rw[Ez]at ah;have R:(out++[(ty.getD b.toNat 0,[])]++HP (quo p0 ty ar) (o++[b]) (c i)).length=(c i).length:=by
  unfold HP;simp only[By,IS,OR,S0];omega
 have S:out.length+1+(HP (quo p0 ty ar) (o++[b]) (c i)).length=(c i).length:=by
  rw[<-R,By,By,IS]
 simp only[uO];repeat'(first|exact trivial|apply eS rfl|refine rX f ?_ ?_|refine rC ?_ ?_<;>intro l<;>try(cases l;done))
 .exact l
 .have r:i<xs.length:=IN.1 l;have Y:=ax _ (AE xs (0,0) r);have X:=g.succ i (by rw[OR];exact r);rw[ap i r]at X;have af:=A43 E (g.nxt i) (g.cls i) z.nd;have av:=g.pre (i+1);have T:out.length+1+(HP (quo p0 ty ar) (o++[b]) (c (i+1))).length=(c (i+1)).length:=by
   have h1:=av.length_le;rw[By,IS]at h1;unfold HP;simp only[By,IS,OR,S0];omega
  have J:((xs.take i).map λa=>(a.1,Bv (c i) (ED p0 a.2)))++[((xs.getD i (0,0)).1,Bv (c (i+1)) (ED p0 (xs.getD i (0,0)).2))]=(xs.take (i+1)).map λa=>(a.1,Bv (c (i+1)) (ED p0 a.2)):=by
   rw[CL _ xs (0,0) r]
   congr 1
   refine RI λa ha=>?_;obtain⟨t,H⟩:=g.nxt i;rw[<-H,XO (g.tgt i (a.1,ED p0 a.2) (by rw[<-List.map_take];exact GO.2 ⟨a,ha,rfl⟩))]
  rw[S];refine CA drawsAny f 10 [([3,4,5],6),([1,2],7),([],8),([0],9)] [] (by kernel_rfl) (KX ?_ ?_)
  .trivial
  refine mxC f (am q (c i) (out++[(ty.getD b.toNat 0,[])]++HP (quo p0 ty ar) (o++[b]) (c i)) (xs.getD i (0,0)).2 ⟨Z,P⟩ V z R Y.1 Y.2 (by omega)) [(101,.nm 101),(102,.nm 102),(103,.nm 103),(104,.nm 104),(105,.nm 105),(106,.nm 106),(107,.nm 107),(108,.nm 108),(109,.nm 109),(110,.nm 110)] [102,103,104,107,109] ?_ ?_ ?_
  .exact eN
  .simp only[uO];refine eM ?_;exact S.symm
  rintro _ _ ⟨I,⟨az,ab⟩,bb,rfl,rfl⟩;rw[<-X,RN _ _ (HP _ (c i) _),af];refine⟨[(101,.nm 101),(102,.nm 102),(103,.nm 103),(104,.nm 104),(105,.nm 105),(106,.nm 106),(107,.nm 107),(108,.nm 108),(109,.nm 109),(110,.nm 110)],.p T3 (Bv (c (i+1)) (ED p0 (xs.getD i (0,0)).2)),[(101,.box 111 true [.p Dn h,.sr 102 T3 0 I.length,.sr 103 T3 0 ty.length,.sr 104 Cm 0 ar.length]),(102,.arr 3 T3 I),(103,.arr 3 T3 ty),(104,.arr 91 Cm ar),(105,.box 108 false [.bp 101 [] 0]),(106,.box 61 false [.sr 107 T3 0 (LJ p0.length (c (i+1))).length]),(107,.arr 3 T3 (LJ p0.length (c (i+1)))),(108,.box 25 true [.sr 109 Hd 0 (c (i+1)).length]),(109,.arr 93 Hd (out++[(ty.getD b.toNat 0,[])]++HP (quo p0 ty ar) (o++[b]) (c (i+1)))),(110,.box 174 false [.clo 137 [105,106,108,110]])],rfl,rfl,?_,?_,rfl,rfl,rfl,?_⟩
  .simp only[uO];refine eM ?_;exact T
  .exact eN
  refine KX ?_ ?_
  .trivial
  refine NJ f [] ?_ ?_
  .trivial
  refine KX ?_ ?_
  .trivial
  refine NJ f [] ?_ ?_
  .trivial
  refine KX ?_ ?_
  .trivial
  refine NJ f [64] ?_ ?_
  .rw[OR,OS];simp only[AO];omega
  refine Re f ?_ ?_ ?_
  .trivial
  .trivial
  repeat'(first|apply eS rfl|apply AB|refine rX f ?_ ?_)
  .exact eV
  refine⟨⟨(i+1,I),r,⟨az,ab⟩,bb⟩,by simp only;omega,AC [(101,.nm 101),(102,.nm 102),(103,.nm 103),(104,.nm 104),(105,.nm 105),(106,.nm 106),(107,.nm 107),(108,.nm 108),(109,.nm 109),(110,.nm 110),(64,.nm 64)] rfl rfl ?_ ?_⟩
  .simp only[uO,<-J];refine eM ?_;exact T.symm
  simp only[<-J];exact eN
 .exact IN.2 (by omega)
 have al:i=xs.length:=by
  have:=RJ.1 l;omega
 subst al;obtain⟨t,H⟩:=E;have A:Bv (c xs.length) b=(o.length:Int):=by
  rw[<-H,XO (by simp)];unfold Bv;rw[BY (by simp),XN w]
 have aq:Cj (quo p0 ty ar) (c xs.length) b=(ty.getD b.toNat 0,xs.map λa=>(a.1,Bv (c xs.length) (ED p0 a.2))):=by
  unfold Cj;rw[x];simp only[nO];rfl
 have ak:(out++[(ty.getD b.toNat 0,([]:List (Int×Int)))]++HP (quo p0 ty ar) (o++[b]) (c xs.length)).getD o.length (0,[])=(ty.getD b.toNat 0,[]):=by
  rw[<-y];simp[AS]
 have D:=A17 (Q:=quo p0 ty ar) (g.pre xs.length);rw[aq]at D;rw[RD,ak,A7W out _ _ _ y.symm,<-D];have ao:out.length+1+(HP (quo p0 ty ar) (o++[b]) (c xs.length)).length=(out++HP (quo p0 ty ar) o (c xs.length)).length:=by
  rw[D];simp only[By,No];omega
 rw[ao];refine Ev.ent (σ':=⟨[(6,.p T3 (Bv (c xs.length) b))],uO h q ty ar (LJ p0.length (c xs.length)) (out++HP (quo p0 ty ar) o (c xs.length))⟩) ?_ (AC [(101,.nm 101),(102,.nm 102),(103,.nm 103),(104,.nm 104),(105,.nm 105),(106,.nm 106),(107,.nm 107),(108,.nm 108),(109,.nm 109),(110,.nm 110)] rfl rfl ?_ ?_)
 .exact fM f [.tmp 6] (.p T3 (Bv (c xs.length) b)) eT ⟨q,⟨Z,P⟩,V,by rw[G],by rw[G];rfl⟩
 .unfold uO;exact eN
 refine eM ?_;exact A.symm
theorem A44 (h:AG) {p0 ty:List Int} {ar:List (List (Int×Int))} (f:∃i,Fo p0 i) (b:AN (quo p0 ty ar)) (g:ty.length=p0.length) (c:ar.length=p0.length) (d:∀k,∀a∈ar.getD k [],0<=a.2/\a.2<(p0.length:Int)):∀k,A9O h p0 ty ar k
 | 0=>jF h f b g c d 0 (λj e=>by cases e)
 | k+1=>jF h f b g c d (k+1) (λj e=>by cases e;exact A44 h f b g c d k)
theorem A45 (len:Nat):LJ len []=List.replicate len (-1):=by
 unfold LJ;apply iS
 .simp
 intro i h1 a;simp
theorem A46 {α:Type} (x y:α) {n i:Nat} (h:i<n):(List.replicate i x++List.replicate (n-i) y).set i x=List.replicate (i+1) x++List.replicate (n-(i+1)) y:=by
 obtain⟨m,a⟩:∃m,n-i=m+1:=⟨n-i-1,by omega⟩;have b:n-(i+1)=m:=by omega
 rw[a,b,AEs _ _ (by simp),AF2,AE5,AFa,AEV,List.replicate_succ',RN];rfl
theorem jG (h:AG) {p ty:List Int} {ar:List (List (Int×Int))} (g:∃w,Fo p w) (f:AN (quo p ty ar)) (t:ty.length=p.length) (m:ar.length=p.length) (n:∀k,∀a∈ar.getD k [],0<=a.2/\a.2<(p.length:Int)) {r:Int} (u:0<=r) (v:r<(p.length:Int)) :
  A9 Tryz.prog 87 [.bp 101 [] 0,.p T3 r] (Uv h p ty ar) [101]
  (λres _=>res=.p DE (AL (quo p ty ar) (ED p r))):=by
 have d:=A44 h g f t m n p.length p [] [] r g (Eo.refl p) ⟨by simp,λx hx=>by cases hx⟩ rfl u v (by simp);have o:HP (quo p ty ar) [] (AX (quo p ty ar) p.length [] (0,ED p r))=AL (quo p ty ar) (ED p r):=by
  have e:AX (quo p ty ar) p.length [] (0,ED p r)=Ca (quo p ty ar) p.length [] (ED p r):=As (by simp);rw[e];unfold HP AL;rw[Ez];rfl
 rw[ADP,o,A45]at d;have s:=f.1;rw[Ez]at s;generalize AL (quo p ty ar) (ED p r)=G at *;generalize Bv _ _=z at d;generalize LJ _ _=M at d;refine KY [0,1,2,4,5,6,7,8,16,17,18] [] [] Tryz.func87 Tryz.ntmps87 AH ?_;intro w0 K O0 ρ0 b A B;simp only[Uv,Ak];repeat'(first|exact trivial|apply eS rfl|refine rX b ?_ ?_)
 .simp only[AO];omega
 refine AK (ι:={i:Nat//i<=p.length}) (λi=>⟨[(0,.bp 101 [] 0),(1,.p T3 r),(2,.bp 2 [] 0),(4,.bp 4 [] 0),(5,.bp 5 [] 0),(16,.p (.int .i64) (p.length:Int)),(17,.p (.int .i64) (i.1:Int))],[(5,.box 61 false [.sr 14 T3 0 p.length]),(14,.arr 3 T3 (List.replicate i.1 (-1)++List.replicate (p.length-i.1) 0)),(4,.box 25 true [.raw (.slice none 0 0)]),(2,.box 108 false [.bp 101 [] 0]),(101,.box 111 true [.p Dn h,.sr 102 T3 0 p.length,.sr 103 T3 0 ty.length,.sr 104 Cm 0 ar.length]),(102,.arr 3 T3 p),(103,.arr 3 T3 ty),(104,.arr 91 Cm ar)]⟩) (λi=>p.length-i.1) ⟨0,by omega⟩ (AC [(5,.nm 5),(14,.nm 14),(4,.nm 4),(2,.nm 2),(101,.nm 101),(102,.nm 102),(103,.nm 103),(104,.nm 104)] rfl rfl ?_ ?_) (λi=>?_)
 .refine eM ?_;rfl
 .exact eN
 obtain⟨i,hi⟩:=i;simp only;repeat'(first|exact trivial|apply eS rfl|apply AB|refine rX b ?_ ?_|refine rC ?_ ?_<;>intro c<;>try(cases c;done))
 .exact c
 .exact eV
 .have j:i<p.length:=IN.1 c;refine⟨⟨i+1,j⟩,by simp only;omega,AC [(5,.nm 5),(14,.nm 14),(4,.nm 4),(2,.nm 2),(101,.nm 101),(102,.nm 102),(103,.nm 103),(104,.nm 104)] rfl rfl ?_ ?_⟩
  .refine eM ?_;exact A46 _ _ j
  exact eN
 have q:i=p.length:=by
  have:=RJ.1 c;omega
 subst q;rw[AE5,List.replicate_zero,Ra];refine cP 2 b ?_ ?_
 .trivial
 refine rM b (d) [(101,.nm 101),(102,.nm 102),(103,.nm 103),(104,.nm 104),(105,.nm 2),(106,.nm 5),(107,.nm 14),(108,.nm 7),(109,.nil),(110,.nm 8)] [102,103,104,14] ?_ ?_ ?_
 .exact eN
 .simp only[uO];refine eM ?_;exact AF2.symm
 rintro _ _ ⟨l,y,C,rfl,rfl⟩;refine⟨[(101,.nm 101),(102,.nm 102),(103,.nm 103),(104,.nm 104),(2,.nm 105),(5,.nm 106),(14,.nm 107),(7,.nm 108),(120,.nm 109),(8,.nm 110)],.p T3 z,[(101,.box 111 true [.p Dn h,.sr 102 T3 0 l.length,.sr 103 T3 0 ty.length,.sr 104 Cm 0 ar.length]),(102,.arr 3 T3 l),(103,.arr 3 T3 ty),(104,.arr 91 Cm ar),(2,.box 108 false [.bp 101 [] 0]),(5,.box 61 false [.sr 14 T3 0 M.length]),(14,.arr 3 T3 M),(7,.box 25 true [.sr 120 Hd 0 G.length]),(120,.arr 93 Hd G),(8,.box 174 false [.clo 137 [2,5,7,8]])],rfl,rfl,?_,?_,rfl,rfl,BV ?_⟩
 .simp only[uO];exact eN
 .exact eN
 refine F0 [120] ?_;repeat'(first|exact trivial|apply eS rfl|refine rX b ?_ ?_)
 exact fM b [.cell 4 25] (.p DE G) eT rfl
structure ADg (f:List AD) (r:Int) (o:List Int):Prop where
 ok:Ji f o
 zero:o.getD 0 0=r/\0<o.length
 cl:∀n∈o,∀a∈AP f n,a.2∈o
theorem Hf {f:List AD} (hf:AN f) {r:Int} (b:0<=r) (c:r<(f.length:Int)):ADg f r (Ca f f.length [] r):=by
 have h1:=DW hf f.length [] r (F8 f) b c (by simp);have d:=IZ hf f.length [] r (F8 f) b c (by simp) (by simp);have e:[r] <+: Ca f f.length [] r:=by
  obtain⟨k,hk⟩:∃k,f.length=k+1:=⟨f.length-1,by omega⟩;rw[hk,Bu];exact(EH (DW hf k) _ _ (λa ha=>Ay hf ha) ((F8 f).snoc b c (by simp))).2
 refine⟨h1.1,?_,λn hn a ha=>?_⟩
 .obtain⟨t,g⟩:=e;rw[<-g];exact⟨rfl,by simp⟩
 rcases d.2 n hn with h|h
 .cases h
 exact h a ha
theorem Id {f:List AD} {r:Int} {i:Nat} (hi:i<(Ca f f.length [] r).length):(AL f r).getD i (0,[])=Cj f (Ca f f.length [] r) ((Ca f f.length [] r).getD i 0):=by
 unfold AL;simp[AS,hi]
theorem Ie (f:List AD) (r:Int):(AL f r).length=(Ca f f.length [] r).length:=by simp[AL]
def Ag (f g:List AD):List AD:=f++g.map λx=>(x.1,AY f.length x.2)
theorem CG (f g:List AD):(Ag f g).length=f.length+g.length:=by simp[Ag]
theorem PW {f g:List AD} {x:Int} (a:0<=x) (b:x<(f.length:Int)):(Ag f g).getD x.toNat (0,[])=f.getD x.toNat (0,[]):=by
 unfold Ag;rw[AS,AS,RZ (by omega)]
theorem Mf {f g:List AD} {y:Int} (a:0<=y) (b:y<(g.length:Int)):(Ag f g).getD ((f.length:Int)+y).toNat (0,[])=((g.getD y.toNat (0,[])).1,AY f.length (g.getD y.toNat (0,[])).2):=by
 unfold Ag;have e:((f.length:Int)+y).toNat=f.length+y.toNat:=by omega
 rw[e,AS,RW (by omega),AEU];rw[<-AS];exact Sc (λx:AD=>(x.1,AY f.length x.2)) (0,[]) (0,[]) (by omega)
theorem yO {n:Nat} {p:List Int} {x y:Int} (h:EG n p [] x y):ED p x=ED p y:=by
 induction h with
 | cls _ _ _ _ h g=>rw[cM h,cM g]
 | wt h=>cases h
 | symm _ a=>exact a.symm
 | trans _ _ b c=>exact b.trans c
noncomputable abbrev Nj (p ty:List Int) (ar:List (List (Int×Int))):List Int:=Ca (quo p ty ar) (quo p ty ar).length [] (ED p 0)
structure A8U (h:AG) (N:List AD) (P:List (Int×Int)) (U:List AD) (v:Int->Int):Prop where
 good:AN U
 pos:0<U.length
 str:∀x∈U,Li x.2
 feat:∀x∈U,∀a∈x.2,a.1∈Cw N
 ty:Cc h U
 ro:RO U
 zero:v 0=0
 proj:LI h N P U v
 least:∀X w,Cc h X->LI h N P X w->w 0=0->∃m,HH h U X m
 len:U.length<=N.length
section
variable {h:AG} {N:List AD} {P:List (Int×Int)} {p ty:List Int} {ar:List (List (Int×Int))}
theorem Sd (a:JI h N P p ty ar []) (b:AN (quo p ty ar)) (c:0<N.length):ADg (quo p ty ar) (ED p 0) (Nj p ty ar):=by
 obtain⟨d,fo⟩:=a.fo;have lp:=a.lp;have:=GB fo (x:=0) (by omega) (by omega) (PU fo (by omega) (by omega));exact Hf b this.1 (by rw[Ez];exact this.2)
theorem PX (d:JI h N P p ty ar []) (c:AN (quo p ty ar)) (b:0<N.length):ED p 0∈Nj p ty ar:=by
 have a:=Sd d c b;have:=AE (Nj p ty ar) 0 a.zero.2;rw[a.zero.1]at this;exact this
theorem XP (a:JI h N P p ty ar []) {x y:Int} (b:(x,y)∈P) (hx:ED p x∈Nj p ty ar):ED p y∈Nj p ty ar:=by
 rw[<-yO (a.sp (x,y) b)];exact hx
theorem o5 (b:JI h N P p ty ar []) (f:AN (quo p ty ar)) (e:0<N.length) {x:Int} (c:0<=x) (j:x<(N.length:Int)) (hx:ED p x∈Nj p ty ar) {a:Int×Int} (ha:a∈AP N x):ED p a.2∈Nj p ty ar:=by
 obtain⟨k,fo⟩:=b.fo;have lp:=b.lp;obtain⟨t,i,g⟩:=b.sa x _ c j (PU fo c (by omega)) a ha;rw[yO g];have d:=GB fo c (by omega) (PU fo c (by omega));refine(Sd b f e).cl _ hx (a.1,ED p t) ?_;rw[AP,NV d.1 d.2];exact GO.2 ⟨(a.1,t),i,rfl⟩
def cN (N:List AD) (k:Nat) (g:List AD):Prop:=∀i:Int,0<=i->i<(g.length:Int)->(k:Int)+i<(N.length:Int)/\N.getD ((k:Int)+i).toNat (0,[])=((g.getD i.toNat (0,[])).1,AY k (g.getD i.toNat (0,[])).2)
theorem Ig (m:JI h N P p ty ar []) (f:AN (quo p ty ar)) (e:0<N.length) {k:Nat} {g:List AD} (l:cN N k g) (r:RO g) (hk:ED p (k:Int)∈Nj p ty ar):∀(n:Nat) (i:Int),i.toNat<=n->0<=i->i<(g.length:Int)->ED p ((k:Int)+i)∈Nj p ty ar:=by
 intro n;induction n with
 | zero =>
  intro i hn o c;have:i=0:=by omega
  subst this;rw[AE7];exact hk
 | succ n q =>
  intro i hn o c;by_cases hi:i=0
  .subst hi;rw[AE7];exact hk
  obtain⟨j,d,s,a,ha,rfl⟩:=r i (by omega) c;have b:=l j d (by omega);have:=o5 m f e (x:=(k:Int)+j) (by omega) b.1 (q j (by omega) d (by omega)) (a:=(a.1,a.2+(k:Int))) (by
   rw[AP,b.2];exact GO.2 ⟨a,ha,rfl⟩)
  rw[AFn];exact this
end
theorem Mg {h:AG} {N:List AD} {P:List (Int×Int)} {e:List AD} {v:Int->Int} (hx:LI h N P e v) {k:Nat} {g:List AD} (d:cN N k g) (f:v (k:Int)=0):HH h g e λi=>v ((k:Int)+i):=by
 refine⟨by show v ((k:Int)+0)=0;rw[AE7];exact f,λi b c=>?_,λi b c=>?_,λi b c a ha=>?_⟩
 .exact hx.rng _ (by omega) (d i b c).1
 .have:=hx.ty _ (by omega) (d i b c).1;rw[(d i b c).2]at this;exact this
 have:=hx.arc _ (by omega) (d i b c).1 (a.1,a.2+(k:Int)) (by
  rw[AP,(d i b c).2];exact GO.2 ⟨a,ha,rfl⟩)
 rw[AFn (k:Int) a.2];exact this
theorem Db {h:AG} {g X:List AD} {m:Int->Int} (a:HH h g X m):LI h g [] X m:=⟨a.rng,a.ty,a.arc,λq b=>by cases b⟩
theorem Mh {h:AG} {f g X:List AD} (hf:AN f) (k:AN g) {v w:Int->Int} (h1:LI h f [] X v) (e:LI h g [] X w):LI h (Ag f g) [] X (λx=>if x<(f.length:Int) then v x else w (x-(f.length:Int))):=by
 have hl:=CG f g;refine⟨λx c d=>?_,λx c d=>?_,λx c d a ha=>?_,λq l=>by cases l⟩
 .rw[hl]at d;show _/\_;try simp only
  split
  .exact h1.rng x c (by assumption)
  exact e.rng _ (by omega) (by omega)
 .rw[hl]at d;try simp only
  by_cases hx:x<(f.length:Int)
  .rw[BY hx,PW c hx];exact h1.ty x c hx
  rw[As hx];have:=Mf (f:=f) (g:=g) (y:=x-(f.length:Int)) (by omega) (by omega);rw[show (f.length:Int)+(x-(f.length:Int))=x by omega]at this;rw[this];exact e.ty _ (by omega) (by omega)
 rw[hl]at d;try simp only
 by_cases hx:x<(f.length:Int)
 .rw[BY hx];rw[AP,PW c hx]at ha;have j:=Ay hf ha;rw[BY j.2];exact h1.arc x c hx a ha
 rw[As hx];have:=Mf (f:=f) (g:=g) (y:=x-(f.length:Int)) (by omega) (by omega);rw[show (f.length:Int)+(x-(f.length:Int))=x by omega]at this;rw[AP,this]at ha;obtain⟨b,i,rfl⟩:=GO.1 ha;have j:=Ay k i;rw[As (by simp only;omega)];try simp only
 rw[show b.2+(f.length:Int)-(f.length:Int)=b.2 by omega];exact e.arc _ (by omega) (by omega) b i
theorem cO {h:AG} {N X:List AD} {P:List (Int×Int)} {v:Int->Int} (h1:LI h N [] X v) (a:∀q∈P,v q.1=v q.2):LI h N P X v:=⟨h1.rng,h1.ty,h1.arc,a⟩
theorem KJ {N f g:List AD} {k:Nat} (h:cN f k N):cN (Ag f g) k N:=by
 intro i a b;have:=h i a b;rw[CG,PW (by omega) this.1];exact⟨by omega,this.2⟩
theorem Se {f:List AD}:cN f 0 f:=by
 intro i c b;rw[show ((0:Nat):Int)+i=i by omega];refine⟨b,?_⟩;have:AY 0 (f.getD i.toNat (0,[])).2=(f.getD i.toNat (0,[])).2:=by
  unfold AY;rw[RI (g:=id) (λa _=>by show (a.1,a.2+((0:Nat):Int))=a;rw[Int.natCast_zero,AE7]),List.map_id]
 rw[this]
theorem LK {f g:List AD}:cN (Ag f g) f.length g:=by
 intro i a b;rw[CG,Mf a b];exact⟨by omega,rfl⟩
set_option maxHeartbeats 1000000 in
theorem A47 {h:AG} {N:List AD} {P:List (Int×Int)} {p ty:List Int} {ar:List (List (Int×Int))} (K:JI h N P p ty ar []) (D:AN (quo p ty ar)) (M:0<N.length) (G:∀x,0<=x->x<(N.length:Int)->ED p x∈Nj p ty ar) :
  A8U h N P (AL (quo p ty ar) (ED p 0)) (λx=>Bv (Nj p ty ar) (ED p x)):=by
 have n:=Sd K D M
 have ae:=PX K D M
 obtain⟨nty,⟨au,fo⟩,lp,lt,la,wr,tyr,arr,srt,sp,st,sa,co⟩:=K
 have ai:=Ez p ty ar
 have u:=λ{x:Int} (B:0<=x) (C:x<(N.length:Int))=>PU fo B (by rw[lp];exact C)
 have I:=λ{x:Int} (B:0<=x) (C:x<(N.length:Int))=>GB fo B (by rw[lp];exact C) (u B C)
 have J:=Ie (quo p ty ar) (ED p 0)
 have Z:=λi=>Id (f:=quo p ty ar) (r:=ED p 0) (i:=i)
 have L:∀x:Int,0<=x->x<(N.length:Int)->AP (quo p ty ar) x=(ar.getD x.toNat []).map λa=>(a.1,ED p a.2):=λx B C=>by
  rw[AP,NV B (by rw[lp];exact C)]
 have s:∀x∈Nj p ty ar,(0<=x/\x<(N.length:Int))/\EP p x=x:=by
  have af:Iso (quo p ty ar) (quo p ty ar) id (λx=>(0<=x/\x<(N.length:Int))/\EP p x=x):=by
   refine⟨λi _=>by simp,λi hi a ha=>?_,λi j _ _ e=>e⟩
   rw[L i hi.1.1 hi.1.2]at ha
   obtain⟨b,l,rfl⟩:=List.mem_map.1 ha
   have c:=(arr _ b l).1
   have:=I c.1 c.2
   rw[lp]at this
   exact⟨this,(u c.1 c.2).root⟩
  have Q:=I (x:=0) (by omega) (by omega)
  rw[lp]at Q
  exact(Ur af _ [] _ (λx hx=>by cases hx) ⟨Q,(u (x:=0) (by omega) (by omega)).root⟩).2
 have ag:=λ(q:Nat)=>Qp D (quo p ty ar).length [] (ED p 0) (F8 _) (I (x:=0) (by omega) (by omega)).1 (by rw[ai];exact(I (x:=0) (by omega) (by omega)).2) (by simp) q
 unfold Nj at n ae G s ⊢
 generalize an:AL (quo p ty ar) (ED p 0)=E at *
 generalize ap:Ca (quo p ty ar) (quo p ty ar).length [] (ED p 0)=o at *
 have w:∀i:Int,0<=i->i<(o.length:Int)->o.getD i.toNat 0∈o/\Bv o (o.getD i.toNat 0)=i:=λi d g=>by
  refine⟨AE o 0 (by omega),?_⟩
  rw[F9 n.ok.nd (by omega)]
  omega
 have z:∀x∈o,E.getD (Bv o x).toNat (0,[])=(ty.getD x.toNat 0,(ar.getD x.toNat []).map λa=>(a.1,Bv o (ED p a.2))):=λx hx=>by
  have al:=DN hx
  have c:=(s x hx).1
  rw[Z _ (by omega),al.2.2]
  unfold Cj
  rw[NV c.1 (by rw[lp];exact c.2),List.map_map]
  rfl
 have O:∀x∈o,∀a∈ar.getD x.toNat [],ED p a.2∈o:=λx hx a ha=>by
  have c:=(s x hx).1
  exact n.cl x hx (a.1,ED p a.2) (by rw[L x c.1 c.2];exact List.mem_map.2 ⟨a,ha,rfl⟩)
 have R:∀k,Li ((ar.getD k []).map λa=>(a.1,Bv o (ED p a.2))):=λk=>by
  unfold Li
  rw[List.pairwise_map]
  exact srt k
 have F:∀x∈E,∃y∈o,x=(ty.getD y.toNat 0,(ar.getD y.toNat []).map λa=>(a.1,Bv o (ED p a.2))):=λx hx=>by
  obtain⟨i,hi,rfl⟩:=Cu (0,[]) hx
  have h1:=w (i:Int) (by omega) (by omega)
  refine⟨_,h1.1,?_⟩
  rw[<-z _ h1.1,h1.2]
  rw[Int.toNat_natCast]
 have ad:Bv o (ED p 0)=0:=by
  have:=F9 n.ok.nd n.zero.2
  rw[n.zero.1]at this
  exact this
 have ao:=n.ok.len
 have am:=D.1
 refine⟨⟨by omega,λx hx=>?_⟩,by rw[J];exact n.zero.2,λx hx=>?_,λx hx a ha=>?_,λx hx=>?_,λi d g=>?_,ad,⟨λi d g=>?_,λi d g=>?_,λi d g a ha=>?_,λq ah=>?_⟩,λX v aa S ak=>?_,by omega⟩
 .obtain⟨y,A,rfl⟩:=F x hx
  have c:=(s y A).1
  refine⟨?_,λa ha=>?_⟩
  .have:=(D.2 _ (AE (quo p ty ar) (0,[]) (k:=y.toNat) (by omega))).1
   rw[NV c.1 (by rw[lp];exact c.2),List.length_map]at this
   simp only[List.length_map]
   exact this
  obtain⟨b,l,rfl⟩:=List.mem_map.1 ha
  have:=DN (O y A b l)
  rw[J]
  exact⟨this.1,this.2.1⟩
 .obtain⟨y,A,rfl⟩:=F x hx
  exact R _
 .obtain⟨y,A,rfl⟩:=F x hx
  obtain⟨b,l,rfl⟩:=List.mem_map.1 ha
  exact(arr _ b l).2
 .obtain⟨y,A,rfl⟩:=F x hx
  have c:=(s y A).1
  exact tyr y c.1 c.2
 . -- in order
  obtain⟨j,aq,a,ha,e⟩:=ag i.toNat (by simp only[List.length_nil];omega) (by omega)
  have h1:=w (j:Int) (by omega) (by omega)
  have V:=w i (by omega) (by omega)
  rw[Int.toNat_natCast]at h1
  have c:=(s _ h1.1).1
  rw[L _ c.1 c.2]at ha
  obtain⟨b,l,rfl⟩:=List.mem_map.1 ha
  refine⟨(j:Int),by omega,by omega,(b.1,Bv o (ED p b.2)),?_,?_⟩
  .have:=z _ h1.1
   rw[h1.2]at this
   rw[AP,this]
   exact List.mem_map.2 ⟨b,l,rfl⟩
  show Bv o (ED p b.2)=i
  simp only at e
  rw[e,V.2]
 .have:=DN (G i d g)
  rw[J]
  exact⟨this.1,this.2.1⟩
 .show Av h _ (E.getD (Bv o (ED p i)).toNat (0,[])).1=true
  rw[z _ (G i d g)]
  exact st i _ d g (u d g)
 .obtain⟨t,aj,ab⟩:=sa i _ d g (u d g) a ha
  have e:=yO ab
  show Bw (AP E (Bv o (ED p i))) a.1=Bv o (ED p a.2)
  rw[e,AP,z _ (G i d g)]
  exact EI (R _) (a:=(a.1,Bv o (ED p t))) (List.mem_map.2 ⟨(a.1,t),aj,rfl⟩)
 .show Bv o (ED p q.1)=Bv o (ED p q.2)
  rw[yO (sp q ah)]
 obtain⟨c1,c2,T,U⟩:=co X v aa S
 refine⟨λi=>v (o.getD i.toNat 0),?_,λi d g=>?_,λi d g=>?_,λi d g a ha=>?_⟩
 .show v (o.getD 0 0)=0
  rw[n.zero.1,<-c1 0 _ (by omega) (by omega) (u (by omega) (by omega))]
  exact ak
 .have m:=w i d (by omega)
  have c:=(s _ m.1).1
  exact S.rng _ c.1 c.2
 .have m:=w i d (by omega)
  have c:=s _ m.1
  have hn:=z _ m.1
  rw[m.2]at hn
  rw[hn]
  exact T _ c.1.1 c.1.2 c.2
 have m:=w i d (by omega)
 have c:=s _ m.1
 have hn:=z _ m.1
 rw[m.2]at hn
 rw[AP,hn]at ha
 obtain⟨b,l,rfl⟩:=List.mem_map.1 ha
 have W:=U _ c.1.1 c.1.2 c.2 b l
 have H:=(arr _ b l).1
 have Y:=DN (O _ m.1 b l)
 simp only
 rw[Y.2.2,<-c1 b.2 _ H.1 H.2 (u H.1 H.2)]
 exact W
def Nrm (c:List Int):Prop:=c.length=0\/c.getD (c.length-1) 0≠0
theorem PY (b:List Int):Nrm (BM b):=by
 unfold Nrm BM;have hl:=WH b b.length;rw[OS,AEd hl];rcases SJ b b.length with h|h
 .exact .inl h
 by_cases h0:Cs b b.length=0
 .exact .inl h0
 right;rw[AS,List.getElem?_take_of_lt (by omega),<-AS];exact h
theorem A7X {a b:List Int} (ha:JJ a) (f:JJ b) (h:∀i,BZ a i=BZ b i) (k:Nat):a.getD k 0=b.getD k 0:=by
 have c:=BC ha k;have d:=BC f k;have j:=c.1;have l:=c.2;have m:=d.1;have o:=d.2;have e:(a.getD k 0).toNat=(b.getD k 0).toNat:=by
  refine Nat.eq_of_testBit_eq λr=>?_;by_cases g:r<64
  .have:=h (64*k+r);unfold BZ at this;rw[show (64*k+r) / 64=k by omega,show (64*k+r) % 64=r by omega]at this;exact this
  have big:∀n:Nat,n<18446744073709551616->n.testBit r=false:=λn hn=>by
   have e:(18446744073709551616:Nat)=2 ^ 64:=by decide
   rw[e]at hn;exact Nat.testBit_lt_two_pow (bY hn (Nat.pow_le_pow_right (by decide) (by omega)))
  rw[big _ (by omega),big _ (by omega)]
 omega
theorem yP {a b:List Int} (d:∀k,a.getD k 0=b.getD k 0) (c:Nrm b):b.length<=a.length:=by
 rcases c with h|h
 .omega
 refine FT λe=>h ?_;rw[<-d];exact G8 (by omega)
theorem A48 {a b:List Int} (ha:JJ a) (e:JJ b) (f:Nrm a) (g:Nrm b) (h:∀i,BZ a i=BZ b i):a=b:=by
 have c:=A7X ha e h;have hl:a.length=b.length:=ADO (yP (λk=>(c k).symm) f) (yP c g);refine iS hl λi h1 d=>?_;have:=c i;simpa[AS,h1,d] using this
theorem jH {α:Type} (l:List α) (x:α) (n:Nat):List.Perm (l.take n++[x]++l.drop n) (x :: l):=by
 have h:l.take n++[x]++l.drop n=l.take n++x :: l.drop n:=by simp
 rw[h];refine AFy.trans ?_;rw[AEe]
def Apt (l:List ByteArray):Prop:=l.Pairwise λa b=>Ac a b=false
theorem Tv {a b:ByteArray} (h:Ac a b=false):Ac b a=false:=by
 cases hh:Ac b a with
 | false=>rfl
 | true=>rw[FN hh]at h;cases h
theorem A49 {l:List ByteArray} {s:ByteArray} (h:Apt l) (hs:∀x∈l,Ac x s=false):Apt (Dx l s):=by
 unfold Dx;split
 .exact h
 refine(List.Perm.pairwise_iff (λa=>Tv a) (jH l s _)).2 ?_;exact Rb.2 ⟨λx hx=>Tv (hs x hx),h⟩
theorem o6 {d:List AJ} (hn:Dy d=0):Apt (AW d):=by
 have key:∀k,k<=d.length->Apt (AW (d.take k))/\∀s∈AW (d.take k),∃i,i<k/\(d.getD i d0).1=s:=by
  intro k;induction k with
  | zero =>
   intro _;exact⟨.nil,λs hs=>by cases hs⟩
  | succ k b =>
   intro hk;obtain⟨h1,a⟩:=b (by omega);have e:AW (d.take (k+1))=Dx (AW (d.take k)) (d.getD k d0).1:=by
    have:d.take (k+1)=d.take k++[d.getD k d0]:=Au d d0 (by omega);rw[this];unfold AW;rw[AEl];rfl
   rw[e];refine⟨A49 h1 λx hx=>?_,λs hs=>?_⟩
   .obtain⟨i,hi,rfl⟩:=a x hx;cases hh:Ac (d.getD i d0).1 (d.getD k d0).1 with
    | false=>rfl
    | true =>
     have g:=Ti d hh;rw[WT hn (j:=i) (by omega),WT hn (j:=k) (by omega)]at g;omega
   rcases Qd hs with hs|hs
   .obtain⟨i,hi,e⟩:=a s hs;exact⟨i,by omega,e⟩
   exact⟨k,by omega,hs.symm⟩
 have:=(key d.length (If _)).1
 rwa [RD]at this
structure Nd (l:List (List Int)):Prop where
 nd:l.Nodup
 nrm:∀c∈l,Nrm c
theorem A7Y {l:List (List Int)} {c:List Int} (h:Nd l) (a:c∉l) (hn:Nrm c):Nd (l++[c]):=by
 refine⟨?_,λx hx=>?_⟩
 .rw[ADA];refine⟨h.nd,by simp,λx hx y b e=>a ?_⟩;have:y=c:=by simpa using b
  rw[<-this,<-e];exact hx
 rcases Is.1 hx with hx|hx
 .exact h.nrm x hx
 have:x=c:=by simpa using hx
 rw[this];exact hn
theorem A7Z {l:List (List Int)} (h:Nd l) (i k:Nat):Nd (HL l i k):=by
 unfold HL;split
 .rename_i a;rw[An,RH]at a;refine A7Y h (λb=>?_) (PY _);have:nH l (GJ (l.getD i []) (l.getD k []))=true:=RT.2 ⟨_,b,by unfold IJ;exact AEF rfl⟩;rw[this]at a;cases a.2
 exact h
theorem yQ {i:Nat}:∀ {n k:Nat} {l:List (List Int)},Nd l->Nd (HN i n k l)
 | 0,_,_,h=>h
 | n+1,k,l,h=>by
  unfold HN;split
  .exact yQ (A7Z h i k)
  exact h
theorem cQ:∀ {n i:Nat} {l:List (List Int)},Nd l->Nd (Jg n i l)
 | 0,_,_,h=>h
 | n+1,i,l,h=>by
  unfold Jg;split
  .exact cQ (yQ h)
  exact h
theorem Za {d:List AJ} (m:BS d=0):Nd (Ah d):=by
 obtain⟨-,l,-,hn,hl⟩:=BB m;have p:=FL d d.length;rw[RD]at p;have hap:=o6 hn;refine⟨?_,λc n=>?_⟩
 .unfold Ah List.Nodup;rw[AAe,RR];intro i j hi a o e;have h1:=(RR.1 hap) i j hi a o;have g:∀k,(hk:k<(AW d).length)->(AW d).getD k ByteArray.empty=(AW d)[k]:=λk hk=>by simp[AS,hk]
  have f:=(Em (d:=d) (all:=AW d) (by omega) (AW d)[j] 0).2.1;have b:=gU hn hl l hi a (by
   rw[g i hi,g j a,e];unfold F2;have:=(Wk f f).2 λ_ h=>h;rw[this];rfl)
  rw[g i hi,g j a,h1]at b;cases b
 obtain⟨s,hs,rfl⟩:=GO.1 n;unfold HW ofF;split
 .exact PY _
 exact .inl rfl
theorem Mi {d:List AJ}:∀ {l:List (List Int)} {o:List AQ},(o.map (·.2)++l).Nodup->((l.foldl (SH d) o).map (·.2)).Nodup
 | [],o,h=>by simpa using h
 | b :: l,o,h=>by
  rw[RE];refine Mi ?_;unfold SH Ge bZ;have hp:=(jH o (IR d (AW d) (Ah d) b,b) (Fb (IR d (AW d) (Ah d) b,b) o o.length)).map (λx:AQ=>x.2);have c:List.Perm ((o.take (Fb (IR d (AW d) (Ah d) b,b) o o.length)++[(IR d (AW d) (Ah d) b,b)]++o.drop (Fb (IR d (AW d) (Ah d) b,b) o o.length)).map (λx:AQ=>x.2)++l) (o.map (·.2)++b :: l) :=
   (hp.append_right l).trans (AFy (a:=b)).symm
  exact c.nodup_iff.2 h
def Nk (h:AG):Prop:=∀a b,0<=a->a<(h.1.length:Int)->0<=b->b<(h.1.length:Int)->Av h a b=true->Av h b a=true->a=b
theorem A9P {h:AG} (hk:HX h) (hn:Nd (h.1.map λt=>t.2.1)):Nk h:=by
 intro a b c d f b1 h1 j;have m:=hk.1.wds _ (Br c d);have n:=hk.1.wds _ (Br f b1);have e:BQ h a=BQ h b:=A48 m n (hn.nrm _ (Br c d)) (hn.nrm _ (Br f b1)) λi=>by
  rw[AEN];exact⟨(Be hk f b1 c d).1 j i,(Be hk c d f b1).1 h1 i⟩
 have hp:=RR.1 hn.nd;have g:∀k:Int,0<=k->(hk:k<(h.1.length:Int))->BQ h k=(h.1.map λt=>t.2.1)[k.toNat]'(by rw[OR];omega):=λk o p=>by
  unfold BQ;simp[AS,show k.toNat<h.1.length by omega]
 rw[g a c d,g b f b1]at e;rcases Int.lt_trichotomy a b with l|heq|l
 .exact absurd e (hp a.toNat b.toNat (by rw[OR];omega) (by rw[OR];omega) (by omega))
 .exact heq
 exact absurd e.symm (hp b.toNat a.toNat (by rw[OR];omega) (by rw[OR];omega) (by omega))
theorem jI (d:List AJ):Nk (A1 d).1:=by
 refine A9P (MV d) ?_;unfold A1;split
 .exact⟨.nil,λc h=>(by cases h)⟩
 rename_i a;have a:(BX d).2=0:=FT a;have g:BW d=0:=by
  unfold BX at a;split at a
  .rename_i h;exact absurd a h
  rename_i h;exact FT h
 obtain⟨l,-,-⟩:=Cg g;obtain⟨f,n,-⟩:=Bq l;have hf:Nd (A6 (Ah d)):=cQ (Za f);have e:((G9 d).1.map λt=>t.2.1)=(A2 d).map λx=>x.2:=by
  show ((FH _ _ _).map λt=>t.2.1)=_;unfold FH;rw[nO];apply iS
  .simp
  intro i h1 m;simp[AS,show i<(A2 d).length by simpa using h1]
 show Nd ((G9 d).1.map λt=>t.2.1);rw[e];refine⟨Mi (by simpa using hf.nd),λc k=>?_⟩;obtain⟨x,hx,rfl⟩:=GO.1 k;obtain⟨b,j,rfl⟩:=D5.1 hx;exact hf.nrm b j
structure VF (h:AG) (f:List AD):Prop where
 good:AN f
 pos:0<f.length
 ty:Cc h f
 str:∀x∈f,Li x.2
 ft:∀x∈f,∀a∈x.2,0<=a.1/\a.1<(h.2.length:Int)
 can:AL f 0=f
 ro:RO f
structure HU (h:AG):Prop where
 ok:HX h
 inj:Nk h
 ft:h.2.length<=64
def jJ (U:List AD):Prop:=(Ca U U.length [] 0).length=U.length/\∀k,(hk:k<(Ca U U.length [] 0).length)->(Ca U U.length [] 0)[k]=(k:Int)
theorem cR {Q:List AD} (m:AN Q) {r:Int} (K:0<=r) (L:r<(Q.length:Int)):AN (AL Q r)/\jJ (AL Q r):=by
 have d:=Hf m K L;have C:=Ie Q r;have B:=λi=>Id (f:=Q) (r:=r) (i:=i);generalize N:AL Q r=c at *;generalize G:Ca Q Q.length [] r=o at *;have P:=d.ok.len;have M:=m.1;have g:∀i:Int,0<=i->i<(o.length:Int)->o.getD i.toNat 0∈o/\Bv o (o.getD i.toNat 0)=i:=λi I J=>by
  refine⟨AE o 0 (by omega),?_⟩;rw[F9 d.ok.nd (by omega)];omega
 have p:∀i:Int,0<=i->i<(o.length:Int)->AP c i=(AP Q (o.getD i.toNat 0)).map (HC o):=λi I J=>by
  rw[AP,B i.toNat (by omega)];rfl
 have E:Iso c Q (λi=>o.getD i.toNat 0) (λi=>0<=i/\i<(o.length:Int)):=by
  refine⟨λi hi=>?_,λi hi a ha=>?_,λi j hi A e=>?_⟩
  .rw[p i hi.1 hi.2,nO];have:∀a∈AP Q (o.getD i.toNat 0),((λa:Int×Int=>(a.1,o.getD a.2.toNat 0))∘HC o) a=a:=λa ha=>by
    show (a.1,o.getD (Bv o a.2).toNat 0)=a;rw[(DN (d.cl _ (g i hi.1 hi.2).1 a ha)).2.2]
   rw[RI this,List.map_id']
  .rw[p i hi.1 hi.2]at ha;obtain⟨b,q,rfl⟩:=GO.1 ha;have:=DN (d.cl _ (g i hi.1 hi.2).1 b q);exact⟨this.1,this.2.1⟩
  have h1:=(g i hi.1 hi.2).2;have h:=(g j A.1 A.2).2;have e:o.getD i.toNat 0=o.getD j.toNat 0:=e;rw[<-h1,<-h,e]
 have h0:(0:Int)<(o.length:Int):=by have:=d.zero.2;omega
 have u:AN c:=by
  refine⟨by omega,λx hx=>?_⟩;obtain⟨i,hi,rfl⟩:=Cu (0,[]) hx;have h1:=p (i:Int) (by omega) (by omega);rw[AP,RK]at h1;rw[h1];have t:=g (i:Int) (by omega) (by omega);rw[RK]at t;have R:=d.ok.rng _ t.1;refine⟨?_,λa ha=>?_⟩
  .rw[OR];exact(m.2 _ (AE Q (0,[]) (k:=(o.getD i 0).toNat) (by omega))).1
  obtain⟨b,q,rfl⟩:=GO.1 ha;have:=DN (d.cl _ t.1 b q);rw[C];exact⟨this.1,this.2.1⟩
 have s:=Ur E Q.length [] 0 (λx hx=>by cases hx) ⟨by omega,h0⟩;have H:o.getD (0:Int).toNat 0=r:=d.zero.1;rw[AEL,H,G]at s;have y:=Me u (n:=0) (by omega) (by omega) (Q.length-c.length);rw[show c.length+(Q.length-c.length)=Q.length by omega]at y;rw[y]at s;unfold jJ;refine⟨u,?_⟩;generalize Ca c c.length [] 0=l at *;obtain⟨w,D⟩:=s;have O:l.length=o.length:=by
  have:=AAc List.length w;rw[OR]at this;exact this.symm
 have F:∀k,(hk:k<l.length)->l[k]=(k:Int):=λk hk=>by
  have v:=D l[k] (S3 hk);have h1:=(g l[k] v.1 v.2).2;have h:=(g (k:Int) (by omega) (by omega)).2;have e:o.getD k 0=o.getD (l[k]).toNat 0:=by
   exact(AAc (λz:List Int=>z.getD k 0) w).trans (by simp[AS,hk])
  rw[RK,e]at h;rw[<-h1,h]
 exact⟨by omega,F⟩
theorem XQ {b:List AD} (g:AN b) (k:jJ b):AL b 0=b:=by
 unfold AL;obtain⟨q,c⟩:=k;generalize Ca b b.length [] 0=l at *;have o:l.Nodup:=by
  unfold List.Nodup;rw[RR];intro i j hi n p e;rw[c i hi,c j n]at e;omega
 have m:∀x,0<=x->x<(l.length:Int)->Bv l x=x:=λx r s=>by
  have:=F9 o (i:=x.toNat) (by omega);have e:l.getD x.toNat 0=x:=by
   rw[AS,AT (by omega)];show l[x.toNat]=x;rw[c _ (by omega)];omega
  rw[e]at this;rw[this];omega
 apply iS
 .rw[OR];omega
 intro i h1 d;rw[AEq,c i (by simpa using h1)];have f:b.getD (i:Int).toNat (0,[])=b[i]:=by simp[AS,d]
 unfold Cj;rw[f];have:∀a∈b[i].2,HC l a=a:=λa ha=>by
  have h:=(g.2 _ (S3 d)).2 a ha;unfold HC;rw[m a.2 h.1 (by omega)]
 rw[RI this,List.map_id']
theorem jK {Q:List AD} (a:AN Q) {r:Int} (b:0<=r) (c:r<(Q.length:Int)):AL (AL Q r) 0=AL Q r :=
 XQ (cR a b c).1 (cR a b c).2
theorem XR {h:AG} {a X:List AD} (f:RO a) {m e:Int->Int} (h1:HH h a X m) (b:HH h a X e):∀(k:Nat) (i:Int),i.toNat<=k->0<=i->i<(a.length:Int)->m i=e i:=by
 intro k;induction k with
 | zero =>
  intro i hk g d;have:i=0:=by omega
  subst this;rw[h1.zero,b.zero]
 | succ k l =>
  intro i hk g d;by_cases hi:i=0
  .subst hi;rw[h1.zero,b.zero]
  obtain⟨j,c,n,x,hx,rfl⟩:=f i (by omega) d;rw[<-h1.arc j c (by omega) x hx,<-b.arc j c (by omega) x hx,l j (by omega) c (by omega)]
theorem Mj {h:AG} (hk:HX h) {a b c:List AD} (t:AN a) (ta:Cc h a) (tb:Cc h b) (v:Cc h c) {m n:Int->Int} (h1:HH h a b m) (j:HH h b c n):HH h a c λi=>n (m i):=by
 refine⟨by show n (m 0)=0;rw[h1.zero,j.zero],λi f g=>?_,λi f g=>?_,λi f g x hx=>?_⟩
 .have:=h1.rng i f g;exact j.rng _ this.1 this.2
 .have d:=h1.rng i f g;have w:=j.rng _ d.1 d.2;have q:=ta _ (AE a (0,[]) (k:=i.toNat) (by omega));have r:=tb _ (AE b (0,[]) (k:=(m i).toNat) (by omega));have s:=v _ (AE c (0,[]) (k:=(n (m i)).toNat) (by omega));exact LH hk q.1 q.2 r.1 r.2 s.1 s.2 (h1.ty i f g) (j.ty _ d.1 d.2)
 have d:=h1.rng i f g;have p:=Ay t hx;have o:=h1.arc i f g x hx;obtain⟨y,u,e1,e2⟩:=Ic (l:=AP b (m i)) (e:=x.1) (by rw[o];exact(h1.rng _ p.1 p.2).1);have:=j.arc (m i) d.1 d.2 y u;rw[e1,e2,o]at this;exact this
theorem Gi {a:List AD} (hs:∀x∈a,Li x.2) (n:Int):Li (AP a n):=by
 unfold AP;by_cases h:n.toNat<a.length
 .exact hs _ (AE a (0,[]) h)
 rw[AS,RP (by omega)];exact .nil
theorem XS {h:AG} {a:List AD} (hs:∀x∈a,Li x.2):HH h a a id :=
 ⟨rfl,λi b c=>⟨b,c⟩,λi _ _=>Fe h _,λi _ _ x hx=>EI (Gi hs i) hx⟩
theorem yR:∀ {l m:List (Int×Int)},Li l->Li m->(∀x,x∈l↔x∈m)->l=m
 | [],[],_,_,_=>rfl
 | [],b :: m,_,_,h=>by have:=(h b).2 (by simp);cases this
 | a :: l,[],_,_,h=>by have:=(h a).1 (by simp);cases this
 | a :: l,b :: m,h1,f,h=>by
  obtain⟨c,d⟩:=Rb.1 h1;obtain⟨b1,b2⟩:=Rb.1 f;have e:a=b:=by
   rcases DO.1 ((h a).1 (by simp)) with e|e
   .exact e
   rcases DO.1 ((h b).2 (by simp)) with e2|e2
   .exact e2.symm
   have:=c b e2;have:=b1 a e;omega
  subst e;refine AAc _ (yR d b2 λx=>⟨λhx=>?_,λhx=>?_⟩)
  .rcases DO.1 ((h x).1 (by simp[hx])) with e|e
   .subst e;have:=c x hx;omega
   exact e
  rcases DO.1 ((h x).2 (by simp[hx])) with e|e
  .subst e;have:=b1 x hx;omega
  exact e
theorem A4a {h:AG} (hu:HU h) {c V:List AD} (b:VF h c) (d:VF h V) {m o:Int->Int} (h1:HH h c V m) (n:HH h V c o):c=V:=by
 have key:∀ {c V:List AD},VF h c->VF h V->∀ {m o:Int->Int},HH h c V m->HH h V c o->c.length<=V.length->c=V:=by
  clear b d h1 n;intro c V b d m o h1 n H;have c1:=Mj hu.ok b.good b.ty d.ty b.ty h1 n;have c2:=Mj hu.ok d.good d.ty b.ty d.ty n h1;have e1:∀i,0<=i->i<(c.length:Int)->o (m i)=i:=λi r s=>XR b.ro c1 (XS b.str) i.toNat i (If _) r s;have e2:∀i,0<=i->i<(V.length:Int)->m (o i)=i:=λi r s=>XR d.ro c2 (XS d.str) i.toNat i (If _) r s;have w:∀ {A B:List AD} {f:Int->Int},AN A->HH h A B f->∀i,0<=i->i<(A.length:Int)->∀x∈AP A i,(x.1,f x.2)∈AP B (f i):=λ{A B f} F hf i r s x hx=>by
   have q:=Ay F hx;have C:=hf.arc i r s x hx;obtain⟨y,v,u,t⟩:=Ic (l:=AP B (f i)) (e:=x.1) (by rw[C];exact(hf.rng _ q.1 q.2).1);rw[<-u,<-C,<-t];exact v
  have G:Iso c V m (λi=>0<=i/\i<(c.length:Int)):=by
   refine⟨λi hi=>?_,λi hi a ha=>Ay b.good ha,λi j hi z e=>?_⟩
   .have p:=h1.rng i hi.1 hi.2;refine yR (Gi d.str _) ?_ λx=>⟨λhx=>?_,λhx=>?_⟩
    .unfold Li;rw[AAe];exact Gi b.str i
    .have g:=w d.good n (m i) p.1 p.2 x hx;rw[e1 i hi.1 hi.2]at g;refine GO.2 ⟨_,g,?_⟩;have q:=Ay d.good hx;show (x.1,m (o x.2))=x;rw[e2 x.2 q.1 q.2]
    obtain⟨y,v,rfl⟩:=GO.1 hx;exact w b.good h1 i hi.1 hi.2 y v
   rw[<-e1 i hi.1 hi.2,<-e1 j z.1 z.2,e]
  have I:=b.pos;have:=YQ G b.good ⟨by omega,by omega⟩ h1.zero b.pos H λi hi=>by
   have p:=h1.rng i hi.1 hi.2;have u:=h1.ty i hi.1 hi.2;have t:=n.ty (m i) p.1 p.2;rw[e1 i hi.1 hi.2]at t;have D:=b.ty _ (AE c (0,[]) (k:=i.toNat) (by omega));have E:=d.ty _ (AE V (0,[]) (k:=(m i).toNat) (by omega));exact hu.inj _ _ E.1 E.2 D.1 D.2 t u
  rw[d.can,b.can]at this;exact this.symm
 rcases Nat.le_total c.length V.length with hl|hl
 .exact key b d h1 n hl
 exact(key d b n h1 hl).symm
structure Jk (h:AG) (a b U:List AD):Prop where
 vf:VF h U
 left:∃m,HH h a U m
 right:∃m,HH h b U m
 least:∀X,Cc h X->∀m1,HH h a X m1->∀m2,HH h b X m2->∃m,HH h U X m
 len:U.length<=a.length+b.length
theorem A80 {h:AG} (hu:HU h) {a b d V:List AD} (h1:Jk h a b d) (c:Jk h a b V):d=V:=by
 obtain⟨l,e⟩:=c.left;obtain⟨n,f⟩:=c.right;obtain⟨o,g⟩:=h1.left;obtain⟨p,i⟩:=h1.right;obtain⟨m,j⟩:=h1.least V c.vf.ty l e n f;obtain⟨q,k⟩:=c.least d h1.vf.ty o g p i;exact A4a hu h1.vf c.vf j k
open Classical in
noncomputable def BK (h:AG) (a b:List AD):List AD×Bool:=if H:∃U,Jk h a b U then (H.choose,true) else ([],false)
theorem HD {h:AG} (hu:HU h) {a b U:List AD} (h1:Jk h a b U):BK h a b=(U,true):=by
 unfold BK;have H:∃U,Jk h a b U:=⟨U,h1⟩;rw[dif_pos H,A80 hu H.choose_spec h1]
theorem Mk {h:AG} {a b:List AD} (h1:∀X,Cc h X->∀d,HH h a X d->∀e,¬HH h b X e):BK h a b=([],false):=by
 unfold BK;rw[dif_neg];rintro⟨f,c⟩;obtain⟨d,g⟩:=c.left;obtain⟨e,i⟩:=c.right;exact h1 f c.vf.ty d g e i
theorem HE {h:AG} {a b:List AD} (h1:(BK h a b).2=true):Jk h a b (BK h a b).1:=by
 unfold BK at h1 ⊢;split at h1
 .rename_i H;rw[dif_pos H];exact H.choose_spec
 cases h1
theorem XT {f:List AD} {e:Int} (h:e∈Cw f):∃x∈f,∃a∈x.2,a.1=e:=by
 unfold Cw at h;obtain⟨x,hx,b⟩:=List.mem_flatMap.1 h;obtain⟨a,ha,e⟩:=GO.1 b;exact⟨x,hx,a,ha,e⟩
theorem A4b {h:AG} {N:List AD} {P:List (Int×Int)} {p ty:List Int} {ar:List (List (Int×Int))} (d:JI h N P p ty ar []) (g:AN (quo p ty ar)) (l:0<N.length) (j:∀x∈N,∀a∈x.2,0<=a.1/\a.1<(h.2.length:Int)) {v:Int->Int} (c:A8U h N P (AL (quo p ty ar) (ED p 0)) v):VF h (AL (quo p ty ar) (ED p 0)):=by
 have f:0<=ED p 0/\ED p 0<((quo p ty ar).length:Int):=by
  obtain⟨m,fo⟩:=d.fo;have:=d.lp;have:=GB fo (x:=0) (by omega) (by omega) (PU fo (by omega) (by omega));rw[Ez];exact this
 refine⟨c.good,c.pos,c.ty,c.str,λx hx a ha=>?_,jK g f.1 f.2,c.ro⟩;obtain⟨y,k,b,i,e⟩:=XT (c.feat x hx a ha);rw[<-e];exact j y k b i
theorem A18 {h:AG} {f g:List AD} (hf:VF h f) (d:VF h g):∀x∈Ag f g,∀a∈x.2,0<=a.1/\a.1<(h.2.length:Int):=by
 intro x hx;unfold Ag at hx;rcases Is.1 hx with hx|hx
 .exact hf.ft x hx
 obtain⟨y,e,rfl⟩:=GO.1 hx;intro a ha;obtain⟨b,c,rfl⟩:=GO.1 ha;exact d.ft y e b c
theorem yS {h:AG} {f g:List AD} (hf:VF h f) (i:VF h g) {p ty:List Int} {ar:List (List (Int×Int))} (b:JI h (Ag f g) [(0,(f.length:Int))] p ty ar []) (d:AN (quo p ty ar)):Jk h f g (AL (quo p ty ar) (ED p 0)):=by
 have t:=hf.pos;have hl:=CG f g;have c:0<(Ag f g).length:=by omega
 have h0:=PX b d c;have l:=Ig b d c (KJ (g:=g) Se) hf.ro h0;have n:=Ig b d c (LK (f:=f)) i.ro (XP b (by simp) h0);have a:=A47 b d c λx s u=>by
  by_cases hx:x<(f.length:Int)
  .have:=l x.toNat x (If _) s hx
   rwa [show ((0:Nat):Int)+x=x by omega]at this
  have:=n _ (x-(f.length:Int)) (If _) (by omega) (by omega)
  rwa [show (f.length:Int)+(x-(f.length:Int))=x by omega]at this
 refine⟨A4b b d c (A18 hf i) a,⟨_,Mg a.proj (KJ (g:=g) Se) a.zero⟩,⟨_,Mg a.proj (LK (f:=f)) (by rw[<-a.proj.eq (0,(f.length:Int)) (by simp)];exact a.zero)⟩,λX k o h1 r j=>?_,by have:=a.len;omega⟩;refine a.least X _ k (cO (Mh hf.good i.good (Db h1) (Db j)) λq m=>?_) ?_
 .have e:q=(0,(f.length:Int)):=by simpa using m
  subst e;try simp only
  rw[BY (by omega),As (by omega),AFl,h1.zero,j.zero]
 show (if (0:Int)<(f.length:Int) then o 0 else r (0-(f.length:Int)))=0;rw[BY (by omega)];exact h1.zero
theorem A19 {h:AG} {f g:List AD} (hf:VF h f) (c:VF h g) (d:∀X v,Cc h X->¬LI h (Ag f g) [(0,(f.length:Int))] X v):BK h f g=([],false):=by
 have j:=hf.pos;refine Mk λX b k h1 l a=>d X _ b (cO (Mh hf.good c.good (Db h1) (Db a)) λq i=>?_);have e:q=(0,(f.length:Int)):=by simpa using i
 subst e;try simp only
 rw[BY (by omega),As (by omega),AFl,h1.zero,a.zero]
theorem jL (l:List (Int×Int)):AY 0 l=l:=by
 unfold AY;rw[RI (g:=id) (λa _=>by show (a.1,a.2+((0:Nat):Int))=a;rw[Int.natCast_zero,AE7]),List.map_id]
theorem Sf (a b:Nat):BN 0 a++BN a b=BN 0 (a+b):=by
 unfold BN;rw[AFp,Sw,nO]
 congr 1
 refine RI λi _=>?_;show ((a+i:Nat):Int)=((0+(a+i):Nat):Int);rw[AE4]
theorem A1a {n k:Nat} (h:k<n):(BN 0 n).getD k 0=(k:Int):=by
 unfold BN;rw[AS,gO,AE8 h];show ((0+k:Nat):Int)=k;rw[AE4]
theorem Ml {n:Nat} {x:Int} (a:0<=x) (b:x<(n:Int)):EP (BN 0 n) x=x:=by
 unfold EP;rw[A1a (by omega)];omega
def Dj (N:List AD):List Int:=N.map (·.1)
def Ff (N:List AD):List (List (Int×Int)):=N.map (·.2)
theorem PZ (N:List AD) (k:Nat):(Dj N).getD k 0=(N.getD k (0,[])).1:=by
 unfold Dj;rw[AS,gO,AS];cases N[k]?<;>rfl
theorem NW (N:List AD) (k:Nat):(Ff N).getD k []=(N.getD k (0,[])).2:=by
 unfold Ff;rw[AS,gO,AS];cases N[k]?<;>rfl
theorem XU (f g:List AD):Bm f f.length++Bm g g.length=Dj (Ag f g):=by
 unfold Bm Dj Ag;rw[RD,RD,Sw,nO];rfl
theorem Zb (f g:List AD):DP 0 f f.length++DP f.length g g.length=Ff (Ag f g):=by
 unfold DP Ff Ag;rw[RD,RD,Sw,nO]
 congr 1
 exact RI λx _=>jL x.2
theorem cS {n:Nat} {x r:Int} (a:0<=x) (b:x<(n:Int)) (h:Rt (BN 0 n) x r):r=x:=h.det (.base (Ml a b))
theorem Ux {h:AG} {N:List AD} (j:AN N) (l:Cc h N) (hs:∀x∈N,Li x.2):JI h N [] (BN 0 N.length) (Dj N) (Ff N) []:=by
 have hl:(BN 0 N.length).length=N.length:=Gh 0 N.length;refine⟨l,⟨λ_=>0,λn n0 n1=>?_,λn n0 n1 hn=>?_⟩,hl,by simp[Dj],by simp[Ff],λw f=>(by cases f),λx c d=>?_,λk a ha=>?_,λk=>?_,λq o=>(by cases o),λx r c d e=>?_,λx r c d e a ha=>?_,λX v p m=>?_⟩
 .rw[hl]at n1 ⊢;rw[Ml n0 n1];exact⟨n0,n1⟩
 .rw[hl]at n1;exact absurd (Ml n0 n1) hn
 .rw[PZ];exact l _ (AE N (0,[]) (by omega))
 .rw[NW]at ha;refine⟨KI j k a ha,?_⟩;by_cases hk:k<N.length
  .exact List.mem_flatMap.2 ⟨_,AE N (0,[]) hk,GO.2 ⟨a,ha,rfl⟩⟩
  rw[AS,RP (by omega)]at ha;cases ha
 .rw[NW];have:=Gi hs (k:Int)
  rwa [AP,RK]at this
 .rw[cS c d e,PZ];exact Fe h _
 .rw[cS c d e,NW];have b:=Ay j ha;exact⟨a.2,ha,.cls b.1 b.2 b.1 b.2 (.base (Ml b.1 b.2)) (.base (Ml b.1 b.2))⟩
 refine⟨λx r c d e=>by rw[cS c d e],λw f=>(by cases f),λr g i _=>?_,λr g i _ a ha=>?_⟩
 .rw[PZ];exact m.ty r g i
 rw[NW]at ha;exact m.arc r g i a ha
theorem FP {f g:List AD} (hf:AN f) (c:AN g) (hl:f.length+g.length<=100000):AN (Ag f g):=by
 have h:=CG f g;refine⟨by omega,λx hx=>?_⟩;unfold Ag at hx;rcases Is.1 hx with hx|hx
 .refine⟨(hf.2 x hx).1,λa ha=>?_⟩;have:=(hf.2 x hx).2 a ha;omega
 obtain⟨y,d,rfl⟩:=GO.1 hx;refine⟨by simp only[AY,OR];exact(c.2 y d).1,λa ha=>?_⟩;obtain⟨b,e,rfl⟩:=GO.1 ha;have:=(c.2 y d).2 b e;simp only;omega
theorem Gj {f g:List AD} (hf:∀x∈f,Li x.2) (a:∀x∈g,Li x.2):∀x∈Ag f g,Li x.2:=by
 intro x hx;unfold Ag at hx;rcases Is.1 hx with hx|hx
 .exact hf x hx
 obtain⟨y,b,rfl⟩:=GO.1 hx;unfold Li AY;rw[AAe];exact a y b
theorem KK {h:AG} {f g:List AD} (hf:Cc h f) (a:Cc h g):Cc h (Ag f g):=by
 intro x hx;unfold Ag at hx;rcases Is.1 hx with hx|hx
 .exact hf x hx
 obtain⟨y,b,rfl⟩:=GO.1 hx;exact a y b
def jM (N:List AD):Prop:=∀x∈N,∀a∈x.2,0<=a.1/\a.1<64
theorem KL {f g:List AD} (hf:jM f) (d:jM g):jM (Ag f g):=by
 intro x hx;unfold Ag at hx;rcases Is.1 hx with hx|hx
 .exact hf x hx
 obtain⟨y,e,rfl⟩:=GO.1 hx;intro a ha;obtain⟨b,c,rfl⟩:=GO.1 ha;exact d y e b c
theorem cU {l:List (Int×Int)} (h:Li l) (hf:∀a∈l,0<=a.1/\a.1<64):l.length<=64:=by
 have:=cL h (S:=(List.range 64).map λ(i:Nat)=>(i:Int)) (λa ha=>GO.2 ⟨a.1.toNat,RY.2 (by have:=hf a ha;omega),by have:=hf a ha;omega⟩)
 rwa [OR,AEO]at this
theorem XV {N:List AD} (h:∀x∈N,x.2.length<=64):(Cw N).length<=64*N.length:=by
 induction N with
 | nil=>simp[Cw]
 | cons x N b =>
  have h1:=h x (by simp);have c:=b λy a=>h y (by simp[a]);have e:Cw (x :: N)=x.2.map (·.1)++Cw N:=rfl;rw[e,By,OR,No];omega
theorem A1b {N:List AD} (h:jM N) {e:Int} (b:e∈Cw N):0<=e/\e<64:=by
 obtain⟨x,hx,a,ha,rfl⟩:=XT b;exact h x hx a ha
theorem Qu {h:AG} {N:List AD} {P:List (Int×Int)} {p ty:List Int} {ar:List (List (Int×Int))} (c:JI h N P p ty ar []) (g:N.length<=100000) (hf:jM N):AN (quo p ty ar):=by
 have hl:=Ez p ty ar;obtain⟨j,fo⟩:=c.fo;have lp:=c.lp;refine⟨by omega,λx hx=>?_⟩;obtain⟨i,hi,rfl⟩:=Cu (0,[]) hx;have e:=NV (p:=p) (ty:=ty) (ar:=ar) (n:=(i:Int)) (by omega) (by omega);rw[RK]at e;rw[e];refine⟨?_,λa ha=>?_⟩
 .simp only[OR];have:=cU (c.srt i) (λa ha=>A1b hf (c.arr i a ha).2);omega
 obtain⟨b,f,rfl⟩:=GO.1 ha;have d:=(c.arr i b f).1;have:=GB fo (x:=b.2) d.1 (by omega) (PU fo d.1 (by omega));rw[hl];exact this
theorem VF.ft64 {h:AG} {f:List AD} (b:VF h f) (hu:HU h):jM f:=λx hx a ha=>by
 have h1:=b.ft x hx a ha;have c:=hu.ft;omega
def ADh (d:List AJ) (o:List ByteArray) (i:Nat):Prop:=∀j,j<i->∀x∈d,Ae x.2.1 (o.getD j ByteArray.empty)=true->Ae o x.1=true
theorem A4c {c:ByteArray} {o:List ByteArray} {x:AJ} (h:Ae x.2.1 c=true):Ae (Fi c o x) x.1=true:=by grind [Fi,Oo,FM]
theorem Zc {c:ByteArray} {x:AJ} (h:Ae x.2.1 c=true):∀ {l:List AJ} {o:List ByteArray},x∈l->Ae (l.foldl (Fi c) o) x.1=true
 | [],_,hx=>by cases hx
 | y :: l,o,hx=>by
  rw[RE];rcases DO.1 hx with rfl|hx
  .grind [NR,NP,A4c]
  exact Zc h hx
theorem jN {d:List AJ}:∀ {n i:Nat} {o:List ByteArray},dV d o->d.length<=n+i->ADh d o i->i<=o.length->∃m,ADh d (Dz d n i o) m/\(Dz d n i o).length<=m
 | 0,i,o,ha,c,a,hi=>⟨i,a,by
  have:=ha.len;show o.length<=i;omega⟩
 | n+1,i,o,ha,c,a,hi=>by
  unfold Dz;split
  .rename_i p;obtain⟨b,g⟩:=WM (o.getD i ByteArray.empty) (l:=d) (o:=o) (λ_ h=>h) ha;refine jN b (by omega) (λj k x hx hs=>?_) (by omega);rw[SC _ (by omega)]at hs;by_cases e:j=i
   .subst e;exact Zc hs hx
   exact NR (λz f=>NP f) (a j (by omega) x hx hs)
  exact⟨i,a,by omega⟩
theorem Sg {α:Type} {p:α->Bool}:∀ {l:List α},l.countP p=1->∀x∈l,p x=true->∀y∈l,p y=true->x=y
 | [],h,x,hx,_,_,_,_=>by cases hx
 | z :: l,h,x,hx,c,y,a,d=>by
  rw[AEr]at h;by_cases b:p z=true
  .rw[BY b]at h;grind
  rw[As b]at h;have hx:x∈l:=by grind
  have a:y∈l:=by grind
  exact Sg (by omega) x hx c y a d
theorem XW (s:ByteArray):∀(l:List AJ) (k:Nat),0<=Ct s k l->∃x∈l,Ac x.1 s=true
 | [],k,h=>by
  simp only[Ct]at h;omega
 | y :: l,k,h=>by
  simp only[Ct]at h;split at h
  .rename_i e;exact⟨y,by simp,e⟩
  obtain⟨x,hx,e⟩:=XW s l (k+1) h;exact⟨x,by simp[hx],e⟩
theorem o7 {d:List AJ} (l:BS d=0):∃r∈d,∀x∈d,Ae (D0 d r.1) x.1=true:=by
 obtain⟨hs,F,h1,hn,hl⟩:=BB l;have v:0<d.countP λx=>x.2.1.length==0:=by grind [X1]
 obtain⟨r,b,h⟩:=List.countP_pos_iff.1 v;refine⟨r,b,?_⟩;have A:=FO b;have p:dV d [r.1]:=⟨λs hs=>by
  have:s=r.1:=by simpa using hs
  rw[this];exact A,by simp⟩
 obtain⟨m,u,G⟩:=jN (d:=d) (n:=d.length) (i:=0) p (by omega) (λj t=>by omega) (by omega);have g:r.1∈Dz d d.length 0 [r.1]:=PI (by simp);have q:D0 d r.1=ML (Dz d d.length 0 [r.1]):=by unfold D0;rw[As (by omega)]
 rw[q];generalize Dz d d.length 0 [r.1]=o at *;have key:∀(k:Nat) (x:AJ),x∈d->IQ d x.1<=k->Ae o x.1=true:=by
  intro k;induction k with
  | zero =>
   intro x hx hk;by_cases c:x.2.1.length=0
   .have e:=Sg h1 x hx (by simpa using c) r b h;rw[e];exact NQ g
   obtain⟨s,a⟩:∃s,s∈x.2.1:=AF5 (by omega);have:=Oz hn hl hx (NQ a);omega
  | succ k E =>
   intro x hx hk;by_cases c:x.2.1.length=0
   .have e:=Sg h1 x hx (by simpa using c) r b h;rw[e];exact NQ g
   obtain⟨s,a⟩:∃s,s∈x.2.1:=AF5 (by omega);have B:=Oz hn hl hx (NQ a);obtain⟨y,D,e⟩:=XW s d 0 (hs x hx s a);rw[<-Oy d e]at B;obtain⟨z,f,e2⟩:=RT.1 (E y D (by omega));obtain⟨j,t,rfl⟩:=Cu ByteArray.empty f;refine u j (by omega) x hx ?_;exact RT.2 ⟨s,a,FN (DM e2 e)⟩
 intro x hx;obtain⟨z,f,e⟩:=RT.1 (key _ x hx (If _));obtain⟨w,C,e2⟩:=RT.1 (WW (o:=[]) f);exact RT.2 ⟨w,C,DM e2 e⟩
abbrev cnt (c:List Int):Nat:=(IK c).length
theorem A4d {w:Int} (a:U64 w) {r:Nat} (d:r<64):A2Y w (r:Int)=w.toNat.testBit r:=by
 have h0:=a.1;have h1:=a.2;have b:w.toNat / 2 ^ r<=w.toNat:=Nat.div_le_self _ _;have e:YC .u64 w (r:Int)=((w.toNat / 2 ^ r:Nat):Int):=by
  unfold YC;have c:min ((r:Int)).toNat IntKind.u64.bits=r:=by
   show min ((r:Int)).toNat 64=r;omega
  grind
 unfold A2Y;rw[Nat.testBit_eq_decide_div_mod_eq,e];generalize w.toNat / 2 ^ r=z at *;rw[IP ⟨by omega,by omega⟩ ⟨by decide,by decide⟩,RK,show (1:Int).toNat=1 from rfl,Nat.and_one_is_mod,AEN,S1,Do];omega
theorem yT {b:List Int} (a:JJ b) (i:Nat):WI b (i:Int)=BZ b i:=by
 have e1:Int.tdiv (i:Int) 64=((i / 64:Nat):Int):=by rw[AAd (by omega)];omega
 have e2:Int.tmod (i:Int) 64=((i % 64:Nat):Int):=by rw[AEp (by omega)];omega
 unfold WI BZ;rw[e1,e2,RK];by_cases hk:i / 64<b.length
 .rw[As (by rw[Sx,Do,Do];omega),A4d (BC a _) (by omega)]
 rw[BY (by rw[Sx,Do,Do];omega),G8 hk];simp
theorem jO (c:List Int):(IK c).Nodup:=by
 unfold IK OB List.Nodup;rw[AAe];refine List.Pairwise.imp (λh e=>h ?_) (List.Pairwise.filter _ List.nodup_range);exact AFw e
theorem Zd {c:List Int} (b:JJ c) {x:Int}:x∈IK c↔∃i:Nat,x=(i:Int)/\BZ c i=true:=by
 unfold IK OB;rw[GO];constructor
 .grind [yT]
 rintro⟨i,rfl,a⟩;refine⟨i,ADR.2 ⟨RY.2 ?_,by rw[yT b];exact a⟩,rfl⟩;refine FT λd=>?_;unfold BZ at a;rw[G8 (by omega)]at a;simp at a
theorem A9Q {a b:List Int} (ha:JJ a) (c:JJ b) (h:∀i,BZ a i=true->BZ b i=true) (d:cnt b<=cnt a) (i:Nat) (hi:BZ b i=true):BZ a i=true:=by
 refine FT λhn=>?_;have hx:(i:Int)∉IK a:=λe=>by grind [Zd]
 have:=Sb (l:=(i:Int) :: IK a) (l':=IK b) (TO.2 ⟨hx,jO a⟩) λx hx=>by grind [Zd]
 grind
theorem XX (x:AQ) (out:List AQ):∀n,(Fb x out n=0->n=0\/F3 x (out.getD 0 c0)=true)/\∀k,Fb x out n=k+1->F3 x (out.getD k c0)=false
 | 0=>⟨λ_=>.inl rfl,λk h=>by simp[Fb]at h⟩
 | n+1=>by
  obtain⟨h1,a⟩:=XX x out n;grind [Fb]
theorem jP {a b:AQ} (h:F3 a b=true):cnt b.2<=cnt a.2:=by
 unfold F3 at h;grind
theorem cV {a b:AQ} (h:F3 a b=false):cnt a.2<=cnt b.2:=by
 unfold F3 at h;grind
def HM (out:List AQ):Prop:=∀y∈out,cnt y.2<=cnt (out.getD 0 c0).2
theorem A81 {out:List AQ} (h:HM out) (x:AQ):HM (bZ out x):=by
 obtain⟨s1,s2⟩:=XX x out out.length;have c:=gW x out out.length;intro y a;rw[g9]at a;unfold bZ;cases hk:Fb x out out.length with
 | zero =>
  rw[ADl,To,ADP];have e:([x]++out).getD 0 c0=x:=rfl;rw[e];rcases a with rfl|a
  .exact If _
  have h1:=h y a;rcases s1 hk with e|e
  .grind
  exact RG h1 (jP e)
 | succ k =>
  have b:=cV (s2 k hk);rw[hk]at c;have e:(out.take (k+1)++[x]++out.drop (k+1)).getD 0 c0=out.getD 0 c0:=by grind
  rw[e];rcases a with rfl|a
  .exact RG b (h _ (Dg (by omega)))
  exact h y a
theorem jQ {d:List AJ}:∀ {l:List (List Int)} {o:List AQ},HM o->HM (l.foldl (SH d) o)
 | [],_,h=>h
 | b :: l,o,h=>by
  rw[RE];exact jQ (A81 h _)
def In (n:Nat) (c:List Int):Prop:=JJ c/\∀i,BZ c i=true->i<n
theorem A9R (n:Nat):In n []:=⟨λx hx=>(by cases hx),λi hi=>by unfold BZ at hi;simp at hi⟩
theorem A9S {n:Nat} {a b:List Int} (ha:In n a) (c:In n b):In n (GJ a b) :=
 ⟨b7 ha.1 c.1,λi hi=>by
  rw[Um ha.1 c.1,An]at hi;exact ha.2 i hi.1⟩
theorem A82 {n:Nat} {l:List (List Int)} (h:∀c∈l,In n c) (k:Nat):In n (l.getD k []):=by grind [Dg,ZL,A9R]
theorem A83 {n:Nat} {l:List (List Int)} (h:∀c∈l,In n c) (i k:Nat):∀c∈HL l i k,In n c:=by grind [HL,GJ,A9S,A82]
theorem yU {q i:Nat}:∀ {n k:Nat} {l:List (List Int)},(∀c∈l,In q c)->∀c∈HN i n k l,In q c
 | 0,_,_,h=>h
 | n+1,k,l,h=>by
  unfold HN;split
  .exact yU (A83 h i k)
  exact h
theorem yV {q:Nat}:∀ {n i:Nat} {l:List (List Int)},(∀c∈l,In q c)->∀c∈Jg n i l,In q c
 | 0,_,_,h=>h
 | n+1,i,l,h=>by
  unfold Jg;split
  .exact yV (yU h)
  exact h
def XY (h:AG):Prop:=∀t,0<=t->t<(h.1.length:Int)->Av h 0 t=true
theorem jR (d:List AJ):XY (A1 d).1:=by
 have hk:=MV d;unfold A1 at hk ⊢;split
 .intro t h0 h1;simp at h1;omega
 rename_i g;rw[As g]at hk;have g:(BX d).2=0:=FT g;have A:BW d=0:=by grind [BX]
 obtain⟨K,-,-⟩:=Cg A;obtain⟨j,N,-⟩:=Bq K;obtain⟨-,z,-,hn,hl⟩:=BB j;have G:=FL d d.length;rw[RD]at G;have k:(AW d).length<=4096:=by omega
 obtain⟨r,H,M⟩:=o7 j;have a:∀c∈A6 (Ah d),In (AW d).length c:=yV λc f=>by
  obtain⟨s,hs,rfl⟩:=GO.1 f;exact⟨(Em (d:=d) k s 0).2.1,λi hi=>((Em (d:=d) k s i).1.1 hi).1⟩
 obtain⟨s,hs,L⟩:=RT.1 (WY H);have I:s=r.1:=by grind [Gd,gR]
 subst I;have n:HW d (AW d) r.1∈A6 (Ah d):=by
  have hp:Ah d <+: A6 (Ah d):=Wh 257 0 (Ah d);exact hp.subset (GO.2 ⟨_,hs,rfl⟩)
 have l:∀i,i<(AW d).length->BZ (HW d (AW d) r.1) i=true:=λi hi=>by grind [Em,Gd,Dg]
 have B:HM (A2 d):=jQ λy J=>by cases J
 have q:=D5.2 ⟨_,n,rfl⟩;have u:0<(A2 d).length:=List.length_pos_of_mem q;have p:=B _ q;obtain⟨b,m,h⟩:=D5.1 (Dg (d:=c0) u);rw[h]at p;have E:=A9Q (a b m).1 (a _ n).1 (λi hi=>l i ((a b m).2 i hi)) p;have D:BQ (G9 d) 0=b:=by
  show ((FH (A2 d) _ _).getD 0 SL).2.1=b;have:(FH (A2 d) (BX d).1 (A2 d).length).getD 0 SL=(((A2 d).getD 0 c0).1,((A2 d).getD 0 c0).2,iC (A2 d) ((0:Nat):Int),(BX d).1.getD 0 []):=by
   unfold FH;rw[AS,gO,AE8 u];rfl
  rw[this,h]
 have O:(G9 d).1.length=(A2 d).length:=NS _ _ _;intro t v w;refine(Be hk (by omega) (by show (0:Int)<((G9 d).1.length:Int);omega) v w).2 λi hi=>?_;show BZ (BQ (G9 d) 0) i=true;rw[D];refine E i (l i ?_);have C:=Br v w;have F:BQ (G9 d) t∈A6 (Ah d):=by
  have e:((G9 d).1.map λt=>t.2.1)=(A2 d).map λx=>x.2:=by
   show ((FH _ _ _).map λt=>t.2.1)=_;unfold FH;rw[nO];apply iS
   .simp
   intro i h1 z;simp[AS,show i<(A2 d).length by simpa using h1]
  have o:BQ (G9 d) t∈(G9 d).1.map λt=>t.2.1:=C;rw[e]at o;obtain⟨x,hx,ex⟩:=GO.1 o;obtain⟨c,f,rfl⟩:=D5.1 hx;rw[<-ex];exact f
 exact(a _ F).2 i hi
def GC (p:List Int) (n:Nat):List AD:=(List.range n).map λ(i:Nat)=>((0:Int),[(p.getD i 0,(i:Int)+1)])
def BP (p:List Int) (g:List AD):List AD:=GC p p.length++g.map λx=>(x.1,AY p.length x.2)
abbrev Ck (p:List Int):List AD:=BP p [((0:Int),[])]
theorem jS (p:List Int) (n:Nat):GC p (n+1)=GC p n++[((0:Int),[(p.getD n 0,(n:Int)+1)])]:=by simp[GC,S5]
theorem Ep (p:List Int) (n:Nat):(GC p n).length=n:=by simp[GC]
theorem CV (p:List Int):(Ck p).length=p.length+1:=by simp[BP,GC]
theorem XZ (p:List Int) {i:Int} (a:0<=i) (b:i<(p.length:Int)):(Ck p).getD i.toNat (0,[])=(0,[(p.getD i.toNat 0,i+1)]):=by
 unfold Ck BP;rw[AS,RZ (by rw[Ep];omega)];grind [GC]
theorem o8 (p:List Int):(Ck p).getD p.length (0,[])=(0,[]):=by
 unfold Ck BP;rw[AS,RW (by rw[Ep];omega),Ep,AE5];rfl
theorem Pa (p:List Int) {i:Int} (a:0<=i) (b:i<((Ck p).length:Int)):(i<(p.length:Int)/\(Ck p).getD i.toNat (0,[])=(0,[(p.getD i.toNat 0,i+1)]))\/(i=(p.length:Int)/\(Ck p).getD i.toNat (0,[])=(0,[])):=by grind [CV,XZ,o8]
theorem NX (p:List Int) {x:AD} (hx:x∈Ck p):x=(0,[])\/∃i,i<p.length/\x=(0,[(p.getD i 0,(i:Int)+1)]):=by
 obtain⟨i,hi,rfl⟩:=Cu (0,[]) hx;rcases Pa p (i:=(i:Int)) (by omega) (by omega) with ⟨h1,a⟩|⟨h1,a⟩
 .grind
 grind
def FtP (h:AG) (p:List Int):Prop:=∀e∈p,0<=e/\e<(h.2.length:Int)
theorem KM {h:AG} {p:List Int} (hp:FtP h p):∀x∈Ck p,∀a∈x.2,0<=a.1/\a.1<(h.2.length:Int):=by
 intro x hx a ha;rcases NX p hx with rfl|⟨i,hi,rfl⟩
 .cases ha
 have:a=(p.getD i 0,(i:Int)+1):=by simpa using ha
 rw[this];exact hp _ (Dg hi)
theorem FQ {p:List Int} (hp:p.length<=1000):AN (Ck p):=by
 have hl:=CV p;refine⟨by omega,λx hx=>?_⟩;grind [NX]
theorem NY (p:List Int):∀x∈Ck p,Li x.2:=by
 intro x hx;rcases NX p hx with rfl|⟨i,hi,rfl⟩
 .exact .nil
 exact AEj _ _
theorem Qv {h:AG} (h0:0<h.1.length) (p:List Int):Cc h (Ck p):=by
 intro x hx;grind [NX]
theorem jT (p:List Int):RO (Ck p):=by
 intro i b a;rw[CV]at a;refine⟨i-1,by omega,by omega,(p.getD (i-1).toNat 0,i-1+1),?_,by simp only;omega⟩;rw[AP,XZ p (by omega) (by omega)];exact RM.2 rfl
theorem A9T {l:List (Int×Int)} (h:Li l) {e:Int} (b:0<=Bw l e):lI l e=Bw l e:=by
 obtain⟨a,ha,e1,e2⟩:=Ic b;grind [yL,EI]
theorem jU {f:List AD} (hf:AN f) (h0:0<f.length) (p:List Int):∀n,B2 f 0 p=some n->0<=n/\n<(f.length:Int):=by
 induction p using EO with
 | h0 =>
  intro n h;simp only[B2,ADj]at h;omega
 | h1 p e b =>
  intro n h;obtain⟨x,hx,a,ha,e1,e2⟩:=ZW h;rw[<-e2];exact Ay hf ha
theorem A4f {f:List AD} {p:List Int} {n:Int} (h:B2 f 0 p=some n) (k:Nat):∃m,B2 f 0 (p.take k)=some m:=by
 cases hh:B2 f 0 (p.take k) with
 | none =>
  have:=SY (p.take k) 0 (p.drop k) hh;rw[AEe,h]at this;cases this
 | some m=>exact⟨m,rfl⟩
theorem jV {h:AG} (t:XY h) {X:List AD} (q:AN X) (z:0<X.length) (y:Cc h X) (w:∀x∈X,Li x.2) {p:List Int} {n:Int} (l:B2 X 0 p=some n):∃m,HH h (Ck p) X m/\m (p.length:Int)=n:=by
 have g:∀k,B2 X 0 (p.take k)=some ((B2 X 0 (p.take k)).getD 0):=λk=>by
  obtain⟨m,s⟩:=A4f l k;rw[s];rfl
 have j:=λk=>jU q z (p.take k) _ (g k);refine⟨λi=>(B2 X 0 (p.take i.toNat)).getD 0,⟨rfl,λi d f=>j i.toNat,λi d f=>?_,λi d f a ha=>?_⟩,?_⟩
 .have e:((Ck p).getD i.toNat (0,[])).1=0:=by
   rcases Pa p d f with ⟨-,c⟩|⟨-,c⟩<;>rw[c]
  rw[e];have A:=j i.toNat;have:=y _ (AE X (0,[]) (k:=((B2 X 0 (p.take i.toNat)).getD 0).toNat) (by omega));exact t _ this.1 this.2
 .rcases Pa p d f with ⟨h1,c⟩|⟨-,c⟩
  .rw[AP,c]at ha;have e:a=(p.getD i.toNat 0,i+1):=by simpa using ha
   subst e;have hs:=Au p 0 (k:=i.toNat) (by omega);have o:=g (i.toNat+1);rw[hs]at o;obtain⟨x,hx,b,r,e1,e2⟩:=ZW o;have u:=g i.toNat;rw[hx]at u;have v:x=(B2 X 0 (p.take i.toNat)).getD 0:=by rw[hx];rfl
   show Bw (AP X ((B2 X 0 (p.take i.toNat)).getD 0)) (p.getD i.toNat 0)=(B2 X 0 (p.take (i+1).toNat)).getD 0;rw[<-v,show (i+1).toNat=i.toNat+1 by omega,hs,<-e2,<-e1];exact EI (Gi w x) r
  grind
 show (B2 X 0 (p.take ((p.length:Nat):Int).toNat)).getD 0=n;rw[RK,RD,l];rfl
theorem jW {h:AG} {X:List AD} (e:AN X) (f:0<X.length) (d:∀x∈X,Li x.2) {p:List Int} {m:Int->Int} (a:HH h (Ck p) X m):B2 X 0 p=some (m (p.length:Int)):=by
 have key:∀k,k<=p.length->B2 X 0 (p.take k)=some (m (k:Int)):=by
  intro k;induction k with
  | zero =>
   intro _;rw[ADl];show some (0:Int)=some (m 0);rw[a.zero]
  | succ k c =>
   intro hk;have hi:=c (by omega);have hn:=XZ p (i:=(k:Int)) (by omega) (by omega);have hl:=CV p;have ha:=a.arc (k:Int) (by omega) (by omega) (p.getD k 0,(k:Int)+1) (by
    rw[AP,hn,RK];exact RM.2 rfl)
   have b:=a.rng ((k:Int)+1) (by omega) (by omega);rw[Au p 0 (by omega),PT X _ 0 _ _ hi];simp only at ha;rw[A9T (Gi d _) (by rw[ha];exact b.1),ha,As (by omega)];rfl
 have:=key p.length (If _)
 rwa [RD]at this
structure jX (h:AG) (f:List AD) (p q:List Int) (U:List AD):Prop where
 vf:VF h U
 left:∃m,HH h f U m
 eq:∃n,B2 U 0 p=some n/\B2 U 0 q=some n
 least:∀X,VF h X->∀m1,HH h f X m1->∀n,B2 X 0 p=some n->B2 X 0 q=some n->∃m,HH h U X m
 len:U.length<=f.length+p.length+q.length+2
theorem A84 {h:AG} (hu:HU h) {f b V:List AD} {p q:List Int} (h1:jX h f p q b) (a:jX h f p q V):b=V:=by
 obtain⟨k,e⟩:=a.left;obtain⟨n1,c,b1⟩:=a.eq;obtain⟨l,g⟩:=h1.left;obtain⟨n,d,b2⟩:=h1.eq;obtain⟨m,i⟩:=h1.least V a.vf k e n1 c b1;obtain⟨o,j⟩:=a.least b h1.vf l g n d b2;exact A4a hu h1.vf a.vf i j
open Classical in
noncomputable def Sh (h:AG) (f:List AD) (p q:List Int):List AD×Bool:=if H:∃U,jX h f p q U then (H.choose,true) else ([],false)
theorem Ze {h:AG} (hu:HU h) {f U:List AD} {p q:List Int} (h1:jX h f p q U):Sh h f p q=(U,true):=by
 unfold Sh;have H:∃U,jX h f p q U:=⟨U,h1⟩;grind [A84]
theorem Zf {h:AG} {f:List AD} {p q:List Int} (h1:∀X,VF h X->∀d,HH h f X d->∀n,B2 X 0 p=some n->B2 X 0 q≠some n):Sh h f p q=([],false):=by
 unfold Sh;rw[dif_neg];rintro⟨e,c⟩;obtain⟨d,g⟩:=c.left;obtain⟨n,a,b⟩:=c.eq;exact h1 e c.vf d g n a b
theorem A1c {h:AG} {f:List AD} {p q:List Int} (h1:(Sh h f p q).2=true):jX h f p q (Sh h f p q).1:=by
 unfold Sh at h1 ⊢;split at h1
 .grind
 cases h1
abbrev eqN (f:List AD) (p q:List Int):List AD:=Ag (Ag f (Ck p)) (Ck q)
abbrev eqP (f:List AD) (p q:List Int):List (Int×Int):=[(0,(f.length:Int)),((f.length:Int),((f.length+(p.length+1):Nat):Int)),(((f.length+p.length:Nat):Int),((f.length+(p.length+1)+q.length:Nat):Int))]
theorem cW (f:List AD) (p q:List Int):(eqN f p q).length=f.length+(p.length+1)+(q.length+1):=by grind [CG,CV]
theorem cX {h:AG} (i:XY h) {f:List AD} {p q:List Int} (hf:VF h f) (hp:p.length<=1000) (o:q.length<=1000) (hl:f.length<=10000) {X:List AD} (c:VF h X) {j:Int->Int} (h1:HH h f X j) {n:Int} (l:B2 X 0 p=some n) (m:B2 X 0 q=some n):∃v,LI h (eqN f p q) (eqP f p q) X v/\v 0=0:=by
 obtain⟨a,ha,s⟩:=jV i c.good c.pos c.ty c.str l;obtain⟨b,e,t⟩:=jV i c.good c.pos c.ty c.str m;have u:=hf.pos;have d:=CG f (Ck p);rw[CV]at d;have k:=FP hf.good (FQ hp) (by rw[CV];omega);refine⟨_,cO (Mh k (FQ o) (Mh hf.good (FQ hp) (Db h1) (Db ha)) (Db e)) λr g=>?_,?_⟩
 .simp only[DO,oS,AEI]at g;rcases g with rfl|rfl|rfl
  .simp only;rw[d,BY (by omega),BY (by omega),BY (by omega),As (by omega),AFl,h1.zero,ha.zero]
  .simp only;rw[d,BY (by omega),As (by omega),As (by omega),AFl,ha.zero,show ((f.length+(p.length+1):Nat):Int)-((f.length+(p.length+1):Nat):Int)=0 by omega,e.zero]
  grind
 show (if (0:Int)<((Ag f (Ck p)).length:Int) then (if (0:Int)<(f.length:Int) then j 0 else a (0-(f.length:Int))) else b (0-((Ag f (Ck p)).length:Int)))=0;rw[d,BY (by omega),BY (by omega)];exact h1.zero
theorem A4g {h:AG} (E:XY h) {f:List AD} {p q:List Int} (hf:VF h f) (s:FtP h p) (t:FtP h q) (hp:p.length<=1000) (D:q.length<=1000) (hl:f.length<=10000) {P ty:List Int} {ar:List (List (Int×Int))} (d:JI h (eqN f p q) (eqP f p q) P ty ar []) (j:AN (quo P ty ar)):jX h f p q (AL (quo P ty ar) (ED P 0)):=by
 have O:=hf.pos;have o:=CG f (Ck p);rw[CV]at o;have S:=cW f p q;have i:0<(eqN f p q).length:=by omega
 have h0:=PX d j i;have c1:cN (eqN f p q) 0 f:=KJ (KJ Se);have c2:cN (eqN f p q) f.length (Ck p):=KJ LK;have l:cN (eqN f p q) (f.length+(p.length+1)) (Ck q):=by
  have:=LK (f:=Ag f (Ck p)) (g:=Ck q);rw[o]at this;exact this
 have I:=Ig d j i c1 hf.ro h0;have e1:ED P (f.length:Int)∈Nj P ty ar:=XP d (x:=0) (by simp) h0;have J:=Ig d j i c2 (jT p) e1;have e2:ED P ((f.length+(p.length+1):Nat):Int)∈Nj P ty ar:=XP d (x:=(f.length:Int)) (by simp) e1;have K:=Ig d j i l (jT q) e2;have c:=A47 d j i λx L U=>by
  by_cases hx:x<(f.length:Int)
  .have:=I x.toNat x (If _) L hx
   rwa [show ((0:Nat):Int)+x=x by omega]at this
  by_cases R:x<((f.length+(p.length+1):Nat):Int)
  .have:=J _ (x-(f.length:Int)) (If _) (by omega) (by rw[CV];omega)
   rwa [show (f.length:Int)+(x-(f.length:Int))=x by omega]at this
  have:=K _ (x-((f.length+(p.length+1):Nat):Int)) (If _) (by omega) (by rw[CV];omega)
  rwa [show ((f.length+(p.length+1):Nat):Int)+(x-((f.length+(p.length+1):Nat):Int))=x by omega]at this
 generalize Q:(λx=>Bv (Nj P ty ar) (ED P x))=v at c;have z:∀x∈eqN f p q,∀a∈x.2,0<=a.1/\a.1<(h.2.length:Int):=by
  have key:∀ {g k:List AD},(∀x∈g,∀a∈x.2,0<=a.1/\a.1<(h.2.length:Int))->(∀x∈k,∀a∈x.2,0<=a.1/\a.1<(h.2.length:Int))->∀x∈Ag g k,∀a∈x.2,0<=a.1/\a.1<(h.2.length:Int):=by
   intro g k A hk x hx;unfold Ag at hx;rcases Is.1 hx with hx|hx
   .exact A x hx
   obtain⟨y,H,rfl⟩:=GO.1 hx;intro a ha;obtain⟨b,u,rfl⟩:=GO.1 ha;exact hk y H b u
  exact key (key hf.ft (KM s)) (KM t)
 have e:=A4b d j i z c;have r:v (f.length:Int)=0:=by rw[<-c.proj.eq (0,(f.length:Int)) (by simp)];exact c.zero
 have M:v ((f.length+(p.length+1):Nat):Int)=0:=by rw[<-c.proj.eq ((f.length:Int),((f.length+(p.length+1):Nat):Int)) (by simp)];exact r
 have N:v ((f.length+p.length:Nat):Int)=v ((f.length+(p.length+1)+q.length:Nat):Int):=c.proj.eq (((f.length+p.length:Nat):Int),((f.length+(p.length+1)+q.length:Nat):Int)) (by simp);refine⟨e,⟨_,Mg c.proj c1 c.zero⟩,⟨v ((f.length+p.length:Nat):Int),?_,?_⟩,λX m T h1 n B C=>?_,by have:=c.len;omega⟩
 .have:=jW e.good e.pos e.str (Mg c.proj c2 r);rw[this]
  congr 2
 .have:=jW e.good e.pos e.str (Mg c.proj l M);rw[this,N]
  congr 2
 obtain⟨w,F,G⟩:=cX E hf hp D hl m h1 B C;exact c.least X w m.ty F G
end Go.Proofs.YtapkhdkbkodbjaaGreat.Fw
