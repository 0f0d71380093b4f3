/- Contracts of the program's and the reference's functions, and the plain laws of what they compute: PC PD PE PF PL PG PH T1 G4 G5 G6 R15c P1 R07a R07b R07c R07d R07e R07h P8 C37 H1 D4 N5 N6 N7 T4 T2 T3 T5 P9 T13 T14 T15 T6 T7 T8 T9 T10 T11 T12 T16 R08a P3 P4 P5 P2 P7 W1 W2 W3 W4 W5 U1 U2 U3 U4 U5 U6 U7. -/
import Derived.Test.YtapkhdkbkodbjaaGreatCYA
import Derived.Test.YtapkhdkbkodbjaaGreatCZJ
import Derived.Test.YtapkhdkbkodbjaaGreatCZI
set_option linter.unusedVariables false
set_option linter.unusedSimpArgs false
namespace Go.Proofs.YtapkhdkbkodbjaaGreat.Fw
open Go
attribute [local irreducible] Ev
attribute [local go_sem] i5 AM List.toList_toArray Br evG evK Yy Et Kw G9 F5 IA Sv OI DK DS NE Cc Cr frz oC Gz DR A5 Fu Bb AV.frz AV.frzs AV.drp AV.drps AV.names AV.namess aq G2 Le Km Tw JW Bc Bh Jw EZ Iz Ea I8 I0 I9 VV P0 HO Ko Fy ET VW Re qUn Jx JA Ly FO Dn Ja Kp Eb Tx DZ Ec FD Rf JB OG FZ OE P6 Rg Lz Jb Kq Ed Dp HZ Dr H9 Da FE Db Ee F0 Cc Cp Py Rd Oj Gw JZ JY Kn QC Ss OH L4 L2 Kt Su L3 Ku cF QE QD AV.trn AV.trns E7 DJ Obj.trn KC jL Dq Eg EU Ef Cg FF Aq lk He G0 H6 bin oB Y4 oE Sq zf1 zfs pfs AV.cells CH Jv Pz Ks QB CZ OD Ty.cell1 Iy E8 Dm GQ ND E6 Kl Lx RZ FY HN Nu Tu VU Lw Kj cD g9 Sp H5 Cq HY RV.flat Ty.flat Ty.size St.add upd del Bd Value.oneCell' Ls Ty.dflt Ix QX IK Qj List.take_succ_cons List.take_zero List.length_cons jC jD Qi J9 ML Hw KA A3z F6 NQ NR NS NT Rq Rr NU JH Vl Option.map_some Option.map_none Option.bind_some Option.getD_some Option.getD_none Option.isNone_none Option.isNone_some Bool.and_true Bool.true_and Bool.and_false Bool.false_and Bool.not_true Bool.not_false if_true if_false List.length_cons List.length_nil and_true true_and and_self List.all_cons List.all_nil List.append_nil List.nil_append List.cons_append List.getElem?_cons_zero List.getElem?_cons_succ List.getElem?_nil List.map_cons List.map_nil List.set_cons_zero List.set_cons_succ List.isEmpty_nil List.isEmpty_cons decide_true decide_false beq_self_eq_true bne_self_eq_false Nat.zero_add Nat.add_zero Nat.sub_zero Int.toNat_natCast Int.toNat_zero Int.toNat_one List.take_length List.length_append List.length_singleton true_or or_true or_self false_or or_false Ty.agg.injEq Ty.slice.injEq Ty.prod.injEq Ty.int.injEq Option.some.injEq beq_iff_eq MJ evMG evMQ opM IM MF B5 J8 HP Qa J6 IL JJ K9 Lj Oz OO PI UB MG Qc Qd J7 Ab Ak Op.operands Call.operands List.filterMap_cons List.filterMap_nil List.append_eq Bool.cond_false_right Bool.cond_true_left cond_true cond_false implies_true decide_eq_true_eq beq_true beq_false Bool.or_true Bool.or_false Bool.true_or Bool.false_or Option.isSome_some Array.empty_append List.append_toArray Fv NF FG H7 cE QA Fz GZ GY JC H8 Kr L1 Y5 oD Ir inB Kv F1 Gx Jy Aj jE List.drop_zero Dg X1 dF CT LD CR AV.fgt AV.fgts Obj.fgt Aw Ah Ab DM Iv BM HA List.any_cons List.any_nil pB jF dG jG MO Rx qs List.flatMap_cons List.flatMap_nil List.cons_append tn dJ Hb List.take_succ_cons List.drop_succ_cons dP Gf BB t8 NZ B9 CS Ae FJ K8 Bj FI Dt II JG Gd IJ
attribute [local go_sem] ty1 ty2 ty3 ty4 ty5 ty9 A7p A7q A7r A7s A7t A7u A7v A7w A7x A7y A7z A7A A7B A7C A7D A7E A7F A7G A7H A7I A7J A7K A7L A7M A7N A7O A7P A7Q A7R A7S A7T A7U A7V A7W A7X A7Y A7Z A80 A81 A82 A83 A84 A85 A86 A87 A88 A89 A8a A8b A8c A8d A8e A8f A8g A8h A8i A8j A8k A8l A8m A8n A8o A8p A8q A8r A8s A8t A8u A8v A8w A8x uF uG uH uI uJ uK uL uM uN uP uQ uR uS uT uU uV uW uX uY uZ u3 u4 u5 u6 u7 u9 vC vE vF vG vH vI vJ vL vM vO vP vQ vS vU vV vW vX vY vZ v4 v5 v6 v7 v8 v9 wA wB wC wD wF wG wH wI wJ wK wL wM wN wP wQ wR wS wT wU wV wW wX wY wZ w5 w6 w9 xA xB xC xE xF xG xH xI xJ xL xM xN xO xP xQ xR xS xT xV xW xX xY xZ x5 x6 x7 x8 x9 yA yB yC yD yE yF yG yH yI yJ yK yL yM yN yO yP yQ yR yS yT yU yV yW yX yY yZ y3 y4 y5 y6 y7 y8 y9 zA zB zC zD zE zF zG zH zI zJ zK zL zM zN zO zP zQ zR zS zT zU zV zW zX zY zZ z0
set_option maxRecDepth 100000
set_option maxHeartbeats 4000000
section
attribute [local go_sem] Cy
theorem A4Z (l:List (Int×Int)) (hl:l.length<=100000) (t:n9 CD (0,0) l) (a b:Nat) (G:a<=b) (H:b<=l.length):BA Tryz.prog 233 [.sr 1000000 AW 0 l.length,.p T3 (a:Int),.p T3 (b:Int),.fn 192] [(1000000,.arr 106 AW l)] [1000000] (λres A=>res=.raw (.tuple #[])/\∃r,A=[(1000000,.arr 106 AW r)]/\D9 (0,0) a b l r/\SJ CD (0,0) a b r):=by
 refine Ki [0,1,2,3,8,9,10,11,12,21,33] [] [] Tryz.func233 Tryz.ntmps233 AH ?_;intro w0 K O0 ρ0 d I J;simp only[Aj];obtain⟨n,hn⟩:∃n,b=a+n:=⟨b-a,by omega⟩;subst hn;have q:(((a+n:Nat):Int)-(a:Int)-1).tdiv 2=(((n-1) / 2+1:Nat):Int)-1:=by
  by_cases h0:n=0
  .subst h0;rw[show ((a+0:Nat):Int)-(a:Int)-1=-1 by omega];decide
  rw[Yq (by omega)];omega
 have en:((a+n:Nat):Int)-(a:Int)=(n:Int):=by omega
 repeat'(first|exact trivial|apply eS rfl|apply AB|refine rX d ?_ ?_|refine rC ?_ ?_<;>intro e<;>try(cases e;done))
 .omega
 .rw[q];exact⟨by omega,by decide,by omega⟩
 rw[q,en];refine AK (ι:={s:Nat×List (Int×Int)//s.1<=n+1/\D9 (0,0) a (a+n) l s.2/\Hp CD (0,0) a n s.1 s.2}) (λs=>⟨[(0,.sr 1000000 AW 0 l.length),(3,.fn 192),(8,.p T3 (a:Int)),(9,.p (.int .i64) (0:Int)),(10,.p (.int .i64) (n:Int)),(11,.p (.int .i64) ((s.1.1:Int)-1))],[(1000000,.arr 106 AW s.1.2)]⟩) (λs=>s.1.1) ⟨((n-1) / 2+1,l),by simp only;omega,D9.refl _ _ l,λk c h1 E F=>by simp only at h1;omega⟩ (AD [(1000000,.nm 1000000)] rfl rfl ?_ ?_) (λs=>?_)
 .first|exact eN|refine eM ?_
 .first|exact eN|refine eM ?_
 obtain⟨⟨k,m⟩,hk,hp,hx⟩:=s;simp only at hk hp hx ⊢;have w:=hp.len;have v:=t.perm CM hp.perm;repeat'(first|exact trivial|apply eS rfl|apply AB|refine rX d ?_ ?_)
 refine rC ?_ ?_<;>intro e
 .have f:0<k:=by omega
  have key:=lG m (by omega) v (k-1) n a (by omega) (by omega) (A24 (by rw[show k-1+1=k by omega];exact hx));rw[w,show ((k-1:Nat):Int)=(k:Int)-1 by omega]at key;repeat'(first|exact trivial|apply eS rfl|apply AB|refine rX d ?_ ?_)
  refine cP 5 d ?_ ?_
  .trivial
  refine rM d (key) [(1000000,.nm 1000000)] [] ?_ ?_ ?_
  .first|exact eN|refine eM ?_
  .first|exact eN|refine eM ?_
  rintro _ _ ⟨rfl,r,rfl,i,j⟩;refine⟨[(1000000,.nm 1000000)],.raw (.tuple #[]),[(1000000,.arr 106 AW r)],rfl,rfl,?_,?_,rfl,rfl,Bk ?_⟩
  .first|exact eN|refine eM ?_
  .first|exact eN|refine eM ?_
  repeat'(first|exact trivial|apply eS rfl|apply AB|refine rX d ?_ ?_|refine rC ?_ ?_<;>intro e<;>try(cases e;done))
  .omega
  refine⟨⟨(k-1,r),by simp only;omega,hp.trans i,j⟩,by simp only;omega,AD [(1000000,.nm 1000000)] rfl rfl ?_ ?_⟩
  .simp only;first|exact eN|refine eM ?_
  simp only;rw[show ((k-1:Nat):Int)=(k:Int)-1 by omega];first|exact eN|refine eM ?_
 have f:k=0:=by omega
 subst f;repeat'(first|exact trivial|apply eS rfl|apply AB|refine rX d ?_ ?_)
 .omega
 refine AK (ι:={s:Nat×List (Int×Int)//s.1<=n/\D9 (0,0) a (a+n) l s.2/\A25 CD (0,0) a n s.1 s.2}) (λs=>⟨[(0,.sr 1000000 AW 0 l.length),(3,.fn 192),(8,.p T3 (a:Int)),(9,.p (.int .i64) (0:Int)),(12,.p (.int .i64) ((s.1.1:Int)-1))],[(1000000,.arr 106 AW s.1.2)]⟩) (λs=>s.1.1) ⟨(n,m),NO _,hp,qV hx⟩ (AD [(1000000,.nm 1000000)] rfl rfl ?_ ?_) (λs=>?_)
 .first|exact eN|refine eM ?_
 .first|exact eN|refine eM ?_
 obtain⟨⟨k,c⟩,hk,g,h⟩:=s;simp only at hk g h ⊢;have u:=g.len;repeat'(first|exact trivial|apply eS rfl|apply AB|refine rX d ?_ ?_)
 refine rC ?_ ?_<;>intro e
 .have f:0<k:=by omega
  have h:A25 CD (0,0) a n (k-1+1) c:=by rw[show k-1+1=k by omega];exact h
  obtain⟨B,C,D⟩:=A26 CM h (by omega) (by omega);have o:D9 (0,0) a (a+n) c (CU (0,0) c a (a+(k-1))):=D9.swap c (by omega) (by omega) (by omega) (by omega) (by omega);have y:=o.len;have x:=t.perm CM (g.trans o).perm;have e1:((a:Int)+((k:Int)-1)).toNat=a+(k-1):=by omega
  have z:CU (0,0) c a (a+(k-1))=(c.set a (c.getD (a+(k-1)) (0,0))).set (a+(k-1)) (c.getD a (0,0)):=rfl;have key:=lG (CU (0,0) c a (a+(k-1))) (by omega) x 0 (k-1) a (by omega) (by omega) B;rw[y,u,show ((k-1:Nat):Int)=(k:Int)-1 by omega]at key;repeat'(first|exact trivial|apply eS rfl|apply AB|refine rP d ?_ ?_|fail)
  (refine CJ drawsAny d 18 [([0,1,6,7,8,9,10,11,12,13,14,15,16],17)] [2,3,4,5] (by kernel_rfl) (LF ?_ ?_);(next=>exact CY);refine Nx d [] ?_ ?_;(next=>exact CY);refine R1 d ?_ ?_ ?_;(next=>exact CY);(next=>exact CY))
  rw[e1,<-z];repeat'(first|exact trivial|apply eS rfl|apply AB|refine rP d ?_ ?_|fail)
  refine cP 5 d ?_ ?_
  .trivial
  refine rM d (key) [(1000000,.nm 1000000)] [] ?_ ?_ ?_
  .first|exact eN|refine eM ?_
  .first|exact eN|refine eM ?_
  rintro _ _ ⟨rfl,r,rfl,i,j⟩;refine⟨[(1000000,.nm 1000000)],.raw (.tuple #[]),[(1000000,.arr 106 AW r)],rfl,rfl,?_,?_,rfl,rfl,Bk ?_⟩
  .first|exact eN|refine eM ?_
  .first|exact eN|refine eM ?_
  repeat'(first|exact trivial|apply eS rfl|apply AB|refine rX d ?_ ?_|refine rC ?_ ?_<;>intro e<;>try(cases e;done))
  .omega
  refine⟨⟨(k-1,r),by simp only;omega,(g.trans o).trans (i.mono (NO _) (by omega)),A27 i j C D⟩,by simp only;omega,AD [(1000000,.nm 1000000)] rfl rfl ?_ ?_⟩
  .simp only;first|exact eN|refine eM ?_
  simp only;rw[show ((k-1:Nat):Int)=(k:Int)-1 by omega];first|exact eN|refine eM ?_
 have f:k=0:=by omega
 subst f;repeat'(first|exact trivial|apply eS rfl|apply AB|refine rX d ?_ ?_|refine rC ?_ ?_<;>intro e<;>try(cases e;done))
 exact fM d [] (.raw (.tuple #[])) rfl ⟨rfl,c,rfl,g,A4Y h⟩
end
section
attribute [local go_sem] Cy
theorem A8Y (l:List (Int×Int)) (hl:l.length<=100000) (O:n9 CD (0,0) l) (a b p:Nat) (hap:a<=p) (aa:p<b) (V:b<=l.length):BA Tryz.prog 239 [.sr 1000000 AW 0 l.length,.p T3 (a:Int),.p T3 (b:Int),.p T3 (p:Int),.fn 192] [(1000000,.arr 106 AW l)] [1000000] (λres ae=>∃(q:Nat) (w:Bool) (r:List (Int×Int)),res=.tup [.p T3 (q:Int),.p .bool w]/\ae=[(1000000,.arr 106 AW r)]/\D9 (0,0) a b l r/\PtE CD (0,0) a b q r):=by
 refine Ki [0,1,2,3,4,10,11,12,13,47,66,71,120,139,144] [] [] Tryz.func239 Tryz.ntmps239 (AF E1 AH) ?_;intro w0 K O0 ρ0 c ah ai;simp only[Aj];have g:D9 (0,0) a b l (CU (0,0) l a p):=D9.swap l (NO _) (by omega) hap aa V;have n:CU (0,0) l a p=(l.set a (l.getD p (0,0))).set p (l.getD a (0,0)):=rfl;repeat'(first|exact trivial|apply eS rfl|apply AB|refine rP c ?_ ?_|fail)
 (refine CJ drawsAny c 14 [([0,1,4,5,6,7,8,9,10,11,12],13)] [2,3] (by kernel_rfl) (LF ?_ ?_);(next=>exact CY);refine Nx c [] ?_ ?_;(next=>exact CY);refine R1 c ?_ ?_ ?_;(next=>exact CY);(next=>exact CY))
 rw[<-n];have y:=O.perm CM g.perm;have R:=g.len;clear n;generalize CU (0,0) l a p=m at *;repeat'(first|exact trivial|apply eS rfl|apply AB|refine rP c ?_ ?_|fail)
 .exact CY
 rw[show (a:Int)+1=((a+1:Nat):Int) by omega,show (b:Int)-1=((b-1:Nat):Int) by omega];refine AK (ι:={i:Nat//a<i/\i<=b/\PtI CD (0,0) a b i (b-1) m}) (λs=>⟨[(0,.sr 1000000 AW 0 l.length),(1,.p T3 (a:Int)),(4,.fn 192),(12,.p (.int .i64) (s.1:Int)),(13,.p (.int .i64) ((b-1:Nat):Int))],[(1000000,.arr 106 AW m)]⟩) (λs=>b-s.1) ⟨a+1,by omega,by omega,⟨λx h1 f=>by omega,λx h1 f=>by omega⟩⟩ (AD [(1000000,.nm 1000000)] rfl rfl ?_ ?_) (λs=>?_)
 .first|exact eN|refine eM ?_
 .first|exact eN|refine eM ?_
 obtain⟨i,E,I,t⟩:=s;simp only at E I t ⊢;repeat'(first|exact trivial|apply eS rfl|apply AB|refine rX c ?_ ?_)
 .dsimp only[Ty.den];exact⟨λ_=>by omega,λ_=>by omega⟩
 refine De (by simp only[go_sem,Nat.reduceEqDiff,reduceCtorEq,Nat.reduceAdd,Nat.reduceSub,Nat.reduceMul,Nat.reduceLeDiff,Nat.reduceLT,Int.reduceLE,Int.reduceToNat,Int.reduceNeg,↓reduceIte];rfl) ?_ ?_
 .intro d;simp only[An,DO]at d;obtain⟨h1,f⟩:=d;repeat'(first|exact trivial|apply eS rfl|apply AB|refine rX c ?_ ?_)
  .exact CY
  refine⟨⟨i+1,by omega,by omega,⟨λx G H=>?_,t.hi⟩⟩,by simp only;omega,AD [(1000000,.nm 1000000)] rfl rfl ?_ ?_⟩
  .by_cases e:x=i
   .rw[e];exact f
   exact t.lo x G (by omega)
  .first|exact eN|refine eM ?_
  first|exact eN|refine eM ?_
 intro d;have A:i<=b-1->CD (m.getD a (0,0)) (m.getD i (0,0))<0:=λh1=>y.lt CM (by omega) (by omega) (by omega) λf=>by
  simp only[Yx,To]at d;rcases d with h|h
  .omega
  exact h f
 have ag:i<=b-1+1:=by omega
 repeat'(first|exact trivial|apply eS rfl|apply AB|refine rX c ?_ ?_)
 refine AK (ι:={j:Nat//a<=j/\j<b/\i<=j+1/\PtI CD (0,0) a b i j m}) (λs=>⟨[(0,.sr 1000000 AW 0 l.length),(1,.p T3 (a:Int)),(4,.fn 192),(12,.p (.int .i64) (i:Int)),(13,.p (.int .i64) (s.1:Int))],[(1000000,.arr 106 AW m)]⟩) (λs=>s.1) ⟨b-1,by omega,by omega,by omega,t⟩ (AD [(1000000,.nm 1000000)] rfl rfl ?_ ?_) (λs=>?_)
 .first|exact eN|refine eM ?_
 .first|exact eN|refine eM ?_
 obtain⟨j,u,v,W,C⟩:=s;simp only at u v W C ⊢;clear d;repeat'(first|exact trivial|apply eS rfl|apply AB|refine rX c ?_ ?_)
 .dsimp only[Ty.den];exact⟨λ_=>by omega,λ_=>by omega⟩
 refine De (by simp only[go_sem,Nat.reduceEqDiff,reduceCtorEq,Nat.reduceAdd,Nat.reduceSub,Nat.reduceMul,Nat.reduceLeDiff,Nat.reduceLT,Int.reduceLE,Int.reduceToNat,Int.reduceNeg,↓reduceIte];rfl) ?_ ?_
 .intro d;simp only[An,DO,UL,To]at d;obtain⟨h1,f⟩:=d;have f:=y.lt CM (i:=j) (j:=a) (by omega) (by omega) (by omega) f;repeat'(first|exact trivial|apply eS rfl|apply AB|refine rX c ?_ ?_)
  .exact CY
  refine⟨⟨j-1,by omega,by omega,by omega,⟨C.lo,λx G H=>?_⟩⟩,by simp only;omega,AD [(1000000,.nm 1000000)] rfl rfl ?_ ?_⟩
  .by_cases e:x=j
   .rw[e];exact f
   exact C.hi x (by omega) H
  .first|exact eN|refine eM ?_
  simp only;rw[show ((j-1:Nat):Int)=(j:Int)-1 by omega];first|exact eN|refine eM ?_
 intro d;have B:i<=j->CD (m.getD j (0,0)) (m.getD a (0,0))<0:=λh1=>by
  simp only[Yx,To,oR,DO]at d;rcases d with h|h
  .omega
  exact h
 repeat'(first|exact trivial|apply eS rfl|apply AB|refine rX c ?_ ?_)
 refine rC ?_ ?_<;>intro D
 .have Q:i=j+1:=by omega
  subst Q;have o:D9 (0,0) a b m (CU (0,0) m j a):=D9.swap m u v (NO _) (by omega) (by omega);have n:CU (0,0) m j a=(m.set j (m.getD a (0,0))).set a (m.getD j (0,0)):=rfl;repeat'(first|exact trivial|apply eS rfl|apply AB|refine rP c ?_ ?_|fail)
  (refine CJ drawsAny c 14 [([0,1,4,5,6,7,8,9,10,11,12],13)] [2,3] (by kernel_rfl) (LF ?_ ?_);(next=>exact CY);refine Nx c [] ?_ ?_;(next=>exact CY);refine R1 c ?_ ?_ ?_;(next=>exact CY);(next=>exact CY))
  rw[<-n];repeat'(first|exact trivial|apply eS rfl|apply AB|refine rX c ?_ ?_|refine rC ?_ ?_<;>intro D<;>try(cases D;done))
  exact fM c [.tmp 10,.tmp 11] (.tup [.p T3 (j:Int),.p .bool true]) eT ⟨j,true,_,rfl,rfl,g.trans o,A0e C u v (by omega)⟩
 have Z:i≠j:=λe=>by
  have S:=A (by omega);have af:=B (by omega);rw[e,CM.anti]at S;omega
 have P:i<j:=by omega
 have o:D9 (0,0) a b m (CU (0,0) m i j):=D9.swap m (by omega) (by omega) u v (by omega);have n:CU (0,0) m i j=(m.set i (m.getD j (0,0))).set j (m.getD i (0,0)):=rfl;have M:=lF C E P v (by omega) (A (by omega)) (B (by omega));repeat'(first|exact trivial|apply eS rfl|apply AB|refine rP c ?_ ?_|fail)
 (refine CJ drawsAny c 14 [([0,1,4,5,6,7,8,9,10,11,12],13)] [2,3] (by kernel_rfl) (LF ?_ ?_);(next=>exact CY);refine Nx c [] ?_ ?_;(next=>exact CY);refine R1 c ?_ ?_ ?_;(next=>exact CY);(next=>exact CY))
 rw[<-n];have J:=g.trans o;have y:=O.perm CM J.perm;have R:=J.len;clear n o C t A B d g;generalize CU (0,0) m i j=ad at *;repeat'(first|exact trivial|apply eS rfl|apply AB|refine rX c ?_ ?_)
 .exact CY
 .exact CY
 rw[show (i:Int)+1=((i+1:Nat):Int) by omega,show (j:Int)-1=((j-1:Nat):Int) by omega];refine AK (ι:={s:Nat×Nat×List (Int×Int)//(a<s.1/\s.1<=s.2.1+1)/\(a<=s.2.1/\s.2.1<b)/\D9 (0,0) a b l s.2.2/\PtI CD (0,0) a b s.1 s.2.1 s.2.2}) (λs=>⟨[(0,.sr 1000000 AW 0 l.length),(1,.p T3 (a:Int)),(4,.fn 192),(12,.p (.int .i64) (s.1.1:Int)),(13,.p (.int .i64) (s.1.2.1:Int))],[(1000000,.arr 106 AW s.1.2.2)]⟩) (λs=>s.1.2.1+1-s.1.1) ⟨(i+1,j-1,ad),by simp only;omega,by simp only;omega,J,M⟩ (AD [(1000000,.nm 1000000)] rfl rfl ?_ ?_) (λs=>?_)
 .first|exact eN|refine eM ?_
 .first|exact eN|refine eM ?_
 clear M y R J;obtain⟨⟨i,j,m⟩,⟨E,I⟩,⟨u,v⟩,g,t⟩:=s;simp only at E I u v g t ⊢;have y:=O.perm CM g.perm;have R:=g.len;repeat'(first|exact trivial|apply eS rfl|apply AB|refine rX c ?_ ?_)
 refine AK (ι:={k:Nat//a<k/\i<=k/\k<=j+1/\PtI CD (0,0) a b k j m}) (λs=>⟨[(0,.sr 1000000 AW 0 l.length),(1,.p T3 (a:Int)),(4,.fn 192),(12,.p (.int .i64) (s.1:Int)),(13,.p (.int .i64) (j:Int))],[(1000000,.arr 106 AW m)]⟩) (λs=>j+1-s.1) ⟨i,E,NO _,I,t⟩ (AD [(1000000,.nm 1000000)] rfl rfl ?_ ?_) (λs=>?_)
 .first|exact eN|refine eM ?_
 .first|exact eN|refine eM ?_
 obtain⟨k,T,X,U,L⟩:=s;simp only at T U X L ⊢;repeat'(first|exact trivial|apply eS rfl|apply AB|refine rX c ?_ ?_)
 .dsimp only[Ty.den];exact⟨λ_=>by omega,λ_=>by omega⟩
 refine De (by simp only[go_sem,Nat.reduceEqDiff,reduceCtorEq,Nat.reduceAdd,Nat.reduceSub,Nat.reduceMul,Nat.reduceLeDiff,Nat.reduceLT,Int.reduceLE,Int.reduceToNat,Int.reduceNeg,↓reduceIte];rfl) ?_ ?_
 .intro d;simp only[An,DO]at d;obtain⟨h1,f⟩:=d;repeat'(first|exact trivial|apply eS rfl|apply AB|refine rX c ?_ ?_)
  .exact CY
  refine⟨⟨k+1,by omega,by omega,by omega,⟨λx G H=>?_,L.hi⟩⟩,by simp only;omega,AD [(1000000,.nm 1000000)] rfl rfl ?_ ?_⟩
  .by_cases e:x=k
   .rw[e];exact f
   exact L.lo x G (by omega)
  .first|exact eN|refine eM ?_
  first|exact eN|refine eM ?_
 intro d;have A:k<=j->CD (m.getD a (0,0)) (m.getD k (0,0))<0:=λh1=>y.lt CM (by omega) (by omega) (by omega) λf=>by
  simp only[Yx,To]at d;rcases d with h|h
  .omega
  exact h f
 repeat'(first|exact trivial|apply eS rfl|apply AB|refine rX c ?_ ?_)
 refine AK (ι:={z:Nat//a<=z/\z<=j/\k<=z+1/\PtI CD (0,0) a b k z m}) (λs=>⟨[(0,.sr 1000000 AW 0 l.length),(1,.p T3 (a:Int)),(4,.fn 192),(12,.p (.int .i64) (k:Int)),(13,.p (.int .i64) (s.1:Int))],[(1000000,.arr 106 AW m)]⟩) (λs=>s.1) ⟨j,u,NO _,U,L⟩ (AD [(1000000,.nm 1000000)] rfl rfl ?_ ?_) (λs=>?_)
 .first|exact eN|refine eM ?_
 .first|exact eN|refine eM ?_
 obtain⟨z,N,ab,Y,F⟩:=s;simp only at N ab Y F ⊢;clear d;repeat'(first|exact trivial|apply eS rfl|apply AB|refine rX c ?_ ?_)
 .dsimp only[Ty.den];exact⟨λ_=>by omega,λ_=>by omega⟩
 refine De (by simp only[go_sem,Nat.reduceEqDiff,reduceCtorEq,Nat.reduceAdd,Nat.reduceSub,Nat.reduceMul,Nat.reduceLeDiff,Nat.reduceLT,Int.reduceLE,Int.reduceToNat,Int.reduceNeg,↓reduceIte];rfl) ?_ ?_
 .intro d;simp only[An,DO,UL,To]at d;obtain⟨h1,f⟩:=d;have f:=y.lt CM (i:=z) (j:=a) (by omega) (by omega) (by omega) f;repeat'(first|exact trivial|apply eS rfl|apply AB|refine rX c ?_ ?_)
  .exact CY
  refine⟨⟨z-1,by omega,by omega,by omega,⟨F.lo,λx G H=>?_⟩⟩,by simp only;omega,AD [(1000000,.nm 1000000)] rfl rfl ?_ ?_⟩
  .by_cases e:x=z
   .rw[e];exact f
   exact F.hi x (by omega) H
  .first|exact eN|refine eM ?_
  simp only;rw[show ((z-1:Nat):Int)=(z:Int)-1 by omega];first|exact eN|refine eM ?_
 intro d;have B:k<=z->CD (m.getD z (0,0)) (m.getD a (0,0))<0:=λh1=>by
  simp only[Yx,To,oR,DO]at d;rcases d with h|h
  .omega
  exact h
 repeat'(first|exact trivial|apply eS rfl|apply AB|refine rX c ?_ ?_)
 refine rC ?_ ?_<;>intro D
 .have Q:k=z+1:=by omega
  subst Q;have o:D9 (0,0) a b m (CU (0,0) m z a):=D9.swap m N (by omega) (NO _) (by omega) (by omega);have n:CU (0,0) m z a=(m.set z (m.getD a (0,0))).set a (m.getD z (0,0)):=rfl;repeat'(first|exact trivial|apply eS rfl|apply AB|refine rP c ?_ ?_|fail)
  (refine CJ drawsAny c 14 [([0,1,4,5,6,7,8,9,10,11,12],13)] [2,3] (by kernel_rfl) (LF ?_ ?_);(next=>exact CY);refine Nx c [] ?_ ?_;(next=>exact CY);refine R1 c ?_ ?_ ?_;(next=>exact CY);(next=>exact CY))
  rw[<-n];repeat'(first|exact trivial|apply eS rfl|apply AB|refine rX c ?_ ?_|refine rC ?_ ?_<;>intro D<;>try(cases D;done))
  exact fM c [.tmp 10,.tmp 11] (.tup [.p T3 (z:Int),.p .bool false]) eT ⟨z,false,_,rfl,rfl,g.trans o,A0e F N (by omega) (by omega)⟩
 have Z:k≠z:=λe=>by
  have S:=A (by omega);have af:=B (by omega);rw[e,CM.anti]at S;omega
 have P:k<z:=by omega
 have o:D9 (0,0) a b m (CU (0,0) m k z):=D9.swap m (by omega) (by omega) N (by omega) (by omega);have n:CU (0,0) m k z=(m.set k (m.getD z (0,0))).set z (m.getD k (0,0)):=rfl;have M:=lF F T P (by omega) (by omega) (A (by omega)) (B (by omega));repeat'(first|exact trivial|apply eS rfl|apply AB|refine rP c ?_ ?_|fail)
 (refine CJ drawsAny c 14 [([0,1,4,5,6,7,8,9,10,11,12],13)] [2,3] (by kernel_rfl) (LF ?_ ?_);(next=>exact CY);refine Nx c [] ?_ ?_;(next=>exact CY);refine R1 c ?_ ?_ ?_;(next=>exact CY);(next=>exact CY))
 rw[<-n];repeat'(first|exact trivial|apply eS rfl|apply AB|refine rX c ?_ ?_)
 .exact CY
 .exact CY
 refine⟨⟨(k+1,z-1,CU (0,0) m k z),by simp only;omega,by simp only;omega,g.trans o,M⟩,by simp only;omega,AD [(1000000,.nm 1000000)] rfl rfl ?_ ?_⟩
 .first|exact eN|refine eM ?_
 simp only;rw[show ((z-1:Nat):Int)=(z:Int)-1 by omega];first|exact eN|refine eM ?_
end
section
attribute [local go_sem] Cy
theorem A8Z (l:List (Int×Int)) (hl:l.length<=100000) (L:n9 CD (0,0) l) (a b:Nat) (ak:a<b) (al:b<=l.length) (U:Bf CD (0,0) a b l):BA Tryz.prog 237 [.sr 1000000 AW 0 l.length,.p T3 (a:Int),.p T3 (b:Int),.fn 192] [(1000000,.arr 106 AW l)] [1000000] (λres aj=>∃(w:Bool) (r:List (Int×Int)),res=.p .bool w/\aj=[(1000000,.arr 106 AW r)]/\D9 (0,0) a b l r/\(w=true->SJ CD (0,0) a b r)):=by
 refine Ki [0,1,2,3,8,9,10,11,12,16,36,41,45,65,69,84,104,109,124] [] [] Tryz.func237 Tryz.ntmps237 (AF E1 AH) ?_;intro w0 K O0 ρ0 f am an;simp only[Aj];repeat'(first|exact trivial|apply eS rfl|apply AB|refine rX f ?_ ?_|refine rC ?_ ?_<;>intro q<;>try(cases q;done))
 .exact CY
 refine AK (ι:={s:Nat×Nat×List (Int×Int)//(a+1<=s.1/\s.1<=b)/\s.2.1<=5/\D9 (0,0) a b l s.2.2/\SJ CD (0,0) a s.1 s.2.2}) (λs=>⟨[(0,.sr 1000000 AW 0 l.length),(1,.p T3 (a:Int)),(2,.p T3 (b:Int)),(3,.fn 192),(9,.p (.int .i64) (s.1.1:Int)),(10,.p (.int .i64) (s.1.2.1:Int))],[(1000000,.arr 106 AW s.1.2.2)]⟩) (λs=>5-s.1.2.1) ⟨(a+1,0,l),by simp only;omega,Is _,D9.refl a b l,e9 a l⟩ (AD [(1000000,.nm 1000000)] rfl rfl ?_ ?_) (λs=>?_)
 .first|exact eN|refine eM ?_
 .first|exact eN|refine eM ?_
 obtain⟨⟨i,t,m⟩,⟨ab,N⟩,ai,u,Q⟩:=s;simp only at ab N ai u Q ⊢;have P:=L.perm CM u.perm;have ah:=u.len;repeat'(first|exact trivial|apply eS rfl|apply AB|refine rX f ?_ ?_)
 refine rC ?_ ?_<;>intro q
 .repeat'(first|exact trivial|apply eS rfl|apply AB|refine rX f ?_ ?_)
  refine AK (ι:={k:Nat//i<=k/\k<=b/\SJ CD (0,0) a k m}) (λs=>⟨[(0,.sr 1000000 AW 0 l.length),(1,.p T3 (a:Int)),(2,.p T3 (b:Int)),(3,.fn 192),(9,.p (.int .i64) (s.1:Int)),(10,.p (.int .i64) (t:Int))],[(1000000,.arr 106 AW m)]⟩) (λs=>b-s.1) ⟨i,NO _,N,Q⟩ (AD [(1000000,.nm 1000000)] rfl rfl ?_ ?_) (λs=>?_)
  .first|exact eN|refine eM ?_
  .first|exact eN|refine eM ?_
  obtain⟨k,ae,af,F⟩:=s;simp only at ae af F ⊢;have J:((k:Int)-1).toNat=k-1:=by omega
  repeat'(first|exact trivial|apply eS rfl|apply AB|refine rX f ?_ ?_)
  .dsimp only[Ty.den];exact⟨λ_=>by omega,λ_=>by omega,λ_=>by omega⟩
  refine De (by simp only[go_sem,Nat.reduceEqDiff,reduceCtorEq,Nat.reduceAdd,Nat.reduceSub,Nat.reduceMul,Nat.reduceLeDiff,Nat.reduceLT,Int.reduceLE,Int.reduceToNat,Int.reduceNeg,↓reduceIte];rfl) ?_ ?_
  .intro g;simp only[An,DO,UL,To]at g;obtain⟨h1,z⟩:=g;rw[J]at z;have z:=P.lt CM (i:=k) (j:=k-1) (by omega) (by omega) (by omega) z;repeat'(first|exact trivial|apply eS rfl|apply AB|refine rX f ?_ ?_)
   .exact CY
   refine⟨⟨k+1,by omega,by omega,A4W CM F (by omega) z⟩,by simp only;omega,AD [(1000000,.nm 1000000)] rfl rfl ?_ ?_⟩
   .first|exact eN|refine eM ?_
   first|exact eN|refine eM ?_
  intro g;clear g;repeat'(first|exact trivial|apply eS rfl|apply AB|refine rX f ?_ ?_)
  refine rC (λZ=>?_) (λZ=>?_)
  .have O:k=b:=by omega
   subst O;repeat'(first|exact trivial|apply eS rfl|apply AB|refine rX f ?_ ?_|refine rC ?_ ?_<;>intro q<;>try(cases q;done))
   exact fM f [.tmp 8] (.p .bool true) eT ⟨true,m,rfl,rfl,u,λ_=>F⟩
  have O:k<b:=by omega
  repeat'(first|exact trivial|apply eS rfl|apply AB|refine rX f ?_ ?_)
  .exact CY
  refine rC (λaa=>?_) (λaa=>?_)
  .repeat'(first|exact trivial|apply eS rfl|apply AB|refine rX f ?_ ?_|refine rC ?_ ?_<;>intro q<;>try(cases q;done))
   exact fM f [.tmp 8] (.p .bool false) eT ⟨false,m,rfl,rfl,u,λh=>by cases h⟩
  have v:D9 (0,0) a b m (CU (0,0) m k (k-1)):=D9.swap m (by omega) (by omega) (by omega) (by omega) (by omega);have B:CU (0,0) m k (k-1)=(m.set k (m.getD (k-1) (0,0))).set (k-1) (m.getD k (0,0)):=rfl;have R:qT CD (0,0) a (k-1) (k-1) (CU (0,0) m k (k-1)):=⟨λx y h0 h1 z S T=>by
   have M:=Ig (d:=(0,0)) (l:=m) (i:=k) (j:=k-1) (by omega) (by omega);rw[M x,M y,As S,As (show ¬x=k by omega),As T,As (show ¬y=k by omega)];exact F x y h0 h1 (by omega),λy h1 z=>by omega⟩
  repeat'(first|exact trivial|apply eS rfl|apply AB|refine rP f ?_ ?_|fail)
  (refine CJ drawsAny f 16 [([0,1,5,6,7,8,9,10,11,12,13,14],15)] [2,3,4] (by kernel_rfl) (LF ?_ ?_);(next=>exact CY);refine Nx f [] ?_ ?_;(next=>exact CY);refine R1 f ?_ ?_ ?_;(next=>exact CY);(next=>exact CY))
  rw[J,<-B];have I:=u.trans v;clear B v P ah;generalize CU (0,0) m k (k-1)=c0 at *;refine IE ?_;refine QW (ι:={c:List (Int×Int)//D9 (0,0) a b l c/\SJ CD (0,0) a k c}) (λs=>⟨[(0,.sr 1000000 AW 0 l.length),(1,.p T3 (a:Int)),(2,.p T3 (b:Int)),(3,.fn 192),(9,.p (.int .i64) (k:Int)),(10,.p (.int .i64) (t:Int))],[(1000000,.arr 106 AW s.1)]⟩) ?_ (λs=>?_)
  .repeat'(first|exact trivial|apply eS rfl|apply AB|refine rX f ?_ ?_)
   .exact CY
   refine rC (λG=>?_) (λG=>?_)
   .repeat'(first|exact trivial|apply eS rfl|apply AB|refine rX f ?_ ?_)
    .exact CY
    rw[show (k:Int)-1=((k-1:Nat):Int) by omega];refine AK (ι:={s:Nat×List (Int×Int)//(a<=s.1/\s.1<=k-1)/\D9 (0,0) a b l s.2/\qT CD (0,0) a (k-1) s.1 s.2}) (λs=>⟨[(0,.sr 1000000 AW 0 l.length),(1,.p T3 (a:Int)),(2,.p T3 (b:Int)),(3,.fn 192),(9,.p (.int .i64) (k:Int)),(10,.p (.int .i64) (t:Int)),(11,.p (.int .i64) (s.1.1:Int))],[(1000000,.arr 106 AW s.1.2)]⟩) (λs=>s.1.1) ⟨(k-1,c0),by simp only;omega,I,R⟩ (AD [(1000000,.nm 1000000)] rfl rfl ?_ ?_) (λs=>?_)
    .first|exact eN|refine eM ?_
    .first|exact eN|refine eM ?_
    obtain⟨⟨j,c⟩,⟨D,A⟩,n,o⟩:=s;simp only at D A n o ⊢;have X:=L.perm CM n.perm;have Y:=n.len;have C:((j:Int)-1).toNat=j-1:=by omega
    have V:=U.pin n;repeat'(first|exact trivial|apply eS rfl|apply AB|refine rX f ?_ ?_)
    refine rC (λH=>?_) (λH=>?_)
    .repeat'(first|exact trivial|apply eS rfl|apply AB|refine rX f ?_ ?_)
     .exact CY
     refine De (by simp only[go_sem,Nat.reduceEqDiff,reduceCtorEq,Nat.reduceAdd,Nat.reduceSub,Nat.reduceMul,Nat.reduceLeDiff,Nat.reduceLT,Int.reduceLE,Int.reduceToNat,Int.reduceNeg,↓reduceIte];rfl) ?_ ?_
     .intro g;simp only[UL,To]at g;rw[C]at g;have g:=X.lt CM (i:=j) (j:=j-1) (by omega) (by omega) (by omega) g;have E:=W9 CM o D A (.inr g);rw[show k-1+1=k by omega]at E;repeat'(first|exact trivial|apply eS rfl|apply AB|refine rX f ?_ ?_)
      refine⟨⟨c,n,E⟩,AD [(1000000,.nm 1000000)] rfl rfl ?_ ?_⟩
      .first|exact eN|refine eM ?_
      first|exact eN|refine eM ?_
     intro g;simp only[oR,DO]at g;rw[C]at g;have g:CD (c.getD j (0,0)) (c.getD (j-1) (0,0))<0:=g;have W:a<j:=by
      refine If λhn=>?_;have e:j=a:=by omega
      subst e;rcases V with h|h
      .omega
      have:=h j (NO _) (by omega);rw[CM.anti]at this;omega
     have v:D9 (0,0) a b c (CU (0,0) c j (j-1)):=D9.swap c (by omega) (by omega) (by omega) (by omega) (by omega);have B:CU (0,0) c j (j-1)=(c.set j (c.getD (j-1) (0,0))).set (j-1) (c.getD j (0,0)):=rfl;repeat'(first|exact trivial|apply eS rfl|apply AB|refine rP f ?_ ?_|fail)
     (refine CJ drawsAny f 16 [([0,1,5,6,7,8,9,10,11,12,13,14],15)] [2,3,4] (by kernel_rfl) (LF ?_ ?_);(next=>exact CY);refine Nx f [] ?_ ?_;(next=>exact CY);refine R1 f ?_ ?_ ?_;(next=>exact CY);(next=>exact CY))
     rw[C,<-B];repeat'(first|exact trivial|apply eS rfl|apply AB|refine rX f ?_ ?_)
     .exact CY
     refine⟨⟨(j-1,CU (0,0) c j (j-1)),by simp only;omega,n.trans v,aO o W A (by omega) g⟩,by simp only;omega,AD [(1000000,.nm 1000000)] rfl rfl ?_ ?_⟩
     .first|exact eN|refine eM ?_
     simp only;rw[show ((j-1:Nat):Int)=(j:Int)-1 by omega];first|exact eN|refine eM ?_
    have ad:j=a:=by omega
    have E:=W9 CM o D A (.inl ad);rw[show k-1+1=k by omega]at E;repeat'(first|exact trivial|apply eS rfl|apply AB|refine rX f ?_ ?_)
    refine⟨⟨c,n,E⟩,AD [(1000000,.nm 1000000)] rfl rfl ?_ ?_⟩
    .first|exact eN|refine eM ?_
    first|exact eN|refine eM ?_
   have ag:k=a+1:=by omega
   repeat'(first|exact trivial|apply eS rfl|apply AB|refine rX f ?_ ?_)
   refine⟨⟨c0,I,by rw[ag];exact e9 a c0⟩,AD [(1000000,.nm 1000000)] rfl rfl ?_ ?_⟩
   .first|exact eN|refine eM ?_
   first|exact eN|refine eM ?_
  obtain⟨c,n,o⟩:=s;simp only;clear I R;repeat'(first|exact trivial|apply eS rfl|apply AB|refine rX f ?_ ?_)
  .exact CY
  refine rC (λG=>?_) (λG=>?_)
  .repeat'(first|exact trivial|apply eS rfl|apply AB|refine rX f ?_ ?_)
   .exact CY
   rw[show (k:Int)+1=((k+1:Nat):Int) by omega];refine AK (ι:={s:Nat×List (Int×Int)//(k+1<=s.1/\s.1<=b)/\D9 (0,0) a b l s.2/\SJ CD (0,0) a k s.2}) (λs=>⟨[(0,.sr 1000000 AW 0 l.length),(1,.p T3 (a:Int)),(2,.p T3 (b:Int)),(3,.fn 192),(9,.p (.int .i64) (k:Int)),(10,.p (.int .i64) (t:Int)),(12,.p (.int .i64) (s.1.1:Int))],[(1000000,.arr 106 AW s.1.2)]⟩) (λs=>b-s.1.1) ⟨(k+1,c),by simp only;omega,n,o⟩ (AD [(1000000,.nm 1000000)] rfl rfl ?_ ?_) (λs=>?_)
   .first|exact eN|refine eM ?_
   .first|exact eN|refine eM ?_
   clear n o;obtain⟨⟨j,c⟩,⟨D,A⟩,n,o⟩:=s;simp only at D A n o ⊢;have Y:=n.len;have C:((j:Int)-1).toNat=j-1:=by omega
   repeat'(first|exact trivial|apply eS rfl|apply AB|refine rX f ?_ ?_)
   refine rC (λH=>?_) (λH=>?_)
   .repeat'(first|exact trivial|apply eS rfl|apply AB|refine rX f ?_ ?_)
    .exact CY
    refine De (by simp only[go_sem,Nat.reduceEqDiff,reduceCtorEq,Nat.reduceAdd,Nat.reduceSub,Nat.reduceMul,Nat.reduceLeDiff,Nat.reduceLT,Int.reduceLE,Int.reduceToNat,Int.reduceNeg,↓reduceIte];rfl) ?_ ?_
    .intro g;clear g;repeat'(first|exact trivial|apply eS rfl|apply AB|refine rX f ?_ ?_)
     .exact CY
     refine⟨⟨(k,t+1,c),by simp only;omega,by simp only;omega,n,o⟩,by simp only;omega,AD [(1000000,.nm 1000000)] rfl rfl ?_ ?_⟩
     .first|exact eN|refine eM ?_
     first|exact eN|refine eM ?_
    intro g;clear g;have v:D9 (0,0) k b c (CU (0,0) c j (j-1)):=D9.swap c (by omega) (by omega) (by omega) (by omega) (by omega);have B:CU (0,0) c j (j-1)=(c.set j (c.getD (j-1) (0,0))).set (j-1) (c.getD j (0,0)):=rfl;repeat'(first|exact trivial|apply eS rfl|apply AB|refine rP f ?_ ?_|fail)
    (refine CJ drawsAny f 16 [([0,1,5,6,7,8,9,10,11,12,13,14],15)] [2,3,4] (by kernel_rfl) (LF ?_ ?_);(next=>exact CY);refine Nx f [] ?_ ?_;(next=>exact CY);refine R1 f ?_ ?_ ?_;(next=>exact CY);(next=>exact CY))
    rw[C,<-B];repeat'(first|exact trivial|apply eS rfl|apply AB|refine rX f ?_ ?_)
    .exact CY
    refine⟨⟨(j+1,CU (0,0) c j (j-1)),by simp only;omega,n.trans (v.mono (by omega) (NO _)),Nk o λx ao ap=>v.out x (by omega)⟩,by simp only;omega,AD [(1000000,.nm 1000000)] rfl rfl ?_ ?_⟩
    .first|exact eN|refine eM ?_
    first|exact eN|refine eM ?_
   repeat'(first|exact trivial|apply eS rfl|apply AB|refine rX f ?_ ?_)
   .exact CY
   refine⟨⟨(k,t+1,c),by simp only;omega,by simp only;omega,n,o⟩,by simp only;omega,AD [(1000000,.nm 1000000)] rfl rfl ?_ ?_⟩
   .first|exact eN|refine eM ?_
   first|exact eN|refine eM ?_
  repeat'(first|exact trivial|apply eS rfl|apply AB|refine rX f ?_ ?_)
  .exact CY
  refine⟨⟨(k,t+1,c),by simp only;omega,by simp only;omega,n,o⟩,by simp only;omega,AD [(1000000,.nm 1000000)] rfl rfl ?_ ?_⟩
  .first|exact eN|refine eM ?_
  first|exact eN|refine eM ?_
 repeat'(first|exact trivial|apply eS rfl|apply AB|refine rX f ?_ ?_|refine rC ?_ ?_<;>intro q<;>try(cases q;done))
 exact fM f [.tmp 8] (.p .bool false) eT ⟨false,m,rfl,rfl,u,λh=>by cases h⟩
end
section
attribute [local go_sem] Cy
def Gn (l:List (Int×Int)) (s:Nat):List (Nat×Obj):=[(1000000,.arr 106 AW l),(70,.box 3 false [.p T3 (s:Int)])]
theorem XA (l:List (Int×Int)) (a b s:Nat) (f:a<l.length) (bl:b<l.length) (hs:s<=1000):BA Tryz.prog 251 [.sr 1000000 AW 0 l.length,.p T3 (a:Int),.p T3 (b:Int),.bp 70 [] 0,.fn 192] (Gn l s) [1000000,70] (λres e=>∃x y t:Nat,res=.tup [.p T3 (x:Int),.p T3 (y:Int)]/\e=Gn l t/\((x=a/\y=b)\/(x=b/\y=a))/\t<=s+1):=by
 refine Ki [0,1,2,3,4,10,11,22] [] [] Tryz.func251 Tryz.ntmps251 (AF E1 AH) ?_;intro w0 K O0 ρ0 c g h;simp only[Aj,Gn];repeat'(first|exact trivial|apply eS rfl|apply AB|refine rX c ?_ ?_|refine rC ?_ ?_<;>intro d<;>try(cases d;done))
 .exact CY
 .exact CY
 .refine fM c [.tmp 10,.tmp 11] (.tup [.p T3 (b:Int),.p T3 (a:Int)]) eT ⟨b,a,s+1,rfl,?_,.inr ⟨rfl,rfl⟩,NO _⟩;rw[show ((s+1:Nat):Int)=(s:Int)+1 by omega]
 exact fM c [.tmp 10,.tmp 11] (.tup [.p T3 (a:Int),.p T3 (b:Int)]) eT ⟨a,b,s,rfl,rfl,.inl ⟨rfl,rfl⟩,by omega⟩
theorem fA (l:List (Int×Int)) (a b c s:Nat) (j:a<l.length) (bl:b<l.length) (cl:c<l.length) (hs:s<=900):BA Tryz.prog 248 [.sr 1000000 AW 0 l.length,.p T3 (a:Int),.p T3 (b:Int),.p T3 (c:Int),.bp 70 [] 0,.fn 192] (Gn l s) [1000000,70] (λres k=>∃x t:Nat,res=.p T3 (x:Int)/\k=Gn l t/\(x=a\/x=b\/x=c)/\t<=s+3):=by
 refine Ki [0,1,2,3,4,5,12] [] [] Tryz.func248 Tryz.ntmps248 AH ?_;intro w0 K O0 ρ0 d o q;simp only[Aj,Gn];repeat'(first|exact trivial|apply eS rfl|apply AB|refine rX d ?_ ?_|refine rC ?_ ?_<;>intro e<;>try(cases e;done))
 refine cP 5 d ?_ ?_
 .trivial
 refine rM d (XA l a b s j bl (by omega)) [(1000000,.nm 1000000),(70,.nm 70)] [] ?_ ?_ ?_
 .first|exact eN|refine eM ?_
 .simp only[Gn];first|exact eN|refine eM ?_
 rintro _ _ ⟨g,b1,s1,rfl,rfl,h1,r⟩;refine⟨[(1000000,.nm 1000000),(70,.nm 70)],.tup [.p T3 (g:Int),.p T3 (b1:Int)],[(1000000,.arr 106 AW l),(70,.box 3 false [.p T3 (s1:Int)])],rfl,rfl,?_,?_,rfl,rfl,?_⟩
 .simp only[Gn];first|exact eN|refine eM ?_
 .first|exact eN|refine eM ?_
 refine rL d ?_ ?_
 .trivial
 repeat'(first|exact trivial|apply eS rfl|apply AB|refine rX d ?_ ?_|refine rC ?_ ?_<;>intro e<;>try(cases e;done))
 refine cP 5 d ?_ ?_
 .trivial
 refine rM d (XA l b1 c s1 (by omega) cl (by omega)) [(1000000,.nm 1000000),(70,.nm 70)] [] ?_ ?_ ?_
 .first|exact eN|refine eM ?_
 .simp only[Gn];first|exact eN|refine eM ?_
 rintro _ _ ⟨b2,c2,s2,rfl,rfl,m,u⟩;refine⟨[(1000000,.nm 1000000),(70,.nm 70)],.tup [.p T3 (b2:Int),.p T3 (c2:Int)],[(1000000,.arr 106 AW l),(70,.box 3 false [.p T3 (s2:Int)])],rfl,rfl,?_,?_,rfl,rfl,?_⟩
 .simp only[Gn];first|exact eN|refine eM ?_
 .first|exact eN|refine eM ?_
 refine rL d ?_ ?_
 .trivial
 repeat'(first|exact trivial|apply eS rfl|apply AB|refine rX d ?_ ?_|refine rC ?_ ?_<;>intro e<;>try(cases e;done))
 refine cP 5 d ?_ ?_
 .trivial
 refine rM d (XA l g b2 s2 (by omega) (by omega) (by omega)) [(1000000,.nm 1000000),(70,.nm 70)] [] ?_ ?_ ?_
 .first|exact eN|refine eM ?_
 .simp only[Gn];first|exact eN|refine eM ?_
 rintro _ _ ⟨i,f,h,rfl,rfl,n,v⟩;refine⟨[(1000000,.nm 1000000),(70,.nm 70)],.tup [.p T3 (i:Int),.p T3 (f:Int)],[(1000000,.arr 106 AW l),(70,.box 3 false [.p T3 (h:Int)])],rfl,rfl,?_,?_,rfl,rfl,?_⟩
 .simp only[Gn];first|exact eN|refine eM ?_
 .first|exact eN|refine eM ?_
 refine rL d ?_ ?_
 .trivial
 repeat'(first|exact trivial|apply eS rfl|apply AB|refine rX d ?_ ?_|refine rC ?_ ?_<;>intro e<;>try(cases e;done))
 exact fM d [.tmp 12] (.p T3 (f:Int)) eT ⟨f,h,rfl,rfl,by omega,by omega⟩
theorem fB (l:List (Int×Int)) (b s:Nat) (f:1<=b) (bl:b+1<l.length) (hl:l.length<=100000) (hs:s<=900):BA Tryz.prog 247 [.sr 1000000 AW 0 l.length,.p T3 (b:Int),.bp 70 [] 0,.fn 192] (Gn l s) [1000000,70] (λres e=>∃x t:Nat,res=.p T3 (x:Int)/\e=Gn l t/\(b-1<=x/\x<=b+1)/\t<=s+3):=by
 refine Ki [0,1,2,3,8] [] [] Tryz.func247 Tryz.ntmps247 AH ?_;intro w0 K O0 ρ0 a g h;simp only[Aj,Gn];have key:=fA l (b-1) b (b+1) s (by omega) (by omega) bl hs;rw[show ((b-1:Nat):Int)=(b:Int)-1 by omega,show ((b+1:Nat):Int)=(b:Int)+1 by omega]at key;repeat'(first|exact trivial|apply eS rfl|apply AB|refine rX a ?_ ?_|refine rC ?_ ?_<;>intro c<;>try(cases c;done))
 refine cP 8 a ?_ ?_
 .exact CY
 refine rM a (key) [(1000000,.nm 1000000),(70,.nm 70)] [] ?_ ?_ ?_
 .first|exact eN|refine eM ?_
 .simp only[Gn];first|exact eN|refine eM ?_
 rintro _ _ ⟨x,t,rfl,rfl,hx,d⟩;refine⟨[(1000000,.nm 1000000),(70,.nm 70)],.p T3 (x:Int),[(1000000,.arr 106 AW l),(70,.box 3 false [.p T3 (t:Int)])],rfl,rfl,?_,?_,rfl,rfl,?_⟩
 .simp only[Gn];first|exact eN|refine eM ?_
 .first|exact eN|refine eM ?_
 refine rL a ?_ ?_
 .trivial
 repeat'(first|exact trivial|apply eS rfl|apply AB|refine rX a ?_ ?_|refine rC ?_ ?_<;>intro c<;>try(cases c;done))
 exact fM a [.tmp 8] (.p T3 (x:Int)) eT ⟨x,t,rfl,rfl,by omega,d⟩
theorem A90 (l:List (Int×Int)) (hl:l.length<=100000) (a b:Nat) (y:a+13<=b) (z:b<=l.length):BA Tryz.prog 235 [.sr 1000000 AW 0 l.length,.p T3 (a:Int),.p T3 (b:Int),.fn 192] [(1000000,.arr 106 AW l)] [1000000] (λres w=>∃(j:Nat) (h:Int),res=.tup [.p T3 (j:Int),.p T3 h]/\w=[(1000000,.arr 106 AW l)]/\a<=j/\j<b):=by
 refine Ki [0,1,2,3,8,9,10,11,12,13,14,34,36,55,57,60] [] [] Tryz.func235 Tryz.ntmps235 AH ?_;intro w0 K O0 ρ0 c A B;simp only[Aj];obtain⟨t,u⟩:∃t,t=(b-a) / 4:=⟨_,rfl⟩;have et:((b:Int)-(a:Int)).tdiv 4=(t:Int):=by
  rw[Yq (by omega)];omega
 have F:4*t<=b-a:=by omega
 have G:3<=t:=by omega
 clear u
 (apply eS rfl;refine rX c ?_ ?_;(next=>first|exact trivial|exact CY))
 (apply eS rfl;refine rX c ?_ ?_;(next=>first|exact trivial|exact CY))
 (apply eS rfl;refine rX c ?_ ?_;(next=>first|exact trivial|exact CY))
 (apply eS rfl;refine rX c ?_ ?_;(next=>first|exact trivial|exact CY|(rw[et];refine⟨⟨by decide,?_⟩,?_,?_⟩<;>omega)))
 (apply eS rfl;refine rX c ?_ ?_;(next=>first|exact trivial|exact CY|(rw[et];refine⟨⟨by decide,?_⟩,?_,?_⟩<;>omega)))
 (apply eS rfl;refine rX c ?_ ?_;(next=>first|exact trivial|exact CY|(rw[et];refine⟨⟨by decide,?_⟩,?_,?_⟩<;>omega)))
 rw[et,show (a:Int)+(t:Int)*1=((a+t:Nat):Int) by omega,show (a:Int)+(t:Int)*2=((a+t*2:Nat):Int) by omega,show (a:Int)+(t:Int)*3=((a+t*3:Nat):Int) by omega];refine IE ?_;refine QW (ι:={x:Nat×Nat//a<=x.1/\x.1<b}) (λx=>⟨[(11,.bp 11 [] 0),(13,.p T3 (x.1.1:Int))],[(1000000,.arr 106 AW l),(11,.box 3 false [.p T3 (x.1.2:Int)])]⟩) ?_ (λx=>?_)
 .repeat'(first|exact trivial|apply eS rfl|apply AB|refine rX c ?_ ?_)
  refine rC ?_ ?_<;>intro i
  .repeat'(first|exact trivial|apply eS rfl|apply AB|refine rX c ?_ ?_)
   refine rC (λq=>?_) (λq=>?_)
   .repeat'(first|exact trivial|apply eS rfl|apply AB|refine rP c ?_ ?_|fail)
    refine cP 3 c ?_ ?_
    .trivial
    refine rM c (fB l (a+t) 0 (by omega) (by omega) hl (by omega)) [(1000000,.nm 1000000),(70,.nm 11)] [] ?_ ?_ ?_
    .first|exact eN|refine eM ?_
    .simp only[Gn];first|exact eN|refine eM ?_
    rintro _ _ ⟨m,s1,rfl,rfl,H,C⟩;refine⟨[(1000000,.nm 1000000),(11,.nm 70)],.p T3 (m:Int),[(1000000,.arr 106 AW l),(11,.box 3 false [.p T3 (s1:Int)])],rfl,rfl,?_,?_,rfl,rfl,?_⟩
    .simp only[Gn];first|exact eN|refine eM ?_
    .first|exact eN|refine eM ?_
    refine rL c ?_ ?_
    .trivial
    repeat'(first|exact trivial|apply eS rfl|apply AB|refine rX c ?_ ?_)
    refine cP 3 c ?_ ?_
    .trivial
    refine rM c (fB l (a+t*2) s1 (by omega) (by omega) hl (by omega)) [(1000000,.nm 1000000),(70,.nm 11)] [] ?_ ?_ ?_
    .first|exact eN|refine eM ?_
    .simp only[Gn];first|exact eN|refine eM ?_
    rintro _ _ ⟨n,s2,rfl,rfl,I,D⟩;refine⟨[(1000000,.nm 1000000),(11,.nm 70)],.p T3 (n:Int),[(1000000,.arr 106 AW l),(11,.box 3 false [.p T3 (s2:Int)])],rfl,rfl,?_,?_,rfl,rfl,?_⟩
    .simp only[Gn];first|exact eN|refine eM ?_
    .first|exact eN|refine eM ?_
    refine rL c ?_ ?_
    .trivial
    repeat'(first|exact trivial|apply eS rfl|apply AB|refine rX c ?_ ?_)
    refine cP 3 c ?_ ?_
    .trivial
    refine rM c (fB l (a+t*3) s2 (by omega) (by omega) hl (by omega)) [(1000000,.nm 1000000),(70,.nm 11)] [] ?_ ?_ ?_
    .first|exact eN|refine eM ?_
    .simp only[Gn];first|exact eN|refine eM ?_
    rintro _ _ ⟨o,k,rfl,rfl,J,E⟩;refine⟨[(1000000,.nm 1000000),(11,.nm 70)],.p T3 (o:Int),[(1000000,.arr 106 AW l),(11,.box 3 false [.p T3 (k:Int)])],rfl,rfl,?_,?_,rfl,rfl,?_⟩
    .simp only[Gn];first|exact eN|refine eM ?_
    .first|exact eN|refine eM ?_
    refine rL c ?_ ?_
    .trivial
    repeat'(first|exact trivial|apply eS rfl|apply AB|refine rX c ?_ ?_)
    refine cP 5 c ?_ ?_
    .trivial
    refine rM c (fA l (m) (n) (o) k (by omega) (by omega) (by omega) (by omega)) [(1000000,.nm 1000000),(70,.nm 11)] [] ?_ ?_ ?_
    .first|exact eN|refine eM ?_
    .simp only[Gn];first|exact eN|refine eM ?_
    rintro _ _ ⟨e,d,rfl,rfl,v,r⟩;refine⟨[(1000000,.nm 1000000),(11,.nm 70)],.p T3 (e:Int),[(1000000,.arr 106 AW l),(11,.box 3 false [.p T3 (d:Int)])],rfl,rfl,?_,?_,rfl,rfl,?_⟩
    .simp only[Gn];first|exact eN|refine eM ?_
    .first|exact eN|refine eM ?_
    refine rL c ?_ ?_
    .trivial
    repeat'(first|exact trivial|apply eS rfl|apply AB|refine rX c ?_ ?_)
    refine⟨⟨(e,d),by simp only;omega,by simp only;omega⟩,AD [(1000000,.nm 1000000),(11,.nm 11)] rfl rfl ?_ ?_⟩
    .first|exact eN|refine eM ?_
    first|exact eN|refine eM ?_
   repeat'(first|exact trivial|apply eS rfl|apply AB|refine rP c ?_ ?_|fail)
   refine cP 5 c ?_ ?_
   .trivial
   refine rM c (fA l (a+t) (a+t*2) (a+t*3) 0 (by omega) (by omega) (by omega) (by omega)) [(1000000,.nm 1000000),(70,.nm 11)] [] ?_ ?_ ?_
   .first|exact eN|refine eM ?_
   .simp only[Gn];first|exact eN|refine eM ?_
   rintro _ _ ⟨e,d,rfl,rfl,v,r⟩;refine⟨[(1000000,.nm 1000000),(11,.nm 70)],.p T3 (e:Int),[(1000000,.arr 106 AW l),(11,.box 3 false [.p T3 (d:Int)])],rfl,rfl,?_,?_,rfl,rfl,?_⟩
   .simp only[Gn];first|exact eN|refine eM ?_
   .first|exact eN|refine eM ?_
   refine rL c ?_ ?_
   .trivial
   repeat'(first|exact trivial|apply eS rfl|apply AB|refine rX c ?_ ?_)
   refine⟨⟨(e,d),by simp only;omega,by simp only;omega⟩,AD [(1000000,.nm 1000000),(11,.nm 11)] rfl rfl ?_ ?_⟩
   .first|exact eN|refine eM ?_
   first|exact eN|refine eM ?_
  exfalso;omega
 obtain⟨⟨j,s⟩,f,g⟩:=x;simp only at f g ⊢;repeat'(first|exact trivial|apply eS rfl|apply AB|refine rX c ?_ ?_|refine rC ?_ ?_<;>intro i<;>try(cases i;done))
 .refine Ev.ent (σ':=⟨[(8,.p T3 (j:Int)),(9,.p T3 (1:Int))],[(1000000,.arr 106 AW l)]⟩) ?_ (AD [(1000000,.nm 1000000)] rfl rfl ?_ ?_)
  .exact fM c [.tmp 8,.tmp 9] (.tup [.p T3 (j:Int),.p T3 (1:Int)]) eT ⟨j,1,rfl,rfl,f,g⟩
  .first|exact eN|refine eM ?_
  first|exact eN|refine eM ?_
 .refine Ev.ent (σ':=⟨[(8,.p T3 (j:Int)),(9,.p T3 (2:Int))],[(1000000,.arr 106 AW l)]⟩) ?_ (AD [(1000000,.nm 1000000)] rfl rfl ?_ ?_)
  .exact fM c [.tmp 8,.tmp 9] (.tup [.p T3 (j:Int),.p T3 (2:Int)]) eT ⟨j,2,rfl,rfl,f,g⟩
  .first|exact eN|refine eM ?_
  first|exact eN|refine eM ?_
 refine Ev.ent (σ':=⟨[(8,.p T3 (j:Int)),(9,.p T3 (0:Int))],[(1000000,.arr 106 AW l)]⟩) ?_ (AD [(1000000,.nm 1000000)] rfl rfl ?_ ?_)
 .exact fM c [.tmp 8,.tmp 9] (.tup [.p T3 (j:Int),.p T3 (0:Int)]) eT ⟨j,0,rfl,rfl,f,g⟩
 .first|exact eN|refine eM ?_
 first|exact eN|refine eM ?_
end
theorem A91 (x y:Int) (h0:0<=y) (h1:y<4611686018427387904):0<=B7 .and .u64 x y/\B7 .and .u64 x y<=y:=by
 have d:(IntKind.u64).bits=64:=rfl;have e2:(BitVec.ofInt 64 y).toNat=y.toNat:=by
  rw[BitVec.toNat_ofInt];omega
 have c:(BitVec.ofInt 64 x &&& BitVec.ofInt 64 y).toNat<=y.toNat:=by
  rw[BitVec.toNat_and,e2];exact Nat.and_le_right
 have a:B7 .and .u64 x y=IntKind.u64.wrap (((BitVec.ofInt 64 x &&& BitVec.ofInt 64 y).toNat:Nat):Int):=rfl;rw[a];generalize (BitVec.ofInt 64 x &&& BitVec.ofInt 64 y).toNat=z at *;have b:IntKind.u64.wrap (z:Int)=(z:Int):=by
  have e:(z:Int)<18446744073709551616:=by omega
  have:IntKind.u64.wrap (z:Int)=(z:Int) % 18446744073709551616:=by
   first|rfl|(simp[IntKind.wrap];done)
  rw[this];omega
 rw[b];omega
theorem AEJ (z:Int):0<=IntKind.u64.wrap z/\IntKind.u64.wrap z<=18446744073709551615:=by
 have:IntKind.u64.wrap z=z % 18446744073709551616:=by
  first|rfl|(simp[IntKind.wrap];done)
 omega
theorem lH (x y:Int):0<=B7 .xor .u64 x y/\B7 .xor .u64 x y<=18446744073709551615:=AEJ _
theorem A50 {x:Int} (h0:0<=x) (h1:x<=18446744073709551615):0<=Y3 .u64 x 7/\Y3 .u64 x 7<=18446744073709551615:=by
 show 0<=x.fdiv 128/\x.fdiv 128<=18446744073709551615;rw[Int.fdiv_eq_ediv_of_nonneg _ (by decide)];omega
theorem A2a (x:Int) (h0:0<=x) (h1:x<256):BA Tryz.prog 241 [.p (.int .u64) x] [] [] (λres f=>(∃n:Nat,res=.p T3 (n:Int)/\n<=8/\(1<=x.toNat->x.toNat<2 ^ n/\2 ^ n<=2*x.toNat))/\f=[]):=by
 refine Ki [0,2,4,8,14] [] [] Tryz.func241 Tryz.ntmps241 AH ?_;intro w0 K O0 ρ0 a g h;simp only[Aj];repeat'(first|exact trivial|apply eS rfl|refine rX a ?_ ?_|refine rC ?_ ?_<;>intro b<;>try(cases b;done))
 all_goals first|(exfalso;omega)|skip
 refine MN [0,2] a rfl (by simp only[go_sem,Nat.reduceEqDiff,reduceCtorEq,Nat.reduceAdd,Nat.reduceSub,Nat.reduceMul,Nat.reduceLeDiff,Nat.reduceLT,Int.reduceLE,Int.reduceToNat,Int.reduceNeg,↓reduceIte,ByteArray.size,List.size_toArray,AQ];rfl) ?_ ?_
 .have hu:∀u:UInt8,((u.toNat:Nat):Int)<=255:=λu=>by have:=u.toNat_lt;omega
  have c:0<=x:=by omega
  refine⟨⟨c,by omega⟩,⟨c,?_⟩,⟨?_,?_⟩,?_,?_⟩
  .have d:x<((256:Nat):Int):=h1;exact d
  .exact AAc (by decide) (ZX _)
  .exact AAc (hu _) (by decide)
  .rw[AG8];exact AAc (by decide) (ZX _)
  rw[AG8];exact AAc (hu _) (by decide)
 repeat' apply eS rfl
 refine fM a [.tmp 2] (.p T3 _) (by simp only[TD,A1h,Rv,Zq,K7,K6,Jf,go_sem,Nat.reduceEqDiff,reduceCtorEq,Nat.reduceAdd,Nat.reduceSub,Nat.reduceMul,Nat.reduceLeDiff,Nat.reduceLT,Int.reduceLE,Int.reduceToNat,Int.reduceNeg,↓reduceIte];rfl) ⟨⟨_,by rw[AG8],?_⟩,rfl⟩;have e:x.toNat<256:=by omega
 generalize x.toNat=k at *;clear b;revert e;revert k;decide
theorem A0f (x:Int) (h0:0<=x) (h1:x<256):BA Tryz.prog 230 [.p (.int .u64) x] [] [] (λres d=>(∃n:Nat,res=.p T3 (n:Int)/\n<=8/\(1<=x.toNat->x.toNat<2 ^ n/\2 ^ n<=2*x.toNat))/\d=[]):=by
 refine Ki [0,2] [] [] Tryz.func230 Tryz.ntmps230 AH ?_;intro w0 K O0 ρ0 a e f;simp only[Aj];repeat'(first|exact trivial|apply eS rfl|refine rX a ?_ ?_|refine rC ?_ ?_<;>intro b<;>try(cases b;done))
 refine cP 1 a ?_ ?_
 .trivial
 refine rM a (A2a x h0 h1) [] [] ?_ ?_ ?_
 .exact eN
 .exact eN
 rintro _ _ ⟨⟨n,rfl,c⟩,rfl⟩;refine⟨[],.p T3 (n:Int),[],rfl,rfl,?_,?_,rfl,rfl,?_⟩
 .exact eN
 .exact eN
 refine rL a ?_ ?_
 .trivial
 repeat' apply eS rfl
 exact fM a [.tmp 2] (.p T3 (n:Int)) eT ⟨⟨n,rfl,c⟩,rfl⟩
theorem A92 (x:Int) (h0:1<=x) (h1:x<256):BA Tryz.prog 245 [.p T3 x] [] [] (λres f=>(∃m:Nat,res=.p (.int .u64) (m:Int)/\x.toNat<m/\m<=2*x.toNat)/\f=[]):=by
 refine Ki [0,2] [] [] Tryz.func245 Tryz.ntmps245 AH ?_;intro w0 K O0 ρ0 a h i;simp only[Aj];repeat'(first|exact trivial|apply eS rfl|refine rX a ?_ ?_)
 refine cP 2 a ?_ ?_
 .exact CY
 refine rM a (A0f x (by omega) h1) [] [] ?_ ?_ ?_
 .exact eN
 .exact eN
 rintro _ _ ⟨⟨n,rfl,g,d⟩,rfl⟩;obtain⟨b,c⟩:=d (by omega);refine⟨[],.p T3 (n:Int),[],rfl,rfl,?_,?_,rfl,rfl,?_⟩
 .exact eN
 .exact eN
 refine rL a ?_ ?_
 .trivial
 have e:Tv .u64 1 (n:Int)=((2 ^ n:Nat):Int):=by
  clear b c;have:∀n:Fin 9,Tv .u64 1 ((n.val:Nat):Int)=((2 ^ n.val:Nat):Int):=by decide
  exact this ⟨n,by omega⟩
 rw[e];repeat' apply eS rfl
 exact fM a [.tmp 2] (.p (.int .u64) ((2 ^ n:Nat):Int)) eT ⟨⟨_,rfl,b,c⟩,rfl⟩
theorem A93 (s:Int) (hs:0<=s/\s<=18446744073709551615):BA Tryz.prog 246 [.bp 70 [] 0] [(70,.box 263 false [.p (.int .u64) s])] [70] (λres b=>∃v:Int,(0<=v/\v<=18446744073709551615)/\res=.p (.int .u64) v/\b=[(70,.box 263 false [.p (.int .u64) v])]):=by
 refine Ki [0,2] [] [] Tryz.func246 Tryz.ntmps246 AH ?_;intro w0 K O0 ρ0 a c d;simp only[Aj];repeat'(first|exact trivial|apply eS rfl|refine rX a ?_ ?_)
 .have:=lH s (Tv .u64 s 13);exact A50 this.1 this.2
 exact fM a [.tmp 2] (.p (.int .u64) _) eT ⟨_,lH _ _,rfl,rfl⟩
section
attribute [local go_sem] Cy
theorem A94 (l:List (Int×Int)) (hl:l.length<256) (a b:Nat) (E:a+8<=b) (G:b<=l.length):BA Tryz.prog 234 [.sr 1000000 AW 0 l.length,.p T3 (a:Int),.p T3 (b:Int),.fn 192] [(1000000,.arr 106 AW l)] [1000000] (λres D=>res=.raw (.tuple #[])/\∃r,D=[(1000000,.arr 106 AW r)]/\D9 (0,0) a b l r):=by
 refine Ki [0,1,2,8,9,10,11,12,17,35,45] [] [] Tryz.func234 Tryz.ntmps234 AH ?_;intro w0 K O0 ρ0 d I J;simp only[Aj];obtain⟨n,hn⟩:∃n,b=a+n:=⟨b-a,by omega⟩;subst hn;have en:((a+n:Nat):Int)-(a:Int)=(n:Int):=by omega
 obtain⟨t,C⟩:∃t,t=n / 4:=⟨_,rfl⟩;have et:(n:Int).tdiv 4=(t:Int):=by
  rw[Yq (by omega)];omega
 have L:4*t<=n:=by omega
 have M:2<=t:=by omega
 clear C
 (apply eS rfl;refine rX d ?_ ?_;(next=>first|exact trivial|exact CY))
 rw[en];repeat'(first|exact trivial|apply eS rfl|apply AB|refine rX d ?_ ?_)
 refine rC ?_ ?_<;>intro j
 .repeat'(first|exact trivial|apply eS rfl|apply AB|refine rX d ?_ ?_)
  .exact CY
  refine cP 1 d ?_ ?_
  .trivial
  refine rM d (A92 (n:Int) (by omega) (by omega)) [] [] ?_ ?_ ?_
  .first|exact eN|refine eM ?_
  .first|exact eN|refine eM ?_
  rintro _ _ ⟨⟨m,rfl,z,A⟩,rfl⟩;rw[UQ]at z A;refine⟨[],.p (.int .u64) (m:Int),[],rfl,rfl,?_,?_,rfl,rfl,?_⟩
  .first|exact eN|refine eM ?_
  .first|exact eN|refine eM ?_
  refine rL d ?_ ?_
  .trivial
  repeat'(first|exact trivial|apply eS rfl|apply AB|refine rX d ?_ ?_)
  .rw[et];refine⟨⟨by decide,?_⟩,?_,?_,?_⟩<;>omega
  rw[et,show (a:Int)+(t:Int)*2-1=((a+t*2-1:Nat):Int) by omega];refine AK (ι:={s:Nat×Int×List (Int×Int)//(a<=s.1/\s.1<=a+t*2+2)/\(0<=s.2.1/\s.2.1<=18446744073709551615)/\D9 (0,0) a (a+n) l s.2.2}) (λs=>⟨[(0,.sr 1000000 AW 0 l.length),(1,.p T3 (a:Int)),(8,.p (.int .i64) (n:Int)),(9,.bp 9 [] 0),(10,.p (.int .u64) (m:Int)),(11,.p (.int .i64) (s.1.1:Int))],[(1000000,.arr 106 AW s.1.2.2),(9,.box 263 false [.p (.int .u64) s.1.2.1])]⟩) (λs=>a+t*2+2-s.1.1) ⟨(a+t*2-1,(n:Int),l),by simp only;omega,by simp only;omega,D9.refl _ _ l⟩ (AD [(1000000,.nm 1000000),(9,.nm 9)] rfl rfl ?_ ?_) (λs=>?_)
  .first|exact eN|refine eM ?_
  .first|exact eN|refine eM ?_
  obtain⟨⟨i,x,c⟩,⟨w,y⟩,hx,hp⟩:=s;simp only at w y hx hp ⊢;have H:=hp.len;repeat'(first|exact trivial|apply eS rfl|apply AB|refine rX d ?_ ?_)
  .rw[et];refine⟨⟨by decide,?_⟩,?_,?_,?_⟩<;>omega
  rw[et];refine rC (λq=>?_) (λq=>?_)
  .apply eS rfl;refine cP 0 d ?_ ?_
   .trivial
   refine rM d (A93 x hx) [(70,.nm 9)] [] ?_ ?_ ?_
   .first|exact eN|refine eM ?_
   .first|exact eN|refine eM ?_
   rintro _ _ ⟨v,k,rfl,rfl⟩;refine⟨[(9,.nm 70)],.p (.int .u64) v,[(9,.box 263 false [.p (.int .u64) v])],rfl,rfl,?_,?_,rfl,rfl,?_⟩
   .first|exact eN|refine eM ?_
   .first|exact eN|refine eM ?_
   have F:=A91 v ((m:Int)-1) (by omega) (by omega);refine rL d ?_ ?_
   .exact⟨by omega,by omega⟩
   generalize B7 .and .u64 v ((m:Int)-1)=r at *;repeat'(first|exact trivial|apply eS rfl|apply AB|refine rX d ?_ ?_)
   refine rC (λu=>?_) (λu=>?_)
   .obtain⟨o,f⟩:∃o:Nat,r-(n:Int)=(o:Int):=⟨(r-(n:Int)).toNat,by omega⟩;have B:o<n:=by omega
    refine rX d ?_ ?_
    .exact CY
    rw[f];have g:D9 (0,0) a (a+n) c (CU (0,0) c i (a+o)):=D9.swap c (by omega) (by omega) (by omega) (by omega) (by omega);have h:CU (0,0) c i (a+o)=(c.set i (c.getD (a+o) (0,0))).set (a+o) (c.getD i (0,0)):=rfl;have e:((a:Int)+(o:Int)).toNat=a+o:=by omega
    repeat'(first|exact trivial|apply eS rfl|apply AB|refine rP d ?_ ?_|fail)
    (refine CJ drawsAny d 18 [([0,1,6,7,8,9,10,11,12,13,14,15,16],17)] [2,3,4,5] (by kernel_rfl) (LF ?_ ?_);(next=>exact CY);refine Nx d [] ?_ ?_;(next=>exact CY);refine R1 d ?_ ?_ ?_;(next=>exact CY);(next=>exact CY))
    rw[e,<-h];repeat'(first|exact trivial|apply eS rfl|apply AB|refine rX d ?_ ?_)
    .exact CY
    refine⟨⟨(i+1,v,CU (0,0) c i (a+o)),by simp only;omega,k,hp.trans g⟩,by simp only;omega,AD [(1000000,.nm 1000000),(9,.nm 9)] rfl rfl ?_ ?_⟩
    .first|exact eN|refine eM ?_
    first|exact eN|refine eM ?_
   obtain⟨o,f⟩:∃o:Nat,r=(o:Int):=⟨r.toNat,by omega⟩;subst f;have B:o<n:=by omega
   have g:D9 (0,0) a (a+n) c (CU (0,0) c i (a+o)):=D9.swap c (by omega) (by omega) (by omega) (by omega) (by omega);have h:CU (0,0) c i (a+o)=(c.set i (c.getD (a+o) (0,0))).set (a+o) (c.getD i (0,0)):=rfl;have e:((a:Int)+(o:Int)).toNat=a+o:=by omega
   repeat'(first|exact trivial|apply eS rfl|apply AB|refine rP d ?_ ?_|fail)
   (refine CJ drawsAny d 18 [([0,1,6,7,8,9,10,11,12,13,14,15,16],17)] [2,3,4,5] (by kernel_rfl) (LF ?_ ?_);(next=>exact CY);refine Nx d [] ?_ ?_;(next=>exact CY);refine R1 d ?_ ?_ ?_;(next=>exact CY);(next=>exact CY))
   rw[e,<-h];repeat'(first|exact trivial|apply eS rfl|apply AB|refine rX d ?_ ?_)
   .exact CY
   refine⟨⟨(i+1,v,CU (0,0) c i (a+o)),by simp only;omega,k,hp.trans g⟩,by simp only;omega,AD [(1000000,.nm 1000000),(9,.nm 9)] rfl rfl ?_ ?_⟩
   .first|exact eN|refine eM ?_
   first|exact eN|refine eM ?_
  repeat'(first|exact trivial|apply eS rfl|apply AB|refine rX d ?_ ?_|refine rC ?_ ?_<;>intro j<;>try(cases j;done))
  refine Ev.ent (σ':=⟨[],[(1000000,.arr 106 AW c)]⟩) ?_ (AD [(1000000,.nm 1000000)] rfl rfl ?_ ?_)
  .exact fM d [] (.raw (.tuple #[])) rfl ⟨rfl,c,rfl,hp⟩
  .first|exact eN|refine eM ?_
  first|exact eN|refine eM ?_
 exfalso;omega
end
section
attribute [local go_sem] Cy
def lI (l:List (Int×Int)) (a b c:Nat):Prop:=BA Tryz.prog 229 [.sr 1000000 AW 0 l.length,.p T3 (a:Int),.p T3 (b:Int),.p T3 (c:Int),.fn 192] [(1000000,.arr 106 AW l)] [1000000] (λres d=>res=.raw (.tuple #[])/\∃r,d=[(1000000,.arr 106 AW r)]/\D9 (0,0) a b l r/\SJ CD (0,0) a b r)
theorem A2b (l:List (Int×Int)) (hl:l.length<256) (aa:n9 CD (0,0) l) (a b S:Nat) (ar:a<=b) (ay:b<=l.length) (av:S<=1000) (aq:Bf CD (0,0) a b l)
  (V:∀(l':List (Int×Int)),l'.length<256->n9 CD (0,0) l'->∀J b' an:Nat,b'-J<b-a->J<=b'->b'<=l'.length->an<=1000->Bf CD (0,0) J b' l'->lI l' J b' an):lI l a b S:=by
 unfold lI;refine Ki [0,1,2,3,4,10,11,12,13,14,15,16,17,18,19,20,25,32,39,56,75,80,97,125] [] [] Tryz.func229 Tryz.ntmps229 (AF E1 AH) ?_;intro w0 K O0 ρ0 c ba bb;simp only[Aj];repeat'(first|exact trivial|apply eS rfl|apply AB|refine rX c ?_ ?_)
 refine AK (ι:={s:(Nat×Nat×Nat)×(Bool×Bool)×List (Int×Int)//Cut CD (0,0) a b s.1.1 s.1.2.1 s.2.2/\D9 (0,0) a b l s.2.2/\Bf CD (0,0) s.1.1 s.1.2.1 s.2.2/\s.1.2.2<=1000}) (λs=>⟨[(0,.sr 1000000 AW 0 l.length),(1,.p T3 (s.1.1.1:Int)),(2,.p T3 (s.1.1.2.1:Int)),(3,.p T3 (s.1.1.2.2:Int)),(4,.fn 192),(10,.p .bool s.1.2.1.1),(11,.p .bool s.1.2.1.2)],[(1000000,.arr 106 AW s.1.2.2)]⟩) (λs=>s.1.1.2.1-s.1.1.1) ⟨((a,b,S),(true,true),l),A29 ar l,D9.refl a b l,aq,av⟩ (AD [(1000000,.nm 1000000)] rfl rfl ?_ ?_) (λs=>?_)
 .first|exact eN|refine eM ?_
 .first|exact eN|refine eM ?_
 obtain⟨⟨⟨d,b1,H⟩,⟨T,U⟩,m⟩,t,n,Q,ag⟩:=s;simp only at t n Q ag ⊢;obtain⟨D,ax,E⟩:=t.ab;have N:=aa.perm CM n.perm;have u:=n.len;repeat'(first|exact trivial|apply eS rfl|apply AB|refine rX c ?_ ?_)
 .exact CY
 refine rC ?_ ?_<;>intro o
 .have key:=A8W m (by omega) N d b1 (by omega) (by omega);rw[u]at key;repeat'(first|exact trivial|apply eS rfl|apply AB|refine rX c ?_ ?_)
  refine cP 4 c ?_ ?_
  .trivial
  refine rM c (key) [(1000000,.nm 1000000)] [] ?_ ?_ ?_
  .first|exact eN|refine eM ?_
  .first|exact eN|refine eM ?_
  rintro _ _ ⟨rfl,r,rfl,e,g⟩;refine⟨[(1000000,.nm 1000000)],.raw (.tuple #[]),[(1000000,.arr 106 AW r)],rfl,rfl,?_,?_,rfl,rfl,Bk ?_⟩
  .first|exact eN|refine eM ?_
  .first|exact eN|refine eM ?_
  repeat'(first|exact trivial|apply eS rfl|apply AB|refine rX c ?_ ?_|refine rC ?_ ?_<;>intro o<;>try(cases o;done))
  exact fM c [] (.raw (.tuple #[])) rfl ⟨rfl,r,rfl,n.trans (e.mono D E),(t.pin e).done g⟩
 have ap:d+13<=b1:=by omega
 have el:(b1:Int)-(d:Int)=((b1-d:Nat):Int):=by omega
 rw[el];repeat'(first|exact trivial|apply eS rfl|apply AB|refine rX c ?_ ?_)
 refine rC (λau=>?_) (λau=>?_)
 .have key:=A4Z m (by omega) N d b1 ax (by omega);rw[u]at key;repeat'(first|exact trivial|apply eS rfl|apply AB|refine rX c ?_ ?_)
  refine cP 4 c ?_ ?_
  .trivial
  refine rM c (key) [(1000000,.nm 1000000)] [] ?_ ?_ ?_
  .first|exact eN|refine eM ?_
  .first|exact eN|refine eM ?_
  rintro _ _ ⟨rfl,r,rfl,e,g⟩;refine⟨[(1000000,.nm 1000000)],.raw (.tuple #[]),[(1000000,.arr 106 AW r)],rfl,rfl,?_,?_,rfl,rfl,Bk ?_⟩
  .first|exact eN|refine eM ?_
  .first|exact eN|refine eM ?_
  repeat'(first|exact trivial|apply eS rfl|apply AB|refine rX c ?_ ?_|refine rC ?_ ?_<;>intro o<;>try(cases o;done))
  exact fM c [] (.raw (.tuple #[])) rfl ⟨rfl,r,rfl,n.trans (e.mono D E),(t.pin e).done g⟩
 have az:0<H:=by omega
 refine tR ?_;refine IE ?_;refine QW (ι:={x:Nat×List (Int×Int)//x.1<=1000/\D9 (0,0) d b1 m x.2}) (λx=>⟨[(0,.sr 1000000 AW 0 l.length),(1,.p T3 (d:Int)),(2,.p T3 (b1:Int)),(3,.p T3 (x.1.1:Int)),(4,.fn 192),(10,.p .bool T),(11,.p .bool U),(12,.p (.int .i64) ((b1-d:Nat):Int))],[(1000000,.arr 106 AW x.1.2)]⟩) ?_ (λx=>?_)
 .repeat'(first|exact trivial|apply eS rfl|apply AB|refine rX c ?_ ?_)
  refine rC (λk=>?_) (λk=>?_)
  .have key:=A94 m (by omega) d b1 (by omega) (by omega);rw[u]at key;apply eS rfl;refine cP 4 c ?_ ?_
   .trivial
   refine rM c (key) [(1000000,.nm 1000000)] [] ?_ ?_ ?_
   .first|exact eN|refine eM ?_
   .first|exact eN|refine eM ?_
   rintro _ _ ⟨rfl,r,rfl,e⟩;refine⟨[(1000000,.nm 1000000)],.raw (.tuple #[]),[(1000000,.arr 106 AW r)],rfl,rfl,?_,?_,rfl,rfl,Bk ?_⟩
   .first|exact eN|refine eM ?_
   .first|exact eN|refine eM ?_
   repeat'(first|exact trivial|apply eS rfl|apply AB|refine rX c ?_ ?_)
   .exact CY
   refine⟨⟨(H-1,r),by simp only;omega,e⟩,AD [(1000000,.nm 1000000)] rfl rfl ?_ ?_⟩
   .first|exact eN|refine eM ?_
   simp only;rw[show ((H-1:Nat):Int)=(H:Int)-1 by omega];first|exact eN|refine eM ?_
  repeat'(first|exact trivial|apply eS rfl|apply AB|refine rX c ?_ ?_)
  refine⟨⟨(H,m),ag,D9.refl _ _ m⟩,AD [(1000000,.nm 1000000)] rfl rfl ?_ ?_⟩
  .first|exact eN|refine eM ?_
  first|exact eN|refine eM ?_
 obtain⟨⟨C,i⟩,G,f⟩:=x;simp only at G f ⊢;have v:i.length=l.length:=f.len.trans u;have key:=A90 i (by omega) d b1 ap (by omega);rw[v]at key;apply eS rfl;refine cP 4 c ?_ ?_
 .trivial
 refine rM c (key) [(1000000,.nm 1000000)] [] ?_ ?_ ?_
 .first|exact eN|refine eM ?_
 .first|exact eN|refine eM ?_
 rintro _ _ ⟨j,hint,rfl,rfl,z,A⟩;refine⟨[(1000000,.nm 1000000)],.tup [.p T3 (j:Int),.p T3 hint],[(1000000,.arr 106 AW i)],rfl,rfl,?_,?_,rfl,rfl,?_⟩
 .first|exact eN|refine eM ?_
 .first|exact eN|refine eM ?_
 refine rL c ?_ ?_
 .trivial
 refine IE ?_;refine QW (ι:={x:Nat×Int×List (Int×Int)//(d<=x.1/\x.1<b1)/\D9 (0,0) d b1 m x.2.2}) (λx=>⟨[(0,.sr 1000000 AW 0 l.length),(1,.p T3 (d:Int)),(2,.p T3 (b1:Int)),(3,.p T3 (C:Int)),(4,.fn 192),(10,.p .bool T),(11,.p .bool U),(12,.p (.int .i64) ((b1-d:Nat):Int)),(13,.p T3 (x.1.1:Int)),(14,.p T3 x.1.2.1)],[(1000000,.arr 106 AW x.1.2.2)]⟩) ?_ (λx=>?_)
 .repeat'(first|exact trivial|apply eS rfl|apply AB|refine rX c ?_ ?_)
  refine rC (λk=>?_) (λk=>?_)
  .have key:=A8X i (by omega) d b1 (by omega) (by omega);rw[v]at key;apply eS rfl;refine cP 4 c ?_ ?_
   .trivial
   refine rM c (key) [(1000000,.nm 1000000)] [] ?_ ?_ ?_
   .first|exact eN|refine eM ?_
   .first|exact eN|refine eM ?_
   rintro _ _ ⟨rfl,r,rfl,e⟩;refine⟨[(1000000,.nm 1000000)],.raw (.tuple #[]),[(1000000,.arr 106 AW r)],rfl,rfl,?_,?_,rfl,rfl,Bk ?_⟩
   .first|exact eN|refine eM ?_
   .first|exact eN|refine eM ?_
   repeat'(first|exact trivial|apply eS rfl|apply AB|refine rX c ?_ ?_)
   .exact CY
   refine⟨⟨(b1-1-(j-d),1,r),by simp only;omega,f.trans e⟩,AD [(1000000,.nm 1000000)] rfl rfl ?_ ?_⟩
   .first|exact eN|refine eM ?_
   simp only;rw[show ((b1-1-(j-d):Nat):Int)=(b1:Int)-1-((j:Int)-(d:Int)) by omega];first|exact eN|refine eM ?_
  repeat'(first|exact trivial|apply eS rfl|apply AB|refine rX c ?_ ?_)
  refine⟨⟨(j,hint,i),⟨z,A⟩,f⟩,AD [(1000000,.nm 1000000)] rfl rfl ?_ ?_⟩
  .first|exact eN|refine eM ?_
  first|exact eN|refine eM ?_
 clear z A f v key;obtain⟨⟨j,hint,i⟩,⟨z,A⟩,f⟩:=x;simp only at z A f ⊢;have v:i.length=l.length:=f.len.trans u;have ah:=N.perm CM f.perm;have Y:=Q.pin f;refine QW (ι:={x:List (Int×Int)//D9 (0,0) d b1 m x}) (λx=>⟨[(0,.sr 1000000 AW 0 l.length),(1,.p T3 (d:Int)),(2,.p T3 (b1:Int)),(3,.p T3 (C:Int)),(4,.fn 192),(10,.p .bool T),(11,.p .bool U),(12,.p (.int .i64) ((b1-d:Nat):Int)),(13,.p T3 (j:Int))],[(1000000,.arr 106 AW x.1)]⟩) ?_ (λx=>?_)
 .repeat'(first|exact trivial|apply eS rfl|apply AB|refine rX c ?_ ?_)
  refine rC (λk=>?_) (λk=>?_)
  .have key:=A8Z i (by omega) ah d b1 (by omega) (by omega) Y;rw[v]at key;apply eS rfl;refine cP 4 c ?_ ?_
   .trivial
   refine rM c (key) [(1000000,.nm 1000000)] [] ?_ ?_ ?_
   .first|exact eN|refine eM ?_
   .first|exact eN|refine eM ?_
   rintro _ _ ⟨w,r,rfl,rfl,e,g⟩;refine⟨[(1000000,.nm 1000000)],.p .bool w,[(1000000,.arr 106 AW r)],rfl,rfl,?_,?_,rfl,rfl,Bk ?_⟩
   .first|exact eN|refine eM ?_
   .first|exact eN|refine eM ?_
   apply eS rfl;refine rC (λaf=>?_) (λaf=>?_)
   .repeat'(first|exact trivial|apply eS rfl|apply AB|refine rX c ?_ ?_|refine rC ?_ ?_<;>intro o<;>try(cases o;done))
    have am:=f.trans e;exact fM c [] (.raw (.tuple #[])) rfl ⟨rfl,r,rfl,n.trans (am.mono D E),(t.pin am).done (g af)⟩
   repeat'(first|exact trivial|apply eS rfl|apply AB|refine rX c ?_ ?_)
   refine⟨⟨r,f.trans e⟩,AD [(1000000,.nm 1000000)] rfl rfl ?_ ?_⟩
   .first|exact eN|refine eM ?_
   first|exact eN|refine eM ?_
  repeat'(first|exact trivial|apply eS rfl|apply AB|refine rX c ?_ ?_)
  refine⟨⟨i,f⟩,AD [(1000000,.nm 1000000)] rfl rfl ?_ ?_⟩
  .first|exact eN|refine eM ?_
  first|exact eN|refine eM ?_
 clear v ah Y f;obtain⟨ao,y⟩:=x;simp only;have ak:ao.length=l.length:=y.len.trans u;have ai:=N.perm CM y.perm;have R:=Q.pin y;have ad:=t.pin y;repeat'(first|exact trivial|apply eS rfl|apply AB|refine rX c ?_ ?_)
 .dsimp only[Ty.den];exact⟨λ_=>by omega,λ_=>by omega,λ_=>by omega⟩
 refine De (by simp only[go_sem,Nat.reduceEqDiff,reduceCtorEq,Nat.reduceAdd,Nat.reduceSub,Nat.reduceMul,Nat.reduceLeDiff,Nat.reduceLT,Int.reduceLE,Int.reduceToNat,Int.reduceNeg,↓reduceIte];rfl) ?_ ?_
 .intro L;exfalso;simp only[An,DO,UL,To]at L;obtain⟨h1,X⟩:=L;rw[show ((d:Int)-1).toNat=d-1 by omega]at X;rcases R with h|h
  .omega
  exact X (h j z A)
 intro L;clear L;have key:=A8Y ao (by omega) ai d b1 j z A (by omega);rw[ak]at key;repeat'(first|exact trivial|apply eS rfl|apply AB|refine rX c ?_ ?_)
 refine cP 5 c ?_ ?_
 .trivial
 refine rM c (key) [(1000000,.nm 1000000)] [] ?_ ?_ ?_
 .first|exact eN|refine eM ?_
 .first|exact eN|refine eM ?_
 rintro _ _ ⟨q,w,I,rfl,rfl,P,F⟩;refine⟨[(1000000,.nm 1000000)],.tup [.p T3 (q:Int),.p .bool w],[(1000000,.arr 106 AW I)],rfl,rfl,?_,?_,rfl,rfl,?_⟩
 .first|exact eN|refine eM ?_
 .first|exact eN|refine eM ?_
 have aw:=F.l;have bc:=F.r;have O:=n.trans ((y.trans P).mono D E);have al:=O.len;have aj:=aa.perm CM O.perm;have Z:=R.pin P;have ae:=ad.pin P;clear y ak ai R ad P key;have W:(((b1-d:Nat):Int)).tdiv 8=(((b1-d) / 8:Nat):Int):=by
  rw[Yq (by omega)];omega
 refine rL c ?_ ?_
 .trivial
 repeat'(first|exact trivial|apply eS rfl|apply AB|refine rX c ?_ ?_)
 .exact CY
 .rw[W];exact⟨by decide,by omega,by omega⟩
 rw[W];refine rC (λk=>?_) (λk=>?_)
 .have key:=V I (by omega) aj d q C (by omega) aw (by omega) G (Z.sub (by omega));unfold lI at key;rw[al]at key;repeat'(first|exact trivial|apply eS rfl|apply AB|refine rX c ?_ ?_)
  refine cP 5 c ?_ ?_
  .trivial
  refine rM c (key) [(1000000,.nm 1000000)] [] ?_ ?_ ?_
  .first|exact eN|refine eM ?_
  .first|exact eN|refine eM ?_
  rintro _ _ ⟨rfl,r,rfl,e,g⟩;refine⟨[(1000000,.nm 1000000)],.raw (.tuple #[]),[(1000000,.arr 106 AW r)],rfl,rfl,?_,?_,rfl,rfl,Bk ?_⟩
  .first|exact eN|refine eM ?_
  .first|exact eN|refine eM ?_
  have M:=F.pinL e;have B:D9 (0,0) d b1 I r:=e.mono (NO _) (by omega);repeat'(first|exact trivial|apply eS rfl|apply AB|refine rX c ?_ ?_)
  .exact CY
  refine⟨⟨((q+1,b1,C),(decide ((((b1-d) / 8:Nat):Int)<=(q:Int)-(d:Int)),w),r),(ae.pin B).left CM M g,O.trans (B.mono D E),M.bf,G⟩,by simp only;omega,AD [(1000000,.nm 1000000)] rfl rfl ?_ ?_⟩
  .first|exact eN|refine eM ?_
  first|exact eN|refine eM ?_
 have key:=V I (by omega) aj (q+1) b1 C (by omega) (by omega) (by omega) G F.bf;unfold lI at key;rw[al,show ((q+1:Nat):Int)=(q:Int)+1 by omega]at key;repeat'(first|exact trivial|apply eS rfl|apply AB|refine rX c ?_ ?_)
 refine cP 6 c ?_ ?_
 .exact CY
 refine rM c (key) [(1000000,.nm 1000000)] [] ?_ ?_ ?_
 .first|exact eN|refine eM ?_
 .first|exact eN|refine eM ?_
 rintro _ _ ⟨rfl,r,rfl,e,g⟩;refine⟨[(1000000,.nm 1000000)],.raw (.tuple #[]),[(1000000,.arr 106 AW r)],rfl,rfl,?_,?_,rfl,rfl,Bk ?_⟩
 .first|exact eN|refine eM ?_
 .first|exact eN|refine eM ?_
 have M:=F.pinR e;have B:D9 (0,0) d b1 I r:=e.mono (by omega) (NO _);repeat'(first|exact trivial|apply eS rfl|apply AB|refine rX c ?_ ?_)
 refine⟨⟨((d,q,C),(decide ((((b1-d) / 8:Nat):Int)<=(b1:Int)-(q:Int)),w),r),(ae.pin B).right CM M g,O.trans (B.mono D E),(Z.pin B).sub (b':=q) (by omega),G⟩,by simp only;omega,AD [(1000000,.nm 1000000)] rfl rfl ?_ ?_⟩
 .first|exact eN|refine eM ?_
 first|exact eN|refine eM ?_
theorem A95 (l:List (Int×Int)) (hl:l.length<256) (e:n9 CD (0,0) l) (a b c:Nat) (f:a<=b) (g:b<=l.length) (i:c<=1000) (d:Bf CD (0,0) a b l):lI l a b c:=by
 have key:∀(n:Nat) (l:List (Int×Int)),l.length<256->n9 CD (0,0) l->∀a b c:Nat,b-a<n->a<=b->b<=l.length->c<=1000->Bf CD (0,0) a b l->lI l a b c:=by
  intro n;induction n with
  | zero=>intro l _ _ a b c h;omega
  | succ n r =>
   intro l hl e a b c hn f g i d;exact A2b l hl e a b c f g i d λl' h1 k j b' s t m o p q=>r l' h1 k j b' s (by omega) m o p q
 exact key (b-a+1) l hl e a b c (by omega) f g i d
end
def NdA (l:List (Int×Int)):Prop:=l.Pairwise λa b=>a.1≠b.1
def LtA (l:List (Int×Int)):Prop:=l.Pairwise λa b=>a.1<b.1
theorem aP (x:Int×Int) (s:List (Int×Int)):∀n,(∀j,Hj x s n<=j->j<n->x.1<(s.getD j (0,0)).1)/\(Hj x s n=0\/¬x.1<(s.getD (Hj x s n-1) (0,0)).1)
 | 0=>⟨λj h1 a=>by omega,.inl rfl⟩
 | n+1=>by
  obtain⟨h1,a⟩:=aP x s n;unfold Hj;split
  .rename_i h;refine⟨λj b c=>?_,a⟩;by_cases e:j=n
   .rw[e];exact h
   exact h1 j b (by omega)
  rename_i h;exact⟨λj b c=>by omega,.inr (by simpa using h)⟩
theorem A96 {s:List (Int×Int)} (hs:LtA s) {x:Int×Int} (hx:∀a∈s,a.1≠x.1):LtA (Ny s x):=by
 obtain⟨h1,c⟩:=aP x s s.length;have l:=U0 x s s.length;unfold Ny;generalize Hj x s s.length=p at *;have hp:=hs;unfold LtA at hp;rw[<-AAT p s,oN]at hp;have g:∀i (h:i<s.length),s.getD i (0,0)=s[i]:=λi h=>by rw[AS,AT h];rfl
 have k:∀a∈s.take p,a.1<x.1:=by
  intro a ha;rcases c with c|c
  .subst c;simp at ha
  obtain⟨i,hi,rfl⟩:=ZT.1 ha;rw[OS]at hi;rw[List.getElem_take];by_cases n:p=0
  .omega
  have f:p-1<s.length:=by omega
  rw[g (p-1) f]at c;have m:=hx s[p-1] (YZ f);by_cases e:i=p-1
  .subst e;omega
  have:=(UX.1 hs) i (p-1) (by omega) f (by omega);omega
 have j:∀a∈s.drop p,x.1<a.1:=by
  intro a ha;obtain⟨i,hi,rfl⟩:=ZT.1 ha;rw[YY]at hi;rw[List.getElem_drop,<-g (p+i) (by omega)];exact h1 (p+i) (by omega) (by omega)
 unfold LtA;rw[UT,oN];refine⟨hp.1,?_,λa ha b d=>?_⟩
 .rw[List.singleton_append,Uf];exact⟨j,hp.2.1⟩
 rcases By.1 (by simpa using d:b∈x :: s.drop p) with rfl|d
 .exact k a ha
 exact hp.2.2 a ha b d
theorem Pl {l:List (Int×Int)} (h:NdA l):LtA (Aa l):=by
 induction l using EK with
 | h0=>exact List.Pairwise.nil
 | h1 l a d =>
  unfold NdA at h;rw[oN]at h;rw[Hk];exact A96 (d h.1) λb c=>h.2.2 b ((Ez l).mem_iff.1 c) a (by simp)
theorem A2c {l r:List (Int×Int)} (hp:r.Perm l) (h1:LtA r) (c:LtA l):r=l :=
 List.Perm.eq_of_pairwise (le:=λa b:Int×Int=>a.1<b.1) (λa b _ _ d e=>by omega) h1 c hp
theorem A0g {l:List (Int×Int)} (h:LtA l):k9 l:=by
 intro i hi;have a:∀i (h:i<l.length),l.getD i (0,0)=l[i]:=λi h=>by rw[AS,AT h];rfl
 rw[a i (by omega),a (i+1) hi];exact(UX.1 h) i (i+1) (by omega) hi (by omega)
theorem A51 {l:List (Int×Int)} (h:k9 l):LtA l:=by
 refine UX.2 λi j hi f k=>?_;have c:∀i (h:i<l.length),l.getD i (0,0)=l[i]:=λi h=>by rw[AS,AT h];rfl
 have key:∀d i,i+d+1<l.length->(l.getD i (0,0)).1<(l.getD (i+d+1) (0,0)).1:=by
  intro d;induction d with
  | zero=>exact λi hi=>h i hi
  | succ d g =>
   intro i hi;have a:=g i (by omega);have b:=h (i+d+1) (by omega);have e:i+(d+1)+1=i+d+1+1:=by omega
   rw[e];omega
 have:=key (j-i-1) i (by omega);rw[show i+(j-i-1)+1=j by omega,c i hi,c j f]at this;exact this
theorem ABc {l:List (Int×Int)} (h:LtA l):NdA l:=h.imp λg=>by omega
theorem ABd {l:List (Int×Int)} (h:NdA l):n9 CD (0,0) l:=by
 rw[A0d CM];refine h.imp λ{a b} g e=>g ?_;unfold CD UH at e;split at e
 .omega
 split at e<;>omega
theorem qW {l r:List (Int×Int)} (h:NdA l) (hp:r.Perm l) (hs:SJ CD (0,0) 0 l.length r):r=Aa l:=by
 refine A2c (hp.trans (Ez l).symm) (UX.2 λi j hi b c=>?_) (Pl h);have a:∀i (h:i<r.length),r.getD i (0,0)=r[i]:=λi h=>by rw[AS,AT h];rfl
 have:=hs i j (Is _) c (by rw[<-hp.length_eq];exact b);rw[a i hi,a j b]at this;unfold CD UH at this;split at this
 .assumption
 split at this<;>omega
theorem Mp {l:List (Int×Int)} (h:NdA l):Aa (Aa l)=Aa l:=HG (A0g (Pl h))
def NdF (f:List AC):Prop:=∀x∈f,NdA x.2/\x.2.length<=200
def DW (f:List AC):List AC:=f.map λx=>(x.1,Aa x.2)
theorem GC (f:List AC):(DW f).length=f.length:=OF _
theorem Q5 (f:List AC) (n:Nat):(DW f).getD n (0,[])=((f.getD n (0,[])).1,Aa (f.getD n (0,[])).2):=by
 unfold DW;simp only[AS,Yc];cases f[n]?<;>rfl
theorem SK {f:List AC} (h:AN f):AN (DW f):=by
 refine⟨by rw[GC];exact h.1,λx hx=>?_⟩;obtain⟨y,d,rfl⟩:=IF.1 hx;obtain⟨b,c⟩:=h.2 y d;refine⟨by simp only[Ck];exact b,λa ha=>?_⟩;rw[GC];exact c a ((Ez _).mem_iff.1 ha)
theorem A52 {f:List AC} (h:NdF f):HS (DW f):=by
 intro x hx;obtain⟨y,c,rfl⟩:=IF.1 hx;obtain⟨a,b⟩:=h y c;exact⟨A0g (Pl a),by simp only[Ck];exact b⟩
theorem A2d {f:List AC} (h:HS f):DW f=f:=by
 unfold DW
 conv=>rhs;rw[<-List.map_id f]
 refine Of λx hx=>?_;rw[HG (h x hx).1];rfl
theorem ABe {f:List AC} (h:HS f):NdF f:=λx hx=>⟨ABc (A51 (h x hx).1),(h x hx).2⟩
theorem A0h {f:List AC} (hf:NdF f) (n:Int):NdA (f.getD n.toNat (0,[])).2/\(f.getD n.toNat (0,[])).2.length<=200:=by
 by_cases h:n.toNat<f.length
 .have a:f.getD n.toNat (0,[])∈f:=by
   rw[AS,AT h];exact YZ h
  exact hf _ a
 rw[AS,UV (by omega)];exact⟨List.Pairwise.nil,by simp⟩
theorem Td {f:List AC} (h:NdF f):∀(k:Nat) (s:List Int×List Int) (n:Int),Dz (DW f) k s n=Dz f k s n
 | 0,_,_=>rfl
 | k+1,s,n=>by
  rw[Fg,Fg,Q5];simp only;rw[Mp (A0h h n).1];refine Yp (λg=>List.foldl g _ _) ?_;funext s a;unfold EV;rw[Td h k s a.2]
theorem A2e {f:List AC} (h:NdF f) (r:Int):JT (DW f) r=JT f r:=by
 have a:GU (DW f) r=GU f r:=by
  unfold GU;rw[GC,Td h]
 unfold JT;rw[a];refine Of λn _=>?_;unfold Mo;rw[Q5];simp only;rw[Mp (A0h h n).1]
theorem Te {f:List AC} (hf:AN f) (hn:NdF f) {root:Int} (h0:0<=root) (h1:root<f.length):JT f root=AI (DW f) root:=by
 rw[<-A2e hn];exact Ie (SK hf) (A52 hn) h0 (by rw[GC];exact h1)
theorem Q6 {L:Go.Loop} (h1:L.state=.ready) (a:L.pending=none):{ { L with state:=.busy } with state:=.ready,pending:=none }=L:=by
 cases L;simp_all
theorem aQ (l:List (Int×Int)):BA Tryz.prog 191 [.p DF l] [] [] (λres b=>res=.clo 216 [1]/\b=[(1,.box 91 false [.p DF l])]):=by
 refine Ki [0,1,2] [] [] Tryz.func191 Tryz.ntmps191 AH ?_;intro w0 K O0 ρ0 a c d;simp only[Aj];repeat'(first|exact trivial|apply eS rfl|refine rX a ?_ ?_)
 exact fM a [.tmp 2] (.clo 216 [1]) eT ⟨rfl,rfl⟩
def CQ (l:List (Int×Int)) (L:Go.Loop) (a:Array Value) (i:Nat):List (Nat×Obj):=[(1,.box 91 false [.p DF l]),(101,.loop L),(102,.frame a [(2,.bp 2 [] 0),(6,.clo 216 [1])]),(2,.box 91 false [.sr 7 AW 0 i]),(7,.arr 106 AW (l.take i))]
theorem qX (l:List (Int×Int)) (hl:l.length<=100000) (L:Go.Loop) (b:Array Value) (f:∀i,i<l.length->WJ Tryz.prog 101 [.p AW (l.getD i (0,0))] (CQ l L b i) [1,101,102,2] (λres e=>res=.p .bool true/\e=CQ l L b (i+1))) :
  BA Tryz.prog 216 [.yl 101,.bp 1 [] 0] (CQ l L b 0) [1,101,102,2] (λres e=>res=.raw (.tuple #[])/\e=CQ l L b l.length):=by
 refine Ki [0,1,4,5,6,7,8,14] [] [] Tryz.func216 Tryz.ntmps216 AH ?_;intro w0 K O0 ρ0 a g h;simp only[Aj,CQ];repeat'(first|exact trivial|apply eS rfl|refine rX a ?_ ?_)
 refine AK (ι:={i:Nat//i<=l.length}) (λi=>⟨[(0,.yl 101),(1,.bp 1 [] 0),(5,.p DF l),(6,.p (.int .i64) (l.length:Int)),(7,.p (.int .i64) (i.1:Int))],CQ l L b i.1⟩) (λi=>l.length-i.1) ⟨0,by omega⟩ (AD [(1,.nm 1),(101,.nm 101),(102,.nm 102),(2,.nm 2),(7,.nm 7)] rfl rfl ?_ ?_) (λi=>?_)
 .simp only[CQ];exact eN
 .exact eN
 obtain⟨i,hi⟩:=i;simp only[CQ];repeat'(first|exact trivial|apply eS rfl|refine rX a ?_ ?_|refine rC ?_ ?_<;>intro c<;>try(cases c;done))
 .exact eV
 .have d:i<l.length:=by exact eV
  refine cP 2 a ?_ ?_
  .trivial
  refine rY 101 101 a (f i d) [(1,.nm 1),(101,.nm 101),(102,.nm 102),(2,.nm 2),(7,.nm 7)] [7] ?_ ?_ ?_
  .exact eN
  .simp only[CQ];exact eN
  rintro _ _ ⟨rfl,rfl⟩;refine⟨[(1,.nm 1),(101,.nm 101),(102,.nm 102),(2,.nm 2),(7,.nm 7)],.p .bool true,CQ l L b (i+1),rfl,rfl,?_,?_,rfl,rfl,?_⟩
  .simp only[CQ];exact eN
  .exact eN
  simp only[CQ];refine IQ [0,1,5,6,7,14] a (by simp only[go_sem,Nat.reduceEqDiff,reduceCtorEq,Nat.reduceAdd,Nat.reduceSub,Nat.reduceMul,Nat.reduceLeDiff,Nat.reduceLT,Int.reduceLE,Int.reduceToNat,Int.reduceNeg,↓reduceIte];rfl) ?_ ?_
  .trivial
  repeat'(first|apply eS rfl|apply AB|refine rX a ?_ ?_|refine rC ?_ ?_<;>intro c<;>try(cases c;done))
  .exact eV
  refine⟨⟨i+1,by omega⟩,by simp only;omega,AD [(1,.nm 1),(101,.nm 101),(102,.nm 102),(2,.nm 2),(7,.nm 7)] rfl rfl ?_ ?_⟩
  .simp only[CQ];exact eN
  exact eN
 have d:i=l.length:=by exact eV
 subst d;refine fM a [] (.raw (.tuple #[])) rfl ⟨rfl,?_⟩;simp only[CQ,UO]
theorem fC (l:List (Int×Int)) (hl:l.length<=100000):BA Tryz.prog 228 [.raw (.slice none 0 0),.clo 216 [1]] [(1,.box 91 false [.p DF l])] [] (λres o=>res=.sr 7 AW 0 l.length/\o=[(7,.arr 106 AW l)]):=by
 refine fKR [0,1,2,4,5,6,7] [] [] Tryz.func228 Tryz.ntmps228 AH ?_;intro w0 K O0 ρ0 a s t;simp only[Aj];repeat'(first|exact trivial|apply eS rfl|refine rX a ?_ ?_)
 refine WL a rfl rfl (by simp only[go_sem,Nat.reduceEqDiff,reduceCtorEq,Nat.reduceAdd,Nat.reduceSub,Nat.reduceMul,Nat.reduceLeDiff,Nat.reduceLT,Int.reduceLE,Int.reduceToNat,Int.reduceNeg,↓reduceIte];rfl) 101 103 102 rfl rfl rfl rfl ?_;intro L c d f g h j k n;refine⟨_,CQ l L c 0,[1,101,102,2],_,[(1,.nm 1),(101,.nm 101),(102,.nm 102),(2,.nm 2),(7,.nil)],[],qX l hl L c ?_,rfl,rfl,?_,?_,rfl,?_⟩
 .intro i hi;refine WK (fr:=102) rfl rfl d h j k g n rfl (by kernel_rfl) (by simp) rfl rfl (by kernel_rfl) (by kernel_rfl) (tyTab_ok [] [0,1,2,4,5,6,7]) AH ?_;intro x q r y w a u v m;simp only[CQ,Gf];repeat'(first|exact trivial|apply AB|refine rX a ?_ ?_)
  refine⟨rfl,?_⟩;repeat'(first|apply eS rfl|refine rX a ?_ ?_)
  .simp only[AQ];omega
  have e:List.take i (List.take i l)++[((l.getD i (0,0)).1,(l.getD i (0,0)).2)]=l.take (i+1):=by
   rw[Av l (0,0) hi,At (Nat.le_of_eq (by rw[OS];omega):(l.take i).length<=i)]
  refine Ev.ent (σ':=⟨[],[(1,.box 91 false [.p DF l]),(101,.loop { L with state:=.busy }),(102,.frame c [(2,.bp 2 [] 0),(6,.clo 216 [1])]),(2,.box 91 false [.sr 7 AW 0 (i+1)]),(7,.arr 106 AW (l.take (i+1)))]⟩) ?_ (AD [(1,.nm 1),(101,.nm 101),(102,.nm 102),(2,.nm 2),(7,.nm 7)] rfl rfl ?_ ?_)
  .refine NY a (yn:=101) rfl rfl (by simp) m ⟨rfl,?_⟩;simp only[CQ,go_sem,Nat.reduceEqDiff,reduceCtorEq,Nat.reduceAdd,Nat.reduceSub,Nat.reduceMul,Nat.reduceLeDiff,Nat.reduceLT,Int.reduceLE,Int.reduceToNat,Int.reduceNeg,↓reduceIte,Q6 d f]
  .refine eM ?_;exact e
  exact eN
 .simp only[BB];exact eN
 .simp only[BB,CQ];exact eN
 rintro _ _ ⟨rfl,rfl⟩;refine⟨[(1,.nm 1),(101,.nm 101),(102,.nm 102),(2,.nm 2),(7,.nm 7)],CQ l L c l.length,L,rfl,rfl,?_,rfl,rfl,rfl,by rw[d];rfl,?_⟩
 .simp only[CQ];exact eN
 intro b;rw[f];simp only[EvJ,CQ,BB,go_sem,Nat.reduceEqDiff,reduceCtorEq,Nat.reduceAdd,Nat.reduceSub,Nat.reduceMul,Nat.reduceLeDiff,Nat.reduceLT,Int.reduceLE,Int.reduceToNat,Int.reduceNeg,↓reduceIte];replace a:=Hy (dn:=103) (b:=b) a;repeat'(first|exact trivial|apply eS rfl|refine rX a ?_ ?_)
 refine Ev.ent (σ':=⟨[(4,.sr 7 AW 0 l.length)],[(7,.arr 106 AW l),(103,.dfr)]⟩) ?_ (AD [(7,.nm 7),(103,.nm 103)] rfl rfl ?_ ?_)
 .exact KD a [.tmp 4] rfl (.inl rfl) rfl rfl (.sr 7 AW 0 l.length) eT ⟨rfl,by simp only[go_sem,Nat.reduceEqDiff,reduceCtorEq,Nat.reduceAdd,Nat.reduceSub,Nat.reduceMul,Nat.reduceLeDiff,Nat.reduceLT,Int.reduceLE,Int.reduceToNat,Int.reduceNeg,↓reduceIte]⟩
 .exact eN
 exact eN
theorem qY (l:List (Int×Int)) (hl:l.length<=100000):BA Tryz.prog 214 [.clo 216 [1]] [(1,.box 91 false [.p DF l])] [] (λres b=>res=.sr 7 AW 0 l.length/\b=[(7,.arr 106 AW l)]):=by
 refine Ki [0,2] [] [] Tryz.func214 Tryz.ntmps214 AH ?_;intro w0 K O0 ρ0 a c d;simp only[Aj];repeat'(first|exact trivial|apply eS rfl|refine rX a ?_ ?_)
 refine cP 1 a ?_ ?_
 .trivial
 refine rM a (fC l hl) [(1,.nm 1)] [1] ?_ ?_ ?_
 .exact eN
 .exact eN
 rintro _ _ ⟨rfl,rfl⟩;refine⟨[(7,.nm 7)],.sr 7 AW 0 l.length,[(7,.arr 106 AW l)],rfl,rfl,?_,?_,rfl,rfl,?_⟩
 .exact eN
 .exact eN
 refine IQ [2] a (by simp only[go_sem,Nat.reduceEqDiff,reduceCtorEq,Nat.reduceAdd,Nat.reduceSub,Nat.reduceMul,Nat.reduceLeDiff,Nat.reduceLT,Int.reduceLE,Int.reduceToNat,Int.reduceNeg,↓reduceIte];rfl) ?_ ?_
 .trivial
 repeat' apply eS rfl
 exact fM a [.tmp 2] (.sr 7 AW 0 l.length) eT ⟨rfl,rfl⟩
theorem lJ (l:List (Int×Int)) (hl:l.length<=200) (hs:NdA l):BA Tryz.prog 215 [.sr 1000000 AW 0 l.length,.fn 192] [(1000000,.arr 106 AW l)] [1000000] (λres f=>res=.raw (.tuple #[])/\f=[(1000000,.arr 106 AW (Aa l))]):=by
 have d:=ABd hs;refine Ki [0,1,4] [] [] Tryz.func215 Tryz.ntmps215 AH ?_;intro w0 K O0 ρ0 a h i;simp only[Aj];repeat'(first|exact trivial|apply eS rfl|refine rX a ?_ ?_)
 refine cP 4 a ?_ ?_
 .exact eV
 refine rM a (A0f (l.length:Int) (by omega) (by omega)) [] [] ?_ ?_ ?_
 .exact eN
 .exact eN
 rintro _ _ ⟨⟨n,rfl,g,-⟩,rfl⟩;refine⟨[],.p T3 (n:Int),[],rfl,rfl,?_,?_,rfl,rfl,?_⟩
 .exact eN
 .exact eN
 have key:=A95 l (by omega) d 0 l.length n (Is _) (NO _) (by omega) (.inl rfl);unfold lI at key;rw[show ((0:Nat):Int)=0 from rfl]at key;refine Qh a 1 (by simp only[go_sem,Nat.reduceEqDiff,reduceCtorEq,Nat.reduceAdd,Nat.reduceSub,Nat.reduceMul,Nat.reduceLeDiff,Nat.reduceLT,Int.reduceLE,Int.reduceToNat,Int.reduceNeg,↓reduceIte];rfl) ?_ ?_
 .trivial
 refine rM a (key) [(1000000,.nm 1000000)] [] ?_ ?_ ?_
 .exact eN
 .exact eN
 rintro _ _ ⟨rfl,r,rfl,hp,e⟩;have c:=qW hs hp.perm e;subst c;have j:=Ck l;refine⟨[(1000000,.nm 1000000)],.raw (.tuple #[]),[(1000000,.arr 106 AW (Aa l))],rfl,rfl,?_,?_,rfl,rfl,Bk ?_⟩
 .exact eN
 .exact eN
 repeat'(first|exact trivial|apply eS rfl|apply AB|refine rX a ?_ ?_|refine rC ?_ ?_<;>intro b<;>try(cases b;done))
 exact fM a [] (.raw (.tuple #[])) rfl ⟨rfl,rfl⟩
theorem Od (l:List (Int×Int)) (hl:l.length<=200) (hs:NdA l):BA Tryz.prog 190 [.clo 216 [1],.fn 192] [(1,.box 91 false [.p DF l])] [] (λres b=>res=.sr 7 AW 0 l.length/\b=[(7,.arr 106 AW (Aa l))]):=by
 have e:=Ck l;refine Ki [0,1,4,5] [] [] Tryz.func190 Tryz.ntmps190 AH ?_;intro w0 K O0 ρ0 a c d;simp only[Aj];repeat'(first|exact trivial|apply eS rfl|refine rX a ?_ ?_)
 refine cP 1 a ?_ ?_
 .trivial
 refine rM a (qY l (by omega)) [(1,.nm 1)] [1] ?_ ?_ ?_
 .exact eN
 .exact eN
 rintro _ _ ⟨rfl,rfl⟩;refine⟨[(1000000,.nm 7)],.sr 1000000 AW 0 l.length,[(1000000,.arr 106 AW l)],rfl,rfl,?_,?_,rfl,rfl,?_⟩
 .exact eN
 .exact eN
 refine IQ [1,5] a (by simp only[go_sem,Nat.reduceEqDiff,reduceCtorEq,Nat.reduceAdd,Nat.reduceSub,Nat.reduceMul,Nat.reduceLeDiff,Nat.reduceLT,Int.reduceLE,Int.reduceToNat,Int.reduceNeg,↓reduceIte];rfl) ?_ ?_
 .trivial
 repeat' apply eS rfl
 refine cP 2 a ?_ ?_
 .trivial
 refine rM a (lJ l hl hs) [(1000000,.nm 1000000)] [] ?_ ?_ ?_
 .exact eN
 .exact eN
 rintro _ _ ⟨rfl,rfl⟩;refine⟨[(1000000,.nm 1000000)],.raw (.tuple #[]),[(1000000,.arr 106 AW (Aa l))],rfl,rfl,?_,?_,rfl,rfl,Bk ?_⟩
 .exact eN
 .exact eN
 repeat'(first|exact trivial|apply eS rfl|refine rX a ?_ ?_)
 refine Ev.ent (σ':=⟨[(4,.sr 7 AW 0 l.length)],[(7,.arr 106 AW (Aa l))]⟩) ?_ (AD [(7,.nm 1000000)] rfl rfl ?_ ?_)
 .exact fM a [.tmp 4] (.sr 7 AW 0 l.length) eT ⟨rfl,rfl⟩
 .exact eN
 exact eN
def Lq (f:List AC) (o:List Int):List (Nat×Obj):=[(1,.box 61 false [.sr 5 T3 0 o.length]),(2,.box 177 false [.mp 6]),(3,.box 25 true [.p Fq f]),(4,.box 178 false [.clo 189 [1,2,3,4]]),(5,.arr 3 T3 o),(6,.mapo T3 T3 (n8 o))]
theorem AEK {f:List AC} {o:List Int} (h:Iw f o):Iw (DW f) o:=⟨h.nd,λx hx=>by rw[GC];exact h.rng x hx⟩
theorem AAl {f:List AC} {o:List Int} (h:Iw (DW f) o):Iw f o:=⟨h.nd,λx hx=>by have:=h.rng x hx;rwa [GC]at this⟩
theorem A2f (f:List AC) (hf:AN f) (hs:NdF f):∀(k:Nat) (o:List Int) (n:Int),Iw f o->0<=n->n<f.length->n∉o->f.length-o.length<=k ->
  BA Tryz.prog 189 [.p T3 n,.bp 1 [] 0,.bp 2 [] 0,.bp 3 [] 0,.bp 4 [] 0] (Lq f o) [1,2,3,4,6] (λres Q=>res=.raw (.tuple #[])/\Q=Lq f (CG (DW f) k o n)):=by
 intro k;induction k with
 | zero =>
  intro o n h0 h1 A B R;have:=(h0.snoc h1 A B).len;simp only[BY,IS]at this;omega
 | succ k P =>
  intro o n D u v w hk;have t:=D.snoc u v w;have I:=t.len;simp only[BY,IS]at I;have S:=hf.1;refine Ki [0,1,2,3,4,7,9,25,26,27,28,39] [] [] Tryz.func189 Tryz.ntmps189 AH ?_;intro w0 K O0 ρ0 b T U;simp only[Lq,Aj];repeat'(first|exact trivial|apply eS rfl|refine rX b ?_ ?_)
  .simp only[AQ];omega
  rw[lB w];obtain⟨O,G⟩:=A0h hs n;have s:=λa (ha:a∈Aa (f.getD n.toNat (0,[])).2)=>Au hf ((Ez _).mem_iff.1 ha);have F:CG (DW f) (k+1) o n=(Aa (f.getD n.toNat (0,[])).2).foldl (AY (DW f) k) (o++[n]):=by rw[Bv,Q5]
  have E:=AEK (f:=f) t;refine cP 6 b ?_ ?_
  .exact⟨u,v⟩
  generalize (f.getD n.toNat (0,[])).2=g at *;refine rM b (aQ g) [] [] ?_ ?_ ?_
  .exact eN
  .exact eN
  rintro _ _ ⟨rfl,rfl⟩;refine⟨[(50,.nm 1)],.clo 216 [50],[(50,.box 91 false [.p DF g])],rfl,rfl,?_,?_,rfl,rfl,?_⟩
  .exact eN
  .exact eN
  refine rM b (Od g G O) [(1,.nm 50)] [50] ?_ ?_ ?_
  .exact eN
  .exact eN
  rintro _ _ ⟨rfl,rfl⟩;have C:=Ck g;rw[<-C];generalize Aa g=L at *;refine⟨[(51,.nm 7)],.sr 51 AW 0 L.length,[(51,.arr 106 AW L)],rfl,rfl,?_,?_,rfl,rfl,?_⟩
  .exact eN
  .exact eN
  refine IQ [0,1,2,3,4,25,26,27] b (by simp only[go_sem,Nat.reduceEqDiff,reduceCtorEq,Nat.reduceAdd,Nat.reduceSub,Nat.reduceMul,Nat.reduceLeDiff,Nat.reduceLT,Int.reduceLE,Int.reduceToNat,Int.reduceNeg,↓reduceIte];rfl) ?_ ?_
  .trivial
  have N:∀i,Iw (DW f) ((L.take i).foldl (AY (DW f) k) (o++[n]))/\o++[n] <+: (L.take i).foldl (AY (DW f) k) (o++[n]):=λi=>EF (DV (SK hf) k) _ _ (λa ha=>by rw[GC];exact s a (Yb ha)) E;generalize J:o++[n]=q at *;have M:q.length=o.length+1:=by rw[<-J];simp
  rw[<-M];repeat' apply eS rfl
  refine AK (ι:={i:Nat//i<=L.length}) (λi=>⟨[(0,.p T3 n),(1,.bp 1 [] 0),(2,.bp 2 [] 0),(3,.bp 3 [] 0),(4,.bp 4 [] 0),(25,.p DF L),(26,.p (.int .i64) (L.length:Int)),(27,.p (.int .i64) (i.1:Int))],Lq f ((L.take i.1).foldl (AY (DW f) k) q)⟩) (λi=>L.length-i.1) ⟨0,by omega⟩ (ACi [51] (AD [(1,.nm 1),(2,.nm 2),(3,.nm 3),(4,.nm 4),(5,.nm 5),(6,.nm 6)] rfl rfl ?_ ?_)) (λi=>?_)
  .simp only[Lq,ZR,AGc];exact eN
  .exact eN
  obtain⟨i,hi⟩:=i;obtain⟨j,y⟩:=N i;replace j:=AAl j;have r:=λ(h:i<L.length)=>KL (AY (DW f) k) L (0,0) q h;have H:=y.length_le;generalize x:(L.take i).foldl (AY (DW f) k) q=c at j y r H;simp only[Lq];repeat'(first|exact trivial|apply eS rfl|apply AB|refine rX b ?_ ?_|refine rC ?_ ?_<;>intro d<;>try(cases d;done))
  .exact eV
  .have l:i<L.length:=by exact eV
   have z:=s _ (AE L (0,0) l);have m:(L.getD i (0,0)).2∉c:=by rw[LO]at d;simpa using d
   refine cP 3 b ?_ ?_
   .trivial
   refine rM b (P c (L.getD i (0,0)).2 j z.1 z.2 m (by omega)) [(1,.nm 1),(2,.nm 2),(3,.nm 3),(4,.nm 4),(5,.nm 5),(6,.nm 6)] [5] ?_ ?_ ?_
   .exact eN
   .simp only[Lq];exact eN
   rintro _ _ ⟨rfl,rfl⟩;refine⟨[(1,.nm 1),(2,.nm 2),(3,.nm 3),(4,.nm 4),(5,.nm 5),(6,.nm 6)],.raw (.tuple #[]),Lq f (CG (DW f) k c (L.getD i (0,0)).2),rfl,rfl,?_,?_,rfl,rfl,Bk ?_⟩
   .simp only[Lq];exact eN
   .exact eN
   simp only[Lq];repeat'(first|apply eS rfl|apply AB|refine rX b ?_ ?_)
   .exact eV
   have e:AY (DW f) k c (L.getD i (0,0))=CG (DW f) k c (L.getD i (0,0)).2:=As m;refine⟨⟨i+1,by omega⟩,by simp only;omega,AD [(1,.nm 1),(2,.nm 2),(3,.nm 3),(4,.nm 4),(5,.nm 5),(6,.nm 6)] rfl rfl ?_ ?_⟩
   .simp only[r l,e];exact eN
   exact eN
  .exact eV
  .have l:i<L.length:=by exact eV
   have m:(L.getD i (0,0)).2∈c:=by rw[LO]at d;simpa using d
   have e:AY (DW f) k c (L.getD i (0,0))=c:=Bq m;refine⟨⟨i+1,by omega⟩,by simp only;omega,AD [(1,.nm 1),(2,.nm 2),(3,.nm 3),(4,.nm 4),(5,.nm 5),(6,.nm 6)] rfl rfl ?_ ?_⟩
   .simp only[r l,e];exact eN
   exact eN
  have hk:L.take i=L:=At (by exact eV);rw[hk]at x;rw[F,x];exact fM b [] (.raw (.tuple #[])) rfl ⟨rfl,rfl⟩
section
def Ce:AZ:={ ins:=[DC,T3],pre:=λ(f,n,_)=>AN f/\HS f/\0<=n/\n<(List.length f:Int),out:=λ(f,n,_)=>[.p DC (AI f n)] }
attribute [local go_sem] Ce
theorem A2g {α β:Type} (g:α->β) (o:List α) (d:α) (z:β) {i:Nat} (h:i<o.length):((o.take i).map g++List.replicate (o.length-i) z).set i (g (o.getD i d))=(o.take (i+1)).map g++List.replicate (o.length-(i+1)) z:=by
 obtain⟨m,a⟩:∃m,o.length-i=m+1:=⟨o.length-i-1,by omega⟩;have b:o.length-(i+1)=m:=by omega
 have hl:((o.take i).map g).length=i:=by rw[OF,OS];omega
 rw[a,b,AFc _ _ (by omega),hl,AAz,AFW,AFE,Av o d h,UZ];simp
def Q7:AZ:={ ins:=[DC,T3],pre:=λ(f,n,_)=>AN f/\NdF f/\0<=n/\n<(List.length f:Int),out:=λ(f,n,_)=>[.p DC (AI (DW f) n)] }
attribute [local go_sem] Q7
theorem SL:Ad Tryz.prog 149 Q7:=by
 refine fK [0,1,2,4,5,6,7,8,9,10,11,12,22,23,24,25,38,39,40] Tryz.func149 Tryz.ntmps149 AH ?_;rintro w0 O0 ⟨f,root,u⟩ a-⟨hf,hs,r,s⟩;simp only[Q7,AM];have z:=hf.1;have j:Iw f []:=⟨by simp,λx hx=>by cases hx⟩;obtain⟨g,G⟩:=DV (SK hf) f.length [] root (AEK j) r (by rw[GC];exact s) (by simp);replace g:=AAl g;have w:AI (DW f) root=(CG (DW f) f.length [] root).map (CL (DW f) (CG (DW f) f.length [] root)):=by unfold AI;rw[GC]
 rw[w];repeat'(first|exact trivial|apply eS rfl|apply AB|refine rX a ?_ ?_|refine rC ?_ ?_<;>intro c<;>try(cases c;done))
 refine cP 2 a ?_ ?_
 .trivial
 refine rM a (A2f f hf hs (List.length f) [] root j r s (by simp) (by simp)) [(1,.nm 6),(2,.nm 5),(3,.nm 2),(4,.nm 7),(5,.nil),(6,.nm 13)] [] ?_ ?_ ?_
 .exact eN
 .simp only[Lq];refine eM ?_;rfl
 rintro _ _ ⟨rfl,rfl⟩;refine⟨[(6,.nm 1),(5,.nm 2),(2,.nm 3),(7,.nm 4),(101,.nm 5),(13,.nm 6)],.raw (.tuple #[]),[(6,.box 61 false [.sr 101 T3 0 (CG (DW f) (List.length f) [] root).length]),(5,.box 177 false [.mp 13]),(2,.box 25 true [.p Fq f]),(7,.box 178 false [.clo 189 [6,5,2,7]]),(101,.arr 3 T3 (CG (DW f) (List.length f) [] root)),(13,.mapo T3 T3 (n8 (CG (DW f) (List.length f) [] root)))],rfl,rfl,?_,?_,rfl,rfl,Bk ?_⟩
 .simp only[Lq];exact eN
 .exact eN
 generalize CG (DW f) (List.length f) [] root=o at *;have F:=g.len;repeat'(first|exact trivial|apply eS rfl|apply AB|refine rX a ?_ ?_|refine rC ?_ ?_<;>intro c<;>try(cases c;done))
 .simp only[AQ];omega
 refine AK (ι:={i:Nat//i<=o.length}) (λi=>⟨[(2,.bp 2 [] 0),(4,.bp 4 [] 0),(5,.bp 5 [] 0),(8,.bp 8 [] 0),(22,.sr 101 T3 0 o.length),(23,.p (.int .i64) (o.length:Int)),(24,.p (.int .i64) (i.1:Int))],[(8,.box 25 true [.sr 20 GR 0 o.length]),(20,.arr 93 GR ((o.take i.1).map (CL (DW f) o)++List.replicate (o.length-i.1) (0,[]))),(5,.box 177 false [.mp 13]),(2,.box 25 true [.p Fq f]),(101,.arr 3 T3 o),(13,.mapo T3 T3 (n8 o)),(4,.box 25 true [.raw (.slice none 0 0)])]⟩) (λi=>o.length-i.1) ⟨0,by omega⟩ (eW [(8,.nm 8),(20,.nm 20),(5,.nm 5),(2,.nm 2),(101,.nm 101),(13,.nm 13),(4,.nm 4)]) (λi=>?_)
 obtain⟨i,hi⟩:=i;repeat'(first|exact trivial|apply eS rfl|apply AB|refine rX a ?_ ?_|refine rC ?_ ?_<;>intro c<;>try(cases c;done))
 .exact eV
 .have l:i<o.length:=by exact eV
  have hn:=g.rng _ (AE o 0 l);have q:CL (DW f) o (o.getD i 0)=((f.getD (o.getD i 0).toNat (0,[])).1,(Aa (f.getD (o.getD i 0).toNat (0,[])).2).map (Gm o)):=by unfold CL;rw[Q5]
  obtain⟨t,m⟩:=A0h hs (o.getD i 0);refine cP 6 a ?_ ?_
  .exact hn
  have E:List.length f<=100000:=z;generalize B:o.getD i 0=n at *;generalize A:f.getD n.toNat (0,[])=x at *;obtain⟨H,d⟩:=x;simp only at t m q;refine rM a (aQ d) [] [] ?_ ?_ ?_
  .exact eN
  .exact eN
  rintro _ _ ⟨rfl,rfl⟩;refine⟨[(50,.nm 1)],.clo 216 [50],[(50,.box 91 false [.p DF d])],rfl,rfl,?_,?_,rfl,rfl,?_⟩
  .exact eN
  .exact eN
  refine rM a (Od d m t) [(1,.nm 50)] [50] ?_ ?_ ?_
  .exact eN
  .exact eN
  rintro _ _ ⟨rfl,rfl⟩;have v:=Ck d;rw[<-v];generalize D:Aa d=L at *;refine⟨[(51,.nm 7)],.sr 51 AW 0 L.length,[(51,.arr 106 AW L)],rfl,rfl,?_,?_,rfl,rfl,?_⟩
  .exact eN
  .exact eN
  refine IQ [2,4,5,8,9,10,11,22,23,24] a (by simp only[go_sem,Nat.reduceEqDiff,reduceCtorEq,Nat.reduceAdd,Nat.reduceSub,Nat.reduceMul,Nat.reduceLeDiff,Nat.reduceLT,Int.reduceLE,Int.reduceToNat,Int.reduceNeg,↓reduceIte];rfl) ?_ ?_
  .trivial
  repeat'(first|exact trivial|apply eS rfl|apply AB|refine rX a ?_ ?_|refine rC ?_ ?_<;>intro c<;>try(cases c;done))
  refine AK (ι:={k:Nat//k<=L.length}) (λk=>⟨[(2,.bp 2 [] 0),(4,.bp 4 [] 0),(5,.bp 5 [] 0),(8,.bp 8 [] 0),(9,.p (.int .i64) (i:Int)),(10,.p T3 n),(11,.sr 51 AW 0 L.length),(22,.sr 101 T3 0 o.length),(23,.p (.int .i64) (o.length:Int)),(24,.p (.int .i64) (i:Int)),(38,.p (.int .i64) (L.length:Int)),(39,.p (.int .i64) (k.1:Int))],[(51,.arr 106 AW ((L.take k.1).map (Gm o)++L.drop k.1)),(8,.box 25 true [.sr 20 GR 0 o.length]),(20,.arr 93 GR ((o.take i).map (CL (DW f) o)++List.replicate (o.length-i) (0,[]))),(5,.box 177 false [.mp 13]),(2,.box 25 true [.p Fq f]),(101,.arr 3 T3 o),(13,.mapo T3 T3 (n8 o)),(4,.box 25 true [.raw (.slice none 0 0)])]⟩) (λk=>L.length-k.1) ⟨0,by omega⟩ (eW [(51,.nm 51),(8,.nm 8),(20,.nm 20),(5,.nm 5),(2,.nm 2),(101,.nm 101),(13,.nm 13),(4,.nm 4)]) (λk=>?_)
  obtain⟨k,hk⟩:=k;repeat'(first|exact trivial|apply eS rfl|apply AB|refine rX a ?_ ?_|refine rC ?_ ?_<;>intro c<;>try(cases c;done))
  .exact eV
  .exact eV
  .have h:k<L.length:=by exact eV
   have e:=Wz (Gm o) (λb=>b) L (0,0) h (Gm o);refine⟨⟨k+1,by omega⟩,by simp only;omega,AD [(51,.nm 51),(8,.nm 8),(20,.nm 20),(5,.nm 5),(2,.nm 2),(101,.nm 101),(13,.nm 13),(4,.nm 4)] rfl rfl ?_ ?_⟩
   .refine eM ?_;rw[e.2];rw[<-e.1];unfold Gm;rw[<-A0c]
   exact eN
  .exact⟨hn,by exact eV⟩
  .exact eV
  have h:L.take k=L:=At (by exact eV);have y:L.drop k=[]:=TO (by exact eV);refine⟨⟨i+1,by omega⟩,by simp only;omega,AD [(8,.nm 8),(20,.nm 20),(5,.nm 5),(2,.nm 2),(101,.nm 101),(13,.nm 13),(4,.nm 4)] rfl rfl ?_ ?_⟩
  .refine eM ?_;rw[h,y,Uh];have e:=A2g (CL (DW f) o) o 0 (0,[]) l;rw[B,q]at e;rw[<-e,A,At (by simp:(L.map (Gm o)).length<=L.length)]
  exact eN
 have hk:o.take i=o:=At (by exact eV);have C:o.length-i=0:=by exact eV
 rw[hk,C];exact fI a [.cell 4 25] (by simp only[List.replicate_zero,Uh];first|exact eR|refine Uv ?_;exact At (by rw[OF];exact eV))
theorem fD:Ad Tryz.prog 149 Ce:=by
 refine⟨SL.1,λw O h ds d g hp=>?_⟩;obtain⟨f,n,u⟩:=ds;obtain⟨h1,a,b,c⟩:=hp;have key:=SL.2 w O h (f,n,u) d g ⟨h1,ABe a,b,c⟩;have e:Q7.out (f,n,u)=Ce.out (f,n,u):=by
  show [RV.p DC (AI (DW f) n)]=[RV.p DC (AI f n)];rw[A2d a]
 rw[e]at key;exact key
theorem ABf:Ad Tryz.prog 128 Ce:=by
 refine fK [0,1,2,4] Tryz.func128 Tryz.ntmps128 (AF fD AH) ?_;rintro w0 O0 ⟨f,root,u⟩ a-hp;simp only[Ce,AM];repeat'(first|exact trivial|apply eS rfl|apply AB|refine rX a ?_ ?_|refine rC ?_ ?_<;>intro b<;>try(cases b;done))
 .exact hp
 exact fI a [.cell 4 25]
end
def inF (l:List Int) (n:Int):Bool:=l.any λx=>x==n
def aR:AZ:={ ins:=[T3],pre:=λ_=>True,out:=λ(t,_)=>[.p DC [(t,[])]] }
theorem A97:Ad Tryz.prog 27 aR:=by
 refine fK [0,2] Tryz.func27 Tryz.ntmps27 AH ?_;rintro w0 O0 ⟨t,u⟩ a - -;simp only[aR,AM];repeat'(first|exact trivial|apply eS rfl|apply AB|refine rX a ?_ ?_|refine rC ?_ ?_<;>intro b<;>try(cases b;done))
 exact fI a [.cell 2 25]
section
attribute [local go_sem] Ce
def A53 (a:Int->Int×Int->Bool) (f:List AC) (i:Nat):AC:=((f.getD i (0,[])).1,(f.getD i (0,[])).2.filter (a (i:Int)))
def GV (a:Int->Int×Int->Bool) (f:List AC) (i:Nat):List AC:=(List.range i).map (A53 a f)
def XB (a:Int->Int×Int->Bool) (f:List AC):List AC:=AI (GV a f f.length) 0
theorem KO (a:Int->Int×Int->Bool) (f:List AC) (i:Nat):(GV a f i).length=i:=by simp[GV]
theorem HH (l:List (Int×Int)):k9 l↔l.Pairwise (λa b=>a.1<b.1):=by
 constructor
 .intro h;rw[UX];have key:∀d i,i+d+1<l.length->(l.getD i (0,0)).1<(l.getD (i+d+1) (0,0)).1:=by
   intro d;induction d with
   | zero=>intro i hi;exact h i hi
   | succ d e =>
    intro i hi;have h1:=e i (by omega);have f:=h (i+d+1) (by omega);have:i+(d+1)+1=i+d+1+1:=by omega
    rw[this];omega
  intro i j hi c g;have h1:=key (j-i-1) i (by omega);rw[show i+(j-i-1)+1=j by omega]at h1;simpa[AS,hi,c] using h1
 intro h i hi;rw[UX]at h;have:=h i (i+1) (by omega) hi (by omega);simpa[AS,hi,show i<l.length by omega] using this
theorem lK {l:List (Int×Int)} (h:k9 l) (p:Int×Int->Bool):k9 (l.filter p):=by
 rw[HH]at h ⊢;exact h.sublist List.filter_sublist
theorem aU {f:List AC} (hf:AN f) (hs:HS f) (c:Int->Int×Int->Bool):AN (GV c f f.length)/\HS (GV c f f.length):=by
 have d:∀i,i<f.length->f.getD i (0,[])∈f:=λi hi=>AE f (0,[]) hi;refine⟨⟨by rw[KO];exact hf.1,λx hx=>?_⟩,λx hx=>?_⟩
 .obtain⟨i,hi,rfl⟩:=IF.1 hx;have hi:i<f.length:=Ue.1 hi;obtain⟨h1,b⟩:=hf.2 _ (d i hi);rw[KO];exact⟨UR (Yw _ _) h1,λa ha=>b a (AAh.1 ha).1⟩
 obtain⟨i,hi,rfl⟩:=IF.1 hx;have hi:i<f.length:=Ue.1 hi;obtain⟨h1,b⟩:=hs _ (d i hi);exact⟨lK h1 _,UR (Yw _ _) b⟩
def Fh (l:List Int):List (Int×Bool):=l.foldl (λm x=>Fx T3 .bool x true m) []
theorem qZ {a:Ty} (x k:Int) (v:a.den) (m:List (Int×a.den)):BU T3 a x (Fx T3 a k v m)=if x=k then some v else BU T3 a x m:=by
 induction m with
 | nil=>simp[Fx,BU,Ir]
 | cons y m f =>
  simp only[Fx];by_cases b:Ir T3 k y.1=true
  .rw[Bq b];have c:k=y.1:=by simpa[Ir] using b
   simp only[BU,Ir,YV];by_cases hx:x=k
   .rw[Bq hx,Bq hx]
   rw[As hx,As hx,As (by rw[<-c];exact hx)]
  rw[As b];have c:¬k=y.1:=by simpa[Ir] using b
  simp only[BU];by_cases hx:Ir T3 x y.1=true
  .have d:x=y.1:=by simpa[Ir] using hx
   rw[Bq hx,Bq hx,As (by rw[d];exact λe=>c e.symm)]
  rw[As hx,As hx,f]
theorem A0i (l:List Int) (x:Int):(BU T3 .bool x (Fh l)).getD false=inF l x:=by
 induction l using EK with
 | h0=>rfl
 | h1 l a b =>
  have e:Fh (l++[a])=Fx T3 .bool a true (Fh l):=by simp[Fh]
  rw[e,qZ];by_cases hx:x=a
  .rw[Bq hx];subst hx;simp[inF]
  rw[As hx,b];simp only[inF,AFi,List.any_cons,List.any_nil,Bool.or_false];have:(a==x)=false:=by simpa using λe=>hx e.symm
  rw[this,Bool.or_false]
end
abbrev AEL:=Int×List (Int×Int)
def HT (f:List AEL):Bool:=decide (f.length<=12)&&f.all λn=>decide (n.2.length<=12)
def SM:AZ:={ ins:=[DC],pre:=λ_=>True,out:=λ(f,_)=>[.p .bool (HT f)] }
theorem A54:Ad Tryz.prog 18 SM:=by
 refine fK [0,1,2,3,7,12,22] Tryz.func18 Tryz.ntmps18 AH ?_;rintro w0 O0 ⟨l,u⟩ a e f;simp only[SM,AM];repeat'(first|exact trivial|apply eS rfl|refine rX a ?_ ?_|refine rC ?_ ?_<;>intro b<;>try(cases b;done))
 .have h1:HT l=false:=by
   have h:¬(List.length l<=12):=by exact eV
   unfold HT;rw[AFb h];rfl
  exact fI a [.tmp 2] (by rw[h1];exact eR)
 refine AK (ι:={k:Nat//k<=l.length/\(l.take k).all (λn=>decide (n.2.length<=12))=true}) (λk=>⟨[(0,.p DC l),(1,.bp 1 [] 0),(3,.p (.int .i64) (k.1:Int))],[(1,.box 25 true [.p Fq l])]⟩) (λk=>l.length-k.1) ⟨0,by simp⟩ (AD [(1,.nm 1)] rfl rfl ?_ ?_) (λk=>?_)
 .exact eN
 .exact eN
 obtain⟨k,hk,c⟩:=k;repeat'(first|exact trivial|apply eS rfl|apply AB|refine rX a ?_ ?_|refine rC ?_ ?_<;>intro b<;>try(cases b;done))
 .exact eV
 .have h1:HT l=false:=by
   have hk:k<l.length:=by exact eV
   have h:=AE l (0,[]) hk;unfold HT;rw[Yx];right;rw[AF2];exact⟨_,h,by simp only[DO];exact eV⟩
  exact fI a [.tmp 2] (by rw[h1];exact eR)
 .exact eV
 .have hk:k<l.length:=by exact eV
  refine⟨⟨k+1,by exact eV,?_⟩,by simp only;exact eV,AD [(1,.nm 1)] rfl rfl ?_ ?_⟩
  .have h1:=Av l (0,[]) hk;have d:((l.take (k+1)).all λn=>decide (n.2.length<=12))=_:=Yp (λx=>List.all x λn=>decide (n.2.length<=12)) h1;rw[d,AF3,c];simp only[AAk,List.all_nil,AGm,AFT,DO];exact eV
  .exact eN
  exact eN
 have h1:HT l=true:=by
  have hk:l.take k=l:=At (by exact eV);rw[hk]at c;unfold HT;rw[c,ABT (by exact eV)];rfl
 exact fI a [.tmp 2] (by rw[h1];exact eR)
def GD (n:Int) (seen:List (Int×Int)):List (Int×Int)->Int
 | []=>0
 | x :: r=>if x.1<0\/x.2<0\/n<=x.2 then 2 else if (seen.any λy=>y.1==x.1)=true then 4 else GD n (seen++[x]) r
def GW (l:List (Int×Int)) (n:Int):Int:=GD n [] l
def lL:AZ:={ ins:=[DF,T3],pre:=λ_=>True,out:=λ(l,n,_)=>[.p Fm (GW l n)] }
theorem Pm (n:Int) (l:List (Int×Int)) {k:Nat} (h:k<l.length):GD n (l.take k) (l.drop k)=if (l.getD k (0,0)).1<0\/(l.getD k (0,0)).2<0\/n<=(l.getD k (0,0)).2 then 2 else if ((l.take k).any λy=>y.1==(l.getD k (0,0)).1)=true then 4 else GD n (l.take (k+1)) (l.drop (k+1)):=by
 rw[Av l (0,0) h,On h,AS,AT h];rfl
theorem ZI (l:List (Int×Int)) (f:Int) {k:Nat} (h:k<l.length):((l.take (k+1)).any λy=>y.1==f)=((l.take k).any (λy=>y.1==f)||((l.getD k (0,0)).1==f)):=by
 rw[Av l (0,0) h,AFi];simp
theorem A98:Ad Tryz.prog 174 lL:=by
 refine fK [0,1,4,5,6,10,35,38,51] Tryz.func174 Tryz.ntmps174 AH ?_;rintro w0 O0 ⟨l,n,u⟩ b ⟨⟨hl,-⟩,-⟩ -;simp only[AQ]at hl;simp only[lL,AM];repeat'(first|exact trivial|apply eS rfl|refine rX b ?_ ?_)
 refine AK (ι:={k:Nat//k<=l.length/\GD n (l.take k) (l.drop k)=GW l n}) (λk=>⟨[(0,.p DF l),(1,.p T3 n),(5,.p (.int .i64) (k.1:Int))],[]⟩) (λk=>l.length-k.1) ⟨0,by simp[GW]⟩ (AD [] rfl rfl ?_ ?_) (λk=>?_)
 .exact eN
 .exact eN
 obtain⟨k,hk,c⟩:=k;repeat'(first|exact trivial|apply eS rfl|refine rX b ?_ ?_|refine rC ?_ ?_<;>intro a<;>try(cases a;done))
 .exact eV
 .have hk:k<l.length:=by exact eV
  have h1:GW l n=2:=by
   rw[<-c,Pm n l hk,Bq (by rw[<-or_assoc];exact a)]
  exact fI b [.tmp 4] (by rw[h1];exact eR)
 .have hk:k<l.length:=by exact eV
  have hn:¬((l.getD k (0,0)).1<0\/(l.getD k (0,0)).2<0\/n<=(l.getD k (0,0)).2):=by
   have:=a;generalize l.getD k (0,0)=x at this;exact eV
  rw[Pm n l hk,As hn]at c;refine AK (ι:={j:Nat//j<=k/\((l.take j).any λy=>y.1==(l.getD k (0,0)).1)=false}) (λj=>⟨[(0,.p DF l),(1,.p T3 n),(5,.p (.int .i64) (k:Int)),(6,.p (.int .i64) (j.1:Int))],[]⟩) (λj=>k-j.1) ⟨0,by simp⟩ (AD [] rfl rfl ?_ ?_) (λj=>?_)
  .exact eN
  .exact eN
  obtain⟨j,h,f⟩:=j;repeat'(first|exact trivial|apply eS rfl|apply AB|refine rX b ?_ ?_|refine rC ?_ ?_<;>intro a<;>try(cases a;done))
  .exact eV
  .have e:j<l.length:=by exact eV
   have h1:GW l n=4:=by
    have d:((l.take k).any λy=>y.1==(l.getD k (0,0)).1)=true:=by
     rw[Ua];refine⟨l.getD j (0,0),?_,by simpa using a⟩;rw[AS,AT e];exact ABU.2 ⟨j,by exact eV,rfl⟩
    rw[<-c,Bq d]
   exact fI b [.tmp 4] (by rw[h1];exact eR)
  .exact eV
  .have e:j<l.length:=by exact eV
   refine⟨⟨j+1,by exact eV,?_⟩,by simp only;exact eV,AD [] rfl rfl ?_ ?_⟩
   .have d:=ZI l (l.getD k (0,0)).1 e;refine d.trans ?_;rw[f];simpa using a
   .exact eN
   exact eN
  .exact eV
  have g:j=k:=by exact eV
  subst g;refine⟨⟨j+1,by exact eV,?_⟩,by simp only;exact eV,AD [] rfl rfl ?_ ?_⟩
  .rw[<-c,As (by rw[f];simp)]
  .exact eN
  exact eN
 have h1:GW l n=0:=by
  have hk:l.length<=k:=by exact eV
  rw[<-c,TO hk];rfl
 exact fI b [.tmp 4] (by rw[h1];exact eR)
def XC (n:Int×List (Int×Int)):List Int:=n.1 :: (n.2.length:Int) :: n.2.flatMap λa=>[a.1,a.2]
def Bw (f:List (Int×List (Int×Int))):List Int:=(f.length:Int) :: f.flatMap XC
def ZJ (l:List (Int×List (Int×Int))) (k:Nat):List Int:=(l.length:Int) :: (l.take k).flatMap XC
def XD (l:List (Int×List (Int×Int))) (k j:Nat):List Int:=ZJ l k++[(l.getD k (0,[])).1,((l.getD k (0,[])).2.length:Int)]++((l.getD k (0,[])).2.take j).flatMap λa=>[a.1,a.2]
theorem SP:∀l:List (Int×Int),(l.flatMap λa=>[a.1,a.2]).length=2*l.length
 | []=>rfl
 | x :: l=>by simp[SP l];omega
theorem A55 (n:Int×List (Int×Int)):(XC n).length=2+2*n.2.length:=by
 have:=SP n.2;simp only[XC,No];omega
theorem XE:∀l:List (Int×List (Int×Int)),(∀n∈l,n.2.length<=100000)->(l.flatMap XC).length<=l.length*200002
 | [],_=>by simp
 | x :: l,h=>by
  have h1:=h x (by simp);have a:=XE l (λn hn=>h n (by simp[hn]));have b:=A55 x;simp only[AFm,BY,No];omega
theorem lM {l:List (Int×List (Int×Int))} (h:∀n∈l,n.2.length<=100000) {k:Nat} (hk:k<=l.length):(ZJ l k).length<=1+k*200002:=by
 have h1:=XE (l.take k) (λn hn=>h n (Yb hn));rw[OS,AAS hk]at h1;simp only[ZJ,No];omega
theorem A56 {l:List (Int×List (Int×Int))} (h:∀n∈l,n.2.length<=100000) {k j:Nat} (hk:k<l.length) (b:j<=(l.getD k (0,[])).2.length):(XD l k j).length<=3+k*200002+2*j:=by
 have h1:=lM h (AG0 hk);have a:=SP ((l.getD k (0,[])).2.take j);rw[OS,AAS b]at a;simp only[XD,BY,No,Yo];omega
theorem aV {l:List (Int×List (Int×Int))} {k:Nat} (hk:k<l.length):ZJ l (k+1)=XD l k (l.getD k (0,[])).2.length:=by
 unfold ZJ XD;rw[Av l (0,[]) hk,List.flatMap_append,UO];simp[XC,ZJ]
theorem aW {l:List (Int×List (Int×Int))} {k j:Nat} (a:j<(l.getD k (0,[])).2.length):XD l k (j+1)=XD l k j++[((l.getD k (0,[])).2.getD j (0,0)).1,((l.getD k (0,[])).2.getD j (0,0)).2]:=by
 unfold XD;rw[Av _ (0,0) a,List.flatMap_append];simp
def XF:AZ:={ ins:=[DC],pre:=λ(f,_)=>f.length<=100000/\∀n∈f,n.2.length<=100000,out:=λ(f,_)=>[.p Ft (Bw f)] }
theorem q9:Ad Tryz.prog 130 XF:=by
 refine fK [0,1,2,3,4,5,6,15,38] Tryz.func130 Tryz.ntmps130 AH ?_;rintro w0 O0 ⟨l,u⟩ a ⟨hl,-⟩ ⟨m,d⟩;simp only[XF,AM];repeat'(first|exact trivial|apply eS rfl|refine rX a ?_ ?_)
 refine AK (ι:={k:Nat//k<=l.length}) (λk=>⟨[(0,.p DC l),(1,.bp 1 [] 0),(3,.sr 10 T3 0 (ZJ l k.1).length),(4,.p (.int .i64) (k.1:Int))],[(1,.box 25 true [.p Fq l]),(10,.arr 3 T3 (ZJ l k.1))]⟩) (λk=>l.length-k.1) ⟨0,by simp⟩ (AD [(1,.nm 1),(10,.nm 10)] rfl rfl ?_ ?_) (λk=>?_)
 .refine eM ?_;rfl
 .refine eM ?_;rfl
 obtain⟨k,hk⟩:=k;have h:=lM d hk;repeat'(first|exact trivial|apply eS rfl|refine rX a ?_ ?_|refine rC ?_ ?_<;>intro c<;>try(cases c;done))
 .exact eV
 .refine⟨by exact eV,?_⟩;simp only[AQ];exact eV
 .have b:k<l.length:=by exact eV
  have n:=d _ (AE l (0,[]) b);refine AK (ι:={j:Nat//j<=(l.getD k (0,[])).2.length}) (λj=>⟨[(0,.p DC l),(1,.bp 1 [] 0),(3,.sr 10 T3 0 (XD l k j.1).length),(4,.p (.int .i64) (k:Int)),(5,.p DF (l.getD k (0,[])).2),(6,.p (.int .i64) (j.1:Int))],[(1,.box 25 true [.p Fq l]),(10,.arr 3 T3 (XD l k j.1))]⟩) (λj=>(l.getD k (0,[])).2.length-j.1) ⟨0,by simp⟩ (AD [(1,.nm 1),(10,.nm 10)] rfl rfl ?_ ?_) (λj=>?_)
  .refine eM ?_;simp[XD]
  .refine eM ?_;simp[XD]
  obtain⟨j,f⟩:=j;have i:=A56 d b f;repeat'(first|exact trivial|apply eS rfl|apply AB|refine rX a ?_ ?_|refine rC ?_ ?_<;>intro c<;>try(cases c;done))
  .refine⟨by exact eV,by exact eV,?_⟩;simp only[AQ];exact eV
  .exact eV
  .have e:j<(l.getD k (0,[])).2.length:=by exact eV
   refine⟨⟨j+1,by exact eV⟩,by simp only;exact eV,AD [(1,.nm 1),(10,.nm 10)] rfl rfl ?_ ?_⟩
   .refine eM ?_;exact(aW e).symm
   refine eM ?_;have:=Yp List.length (aW (l:=l) e);rw[BY]at this;exact this.symm
  .exact eV
  have g:j=(l.getD k (0,[])).2.length:=by exact eV
  subst g;refine⟨⟨k+1,by exact eV⟩,by simp only;exact eV,AD [(1,.nm 1),(10,.nm 10)] rfl rfl ?_ ?_⟩
  .refine eM ?_;exact(aV b).symm
  refine eM ?_;exact Yp List.length (aV b).symm
 have hk:l.take k=l:=At (by exact eV);have h1:ZJ l k=Bw l:=by unfold ZJ Bw;rw[hk]
 exact fI a [.tmp 2] (by first|exact eR|refine Uv ?_;exact h1)
section
attribute [local go_sem] XF
def LP:List Int->List Int->Int
 | x :: xs,y :: ys=>if x<y then -1 else if y<x then 1 else LP xs ys
 | _,_=>0
theorem SQ (xs ys:List Int) {k:Nat} (h1:k<xs.length) (a:k<ys.length):LP (xs.drop k) (ys.drop k)=if xs.getD k 0<ys.getD k 0 then -1 else if ys.getD k 0<xs.getD k 0 then 1 else LP (xs.drop (k+1)) (ys.drop (k+1)):=by
 rw[On h1,On a,AS,AT h1,AS,AT a];rfl
theorem A57 (xs ys:List Int) {k:Nat} (h:xs.length<=k\/ys.length<=k):LP (xs.drop k) (ys.drop k)=0:=by
 rcases h with h|h
 .rw[TO h];simp[LP]
 rw[TO h];simp[LP]
def CV (a b:List (Int×List (Int×Int))):Int:=LP (Bw a) (Bw b)
def DX (f:List (Int×List (Int×Int))):Prop:=f.length<=100000/\∀n∈f,n.2.length<=100000
def XG:AZ:={ ins:=[DC,DC],pre:=λ(a,b,_)=>DX a/\DX b,out:=λ(a,b,_)=>[.p T3 (CV a b)] }
theorem Q8 {f:List (Int×List (Int×Int))} (h:DX f):(Bw f).length<=1+f.length*200002:=by
 have:=XE f h.2;simp only[Bw,No];omega
theorem rB:Ad Tryz.prog 78 XG:=by
 refine fK [0,1,2,3,4,5,6,7,21,32,41] Tryz.func78 Tryz.ntmps78 (AF q9 AH) ?_;rintro w0 O0 ⟨a,b,u⟩ e-⟨⟨g,i⟩,⟨j,l⟩⟩;have m:=Q8 ⟨g,i⟩;have n:=Q8 ⟨j,l⟩;simp only[XG,AM];repeat'(first|exact trivial|apply eS rfl|refine rX e ?_ ?_)
 .exact⟨g,i⟩
 .exact⟨j,l⟩
 refine AK (ι:={k:Nat//LP ((Bw a).drop k) ((Bw b).drop k)=CV a b}) (λk=>⟨[(5,.p Ft (Bw a)),(6,.p Ft (Bw b)),(7,.p (.int .i64) (k.1:Int))],[]⟩) (λk=>(Bw a).length-k.1) ⟨0,by simp[CV]⟩ (AD [] rfl rfl ?_ ?_) (λk=>?_)
 .exact eN
 .exact eN
 obtain⟨k,hk⟩:=k;repeat'(first|exact trivial|apply eS rfl|apply AB|refine rX e ?_ ?_|refine rC ?_ ?_<;>intro f<;>try(cases f;done))
 .exact eV
 .obtain⟨h1,c⟩:k<(Bw a).length/\k<(Bw b).length:=by exact eV
  have d:CV a b=-1:=by rw[<-hk,SQ _ _ h1 c,Bq f]
  exact fI e [.tmp 4] (by rw[d];exact eR)
 .exact eV
 .obtain⟨h1,c⟩:k<(Bw a).length/\k<(Bw b).length:=by exact eV
  have d:CV a b=1:=by rw[<-hk,SQ _ _ h1 c,As (by exact eV),Bq f]
  exact fI e [.tmp 4] (by rw[d];exact eR)
 .exact eV
 .obtain⟨h1,c⟩:k<(Bw a).length/\k<(Bw b).length:=by exact eV
  refine⟨⟨k+1,?_⟩,by simp only;exact eV,AD [] rfl rfl ?_ ?_⟩
  .rw[<-hk,SQ _ _ h1 c,As (by exact eV),As (by exact eV)]
  .exact eN
  exact eN
 have d:CV a b=0:=by
  rw[<-hk];apply A57;by_cases h:k<(Bw a).length
  .right;have:=f (by exact eV);exact eV
  left;exact eV
 exact fI e [.tmp 4] (by rw[d];exact eR)
def Jp:AZ:={ ins:=[DC,DC],pre:=λ(a,b,_)=>DX a/\DX b,out:=λ(a,b,_)=>[.p .bool (CV a b==0)] }
end
section
attribute [local go_sem] XG lL
theorem Q9:Ad Tryz.prog 25 Jp:=by
 refine fK [0,1,2,3,4] Tryz.func25 Tryz.ntmps25 (AF rB AH) ?_;rintro w0 O0 ⟨a,b,u⟩ c-d;simp only[Jp,AM];repeat'(first|exact trivial|apply eS rfl|refine rX c ?_ ?_)
 .exact d
 exact fI c [.tmp 4]
def GX (m:Int):List (Int×List (Int×Int))->Int
 | []=>0
 | n :: r=>if n.1<0 then 2 else if GW n.2 m≠0 then GW n.2 m else GX m r
def B6 (f:List (Int×List (Int×Int))):Int:=if f.length=0 then 1 else if 4096<f.length then 7 else GX f.length f
def A58:AZ:={ ins:=[DC],pre:=λ_=>True,out:=λ(f,_)=>[.p Fm (B6 f)] }
theorem Ih (m:Int) (l:List (Int×List (Int×Int))) {k:Nat} (h:k<l.length):GX m (l.drop k)=if (l.getD k (0,[])).1<0 then 2 else if GW (l.getD k (0,[])).2 m≠0 then GW (l.getD k (0,[])).2 m else GX m (l.drop (k+1)):=by
 rw[On h,AS,AT h];rfl
theorem A99:Ad Tryz.prog 132 A58:=by
 refine fK [0,1,2,3,4,8,12,17,26,38] Tryz.func132 Tryz.ntmps132 (AF A98 AH) ?_;rintro w0 O0 ⟨l,u⟩ a ⟨hl,-⟩ -;simp only[A58,AM];repeat'(first|exact trivial|apply eS rfl|refine rX a ?_ ?_|refine rC ?_ ?_<;>intro b<;>try(cases b;done))
 .have h1:B6 l=1:=by
   have h:l.length=0:=by exact eV
   unfold B6;rw[Bq h]
  exact fI a [.tmp 2] (by rw[h1];exact eR)
 .have h1:B6 l=7:=by
   have h:¬l.length=0:=by exact eV
   have e:4096<l.length:=by exact eV
   unfold B6;rw[As h,Bq e]
  exact fI a [.tmp 2] (by rw[h1];exact eR)
 have h1:B6 l=GX l.length l:=by
  have h:¬l.length=0:=by exact eV
  have e:¬4096<l.length:=by exact eV
  unfold B6;rw[As h,As e]
 refine AK (ι:={k:Nat//k<=l.length/\GX l.length (l.drop k)=B6 l}) (λk=>⟨[(1,.bp 1 [] 0),(3,.p (.int .i64) (k.1:Int))],[(1,.box 25 true [.p Fq l])]⟩) (λk=>l.length-k.1) ⟨0,by simp[h1]⟩ (AD [(1,.nm 1)] rfl rfl ?_ ?_) (λk=>?_)
 .exact eN
 .exact eN
 obtain⟨k,hk,hf⟩:=k;repeat'(first|exact trivial|apply eS rfl|apply AB|refine rX a ?_ ?_|refine rC ?_ ?_<;>intro b<;>try(cases b;done))
 .exact eV
 .have d:k<l.length:=by exact eV
  have c:B6 l=2:=by rw[<-hf,Ih _ _ d,Bq b]
  exact fI a [.tmp 2] (by rw[c];exact eR)
 .exact eV
 .have d:k<l.length:=by exact eV
  have c:B6 l=GW (l.getD k (0,[])).2 l.length:=by rw[<-hf,Ih _ _ d,As (by exact eV),Bq b]
  exact fI a [.tmp 2] (by rw[c];exact eR)
 .exact eV
 .have d:k<l.length:=by exact eV
  refine⟨⟨k+1,by exact eV,?_⟩,by simp only;exact eV,AD [(1,.nm 1)] rfl rfl ?_ ?_⟩
  .rw[<-hf,Ih _ _ d,As (by exact eV),As (by simpa using b)]
  .exact eN
  exact eN
 have c:B6 l=0:=by
  have hk:l.length<=k:=by exact eV
  rw[<-hf,TO hk];rfl
 exact fI a [.tmp 2] (by rw[c];exact eR)
end
section
attribute [local go_sem] A58 aN
theorem XH {n:Int}:∀ {l seen:List (Int×Int)},GD n seen l=0->∀a∈l,0<=a.1/\0<=a.2/\a.2<n
 | [],_,_,a,ha=>by cases ha
 | x :: l,seen,h,a,ha=>by
  simp only[GD]at h;split at h
  .cases h
  split at h
  .cases h
  rename_i h1 _;rcases By.1 ha with rfl|ha
  .omega
  exact XH h a ha
theorem LQ {m:Int}:∀ {f:List (Int×List (Int×Int))},GX m f=0->∀x∈f,0<=x.1/\∀a∈x.2,0<=a.1/\0<=a.2/\a.2<m
 | [],_,x,hx=>by cases hx
 | y :: f,h,x,hx=>by
  simp only[GX]at h;split at h
  .cases h
  split at h
  .rename_i h1 b;exact absurd h b
  rename_i h1 b;have b:GW y.2 m=0:=If b;rcases By.1 hx with rfl|hx
  .exact⟨by omega,XH b⟩
  exact LQ h x hx
def Gp (f:List (Int×List (Int×Int))):Prop:=∀x∈f,x.2.length<=100000
theorem Ii {f:List (Int×List (Int×Int))} (h:B6 f=0) (hs:Gp f):AN f/\0<f.length:=by
 unfold B6 at h;split at h
 .cases h
 split at h
 .cases h
 refine⟨⟨by omega,λx hx=>⟨hs x hx,λa ha=>?_⟩⟩,by omega⟩;have:=(LQ h x hx).2 a ha;exact⟨this.2.1,this.2.2⟩
def Ax (f:List AC):List AC×Int:=if B6 f=0 then (JT f 0,0) else ([],B6 f)
def SR:AZ:={ ins:=[DC],pre:=λ(f,_)=>Gp f,out:=λ(f,_)=>[.p DC (Ax f).1,.p Fm (Ax f).2] }
theorem lN:Ad Tryz.prog 82 SR:=by
 refine fK [0,1,2,3,4,8] Tryz.func82 Tryz.ntmps82 (AF A99 (AF A8V AH)) ?_;rintro w0 O0 ⟨f,u⟩ b-hs;simp only[SR,AM];repeat'(first|exact trivial|apply eS rfl|refine rX b ?_ ?_|refine rC ?_ ?_<;>intro a<;>try(cases a;done))
 .have h:¬B6 f=0:=by simpa using a
  have e:Ax f=([],B6 f):=As h;exact fI b [.cell 2 25,.tmp 3] (by rw[e];exact eR)
 .have h:B6 f=0:=by simpa using a
  have:=Ii h hs;exact⟨this.1,by exact eV⟩
 have h:B6 f=0:=by simpa using a
 have e:Ax f=(JT f 0,0):=Bq h;exact fI b [.cell 2 25,.tmp 3] (by rw[e];exact eR)
end
section
attribute [local go_sem] SM SR Jp
def ftB (a:Int×Int):Bool:=decide (a.1<64)
def ndB (x:AC):Bool:=decide (x.1<256)&&x.2.all ftB
def D0 (f:List AC):Bool:=HT f&&f.all ndB&&((Ax f).2==0&&(CV (Ax f).1 f==0))
theorem Mq {f:List AC} (h:HT f=true):f.length<=12/\∀x∈f,x.2.length<=12:=by
 unfold HT at h;simp only[An,DO,OR]at h;exact h
theorem rD {f:List AC} (hf:AN f) {n:Int} (h0:0<=n) (h1:n<f.length):DX (JT f n):=by
 obtain⟨⟨a,b⟩,_⟩:=A0b hf h0 h1;have c:=hf.1;refine⟨?_,λx hx=>?_⟩
 .unfold JT;rw[OF];omega
 obtain⟨m,_,rfl⟩:=IF.1 hx;unfold Mo;simp only[OF,Ck];exact Ml hf m
theorem Mr {f:List AC} (hs:Gp f):DX (Ax f).1:=by
 unfold Ax;split
 .rename_i h;obtain⟨h1,a⟩:=Ii h hs;exact rD h1 (by omega) (by omega)
 exact⟨by simp,λx hx=>by cases hx⟩
end
section
attribute [local go_sem] SR Jp
def ftR (h:AG) (a:Int×Int):Bool:=decide (a.1<(h.2.length:Int))
def ndR (h:AG) (x:AC):Bool:=decide (x.1<(h.1.length:Int))&&x.2.all (ftR h)
def Hm (h:AG) (f:List AC):Int:=if (Ax f).2≠0 then (Ax f).2 else if f.all (ndR h)=false then 2 else if (CV f (Ax f).1==0)=false then 3 else 0
def LR:AZ:={ ins:=[Du,DC],pre:=λ(_,f,_)=>DX f,out:=λ(h,f,_)=>[.p Fm (Hm h f)] }
theorem A2i:Ad Tryz.prog 33 LR:=by
 refine fK [0,1,2,3,4,5,6,7,8,9,16,22,35,40,52,56] Tryz.func33 Tryz.ntmps33 (AF lN (AF Q9 AH)) ?_;rintro w0 O0 ⟨⟨b,hf⟩,f,u⟩ d-hs;have hs:DX f:=hs;simp only[LR,AM];repeat'(first|exact trivial|apply eS rfl|refine rX d ?_ ?_|refine rC ?_ ?_<;>intro a<;>try(cases a;done))
 .exact hs.2
 .have h1:Hm (b,hf) f=(Ax f).2:=by unfold Hm;rw[Bq a]
  exact fI d [.tmp 4] (by rw[h1];exact eR)
 have t:(Ax f).2=0:=by simpa using a
 have q:=Mr hs.2;have w:=hs.1;have g:Hm (b,hf) f=if f.all (ndR (b,hf))=false then 2 else if (CV f (Ax f).1==0)=false then 3 else 0:=by unfold Hm;rw[As (by rw[t];simp)]
 refine AK (ι:={i:Nat//i<=f.length/\(f.take i).all (ndR (b,hf))=true}) (λi=>⟨[(2,.bp 2 [] 0),(3,.bp 3 [] 0),(5,.bp 5 [] 0),(7,.p (.int .i64) (i.1:Int))],[(2,.box 31 true [.p ZB b,.p dQ hf]),(3,.box 25 true [.p Fq f]),(5,.box 25 true [.p Fq (Ax f).1])]⟩) (λi=>f.length-i.1) ⟨0,by simp⟩ (eW [(2,.nm 2),(3,.nm 3),(5,.nm 5)]) (λi=>?_)
 obtain⟨i,hi,l⟩:=i;have r:=λh:i<f.length=>KH f (0,[]) (ndR (b,hf)) h;simp only;repeat'(first|exact trivial|apply eS rfl|refine rX d ?_ ?_|refine rC ?_ ?_<;>intro a<;>try(cases a;done))
 .exact a
 .have c:i<f.length:=Do.1 (by assumption);have e:f.all (ndR (b,hf))=false:=by
   rw[AF2];refine⟨_,AE f (0,[]) c,?_⟩;unfold ndR;rw[AFb (AAm.2 a)];simp
  rw[Bq e]at g;exact fI d [.tmp 4] (by rw[g];exact eR)
 .have c:i<f.length:=Do.1 (by assumption);have n:=AE f (0,[]) c;have o:ndR (b,hf) (f.getD i (0,[]))=(f.getD i (0,[])).2.all (ftR (b,hf)):=by
   unfold ndR;rw[ABT (show (f.getD i (0,[])).1<(b.length:Int) from a)];rfl
  have v:(f.getD i (0,[])).2.length<=100000:=hs.2 _ n;refine AK (ι:={k:Nat//k<=(f.getD i (0,[])).2.length/\((f.getD i (0,[])).2.take k).all (ftR (b,hf))=true}) (λk=>⟨[(2,.bp 2 [] 0),(3,.bp 3 [] 0),(5,.bp 5 [] 0),(7,.p (.int .i64) (i:Int)),(8,.bp 8 [] 0),(9,.p (.int .i64) (k.1:Int))],[(2,.box 31 true [.p ZB b,.p dQ hf]),(3,.box 25 true [.p Fq f]),(5,.box 25 true [.p Fq (Ax f).1]),(8,.box 93 true [.p T3 (f.getD i (0,[])).1,.p DF (f.getD i (0,[])).2])]⟩) (λk=>(f.getD i (0,[])).2.length-k.1) ⟨0,by simp⟩ (eW [(2,.nm 2),(3,.nm 3),(5,.nm 5),(8,.nm 8)]) (λk=>?_)
  obtain⟨k,hk,m⟩:=k;have s:=λh:k<(f.getD i (0,[])).2.length=>KH (f.getD i (0,[])).2 (0,0) (ftR (b,hf)) h;simp only;repeat'(first|exact trivial|apply eS rfl|apply AB|refine rX d ?_ ?_|refine rC ?_ ?_<;>intro a<;>try(cases a;done))
  .exact a
  .have j:k<(f.getD i (0,[])).2.length:=Do.1 (by assumption);have e:f.all (ndR (b,hf))=false:=by
    rw[AF2];refine⟨_,n,?_⟩;rw[o,AF2.2 ⟨_,AE (f.getD i (0,[])).2 (0,0) j,by unfold ftR;rw[AFb (AAm.2 a)];simp⟩];simp
   rw[Bq e]at g;exact fI d [.tmp 4] (by rw[g];exact eR)
  .exact eV
  .have j:k<(f.getD i (0,[])).2.length:=Do.1 (by assumption);refine⟨⟨k+1,j,?_⟩,by simp only;omega,AD [(2,.nm 2),(3,.nm 3),(5,.nm 5),(8,.nm 8)] rfl rfl ?_ ?_⟩
   .rw[s j,m];unfold ftR;exact ABT a
   .exact eN
   exact eN
  .exact eV
  have j:(f.getD i (0,[])).2.take k=(f.getD i (0,[])).2:=At (US.1 a);rw[j]at m;refine⟨⟨i+1,c,?_⟩,by simp only;omega,AD [(2,.nm 2),(3,.nm 3),(5,.nm 5)] rfl rfl ?_ ?_⟩
  .rw[r c,l,o,m];rfl
  .exact eN
  exact eN
 .exact⟨hs,q⟩
 .have c:f.take i=f:=At (US.1 (by assumption));rw[c]at l;rw[As (by rw[l];simp),Bq (by simpa using a)]at g;exact fI d [.tmp 4] (by rw[g];exact eR)
 have c:f.take i=f:=At (US.1 (by assumption));rw[c]at l;rw[As (by rw[l];simp),As (by rw[a];simp)]at g;exact fI d [.tmp 4] (by rw[g];exact eR)
def Jq (h:AG) (f:List AC):Bool:=HT f&&Hm h f==0
end
section
attribute [local go_sem] KK Mi SM LR
def VD (d:List AL):AG:=if d.length<=12/\(BD d).2=0 then (BD d).1 else (BD KJ).1
def fE:AZ:={ ins:=[T3],pre:=λ_=>True,out:=λ(t,_)=>[.p DC [(t,[])]] }
theorem A59:Ad Tryz.prog 142 fE:=by
 refine fK [0,2] Tryz.func142 Tryz.ntmps142 AH ?_;rintro w0 O0 ⟨t,u⟩ a - -;simp only[fE,AM];repeat'(first|exact trivial|apply eS rfl|apply AB|refine rX a ?_ ?_|refine rC ?_ ?_<;>intro b<;>try(cases b;done))
 exact fI a [.cell 2 25]
end
section
attribute [local go_sem] Q1
def XI:AZ:={ ins:=[BN],pre:=λ(b,_)=>List.length b<=100000,out:=λ(b,_)=>[.p BN (BP b)] }
attribute [local go_sem] XI
theorem rE:Ad Tryz.prog 212 XI:=by
 refine fK [0,2,3,15] Tryz.func212 Tryz.ntmps212 AH ?_;rintro w0 O0 ⟨b,u⟩ d-f;have f:b.length<=100000:=f;simp only[XI,AM];repeat'(first|exact trivial|apply eS rfl|refine rX d ?_ ?_)
 refine AK (ι:={n:Nat//n<=b.length/\Cu b n=Cu b b.length}) (λn=>⟨[(0,.p BN b),(3,.p (.int .i64) (n.1:Int))],[]⟩) (λn=>n.1) ⟨b.length,NO _,rfl⟩ (eW []) (λn=>?_)
 obtain⟨n,hn,g⟩:=n;simp only;repeat'(first|apply eS rfl|apply AB|refine rX d ?_ ?_|refine rC ?_ ?_<;>intro c<;>try(cases c;done))
 .constructor
  .exact eV
  intro h;refine⟨?_,?_⟩<;>exact eV
 .exact eV
 .obtain⟨h1,a⟩:=c;obtain⟨m,rfl⟩:∃m,n=m+1:=⟨n-1,by omega⟩;have e:(((m+1:Nat):Int)-1)=(m:Int):=by omega
  rw[e]at a;have a:b.getD m 0=0:=a;have j:Cu b m=Cu b b.length:=by
   rw[<-g];show _=if b.getD m 0=0 then Cu b m else m+1
   rw[Bq a]
  refine⟨⟨m,by omega,j⟩,by simp,AD [] rfl rfl ?_ ?_⟩
  .exact eN
  simp only[e];exact eN
 .exact US.2 hn
 have i:Cu b n=n:=by
  cases n with
  | zero=>rfl
  | succ m =>
   have e:(((m+1:Nat):Int)-1)=(m:Int):=by omega
   rw[e]at c;have a:=c (by omega);have a:¬b.getD m 0=0:=a;show (if b.getD m 0=0 then Cu b m else m+1)=m+1;rw[As a]
 have h1:BP b=b.take n:=by unfold BP;rw[<-g,i]
 rw[<-h1];exact fI d [.tmp 2]
def HI (g:Nat->Int) (n i:Nat):List Int:=(List.range n).map λj=>if j<i then g j else 0
theorem aX (g:Nat->Int) (n i:Nat):(HI g n i).length=n:=by simp[HI]
theorem rF (g:Nat->Int) (n:Nat):HI g n 0=List.replicate n 0:=by
 apply Yd
 .simp[HI]
 intro j h1 a;simp[HI]
theorem A2j (g:Nat->Int) (n i:Nat):(HI g n i).set i (g i)=HI g n (i+1):=by
 apply Yd
 .simp[HI]
 intro j h1 b;simp only[HI,AGo,AAn,AAj];split
 .rename_i e;rw[Bq (by omega),e]
 rename_i e;by_cases a:j<i
 .rw[Bq a,Bq (by omega)]
 rw[As a,As (by omega)]
def fF (a b:List Int) (i:Nat):Int:=B7 .and .u64 (a.getD i 0) (b.getD i 0)
def GE (a b:List Int):List Int:=BP (HI (fF a b) (min a.length b.length) (min a.length b.length))
def A5a:AZ:={ ins:=[BN,BN],pre:=λ(a,_,_)=>List.length a<=100000,out:=λ(a,b,_)=>[.p BN (GE a b)] }
attribute [local go_sem] A5a
theorem A9a:Ad Tryz.prog 176 A5a:=by
 refine fK [0,1,4,5,6,14,15,16] Tryz.func176 Tryz.ntmps176 (AF rE AH) ?_;rintro w0 O0 ⟨a,b,u⟩ d-ha;have ha:a.length<=100000:=ha;simp only[A5a,AM];repeat'(first|exact trivial|apply eS rfl|refine rX d ?_ ?_)
 .split<;>simp only[AQ]<;>dsimp only[Ty.den]at *<;>omega
 have h:Int.toNat (if ((List.length b:Nat):Int)<((List.length a:Nat):Int) then ((List.length b:Nat):Int) else ((List.length a:Nat):Int))=min (List.length a) (List.length b):=by split<;>omega
 rw[h];have j:GE a b=BP (HI (fF a b) (min a.length b.length) (min a.length b.length)):=rfl;have k:min a.length b.length<=a.length:=Nat.min_le_left _ _;have l:min a.length b.length<=b.length:=Nat.min_le_right _ _;generalize min a.length b.length=n at *;refine AK (ι:={i:Nat//i<=n}) (λi=>⟨[(0,.p BN a),(1,.p BN b),(5,.sr 12 Qp 0 n),(14,.p (.int .i64) (n:Int)),(15,.p (.int .i64) (i.1:Int))],[(12,.arr 186 Qp (HI (fF a b) n i.1))]⟩) (λi=>n-i.1) ⟨0,Is _⟩ (AD [(12,.nm 12)] rfl rfl ?_ ?_) (λi=>?_)
 .refine eM ?_;rw[rF]
 .exact eN
 obtain⟨i,hi⟩:=i;have f:=aX (fF a b) n i;simp only;repeat'(first|exact trivial|apply eS rfl|apply AB|refine rX d ?_ ?_|refine rC ?_ ?_<;>intro c<;>try(cases c;done))
 .have e:i<n:=Do.1 c;exact⟨by exact eV,by exact eV,c⟩
 .exact eV
 .have e:i<n:=Do.1 c;refine⟨⟨i+1,e⟩,by simp only;omega,AD [(12,.nm 12)] rfl rfl ?_ ?_⟩
  .simp only[<-A2j];refine eM ?_;rfl
  exact eN
 have e:i=n:=by omega
 subst e;have g:(HI (fF a b) i i).take i=HI (fF a b) i i:=At (by rw[f];exact NO _);refine Fl [12] ?_;repeat'(first|apply eS rfl|refine rX d ?_ ?_)
 .rw[g,f];dsimp only[Ty.den]at *;omega
 rw[g];exact fI d [.tmp 4] (by rw[j];exact eR)
def D5 (a b:List Int):Bool:=Mj a b&&Mj b a
def fG:AZ:={ ins:=[BN,BN],pre:=λ_=>True,out:=λ(a,b,_)=>[.p .bool (D5 a b)],lend:=true }
attribute [local go_sem] fG
theorem A2k:Ad Tryz.prog 179 fG:=by
 refine fK [0,1,4] Tryz.func179 Tryz.ntmps179 (AF Ws AH) ?_;rintro w0 O0 ⟨a,b,u⟩ c - -;simp only[fG,AM];repeat'(first|exact trivial|apply eS rfl|refine rX c ?_ ?_)
 exact fI c [.tmp 4] (by unfold D5;exact eR)
def E4 (c:List Int):Nat->List Hd->Int
 | _,[]=>-1
 | k,t :: l=>if D5 t.2.1 c=true then (k:Int) else E4 c (k+1) l
theorem rG (c:List Int) (l:List Hd) {k:Nat} (h:k<l.length):E4 c k (l.drop k)=if D5 (l.getD k Y0).2.1 c=true then (k:Int) else E4 c (k+1) (l.drop (k+1)):=by
 rw[On h];have e:l.getD k Y0=l[k]:=by simp[AS,h]
 rw[e];rfl
theorem A5b (c:List Int) (t:Hd):BA Tryz.prog 178 [.p pL t,.bp 1 [] 0] [(1,.box 140 false [.p BN c])] [1] (λres b=>res=.p .bool (D5 t.2.1 c)/\b=[(1,.box 140 false [.p BN c])]):=by
 refine Ki [0,1,2,3] [] [] Tryz.func178 Tryz.ntmps178 (AF A2k AH) ?_;intro w0 K O0 ρ0 a d e;simp only[Aj];repeat'(first|exact trivial|apply eS rfl|refine rX a ?_ ?_)
 refine Ev.ent (σ':=⟨[(3,.p .bool (D5 t.2.1 c))],[(1,.box 140 false [.p BN c])]⟩) ?_ (AD [(1,.nm 1)] rfl rfl ?_ ?_)
 .exact fM a [.tmp 3] (.p .bool (D5 t.2.1 c)) eT ⟨rfl,rfl⟩
 .exact eN
 exact eN
theorem A2l (l:List Hd) (c:List Int) (hl:l.length<=100000):BA Tryz.prog 177 [.p ZB l,.clo 178 [1]] [(1,.box 140 false [.p BN c])] [1] (λres g=>res=.p T3 (E4 c 0 l)/\g=[(1,.box 140 false [.p BN c])]):=by
 refine Ki [0,1,4,5,7,8,9,16] [] [] Tryz.func177 Tryz.ntmps177 AH ?_;intro w0 K O0 ρ0 b i j;simp only[Aj];repeat'(first|exact trivial|apply eS rfl|refine rX b ?_ ?_)
 refine AK (ι:={k:Nat//k<=l.length/\E4 c k (l.drop k)=E4 c 0 l}) (λk=>⟨[(0,.p ZB l),(1,.clo 178 [1]),(7,.p (.int .i64) (l.length:Int)),(8,.p (.int .i64) (k.1:Int))],[(1,.box 140 false [.p BN c])]⟩) (λk=>l.length-k.1) ⟨0,Is _,rfl⟩ (eW [(1,.nm 1)]) (λk=>?_)
 obtain⟨k,hk,hf⟩:=k;have f:=λh:k<l.length=>rG c l h;simp only;repeat'(first|exact trivial|apply eS rfl|refine rX b ?_ ?_|refine rC ?_ ?_<;>intro a<;>try(cases a;done))
 .have d:k<l.length:=Do.1 a;have e:=f d;refine cP 5 b ?_ ?_
  .exact a
  refine rM b (A5b c (l.getD k Y0)) [(1,.nm 1)] [] ?_ ?_ ?_
  .exact eN
  .exact eN
  rintro _ _ ⟨rfl,rfl⟩;refine⟨[(1,.nm 1)],.p .bool (D5 (l.getD k Y0).2.1 c),[(1,.box 140 false [.p BN c])],rfl,rfl,?_,?_,rfl,rfl,Bk ?_⟩
  .exact eN
  .exact eN
  repeat'(first|exact trivial|apply eS rfl|apply AB|refine rX b ?_ ?_|refine rC ?_ ?_<;>intro a<;>try(cases a;done))
  .have a:D5 (l.getD k Y0).2.1 c=true:=a;rw[Bq a,hf]at e;refine Ev.ent (σ':=⟨[(4,.p (.int .i64) (k:Int))],[(1,.box 140 false [.p BN c])]⟩) ?_ (AD [(1,.nm 1)] rfl rfl ?_ ?_)
   .exact fM b [.tmp 4] (.p T3 (k:Int)) eT ⟨by rw[e],rfl⟩
   .exact eN
   exact eN
  .omega
  have a:D5 (l.getD k Y0).2.1 c=false:=a;rw[As (by rw[a];simp)]at e;exact⟨⟨k+1,d,e.symm.trans hf⟩,by simp only;omega,eW [(1,.nm 1)]⟩
 have d:l.drop k=[]:=TO (US.1 a);rw[d]at hf;have hf:(-1:Int)=E4 c 0 l:=hf;refine Ev.ent (σ':=⟨[(4,.p (.int .i64) (-1))],[(1,.box 140 false [.p BN c])]⟩) ?_ (AD [(1,.nm 1)] rfl rfl ?_ ?_)
 .exact fM b [.tmp 4] (.p T3 (-1)) eT ⟨by rw[hf],rfl⟩
 .exact eN
 exact eN
def Bn (h:AG) (t:Int):List Int:=(h.1.getD t.toNat Y0).2.1
def Bx (h:AG) (a b:Int):Int×Bool :=
 if (GE (Bn h a) (Bn h b)).length=0 then (0,false) else if E4 (GE (Bn h a) (Bn h b)) 0 h.1<0 then (0,false) else (E4 (GE (Bn h a) (Bn h b)) 0 h.1,true)
def A0j:AZ:={ ins:=[Du,T3,T3],pre:=λ(h,a,b,_)=>((0:Int)<=a/\a<(List.length (h:AG).1:Int))/\((0:Int)<=b/\b<(List.length (h:AG).1:Int))/\List.length (h:AG).1<=100000/\(∀x∈(h:AG).1,x.2.1.length<=100000),out:=λ(h,a,b,_)=>[.p T3 (Bx h a b).1,.p .bool (Bx h a b).2],lend:=true }
theorem A9b:Ad Tryz.prog 135 A0j:=by
 refine fK [0,1,2,3,6,7,8,9,25,31] Tryz.func135 Tryz.ntmps135 (AF A9a AH) ?_;rintro w0 O0 ⟨⟨d,hf⟩,a,b,u⟩ e-⟨ha,i,hl,hx⟩;simp only[A0j,AM];refine Ev.ent (σ':=⟨[(0,.p Du (d,hf)),(1,.p T3 a),(2,.p T3 b)],[]⟩) ?_ (AD [] rfl rfl ?_ ?_)
 .repeat'(first|exact trivial|apply eS rfl|refine rX e ?_ ?_|refine rC ?_ ?_<;>intro f<;>try(cases f;done))
  .refine⟨ha,i,?_⟩;have h1:Int.toNat a<List.length d:=(Int.toNat_lt ha.1).2 ha.2;exact hx _ (AE (d:List Hd) Y0 h1)
  .have k:Bx (d,hf) a b=(0,false):=by
    unfold Bx;rw[Bq (by unfold Bn;exact AGk f)]
   exact fI e [.tmp 6,.tmp 7] (by rw[k];exact eR)
  have j:∀c,c=GE (List.getD d (Int.toNat a) (ByteArray.empty,[],[],[])).2.1 (List.getD d (Int.toNat b) (ByteArray.empty,[],[],[])).2.1->c=GE (Bn (d,hf) a) (Bn (d,hf) b):=λc h=>h;have g:Bx (d,hf) a b=if E4 (GE (Bn (d,hf) a) (Bn (d,hf) b)) 0 d<0 then (0,false) else (E4 (GE (Bn (d,hf) a) (Bn (d,hf) b)) 0 d,true):=by
   unfold Bx;rw[As (λh=>f (by unfold Bn at h;exact Yp Int.ofNat h))]
  generalize l:GE (List.getD d (Int.toNat a) (ByteArray.empty,[],[],[])).2.1 (List.getD d (Int.toNat b) (ByteArray.empty,[],[],[])).2.1=c at *;rw[<-j c rfl]at g;refine cP 3 e ?_ ?_
  .trivial
  refine rM e (A2l d c hl) [(1,.nm 8)] [] ?_ ?_ ?_
  .exact eN
  .exact eN
  rintro _ _ ⟨rfl,rfl⟩;refine⟨[(8,.nm 1)],.p T3 (E4 c 0 d),[(8,.box 140 false [.p BN c])],rfl,rfl,?_,?_,rfl,rfl,?_⟩
  .exact eN
  .exact eN
  generalize E4 c 0 d=m at *;refine rL e ?_ ?_
  .trivial
  repeat'(first|exact trivial|apply eS rfl|refine rX e ?_ ?_|refine rC ?_ ?_<;>intro f<;>try(cases f;done))
  .rw[Bq f]at g;exact fI e [.tmp 6,.tmp 7] (by rw[g];exact eR)
  rw[As (AAm.2 f)]at g;exact fI e [.tmp 6,.tmp 7] (by rw[g];exact eR)
 .exact eN
 exact eN
end
theorem XJ (l:List (List Int)) (i k:Nat):l <+: HQ l i k:=by
 unfold HQ;split
 .exact AG3 _ _
 exact iF _
theorem XK (i:Nat):∀(n k:Nat) (l:List (List Int)),l <+: HR i n k l
 | 0,_,l=>iF l
 | n+1,k,l=>by
  unfold HR;split
  .exact(XJ l i k).trans (XK i n (k+1) _)
  exact iF l
theorem XL:∀(n i:Nat) (l:List (List Int)),l <+: Jl n i l
 | 0,_,l=>iF l
 | n+1,i,l=>by
  unfold Jl;split
  .exact(XK i i 0 l).trans (XL n (i+1) _)
  exact iF l
theorem RB {l m:List (List Int)} (h:l <+: m) {k:Nat} (hk:k<l.length):m.getD k []=l.getD k []:=by
 obtain⟨t,rfl⟩:=h;simp only[AS];rw[Ug hk]
def Lr (l:List (List Int)) (q p:Nat):Prop:=Gh (l.getD q []) (l.getD p [])=[]\/Gh (l.getD q []) (l.getD p [])∈l
theorem Lr.pre {l m:List (List Int)} (h:l <+: m) {q p:Nat} (b:q<l.length) (hp:p<l.length) (a:Lr l q p):Lr m q p:=by
 unfold Lr at a ⊢;rw[RB h b,RB h hp];rcases a with a|a
 .exact .inl a
 exact .inr (h.subset a)
theorem A9c {l:List (List Int)} {b:List Int} (h:pX l b=true):b∈l:=by
 obtain⟨x,hx,e⟩:=Ua.1 h;have:x=b:=by simpa[KG] using e
 rw[<-this];exact hx
theorem rH {l:List (List Int)} {i k:Nat} (hi:i<l.length) (hk:k<l.length):Lr (HQ l i k) i k:=by
 have hp:=XJ l i k;unfold Lr;rw[RB hp hi,RB hp hk];unfold HQ;split
 .right;simp
 rename_i a;rw[An,DO,UL]at a;by_cases h0:0<((Gh (l.getD i []) (l.getD k [])).length:Int)
 .right;cases hh:pX l (Gh (l.getD i []) (l.getD k [])) with
  | true=>exact A9c hh
  | false=>exact absurd ⟨h0,hh⟩ a
 left;exact UW (by omega)
theorem XM {i:Nat}:∀ {n k:Nat} {l:List (List Int)},n+k=i->i<l.length->(HR i n k l).length<=256->(∀p,p<k->Lr l i p)->∀p,p<i->Lr (HR i n k l) i p
 | 0,k,l,hn,hi,hl,h=>λp hp=>h p (by omega)
 | n+1,k,l,hn,hi,hl,h=>by
  unfold HR at hl ⊢;split at hl
  .rename_i a;rw[Bq a];have hp:=XJ l i k;refine XM (by omega) (ZW hi hp.length_le) hl λp b=>?_;by_cases e:p=k
   .subst e;exact rH hi (by omega)
   exact(h p (by omega)).pre hp hi (by omega)
  rename_i a;exact absurd (by omega:l.length<=256) a
theorem XN:∀ {n i:Nat} {l:List (List Int)},257<=n+i->(Jl n i l).length<=256->i<=l.length->(∀q p,p<q->q<i->Lr l q p)->∀q p,p<q->q<(Jl n i l).length->Lr (Jl n i l) q p
 | 0,i,l,hn,hl,d,h=>λq p b c=>by
  have g:l.length<=256:=hl;omega
 | n+1,i,l,hn,hl,d,h=>by
  unfold Jl at hl ⊢;split at hl
  .rename_i a;rw[Bq a];have hp:=XK i i 0 l;have j:=hp.length_le;have f:=(XL n (i+1) (HR i i 0 l)).length_le;refine XN (by omega) hl (by omega) λq p b c=>?_;by_cases e:q=i
   .subst e;exact XM (by omega) a.1 (by omega) (λp hp=>by omega) p b
   exact(h q p b (by omega)).pre hp (by omega) (by omega)
  rename_i a;rw[As a];intro q p b c;exact h q p b (by
   refine If λhh=>a ⟨by omega,hl⟩)
theorem fH {c:List (List Int)} (hl:(BC c).length<=256):∀q p,p<q->q<(BC c).length->Lr (BC c) q p :=
 XN (by omega) hl (Is _) (λq p _ h=>by omega)
theorem A5c (a b:List Int) (k:Nat):(Gh a b).getD k 0=if k<a.length then B7 .and .u64 (a.getD k 0) (b.getD k 0) else 0:=by
 unfold Gh;rw[Qw];split
 .rename_i h;exact Nc .and a b h
 rename_i h;rw[AS,UV (by rw[Ej];omega)];rfl
theorem HJ {b:List Int} {k:Nat} (h:¬k<b.length):b.getD k 0=0:=by
 rw[AS,UV (by omega)];rfl
theorem A0k {a b:List Int} (ha:JQ a) (c:JQ b) (i:Nat):BW (Gh a b) i=(BW a i&&BW b i):=by
 unfold BW;rw[A5c];split
 .rw[IY (BG ha _) (BG c _),UQ,Nat.testBit_and]
 rename_i h;rw[HJ h];simp
theorem A0l {a b:List Int} (ha:JQ a) (c:JQ b):JQ (Gh a b):=by
 refine Pa λx hx=>?_;unfold Gg at hx;obtain⟨i,-,rfl⟩:=IF.1 hx;rw[Hz,IY (BG ha _) (BG c _)];have h1:=BG ha i;have d:(a.getD i 0).toNat &&& (b.getD i 0).toNat<=(a.getD i 0).toNat:=AFV;have e:=h1.1;have f:=h1.2;exact⟨ZX _,by omega⟩
theorem SS (b:List Int):∀n,Cu b n=0\/b.getD (Cu b n-1) 0≠0
 | 0=>.inl rfl
 | n+1=>by
  unfold Cu;split
  .exact SS b n
  rename_i h;right;simpa using h
theorem A9d {n:Nat} (h0:n≠0) (h1:n<18446744073709551616):∃r,r<64/\n.testBit r=true:=by
 refine If λb=>h0 ?_;refine Nat.eq_of_testBit_eq λr=>?_;rw[Nat.zero_testBit];by_cases c:r<64
 .cases a:n.testBit r with
  | false=>rfl
  | true=>exact absurd ⟨r,c,a⟩ b
 have e:(18446744073709551616:Nat)=2 ^ 64:=by decide
 rw[e]at h1;exact Nat.testBit_lt_two_pow (ZW h1 (Nat.pow_le_pow_right (by decide) (by omega)))
theorem A5d {b:List Int} (a:JQ b) {k:Nat} (h:b.getD k 0≠0):∃i,BW b i=true:=by
 have hu:=BG a k;have h1:=hu.1;have d:=hu.2;obtain⟨r,e,c⟩:=A9d (n:=(b.getD k 0).toNat) (by omega) (by omega);refine⟨64*k+r,?_⟩;unfold BW;rw[show (64*k+r) / 64=k by omega,show (64*k+r) % 64=r by omega];exact c
theorem rI {b:List Int} (a:JQ b) (h:BP b≠[]):∃i,BW b i=true:=by
 rcases SS b b.length with h1|h1
 .exact absurd (by unfold BP;rw[h1];rfl) h
 exact A5d a h1
theorem aY {a b:List Int} (ha:JQ a) (c:JQ b) (h:∀i,BW a i=true->BW b i=true) (k:Nat):B7 .andNot .u64 (a.getD k 0) (b.getD k 0)=0:=by
 rw[SC];have:(BitVec.ofInt 64 (a.getD k 0) &&& ~~~BitVec.ofInt 64 (b.getD k 0))=0#64:=by
  apply BitVec.eq_of_getLsbD_eq;intro r d;rw[BitVec.getLsbD_and,BitVec.getLsbD_not,<-ACh,<-ACh,Fe (BG ha k),Fe (BG c k)];have hk:=h (64*k+r);unfold BW at hk;rw[show (64*k+r) / 64=k by omega,show (64*k+r) % 64=r by omega]at hk;cases hx:(a.getD k 0).toNat.testBit r with
  | false=>simp
  | true=>rw[hk hx];simp
 rw[this];rfl
theorem XO {a b:List Int} (ha:JQ a) (c:JQ b):Ex a b=true↔∀i,BW a i=true->BW b i=true:=by
 constructor
 .exact λh i hi=>Md ha c h hi
 intro h;unfold Ex R6 BP;have h1:Cu (Gg .andNot a b a.length) (Gg .andNot a b a.length).length=0:=by
  rw[Ej];exact SD λk hk=>by rw[Nc _ _ _ hk];exact aY ha c h k
 rw[h1];rfl
structure A0m (l:List (List Int)):Prop where
 wds:∀c∈l,JQ c
 some:∀c∈l,∃i,BW c i=true
 wid:∀c∈l,c.length<=64
 meet:∀a∈l,∀b∈l,(∃i,BW a i=true/\BW b i=true)->∃t∈l,∀i,BW t i=(BW a i&&BW b i)
structure Bs (l:List (List Int)):Prop where
 wds:∀c∈l,JQ c
 some:∀c∈l,∃i,BW c i=true
theorem aZ {l:List (List Int)} {k:Nat} (h:¬k<l.length):l.getD k []=[]:=by
 rw[AS,UV (by omega)];rfl
theorem Bs.get {l:List (List Int)} (h:Bs l) (k:Nat):JQ (l.getD k []):=by
 by_cases hk:k<l.length
 .exact h.wds _ (Dh hk)
 rw[aZ hk];intro x hx;cases hx
theorem A9e {l:List (List Int)} (h:Bs l) (i k:Nat):Bs (HQ l i k):=by
 unfold HQ;split
 .rename_i b;rw[An,DO]at b;refine⟨λc a=>?_,λc a=>?_⟩
  .rcases IN.1 a with a|a
   .exact h.wds c a
   have:c=Gh (l.getD i []) (l.getD k []):=by simpa using a
   rw[this];exact A0l (h.get i) (h.get k)
  rcases IN.1 a with a|a
  .exact h.some c a
  have:c=Gh (l.getD i []) (l.getD k []):=by simpa using a
  rw[this];have f:Gh (l.getD i []) (l.getD k [])≠[]:=by
   intro e;rw[e]at b;exact absurd b.1 (by simp)
  have g:JQ (Gg .and (l.getD i []) (l.getD k []) (l.getD i []).length):=by
   intro x hx;unfold Gg at hx;obtain⟨j,-,rfl⟩:=IF.1 hx;rw[Hz,IY (BG (h.get i) _) (BG (h.get k) _)];have h1:=BG (h.get i) j;have m:((l.getD i []).getD j 0).toNat &&& ((l.getD k []).getD j 0).toNat<=((l.getD i []).getD j 0).toNat:=AFV;have n:=h1.1;have o:=h1.2;exact⟨ZX _,by omega⟩
  obtain⟨j,d⟩:=rI g f;exact⟨j,by unfold Gh;rw[PZ];exact d⟩
 exact h
theorem A0n {i:Nat}:∀ {n k:Nat} {l:List (List Int)},Bs l->Bs (HR i n k l)
 | 0,_,_,h=>h
 | n+1,k,l,h=>by
  unfold HR;split
  .exact A0n (A9e h i k)
  exact h
theorem A0o:∀ {n i:Nat} {l:List (List Int)},Bs l->Bs (Jl n i l)
 | 0,_,_,h=>h
 | n+1,i,l,h=>by
  unfold Jl;split
  .exact A0o (A0n h)
  exact h
theorem A2m {d:List AL} (f:BT d=0):Bs (Ai d):=by
 obtain⟨-,k,-⟩:=BF f;have h:=FQ d d.length;rw[UO]at h;have b:(AX d).length<=4096:=by omega
 refine⟨λc a=>?_,λc a=>?_⟩
 .unfold Ai at a;obtain⟨s,-,rfl⟩:=IF.1 a;exact(Ek (d:=d) b s 0).2.1
 unfold Ai at a;obtain⟨s,hs,rfl⟩:=IF.1 a;obtain⟨j,g,e⟩:=Cw ByteArray.empty hs;have i:0<=BL d s:=by
  obtain⟨x,hx,e⟩:=Gj hs;rw[<-e];exact FU hx
 exact⟨j,(Ek (d:=d) b s j).1.2 ⟨g,by rw[e];exact Pe i⟩⟩
theorem rJ {d:List AL} (l:BT d=0) (hl:(BC (Ai d)).length<=256):A0m (BC (Ai d)):=by
 obtain⟨-,o,-⟩:=BF l;have g:Bs (BC (Ai d)):=A0o (A2m l);have n:=fH hl;refine⟨g.wds,g.some,Qz (Pg o),λa ha b r hi=>?_⟩;obtain⟨q,f,rfl⟩:=Cw [] ha;obtain⟨p,hp,rfl⟩:=Cw [] r;have key:∀q p,q<(BC (Ai d)).length->p<(BC (Ai d)).length->Lr (BC (Ai d)) q p->(∃i,BW ((BC (Ai d)).getD q []) i=true/\BW ((BC (Ai d)).getD p []) i=true) ->
   ∃t∈BC (Ai d),∀i,BW t i=(BW ((BC (Ai d)).getD q []) i&&BW ((BC (Ai d)).getD p []) i):=by
  intro q p f hp c hi;have m:=A0k (g.get q) (g.get p);rcases c with c|c
  .obtain⟨i,j,k⟩:=hi;have:=m i;rw[c,j,k]at this;unfold BW at this;simp at this
  exact⟨_,c,m⟩
 rcases AFJ p q with h|h|h
 .exact key q p f hp (n q p h f) hi
 .subst h;exact⟨_,Dh f,λi=>by rw[Bool.and_self]⟩
 obtain⟨t,s,e⟩:=key p q hp f (n p q h hp) (by obtain⟨i,j,k⟩:=hi;exact⟨i,k,j⟩);exact⟨t,s,λi=>by rw[e i,Bool.and_comm]⟩
def Hn (h:AG):Prop:=A0m (h.1.map λt=>t.2.1)/\h.1.length<=256
theorem Ms (d:List AL):Hn (BD d).1:=by
 unfold BD;split
 .exact⟨⟨λc h=>(by cases h),λc h=>(by cases h),λc h=>(by cases h),λc h=>(by cases h)⟩,by simp⟩
 rename_i g;have g:(Bm d).2=0:=If g;have m:Be d=0:=by
  unfold Bm at g;split at g
  .rename_i h;exact absurd g h
  rename_i h;exact If h
 obtain⟨o,-,-⟩:=DP m;obtain⟨l,k,-⟩:=CA o;have hf:=rJ l k;have f:∀c,c∈((Ic d).1.map λt=>t.2.1)↔c∈BC (Ai d):=by
  intro c;have e:((Ic d).1.map λt=>t.2.1)=(A8 d).map λx=>x.2:=by
   show ((F9 _ _ _).map λt=>t.2.1)=_;unfold F9;rw[YU];apply Yd
   .simp
   intro i h1 p;simp[AS,show i<(A8 d).length by simpa using h1]
  rw[e];constructor
  .intro h;obtain⟨x,hx,rfl⟩:=IF.1 h;obtain⟨b,j,rfl⟩:=El.1 hx;exact j
  intro h;exact IF.2 ⟨_,El.2 ⟨c,h,rfl⟩,rfl⟩
 refine⟨⟨λc h=>hf.wds c ((f c).1 h),λc h=>hf.some c ((f c).1 h),λc h=>hf.wid c ((f c).1 h),λa ha b j hi=>?_⟩,?_⟩
 .obtain⟨t,n,e⟩:=hf.meet a ((f a).1 ha) b ((f b).1 j) hi;exact⟨t,(f t).2 n,e⟩
 show (F9 _ _ _).length<=256;rw[Ni,Ib];exact k
theorem Cz {h:AG} {t:Int} (a:0<=t) (b:t<(h.1.length:Int)):Bn h t∈h.1.map λt=>t.2.1 :=
 IF.2 ⟨_,AE h.1 Y0 (k:=t.toNat) (by omega),rfl⟩
theorem XP {a b:List Int} (ha:JQ a) (c:JQ b):Mj a b=true↔∀i,BW a i=true->BW b i=true:=by
 constructor
 .intro h i hi;by_cases hk:i / 64<a.length
  .have h1:=OR.1 h (i / 64) (Ue.2 hk);rw[YV,Hz]at h1;exact TP (BG ha _) (BG c _) h1 (AGu _ (by decide)) hi
  exfalso;unfold BW at hi;rw[HJ hk]at hi;simp at hi
 intro h;unfold Mj;rw[OR];intro k _;rw[YV,Hz];exact aY ha c h k
theorem A5e {a b:List Int} (ha:JQ a) (c:JQ b) (i:Nat):BW (GE a b) i=(BW a i&&BW b i):=by
 unfold GE;rw[PZ];unfold BW;have:(HI (fF a b) (min a.length b.length) (min a.length b.length)).getD (i / 64) 0=B7 .and .u64 (a.getD (i / 64) 0) (b.getD (i / 64) 0):=by
  by_cases h:i / 64<min a.length b.length
  .unfold HI;rw[AS,Yc,oS h];show (if i / 64<min a.length b.length then fF a b (i / 64) else 0)=_;rw[Bq h];rfl
  rw[HJ (by rw[aX];exact h),IY (BG ha _) (BG c _)];by_cases h1:i / 64<a.length
  .rw[HJ (b:=b) (by omega)];simp
  rw[HJ (b:=a) h1];simp
 rw[this,IY (BG ha _) (BG c _),UQ,Nat.testBit_and]
theorem A5f {a b:List Int} (ha:JQ a) (c:JQ b):JQ (GE a b):=by
 refine Pa λx hx=>?_;unfold HI at hx;obtain⟨j,-,rfl⟩:=IF.1 hx;split
 .unfold fF;rw[IY (BG ha _) (BG c _)];have h1:=BG ha j;have d:(a.getD j 0).toNat &&& (b.getD j 0).toNat<=(a.getD j 0).toNat:=AFV;have e:=h1.1;have f:=h1.2;exact⟨ZX _,by omega⟩
 exact⟨by decide,by decide⟩
theorem XQ (c:List Int):∀(l:List Hd) (k:Nat),(E4 c k l=-1/\∀t∈l,D5 t.2.1 c=false)\/((k:Int)<=E4 c k l/\E4 c k l<(k:Int)+l.length/\D5 (l.getD ((E4 c k l).toNat-k) Y0).2.1 c=true)
 | [],k=>.inl ⟨rfl,λt a=>by cases a⟩
 | x :: l,k=>by
  simp only[E4];split
  .rename_i h;right;refine⟨by omega,by simp only[No];omega,?_⟩;rw[show ((k:Int).toNat-k)=0 by omega];exact h
  rename_i h;have h:D5 x.2.1 c=false:=by simpa using h
  rcases XQ c l (k+1) with ⟨h1,b⟩|⟨h1,b,d⟩
  .left;refine⟨h1,λt a=>?_⟩;rcases By.1 a with rfl|a
   .exact h
   exact b t a
  right;refine⟨by omega,by simp only[No];omega,?_⟩;rw[show ((E4 c (k+1) l).toNat-k)=((E4 c (k+1) l).toNat-(k+1))+1 by omega];exact d
def Tb2 (h:AG) (t:Int) (i:Nat):Bool:=BW (Bn h t) i
theorem Ci {h:AG} (hk:Hn h) {a b:Int} (c:0<=a) (d:a<(h.1.length:Int)) (e:0<=b) (b1:b<(h.1.length:Int)):A1 h a b=true↔∀i,Tb2 h b i=true->Tb2 h a i=true :=
 XP (hk.1.wds _ (Cz e b1)) (hk.1.wds _ (Cz c d))
theorem A5g {h:AG} (hk:Hn h) {a b:Int} (g:0<=a) (j:a<(h.1.length:Int)) (l:0<=b) (b1:b<(h.1.length:Int)) :
  ((Bx h a b).2=true->0<=(Bx h a b).1/\(Bx h a b).1<(h.1.length:Int)/\∀i,Tb2 h (Bx h a b).1 i=(Tb2 h a i&&Tb2 h b i))/\((∃i,Tb2 h a i=true/\Tb2 h b i=true)->(Bx h a b).2=true):=by
 have r:=hk.1.wds _ (Cz g j);have s:=hk.1.wds _ (Cz l b1);have c:=A5e r s;have o:=A5f r s;have heq:∀t∈h.1,D5 t.2.1 (GE (Bn h a) (Bn h b))=true↔∀i,BW t.2.1 i=BW (GE (Bn h a) (Bn h b)) i:=by
  intro t d;have wt:=hk.1.wds t.2.1 (IF.2 ⟨t,d,rfl⟩);unfold D5;rw[An,XP wt o,XP o wt];constructor
  .rintro⟨e1,e2⟩ i;rw[AFj];exact⟨e1 i,e2 i⟩
  intro e;exact⟨λi hi=>by rw[<-e i];exact hi,λi hi=>by rw[e i];exact hi⟩
 unfold Bx;by_cases f:(GE (Bn h a) (Bn h b)).length=0
 .rw[Bq f];refine⟨λe=>(by cases e),?_⟩;rintro⟨i,p,q⟩;exfalso;have:=c i;rw[UW f]at this;unfold Tb2 at p q;rw[p,q]at this;unfold BW at this;simp at this
 rw[As f];rcases XQ (GE (Bn h a) (Bn h b)) h.1 0 with ⟨h1,m⟩|⟨h1,m,n⟩
 .rw[Bq (by omega)];refine⟨λe=>(by cases e),λhi=>?_⟩;exfalso;obtain⟨t,d,e⟩:=hk.1.meet _ (Cz g j) _ (Cz l b1) hi;obtain⟨x,hx,rfl⟩:=IF.1 d;have:=(heq x hx).2 (λi=>by rw[c i];exact e i);rw[m x hx]at this;cases this
 have h1:0<=E4 (GE (Bn h a) (Bn h b)) 0 h.1:=by omega
 rw[As (by omega)];refine⟨λ_=>⟨h1,by simp only;omega,λi=>?_⟩,λ_=>rfl⟩;rw[Nat.sub_zero]at n;have u:=AE h.1 Y0 (k:=(E4 (GE (Bn h a) (Bn h b)) 0 h.1).toNat) (by omega);have:=(heq _ u).1 n i;rw[c i]at this;exact this
theorem Mt {h:AG} (hk:Hn h) {a b:Int} (l:0<=a) (m:a<(h.1.length:Int)) (n:0<=b) (b1:b<(h.1.length:Int)) :
  ((Bx h a b).2=true->0<=(Bx h a b).1/\(Bx h a b).1<(h.1.length:Int)/\A1 h a (Bx h a b).1=true/\A1 h b (Bx h a b).1=true) /\
  ∀x,0<=x->x<(h.1.length:Int)->A1 h a x=true->A1 h b x=true->(Bx h a b).2=true/\A1 h (Bx h a b).1 x=true:=by
 obtain⟨r,u⟩:=A5g hk l m n b1;refine⟨λe=>?_,λx g k s t=>?_⟩
 .obtain⟨c,d,f⟩:=r e;refine⟨c,d,(Ci hk l m c d).2 λi hi=>?_,(Ci hk n b1 c d).2 λi hi=>?_⟩
  .rw[f i,An]at hi;exact hi.1
  rw[f i,An]at hi;exact hi.2
 have o:=(Ci hk l m g k).1 s;have p:=(Ci hk n b1 g k).1 t;obtain⟨i,hi⟩:=hk.1.some _ (Cz g k);have e:=u ⟨i,o i hi,p i hi⟩;obtain⟨c,d,f⟩:=r e;refine⟨e,(Ci hk c d g k).2 λj q=>?_⟩;rw[f j,An];exact⟨o j q,p j q⟩
def Nrm (c:List Int):Prop:=c.length=0\/c.getD (c.length-1) 0≠0
theorem XR (b:List Int):Nrm (BP b):=by
 unfold Nrm BP;have hl:=WR b b.length;rw[OS,AAS hl];rcases SS b b.length with h|h
 .exact .inl h
 by_cases h0:Cu b b.length=0
 .exact .inl h0
 right;rw[AS,List.getElem?_take_of_lt (by omega),<-AS];exact h
theorem A9f {a b:List Int} (ha:JQ a) (f:JQ b) (h:∀i,BW a i=BW b i) (k:Nat):a.getD k 0=b.getD k 0:=by
 have c:=BG ha k;have d:=BG f k;have j:=c.1;have l:=c.2;have m:=d.1;have o:=d.2;have e:(a.getD k 0).toNat=(b.getD k 0).toNat:=by
  refine Nat.eq_of_testBit_eq λr=>?_;by_cases g:r<64
  .have:=h (64*k+r);unfold BW at this;rw[show (64*k+r) / 64=k by omega,show (64*k+r) % 64=r by omega]at this;exact this
  have big:∀n:Nat,n<18446744073709551616->n.testBit r=false:=λn hn=>by
   have e:(18446744073709551616:Nat)=2 ^ 64:=by decide
   rw[e]at hn;exact Nat.testBit_lt_two_pow (ZW hn (Nat.pow_le_pow_right (by decide) (by omega)))
  rw[big _ (by omega),big _ (by omega)]
 omega
theorem A0p {a b:List Int} (d:∀k,a.getD k 0=b.getD k 0) (c:Nrm b):b.length<=a.length:=by
 rcases c with h|h
 .omega
 refine If λe=>h ?_;rw[<-d];exact HJ (by omega)
theorem ABg {a b:List Int} (ha:JQ a) (e:JQ b) (f:Nrm a) (g:Nrm b) (h:∀i,BW a i=BW b i):a=b:=by
 have c:=A9f ha e h;have hl:a.length=b.length:=AAg (A0p (λk=>(c k).symm) f) (A0p c g);refine Yd hl λi h1 d=>?_;have:=c i;simpa[AS,h1,d] using this
theorem lO {α:Type} (l:List α) (x:α) (n:Nat):List.Perm (l.take n++[x]++l.drop n) (x :: l):=by
 have h:l.take n++[x]++l.drop n=l.take n++x :: l.drop n:=by simp
 rw[h];refine AGn.trans ?_;rw[AAT]
def Apt (l:List ByteArray):Prop:=l.Pairwise λa b=>Ac a b=false
theorem Tf {a b:ByteArray} (h:Ac a b=false):Ac b a=false:=by
 cases hh:Ac b a with
 | false=>rfl
 | true=>rw[FT hh]at h;cases h
theorem A5h {l:List ByteArray} {s:ByteArray} (h:Apt l) (hs:∀x∈l,Ac x s=false):Apt (Dv l s):=by
 unfold Dv;split
 .exact h
 refine(List.Perm.pairwise_iff (λa=>Tf a) (lO l s _)).2 ?_;exact Uf.2 ⟨λx hx=>Tf (hs x hx),h⟩
theorem rK {d:List AL} (hn:Dw d=0):Apt (AX d):=by
 have key:∀k,k<=d.length->Apt (AX (d.take k))/\∀s∈AX (d.take k),∃i,i<k/\(d.getD i d0).1=s:=by
  intro k;induction k with
  | zero =>
   intro _;exact⟨.nil,λs hs=>by cases hs⟩
  | succ k b =>
   intro hk;obtain⟨h1,a⟩:=b (by omega);have e:AX (d.take (k+1))=Dv (AX (d.take k)) (d.getD k d0).1:=by
    have:d.take (k+1)=d.take k++[d.getD k d0]:=Av d d0 (by omega);rw[this];unfold AX;rw[AAp];rfl
   rw[e];refine⟨A5h h1 λx hx=>?_,λs hs=>?_⟩
   .obtain⟨i,hi,rfl⟩:=a x hx;cases hh:Ac (d.getD i d0).1 (d.getD k d0).1 with
    | false=>rfl
    | true =>
     have g:=TR d hh;rw[Wd hn (j:=i) (by omega),Wd hn (j:=k) (by omega)]at g;omega
   rcases Qy hs with hs|hs
   .obtain⟨i,hi,e⟩:=a s hs;exact⟨i,by omega,e⟩
   exact⟨k,by omega,hs.symm⟩
 have:=(key d.length (NO _)).1
 rwa [UO]at this
structure Nd (l:List (List Int)):Prop where
 nd:l.Nodup
 nrm:∀c∈l,Nrm c
theorem A9g {l:List (List Int)} {c:List Int} (h:Nd l) (a:c∉l) (hn:Nrm c):Nd (l++[c]):=by
 refine⟨?_,λx hx=>?_⟩
 .rw[nO];refine⟨h.nd,by simp,λx hx y b e=>a ?_⟩;have:y=c:=by simpa using b
  rw[<-this,<-e];exact hx
 rcases IN.1 hx with hx|hx
 .exact h.nrm x hx
 have:x=c:=by simpa using hx
 rw[this];exact hn
theorem A9h {l:List (List Int)} (h:Nd l) (i k:Nat):Nd (HQ l i k):=by
 unfold HQ;split
 .rename_i a;rw[An,UL]at a;refine A9g h (λb=>?_) (XR _);have:pX l (Gh (l.getD i []) (l.getD k []))=true:=Ua.2 ⟨_,b,by unfold KG;exact ABT rfl⟩;rw[this]at a;cases a.2
 exact h
theorem A0q {i:Nat}:∀ {n k:Nat} {l:List (List Int)},Nd l->Nd (HR i n k l)
 | 0,_,_,h=>h
 | n+1,k,l,h=>by
  unfold HR;split
  .exact A0q (A9h h i k)
  exact h
theorem A0r:∀ {n i:Nat} {l:List (List Int)},Nd l->Nd (Jl n i l)
 | 0,_,_,h=>h
 | n+1,i,l,h=>by
  unfold Jl;split
  .exact A0r (A0q h)
  exact h
theorem A2n {d:List AL} (m:BT d=0):Nd (Ai d):=by
 obtain⟨-,l,-,hn,hl⟩:=BF m;have p:=FQ d d.length;rw[UO]at p;have hap:=rK hn;refine⟨?_,λc n=>?_⟩
 .unfold Ai List.Nodup;rw[Yh,UX];intro i j hi a o e;have h1:=(UX.1 hap) i j hi a o;have g:∀k,(hk:k<(AX d).length)->(AX d).getD k ByteArray.empty=(AX d)[k]:=λk hk=>by simp[AS,hk]
  have f:=(Ek (d:=d) (all:=AX d) (by omega) (AX d)[j] 0).2.1;have b:=kK hn hl l hi a (by
   rw[g i hi,g j a,e];unfold F7;have:=(XO f f).2 λ_ h=>h;rw[this];rfl)
  rw[g i hi,g j a,h1]at b;cases b
 obtain⟨s,hs,rfl⟩:=IF.1 n;unfold Hc ofF;split
 .exact XR _
 exact .inl rfl
theorem Tg {d:List AL}:∀ {l:List (List Int)} {o:List AU},(o.map (·.2)++l).Nodup->((l.foldl (SE d) o).map (·.2)).Nodup
 | [],o,h=>by simpa using h
 | b :: l,o,h=>by
  rw[UN];refine Tg ?_;unfold SE Gk eF;have hp:=(lO o (Ia d (AX d) (Ai d) b,b) (Ff (Ia d (AX d) (Ai d) b,b) o o.length)).map (λx:AU=>x.2);have c:List.Perm ((o.take (Ff (Ia d (AX d) (Ai d) b,b) o o.length)++[(Ia d (AX d) (Ai d) b,b)]++o.drop (Ff (Ia d (AX d) (Ai d) b,b) o o.length)).map (λx:AU=>x.2)++l) (o.map (·.2)++b :: l) :=
   (hp.append_right l).trans (AGn (a:=b)).symm
  exact c.nodup_iff.2 h
def Nz (h:AG):Prop:=∀a b,0<=a->a<(h.1.length:Int)->0<=b->b<(h.1.length:Int)->A1 h a b=true->A1 h b a=true->a=b
theorem ABh {h:AG} (hk:Hn h) (hn:Nd (h.1.map λt=>t.2.1)):Nz h:=by
 intro a b c d f b1 h1 j;have m:=hk.1.wds _ (Cz c d);have n:=hk.1.wds _ (Cz f b1);have e:Bn h a=Bn h b:=ABg m n (hn.nrm _ (Cz c d)) (hn.nrm _ (Cz f b1)) λi=>by
  rw[AFj];exact⟨(Ci hk f b1 c d).1 j i,(Ci hk c d f b1).1 h1 i⟩
 have hp:=UX.1 hn.nd;have g:∀k:Int,0<=k->(hk:k<(h.1.length:Int))->Bn h k=(h.1.map λt=>t.2.1)[k.toNat]'(by rw[OF];omega):=λk o p=>by
  unfold Bn;simp[AS,show k.toNat<h.1.length by omega]
 rw[g a c d,g b f b1]at e;rcases Int.lt_trichotomy a b with l|heq|l
 .exact absurd e (hp a.toNat b.toNat (by rw[OF];omega) (by rw[OF];omega) (by omega))
 .exact heq
 exact absurd e.symm (hp b.toNat a.toNat (by rw[OF];omega) (by rw[OF];omega) (by omega))
theorem lQ (d:List AL):Nz (BD d).1:=by
 refine ABh (Ms d) ?_;unfold BD;split
 .exact⟨.nil,λc h=>(by cases h)⟩
 rename_i a;have a:(Bm d).2=0:=If a;have g:Be d=0:=by
  unfold Bm at a;split at a
  .rename_i h;exact absurd a h
  rename_i h;exact If h
 obtain⟨l,-,-⟩:=DP g;obtain⟨f,n,-⟩:=CA l;have hf:Nd (BC (Ai d)):=A0r (A2n f);have e:((Ic d).1.map λt=>t.2.1)=(A8 d).map λx=>x.2:=by
  show ((F9 _ _ _).map λt=>t.2.1)=_;unfold F9;rw[YU];apply Yd
  .simp
  intro i h1 m;simp[AS,show i<(A8 d).length by simpa using h1]
 show Nd ((Ic d).1.map λt=>t.2.1);rw[e];refine⟨Tg (by simpa using hf.nd),λc k=>?_⟩;obtain⟨x,hx,rfl⟩:=IF.1 k;obtain⟨b,j,rfl⟩:=El.1 hx;exact hf.nrm b j
section
attribute [local go_sem] A0j
def lR (f:Int):List (Int×Int)->Int×Bool
 | []=>(0,false)
 | x :: l=>if x.1=f then (x.2,true) else lR f l
def ABi (h:AG) (t:Int):List (Int×Int):=(h.1.getD t.toNat Y0).2.2.2
def EW (h:AG) (t f:Int):Int×Bool:=lR f (ABi h t)
abbrev FW:=List Int×List Int
def HV (h:AG) (s:FW) (n t:Int):Option FW :=
 if (Bx h (s.1.getD n.toNat 0) t).2=true then some (if (Bx h (s.1.getD n.toNat 0) t).1=s.1.getD n.toNat 0 then s else (s.1.set n.toNat (Bx h (s.1.getD n.toNat 0) t).1,s.2++[n])) else none
end
section
attribute [local go_sem] HF lL
end
section
attribute [local go_sem] HF lL Q7
def lS (l:List (Int×Int)):List (Int×Bool):=l.foldl (λm a=>Fx T3 .bool a.1 true m) []
theorem XS {a:Ty} (x k:Int) (v:a.den) (m:List (Int×a.den)):BU T3 a x (Fx T3 a k v m)=if x=k then some v else BU T3 a x m:=by
 induction m with
 | nil=>simp[Fx,BU,Ir]
 | cons y m f =>
  simp only[Fx];by_cases b:Ir T3 k y.1=true
  .rw[Bq b];have c:k=y.1:=by simpa[Ir] using b
   simp only[BU,Ir,YV];by_cases hx:x=k
   .rw[Bq hx,Bq hx]
   rw[As hx,As hx,As (by rw[<-c];exact hx)]
  rw[As b];have c:¬k=y.1:=by simpa[Ir] using b
  simp only[BU];by_cases hx:Ir T3 x y.1=true
  .have d:x=y.1:=by simpa[Ir] using hx
   rw[Bq hx,Bq hx,As (by rw[d];exact λe=>c e.symm)]
  rw[As hx,As hx,f]
theorem A2o (x:Int) (l:List (Int×Int)):(BU T3 .bool x (lS l)).getD false=l.any λy=>y.1==x:=by
 induction l using EK with
 | h0=>rfl
 | h1 l a c =>
  have e:lS (l++[a])=Fx T3 .bool a.1 true (lS l):=by unfold lS;rw[AAp];rfl
  rw[e,XS,AFi,<-c];by_cases h:x=a.1
  .rw[Bq h,h];simp
  rw[As h];have b:¬a.1=x:=λe=>h e.symm;simp[b]
def GF (x:AC) (n:Int):Int:=if x.1<0 then 2 else GW x.2 n
def XT:AZ:={ ins:=[GR,T3],pre:=λ_=>True,out:=λ(x,n,_)=>[.p Fm (GF x n)] }
attribute [local go_sem] XT
theorem rO:Ad Tryz.prog 148 XT:=by
 refine fK [0,1,2,4,5,7,10,13,14,15,16,32,36] Tryz.func148 Tryz.ntmps148 AH ?_;rintro w0 O0 ⟨⟨t,l⟩,n,u⟩ d ⟨⟨-,⟨hl,-⟩⟩,-⟩ -;simp only[AQ]at hl;simp only[XT,AM];repeat'(first|exact trivial|apply eS rfl|refine rX d ?_ ?_|refine rC ?_ ?_<;>intro b<;>try(cases b;done))
 .have h1:GF (t,l) n=2:=Bq b;exact fI d [.tmp 4] (by rw[h1];exact eR)
 have h0:GF (t,l) n=GD n [] l:=As (AAm.2 b);rw[h0];refine AK (ι:={k:Nat//k<=List.length l/\GD n [] l=GD n ((l:List (Int×Int)).take k) ((l:List (Int×Int)).drop k)}) (λk=>⟨[(1,.p T3 n),(5,.mp 11),(13,.p DF l),(14,.p (.int .i64) (List.length l:Int)),(15,.p (.int .i64) (k.1:Int))],[(11,.mapo T3 .bool (lS ((l:List (Int×Int)).take k.1)))]⟩) (λk=>List.length l-k.1) ⟨0,Is _,rfl⟩ (AD [(11,.nm 11)] rfl rfl ?_ ?_) (λk=>?_)
 .refine eM ?_;rfl
 .exact eN
 obtain⟨k,hk,f⟩:=k;have g:=λh:k<l.length=>Pm n l h;have o:=λh:k<l.length=>KL (λ(m:List (Int×Bool)) (a:Int×Int)=>Fx T3 .bool a.1 true m) l (0,0) [] h;have i:=λx=>A2o x (List.take k (l:List (Int×Int)));simp only;repeat'(first|exact trivial|apply eS rfl|apply AB|refine rX d ?_ ?_|refine rC ?_ ?_<;>intro b<;>try(cases b;done))
 .exact b
 .have c:k<List.length l:=by exact eV
  have e:GD n [] l=2:=by rw[f,g c,Bq (by omega)]
  exact fI d [.tmp 4] (by rw[e];exact eR)
 .have c:k<List.length l:=by exact eV
  rw[i]at b;have e:GD n [] l=4:=by rw[f,g c,As (by omega),Bq b]
  exact fI d [.tmp 4] (by rw[e];exact eR)
 .exact eV
 .have c:k<List.length l:=by exact eV
  rw[i]at b;refine⟨⟨k+1,c,by rw[f,g c,As (by omega),As (by rw[b];simp)]⟩,by simp only;omega,AD [(11,.nm 11)] rfl rfl ?_ ?_⟩
  .refine eM ?_;exact(o c).symm
  exact eN
 have j:List.drop k (l:List (Int×Int))=[]:=TO (by exact eV);have e:GD n [] l=0:=by rw[f,j];rfl
 exact fI d [.tmp 4] (by rw[e];exact eR)
theorem lU {n:Int}:∀ {l seen:List (Int×Int)},GD n seen l=0->(∀a∈l,∀b∈seen,b.1≠a.1)/\NdA l
 | [],_,_=>⟨λa ha=>(by cases ha),List.Pairwise.nil⟩
 | x :: l,seen,h=>by
  simp only[GD]at h;split at h
  .cases h
  split at h
  .cases h
  rename_i h1 g;obtain⟨c,f⟩:=lU h;refine⟨λa ha b d=>?_,Uf.2 ⟨λa ha e=>c a ha x (by simp) e,f⟩⟩;rcases By.1 ha with rfl|ha
  .intro e;exact g (Ua.2 ⟨b,d,by simp[e]⟩)
  exact c a ha b (by simp[d])
theorem lV {m:Int}:∀ {f:List AC},GX m f=0->∀x∈f,NdA x.2
 | [],_,x,hx=>by cases hx
 | y :: f,h,x,hx=>by
  simp only[GX]at h;split at h
  .cases h
  split at h
  .rename_i h1 a;exact absurd h a
  rename_i h1 a;have a:GW y.2 m=0:=If a;rcases By.1 hx with rfl|hx
  .exact(lU a).2
  exact lV h x hx
def DY (f:List AC):Prop:=∀x∈f,x.2.length<=200
theorem lW {f:List AC} (h:B6 f=0) (hs:DY f):NdF f:=by
 unfold B6 at h;split at h
 .cases h
 split at h
 .cases h
 exact λx hx=>⟨lV h x hx,hs x hx⟩
def LS:AZ:={ ins:=[DC],pre:=λ(f,_)=>DY f,out:=λ(f,_)=>[.p DC (Ax f).1,.p Fm (Ax f).2] }
attribute [local go_sem] LS
theorem ST:Ad Tryz.prog 107 LS:=by
 refine fK [0,1,2,3,5,6,10,15,18,19,20,21,30] Tryz.func107 Tryz.ntmps107 (AF rO (AF SL AH)) ?_;rintro w0 O0 ⟨f,u⟩ c ⟨⟨n,-⟩,-⟩ hs;simp only[AQ]at n;have hs:DY f:=hs;have l:Gp f:=λx hx=>UR (hs x hx) (by omega);simp only[LS,AM];repeat'(first|exact trivial|apply eS rfl|refine rX c ?_ ?_|refine rC ?_ ?_<;>intro a<;>try(cases a;done))
 .have h1:B6 f=1:=by
   have h:f.length=0:=by exact eV
   unfold B6;rw[Bq h]
  have e:Ax f=([],1):=by unfold Ax;rw[h1];rfl
  exact fI c [.cell 2 25,.tmp 3] (by rw[e];exact eR)
 .have h1:B6 f=7:=by
   have h:¬f.length=0:=by exact eV
   have i:4096<f.length:=by exact eV
   unfold B6;rw[As h,Bq i]
  have e:Ax f=([],7):=by unfold Ax;rw[h1];rfl
  exact fI c [.cell 2 25,.tmp 3] (by rw[e];exact eR)
 have h1:B6 f=GX f.length f:=by
  have h:¬f.length=0:=by exact eV
  have i:¬4096<f.length:=by exact eV
  unfold B6;rw[As h,As i]
 have j:0<f.length:=by exact eV
 refine AK (ι:={k:Nat//k<=f.length/\GX f.length (f.drop k)=B6 f}) (λk=>⟨[(1,.bp 1 [] 0),(2,.bp 2 [] 0),(18,.p Fq f),(19,.p (.int .i64) (f.length:Int)),(20,.p (.int .i64) (k.1:Int))],[(1,.box 25 true [.p Fq f]),(2,.box 25 true [.raw (.slice none 0 0)])]⟩) (λk=>f.length-k.1) ⟨0,by simp[h1]⟩ (eW [(1,.nm 1),(2,.nm 2)]) (λk=>?_)
 obtain⟨k,hk,hf⟩:=k;simp only;repeat'(first|exact trivial|apply eS rfl|apply AB|refine rX c ?_ ?_|refine rC ?_ ?_<;>intro a<;>try(cases a;done))
 .exact a
 .have g:k<f.length:=by exact eV
  have a:¬GF (f.getD k (0,[])) f.length=0:=a;have m:B6 f=GF (f.getD k (0,[])) f.length:=by
   rw[<-hf,Ih _ _ g];unfold GF at a ⊢;by_cases b:(f.getD k (0,[])).1<0
   .rw[Bq b,Bq b]
   rw[As b]at a;rw[As b,As b,Bq a]
  have e:Ax f=([],GF (f.getD k (0,[])) f.length):=by unfold Ax;rw[m,As a]
  exact fI c [.cell 2 25,.tmp 3] (by rw[e];exact eR)
 .exact eV
 .have g:k<f.length:=by exact eV
  have a:GF (f.getD k (0,[])) f.length=0:=by simpa using a
  refine⟨⟨k+1,g,?_⟩,by simp only;omega,AD [(1,.nm 1),(2,.nm 2)] rfl rfl ?_ ?_⟩
  .rw[<-hf,Ih _ _ g];unfold GF at a;by_cases b:(f.getD k (0,[])).1<0
   .rw[Bq b]at a;cases a
   rw[As b]at a;rw[As b,As (by rw[a];simp)]
  .exact eN
  exact eN
 .have d:B6 f=0:=by rw[<-hf,TO (by exact eV)];rfl
  exact⟨(Ii d l).1,lW d hs,Do.2 j⟩
 have d:B6 f=0:=by rw[<-hf,TO (by exact eV)];rfl
 have e:Ax f=(AI (DW f) 0,0):=by unfold Ax;rw[Bq d,Te (Ii d l).1 (lW d hs) (ZV 0) (Do.2 j)]
 exact fI c [.cell 2 25,.tmp 3] (by rw[e];exact eR)
end
def RC (h:AG) (f:Int):Int:=(h.2.getD f.toNat (ByteArray.empty,0)).2
def XU (h:AG) (n:Int):List (Int×Int)->FW->Option FW
 | [],s=>some s
 | a :: l,s=>(HV h s n (RC h a.1)).bind (XU h n l)
def ZK (h:AG) (n:Int):List (Int×Int)->FW->Option FW
 | [],s=>some s
 | a :: l,s=>if (EW h (s.1.getD n.toNat 0) a.1).2=true then (HV h s a.2 (EW h (s.1.getD n.toNat 0) a.1).1).bind (ZK h n l) else none
def Th (h:AG) (f:List AC) (n:Int) (s:FW):Option FW:=(XU h n (f.getD n.toNat (0,[])).2 s).bind (ZK h n (f.getD n.toNat (0,[])).2)
def wlF (h:AG) (f:List AC):Nat->Nat->FW->Option (List Int)
 | 0,_,_=>none
 | k+1,i,s=>if i<s.2.length then (Th h f (s.2.getD i 0) s).bind (wlF h f k (i+1)) else some s.1
def Dj (f:List AC):List Int:=f.map λx=>x.1
def Ti (f:List AC):List Int:=(List.range f.length).map λi:Nat=>(i:Int)
def Fi (f:List AC) (ty:List Int):List AC:=(List.range f.length).map λi=>(ty.getD i 0,(f.getD i (0,[])).2)
structure HFt (h:AG):Prop where
 int:∀x∈h.2,0<=x.2/\x.2<(h.1.length:Int)
 val:∀t∈h.1,∀p∈t.2.2.2,0<=p.2/\p.2<(h.1.length:Int)
structure RD (h:AG) (m:Nat) (s:FW):Prop where
 len:s.1.length=m
 ty:∀t∈s.1,0<=t/\t<(h.1.length:Int)
 wt:∀n∈s.2,0<=n/\n<(m:Int)
theorem RD.get {h:AG} {m:Nat} {s:FW} (hs:RD h m s) {n:Int} (n0:0<=n) (n1:n<(m:Int)):0<=s.1.getD n.toNat 0/\s.1.getD n.toNat 0<(h.1.length:Int):=by
 have hl:n.toNat<s.1.length:=by rw[hs.len];omega
 rw[AS,AT hl];exact hs.ty _ (YZ hl)
def A2p (h:AG) (t:Int):Nat:=((List.range h.1.length).filter λi:Nat=>A1 h t (i:Int)).length
def pot (h:AG) (ty:List Int):Nat:=(ty.map (A2p h)).sum
theorem a9 {α:Type} {p q:α->Bool}:∀ {l:List α},(∀x∈l,q x=true->p x=true)->(∃b∈l,p b=true/\q b=false)->(l.filter q).length<(l.filter p).length
 | [],_,⟨b,c,_⟩=>by cases c
 | x :: l,h1,⟨b,c,f,g⟩=>by
  have h:∀ {l:List α},(∀x∈l,q x=true->p x=true)->(l.filter q).length<=(l.filter p).length:=by
   intro l hl;induction l with
   | nil=>exact NO _
   | cons y l i =>
    have e:=i λz d=>hl z (GO _ d);rw[Yr,Yr];by_cases a:q y=true
    .rw[Bq a,Bq (hl y (by simp) a)];simp only[No];omega
    rw[As a];split
    .simp only[No];omega
    exact e
  rw[Yr,Yr];rcases By.1 c with rfl|c
  .rw[As (by rw[g];simp),Bq f];have:=h λz d=>h1 z (GO _ d);simp only[No];omega
  have e:=a9 (λz d=>h1 z (GO _ d)) ⟨b,c,f,g⟩;by_cases a:q x=true
  .rw[Bq a,Bq (h1 x (by simp) a)];simp only[No];omega
  rw[As a];split
  .simp only[No];omega
  exact e
theorem VE {h:AG} (hk:Hn h) {a:Int} (b:0<=a) (c:a<(h.1.length:Int)):A1 h a a=true:=(Ci hk b c b c).2 λ_ h=>h
theorem LT {h:AG} (hk:Hn h) {a b c:Int} (d:0<=a) (e:a<(h.1.length:Int)) (f:0<=b) (b1:b<(h.1.length:Int)) (c0:0<=c) (c1:c<(h.1.length:Int)) (h1:A1 h a b=true) (g:A1 h b c=true):A1 h a c=true :=
 (Ci hk d e c0 c1).2 λi hi=>(Ci hk d e f b1).1 h1 i ((Ci hk f b1 c0 c1).1 g i hi)
theorem A9i {h:AG} (hk:Hn h) (hi:Nz h) {a m:Int} (b:0<=a) (c:a<(h.1.length:Int)) (d:0<=m) (f:m<(h.1.length:Int)) (hs:A1 h a m=true) (g:m≠a):A2p h m<A2p h a:=by
 refine a9 (λx hx e=>?_) ⟨a.toNat,Ue.2 (by omega),?_,?_⟩
 .have hx:=Ue.1 hx;exact LT hk b c d f (ZX _) (by omega) hs e
 .rw[bY b];exact VE hk b c
 rw[bY b];cases e:A1 h m a with
 | false=>rfl
 | true=>exact absurd (hi m a d f b c e hs) g
theorem A0t {α:Type} (g:α->Nat) (d:α):∀ {l:List α} {i:Nat} {v:α},i<l.length->((l.set i v).map g).sum+g (l.getD i d)=(l.map g).sum+g v
 | [],i,v,h=>by simp at h
 | x :: l,0,v,h=>by simp only[AFE,UY,List.sum_cons,List.getD_cons_zero];omega
 | x :: l,i+1,v,h=>by
  have:=A0t g d (l:=l) (i:=i) (v:=v) (by simpa using h);simp only[AG2,UY,List.sum_cons,List.getD_cons_succ];omega
theorem Gq {h:AG} (hk:Hn h) (hi:Nz h) {m:Nat} {s a:FW} (hs:RD h m s) {n t:Int} (n0:0<=n) (n1:n<(m:Int)) (k:0<=t) (l:t<(h.1.length:Int)) (e:HV h s n t=some a) :
  RD h m a/\pot h a.1+a.2.length<=pot h s.1+s.2.length/\s.2.length<=a.2.length:=by
 obtain⟨b,c⟩:=hs.get n0 n1;unfold HV at e;split at e
 .rename_i g;obtain⟨d,f,j,p⟩:=(Mt hk b c k l).1 g;generalize (Bx h (s.1.getD n.toNat 0) t).1=v at *;injection e with e
  split at e
  .subst e;exact⟨hs,NO _,NO _⟩
  rename_i i;subst e;have o:=A9i hk hi b c d f j i;have hl:n.toNat<s.1.length:=by rw[hs.len];omega
  have hp:=A0t (A2p h) 0 (v:=v) hl;refine⟨⟨by simp only[Ya];exact hs.len,λx hx=>?_,λx hx=>?_⟩,?_,by simp⟩
  .rcases AAy hx with hx|rfl
   .exact hs.ty x hx
   exact⟨d,f⟩
  .rcases IN.1 hx with hx|hx
   .exact hs.wt x hx
   rw[UM.1 hx];exact⟨n0,n1⟩
  unfold pot;simp only[BY,IS];omega
 cases e
def Mu (h:AG) (m:Nat) (a:Int×Int):Prop:=(0<=a.1/\a.1<(h.2.length:Int))/\0<=a.2/\a.2<(m:Int)
theorem RE {h:AG} (hf:HFt h) {f:Int} (a:0<=f) (b:f<(h.2.length:Int)):0<=RC h f/\RC h f<(h.1.length:Int):=by
 have hl:f.toNat<h.2.length:=by omega
 unfold RC;rw[AS,AT hl];exact hf.int _ (YZ hl)
theorem bA {f:Int}:∀ {l:List (Int×Int)},(lR f l).2=true->(f,(lR f l).1)∈l
 | [],h=>by cases h
 | x :: l,h=>by
  unfold lR at h ⊢;split
  .rename_i e;rw[<-e];simp
  rename_i e;rw[As e]at h;exact GO _ (bA h)
theorem A2q {h:AG} {t:Int} (a:0<=t) (b:t<(h.1.length:Int)):h.1.getD t.toNat Y0∈h.1:=AE h.1 Y0 (by omega)
theorem Mv {h:AG} (hf:HFt h) {t f:Int} (a:0<=t) (b:t<(h.1.length:Int)) (e:(EW h t f).2=true):0<=(EW h t f).1/\(EW h t f).1<(h.1.length:Int) :=
 hf.val _ (A2q a b) _ (bA e)
theorem RF {h:AG} (hk:Hn h) (hi:Nz h) (hf:HFt h) {m:Nat} {n:Int} (n0:0<=n) (n1:n<(m:Int)):∀ {l:List (Int×Int)} {s c:FW},(∀a∈l,Mu h m a)->RD h m s->XU h n l s=some c ->
  RD h m c/\pot h c.1+c.2.length<=pot h s.1+s.2.length/\s.2.length<=c.2.length
 | [],s,c,_,hs,e=>by
  injection e with e
  subst e;exact⟨hs,NO _,NO _⟩
 | a :: l,s,c,hl,hs,e=>by
  unfold XU at e;cases e1:HV h s n (RC h a.1) with
  | none=>rw[e1]at e;cases e
  | some s1 =>
   rw[e1]at e;obtain⟨⟨d,f⟩,-⟩:=hl a (by simp);obtain⟨j,k⟩:=RE hf d f;obtain⟨g,p,q⟩:=Gq hk hi hs n0 n1 j k e1;obtain⟨o,r,t⟩:=RF hk hi hf n0 n1 (λb i=>hl b (by simp[i])) g e;exact⟨o,by omega,by omega⟩
theorem VG {h:AG} (hk:Hn h) (hi:Nz h) (hf:HFt h) {m:Nat} {n:Int} (n0:0<=n) (n1:n<(m:Int)):∀ {l:List (Int×Int)} {s c:FW},(∀a∈l,Mu h m a)->RD h m s->ZK h n l s=some c ->
  RD h m c/\pot h c.1+c.2.length<=pot h s.1+s.2.length/\s.2.length<=c.2.length
 | [],s,c,_,hs,e=>by
  injection e with e
  subst e;exact⟨hs,NO _,NO _⟩
 | a :: l,s,c,hl,hs,e=>by
  unfold ZK at e;split at e
  .rename_i j;obtain⟨g,d⟩:=hs.get n0 n1;obtain⟨k,o⟩:=Mv hf g d j;cases e1:HV h s a.2 (EW h (s.1.getD n.toNat 0) a.1).1 with
   | none=>rw[e1]at e;cases e
   | some s1 =>
    rw[e1]at e;obtain⟨-,f,b1⟩:=hl a (by simp);obtain⟨d,q,r⟩:=Gq hk hi hs f b1 k o e1;obtain⟨p,t,u⟩:=VG hk hi hf n0 n1 (λb i=>hl b (by simp[i])) d e;exact⟨p,by omega,by omega⟩
  cases e
def XV (h:AG) (f:List AC):Prop:=∀x∈f,∀a∈x.2,Mu h f.length a
theorem RG {h:AG} {f:List AC} (ha:XV h f) {n:Int} (n0:0<=n) (n1:n<(f.length:Int)):∀a∈(f.getD n.toNat (0,[])).2,Mu h f.length a:=ha _ (AE f (0,[]) (by omega))
theorem lX {h:AG} (hk:Hn h) (hi:Nz h) (hf:HFt h) {f:List AC} (ha:XV h f) {n:Int} (n0:0<=n) (n1:n<(f.length:Int)) {s a:FW} (hs:RD h f.length s) (e:Th h f n s=some a) :
  RD h f.length a/\pot h a.1+a.2.length<=pot h s.1+s.2.length/\s.2.length<=a.2.length:=by
 unfold Th at e;cases e1:XU h n (f.getD n.toNat (0,[])).2 s with
 | none=>rw[e1]at e;cases e
 | some s1 =>
  rw[e1]at e;obtain⟨b,d,g⟩:=RF hk hi hf n0 n1 (RG ha n0 n1) hs e1;obtain⟨c,i,j⟩:=VG hk hi hf n0 n1 (RG ha n0 n1) b e;exact⟨c,by omega,by omega⟩
theorem A9j (h:AG) (t:Int):A2p h t<=h.1.length:=by
 unfold A2p;exact UR (Yw _ _) (by simp)
theorem A5i (h:AG):∀ty:List Int,pot h ty<=ty.length*h.1.length
 | []=>by simp[pot]
 | t :: ty=>by
  have h1:=A5i h ty;have a:=A9j h t;unfold pot at h1 ⊢;simp only[UY,List.sum_cons,No,AFK,Nat.one_mul];omega
def bB (h:AG) (f:List AC):Nat:=f.length*h.1.length+f.length+1
def Jr (h:AG) (f:List AC):Option (List Int):=wlF h f (bB h f) 0 (Dj f,Ti f)
def SU (h:AG) (f:List AC):List AC×Bool:=match Jr h f with
 | some ty=>(Fi f ty,true)
 | none=>([],false)
theorem AAq {h:AG} {f:List AC} (a:∀x∈f,0<=x.1/\x.1<(h.1.length:Int)):RD h f.length (Dj f,Ti f):=by
 refine⟨by simp[Dj],λt h1=>?_,λn hn=>?_⟩
 .obtain⟨x,hx,rfl⟩:=IF.1 h1;exact a x hx
 obtain⟨i,hi,rfl⟩:=IF.1 hn;have:=Ue.1 hi;omega
theorem ABj (h:AG) (f:List AC):pot h (Dj f)+(Ti f).length+1<=bB h f:=by
 have:=A5i h (Dj f);unfold bB;rw[show (Dj f).length=f.length by simp[Dj]]at this;rw[show (Ti f).length=f.length by simp[Ti]];omega
theorem KP {x y:Int} {xs ys:List Int} (h:LP (x :: xs) (y :: ys)=0):x=y/\LP xs ys=0:=by
 simp only[LP]at h;split at h
 .cases h
 split at h
 .cases h
 exact⟨by omega,h⟩
theorem XW:∀ {l m:List (Int×Int)} {r s:List Int},l.length=m.length->LP (l.flatMap (λa=>[a.1,a.2])++r) (m.flatMap (λa=>[a.1,a.2])++s)=0->l=m/\LP r s=0
 | [],[],_,_,_,h=>⟨rfl,by simpa using h⟩
 | [],_ :: _,_,_,hl,_=>by simp at hl
 | _ :: _,[],_,_,hl,_=>by simp at hl
 | (b,c) :: l,(b1,b2) :: m,r,s,hl,h=>by
  have h:LP (b :: c :: (l.flatMap (λa=>[a.1,a.2])++r)) (b1 :: b2 :: (m.flatMap (λa=>[a.1,a.2])++s))=0:=by simpa using h
  obtain⟨e1,e⟩:=KP h;obtain⟨e2,f⟩:=KP e;obtain⟨d,g⟩:=XW (l:=l) (m:=m) (by simpa using hl) f;exact⟨by rw[e1,e2,d],g⟩
theorem XX:∀ {l m:List AC} {r s:List Int},l.length=m.length->LP (l.flatMap XC++r) (m.flatMap XC++s)=0->l=m/\LP r s=0
 | [],[],_,_,_,h=>⟨rfl,by simpa using h⟩
 | [],_ :: _,_,_,hl,_=>by simp at hl
 | _ :: _,[],_,_,hl,_=>by simp at hl
 | (c,b) :: l,(b1,b2) :: m,r,s,hl,h=>by
  have h:LP (c :: (b.length:Int) :: (b.flatMap (λa=>[a.1,a.2])++(l.flatMap XC++r))) (b1 :: (b2.length:Int) :: (b2.flatMap (λa=>[a.1,a.2])++(m.flatMap XC++s)))=0:=by simpa[XC] using h
  obtain⟨e1,f⟩:=KP h;obtain⟨e2,g⟩:=KP f;obtain⟨d,i⟩:=XW (l:=b) (m:=b2) (by omega) g;obtain⟨e,j⟩:=XX (l:=l) (m:=m) (by simpa using hl) i;exact⟨by rw[e1,d,e],j⟩
theorem Mw {a b:List AC} (h:CV a b=0):a=b:=by
 unfold CV Bw at h;obtain⟨h1,c⟩:=KP h;have:=XX (l:=a) (m:=b) (r:=[]) (s:=[]) (by omega) (by simpa using c);exact this.1
theorem bC:∀l:List Int,LP l l=0
 | []=>rfl
 | x :: l=>by simp[LP,bC l]
theorem Gy (a:List AC):CV a a=0:=bC _
theorem XY (x:Int×Int) (s:List (Int×Int)):∀n,(∀j,Hj x s n<=j->j<n->x.1<(s.getD j (0,0)).1)/\(0<Hj x s n->(s.getD (Hj x s n-1) (0,0)).1<=x.1)
 | 0=>⟨λj h1 b=>by omega,λh=>by simp[Hj]at h⟩
 | n+1=>by
  obtain⟨h1,b⟩:=XY x s n;unfold Hj;split
  .rename_i c;refine⟨λj a d=>?_,b⟩;by_cases e:j=n
   .subst e;exact c
   exact h1 j a (by omega)
  rename_i c;exact⟨λj a d=>by omega,λ_=>by simp only[Nat.add_sub_cancel];omega⟩
theorem ABk {l:List (Int×Int)} (h:l.Pairwise (λa b=>a.1<=b.1)) {i j:Nat} (d:i<=j) (c:j<l.length):(l.getD i (0,0)).1<=(l.getD j (0,0)).1:=by
 rcases Nat.eq_or_lt_of_le d with rfl|e
 .exact ZV _
 rw[UX]at h;have:=h i j (by omega) c e;simpa[AS,c,show i<l.length by omega] using this
theorem lY {s:List (Int×Int)} (h:s.Pairwise (λa b=>a.1<=b.1)) (x:Int×Int):(Ny s x).Pairwise (λa b=>a.1<=b.1):=by
 obtain⟨h1,g⟩:=XY x s s.length;have hp:=U0 x s s.length;unfold Ny;generalize Hj x s s.length=p at *;rw[oN,oN];have f:∀a∈s.take p,a.1<=x.1:=λa ha=>by
  obtain⟨i,hi,rfl⟩:=ZT.1 ha;rw[OS]at hi;have k:=ABk h (i:=i) (j:=p-1) (by omega) (by omega);have l:=g (by omega);have e:(s.take p)[i].1=(s.getD i (0,0)).1:=by simp[AS,show i<s.length by omega]
  rw[e];omega
 have d:∀b∈s.drop p,x.1<=b.1:=λb c=>by
  obtain⟨i,hi,rfl⟩:=ZT.1 c;rw[YY]at hi;have k:=h1 (p+i) (by omega) (by omega);have e:(s.drop p)[i].1=(s.getD (p+i) (0,0)).1:=by simp[AS,show p+i<s.length by omega]
  rw[e];omega
 refine⟨⟨h.sublist (List.take_sublist _ _),by simp,λa ha b c=>?_⟩,h.sublist (List.drop_sublist _ _),λa ha b c=>?_⟩
 .have:b=x:=by simpa using c
  rw[this];exact f a ha
 rcases IN.1 ha with ha|ha
 .exact AAc (f a ha) (d b c)
 have:a=x:=by simpa using ha
 rw[this];exact d b c
theorem UI (l:List (Int×Int)):(Aa l).Pairwise (λa b=>a.1<=b.1):=by
 induction l using EK with
 | h0=>exact List.Pairwise.nil
 | h1 l a c=>rw[Hk];exact lY c a
theorem Tj {n:Int}:∀ {l seen:List (Int×Int)},GD n seen l=0->(l.map (·.1)).Nodup/\∀a∈l,∀b∈seen,b.1≠a.1
 | [],_,_=>⟨by simp,λa ha=>by cases ha⟩
 | x :: l,seen,h=>by
  simp only[GD]at h;split at h
  .cases h
  split at h
  .cases h
  rename_i h1 d;obtain⟨g,f⟩:=Tj h;have d:∀b∈seen,b.1≠x.1:=λb c e=>d (Ua.2 ⟨b,c,by simp[e]⟩);refine⟨?_,λa ha b c=>?_⟩
  .rw[UY,YT];refine⟨λi=>?_,g⟩;obtain⟨a,ha,e⟩:=IF.1 i;exact f a ha x (by simp) e.symm
  rcases By.1 ha with rfl|ha
  .exact d b c
  exact f a ha b (by simp[c])
theorem XZ {m:Int}:∀ {f:List AC},GX m f=0->∀x∈f,GW x.2 m=0
 | [],_,x,hx=>by cases hx
 | y :: f,h,x,hx=>by
  simp only[GX]at h;split at h
  .cases h
  split at h
  .rename_i h1 a;exact absurd h a
  rename_i h1 a;rcases By.1 hx with rfl|hx
  .exact If a
  exact XZ h x hx
theorem A2r {l:List (Int×Int)} (h:l.Pairwise (λa b=>a.1<=b.1)) (hn:(l.map (·.1)).Nodup):l.Pairwise (λa b=>a.1<b.1):=by
 rw[List.Nodup,Yh]at hn;refine(h.and hn).imp λ{a b} c=>?_;have h1:=c.1;have d:¬a.1=b.1:=c.2;omega
theorem Mx {f:List AC} (h:D0 f=true):AN f/\HS f/\0<f.length/\HT f=true:=by
 unfold D0 at h;simp only[An,YV]at h;obtain⟨⟨hl,_⟩,b,c⟩:=h;obtain⟨r,d⟩:=Mq hl;have p:Gp f:=λx hx=>UR (d x hx) (by omega);have a:B6 f=0:=by
  unfold Ax at b;split at b
  .assumption
  exact b
 obtain⟨l,h0⟩:=Ii a p;have i:(Ax f).1=JT f 0:=by unfold Ax;rw[Bq a]
 rw[i]at c;have j:=Mw c;refine⟨l,λx hx=>⟨?_,UR (d x hx) (by omega)⟩,h0,hl⟩;rw[<-j]at hx;obtain⟨n,_,rfl⟩:=IF.1 hx;rw[HH];have g:((f.getD n.toNat (0,[])).2.map (·.1)).Nodup:=by
  by_cases m:n.toNat<f.length
  .have o:f.getD n.toNat (0,[])∈f:=AE f (0,[]) m;have k:GX f.length f=0:=by
    unfold B6 at a;split at a
    .cases a
    split at a
    .cases a
    exact a
   exact(Tj (XZ k _ o)).1
  rw[AS,UV (by omega)];simp
 have q:=A2r (UI (f.getD n.toNat (0,[])).2) (((Ez _).map (·.1)).nodup_iff.2 g);unfold Mo;simp only;rw[Yh];exact q.imp λe=>e
section
attribute [local go_sem] LS Wu
end
section
attribute [local go_sem] Wu
def SV (h:AG) (f:List AC) (t:Int):List (Int×Int)->Int
 | []=>0
 | a :: l=>if (EW h t a.1).2=false then 10 else if A1 h (EW h t a.1).1 (f.getD a.2.toNat (0,[])).1=false then 11 else SV h f t l
def My (h:AG) (f:List AC):List AC->Int
 | []=>0
 | x :: l=>if SV h f x.1 x.2=0 then My h f l else SV h f x.1 x.2
def fJ (h:AG) (f:List AC):Int:=if Hm h f=0 then My h f f else Hm h f
end
section
attribute [local go_sem] LR Qq
theorem A5j {h:AG} (hk:Hn h) {a b:Int} (c:0<=a) (d:a<(h.1.length:Int)) (e:0<=b) (b1:b<(h.1.length:Int)):Ex (Bn h b) (Bn h a)=A1 h a b:=by
 have f:=hk.1.wds _ (Cz c d);have g:=hk.1.wds _ (Cz e b1);rw[AFj,XO g f];exact(Ci hk c d e b1).symm
def fL:AZ:={ ins:=[Du,T3,T3],pre:=λ(h,a,b,_)=>(((0:Int)<=a/\a<(List.length (h:AG).1:Int))/\((0:Int)<=b/\b<(List.length (h:AG).1:Int)))/\Hn h,out:=λ(h,a,b,_)=>[.p .bool (A1 h a b)],lend:=true }
attribute [local go_sem] fL
theorem A5k:Ad Tryz.prog 104 fL:=by
 refine fK [0,1,2,3,6] Tryz.func104 Tryz.ntmps104 (AF R7 AH) ?_;rintro w0 O0 ⟨⟨e,hf⟩,a,b,u⟩ d-⟨⟨ha,c⟩,hk⟩;have hk:Hn (e,hf):=hk;have f:=A5j hk ha.1 ha.2 c.1 c.2;have g:(Bn (e,hf) b).length<=100000:=UR (hk.1.wid _ (Cz c.1 c.2)) (by omega);simp only[fL,AM];repeat'(first|exact trivial|apply eS rfl|refine rX d ?_ ?_)
 .exact⟨c,ha,g⟩
 exact fI d [.tmp 6] (by rw[<-f];unfold Bn;exact eR)
end
section
open Go
end
theorem EL (f:List AC) (ty:List Int):(Fi f ty).length=f.length:=by simp[Fi]
theorem KQ (f:List AC) (ty:List Int) {i:Nat} (h:i<f.length):(Fi f ty).getD i (0,[])=(ty.getD i 0,(f.getD i (0,[])).2):=by
 unfold Fi;simp[AS,h]
section
open Go
end
structure MI (m:List (Int×Bool)) (l:List Bool):Prop where
 nd:(m.map (·.1)).Nodup
 get:∀k:Int,BU T3 .bool k m=if 0<=k/\l.getD k.toNat false=true then some true else none
theorem A0u (k:Int) (v:Bool):∀ {m:List (Int×Bool)},(m.map (·.1)).Nodup->((Fx T3 .bool k v m).map (·.1)).Nodup/\∀x,x∈(Fx T3 .bool k v m).map (·.1)->x=k\/x∈m.map (·.1)
 | [],_=>by simp[Fx]
 | y :: m,h=>by
  rw[UY,YT]at h;unfold Fx;split
  .rename_i e;have e:k=y.1:=by simpa[Ir] using e
   refine⟨?_,λx hx=>?_⟩
   .rw[UY,YT,e];exact h
   rcases By.1 hx with hx|hx
   .exact .inl hx
   exact .inr (GO _ hx)
  rename_i e;have e:¬k=y.1:=by simpa[Ir] using e
  obtain⟨b,a⟩:=A0u k v h.2;refine⟨?_,λx hx=>?_⟩
  .rw[UY,YT];refine⟨λc=>?_,b⟩;rcases a _ c with hx|hx
   .exact e hx.symm
   exact h.1 hx
  rcases By.1 hx with hx|hx
  .exact .inr (by rw[hx];simp)
  exact(a x hx).imp id λg=>GO _ g
theorem lZ (k:Int):∀m:List (Int×Bool),(pI T3 .bool k m).Sublist m
 | []=>List.Sublist.refl _
 | y :: m=>by
  unfold pI;split
  .exact List.sublist_cons_self _ _
  exact(lZ k m).cons_cons _
theorem bD {x:Int}:∀ {m:List (Int×Bool)},x∉m.map (·.1)->BU T3 .bool x m=none
 | [],_=>rfl
 | y :: m,h=>by
  unfold BU;rw[As (by
   intro e;have e:x=y.1:=by simpa[Ir] using e
   exact h (by rw[e];simp))]
  exact bD λa=>h (GO _ a)
theorem bE (x k:Int):∀ {m:List (Int×Bool)},(m.map (·.1)).Nodup->BU T3 .bool x (pI T3 .bool k m)=if x=k then none else BU T3 .bool x m
 | [],_=>by simp[pI,BU]
 | y :: m,h=>by
  rw[UY,YT]at h;unfold pI;split
  .rename_i e;have e:k=y.1:=by simpa[Ir] using e
   by_cases hx:x=k
   .rw[Bq hx,hx,e];exact bD h.1
   rw[As hx];have b:¬x=y.1:=by rw[<-e];exact hx
   simp[BU,Ir,b]
  rename_i e;have e:¬k=y.1:=by simpa[Ir] using e
  have d:=bE x k h.2;by_cases a:x=y.1
  .have c:¬x=k:=by rw[a];exact λg=>e g.symm
   rw[As c];simp[BU,Ir,a]
  have hn:¬Ir T3 x y.1=true:=by simpa[Ir] using a
  simp only[BU];rw[As hn,As hn,d]
theorem MI.zero:MI [] (List.replicate 0 true):=⟨List.nodup_nil,λk=>by simp[BU]⟩
theorem MI.put {m:List (Int×Bool)} {i:Nat} (h:MI m (List.replicate i true)):MI (Fx T3 .bool (i:Int) true m) (List.replicate (i+1) true):=by
 refine⟨(A0u _ _ h.nd).1,λ(k:Int)=>?_⟩;rw[XS,h.get];by_cases hk:k=(i:Int)
 .rw[Bq hk,Bq];subst hk;refine⟨ZX _,?_⟩;simp[AS,oF]
 rw[As hk];have e:(0<=k/\(List.replicate i true).getD k.toNat false=true)↔(0<=k/\(List.replicate (i+1) true).getD k.toNat false=true):=by
  simp only[AS,oF];constructor
  .rintro⟨a,b⟩;refine⟨a,?_⟩;split at b
   .rw[Bq (by omega)];rfl
   simp at b
  rintro⟨a,b⟩;refine⟨a,?_⟩;split at b
  .rw[Bq (by omega)];rfl
  simp at b
 by_cases c:0<=k/\(List.replicate i true).getD k.toNat false=true
 .rw[Bq c,Bq (e.1 c)]
 rw[As c,As λg=>c (e.2 g)]
theorem MI.del {m:List (Int×Bool)} {l:List Bool} (h:MI m l) (i:Nat):MI (pI T3 .bool (i:Int) m) (l.set i false):=by
 refine⟨h.nd.sublist ((lZ _ m).map _),λ(k:Int)=>?_⟩;rw[bE _ _ h.nd,h.get];by_cases hk:k=(i:Int)
 .subst hk;rw[Bq rfl,As];rintro⟨-,b⟩;rw[UQ]at b;simp only[AS,ZS]at b;rw[Bq trivial]at b;split at b<;>simp at b
 rw[As hk];by_cases a:0<=k
 .have c:¬i=k.toNat:=by omega
  simp only[AS,ZS];rw[As c]
 rw[As λg=>a g.1,As λg=>a g.1]
theorem Nl {x:Int}:∀ {m:List (Int×Bool)},x∈m.map (·.1)->BU T3 .bool x m≠none
 | y :: m,h=>by
  unfold BU;split
  .simp
  rename_i e;rcases By.1 h with h|h
  .exact absurd (by simp[Ir,h]) e
  exact Nl h
theorem MI.len {m:List (Int×Bool)} {l:List Bool} (h:MI m l):m.length<=l.length:=by
 have h1:((m.map (·.1)).map Int.toNat).Nodup:=by
  rw[List.Nodup,Yh];refine h.nd.imp_of_mem λ{a b:Int} ha d i e=>i ?_;have h1:=Nl ha;have c:=Nl d;rw[h.get]at h1 c;have k:0<=a:=If λg=>h1 (As λq=>g q.1);have n:0<=b:=If λg=>c (As λq=>g q.1);omega
 have:=EJ l.length _ h1 (λj f=>by
  obtain⟨x,hx,rfl⟩:=IF.1 f;have h1:=Nl hx;rw[h.get]at h1;refine If λhn=>h1 (As λg=>?_);have:=g.2;rw[AS,UV (by omega)]at this;cases this)
 simpa using this
section
open Go
end
def A2s (N:List AC) (i:Nat) (v:Int×Int):List AC:=N.set i ((N.getD i (0,[])).1,(N.getD i (0,[])).2++[(v.1,(N.length:Int))])++[(v.2,[])]
theorem A5l (N:List AC) (i:Nat) (v:Int×Int):(A2s N i v).length=N.length+1:=by simp[A2s]
structure TI2 (h:AG) (m i k:Nat) (N:List AC):Prop where
 len:N.length<=m
 ty:∀x∈N,0<=x.1/\x.1<(h.1.length:Int)
 lo:∀j,j<i->(N.getD j (0,[])).2.length<=200
 at':(N.getD i (0,[])).2.length<=100+k
 hi:∀j,i<j->(N.getD j (0,[])).2.length<=100
theorem A5m {α:Type} (l:List α) (x d:α) (j:Nat):(l++[x]).getD j d=if j<l.length then l.getD j d else if j=l.length then x else d:=by
 simp only[AS];by_cases h:j<l.length
 .rw[Bq h,Ug h]
 rw[As h,Ud (by omega)];by_cases e:j=l.length
 .rw[Bq e,e,AAz];rfl
 rw[As e,UV (by simp only[IS];omega)];rfl
theorem Nm {α:Type} (l:List α) (x d:α) {i:Nat} (h:i<l.length) (j:Nat):(l.set i x).getD j d=if j=i then x else l.getD j d:=by
 simp only[AS,ZS];by_cases e:i=j
 .rw[Bq e,Bq h,Bq e.symm];rfl
 rw[As e,As (show ¬j=i by omega)]
theorem A5n {N:List AC} {i:Nat} (h:i<N.length) (v:Int×Int) (j:Nat):(A2s N i v).getD j (0,[])=if j=i then ((N.getD i (0,[])).1,(N.getD i (0,[])).2++[(v.1,(N.length:Int))]) else if j=N.length then (v.2,[]) else N.getD j (0,[]):=by
 unfold A2s;rw[A5m,Nm _ _ _ h,Ya];by_cases e1:j=i
 .rw[Bq e1,Bq (by omega),Bq e1]
 rw[As e1,As e1];by_cases e2:j<N.length
 .rw[Bq e2,As (by omega)]
 rw[As e2];by_cases a:j=N.length
 .rw[Bq a,Bq a]
 rw[As a,As a,AS,UV (by omega)];rfl
theorem TI2.add {h:AG} {m i k:Nat} {N:List AC} (a:TI2 h m i k N) (hi:i<N.length) (d:4096<=m) (hl:N.length<4096) {v:Int×Int} (v0:0<=v.2) (v1:v.2<(h.1.length:Int)):TI2 h m i (k+1) (A2s N i v):=by
 have b:=λj=>A5n hi v j;refine⟨by rw[A5l];omega,λx hx=>?_,λj c=>?_,?_,λj c=>?_⟩
 .unfold A2s at hx;rcases IN.1 hx with hx|hx
  .rcases AAy hx with hx|rfl
   .exact a.ty x hx
   exact(a.ty (N.getD i (0,[])) (AE N (0,[]) hi) :)
  rw[UM.1 hx];exact⟨v0,v1⟩
 .rw[b,As (by omega),As (by omega)];exact a.lo j c
 .rw[b,Bq rfl];have:=a.at';simp only[BY,IS];omega
 rw[b,As (by omega)];split
 .simp
 exact a.hi j c
theorem TI2.skip {h:AG} {m i k:Nat} {N:List AC} (a:TI2 h m i k N):TI2 h m i (k+1) N:=⟨a.len,a.ty,a.lo,by have:=a.at';omega,a.hi⟩
theorem TI2.next {h:AG} {m i k:Nat} {N:List AC} (a:TI2 h m i k N) (hk:k<=100):TI2 h m (i+1) 0 N:=⟨a.len,a.ty,λj b=>by
 by_cases e:j=i
 .have:=a.at';rw[e];omega
 exact a.lo j (by omega),a.hi (i+1) (by omega),λj b=>a.hi j (by omega)⟩
section
attribute [local go_sem] LS
attribute [local go_sem] A47 ACj ne_eq not_false_eq_true
end
section
attribute [local go_sem] KK Mi SM LR
end
section
open Go
end
theorem getD_set_ne {α:Type} (l:List α) (d v:α) {i j:Nat} (h:i≠j):(l.set i v).getD j d=l.getD j d:=by
 simp only[AS];rw[List.getElem?_set_ne h]
theorem ZL {α:Type} (l:List α) (d v:α) {i:Nat} (h:i<l.length):(l.set i v).getD i d=v:=by
 simp only[AS];rw[List.getElem?_set_self h];rfl
section
open Go
end
section
attribute [local go_sem] Ce
end
section
attribute [local go_sem] Ce
def oA (l:List (Int×Int)) (x:Int):Int:=l.foldl (λt a=>if a.1=x then a.2 else t) (-1)
end
section
attribute [local go_sem] Jp aR
end
abbrev AP (f:List AC) (n:Int):List (Int×Int):=(f.getD n.toNat (0,[])).2
def B2 (f:List AC):Int->List Int->Option Int
 | n,[]=>some n
 | n,x :: r=>if oA (AP f n) x<0 then none else B2 f (oA (AP f n) x) r
theorem Pn (f:List AC):∀(p:List Int) (n m x:Int),B2 f n p=some m->B2 f n (p++[x])=if oA (AP f m) x<0 then none else some (oA (AP f m) x)
 | [],n,m,x,h=>by
  simp only[B2,ZQ]at h;subst h;rfl
 | y :: p,n,m,x,h=>by
  simp only[B2,ZP]at h ⊢;split at h
  .cases h
  rename_i a;rw[As a];exact Pn f p _ m x h
theorem A0v {l:List (Int×Int)} (h:l.Pairwise (λa b=>a.1<b.1)) {a:Int×Int} (ha:a∈l):oA l a.1=a.2:=by
 have j:∀(l:List (Int×Int)) (t:Int),(∀b∈l,¬b.1=a.1)->l.foldl (λt b=>if b.1=a.1 then b.2 else t) t=t:=by
  intro l;induction l with
  | nil=>intro t _;rfl
  | cons b l i =>
   intro t hl;rw[UN,As (hl b (by simp))];exact i t (λc g=>hl c (by simp[g]))
 obtain⟨m,k,rfl⟩:=List.append_of_mem ha;rw[oN,Uf]at h;obtain⟨-,⟨d,-⟩,-⟩:=h;unfold oA;rw[AAp,UN,Bq rfl];exact j k _ (λb f e=>by have:=d b f;omega)
theorem Oe {f:List AC} (h:D0 f=true):AI f 0=f:=by
 obtain⟨d,hs,h0,_⟩:=Mx h;unfold D0 at h;simp only[An,YV]at h;obtain⟨_,a,b⟩:=h;have c:(Ax f).1=JT f 0:=by
  unfold Ax at a ⊢;split at a
  .rename_i hh;rw[Bq hh]
  rename_i hh;exact absurd a hh
 rw[c]at b;rw[<-Ie d hs (by omega) (by omega)];exact Mw b
theorem rQ {b:Int->Int×Int->Bool} {f:List AC} (h:∀i,i<f.length->∀a∈(f.getD i (0,[])).2,b (i:Int) a=true):GV b f f.length=f:=by
 apply Yd
 .exact KO _ _ _
 intro i h1 c;have e:f.getD i (0,[])=f[i]:=by simp[AS,c]
 have:=h i c;simp only[GV,AAn,AAj,A53];rw[List.filter_eq_self.2 this,e]
theorem rR {b:Int->Int×Int->Bool} {f:List AC} (c:D0 f=true) (h:∀i,i<f.length->∀a∈(f.getD i (0,[])).2,b (i:Int) a=true):XB b f=f:=by
 unfold XB;rw[rQ h];exact Oe c
theorem l0 {f:List AC} (hf:AN f):∀(k:Nat) (o:List Int) (n:Int),Iw f o->0<=n->n<f.length->n∉o->f.length-o.length<=k->CG f (k+1) o n=CG f k o n
 | 0,o,n,h,h0,h1,c,hk=>by
  have:=(h.snoc h0 h1 c).len;grind
 | k+1,o,n,h,h0,h1,c,hk=>by
  rw[Bv,Bv];have key:∀(l:List (Int×Int)) (t:List Int),(∀a∈l,0<=a.2/\a.2<(f.length:Int))->Iw f t->f.length-t.length<=k->l.foldl (AY f (k+1)) t=l.foldl (AY f k) t:=by
   intro l;induction l with
   | nil=>intros;rfl
   | cons a l m =>
    intro t hl j i;have e:=hl a (by simp);have hs:AY f (k+1) t a=AY f k t a:=by
     unfold AY;split
     .rfl
     rename_i hn;exact l0 hf k t a.2 j e.1 e.2 hn i
    have d:Iw f (AY f k t a)/\t <+: AY f k t a:=by grind [AY,DV]
    rw[UN,UN,hs];have:=d.2.length_le;exact m _ (λb g=>hl b (by simp[g])) d.1 (by omega)
  exact key _ _ (λa ha=>Au hf ha) (h.snoc h0 h1 c) (by simp only[BY,IS];omega)
theorem GG (f:List AC):Iw f []:=⟨by simp,λx hx=>by cases hx⟩
theorem KR {f:List AC} (hf:AN f) {n:Int} (h0:0<=n) (h1:n<f.length):∀m,CG f (f.length+m) [] n=CG f f.length [] n
 | 0=>rfl
 | m+1=>by
  rw[<-AGj,l0 hf _ [] n (GG f) h0 h1 (by simp) (by simp only[Yo];omega)];exact KR hf h0 h1 m
structure rS (Q R:List AC) (ψ:Int->Int) (C:Int->Prop):Prop where
 arc:∀i,C i->AP R (ψ i)=(AP Q i).map λa=>(a.1,ψ a.2)
 cl:∀i,C i->∀a∈AP Q i,C a.2
 inj:∀i j,C i->C j->ψ i=ψ j->i=j
theorem RH {Q R:List AC} {ψ:Int->Int} {C:Int->Prop} (h:rS Q R ψ C):∀(k:Nat) (t:List Int) (i:Int),(∀x∈t,C x)->C i->CG R k (t.map ψ) (ψ i)=(CG Q k t i).map ψ/\∀x∈CG Q k t i,C x
 | 0,t,i,c,hi=>⟨rfl,c⟩
 | k+1,t,i,c,hi=>by
  have key:∀(l:List (Int×Int)) (t:List Int),(∀a∈l,C a.2)->(∀x∈t,C x) ->
    (l.map λa=>(a.1,ψ a.2)).foldl (AY R k) (t.map ψ)=(l.foldl (AY Q k) t).map ψ/\∀x∈l.foldl (AY Q k) t,C x:=by
   intro l;induction l with
   | nil=>intro t _ c;exact⟨rfl,c⟩
   | cons a l m =>
    intro t hl c;have ha:=hl a (by simp);have hs:AY R k (t.map ψ) (a.1,ψ a.2)=(AY Q k t a).map ψ/\∀x∈AY Q k t a,C x:=by
     unfold AY;by_cases d:a.2∈t
     .grind
     have j:¬ψ a.2∈t.map ψ:=by
      intro hh;obtain⟨x,hx,e⟩:=IF.1 hh;exact d (h.inj x a.2 (c x hx) ha e▸hx)
     rw[As d];simp only[As j];exact RH h k t a.2 c ha
    rw[UY,UN,UN,hs.1];exact m _ (λb g=>hl b (by simp[g])) hs.2
  rw[Bv,Bv];have e:t.map ψ++[ψ i]=(t++[i]).map ψ:=by simp
  have f:(R.getD (ψ i).toNat (0,[])).2=(AP Q i).map λa=>(a.1,ψ a.2):=h.arc i hi;rw[f,e];refine key _ _ (h.cl i hi) λx hx=>?_;grind
theorem l9 {o:List Int} {ψ:Int->Int} {x:Int} (h:∀y∈o,ψ y=ψ x->y=x):BE (o.map ψ) (ψ x)=BE o x:=by
 have hi:(o.map ψ).idxOf (ψ x)=o.idxOf x:=by
  induction o with
  | nil=>rfl
  | cons y o b =>
   rw[UY,List.idxOf_cons,List.idxOf_cons];have a:=h y (by simp);by_cases e:y=x
   .subst e;simp
   grind
 grind [BE]
theorem ZM {Q R:List AC} {ψ:Int->Int} {C:Int->Prop} (h:rS Q R ψ C) (g:AN Q) (f:C 0) (h0:ψ 0=0) (l:0<Q.length) (m:Q.length<=R.length)
  (hty:∀i,C i->(R.getD (ψ i).toNat (0,[])).1=(Q.getD i.toNat (0,[])).1):AI R 0=AI Q 0:=by
 have c:CG R R.length [] 0=(CG Q Q.length [] 0).map ψ/\∀x∈CG Q Q.length [] 0,C x:=by
  have h1:=RH h R.length [] 0 (λx hx=>by cases hx) f;rw[h0]at h1;have k:=KR g (n:=0) (by omega) (by omega) (R.length-Q.length)
  simp_all
 unfold AI;rw[c.1];generalize CG Q Q.length [] 0=o at *;rw[YU];refine Of λi hi=>?_;have b:=c.2 i hi;show CL R (o.map ψ) (ψ i)=CL Q o i;unfold CL;have d:(R.getD (ψ i).toNat (0,[])).2=(AP Q i).map λa=>(a.1,ψ a.2):=h.arc i b;rw[hty i b,d,YU];refine Yp _ (Of λa ha=>?_);show (a.1,BE (o.map ψ) (ψ a.2))=(a.1,BE o a.2);rw[l9 λy j e=>h.inj y a.2 (c.2 y j) (h.cl i b a ha) e]
structure Ord (f:List AC) (o:List Int):Prop where
 ok:Iw f o
 zero:o.getD 0 0=0/\0<o.length
 cl:∀n∈o,∀a∈AP f n,a.2∈o
theorem A5o {f:List AC} (hf:AN f) (h0:0<f.length):[0] <+: CG f f.length [] 0:=by
 obtain⟨k,hk⟩:∃k,f.length=k+1:=⟨f.length-1,by omega⟩;rw[hk,Bv];exact(EF (DV hf k) _ _ (λa ha=>Au hf ha) ((GG f).snoc (by omega) (by omega) (by simp))).2
theorem A5p {f:List AC} (hf:AN f) (h0:0<f.length):Ord f (CG f f.length [] 0):=by
 have h1:=DV hf f.length [] 0 (GG f) (by omega) (by omega) (by simp);have d:=Id hf f.length [] 0 (GG f) (by omega) (by omega) (by simp) (by simp);have b:=A5o hf h0;refine⟨h1.1,?_,λn hn a ha=>?_⟩
 .obtain⟨t,c⟩:=b;rw[<-c];exact⟨rfl,by simp⟩
 grind
theorem FL {o:List Int} (hn:o.Nodup) {i:Nat} (hi:i<o.length):BE o (o.getD i 0)=(i:Int):=by grind [BE]
theorem BX {o:List Int} {x:Int} (h:x∈o):0<=BE o x/\BE o x<(o.length:Int)/\o.getD (BE o x).toNat 0=x:=by
 unfold BE;rw[Bq h];have hl:=List.idxOf_lt_length_of_mem h
 simp_all
theorem A2t (f:List AC):(AI f 0).length=(CG f f.length [] 0).length:=by simp[AI]
theorem A2u {f:List AC} {i:Nat} (hi:i<(CG f f.length [] 0).length):(AI f 0).getD i (0,[])=CL f (CG f f.length [] 0) ((CG f f.length [] 0).getD i 0):=by grind [AI]
theorem mA (a:Int->Int×Int->Bool) {f:List AC} {n:Int} (h0:0<=n) (h1:n<f.length):(GV a f f.length).getD n.toNat (0,[])=((f.getD n.toNat (0,[])).1,(AP f n).filter (a n)):=by grind [GV,A53]
theorem A9l (l:List (Int×Int)) (x:Int):oA l x=-1\/∃a∈l,a.1=x/\a.2=oA l x:=by
 have key:∀(l:List (Int×Int)) (t:Int),l.foldl (λt a=>if a.1=x then a.2 else t) t=t\/∃a∈l,a.1=x/\a.2=l.foldl (λt a=>if a.1=x then a.2 else t) t:=by
  intro l;induction l with
  | nil=>intro t;exact .inl rfl
  | cons b l c =>
   intro t;rw[UN];by_cases h:b.1=x
   .rw[Bq h];rcases c b.2 with e|⟨a,ha,e⟩
    .exact .inr ⟨b,by simp,h,e.symm⟩
    exact .inr ⟨a,by simp[ha],e⟩
   rw[As h];rcases c t with e|⟨a,ha,e⟩
   .exact .inl e
   exact .inr ⟨a,by simp[ha],e⟩
 exact key l (-1)
theorem A5q {l:List (Int×Int)} {x:Int} (h:0<=oA l x):∃a∈l,a.1=x/\a.2=oA l x:=by
 rcases A9l l x with e|h1
 .omega
 exact h1
theorem A5r {f:List AC} (hs:HS f) (n:Int):(AP f n).Pairwise (λa b=>a.1<b.1):=(HH _).1 (qS hs n).1
theorem A2v {f:List AC} (hf:AN f) (hs:HS f) (h0:0<f.length) (a:Int->Int×Int->Bool) {n:Int} (hn:n∈CG (GV a f f.length) f.length [] 0) :
  AP (XB a f) (BE (CG (GV a f f.length) f.length [] 0) n)=((AP f n).filter (a n)).map (Gm (CG (GV a f f.length) f.length [] 0)):=by
 obtain⟨h,l⟩:=aU hf hs a;have c:=KO a f f.length;have e:=A5p h (by omega);have d:=λi=>A2u (f:=GV a f f.length) (i:=i);rw[c]at e d;obtain⟨j,k,g⟩:=BX hn;have b:=e.ok.rng n hn;rw[c]at b;show ((XB a f).getD _ (0,[])).2=_;have:XB a f=AI (GV a f f.length) 0:=rfl;rw[this,d _ (by omega),g];unfold CL;rw[mA a b.1 b.2]
theorem SW {f:List AC}:∀(p:List Int) (n:Int) (z:List Int),B2 f n p=none->B2 f n (p++z)=none
 | [],_,_,h=>by cases h
 | x :: p,n,z,h=>by
  simp only[B2,ZP]at h ⊢;split
  .rfl
  rename_i a;rw[As a]at h;exact SW p _ z h
theorem bF {f:List AC} {p:List Int} {e y:Int} (h:B2 f 0 (p++[e])=some y):∃x,B2 f 0 p=some x/\∃a∈AP f x,a.1=e/\a.2=y:=by
 cases hh:B2 f 0 p with
 | none=>rw[SW p 0 [e] hh]at h;cases h
 | some x =>
  have b:=Pn f p 0 x e hh;rw[h]at b;split at b
  .cases b
  rename_i c;obtain⟨a,ha,e1,e2⟩:=A5q (l:=AP f x) (x:=e) (by omega);exact⟨x,rfl,a,ha,e1,by rw[e2];exact(AFU b).symm⟩
structure It (h:AG) (a b:List AC) (m:Int->Int):Prop where
 zero:m 0=0
 rng:∀i,0<=i->i<(a.length:Int)->0<=m i/\m i<(b.length:Int)
 ty:∀i,0<=i->i<(a.length:Int)->A1 h (a.getD i.toNat (0,[])).1 (b.getD (m i).toNat (0,[])).1=true
 arc:∀i,0<=i->i<(a.length:Int)->∀x∈AP a i,Ao (AP b (m i)) x.1=m x.2
theorem FM {l:List (Int×Int)} (h:l.Pairwise (λa b=>a.1<b.1)) {a:Int×Int} (ha:a∈l):Ao l a.1=a.2:=by
 induction l with
 | nil=>cases ha
 | cons b l d =>
  obtain⟨h1,c⟩:=Uf.1 h;simp only[Ao];rcases By.1 ha with rfl|ha
  .rw[Bq rfl]
  grind
theorem KS {l:List (Int×Int)} {e:Int} (h:0<=Ao l e):∃a∈l,a.1=e/\a.2=Ao l e:=by
 induction l with
 | nil=>simp only[Ao]at h;omega
 | cons b l c =>
  simp only[Ao]at h ⊢;split
  .grind
  grind
theorem ABl {f:List AC} (hs:HS f) {n:Int} {a:Int×Int} (ha:a∈AP f n):Ao (AP f n) a.1=a.2:=FM (A5r hs n) ha
def RO (f:List AC):Prop:=∀i:Int,0<i->i<(f.length:Int)->∃j,0<=j/\j<i/\∃x∈AP f j,x.2=i
structure MH (a:List AC) (m:Int->Int) (M:List Int):Prop where
 len:M.length=a.length
 val:∀k:Nat,k<a.length->M.getD k 0=-1\/M.getD k 0=m (k:Int)
theorem LU {M:List Int} {k j:Nat} {v:Int} (hk:k<M.length):(M.set k v).getD j 0=if k=j then v else M.getD j 0:=by grind
theorem mB {a:List AC} (ha:AN a) {m:Int->Int} {n:Int} (d:∀i,0<=i->i<(a.length:Int)->0<=m i) {bl:List (Int×Int)}:∀ {l:List (Int×Int)} {M:List Int},(∀x∈l,x∈AP a n)->(∀x∈l,Ao bl x.1=m x.2)->MH a m M ->
  ∃b,E0 bl l M=some b/\MH a m b/\(∀k:Nat,k<a.length->M.getD k 0=m (k:Int)->b.getD k 0=m (k:Int))/\∀x∈l,b.getD x.2.toNat 0=m x.2
 | [],M,_,_,h=>⟨M,rfl,h,λ_ _ h=>h,λx hx=>by cases hx⟩
 | x :: l,M,hl,g,h=>by
  have f:=Au ha (hl x (by simp));have hx:=g x (by simp);have v:=d x.2 f.1 f.2;have o:x.2.toNat<a.length:=by omega
  have j:((x.2.toNat:Nat):Int)=x.2:=by omega
  have r:=h.val x.2.toNat o;rw[j]at r;have t:¬Mm bl M x=true:=by grind [Mm]
  have q:MH a m (M.set x.2.toNat (Ao bl x.1)):=by
   refine⟨by rw[Ya];exact h.len,λk hk=>?_⟩;rw[LU (by rw[h.len];exact o)];split
   .rename_i e;right;rw[hx,<-e,j]
   exact h.val k hk
  obtain⟨b,e1,e2,p,s⟩:=mB ha d (l:=l) (λy c=>hl y (by simp[c])) (λy c=>g y (by simp[c])) q;refine⟨b,?_,e2,λk hk u=>p k hk ?_,λy c=>?_⟩
  .grind [E0]
  .grind
  grind
theorem bG {h:AG} {a b:List AC} (ha:AN a) (p:RO a) {m:Int->Int} (c:It h a b m):∀(r i:Nat) (M:List Int),r+i=a.length->MH a m M->(0<a.length->M.getD 0 0=0) ->
  (∀k:Nat,k<a.length->(∃j:Int,0<=j/\j<(i:Int)/\∃x∈AP a j,x.2=(k:Int))->M.getD k 0=m (k:Int))->∃d,GA h b (a.drop i) i M=some d
 | 0,i,M,A,_,_,_=>by
  rw[TO (by omega)];exact⟨M,rfl⟩
 | r+1,i,M,A,u,f,v=>by
  have hi:i<a.length:=by omega
  have z:M.getD i 0=m (i:Int):=by
   cases i with
   | zero =>
    rw[f hi];exact c.zero.symm
   | succ i =>
    obtain⟨j,B,C,x,hx,e⟩:=p ((i+1:Nat):Int) (by omega) (by omega);exact v (i+1) hi ⟨j,B,C,x,hx,e⟩
  have F:=c.rng (i:Int) (by omega) (by omega);have hty:=c.ty (i:Int) (by omega) (by omega);have w:=c.arc (i:Int) (by omega) (by omega);rw[UQ]at hty;have y:¬Hl h b (a.getD i (0,[])) (M.getD i 0)=true:=by grind [Hl]
  rw[Jn h b a M hi,As y,z];have o:AP a (i:Int)=(a.getD i (0,[])).2:=by rw[AP,UQ]
  obtain⟨d,e1,e2,q,D⟩:=mB (n:=(i:Int)) ha (λk s t=>(c.rng k s t).1) (bl:=(b.getD (m (i:Int)).toNat (0,[])).2) (l:=(a.getD i (0,[])).2) (λx hx=>by rw[o];exact hx) (λx hx=>w x (by rw[o];exact hx)) u;rw[e1];simp only;refine bG ha p c r (i+1) d (by omega) e2 (λg=>?_) (λk hk E=>?_)
  .have:=q 0 g (by rw[f g];exact c.zero.symm);rw[this];exact c.zero
  grind
theorem A9m {h:AG} {a b:List AC} (ha:AN a) (h0:0<a.length) (f:RO a) {m:Int->Int} (c:It h a b m):Wv h a b=true:=by
 have g:((List.replicate a.length (-1:Int)).set 0 0).getD 0 0=0:=by rw[LU (by simpa using h0),Bq rfl]
 obtain⟨i,e⟩:=bG ha f c a.length 0 ((List.replicate a.length (-1)).set 0 0) (by omega) ⟨by simp,λk hk=>by
  rw[LU (by simpa using h0)];split
  .rename_i e;right;rw[<-e];exact c.zero.symm
  .left;simp[AS,oF,hk]⟩ (λ_=>g) (λk hk d=>by
  obtain⟨j,l,n,_⟩:=d;omega)
 grind [Wv,eO]
theorem mC {b:List AC} {bl:List (Int×Int)} (g:0<b.length) (c:∀x∈bl,x.2<(b.length:Int)) {n:Nat}:∀ {l:List (Int×Int)} {M a:List Int},(∀x∈l,0<=x.2/\x.2<(n:Int))->M.length=n->(∀k,M.getD k 0<(b.length:Int))->E0 bl l M=some a ->
  a.length=n/\(∀k,a.getD k 0<(b.length:Int))/\(∀k,0<=M.getD k 0->a.getD k 0=M.getD k 0)/\∀x∈l,0<=a.getD x.2.toNat 0/\Ao bl x.1=a.getD x.2.toNat 0
 | [],M,a,_,hn,hk,h=>by
  have:M=a:=AFU h;grind
 | x :: l,M,a,hl,hn,hk,h=>by
  simp only[E0]at h;split at h
  .cases h
  rename_i q;have s:=hl x (by simp);have j:x.2.toNat<M.length:=by omega
  have i:=LN (n:=(b.length:Int)) (by omega) (l:=bl) x.1 c;obtain⟨e,f,m,o⟩:=mC g c (l:=l) (λy d=>hl y (by simp[d])) (by rw[Ya];exact hn) (λk=>by
   rw[LU j];split
   .exact i
   exact hk k) h
  have p:0<=Ao bl x.1/\(0<=M.getD x.2.toNat 0->M.getD x.2.toNat 0=Ao bl x.1):=by grind [Mm]
  refine⟨e,f,λk r=>?_,λy d=>?_⟩
  .grind
  grind
theorem bH {d:AG} {a b:List AC} (ha:AN a) (f:AN b) (g:0<b.length):∀(r i:Nat) (M c:List Int),r+i=a.length->M.length=a.length->(∀k,M.getD k 0<(b.length:Int))->GA d b (a.drop i) i M=some c ->
  (∀k,c.getD k 0<(b.length:Int))/\(∀k,0<=M.getD k 0->c.getD k 0=M.getD k 0)/\∀k:Nat,i<=k->k<a.length->0<=c.getD k 0/\A1 d (a.getD k (0,[])).1 (b.getD (c.getD k 0).toNat (0,[])).1=true/\∀x∈(a.getD k (0,[])).2,0<=c.getD x.2.toNat 0/\Ao (b.getD (c.getD k 0).toNat (0,[])).2 x.1=c.getD x.2.toNat 0
 | 0,i,M,c,q,_,hk,h=>by
  rw[TO (by omega)]at h;have:M=c:=AFU h;grind
 | r+1,i,M,c,q,hn,hk,h=>by
  have hi:i<a.length:=by omega
  rw[Jn d b a M hi]at h;split at h
  .cases h
  rename_i y;have w:0<=M.getD i 0/\A1 d (a.getD i (0,[])).1 (b.getD (M.getD i 0).toNat (0,[])).1=true:=by grind [Hl,A1]
  cases e:E0 (b.getD (M.getD i 0).toNat (0,[])).2 (a.getD i (0,[])).2 M with
  | none=>rw[e]at h;cases h
  | some j =>
   rw[e]at h;simp only at h;obtain⟨l,m,u,v⟩:=mC g (λx hx=>(EC f _ x hx).2) (n:=a.length) (λx hx=>EC ha i x hx) hn hk e;obtain⟨s,B,t⟩:=bH ha f g r (i+1) j c (by omega) l m h;have p:∀k,0<=M.getD k 0->c.getD k 0=M.getD k 0:=λk z=>by grind
   refine⟨s,p,λk h1 o=>?_⟩;by_cases A:k=i
   .grind
   exact t k (by omega) o
theorem ABm {h:AG} {a b:List AC} (ha:AN a) (j:0<a.length) (o:AN b) (p:0<b.length) (c:Wv h a b=true):∃m,It h a b m:=by
 unfold Wv eO at c;cases l:GA h b a 0 ((List.replicate a.length (-1)).set 0 0) with
 | none=>rw[l]at c;cases c
 | some M =>
  have n:((List.replicate a.length (-1:Int)).set 0 0).getD 0 0=0:=by rw[LU (by simpa using j),Bq rfl]
  obtain⟨q,r,d⟩:=bH ha o p a.length 0 ((List.replicate a.length (-1)).set 0 0) M (by omega) (by simp) (λk=>by
   rw[LU (by simpa using j)];split
   .omega
   rw[AS,oF];split
   .show (-1:Int)<_;omega
   show (0:Int)<_;omega) (by rw[Ye];exact l)
  have g:=r 0 (by rw[n];omega);rw[n]at g;refine⟨λi=>M.getD i.toNat 0,g,λi e f=>⟨(d i.toNat (by omega) (by omega)).1,q _⟩,λi e f=>(d i.toNat (by omega) (by omega)).2.1,λi e f x hx=>((d i.toNat (by omega) (by omega)).2.2 x hx).2⟩
theorem RI {f:List AC} (hf:AN f):∀(k:Nat) (t:List Int) (n:Int),Iw f t->0<=n->n<f.length->n∉t ->
  ∀q,t.length<q->q<(CG f k t n).length->∃j,j<q/\∃a∈AP f ((CG f k t n).getD j 0),a.2=(CG f k t n).getD q 0
 | 0,t,n,h,h0,h1,x,q,z,d=>by simp only[CG]at d;omega
 | k+1,t,n,h,h0,h1,x,q,z,d=>by
  have key:∀(l:List (Int×Int)) (u:List Int),(∀a∈l,a∈AP f n)->Iw f u->t++[n] <+: u ->
    (∀q,t.length<q->q<u.length->∃j,j<q/\∃a∈AP f (u.getD j 0),a.2=u.getD q 0) ->
    ∀q,t.length<q->q<(l.foldl (AY f k) u).length->∃j,j<q/\∃a∈AP f ((l.foldl (AY f k) u).getD j 0),a.2=(l.foldl (AY f k) u).getD q 0:=by
   intro l;induction l with
   | nil=>intro u _ _ _ hu q o c;exact hu q o c
   | cons a l F =>
    intro u hl hu s D;have ha:=hl a (by simp);have g:=Au hf ha;rw[UN];by_cases p:a.2∈u
    .grind [AY]
    have hs:AY f k u a=CG f k u a.2:=by unfold AY;rw[As p]
    rw[hs];obtain⟨B,w⟩:=DV hf k u a.2 hu g.1 g.2 p;have r:∀j,j<u.length->(CG f k u a.2).getD j 0=u.getD j 0:=λj C=>by
     obtain⟨v,m⟩:=w;rw[<-m];simp only[AS];rw[Ug C]
    have E:u.getD t.length 0=n:=by
     obtain⟨v,m⟩:=s;rw[<-m];simp[AS]
    have A:t.length<u.length:=by
     have:=s.length_le;simp at this;omega
    refine F (CG f k u a.2) (λb i=>hl b (by simp[i])) B (s.trans w) (λq o c=>?_);by_cases y:q<u.length
    .obtain⟨j,G,b,i,e⟩:=D q o y;refine⟨j,G,b,?_,?_⟩
     .rw[r j (by omega)];exact i
     rw[r q y];exact e
    by_cases d:q=u.length
    .subst d;refine⟨t.length,A,a,?_,?_⟩
     .rw[r _ A,E];exact ha
     cases k with
     | zero=>simp only[CG]at c;omega
     | succ k =>
      have hp:u++[a.2] <+: CG f (k+1) u a.2:=by
       rw[Bv];exact(EF (DV hf k) _ _ (λb i=>Au hf i) (hu.snoc g.1 g.2 p)).2
      obtain⟨v,m⟩:=hp;rw[<-m];simp[AS]
    exact RI hf k u a.2 hu g.1 g.2 p q (by omega) c
  rw[Bv]at d ⊢;exact key _ (t++[n]) (λa ha=>ha) (h.snoc h0 h1 x) (iF _) (λq o c=>by simp only[BY,IS]at c;omega) q z d
theorem A9n {f:List AC} (hf:AN f) (hs:HS f) (h0:0<f.length) (b:Int->Int×Int->Bool):RO (XB b f):=by
 obtain⟨g,t⟩:=aU hf hs b;have h:=KO b f f.length;have c:=A5p g (by omega);have k:=A2t (GV b f f.length);have m:=RI g (GV b f f.length).length [] 0 (GG _) (by omega) (by omega) (by simp);have q:=λn hn=>A2v hf hs h0 b (n:=n) hn;rw[h]at c k m;have r:(XB b f).length=(CG (GV b f f.length) f.length [] 0).length:=k;intro i s p;rw[r]at p;generalize CG (GV b f f.length) f.length [] 0=o at *;obtain⟨j,u,a,ha,e⟩:=m i.toNat (by simp only[Yo];omega) (by omega);have l:o.getD j 0∈o:=AE _ 0 (by omega);have d:=c.ok.rng _ l;rw[h]at d;rw[AP,mA b d.1 d.2]at ha;refine⟨(j:Int),by omega,by omega,Gm o a,?_,?_⟩
 .have:=q _ l;rw[FL c.ok.nd (by omega)]at this;rw[this];exact IF.2 ⟨a,ha,rfl⟩
 show BE o a.2=i;rw[e,FL c.ok.nd (by omega)];omega
theorem rT (x:List Int):Mj x x=true:=by grind [Mj,Hz,TQ]
theorem Fj (h:AG) (t:Int):A1 h t t=true:=rT _
abbrev EM (p:List Int) (n:Int):Int:=p.getD n.toNat 0
structure Fo (p:List Int) (rk:Int->Nat):Prop where
 rng:∀n,0<=n->n<(p.length:Int)->0<=EM p n/\EM p n<(p.length:Int)
 dec:∀n,0<=n->n<(p.length:Int)->EM p n≠n->rk (EM p n)<rk n
inductive Rt (p:List Int):Int->Int->Prop
 | base {n:Int} (h:EM p n=n):Rt p n n
 | step {n r:Int} (h:EM p n≠n) (h2:Rt p (EM p n) r):Rt p n r
theorem Rt.det {p:List Int} {n r s:Int} (h:Rt p n r) (g:Rt p n s):r=s:=by
 induction h with
 | base h =>
  cases g with
  | base g=>rfl
  | step g _=>exact absurd h g
 | step h _ b =>
  cases g with
  | base g=>exact absurd g h
  | step _ a=>exact b a
theorem Rt.root {p:List Int} {n r:Int} (h:Rt p n r):EM p r=r:=by
 induction h with
 | base h=>exact h
 | step _ _ a=>exact a
theorem Fo.ex {p:List Int} {b:Int->Nat} (h:Fo p b):∀(k:Nat) (n:Int),b n<=k->0<=n->n<(p.length:Int)->∃r,Rt p n r/\0<=r/\r<(p.length:Int)
 | 0,n,hk,h0,h1=>by
  by_cases e:EM p n=n
  .exact⟨n,.base e,h0,h1⟩
  have:=h.dec n h0 h1 e;omega
 | k+1,n,hk,h0,h1=>by
  by_cases e:EM p n=n
  .exact⟨n,.base e,h0,h1⟩
  have g:=h.dec n h0 h1 e;have a:=h.rng n h0 h1;obtain⟨r,c,d,f⟩:=h.ex k (EM p n) (by omega) a.1 a.2;exact⟨r,.step e c,d,f⟩
theorem Fo.root {p:List Int} {a:Int->Nat} (h:Fo p a) {n:Int} (h0:0<=n) (h1:n<(p.length:Int)):∃r,Rt p n r/\0<=r/\r<(p.length:Int):=h.ex (a n) n (NO _) h0 h1
theorem DD {p:List Int} {n v:Int} (h0:0<=n) (h1:n<(p.length:Int)) (x:Int) (hx:0<=x):EM (p.set n.toNat v) x=if x=n then v else EM p x:=by
 unfold EM;rw[LU (by omega)];by_cases e:x=n
 .subst e;rw[Bq rfl,Bq rfl]
 rw[As (by omega),As e]
def GH (p:List Int) (n:Int):List Int:=p.set n.toNat (EM p (EM p n))
theorem SX (p:List Int) (n:Int):(GH p n).length=p.length:=by simp[GH]
theorem A5s {p:List Int} {d:Int->Nat} (h:Fo p d) {n:Int} (h0:0<=n) (h1:n<(p.length:Int)) (hn:EM p n≠n):Fo (GH p n) d:=by
 have c:=h.rng n h0 h1;have f:=h.rng _ c.1 c.2;have g:=h.dec n h0 h1 hn;have i:d (EM p (EM p n))<=d (EM p n):=by
  by_cases e:EM p (EM p n)=EM p n
  .rw[e];exact NO _
  exact AG0 (h.dec _ c.1 c.2 e)
 refine⟨λx a b=>?_,λx a b hx=>?_⟩
 .rw[SX]at b ⊢;unfold GH;rw[DD h0 h1 x a];split
  .exact f
  exact h.rng x a b
 rw[SX]at b;unfold GH at hx ⊢;rw[DD h0 h1 x a]at hx ⊢;split
 .rename_i e;subst e;omega
 rename_i e;rw[As e]at hx;exact h.dec x a b hx
theorem mD {p:List Int} {l:Int->Nat} (h:Fo p l) {n:Int} (h0:0<=n) (h1:n<(p.length:Int)) (hn:EM p n≠n):∀(k:Nat) (x r:Int),l x<=k->0<=x->x<(p.length:Int)->Rt p x r->Rt (GH p n) x r:=by
 intro k;induction k with
 | zero =>
  intro x r hk a f hx;have e:EM p x=x:=If λe=>by have:=h.dec x a f e;omega
  have c:x≠n:=λe2=>hn (e2▸e);have:=hx.det (.base e);rw[this];refine .base ?_;unfold GH;rw[DD h0 h1 x a,As c];exact e
 | succ k i =>
  intro x r hk a f hx;by_cases e:EM p x=x
  .have c:x≠n:=λe2=>hn (e2▸e);have:=hx.det (.base e);rw[this];refine .base ?_;unfold GH;rw[DD h0 h1 x a,As c];exact e
  have s:=h.dec x a f e;have b:=h.rng x a f;have d:Rt p (EM p x) r:=by
   cases hx with
   | base g=>exact absurd g e
   | step _ g=>exact g
  by_cases c:x=n
  .subst c;by_cases e2:EM p (EM p x)=EM p x
   .have:=d.det (.base e2);rw[this]at d ⊢;refine .step (r:=EM p x) ?_ ?_
    .unfold GH;rw[DD h0 h1 x a,Bq rfl,e2];exact e
    have hp:EM (GH p x) x=EM p x:=by
     unfold GH;rw[DD h0 h1 x a,Bq rfl,e2]
    rw[hp];exact i _ _ (by omega) b.1 b.2 d
   have o:=h.dec _ b.1 b.2 e2;have j:=h.rng _ b.1 b.2;have q:Rt p (EM p (EM p x)) r:=by
    cases d with
    | base g=>exact absurd g e2
    | step _ g=>exact g
   have hp:EM (GH p x) x=EM p (EM p x):=by
    unfold GH;rw[DD h0 h1 x a,Bq rfl]
   refine .step ?_ ?_
   .rw[hp];intro m;rw[m]at o;omega
   rw[hp];exact i _ _ (by omega) j.1 j.2 q
  have hp:EM (GH p n) x=EM p x:=by
   unfold GH;rw[DD h0 h1 x a,As c]
  refine .step ?_ ?_
  .rw[hp];exact e
  rw[hp];exact i _ _ (by omega) b.1 b.2 d
def Em (p q:List Int):Prop:=p.length=q.length/\∀x r,0<=x->x<(p.length:Int)->(Rt p x r↔Rt q x r)
theorem Em.refl (p:List Int):Em p p:=⟨rfl,λ_ _ _ _=>Iff.rfl⟩
theorem Em.trans {p q s:List Int} (h:Em p q) (g:Em q s):Em p s :=
 ⟨h.1.trans g.1,λx r a b=>(h.2 x r a b).trans (g.2 x r a (by rw[<-h.1];exact b))⟩
theorem rU {p:List Int} {c:Int->Nat} (h:Fo p c) {n:Int} (h0:0<=n) (h1:n<(p.length:Int)) (hn:EM p n≠n):Em p (GH p n):=by
 refine⟨(SX p n).symm,λx r a b=>⟨λhx=>mD h h0 h1 hn _ x r (NO _) a b hx,λhx=>?_⟩⟩;obtain⟨s,hs,-,-⟩:=h.root a b;have:=mD h h0 h1 hn _ x s (NO _) a b hs;have e:=this.det hx;rw[<-e];exact hs
def Y2 (h:AG) (p ty:List Int) (ar:List (List (Int×Int))):List (Nat×Obj):=[(1,.box 111 true [.p Du h,.sr 2 T3 0 p.length,.sr 3 T3 0 ty.length,.sr 4 DF 0 ar.length]),(2,.arr 3 T3 p),(3,.arr 3 T3 ty),(4,.arr 91 DF ar)]
theorem fO (h:AG) (ty:List Int) (ar:List (List (Int×Int))) (d:Int->Nat) {p:List Int} (hp:Fo p d) {n:Int} (h0:0<=n) (h1:n<(p.length:Int)):BA Tryz.prog 136 [.bp 1 [] 0,.p T3 n] (Y2 h p ty ar) [1]
  (λres A=>∃(t:List Int) (r:Int),res=.p T3 r/\A=Y2 h t ty ar/\Fo t d/\Em p t/\Rt p n r):=by
 refine Ki [0,1,4,13] [] [] Tryz.func136 Tryz.ntmps136 AH ?_;intro w0 K O0 ρ0 j C D;simp only[Aj,Y2];repeat'(first|exact trivial|apply eS rfl|refine rX j ?_ ?_)
 refine AK (ι:={x:List Int×Int//Fo x.1 d/\Em p x.1/\0<=x.2/\x.2<(p.length:Int)/\(∀r,Rt x.1 x.2 r->Rt p n r)}) (λx=>⟨[(0,.bp 1 [] 0),(1,.p T3 x.1.2)],[(1,.box 111 true [.p Du h,.sr 2 T3 0 p.length,.sr 3 T3 0 ty.length,.sr 4 DF 0 ar.length]),(2,.arr 3 T3 x.1.1),(3,.arr 3 T3 ty),(4,.arr 91 DF ar)]⟩) (λx=>d x.1.2) ⟨(p,n),hp,Em.refl p,h0,h1,λ_ g=>g⟩ (eW [(1,.nm 1),(2,.nm 2),(3,.nm 3),(4,.nm 4)]) (λx=>?_)
 obtain⟨⟨q,m⟩,b,hs,a,f,s⟩:=x;simp only at b hs a f s;have o:q.length=p.length:=hs.1.symm;have c:=b.rng m a (by omega);simp only;repeat'(first|exact trivial|apply eS rfl|apply AB|refine rX j ?_ ?_|refine rC ?_ ?_<;>intro i<;>try(cases i;done))
 .exact⟨a,f⟩
 .exact⟨⟨a,f⟩,⟨c.1,by rw[<-o];exact c.2⟩,a,f⟩
 .exact⟨a,f⟩
 .have k:EM q m≠m:=i;have B:=b.dec m a (by omega) k;have u:=b.rng _ c.1 c.2;have w:d (EM q (EM q m))<=d (EM q m):=by
   by_cases e:EM q (EM q m)=EM q m
   .rw[e];exact NO _
   exact AG0 (b.dec _ c.1 c.2 e)
  have v:=rU b a (by omega) k;have l:EM (GH q m) m=EM q (EM q m):=by
   unfold GH;rw[DD a (by omega) m a,Bq rfl]
  refine⟨⟨(GH q m,EM q (EM q m)),A5s b a (by omega) k,hs.trans v,u.1,by rw[<-o];exact u.2,λr z=>s r ?_⟩,by simp only;omega,AD [(1,.nm 1),(2,.nm 2),(3,.nm 3),(4,.nm 4)] rfl rfl ?_ ?_⟩
  .refine(v.2 m r a (by omega)).2 (.step ?_ ?_)
   .rw[l];intro e;rw[e]at w;omega
   rw[l];exact z
  .refine eM ?_;rfl
  refine eM ?_;exact l
 have y:EM q m=m:=by simpa using i
 refine Ev.ent (σ':=⟨[(4,.p T3 m)],Y2 h q ty ar⟩) ?_ (AD [(1,.nm 1),(2,.nm 2),(3,.nm 3),(4,.nm 4)] rfl rfl ?_ ?_)
 .exact fM j [.tmp 4] (.p T3 m) eT ⟨q,m,rfl,rfl,b,hs,s m (.base y)⟩
 .unfold Y2;rw[o];exact eN
 exact eN
def Bg (b n:Nat):List Int:=(List.range n).map λi=>((b+i:Nat):Int)
def AR (b:Nat) (l:List (Int×Int)):List (Int×Int):=l.map λa=>(a.1,a.2+(b:Int))
def CX (l:List AC) (n:Nat):List Int:=(l.take n).map λx=>x.1
def EX (b:Nat) (l:List AC) (n:Nat):List (List (Int×Int)):=(l.take n).map λx=>AR b x.2
theorem rV (b n:Nat):Bg b (n+1)=Bg b n++[((b+n:Nat):Int)]:=by simp[Bg,Yf]
theorem H0 (b n:Nat):(Bg b n).length=n:=by simp[Bg]
theorem rW (h:AG) (p ty:List Int) (ar:List (List (Int×Int))) (l:List AC) (hl:AN l) (I:p.length<=100000) (J:ty.length=p.length) (D:ar.length=p.length) :
  BA Tryz.prog 85 [.bp 1 [] 0,.p Fq l] (Y2 h p ty ar) [1]
  (λres C=>res=.raw (.tuple #[])/\C=Y2 h (p++Bg p.length l.length) (ty++CX l l.length) (ar++EX p.length l l.length)):=by
 refine Ki [0,1,4,5,6,7,9,15,16,17,18,46,47,48,49] [] [] Tryz.func85 Tryz.ntmps85 AH ?_;intro w0 K O0 ρ0 c G H;have F:=hl.1;simp only[Aj,Y2];repeat'(first|exact trivial|apply eS rfl|refine rX c ?_ ?_)
 refine AK (ι:={i:Nat//i<=l.length}) (λi=>⟨[(0,.bp 1 [] 0),(4,.p (.int .i64) (p.length:Int)),(15,.p Fq l),(16,.p (.int .i64) (l.length:Int)),(17,.p (.int .i64) (i.1:Int))],[(1,.box 111 true [.p Du h,.sr 2 T3 0 (p++Bg p.length i.1).length,.sr 3 T3 0 (ty++CX l i.1).length,.sr 4 DF 0 (ar++EX p.length l i.1).length]),(2,.arr 3 T3 (p++Bg p.length i.1)),(3,.arr 3 T3 (ty++CX l i.1)),(4,.arr 91 DF (ar++EX p.length l i.1))]⟩) (λi=>l.length-i.1) ⟨0,Is _⟩ (AD [(1,.nm 1),(2,.nm 2),(3,.nm 3),(4,.nm 4)] rfl rfl ?_ ?_) (λi=>?_)
 .refine eM ?_;simp[Bg,CX,EX]
 .exact eN
 obtain⟨i,hi⟩:=i;have r:=H0 p.length i;have s:=rV p.length i;have w:(CX l i).length=i:=by unfold CX;rw[OF,OS];omega
 have m:(EX p.length l i).length=i:=by unfold EX;rw[OF,OS];omega
 have y:=λh:i<l.length=>B4 (λx:AC=>x.1) l (0,[]) h;have n:=λh:i<l.length=>B4 (λx:AC=>AR p.length x.2) l (0,[]) h;simp only;repeat'(first|exact trivial|apply eS rfl|refine rX c ?_ ?_|refine rC ?_ ?_<;>intro b<;>try(cases b;done))
 .exact b
 .refine⟨⟨by omega,by omega⟩,?_⟩;rw[r];simp only[AQ];omega
 .have d:i<l.length:=Do.1 b;refine CJ drawsAny c 9 [([1,2,3,4,5,6,7],8)] [0] (by kernel_rfl) (LF ?_ ?_)
  .trivial
  refine Nx c [3] ?_ ?_
  .rw[w];simp only[AQ];omega
  refine R1 c ?_ ?_ ?_
  .trivial
  .trivial
  have z:=y d;have o:=n d;have j:p++Bg p.length i++[(p.length:Int)+(i:Int)]=p++Bg p.length (i+1):=by
   rw[s,UT];rfl
  have eT:ty++CX l i++[(l.getD i (0,[])).1]=ty++CX l (i+1):=by
   unfold CX;rw[z,UT]
  have A:p.length+(Bg p.length i).length+1=(p++Bg p.length (i+1)).length:=by rw[BY,H0,H0];omega
  have B:ty.length+(CX l i).length+1=(ty++CX l (i+1)).length:=by rw[<-eT,BY,BY,IS]
  have t:=EC hl i;have M:(l.getD i (0,[])).2.length<=100000:=(hl.2 _ (AE l (0,[]) d)).1;repeat'(first|exact trivial|apply eS rfl|refine rX c ?_ ?_)
  rw[j,eT,A,B];generalize L:(l.getD i (0,[])).2=xs at *;refine AK (ι:={k:Nat//k<=xs.length}) (λk=>⟨[(0,.bp 1 [] 0),(4,.p (.int .i64) (p.length:Int)),(7,.sr 61 AW 0 (AR p.length (xs.take k.1)).length),(15,.p Fq l),(16,.p (.int .i64) (l.length:Int)),(17,.p (.int .i64) (i:Int)),(46,.p DF xs),(47,.p (.int .i64) (xs.length:Int)),(48,.p (.int .i64) (k.1:Int))],[(1,.box 111 true [.p Du h,.sr 2 T3 0 (p++Bg p.length (i+1)).length,.sr 3 T3 0 (ty++CX l (i+1)).length,.sr 4 DF 0 (ar++EX p.length l i).length]),(2,.arr 3 T3 (p++Bg p.length (i+1))),(3,.arr 3 T3 (ty++CX l (i+1))),(4,.arr 91 DF (ar++EX p.length l i)),(61,.arr 106 AW (AR p.length (xs.take k.1)))]⟩) (λk=>xs.length-k.1) ⟨0,Is _⟩ (AD [(1,.nm 1),(2,.nm 2),(3,.nm 3),(4,.nm 4),(61,.nil)] rfl rfl ?_ ?_) (λk=>?_)
  .refine eM ?_;rfl
  .refine eM ?_;rfl
  obtain⟨k,hk⟩:=k;have u:(AR p.length (xs.take k)).length=k:=by unfold AR;rw[OF,OS];omega
  have v:=λh:k<xs.length=>B4 (λa:Int×Int=>(a.1,a.2+(p.length:Int))) xs (0,0) h;have q:=λh:k<xs.length=>t _ (AE xs (0,0) h);simp only;repeat'(first|exact trivial|apply eS rfl|apply AB|refine rX c ?_ ?_|refine rC ?_ ?_<;>intro b<;>try(cases b;done))
  .exact b
  .have e:k<xs.length:=Do.1 b;have E:=q e;refine⟨⟨by omega,by omega⟩,?_⟩;rw[u];simp only[AQ];omega
  .omega
  .have e:k<xs.length:=Do.1 b;have f:AR p.length (xs.take (k+1))=AR p.length (xs.take k)++[((xs.getD k (0,0)).1,(xs.getD k (0,0)).2+(p.length:Int))]:=v e;refine⟨⟨k+1,e⟩,by simp only;omega,AD [(1,.nm 1),(2,.nm 2),(3,.nm 3),(4,.nm 4),(61,.nm 61)] rfl rfl ?_ ?_⟩
   .simp only[f];exact eN
   simp only[f];exact eN
  .rw[m];simp only[AQ];omega
  .omega
  have e:xs.take k=xs:=At (US.1 b);rw[e];have g:ar++EX p.length l i++[AR p.length xs]=ar++EX p.length l (i+1):=by
   unfold EX;rw[o,UT]
  refine⟨⟨i+1,d⟩,by simp only;omega,AD [(1,.nm 1),(2,.nm 2),(3,.nm 3),(4,.nm 4)] rfl rfl ?_ ?_⟩
  .simp only[<-g];exact eN
  exact eN
 have d:i=l.length:=by omega
 subst d;refine Ev.ent (σ':=⟨[],Y2 h (p++Bg p.length l.length) (ty++CX l l.length) (ar++EX p.length l l.length)⟩) ?_ (AD [(1,.nm 1),(2,.nm 2),(3,.nm 3),(4,.nm 4)] rfl rfl ?_ ?_)
 .exact fM c [] (.raw (.tuple #[])) rfl ⟨rfl,rfl⟩
 .unfold Y2;exact eN
 exact eN
section
attribute [local go_sem] A0j
def Bz:List (Int×Int)->List (Int×Int)->List (Int×Int)×List (Int×Int)
 | [],y=>(y,[])
 | a :: x,[]=>(a :: x,[])
 | a :: x,b :: y =>
  if a.1<b.1 then (a :: (Bz x (b :: y)).1,(Bz x (b :: y)).2)
  else if b.1<a.1 then (b :: (Bz (a :: x) y).1,(Bz (a :: x) y).2)
  else (a :: (Bz x y).1,(a.2,b.2) :: (Bz x y).2)
termination_by x y=>x.length+y.length
structure rZ (xs ys:List (Int×Int)) (W0:List (Int×Int)) (s:(List (Int×Int)×List (Int×Int))×(List (Int×Int)×List (Int×Int)×Nat)):Prop where
 hi:s.2.2.2<=s.2.2.1.length
 both:s.2.1++(Bz s.1.1 s.1.2).1=(Bz xs ys).1
 wait:s.2.2.1.take s.2.2.2++(Bz s.1.1 s.1.2).2=W0++(Bz xs ys).2
 len:s.2.1.length+s.1.1.length+s.1.2.length<=xs.length+ys.length
 num:s.2.2.2+s.1.1.length<=W0.length+xs.length
theorem AEM {x y:List (Int×Int)} (h0:0<x.length) (h:y.length=0\/(x.getD 0 (0,0)).1<(y.getD 0 (0,0)).1):Bz x y=(x.getD 0 (0,0) :: (Bz (x.drop 1) y).1,(Bz (x.drop 1) y).2):=by
 cases x with
 | nil=>simp at h0
 | cons a x =>
  cases y with
  | nil =>
   simp only[AAs,Ye];cases x<;>simp[Bz]
  | cons b y =>
   have h:a.1<b.1:=by simpa using h
   simp only[AAs,Ye];rw[Bz,Bq h];rfl
theorem AEN {x y:List (Int×Int)} (h0:0<y.length) (h:x.length=0\/(y.getD 0 (0,0)).1<(x.getD 0 (0,0)).1):Bz x y=(y.getD 0 (0,0) :: (Bz x (y.drop 1)).1,(Bz x (y.drop 1)).2):=by
 cases y with
 | nil=>simp at h0
 | cons b y =>
  cases x with
  | nil=>simp[Bz]
  | cons a x =>
   have h:b.1<a.1:=by simpa using h
   simp only[AAs,Ye];rw[Bz,As (by omega),Bq h];rfl
theorem ABn {x y:List (Int×Int)} (h0:0<x.length) (h1:0<y.length) (h:(x.getD 0 (0,0)).1=(y.getD 0 (0,0)).1):Bz x y=(x.getD 0 (0,0) :: (Bz (x.drop 1) (y.drop 1)).1,((x.getD 0 (0,0)).2,(y.getD 0 (0,0)).2) :: (Bz (x.drop 1) (y.drop 1)).2):=by
 cases x with
 | nil=>simp at h0
 | cons a x =>
  cases y with
  | nil=>simp at h1
  | cons b y =>
   have h:a.1=b.1:=by simpa using h
   simp only[AAs,Ye];rw[Bz,As (by omega),As (by omega)];rfl
section
variable {xs ys W0 x y bo V:List (Int×Int)} {k:Nat}
theorem ABo (h:rZ xs ys W0 ((x,y),bo,V,k)) (h0:0<x.length) (f:y.length=0\/(x.getD 0 (0,0)).1<(y.getD 0 (0,0)).1):rZ xs ys W0 ((x.drop 1,y),bo++[x.getD 0 (0,0)],V,k):=by
 have e:=AEM h0 f;obtain⟨h1,a,b,c,d⟩:=h;simp only at h1 a b c d;rw[e]at a b;exact⟨h1,by rw[UT];exact a,b,by simp only[BY,IS,YY];omega,by simp only[YY];omega⟩
theorem ABp (h:rZ xs ys W0 ((x,y),bo,V,k)) (h0:0<y.length) (f:x.length=0\/(y.getD 0 (0,0)).1<(x.getD 0 (0,0)).1):rZ xs ys W0 ((x,y.drop 1),bo++[y.getD 0 (0,0)],V,k):=by
 have e:=AEN h0 f;obtain⟨h1,a,b,d,c⟩:=h;simp only at h1 a b d c;rw[e]at a b;exact⟨h1,by rw[UT];exact a,b,by simp only[BY,IS,YY];omega,c⟩
theorem A9o (h:rZ xs ys W0 ((x,y),bo,V,k)) (h0:0<x.length) (h1:0<y.length) (g:(x.getD 0 (0,0)).1=(y.getD 0 (0,0)).1):rZ xs ys W0 ((x.drop 1,y.drop 1),bo++[x.getD 0 (0,0)],V.take k++[((x.getD 0 (0,0)).2,(y.getD 0 (0,0)).2)],k+1):=by
 have e:=ABn h0 h1 g;obtain⟨c,a,b,d,f⟩:=h;simp only at c a b d f;rw[e]at a b;have hl:(V.take k++[((x.getD 0 (0,0)).2,(y.getD 0 (0,0)).2)]).length=k+1:=by simp only[BY,IS,OS];omega
 exact⟨by simp only[hl];omega,by rw[UT];exact a,by simp only;rw[At (by omega),UT];exact b,by simp only[BY,IS,YY];omega,by simp only[YY];omega⟩
end
def mgO (h:AG) (p ty:List Int) (ar:List (List (Int×Int))) (W:List (Int×Int)) (hi:Nat):List (Nat×Obj) :=
 [(1,.box 111 true [.p Du h,.sr 2 T3 0 p.length,.sr 3 T3 0 ty.length,.sr 4 DF 0 ar.length]),(2,.arr 3 T3 p),(3,.arr 3 T3 ty),(4,.arr 91 DF ar),(5,.box 108 false [.bp 1 [] 0]),(6,.box 173 false [.sr 7 R3 0 hi]),(7,.arr 172 R3 W)]
theorem A5u (h:AG) (hh:h.1.length<=100000) (H:∀x∈h.1,x.2.1.length<=100000) (p ty:List Int) (ar:List (List (Int×Int))) (W:List (Int×Int)) (hi:Nat) (I:hi<=W.length) (O:hi<=100000000000) {a b:Int} (m:0<=a) (M:a<(p.length:Int)) (o:0<=b) (b1:b<(p.length:Int)) (U:ty.length=p.length) (N:ar.length=p.length)
  (ta:0<=ty.getD a.toNat 0/\ty.getD a.toNat 0<(h.1.length:Int)) (tb:0<=ty.getD b.toNat 0/\ty.getD b.toNat 0<(h.1.length:Int)) (P:(ar.getD a.toNat []).length<=10000000) (Q:(ar.getD b.toNat []).length<=10000000) :
  BA Tryz.prog 134 [.p T3 a,.p T3 b,.bp 5 [] 0,.bp 6 [] 0] (mgO h p ty ar W hi) [1,5,6]
  (λres A=>((Bx h (ty.getD a.toNat 0) (ty.getD b.toNat 0)).2=false/\res=.p .bool false/\A=mgO h p ty ar W hi) \/
   ((Bx h (ty.getD a.toNat 0) (ty.getD b.toNat 0)).2=true/\res=.p .bool true/\∃n q,q<=n.length/\n.take q=W.take hi++(Bz (ar.getD a.toNat []) (ar.getD b.toNat [])).2 /\
    A=mgO h (p.set b.toNat a) (ty.set a.toNat (Bx h (ty.getD a.toNat 0) (ty.getD b.toNat 0)).1) (ar.set a.toNat (Bz (ar.getD a.toNat []) (ar.getD b.toNat [])).1) n q)):=by
 refine Ki [0,1,2,3,6,7,8,9,10,11,35,71,94,122] [] [] Tryz.func134 Tryz.ntmps134 (AF A9b AH) ?_;intro w0 K O0 ρ0 d R S;have u:a<(ty.length:Int):=by omega
 have C:b<(ty.length:Int):=by omega
 have r:a<(ar.length:Int):=by omega
 have B:b<(ar.length:Int):=by omega
 simp only[mgO,Aj];repeat'(first|exact trivial|apply eS rfl|refine rX d ?_ ?_|refine rC ?_ ?_<;>intro c<;>try(cases c;done))
 .refine⟨⟨m,u⟩,⟨o,C⟩,ta,tb,hh,H⟩
 .refine Ev.ent (σ':=⟨[(6,.p .bool false)],mgO h p ty ar W hi⟩) ?_ (AD [(1,.nm 1),(2,.nm 2),(3,.nm 3),(4,.nm 4),(5,.nm 5),(6,.nm 6),(7,.nm 7)] rfl rfl ?_ ?_)
  .exact fM d [.tmp 6] (.p .bool false) eT (.inl ⟨c,rfl,rfl⟩)
  .unfold mgO;exact eN
  exact eN
 .exact⟨o,b1⟩
 .exact⟨m,u⟩
 .exact⟨⟨m,r⟩,o,B⟩
 generalize T:(Bx h (ty.getD a.toNat 0) (ty.getD b.toNat 0)).1=t at *;generalize X:ar.getD a.toNat []=xs at *;generalize Y:ar.getD b.toNat []=ys at *;refine AK (ι:={s:(List (Int×Int)×List (Int×Int))×(List (Int×Int)×List (Int×Int)×Nat)//rZ xs ys (W.take hi) s}) (λs=>⟨[(0,.p T3 a),(1,.p T3 b),(2,.bp 5 [] 0),(3,.bp 6 [] 0),(9,.p DF s.1.1.1),(10,.p DF s.1.1.2),(11,.sr 11 AW 0 s.1.2.1.length)],[(1,.box 111 true [.p Du h,.sr 2 T3 0 p.length,.sr 3 T3 0 ty.length,.sr 4 DF 0 ar.length]),(2,.arr 3 T3 (p.set b.toNat a)),(3,.arr 3 T3 (ty.set a.toNat t)),(4,.arr 91 DF ar),(5,.box 108 false [.bp 1 [] 0]),(6,.box 173 false [.sr 7 R3 0 s.1.2.2.2]),(7,.arr 172 R3 s.1.2.2.1),(11,.arr 106 AW s.1.2.1)]⟩) (λs=>s.1.1.1.length+s.1.1.2.length) ⟨((xs,ys),([],W,hi)),I,rfl,rfl,by simp,by simp only[OS];omega⟩ (eW [(1,.nm 1),(2,.nm 2),(3,.nm 3),(4,.nm 4),(5,.nm 5),(6,.nm 6),(7,.nm 7),(11,.nil)]) (λs=>?_)
 obtain⟨⟨⟨x,y⟩,bo,V,k⟩,i⟩:=s;have J:=i.len;have L:=i.num;have w:=i.hi;simp only[OS]at J L w ⊢;repeat'(first|exact trivial|apply eS rfl|refine rX d ?_ ?_|refine rC ?_ ?_<;>intro c<;>try(cases c;done))
 .refine⟨λh=>?_,λh=>?_⟩
  .rw[An,DO]at h;exact h.2
  rw[An,UL,ZO]at h;have E:=h.1;have l:y.length≠0:=λe=>E (by rw[e];rfl);exact Do.2 (AAd l)
 .have f:0<x.length:=by
   rcases c with c|c
   .omega
   exact Do.1 c.1
  have F:y.length=0\/(x.getD 0 (0,0)).1<(y.getD 0 (0,0)).1:=by
   rcases c with c|c
   .exact .inl (AGk c)
   exact .inr c.2
  refine CJ drawsAny d 9 [([0,1,2,3,4],5),([],8)] [6,7] (by kernel_rfl) (LF ?_ ?_)
  .exact⟨Do.2 f,US.2 f⟩
  refine Nx d [11] ?_ ?_
  .simp only[AQ];omega
  refine LF ?_ ?_
  .exact US.2 f
  refine Nx d [] ?_ ?_
  .trivial
  refine R1 d ?_ ?_ ?_
  .exact US.2 f
  .trivial
  repeat'(first|apply eS rfl|apply AB)
  exact⟨⟨((x.drop 1,y),bo++[x.getD 0 (0,0)],V,k),ABo i f F⟩,by simp only[YY];omega,eW [(1,.nm 1),(2,.nm 2),(3,.nm 3),(4,.nm 4),(5,.nm 5),(6,.nm 6),(7,.nm 7),(11,.nm 11)]⟩
 .have l:y.length≠0:=λe=>c.1 (by rw[e];rfl);have D:0<y.length:=AAd l;refine⟨λh=>Do.2 D,λh=>?_⟩
  rw[UL,ZO]at h;have l:x.length≠0:=λe=>h (by rw[e];rfl);exact Do.2 (AAd l)
 .have g:0<y.length:=AAd λe=>(by assumption:¬_/\_).1 (by rw[e];rfl);have j:x.length=0\/(y.getD 0 (0,0)).1<(x.getD 0 (0,0)).1:=by
   rcases c with c|c
   .exact .inl (AGk c)
   exact .inr c
  refine CJ drawsAny d 9 [([0,1,2,3,4],5),([],8)] [6,7] (by kernel_rfl) (LF ?_ ?_)
  .exact⟨Do.2 g,US.2 g⟩
  refine Nx d [11] ?_ ?_
  .simp only[AQ];omega
  refine LF ?_ ?_
  .exact US.2 g
  refine Nx d [] ?_ ?_
  .trivial
  refine R1 d ?_ ?_ ?_
  .exact US.2 g
  .trivial
  repeat'(first|apply eS rfl|apply AB)
  exact⟨⟨((x,y.drop 1),bo++[y.getD 0 (0,0)],V,k),ABp i g j⟩,by simp only[YY];omega,eW [(1,.nm 1),(2,.nm 2),(3,.nm 3),(4,.nm 4),(5,.nm 5),(6,.nm 6),(7,.nm 7),(11,.nm 11)]⟩
 .rename_i j;have f:0<x.length:=AAd λe=>c.1 (by rw[e];rfl);have g:0<y.length:=AAd λe=>j.1 (by rw[e];rfl);refine⟨Do.2 f,Do.2 g,?_⟩;simp only[AQ];omega
 .rename_i j;have f:0<x.length:=AAd λe=>c.1 (by rw[e];rfl);have g:0<y.length:=AAd λe=>j.1 (by rw[e];rfl);have G:(x.getD 0 (0,0)).1=(y.getD 0 (0,0)).1:=Int.le_antisymm c.2 (j.2 (Do.2 f));refine CJ drawsAny d 12 [([0,1,2,3,4],5),([],10),([6,7],11)] [8,9] (by kernel_rfl) (LF ?_ ?_)
  .exact⟨Do.2 f,US.2 f,US.2 g⟩
  refine Nx d [11] ?_ ?_
  .simp only[AQ];omega
  refine LF ?_ ?_
  .exact⟨US.2 f,US.2 g⟩
  refine Nx d [] ?_ ?_
  .trivial
  refine LF ?_ ?_
  .exact⟨US.2 f,US.2 g⟩
  refine Nx d [] ?_ ?_
  .trivial
  refine R1 d ?_ ?_ ?_
  .exact US.2 g
  .trivial
  repeat'(first|apply eS rfl|apply AB)
  exact⟨⟨((x.drop 1,y.drop 1),bo++[x.getD 0 (0,0)],V.take k++[((x.getD 0 (0,0)).2,(y.getD 0 (0,0)).2)],k+1),A9o i f g G⟩,by simp only[YY];omega,eW [(1,.nm 1),(2,.nm 2),(3,.nm 3),(4,.nm 4),(5,.nm 5),(6,.nm 6),(7,.nm 7),(11,.nm 11)]⟩
 .exact⟨m,r⟩
 have f:x=[]:=UW (by omega);have g:y=[]:=UW (by omega);subst f g;have v:=i.both;have z:=i.wait;simp only[Bz,Uh]at v z;refine Ev.ent (σ':=⟨[(6,.p .bool true)],mgO h (p.set b.toNat a) (ty.set a.toNat t) (ar.set a.toNat bo) V k⟩) ?_ (AD [(1,.nm 1),(2,.nm 2),(3,.nm 3),(4,.nm 4),(5,.nm 5),(6,.nm 6),(7,.nm 7)] rfl rfl ?_ ?_)
 .exact fM d [.tmp 6] (.p .bool true) eT (.inr ⟨by assumption,rfl,V,k,w,z,by rw[v];rfl⟩)
 .unfold mgO;simp only[Ya];exact eN
 exact eN
end
theorem LV {h:AG} (hk:Hn h) {a b c:Int} (d:0<=a) (e:a<(h.1.length:Int)) (f:0<=b) (b1:b<(h.1.length:Int)) (c0:0<=c) (c1:c<(h.1.length:Int)) (h1:A1 h a b=true) (g:A1 h b c=true):A1 h a c=true :=
 (Ci hk d e c0 c1).2 λi hi=>(Ci hk d e f b1).1 h1 i ((Ci hk f b1 c0 c1).1 g i hi)
theorem RJ:∀ {x y:List (Int×Int)} {a:Int×Int},a∈x->a∈(Bz x y).1
 | [],_,_,h=>by cases h
 | b :: x,[],a,h=>by simpa[Bz] using h
 | b :: x,c :: y,a,h=>by
  rw[Bz];split
  .rcases By.1 h with rfl|h
   .simp
   exact GO _ (RJ h)
  split
  .exact GO _ (RJ h)
  rcases By.1 h with rfl|h
  .simp
  exact GO _ (RJ h)
termination_by x y=>x.length+y.length
theorem Nn:∀ {x y:List (Int×Int)} {a:Int×Int},a∈y->a∈(Bz x y).1\/∃t,(a.1,t)∈(Bz x y).1/\(t,a.2)∈(Bz x y).2
 | [],y,a,h=>by
  left;simpa[Bz] using h
 | b :: x,[],a,h=>by cases h
 | b :: x,c :: y,a,h=>by
  rw[Bz];split
  .rcases Nn (x:=x) h with g|⟨t,d,e⟩
   .exact .inl (GO _ g)
   exact .inr ⟨t,GO _ d,e⟩
  split
  .rcases By.1 h with rfl|h
   .left;simp
   rcases Nn (x:=b :: x) h with g|⟨t,d,e⟩
   .exact .inl (GO _ g)
   exact .inr ⟨t,GO _ d,e⟩
  rcases By.1 h with rfl|h
  .right;exact⟨b.2,by rw[show a.1=b.1 by omega];simp,by simp⟩
  rcases Nn (x:=x) h with g|⟨t,d,e⟩
  .exact .inl (GO _ g)
  exact .inr ⟨t,GO _ d,GO _ e⟩
termination_by x y=>x.length+y.length
theorem JU:∀ {x y:List (Int×Int)} {a:Int×Int},a∈(Bz x y).1->a∈x\/a∈y
 | [],y,a,h=>by
  right;simpa[Bz] using h
 | b :: x,[],a,h=>by
  left;simpa[Bz] using h
 | b :: x,c :: y,a,h=>by
  rw[Bz]at h;split at h
  .rcases By.1 h with rfl|h
   .left;simp
   rcases JU h with g|g
   .exact .inl (GO _ g)
   exact .inr g
  split at h
  .rcases By.1 h with rfl|h
   .right;simp
   rcases JU h with g|g
   .exact .inl g
   exact .inr (GO _ g)
  rcases By.1 h with rfl|h
  .left;simp
  rcases JU h with g|g
  .exact .inl (GO _ g)
  exact .inr (GO _ g)
termination_by x y=>x.length+y.length
theorem RK:∀ {x y:List (Int×Int)} {q:Int×Int},q∈(Bz x y).2->∃e,(e,q.1)∈x/\(e,q.2)∈y
 | [],y,q,h=>by simp[Bz]at h
 | b :: x,[],q,h=>by simp[Bz]at h
 | b :: x,c :: y,q,h=>by
  rw[Bz]at h;split at h
  .obtain⟨e,h1,a⟩:=RK h;exact⟨e,GO _ h1,a⟩
  split at h
  .obtain⟨e,h1,a⟩:=RK h;exact⟨e,h1,GO _ a⟩
  rcases By.1 h with rfl|h
  .exact⟨b.1,by simp,by rw[show b.1=c.1 by omega];simp⟩
  obtain⟨e,h1,a⟩:=RK h;exact⟨e,GO _ h1,GO _ a⟩
termination_by x y=>x.length+y.length
theorem RL:∀ {x y:List (Int×Int)},(Bz x y).2.length<=x.length
 | [],y=>by simp[Bz]
 | b :: x,[]=>by simp[Bz]
 | b :: x,c :: y=>by
  rw[Bz];split
  .have:=RL (x:=x) (y:=c :: y);simp only[No];omega
  split
  .exact RL (x:=b :: x) (y:=y)
  have:=RL (x:=x) (y:=y);simp only[No];omega
termination_by x y=>x.length+y.length
abbrev Lv (l:List (Int×Int)):Prop:=l.Pairwise (λa b=>a.1<b.1)
theorem VH:∀ {x y:List (Int×Int)},Lv x->Lv y->Lv (Bz x y).1
 | [],y,_,h=>by simpa[Bz] using h
 | b :: x,[],h,_=>by simpa[Bz] using h
 | b :: x,c :: y,hx,i=>by
  have d:=Uf.1 hx;have e:=Uf.1 i;rw[Bz];split
  .rename_i f;refine Uf.2 ⟨λa ha=>?_,VH d.2 i⟩;rcases JU ha with g|g
   .exact d.1 a g
   rcases By.1 g with rfl|g
   .exact f
   have:=e.1 a g;omega
  split
  .rename_i f;refine Uf.2 ⟨λa ha=>?_,VH hx e.2⟩;rcases JU ha with g|g
   .rcases By.1 g with rfl|g
    .exact f
    have:=d.1 a g;omega
   exact e.1 a g
  refine Uf.2 ⟨λa ha=>?_,VH d.2 e.2⟩;rcases JU ha with g|g
  .exact d.1 a g
  have:=e.1 a g;omega
termination_by x y=>x.length+y.length
theorem A9p {p:List Int} {o:Int->Nat} (hp:Fo p o) {a b:Int} (j:0<=a) (c:0<=b) (b1:b<(p.length:Int)) (ha:EM p a=a) (k:EM p b=b) (f:a≠b) {x r:Int} (d:0<=x) (q:x<(p.length:Int)) (h:Rt p x r):Rt (p.set b.toNat a) x (if r=b then a else r):=by
 have l:Rt (p.set b.toNat a) a a:=.base (by rw[DD c b1 a j,As f];exact ha);induction h with
 | @base n hn =>
  split
  .rename_i e;rw[e];exact .step (by rw[DD c b1 b c,Bq rfl];exact f) (by rw[DD c b1 b c,Bq rfl];exact l)
  rename_i e;exact .base (by rw[DD c b1 n d,As e];exact hn)
 | @step n r hn _ m =>
  have g:n≠b:=λe=>hn (e▸k);have i:=hp.rng n d q;exact .step (by rw[DD c b1 n d,As g];exact hn) (by rw[DD c b1 n d,As g];exact m i.1 i.2)
theorem A9q {p:List Int} {c:Int->Nat} (hp:Fo p c) {a b:Int} (h:0<=a) (i:a<(p.length:Int)) (d:0<=b) (b1:b<(p.length:Int)) (ha:EM p a=a) (l:EM p b=b) (k:a≠b):∃o,Fo (p.set b.toNat a) o:=by
 classical
 refine⟨λx=>if Rt p x b then c x+c a+1 else c x,λn n0 n1=>?_,λn n0 n1 hn=>?_⟩
 .rw[Ya]at n1 ⊢;rw[DD d b1 n n0];split
  .exact⟨h,i⟩
  exact hp.rng n n0 n1
 rw[Ya]at n1;rw[DD d b1 n n0]at hn ⊢;by_cases e:n=b
 .subst e;rw[Bq rfl];have h1:¬Rt p a n:=λg=>k (g.det (.base ha)).symm;rw[As h1,Bq (.base l)];omega
 rw[As e]at hn ⊢;have m:=hp.dec n n0 n1 hn;have f:Rt p n b↔Rt p (EM p n) b:=by
  constructor
  .intro g;cases g with
   | base g=>exact absurd g hn
   | step _ g=>exact g
  exact λg=>.step hn g
 by_cases g:Rt p n b
 .rw[Bq g,Bq (f.1 g)];omega
 rw[As g,As (λj=>g (f.2 j))];exact m
inductive EG (n:Nat) (p:List Int) (W:List (Int×Int)):Int->Int->Prop
 | cls {x y r:Int} (x0:0<=x) (x1:x<(n:Int)) (y0:0<=y) (y1:y<(n:Int)) (h:Rt p x r) (g:Rt p y r):EG n p W x y
 | wt {x y:Int} (h:(x,y)∈W):EG n p W x y
 | symm {x y:Int} (h:EG n p W x y):EG n p W y x
 | trans {x y z:Int} (h:EG n p W x y) (g:EG n p W y z):EG n p W x z
theorem EG.mono {n:Nat} {p q:List Int} {W V:List (Int×Int)} (h1:∀x y r,0<=x->x<(n:Int)->0<=y->y<(n:Int)->Rt p x r->Rt p y r->EG n q V x y) (a:∀x y,(x,y)∈W->EG n q V x y) {x y:Int} (h:EG n p W x y):EG n q V x y:=by
 induction h with
 | cls e f i j h g=>exact h1 _ _ _ e f i j h g
 | wt h=>exact a _ _ h
 | symm _ b=>exact .symm b
 | trans _ _ c d=>exact .trans c d
structure Rb (h:AG) (N:List AC) (P:List (Int×Int)) (X:List AC) (v:Int->Int):Prop where
 rng:∀x,0<=x->x<(N.length:Int)->0<=v x/\v x<(X.length:Int)
 ty:∀x,0<=x->x<(N.length:Int)->A1 h (N.getD x.toNat (0,[])).1 (X.getD (v x).toNat (0,[])).1=true
 arc:∀x,0<=x->x<(N.length:Int)->∀a∈AP N x,Ao (AP X (v x)) a.1=v a.2
 eq:∀q∈P,v q.1=v q.2
structure JX (h:AG) (X:List AC) (v:Int->Int) (n:Nat) (p ty:List Int) (ar:List (List (Int×Int))) (W:List (Int×Int)):Prop where
 cls:∀x r,0<=x->x<(n:Int)->Rt p x r->v x=v r
 wt:∀w∈W,v w.1=v w.2
 ty:∀r,0<=r->r<(n:Int)->EM p r=r->A1 h (ty.getD r.toNat 0) (X.getD (v r).toNat (0,[])).1=true
 arc:∀r,0<=r->r<(n:Int)->EM p r=r->∀a∈ar.getD r.toNat [],Ao (AP X (v r)) a.1=v a.2
def C0 (N:List AC):List Int:=N.flatMap λx=>x.2.map (·.1)
structure JI (h:AG) (N:List AC) (P:List (Int×Int)) (p ty:List Int) (ar:List (List (Int×Int))) (W:List (Int×Int)):Prop where
 nty:CP h N
 fo:∃rk,Fo p rk
 lp:p.length=N.length
 lt:ty.length=N.length
 la:ar.length=N.length
 wr:∀w∈W,(0<=w.1/\w.1<(N.length:Int))/\(0<=w.2/\w.2<(N.length:Int))
 tyr:∀x,0<=x->x<(N.length:Int)->0<=ty.getD x.toNat 0/\ty.getD x.toNat 0<(h.1.length:Int)
 arr:∀k,∀a∈ar.getD k [],(0<=a.2/\a.2<(N.length:Int))/\a.1∈C0 N
 srt:∀k,Lv (ar.getD k [])
 sp:∀q∈P,EG N.length p W q.1 q.2
 st:∀x r,0<=x->x<(N.length:Int)->Rt p x r->A1 h (N.getD x.toNat (0,[])).1 (ty.getD r.toNat 0)=true
 sa:∀x r,0<=x->x<(N.length:Int)->Rt p x r->∀a∈AP N x,∃t,(a.1,t)∈ar.getD r.toNat []/\EG N.length p W a.2 t
 co:∀X v,CP h X->Rb h N P X v->JX h X v N.length p ty ar W
theorem GI {p:List Int} {a:Int->Nat} (hp:Fo p a) {x r:Int} (c:0<=x) (d:x<(p.length:Int)) (h:Rt p x r):0<=r/\r<(p.length:Int):=by
 obtain⟨s,hs,b,s1⟩:=hp.root c d;rw[h.det hs];exact⟨b,s1⟩
theorem SY {p q:List Int} (h:Em p q) {r:Int} (a:0<=r) (b:r<(p.length:Int)):EM p r=r↔EM q r=r :=
 ⟨λe=>((h.2 r r a b).1 (.base e)).root,λe=>((h.2 r r a b).2 (.base e)).root⟩
theorem A9r {h:AG} {N:List AC} {P:List (Int×Int)} {p q ty:List Int} {ar:List (List (Int×Int))} {W:List (Int×Int)} (hs:Em p q) (j:∃z,Fo q z) (u:JI h N P p ty ar W):JI h N P q ty ar W:=by
 obtain⟨nty,fo,lp,lt,la,wr,tyr,arr,srt,sp,st,sa,co⟩:=u;have i:∀x r,0<=x->x<(N.length:Int)->(Rt p x r↔Rt q x r):=λx r b c=>hs.2 x r b (by rw[lp];exact c);have s:∀ {x y},EG N.length p W x y->EG N.length q W x y:=λ{x y} g=>g.mono (λx y r b c k l h1 o=>.cls b c k l ((i x r b c).1 h1) ((i y r k l).1 o)) (λ_ _ h=>.wt h);refine⟨nty,j,by rw[<-hs.1];exact lp,lt,la,wr,tyr,arr,srt,λq j=>s (sp q j),λx r b c d=>st x r b c ((i x r b c).2 d),λx r b c d a ha=>?_,λX v t w=>?_⟩
 .grind
 obtain⟨c1,c2,m,n⟩:=co X v t w;exact⟨λx r b c d=>c1 x r b c ((i x r b c).2 d),c2,λr e f d=>m r e f ((SY hs e (by rw[lp];exact f)).2 d),λr e f d=>n r e f ((SY hs e (by rw[lp];exact f)).2 d)⟩
section
variable {h:AG} {N:List AC} {P:List (Int×Int)} {p ty:List Int} {ar:List (List (Int×Int))} {W:List (Int×Int)} {s t a b:Int}
theorem fP (n:JI h N P p ty ar (W++[(s,t)])) (hs:Rt p s a) (u:Rt p t a):JI h N P p ty ar W:=by
 obtain⟨nty,fo,lp,lt,la,wr,tyr,arr,srt,sp,st,sa,co⟩:=n;have b:=wr (s,t) (by simp);have l:∀ {x y},EG N.length p (W++[(s,t)]) x y->EG N.length p W x y:=λ{x y} g=>g.mono (λx y r d f A B h1 k=>.cls d f A B h1 k) (λx y c=>by
  rcases IN.1 c with c|c
  .exact .wt c
  have e:(x,y)=(s,t):=by simpa using c
  cases e;exact .cls b.1.1 b.1.2 b.2.1 b.2.2 hs u)
 refine⟨nty,fo,lp,lt,la,λw b=>wr w (YW _ b),tyr,arr,srt,λq o=>l (sp q o),st,λx r d f C a ha=>?_,λX v m z=>?_⟩
 .grind
 obtain⟨c1,c2,i,j⟩:=co X v m z;exact⟨c1,λw b=>c2 w (YW _ b),i,j⟩
theorem VI (hk:Hn h) (c:JI h N P p ty ar (W++[(s,t)])) (hs:Rt p s a) (g:Rt p t b) {X:List AC} {v:Int->Int} (o:CP h X) (q:Rb h N P X v) :
  v a=v b/\(Bx h (ty.getD a.toNat 0) (ty.getD b.toNat 0)).2=true/\A1 h (Bx h (ty.getD a.toNat 0) (ty.getD b.toNat 0)).1 (X.getD (v a).toNat (0,[])).1=true:=by
 obtain⟨A,fo⟩:=c.fo;obtain⟨⟨i,s1⟩,j,l⟩:=c.wr (s,t) (by simp);simp only at i s1 j l;have d:=GI fo i (by rw[c.lp];exact s1) hs;have f:=GI fo j (by rw[c.lp];exact l) g;rw[c.lp]at d f;obtain⟨c1,c2,m,y⟩:=c.co X v o q;have e1:=c1 s a i s1 hs;have e2:=c1 t b j l g;have r:v s=v t:=c2 (s,t) (by simp);have e:v a=v b:=by rw[<-e1,<-e2,r]
 have u:=m a d.1 d.2 hs.root;have n:=m b f.1 f.2 g.root;rw[<-e]at n;have z:=q.rng a d.1 d.2;have hx:=o _ (AE X (0,[]) (k:=(v a).toNat) (by omega));have ta:=c.tyr a d.1 d.2;have tb:=c.tyr b f.1 f.2;obtain⟨w,x⟩:=(Mt hk ta.1 ta.2 tb.1 tb.2).2 _ hx.1 hx.2 u n;exact⟨e,w,x⟩
theorem bI {α:Type} {l:List α} {d v:α} {a r:Int} (b:0<=a) (c:a<(l.length:Int)) (e:0<=r):(l.set a.toNat v).getD r.toNat d=if r=a then v else l.getD r.toNat d:=by grind
theorem Xa (hk:Hn h) (aa:JI h N P p ty ar (W++[(s,t)])) (hs:Rt p s a) (K:Rt p t b) (U:a≠b) (ai:(Bx h (ty.getD a.toNat 0) (ty.getD b.toNat 0)).2=true) :
  JI h N P (p.set b.toNat a) (ty.set a.toNat (Bx h (ty.getD a.toNat 0) (ty.getD b.toNat 0)).1) (ar.set a.toNat (Bz (ar.getD a.toNat []) (ar.getD b.toNat [])).1) (W++(Bz (ar.getD a.toNat []) (ar.getD b.toNat [])).2):=by
 have aj:=λX v I L=>VI (X:=X) (v:=v) hk aa hs K I L;obtain⟨nty,⟨ax,fo⟩,lp,lt,la,wr,tyr,arr,srt,sp,st,sa,co⟩:=aa;obtain⟨⟨M,s1⟩,O,Q⟩:=wr (s,t) (by simp);simp only at M s1 O Q;have n:=GI fo M (by rw[lp];exact s1) hs;have A:=GI fo O (by rw[lp];exact Q) K;have ha:=hs.root;have V:=K.root;have E:=λ{x r:Int} (c:0<=x) (i:x<(N.length:Int)) (hx:Rt p x r)=>A9p fo n.1 A.1 A.2 ha V U c (by rw[lp];exact i) hx;have Y:∀ {x r:Int},0<=x->x<(N.length:Int)->Rt (p.set b.toNat a) x r->∃j,Rt p x j/\r=if j=b then a else j:=λ{x r} c i hx=>by
  obtain⟨j,h1,-,-⟩:=fo.root c (by rw[lp];exact i);exact⟨j,h1,hx.det (E c i h1)⟩
 have ta:=tyr a n.1 (by rw[<-lp];exact n.2);have tb:=tyr b A.1 (by rw[<-lp];exact A.2);obtain⟨aq,au,av,aw⟩:=(Mt hk ta.1 ta.2 tb.1 tb.2).1 ai;generalize an:(Bx h (ty.getD a.toNat 0) (ty.getD b.toNat 0)).1=m at *;generalize ad:ar.getD a.toNat []=xs at *;generalize ae:ar.getD b.toNat []=ys at *;have al:EG N.length (p.set b.toNat a) (W++(Bz xs ys).2) s t:=by
  have h1:=E M s1 hs;have H:=E O Q K;rw[As U]at h1;rw[Bq rfl]at H;exact .cls M s1 O Q h1 H
 have D:∀ {x y},EG N.length p (W++[(s,t)]) x y->EG N.length (p.set b.toNat a) (W++(Bz xs ys).2) x y:=λ{x y} g=>g.mono (λx y r c i ag ah h1 H=>.cls c i ag ah (E c i h1) (E ag ah H)) (λx y F=>by
  rcases IN.1 F with F|F
  .exact .wt (YW _ F)
  have e:(x,y)=(s,t):=by simpa using F
  cases e;exact al)
 have hty:=λ{r:Int} (C:0<=r)=>bI (l:=ty) (d:=0) (v:=m) n.1 (by rw[lt,<-lp];exact n.2) C;have J:=λ{r:Int} (C:0<=r)=>bI (l:=ar) (d:=[]) (v:=(Bz xs ys).1) n.1 (by rw[la,<-lp];exact n.2) C;refine⟨nty,A9q fo n.1 n.2 A.1 A.2 ha V U,by rw[Ya];exact lp,by rw[Ya];exact lt,by rw[Ya];exact la,λw o=>?_,λx c i=>?_,λk y B=>?_,λk=>?_,λq ak=>D (sp q ak),λx r c i z=>?_,λx r c i z y B=>?_,λX v I L=>?_⟩
 .rcases IN.1 o with o|o
  .exact wr w (YW _ o)
  grind [RK]
 .grind
 .have h1:=J (r:=(k:Int)) (by omega);rw[UQ]at h1;rw[h1]at B;split at B
  .grind [JU]
  exact arr _ _ B
 .have h1:=J (r:=(k:Int)) (by omega);rw[UQ]at h1;rw[h1];split
  .grind [VH]
  exact srt k
 .obtain⟨j,h1,rfl⟩:=Y c i z;have hx:=nty _ (AE N (0,[]) (k:=x.toNat) (by omega));have ab:=GI fo c (by rw[lp];exact i) h1;by_cases e:j=b
  .grind [LV]
  grind [LV]
 .obtain⟨j,h1,rfl⟩:=Y c i z;have ab:=GI fo c (by rw[lp];exact i) h1;obtain⟨u,G,R⟩:=sa x j c i h1 y B;by_cases e:j=b
  .rw[Bq e,J n.1,Bq rfl];rw[e,ae]at G;rcases Nn (x:=xs) G with g|⟨w,S,T⟩
   .exact⟨u,g,D R⟩
   exact⟨w,S,.trans (D R) (.symm (.wt (AB1 _ T)))⟩
  rw[As e,J ab.1];split
  .rename_i e2;rw[e2,ad]at G;exact⟨u,RJ G,D R⟩
  exact⟨u,G,D R⟩
 obtain⟨c1,c2,am,Z⟩:=co X v I L;obtain⟨e,-,ap⟩:=aj X v I L;have ao:∀r,0<=r->r<(N.length:Int)->EM (p.set b.toNat a) r=r->r≠b/\EM p r=r:=λr C af z=>by grind [DD]
 refine⟨λx r c i z=>?_,λw o=>?_,λr C af z=>?_,λr C af z y B=>?_⟩
 .obtain⟨j,h1,rfl⟩:=Y c i z;have:=c1 x j c i h1;split
  .rename_i e2;rw[this,e2,e]
  exact this
 .rcases IN.1 o with o|o
  .exact c2 w (YW _ o)
  obtain⟨f,e1,e2⟩:=RK o;rw[<-ad]at e1;rw[<-ae]at e2;have S:=Z a n.1 (by rw[<-lp];exact n.2) ha _ e1;have T:=Z b A.1 (by rw[<-lp];exact A.2) V _ e2;rw[<-S,<-T,e]
 .grind
 grind [JU]
end
theorem mE {l:List Nat} {f g:Nat->Bool} {b:Nat} (hn:l.Nodup) (c:b∈l) (h1:f b=true) (d:g b=false) (h:∀x∈l,x≠b->g x=f x):(l.filter g).length+1=(l.filter f).length:=by
 induction l with
 | nil=>cases c
 | cons x l k =>
  obtain⟨hx,j⟩:=YT.1 hn;by_cases e:x=b
  .subst e;have:l.filter g=l.filter f:=List.filter_congr λy a=>h y (by simp[a]) (λe=>hx (e▸a));rw[Yr,Yr,As (by rw[d];simp),Bq h1,this];rfl
  have i:b∈l:=by
   rcases By.1 c with g|g
   .exact absurd g.symm e
   exact g
  have m:=k j i (λy a=>h y (by simp[a]));rw[Yr,Yr,h x (by simp) e];split
  .simp only[No];omega
  exact m
def nR (p:List Int):Nat:=((List.range p.length).filter λk=>p.getD k 0==(k:Int)).length
theorem AEO (p:List Int):nR p<=p.length:=by
 have:=Yw (λk=>p.getD k 0==(k:Int)) (List.range p.length);rw[AFl]at this;exact this
theorem A0w {p q:List Int} (h:Em p q):nR q=nR p:=by
 unfold nR;rw[<-h.1];refine Yp List.length (List.filter_congr λk hk=>?_);have a:=Ue.1 hk;have:=SY h (r:=(k:Int)) (by omega) (by omega);unfold EM at this;rw[UQ]at this;rw[AFj,YV,YV];exact this.symm
theorem A0x {p:List Int} {a b:Int} (d:0<=b) (b1:b<(p.length:Int)) (c:EM p b=b) (e:a≠b):nR (p.set b.toNat a)+1=nR p:=by
 unfold nR;rw[Ya];refine mE (b:=b.toNat) List.nodup_range (Ue.2 (by omega)) ?_ ?_ λx _ hx=>?_
 .rw[YV];unfold EM at c;omega
 .rw[ZL _ _ _ (by omega),ZO];omega
 rw[getD_set_ne _ _ _ (by omega)]
theorem SZ {α:Type} [DecidableEq α]:∀ {l l':List α},l.Nodup->(∀x∈l,x∈l')->l.length<=l'.length
 | [],_,_,_=>by simp
 | x :: l,l',hn,h=>by
  obtain⟨hx,c⟩:=YT.1 hn;have a:=h x (by simp);have:=SZ (l:=l) (l':=l'.erase x) c (λy b=>(AFR (λe:y=x=>hx (by rw[<-e];exact b))).2 (h y (by simp[b])));rw[List.length_erase_of_mem a]at this;have:=List.length_pos_of_mem a;simp only[No];omega
theorem fQ {l:List (Int×Int)} (h:Lv l) {S:List Int} (hs:∀a∈l,a.1∈S):l.length<=S.length:=by
 have hn:(l.map (·.1)).Nodup:=by
  unfold List.Nodup;rw[Yh];exact h.imp λg=>by omega
 have:=SZ hn (l':=S) (λx hx=>by
  obtain⟨a,ha,rfl⟩:=IF.1 hx;exact hs a ha)
 rwa [OF]at this
theorem Xb {h:AG} {N:List AC} {P:List (Int×Int)} {p ty:List Int} {ar:List (List (Int×Int))} (t:JI h N P p ty ar []) {a b:Int} (ha:0<=a/\a<(N.length:Int)) (s:0<=b/\b<(N.length:Int)):JI h N (P++[(a,b)]) p ty ar [(a,b)]:=by
 obtain⟨nty,fo,lp,lt,la,wr,tyr,arr,srt,sp,st,sa,co⟩:=t;have l:∀ {x y},EG N.length p [] x y->EG N.length p [(a,b)] x y:=λ{x y} g=>g.mono (λx y r j k C D h1 f=>.cls j k C D h1 f) (λx y A=>by cases A);refine⟨nty,fo,lp,lt,la,λw i=>?_,tyr,arr,srt,λq c=>?_,st,λx r j k z y B=>?_,λX v o d=>?_⟩
 .have e:w=(a,b):=by simpa using i
  subst e;exact⟨ha,s⟩
 .rcases IN.1 c with c|c
  .exact l (sp q c)
  have e:q=(a,b):=by simpa using c
  subst e;exact .wt (by simp)
 .obtain⟨u,h1,f⟩:=sa x r j k z y B;exact⟨u,h1,l f⟩
 obtain⟨c1,c2,m,n⟩:=co X v o ⟨d.rng,d.ty,d.arc,λq c=>d.eq q (YW _ c)⟩;refine⟨c1,λw i=>?_,m,n⟩;have e:w=(a,b):=by simpa using i
 subst e;exact d.eq _ (by simp)
def bJ (h:AG) (p ty:List Int) (ar:List (List (Int×Int))):List (Nat×Obj):=[(101,.box 111 true [.p Du h,.sr 102 T3 0 p.length,.sr 103 T3 0 ty.length,.sr 104 DF 0 ar.length]),(102,.arr 3 T3 p),(103,.arr 3 T3 ty),(104,.arr 91 DF ar)]
theorem fR (h:AG) (hk:Hn h) {N:List AC} {P:List (Int×Int)} {p ty:List Int} {ar:List (List (Int×Int))} (W:JI h N P p ty ar []) {a b:Int} (ha:0<=a/\a<(N.length:Int)) (ag:0<=b/\b<(N.length:Int)) (ae:N.length<=10000) (hF:(C0 N).length<=1000000) :
  BA Tryz.prog 86 [.bp 101 [] 0,.p T3 a,.p T3 b] (bJ h p ty ar) [101]
  (λres L=>(res=.p .bool true/\∃B H u,L=bJ h B H u/\JI h N (P++[(a,b)]) B H u [])\/(res=.p .bool false/\(∃B H u,L=bJ h B H u)/\∀X v,CP h X->¬Rb h N (P++[(a,b)]) X v)):=by
 refine Ki [0,1,2,3,6,7,8,9,10,11,19,48] [] [] Tryz.func86 Tryz.ntmps86 AH ?_;intro w0 K O0 ρ0 f ay az;have hh:h.1.length<=100000:=UR hk.2 (by omega);have ah:∀x∈h.1,x.2.1.length<=100000:=λx hx=>UR (hk.1.wid x.2.1 (IF.2 ⟨x,hx,rfl⟩)) (by omega);have ai:=Xb W ha ag;generalize ax:P++[(a,b)]=Q at *;have aw:N.length*((C0 N).length+1)<=10000*1000001:=Nat.mul_le_mul ae (by omega);simp only[bJ,Aj];repeat'(first|exact trivial|apply eS rfl|refine rX f ?_ ?_)
 refine AK (ι:={s:(List Int×List Int×List (List (Int×Int)))×(List (Int×Int)×Nat)//JI h N Q s.1.1 s.1.2.1 s.1.2.2 (s.2.1.take s.2.2)/\s.2.2<=s.2.1.length/\nR s.1.1*((C0 N).length+1)+s.2.2<=N.length*((C0 N).length+1)+1}) (λs=>⟨[(3,.bp 3 [] 0),(7,.bp 7 [] 0),(8,.clo 134 [3,7])],[(101,.box 111 true [.p Du h,.sr 102 T3 0 s.1.1.1.length,.sr 103 T3 0 s.1.1.2.1.length,.sr 104 DF 0 s.1.1.2.2.length]),(102,.arr 3 T3 s.1.1.1),(103,.arr 3 T3 s.1.1.2.1),(104,.arr 91 DF s.1.1.2.2),(3,.box 108 false [.bp 101 [] 0]),(7,.box 173 false [.sr 15 R3 0 s.1.2.2]),(15,.arr 172 R3 s.1.2.1)]⟩) (λs=>nR s.1.1.1*((C0 N).length+1)+s.1.2.2) ⟨((p,ty,ar),([(a,b)],1)),ai,by simp,by have:=Uc ((C0 N).length+1) (AEO p);rw[W.lp]at this;simp only;omega⟩ (eW [(101,.nm 101),(102,.nm 102),(103,.nm 103),(104,.nm 104),(3,.nm 3),(7,.nm 7),(15,.nm 15)]) (λs=>?_)
 obtain⟨⟨⟨q,d,aq⟩,V,k⟩,l,aj,ad⟩:=s;simp only at l aj ad ⊢;repeat'(first|exact trivial|apply eS rfl|refine rX f ?_ ?_|refine rC ?_ ?_<;>intro j<;>try(cases j;done))
 .exact eV
 .exact eV
 .have Y:0<k:=Do.1 j;have ak:((k:Int)-1).toNat=k-1:=by omega
  have T:=Av V (0,0) (k:=k-1) (by omega);rw[show k-1+1=k by omega]at T;rw[ak];generalize bb:V.getD (k-1) (0,0)=st at *;obtain⟨s,t⟩:=st;rw[T]at l;obtain⟨⟨D,s1⟩,F,G⟩:=l.wr (s,t) (by simp);simp only at D s1 F G;obtain⟨M,fo⟩:=l.fo;have C:=l.lp;refine CJ drawsAny f 8 [([0,1,2],3),([4,5,6],7)] [] (by kernel_rfl) (LF ?_ ?_)
  .trivial
  refine mxC f (fO h d aq M fo D (by rw[C];exact s1)) [(1,.nm 101),(2,.nm 102),(3,.nm 103),(4,.nm 104)] [102,103,104] ?_ ?_ ?_
  .exact eN
  .simp only[Y2];exact eN
  rintro _ _ ⟨aa,c,rfl,rfl,ab,E,au⟩;refine⟨[(101,.nm 1),(102,.nm 2),(103,.nm 3),(104,.nm 4)],.p T3 c,[(101,.box 111 true [.p Du h,.sr 102 T3 0 aa.length,.sr 103 T3 0 d.length,.sr 104 DF 0 aq.length]),(102,.arr 3 T3 aa),(103,.arr 3 T3 d),(104,.arr 91 DF aq)],rfl,rfl,?_,?_,rfl,rfl,rfl,?_⟩
  .simp only[Y2];exact eN
  .exact eN
  refine LF ?_ ?_
  .trivial
  refine mxC f (fO h d aq M ab F (by rw[<-E.1,C];exact G)) [(1,.nm 101),(2,.nm 102),(3,.nm 103),(4,.nm 104)] [102,103,104] ?_ ?_ ?_
  .exact eN
  .simp only[Y2];exact eN
  rintro _ _ ⟨g,e,rfl,rfl,I,R,av⟩;refine⟨[(101,.nm 1),(102,.nm 2),(103,.nm 3),(104,.nm 4)],.p T3 e,[(101,.box 111 true [.p Du h,.sr 102 T3 0 g.length,.sr 103 T3 0 d.length,.sr 104 DF 0 aq.length]),(102,.arr 3 T3 g),(103,.arr 3 T3 d),(104,.arr 91 DF aq)],rfl,rfl,?_,?_,rfl,rfl,rfl,?_⟩
  .simp only[Y2];exact eN
  .exact eN
  refine R1 f ?_ ?_ ?_
  .trivial
  .trivial
  repeat' apply eS rfl
  have i:=A9r (E.trans R) ⟨M,I⟩ l;have O:=E.trans R;have A:=(O.2 s c D (by rw[C];exact s1)).1 au;have o:=(R.2 t e F (by rw[<-E.1,C];exact G)).1 av;have n:=i.lp;have w:=GI I D (by rw[n];exact s1) A;have m:=GI I F (by rw[n];exact G) o;refine evP f 4 ?_ ?_
  .trivial
  by_cases z:c=e
  .subst z;rw[show (c != c)=false from bne_self_eq_false c];refine rL f ?_ ?_
   .trivial
   repeat'(first|apply eS rfl|apply AB|refine rC ?_ ?_<;>intro j<;>try(cases j;done))
   have y:=fP i A o;have hn:=A0w O;exact⟨⟨((g,d,aq),V,k-1),y,by simp only;omega,by simp only;rw[hn];omega⟩,by simp only;rw[hn];omega,eW [(101,.nm 101),(102,.nm 102),(103,.nm 103),(104,.nm 104),(3,.nm 3),(7,.nm 7),(15,.nm 15)]⟩
  rw[show (c != e)=true by simpa using z];refine rN 3 f ?_ ?_
  .trivial
  have J:=λr:Int=>fQ (i.srt r.toNat) (λa ha=>(i.arr r.toNat a ha).2);refine clG f (A5u h hh ah g d aq V (k-1) (by omega) (by omega) w.1 w.2 m.1 m.2 (by rw[i.lt,n]) (by rw[i.la,n]) (i.tyr c w.1 (by rw[<-n];exact w.2)) (i.tyr e m.1 (by rw[<-n];exact m.2)) (UR (J c) (by omega)) (UR (J e) (by omega))) [(1,.nm 101),(2,.nm 102),(3,.nm 103),(4,.nm 104),(5,.nm 3),(6,.nm 7),(7,.nm 15)] [102,103,104,15] ?_ ?_ ?_
  .exact eN
  .simp only[mgO];exact eN
  rintro res L (⟨e1,rfl,rfl⟩|⟨e1,rfl,S,U,ao,Z,rfl⟩)
  .refine⟨[(101,.nm 1),(102,.nm 2),(103,.nm 3),(104,.nm 4),(3,.nm 5),(7,.nm 6),(15,.nm 7)],.p .bool false,[(101,.box 111 true [.p Du h,.sr 102 T3 0 g.length,.sr 103 T3 0 d.length,.sr 104 DF 0 aq.length]),(102,.arr 3 T3 g),(103,.arr 3 T3 d),(104,.arr 91 DF aq),(3,.box 108 false [.bp 101 [] 0]),(7,.box 173 false [.sr 15 R3 0 (k-1)]),(15,.arr 172 R3 V)],rfl,rfl,?_,?_,rfl,rfl,?_⟩
   .simp only[mgO];exact eN
   .exact eN
   refine rL f ?_ ?_
   .trivial
   repeat'(first|exact trivial|apply eS rfl|refine rX f ?_ ?_|refine rC ?_ ?_<;>intro j<;>try(cases j;done))
   refine Ev.ent (σ':=⟨[(6,.p .bool false)],bJ h g d aq⟩) ?_ (AD [(101,.nm 101),(102,.nm 102),(103,.nm 103),(104,.nm 104)] rfl rfl ?_ ?_)
   .exact fM f [.tmp 6] (.p .bool false) eT (.inr ⟨rfl,⟨g,d,aq,rfl⟩,λX v af an=>by
     have:=(VI hk i A o af an).2.1;rw[e1]at this;cases this⟩)
   .unfold bJ;exact eN
   exact eN
  refine⟨[(101,.nm 1),(102,.nm 2),(103,.nm 3),(104,.nm 4),(3,.nm 5),(7,.nm 6),(15,.nm 7)],.p .bool true,[(101,.box 111 true [.p Du h,.sr 102 T3 0 (g.set e.toNat c).length,.sr 103 T3 0 (d.set c.toNat (Bx h (d.getD c.toNat 0) (d.getD e.toNat 0)).1).length,.sr 104 DF 0 (aq.set c.toNat (Bz (aq.getD c.toNat []) (aq.getD e.toNat [])).1).length]),(102,.arr 3 T3 (g.set e.toNat c)),(103,.arr 3 T3 (d.set c.toNat (Bx h (d.getD c.toNat 0) (d.getD e.toNat 0)).1)),(104,.arr 91 DF (aq.set c.toNat (Bz (aq.getD c.toNat []) (aq.getD e.toNat [])).1)),(3,.box 108 false [.bp 101 [] 0]),(7,.box 173 false [.sr 15 R3 0 U]),(15,.arr 172 R3 S)],rfl,rfl,?_,?_,rfl,rfl,?_⟩
  .simp only[mgO];exact eN
  .exact eN
  refine rL f ?_ ?_
  .trivial
  repeat'(first|apply eS rfl|apply AB|refine rC ?_ ?_<;>intro j<;>try(cases j;done))
  have y:=Xa hk i A o z e1;rw[<-Z]at y;have hn:=A0w O;have am:=A0x (a:=c) m.1 m.2 o.root z;have ba:(Bz (aq.getD c.toNat []) (aq.getD e.toNat [])).2.length<=(C0 N).length:=UR RL (J c);have ap:=Yp List.length Z;rw[BY,OS,OS]at ap;have al:nR g*((C0 N).length+1)=nR (g.set e.toNat c)*((C0 N).length+1)+((C0 N).length+1):=by rw[<-am,AFK,Nat.one_mul]
  rw[hn]at al;exact⟨⟨((g.set e.toNat c,d.set c.toNat (Bx h (d.getD c.toNat 0) (d.getD e.toNat 0)).1,aq.set c.toNat (Bz (aq.getD c.toNat []) (aq.getD e.toNat [])).1),S,U),y,ao,by simp only;omega⟩,by simp only;omega,eW [(101,.nm 101),(102,.nm 102),(103,.nm 103),(104,.nm 104),(3,.nm 3),(7,.nm 7),(15,.nm 15)]⟩
 have Y:k=0:=by
  have:=US.1 j;omega
 subst Y;rw[ZR]at l;refine Ev.ent (σ':=⟨[(6,.p .bool true)],bJ h q d aq⟩) ?_ (AD [(101,.nm 101),(102,.nm 102),(103,.nm 103),(104,.nm 104)] rfl rfl ?_ ?_)
 .exact fM f [.tmp 6] (.p .bool true) eT (.inl ⟨rfl,q,d,aq,rfl,l⟩)
 .unfold bJ;exact eN
 exact eN
open Classical in
noncomputable def EH (p:List Int) (x:Int):Int:=if h:∃r,Rt p x r then h.choose else x
theorem fS {p:List Int} {x r:Int} (h:Rt p x r):EH p x=r:=by
 unfold EH;rw[dif_pos ⟨r,h⟩];exact(Exists.choose_spec (p:=λr=>Rt p x r) ⟨r,h⟩).det h
theorem Po {p:List Int} {a:Int->Nat} (hp:Fo p a) {x:Int} (b:0<=x) (c:x<(p.length:Int)):Rt p x (EH p x):=by
 obtain⟨r,h,-,-⟩:=hp.root b c;rw[fS h];exact h
noncomputable def quo (p ty:List Int) (ar:List (List (Int×Int))):List AC:=(List.range p.length).map λk=>(ty.getD k 0,(ar.getD k []).map λa=>(a.1,EH p a.2))
theorem E2 (p ty:List Int) (ar:List (List (Int×Int))):(quo p ty ar).length=p.length:=by simp[quo]
theorem Np {p ty:List Int} {ar:List (List (Int×Int))} {n:Int} (n0:0<=n) (n1:n<(p.length:Int)):(quo p ty ar).getD n.toNat (0,[])=(ty.getD n.toNat 0,(ar.getD n.toNat []).map λa=>(a.1,EH p a.2)):=by
 unfold quo;rw[AS,Yc,oS (by omega)];rfl
def LX (len:Nat) (o:List Int):List Int:=(List.range len).map λ(k:Nat)=>if (k:Int)∈o then ((o.idxOf (k:Int):Nat):Int) else -1
theorem Xc (len:Nat) (o:List Int):(LX len o).length=len:=by simp[LX]
theorem Xd {len:Nat} {o:List Int} {n:Int} (n0:0<=n) (n1:n<(len:Int)):(LX len o).getD n.toNat 0=if n∈o then (o.idxOf n:Int) else -1:=by
 unfold LX;rw[AS,Yc,oS (by omega)];simp only[ABw,AFP];rw[show ((n.toNat:Nat):Int)=n by omega]
theorem Xe {o:List Int} {n:Int} (h:n∉o):(o++[n]).idxOf n=o.length:=by
 rw[AGf,As h];simp
theorem bK {o t:List Int} {n:Int} (h:n∈o):(o++t).idxOf n=o.idxOf n:=by
 rw[AGf,Bq h]
theorem A5v {len:Nat} {o:List Int} {n:Int} (n0:0<=n) (n1:n<(len:Int)) (h:n∉o):(LX len o).set n.toNat (o.length:Int)=LX len (o++[n]):=by
 apply Yd
 .simp[LX]
 intro i h1 b;rw[AGo];simp only[LX,AAn,AAj];by_cases e:n.toNat=i
 .rw[Bq e];have e2:(i:Int)=n:=by omega
  rw[e2,Bq (by simp),Xe h]
 rw[As e];have e2:(i:Int)≠n:=by omega
 by_cases a:(i:Int)∈o
 .rw[Bq a,Bq (by simp[a]),bK a]
 rw[As a,As (by simp[a,e2])]
theorem Xf {o t:List Int} {x:Int} (h:x∈o):BE (o++t) x=BE o x:=by
 unfold BE;rw[Bq (YW _ h),Bq h,bK h]
theorem RM {f:List AC} (hf:AN f) (k:Nat):∀(l:List (Int×Int)) (t:List Int),(∀a∈l,0<=a.2/\a.2<(f.length:Int))->Iw f t->f.length-t.length<=k ->
  (∀a∈l,a.2∈l.foldl (AY f k) t)/\∀x∈l.foldl (AY f k) t,x∈t\/∀a∈(f.getD x.toNat (0,[])).2,a.2∈l.foldl (AY f k) t:=by
 intro l;induction l with
 | nil=>exact λt _ _ _=>⟨λa ha=>(by cases ha),λx hx=>.inl hx⟩
 | cons a l r =>
  intro t hl i m;simp only[UN];have n:Iw f (AY f k t a)/\t <+: AY f k t a/\a.2∈AY f k t a/\∀x∈AY f k t a,x∈t\/∀b∈(f.getD x.toNat (0,[])).2,b.2∈AY f k t a:=by
   unfold AY;split
   .rename_i hn;exact⟨i,iF _,hn,λx hx=>.inl hx⟩
   rename_i hn;have q:=hl a (by simp);obtain⟨d,e⟩:=DV hf k t a.2 i q.1 q.2 hn;obtain⟨g,h⟩:=Id hf k t a.2 i q.1 q.2 hn m;exact⟨d,e,g,h⟩
  obtain⟨d,e,g,h⟩:=n;have s:=e.length_le;obtain⟨o,p⟩:=r (AY f k t a) (λb c=>hl b (by simp[c])) d (by omega);obtain⟨_,j⟩:=EF (DV hf k) l (AY f k t a) (λb c=>hl b (by simp[c])) d;refine⟨λb c=>?_,λx hx=>?_⟩
  .rcases By.1 c with rfl|c
   .exact j.subset g
   exact o b c
  rcases p x hx with hx|hx
  .rcases h x hx with hx|hx
   .exact .inl hx
   exact .inr λb c=>j.subset (hx b c)
  exact .inr hx
def HW (f:List AC) (o a:List Int):List AC:=(a.drop o.length).map (CL f a)
theorem A2w {f:List AC} {o t:List Int} {x:Int} (h:∀a∈(f.getD x.toNat (0,[])).2,a.2∈o):CL f (o++t) x=CL f o x:=by
 unfold CL;refine Yp _ (Of λa ha=>?_);unfold Gm;rw[Xf (h a ha)]
theorem A5w {f:List AC} {c b d:List Int} (e:c <+: b) (g:b <+: d) (i:∀x∈b,x∈c\/∀a∈(f.getD x.toNat (0,[])).2,a.2∈b) (hn:b.Nodup):HW f c b++HW f b d=HW f c d:=by
 obtain⟨t,rfl⟩:=e;obtain⟨s,rfl⟩:=g;unfold HW;rw[AF8,AF8,UT,AF8,<-UT,UZ]
 congr 1
 refine Of λx hx=>?_;refine(A2w λa ha=>?_).symm;rcases i x (AB1 _ hx) with h|h
 .exact absurd rfl ((nO.1 hn).2.2 x h x hx)
 exact h a ha
theorem bL (f:List AC) (o:List Int):HW f o o=[]:=by
 unfold HW;rw[AAo];rfl
theorem Sa {α β:Type} (f:α->β) {l:List α} (d:α) (e:β) {i:Nat} (h:i<l.length):(l.map f).getD i e=f (l.getD i d):=by
 simp[AS,AT h]
structure AEP (Q:List AC) (o1:List Int) (L:List (Int×Int)) (j:Nat) (oo:Nat->List Int):Prop where
 zero:oo 0=o1
 succ:∀i,i<L.length->oo (i+1)=AY Q j (oo i) (0,(L.getD i (0,0)).2)
 dok:∀i,Iw Q (oo i)
 pre:∀i,o1 <+: oo i
 nxt:∀i,oo i <+: oo (i+1)
 tgt:∀i,∀a∈L.take i,a.2∈oo i
 cls:∀i,∀x∈oo i,x∈o1\/∀a∈(Q.getD x.toNat (0,[])).2,a.2∈oo i
 last:oo L.length=L.foldl (AY Q j) o1
theorem A9s {Q:List AC} (c:AN Q) {b:List Int} {L:List (Int×Int)} {j:Nat} (f:∀a∈L,0<=a.2/\a.2<(Q.length:Int)) (h1:Iw Q b) (g:Q.length-b.length<=j):AEP Q b L j (λi=>(L.take i).foldl (AY Q j) b):=by
 have hl:=λi=>λa (ha:a∈L.take i)=>f a (Yb ha);have hs:∀i,i<L.length->(L.take (i+1)).foldl (AY Q j) b=AY Q j ((L.take i).foldl (AY Q j) b) (0,(L.getD i (0,0)).2):=λi hi=>KL (AY Q j) L (0,0) b hi;have d:=λi=>EF (DV c j) (L.take i) b (hl i) h1;refine⟨rfl,hs,λi=>(d i).1,λi=>(d i).2,λi=>?_,λi=>(RM c j _ b (hl i) h1 g).1,λi=>(RM c j _ b (hl i) h1 g).2,by simp only[UO]⟩;by_cases h:i<L.length
 .show _ <+: (L.take (i+1)).foldl (AY Q j) b;rw[hs i h];have k:=f _ (AE L (0,0) h);exact(EF (DV c j) [(0,(L.getD i (0,0)).2)] _ (λa ha=>by
   have e:a=(0,(L.getD i (0,0)).2):=by simpa using ha
   subst e;exact k) (d i).1).2
 show (L.take i).foldl (AY Q j) b <+: (L.take (i+1)).foldl (AY Q j) b;rw[At (by omega),At (by omega)];exact iF _
theorem A9t {α:Type} (l:List α) (x y:α) (t:List α) {k:Nat} (hk:k=l.length):(l++[x]++t).set k y=l++y :: t:=by
 subst hk;rw[UT,AFc _ _ (by omega),AAz];rfl
theorem A2x {Q:List AC} {o a:List Int} {n:Int} (h:o++[n] <+: a):HW Q o a=CL Q a n :: HW Q (o++[n]) a:=by
 obtain⟨t,rfl⟩:=h;unfold HW;rw[AF8,UT,AF8];rfl
end Go.Proofs.YtapkhdkbkodbjaaGreat.Fw
