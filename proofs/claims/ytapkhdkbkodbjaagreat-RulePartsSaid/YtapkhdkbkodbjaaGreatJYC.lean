/- Contracts of the program's and the reference's functions, and the plain laws of what they compute: U5 U6 U7 U8 U9 U10 U11 U12 N8 N9 V1 V2 V4 V5 V6 V9 V10 T19 T20 T22 T24 W6 T26 U14 W7 T27 T21 T23 T25 U13 V3 SN V11 V7 V8 T28 U17 H4 V14 T17 T18 L21 T30 W10 J1 I1 H2 H3 J2 V15 V16 J3 I2 I5 T29 K1 K2 I3 I4 I6. -/
import Derived.Test.YtapkhdkbkodbjaaGreatJYB
import Derived.Test.YtapkhdkbkodbjaaGreatJZI
import Derived.Test.YtapkhdkbkodbjaaGreatJYA
import Derived.Laws.Strings
set_option linter.unusedVariables false
set_option linter.unusedSimpArgs false
namespace Go.Proofs.YtapkhdkbkodbjaaGreat.Fw
open Go
attribute [local irreducible] Ev
attribute [local go_sem] fT AL List.toList_toArray B1 evG evK YL E2 Ke Gw GA GQ Pi LS CP DX M5 Ce Ct frz lC Gq DW BB F2 Bg AV.frz AV.frzs AV.drp AV.drps AV.names AV.namess aq Gt LR KT Tj JS Bh Bp Jp El Il Em Io Im Ip VJ Pb HJ KV F4 Ed VK Ra qUn Jq Iq Lv FX Dz JV KW Eo Tk Cl Ep FH Rb Ir Nv Fg Nu Pc Rc Lw JW KX DM DB Fh D0 Hn Dj FI Dk Eq F6 Ce Cs PZ RZ OT Gm JU JT KU Nw Pf Ly L2 Lz Ka Sm L1 Kb aR Ph Pg AV.trn AV.trns EY Ck Obj.trn J5 gF DP Dm DN Er Ci FJ Ak lk HV Gr Hk bin lB YP lE Sk yQ yR pfs AV.cells CL Jn Pa KZ Pe Ca Ns Ty.cell1 Ik FD Dy GP LQ Eh KS Lu RW Ff HI Nl Th VI Lt KQ aP eL Sj Nt DF Jo RV.flat Ty.flat Ty.size St.add upd del Bi Value.oneCell' Ln Ty.dflt Ij P0 Hz QH List.take_succ_cons List.take_zero List.length_cons f3 f4 QG Jz MJ Hf J0 A1Q GB NF NG NH NI Rl Rm NJ Iz Va Option.map_some Option.map_none Option.bind_some Option.getD_some Option.getD_none Option.isNone_none Option.isNone_some Bool.and_true Bool.true_and Bool.and_false Bool.false_and Bool.not_true Bool.not_false if_true if_false List.length_cons List.length_nil and_true true_and and_self List.all_cons List.all_nil List.append_nil List.nil_append List.cons_append List.getElem?_cons_zero List.getElem?_cons_succ List.getElem?_nil List.map_cons List.map_nil List.set_cons_zero List.set_cons_succ List.isEmpty_nil List.isEmpty_cons decide_true decide_false beq_self_eq_true bne_self_eq_false Nat.zero_add Nat.add_zero Nat.sub_zero Int.toNat_natCast Int.toNat_zero Int.toNat_one List.take_length List.length_append List.length_singleton true_or or_true or_self false_or or_false Ty.agg.injEq Ty.slice.injEq Ty.prod.injEq Ty.int.injEq Option.some.injEq beq_iff_eq Lo evMG evMQ opM H5 MF B8 Jy Gx QA Jw H0 I0 Kn LZ Oh N0 Oi Tn MG QB QC Jx Ac Ap Op.operands Call.operands List.filterMap_cons List.filterMap_nil List.append_eq Bool.cond_false_right Bool.cond_true_left cond_true cond_false implies_true decide_eq_true_eq beq_true beq_false Bool.or_true Bool.or_false Bool.true_or Bool.false_or Option.isSome_some Array.empty_append List.append_toArray F3 M6 FK Hl aQ Pd F5 GX GW It Hm KY Lx YQ lD Hj inB Kd F7 Gn Jr Ar f5 List.drop_zero Dr H6 bP CU Kr Bu AV.fgt AV.fgts Obj.fgt Ao Am Ac DR Ii BS Gy List.any_cons List.any_nil l9 f8 bQ f9 MM Rr qs List.flatMap_cons List.flatMap_nil List.cons_append tn bU J6 List.take_succ_cons List.drop_succ_cons bZ HK BV qE NN CD CT Ag FN Km Br FM D6 Hx Iy Gb Hy
attribute [local go_sem] ty1 ty2 ty3 ty4 ty5 ty9 A5y A5z A5A A5B A5C A5D A5E A5F A5G A5H A5I A5J A5K A5L A5M A5N A5O A5P A5Q A5R A5S A5T A5U A5V A5W A5X A5Y A5Z A60 A61 A62 A63 A64 A65 A66 A67 A68 A69 A6a A6b A6c A6d A6e A6f A6g A6h A6i A6j A6k A6l A6m A6n A6o A6p A6q A6r A6s A6t A6u A6v A6w A6x A6y A6z A6A A6B A6C A6D A6E A6F A6G qL qM qN qO qP qQ qR qS qT qU qV qW qX qY qZ q9 rA rB rD rE rF rG rH rI rJ rK rO rQ rR rS rU rV rW rZ r7 r8 r9 sA sB sC sD sE sF sG sH sI sJ sK sL sM sN sO sP sQ sR sS sT sU sV sW sX sY sZ s5 s6 s7 s8 s9 tA tB tC tD tE tF tG tH tI tJ tK tL tM tN tP tQ tR tS tT tU tV tW tX tY tZ t8 t9 uA uB uC uD uE uF uG uH uI uJ uK uL uM uN uP uQ uR uS uT uU uV uW uX uY uZ u3 u4 u5 u6 u7 u9 vA vB vC vD vE vF vG vH vI vJ vK vL vM vN vO vP vQ vS vT vU vV vW vX vY vZ v4 v5 v6 v7 v8 v9 wA wB wC wD wF wG wH wI wJ
set_option maxRecDepth 100000
set_option maxHeartbeats 4000000
theorem PM {h:AH} (hk:GL h) {a b c:Int} (d:0<=a) (e:a<(h.1.length:Int)) (f:0<=b) (b1:b<(h.1.length:Int)) (c0:0<=c) (c1:c<(h.1.length:Int)) (h1:BA h a b=true) (g:BA h b c=true):BA h a c=true :=
 (B3 hk d e c0 c1).2 λi hi=>(B3 hk d e f b1).1 h1 i ((B3 hk f b1 c0 c1).1 g i hi)
theorem Q5:∀ {x y:List (Int×Int)} {a:Int×Int},a∈x->a∈(B4 x y).1
 | [],_,_,h=>by cases h
 | b :: x,[],a,h=>by simpa[B4] using h
 | b :: x,c :: y,a,h=>by
  rw[B4];split
  ·rcases DO.1 h with rfl|h
   ·simp
   ·exact OF _ (Q5 h)
  ·split
   ·exact OF _ (Q5 h)
   ·rcases DO.1 h with rfl|h
    ·simp
    ·exact OF _ (Q5 h)
termination_by x y=>x.length+y.length
theorem Nb:∀ {x y:List (Int×Int)} {a:Int×Int},a∈y->a∈(B4 x y).1\/∃t,(a.1,t)∈(B4 x y).1/\(t,a.2)∈(B4 x y).2
 | [],y,a,h=>by
  left;simpa[B4] using h
 | b :: x,[],a,h=>by cases h
 | b :: x,c :: y,a,h=>by
  rw[B4];split
  ·rcases Nb (x:=x) h with g|⟨t,d,e⟩
   ·exact .inl (OF _ g)
   ·exact .inr ⟨t,OF _ d,e⟩
  ·split
   ·rcases DO.1 h with rfl|h
    ·left;simp
    ·rcases Nb (x:=b :: x) h with g|⟨t,d,e⟩
     ·exact .inl (OF _ g)
     ·exact .inr ⟨t,OF _ d,e⟩
   ·rcases DO.1 h with rfl|h
    ·right;exact⟨b.2,by rw[show a.1=b.1 by omega];simp,by simp⟩
    ·rcases Nb (x:=x) h with g|⟨t,d,e⟩
     ·exact .inl (OF _ g)
     ·exact .inr ⟨t,OF _ d,OF _ e⟩
termination_by x y=>x.length+y.length
theorem JN:∀ {x y:List (Int×Int)} {a:Int×Int},a∈(B4 x y).1->a∈x\/a∈y
 | [],y,a,h=>by
  right;simpa[B4] using h
 | b :: x,[],a,h=>by
  left;simpa[B4] using h
 | b :: x,c :: y,a,h=>by
  rw[B4]at h;split at h
  ·rcases DO.1 h with rfl|h
   ·left;simp
   ·rcases JN h with g|g
    ·exact .inl (OF _ g)
    ·exact .inr g
  ·split at h
   ·rcases DO.1 h with rfl|h
    ·right;simp
    ·rcases JN h with g|g
     ·exact .inl g
     ·exact .inr (OF _ g)
   ·rcases DO.1 h with rfl|h
    ·left;simp
    ·rcases JN h with g|g
     ·exact .inl (OF _ g)
     ·exact .inr (OF _ g)
termination_by x y=>x.length+y.length
theorem Q6:∀ {x y:List (Int×Int)} {q:Int×Int},q∈(B4 x y).2->∃e,(e,q.1)∈x/\(e,q.2)∈y
 | [],y,q,h=>by simp[B4]at h
 | b :: x,[],q,h=>by simp[B4]at h
 | b :: x,c :: y,q,h=>by
  rw[B4]at h;split at h
  ·obtain⟨e,h1,a⟩:=Q6 h;exact⟨e,OF _ h1,a⟩
  ·split at h
   ·obtain⟨e,h1,a⟩:=Q6 h;exact⟨e,h1,OF _ a⟩
   ·rcases DO.1 h with rfl|h
    ·exact⟨b.1,by simp,by rw[show b.1=c.1 by omega];simp⟩
    ·obtain⟨e,h1,a⟩:=Q6 h;exact⟨e,OF _ h1,OF _ a⟩
termination_by x y=>x.length+y.length
theorem Q7:∀ {x y:List (Int×Int)},(B4 x y).2.length<=x.length
 | [],y=>by simp[B4]
 | b :: x,[]=>by simp[B4]
 | b :: x,c :: y=>by
  rw[B4];split
  ·have:=Q7 (x:=x) (y:=c :: y);simp only[OS];omega
  ·split
   ·exact Q7 (x:=b :: x) (y:=y)
   ·have:=Q7 (x:=x) (y:=y);simp only[OS];omega
termination_by x y=>x.length+y.length
abbrev Nr (l:List (Int×Int)):Prop:=l.Pairwise (λa b=>a.1<b.1)
theorem Ux:∀ {x y:List (Int×Int)},Nr x->Nr y->Nr (B4 x y).1
 | [],y,_,h=>by simpa[B4] using h
 | b :: x,[],h,_=>by simpa[B4] using h
 | b :: x,c :: y,i,j=>by
  have d:=UW.1 i;have e:=UW.1 j;rw[B4];split
  ·rename_i f;refine UW.2 ⟨λa ha=>?_,Ux d.2 j⟩;rcases JN ha with g|g
   ·exact d.1 a g
   ·rcases DO.1 g with rfl|g
    ·exact f
    ·have:=e.1 a g;omega
  ·split
   ·rename_i f;refine UW.2 ⟨λa ha=>?_,Ux i e.2⟩;rcases JN ha with g|g
    ·rcases DO.1 g with rfl|g
     ·exact f
     ·have:=d.1 a g;omega
    ·exact e.1 a g
   ·refine UW.2 ⟨λa ha=>?_,Ux d.2 e.2⟩;rcases JN ha with g|g
    ·exact d.1 a g
    ·have:=e.1 a g;omega
termination_by x y=>x.length+y.length
theorem A7t {p:List Int} {o:Int->Nat} (hp:Fo p o) {a b:Int} (j:0<=a) (c:0<=b) (b1:b<(p.length:Int)) (ha:EX p a=a) (k:EX p b=b) (f:a≠b) {x r:Int} (d:0<=x) (q:x<(p.length:Int)) (h:Rt p x r):Rt (p.set b.toNat a) x (if r=b then a else r):=by
 have l:Rt (p.set b.toNat a) a a:=.base (by rw[DD c b1 a j,An f];exact ha);induction h with
 | @base n hn =>
  split
  ·rename_i e;rw[e];exact .step (by rw[DD c b1 b c,BY rfl];exact f) (by rw[DD c b1 b c,BY rfl];exact l)
  ·rename_i e;exact .base (by rw[DD c b1 n d,An e];exact hn)
 | @step n r hn _ m =>
  have g:n≠b:=λe=>hn (e▸k);have i:=hp.rng n d q;exact .step (by rw[DD c b1 n d,An g];exact hn) (by rw[DD c b1 n d,An g];exact m i.1 i.2)
theorem A7u {p:List Int} {c:Int->Nat} (hp:Fo p c) {a b:Int} (h:0<=a) (i:a<(p.length:Int)) (d:0<=b) (b1:b<(p.length:Int)) (ha:EX p a=a) (l:EX p b=b) (k:a≠b):∃o,Fo (p.set b.toNat a) o:=by
 classical
 refine⟨λx=>if Rt p x b then c x+c a+1 else c x,λn n0 n1=>?_,λn n0 n1 hn=>?_⟩
 ·rw[YG]at n1 ⊢;rw[DD d b1 n n0];split
  ·exact⟨h,i⟩
  ·exact hp.rng n n0 n1
 ·rw[YG]at n1;rw[DD d b1 n n0]at hn ⊢;by_cases e:n=b
  ·subst e;rw[BY rfl];have h1:¬Rt p a n:=λg=>k (g.det (.base ha)).symm;rw[An h1,BY (.base l)];omega
  ·rw[An e]at hn ⊢;have m:=hp.dec n n0 n1 hn;have f:Rt p n b↔Rt p (EX p n) b:=by
    constructor
    ·intro g;cases g with
     | base g=>exact absurd g hn
     | step _ g=>exact g
    ·exact λg=>.step hn g
   by_cases g:Rt p n b
   ·rw[BY g,BY (f.1 g)];omega
   ·rw[An g,An (λj=>g (f.2 j))];exact m
inductive EG (n:Nat) (p:List Int) (W:List (Int×Int)):Int->Int->Prop
 | cls {x y r:Int} (x0:0<=x) (x1:x<(n:Int)) (y0:0<=y) (y1:y<(n:Int)) (h:Rt p x r) (g:Rt p y r):EG n p W x y
 | wt {x y:Int} (h:(x,y)∈W):EG n p W x y
 | symm {x y:Int} (h:EG n p W x y):EG n p W y x
 | trans {x y z:Int} (h:EG n p W x y) (g:EG n p W y z):EG n p W x z
theorem EG.mono {n:Nat} {p q:List Int} {W V:List (Int×Int)} (h1:∀x y r,0<=x->x<(n:Int)->0<=y->y<(n:Int)->Rt p x r->Rt p y r->EG n q V x y) (a:∀x y,(x,y)∈W->EG n q V x y) {x y:Int} (h:EG n p W x y):EG n q V x y:=by
 induction h with
 | cls e f i j h g=>exact h1 _ _ _ e f i j h g
 | wt h=>exact a _ _ h
 | symm _ b=>exact .symm b
 | trans _ _ c d=>exact .trans c d
structure eJ (h:AH) (N:List AD) (P:List (Int×Int)) (X:List AD) (v:Int->Int):Prop where
 rng:∀x,0<=x->x<(N.length:Int)->0<=v x/\v x<(X.length:Int)
 ty:∀x,0<=x->x<(N.length:Int)->BA h (N.getD x.toNat (0,[])).1 (X.getD (v x).toNat (0,[])).1=true
 arc:∀x,0<=x->x<(N.length:Int)->∀a∈AR N x,Dh (AR X (v x)) a.1=v a.2
 eq:∀q∈P,v q.1=v q.2
structure JX (h:AH) (X:List AD) (v:Int->Int) (n:Nat) (p ty:List Int) (ar:List (List (Int×Int))) (W:List (Int×Int)):Prop where
 cls:∀x r,0<=x->x<(n:Int)->Rt p x r->v x=v r
 wt:∀w∈W,v w.1=v w.2
 ty:∀r,0<=r->r<(n:Int)->EX p r=r->BA h (ty.getD r.toNat 0) (X.getD (v r).toNat (0,[])).1=true
 arc:∀r,0<=r->r<(n:Int)->EX p r=r->∀a∈ar.getD r.toNat [],Dh (AR X (v r)) a.1=v a.2
def DA (N:List AD):List Int:=N.flatMap λx=>x.2.map (·.1)
structure JI (h:AH) (N:List AD) (P:List (Int×Int)) (p ty:List Int) (ar:List (List (Int×Int))) (W:List (Int×Int)):Prop where
 nty:Dv h N
 fo:∃rk,Fo p rk
 lp:p.length=N.length
 lt:ty.length=N.length
 la:ar.length=N.length
 wr:∀w∈W,(0<=w.1/\w.1<(N.length:Int))/\(0<=w.2/\w.2<(N.length:Int))
 tyr:∀x,0<=x->x<(N.length:Int)->0<=ty.getD x.toNat 0/\ty.getD x.toNat 0<(h.1.length:Int)
 arr:∀k,∀a∈ar.getD k [],(0<=a.2/\a.2<(N.length:Int))/\a.1∈DA N
 srt:∀k,Nr (ar.getD k [])
 sp:∀q∈P,EG N.length p W q.1 q.2
 st:∀x r,0<=x->x<(N.length:Int)->Rt p x r->BA h (N.getD x.toNat (0,[])).1 (ty.getD r.toNat 0)=true
 sa:∀x r,0<=x->x<(N.length:Int)->Rt p x r->∀a∈AR N x,∃t,(a.1,t)∈ar.getD r.toNat []/\EG N.length p W a.2 t
 co:∀X v,Dv h X->eJ h N P X v->JX h X v N.length p ty ar W
theorem GJ {p:List Int} {a:Int->Nat} (hp:Fo p a) {x r:Int} (c:0<=x) (d:x<(p.length:Int)) (h:Rt p x r):0<=r/\r<(p.length:Int):=by
 obtain⟨s,hs,b,s1⟩:=hp.root c d;rw[h.det hs];exact⟨b,s1⟩
theorem SQ {p q:List Int} (h:E0 p q) {r:Int} (a:0<=r) (b:r<(p.length:Int)):EX p r=r↔EX q r=r :=
 ⟨λe=>((h.2 r r a b).1 (.base e)).root,λe=>((h.2 r r a b).2 (.base e)).root⟩
theorem A7v {h:AH} {N:List AD} {P:List (Int×Int)} {p q ty:List Int} {ar:List (List (Int×Int))} {W:List (Int×Int)} (hs:E0 p q) (j:∃z,Fo q z) (u:JI h N P p ty ar W):JI h N P q ty ar W:=by
 obtain⟨nty,fo,lp,lt,la,wr,tyr,arr,srt,sp,st,sa,co⟩:=u;have i:∀x r,0<=x->x<(N.length:Int)->(Rt p x r↔Rt q x r):=λx r b c=>hs.2 x r b (by rw[lp];exact c);have s:∀ {x y},EG N.length p W x y->EG N.length q W x y:=λ{x y} g=>g.mono (λx y r b c k l h1 o=>.cls b c k l ((i x r b c).1 h1) ((i y r k l).1 o)) (λ_ _ h=>.wt h);refine⟨nty,j,by rw[<-hs.1];exact lp,lt,la,wr,tyr,arr,srt,λq j=>s (sp q j),λx r b c d=>st x r b c ((i x r b c).2 d),λx r b c d a ha=>?_,λX v t w=>?_⟩
 ·grind
 ·obtain⟨c1,c2,m,n⟩:=co X v t w;exact⟨λx r b c d=>c1 x r b c ((i x r b c).2 d),c2,λr e f d=>m r e f ((SQ hs e (by rw[lp];exact f)).2 d),λr e f d=>n r e f ((SQ hs e (by rw[lp];exact f)).2 d)⟩
section
variable {h:AH} {N:List AD} {P:List (Int×Int)} {p ty:List Int} {ar:List (List (Int×Int))} {W:List (Int×Int)} {s t a b:Int}
theorem dI (n:JI h N P p ty ar (W++[(s,t)])) (hs:Rt p s a) (u:Rt p t a):JI h N P p ty ar W:=by
 obtain⟨nty,fo,lp,lt,la,wr,tyr,arr,srt,sp,st,sa,co⟩:=n;have b:=wr (s,t) (by simp);have l:∀ {x y},EG N.length p (W++[(s,t)]) x y->EG N.length p W x y:=λ{x y} g=>g.mono (λx y r d f A B h1 k=>.cls d f A B h1 k) (λx y c=>by
  rcases No.1 c with c|c
  ·exact .wt c
  ·have e:(x,y)=(s,t):=by simpa using c
   cases e;exact .cls b.1.1 b.1.2 b.2.1 b.2.2 hs u)
 refine⟨nty,fo,lp,lt,la,λw b=>wr w (YC _ b),tyr,arr,srt,λq o=>l (sp q o),st,λx r d f C a ha=>?_,λX v m z=>?_⟩
 ·grind
 ·obtain⟨c1,c2,i,j⟩:=co X v m z;exact⟨c1,λw b=>c2 w (YC _ b),i,j⟩
theorem Uy (hk:GL h) (c:JI h N P p ty ar (W++[(s,t)])) (hs:Rt p s a) (g:Rt p t b) {X:List AD} {v:Int->Int} (o:Dv h X) (q:eJ h N P X v) :
  v a=v b/\(Bo h (ty.getD a.toNat 0) (ty.getD b.toNat 0)).2=true/\BA h (Bo h (ty.getD a.toNat 0) (ty.getD b.toNat 0)).1 (X.getD (v a).toNat (0,[])).1=true:=by
 obtain⟨D,fo⟩:=c.fo;obtain⟨⟨i,s1⟩,j,l⟩:=c.wr (s,t) (by simp);simp only at i s1 j l;have d:=GJ fo i (by rw[c.lp];exact s1) hs;have f:=GJ fo j (by rw[c.lp];exact l) g;rw[c.lp]at d f;obtain⟨c1,c2,m,B⟩:=c.co X v o q;have u:=c1 s a i s1 hs;have w:=c1 t b j l g;have x:v s=v t:=c2 (s,t) (by simp);have e:v a=v b:=by rw[<-u,<-w,x]
 have y:=m a d.1 d.2 hs.root;have n:=m b f.1 f.2 g.root;rw[<-e]at n;have C:=q.rng a d.1 d.2;have r:=o _ (AE X (0,[]) (k:=(v a).toNat) (by omega));have ta:=c.tyr a d.1 d.2;have tb:=c.tyr b f.1 f.2;obtain⟨z,A⟩:=(Me hk ta.1 ta.2 tb.1 tb.2).2 _ r.1 r.2 y n;exact⟨e,z,A⟩
theorem Zt {α:Type} {l:List α} {d v:α} {a r:Int} (b:0<=a) (c:a<(l.length:Int)) (e:0<=r):(l.set a.toNat v).getD r.toNat d=if r=a then v else l.getD r.toNat d:=by grind
theorem XJ (hk:GL h) (ae:JI h N P p ty ar (W++[(s,t)])) (hs:Rt p s a) (L:Rt p t b) (Y:a≠b) (al:(Bo h (ty.getD a.toNat 0) (ty.getD b.toNat 0)).2=true) :
  JI h N P (p.set b.toNat a) (ty.set a.toNat (Bo h (ty.getD a.toNat 0) (ty.getD b.toNat 0)).1) (ar.set a.toNat (B4 (ar.getD a.toNat []) (ar.getD b.toNat [])).1) (W++(B4 (ar.getD a.toNat []) (ar.getD b.toNat [])).2):=by
 have am:=λX v J M=>Uy (X:=X) (v:=v) hk ae hs L J M;obtain⟨nty,⟨bb,fo⟩,lp,lt,la,wr,tyr,arr,srt,sp,st,sa,co⟩:=ae;obtain⟨⟨Q,s1⟩,R,S⟩:=wr (s,t) (by simp);simp only at Q s1 R S;have n:=GJ fo Q (by rw[lp];exact s1) hs;have A:=GJ fo R (by rw[lp];exact S) L;have ha:=hs.root;have Z:=L.root;have F:=λ{x r:Int} (c:0<=x) (i:x<(N.length:Int)) (O:Rt p x r)=>A7t fo n.1 A.1 A.2 ha Z Y c (by rw[lp];exact i) O;have aa:∀ {x r:Int},0<=x->x<(N.length:Int)->Rt (p.set b.toNat a) x r->∃j,Rt p x j/\r=if j=b then a else j:=λ{x r} c i O=>by
  obtain⟨j,h1,-,-⟩:=fo.root c (by rw[lp];exact i);exact⟨j,h1,O.det (F c i h1)⟩
 have ta:=tyr a n.1 (by rw[<-lp];exact n.2);have tb:=tyr b A.1 (by rw[<-lp];exact A.2);obtain⟨ax,ay,az,ba⟩:=(Me hk ta.1 ta.2 tb.1 tb.2).1 al;generalize aq:(Bo h (ty.getD a.toNat 0) (ty.getD b.toNat 0)).1=m at *;generalize ag:ar.getD a.toNat []=xs at *;generalize ah:ar.getD b.toNat []=ys at *;have ao:EG N.length (p.set b.toNat a) (W++(B4 xs ys).2) s t:=by
  have h1:=F Q s1 hs;have I:=F R S L;rw[An Y]at h1;rw[BY rfl]at I;exact .cls Q s1 R S h1 I
 have E:∀ {x y},EG N.length p (W++[(s,t)]) x y->EG N.length (p.set b.toNat a) (W++(B4 xs ys).2) x y:=λ{x y} g=>g.mono (λx y r c i aj ak h1 I=>.cls c i aj ak (F c i h1) (F aj ak I)) (λx y G=>by
  rcases No.1 G with G|G
  ·exact .wt (YC _ G)
  ·have e:(x,y)=(s,t):=by simpa using G
   cases e;exact ao)
 have av:=λ{r:Int} (D:0<=r)=>Zt (l:=ty) (d:=0) (v:=m) n.1 (by rw[lt,<-lp];exact n.2) D;have K:=λ{r:Int} (D:0<=r)=>Zt (l:=ar) (d:=[]) (v:=(B4 xs ys).1) n.1 (by rw[la,<-lp];exact n.2) D;refine⟨nty,A7u fo n.1 n.2 A.1 A.2 ha Z Y,by rw[YG];exact lp,by rw[YG];exact lt,by rw[YG];exact la,λw o=>?_,λx c i=>?_,λk y C=>?_,λk=>?_,λq an=>E (sp q an),λx r c i z=>?_,λx r c i z y C=>?_,λX v J M=>?_⟩
 ·rcases No.1 o with o|o
  ·exact wr w (YC _ o)
  ·grind [Q6]
 ·grind
 ·have h1:=K (r:=(k:Int)) (by omega);rw[UG]at h1;rw[h1]at C;split at C
  ·grind [JN]
  ·exact arr _ _ C
 ·have h1:=K (r:=(k:Int)) (by omega);rw[UG]at h1;rw[h1];split
  ·grind [Ux]
  ·exact srt k
 ·obtain⟨j,h1,rfl⟩:=aa c i z;have O:=nty _ (AE N (0,[]) (k:=x.toNat) (by omega));have af:=GJ fo c (by rw[lp];exact i) h1;by_cases e:j=b
  ·grind [PM]
  ·grind [PM]
 ·obtain⟨j,h1,rfl⟩:=aa c i z;have af:=GJ fo c (by rw[lp];exact i) h1;obtain⟨u,H,T⟩:=sa x j c i h1 y C;by_cases e:j=b
  ·rw[BY e,K n.1,BY rfl];rw[e,ah]at H;rcases Nb (x:=xs) H with g|⟨w,U,V⟩
   ·exact⟨u,g,E T⟩
   ·exact⟨w,U,.trans (E T) (.symm (.wt (AE9 _ V)))⟩
  ·rw[An e,K af.1];split
   ·rename_i B;rw[B,ag]at H;exact⟨u,Q5 H,E T⟩
   ·exact⟨u,H,E T⟩
 ·obtain⟨c1,c2,ap,ab⟩:=co X v J M;obtain⟨e,-,aw⟩:=am X v J M;have au:∀r,0<=r->r<(N.length:Int)->EX (p.set b.toNat a) r=r->r≠b/\EX p r=r:=λr D ai z=>by grind [DD]
  refine⟨λx r c i z=>?_,λw o=>?_,λr D ai z=>?_,λr D ai z y C=>?_⟩
  ·obtain⟨j,h1,rfl⟩:=aa c i z;have:=c1 x j c i h1;split
   ·rename_i B;rw[this,B,e]
   ·exact this
  ·rcases No.1 o with o|o
   ·exact c2 w (YC _ o)
   ·obtain⟨f,ad,B⟩:=Q6 o;rw[<-ag]at ad;rw[<-ah]at B;have U:=ab a n.1 (by rw[<-lp];exact n.2) ha _ ad;have V:=ab b A.1 (by rw[<-lp];exact A.2) Z _ B;rw[<-U,<-V,e]
  ·grind
  ·grind [JN]
end
theorem jY {l:List Nat} {f g:Nat->Bool} {b:Nat} (hn:l.Nodup) (c:b∈l) (h1:f b=true) (d:g b=false) (h:∀x∈l,x≠b->g x=f x):(l.filter g).length+1=(l.filter f).length:=by
 induction l with
 | nil=>cases c
 | cons x l m =>
  obtain⟨k,j⟩:=aT.1 hn;by_cases e:x=b
  ·subst e;have:l.filter g=l.filter f:=List.filter_congr λy a=>h y (by simp[a]) (λe=>k (e▸a));rw[dO,dO,An (by rw[d];simp),BY h1,this];rfl
  ·have i:b∈l:=by
    rcases DO.1 c with g|g
    ·exact absurd g.symm e
    ·exact g
   have n:=m j i (λy a=>h y (by simp[a]));rw[dO,dO,h x (by simp) e];split
   ·simp only[OS];omega
   ·exact n
def nR (p:List Int):Nat:=((List.range p.length).filter λk=>p.getD k 0==(k:Int)).length
theorem AD7 (p:List Int):nR p<=p.length:=by
 have:=YH (λk=>p.getD k 0==(k:Int)) (List.range p.length);rw[AEE]at this;exact this
theorem xN {p q:List Int} (h:E0 p q):nR q=nR p:=by
 unfold nR;rw[<-h.1];refine ADx List.length (List.filter_congr λk hk=>?_);have a:=UM.1 hk;have:=SQ h (r:=(k:Int)) (by omega) (by omega);unfold EX at this;rw[UG]at this;rw[AEa,YD,YD];exact this.symm
theorem xO {p:List Int} {a b:Int} (d:0<=b) (b1:b<(p.length:Int)) (c:EX p b=b) (e:a≠b):nR (p.set b.toNat a)+1=nR p:=by
 unfold nR;rw[YG];refine jY (b:=b.toNat) List.nodup_range (UM.2 (by omega)) ?_ ?_ λx _ f=>?_
 ·rw[YD];unfold EX at c;omega
 ·rw[YZ _ _ _ (by omega),ADC];omega
 ·rw[getD_set_ne _ _ _ (by omega)]
theorem SR {α:Type} [DecidableEq α]:∀ {l l':List α},l.Nodup->(∀x∈l,x∈l')->l.length<=l'.length
 | [],_,_,_=>by simp
 | x :: l,l',hn,h=>by
  obtain⟨d,c⟩:=aT.1 hn;have a:=h x (by simp);have:=SR (l:=l) (l':=l'.erase x) c (λy b=>(AF6 (λe:y=x=>d (by rw[<-e];exact b))).2 (h y (by simp[b])));rw[List.length_erase_of_mem a]at this;have:=AEP a;simp only[OS];omega
theorem dJ {l:List (Int×Int)} (h:Nr l) {S:List Int} (hs:∀a∈l,a.1∈S):l.length<=S.length:=by
 have hn:(l.map (·.1)).Nodup:=by
  unfold List.Nodup;rw[ADy];exact h.imp λg=>by omega
 have:=SR hn (l':=S) (λx b=>by
  obtain⟨a,ha,rfl⟩:=IF.1 b;exact hs a ha)
 rwa [Of]at this
theorem XK {h:AH} {N:List AD} {P:List (Int×Int)} {p ty:List Int} {ar:List (List (Int×Int))} (t:JI h N P p ty ar []) {a b:Int} (ha:0<=a/\a<(N.length:Int)) (s:0<=b/\b<(N.length:Int)):JI h N (P++[(a,b)]) p ty ar [(a,b)]:=by
 obtain⟨nty,fo,lp,lt,la,wr,tyr,arr,srt,sp,st,sa,co⟩:=t;have l:∀ {x y},EG N.length p [] x y->EG N.length p [(a,b)] x y:=λ{x y} g=>g.mono (λx y r j k C D h1 f=>.cls j k C D h1 f) (λx y A=>by cases A);refine⟨nty,fo,lp,lt,la,λw i=>?_,tyr,arr,srt,λq c=>?_,st,λx r j k z y B=>?_,λX v o d=>?_⟩
 ·have e:w=(a,b):=by simpa using i
  subst e;exact⟨ha,s⟩
 ·rcases No.1 c with c|c
  ·exact l (sp q c)
  ·have e:q=(a,b):=by simpa using c
   subst e;exact .wt (by simp)
 ·obtain⟨u,h1,f⟩:=sa x r j k z y B;exact⟨u,h1,l f⟩
 ·obtain⟨c1,c2,m,n⟩:=co X v o ⟨d.rng,d.ty,d.arc,λq c=>d.eq q (YC _ c)⟩;refine⟨c1,λw i=>?_,m,n⟩;have e:w=(a,b):=by simpa using i
  subst e;exact d.eq _ (by simp)
def xP (h:AH) (p ty:List Int) (ar:List (List (Int×Int))):List (Nat×Obj):=[(101,.box 111 true [.p ER h,.sr 102 T3 0 p.length,.sr 103 T3 0 ty.length,.sr 104 DS 0 ar.length]),(102,.arr 3 T3 p),(103,.arr 3 T3 ty),(104,.arr 91 DS ar)]
theorem A7w (h:AH) (hk:GL h) {N:List AD} {P:List (Int×Int)} {p ty:List Int} {ar:List (List (Int×Int))} (Y:JI h N P p ty ar []) {a b:Int} (ha:0<=a/\a<(N.length:Int)) (ah:0<=b/\b<(N.length:Int)) (af:N.length<=10000) (hF:(DA N).length<=1000000) :
  BJ Tryz.prog 86 [.bp 101 [] 0,.p T3 a,.p T3 b] (xP h p ty ar) [101]
  (λres M=>(res=.p .bool true/\∃B H u,M=xP h B H u/\JI h N (P++[(a,b)]) B H u [])\/(res=.p .bool false/\(∃B H u,M=xP h B H u)/\∀X v,Dv h X->¬eJ h N (P++[(a,b)]) X v)):=by
 refine Kv [0,1,2,3,6,7,8,9,10,11,19,48] [] [] Tryz.func86 Tryz.ntmps86 AG ?_;intro w0 K O0 ρ0 f ba bb;have hh:h.1.length<=100000:=UD hk.2 (by omega);have ai:∀x∈h.1,x.2.1.length<=100000:=λx av=>UD (hk.1.wid x.2.1 (IF.2 ⟨x,av,rfl⟩)) (by omega);have aj:=XK Y ha ah;generalize az:P++[(a,b)]=Q at *;have ay:N.length*((DA N).length+1)<=10000*1000001:=Nat.mul_le_mul af (by omega);simp only[xP,Ar];repeat'(first|exact trivial|refine eS rfl ?_|refine rX f ?_ ?_)
 refine AJ (ι:={s:(List Int×List Int×List (List (Int×Int)))×(List (Int×Int)×Nat)//JI h N Q s.1.1 s.1.2.1 s.1.2.2 (s.2.1.take s.2.2)/\s.2.2<=s.2.1.length/\nR s.1.1*((DA N).length+1)+s.2.2<=N.length*((DA N).length+1)+1}) (λs=>⟨[(3,.bp 3 [] 0),(7,.bp 7 [] 0),(8,.clo 134 [3,7])],[(101,.box 111 true [.p ER h,.sr 102 T3 0 s.1.1.1.length,.sr 103 T3 0 s.1.1.2.1.length,.sr 104 DS 0 s.1.1.2.2.length]),(102,.arr 3 T3 s.1.1.1),(103,.arr 3 T3 s.1.1.2.1),(104,.arr 91 DS s.1.1.2.2),(3,.box 108 false [.bp 101 [] 0]),(7,.box 173 false [.sr 15 Rx 0 s.1.2.2]),(15,.arr 172 Rx s.1.2.1)]⟩) (λs=>nR s.1.1.1*((DA N).length+1)+s.1.2.2) ⟨((p,ty,ar),([(a,b)],1)),aj,by simp,by have:=UP ((DA N).length+1) (AD7 p);rw[Y.lp]at this;simp only;omega⟩ (eW [(101,.nm 101),(102,.nm 102),(103,.nm 103),(104,.nm 104),(3,.nm 3),(7,.nm 7),(15,.nm 15)]) (λs=>?_)
 ·obtain⟨⟨⟨q,d,aq⟩,V,k⟩,l,ak,ae⟩:=s;simp only at l ak ae ⊢;repeat'(first|exact trivial|refine eS rfl ?_|refine rX f ?_ ?_|refine rC ?_ ?_<;>intro j<;>try(cases j;done))
  ·exact eV
  ·exact eV
  ·have Z:0<k:=IN.1 j;have al:((k:Int)-1).toNat=k-1:=by omega
   have U:=Az V (0,0) (k:=k-1) (by omega);rw[show k-1+1=k by omega]at U;rw[al];generalize bd:V.getD (k-1) (0,0)=st at *;obtain⟨s,t⟩:=st;rw[U]at l;obtain⟨⟨D,s1⟩,F,G⟩:=l.wr (s,t) (by simp);simp only at D s1 F G;obtain⟨O,fo⟩:=l.fo;have C:=l.lp;refine CV drawsAny f 8 [([0,1,2],3),([4,5,6],7)] [] (by kernel_rfl) (NQ ?_ ?_)
   ·trivial
   ·refine mxC f (dH h d aq O fo D (by rw[C];exact s1)) [(1,.nm 101),(2,.nm 102),(3,.nm 103),(4,.nm 104)] [102,103,104] ?_ ?_ ?_
    ·exact eN
    ·simp only[Zs];exact eN
    ·rintro _ _ ⟨ab,c,rfl,rfl,ad,E,aw⟩;refine⟨[(101,.nm 1),(102,.nm 2),(103,.nm 3),(104,.nm 4)],.p T3 c,[(101,.box 111 true [.p ER h,.sr 102 T3 0 ab.length,.sr 103 T3 0 d.length,.sr 104 DS 0 aq.length]),(102,.arr 3 T3 ab),(103,.arr 3 T3 d),(104,.arr 91 DS aq)],rfl,rfl,?_,?_,rfl,rfl,rfl,?_⟩
     ·simp only[Zs];exact eN
     ·exact eN
     ·refine NQ ?_ ?_
      ·trivial
      ·refine mxC f (dH h d aq O ad F (by rw[<-E.1,C];exact G)) [(1,.nm 101),(2,.nm 102),(3,.nm 103),(4,.nm 104)] [102,103,104] ?_ ?_ ?_
       ·exact eN
       ·simp only[Zs];exact eN
       ·rintro _ _ ⟨g,e,rfl,rfl,J,S,ax⟩;refine⟨[(101,.nm 1),(102,.nm 2),(103,.nm 3),(104,.nm 4)],.p T3 e,[(101,.box 111 true [.p ER h,.sr 102 T3 0 g.length,.sr 103 T3 0 d.length,.sr 104 DS 0 aq.length]),(102,.arr 3 T3 g),(103,.arr 3 T3 d),(104,.arr 91 DS aq)],rfl,rfl,?_,?_,rfl,rfl,rfl,?_⟩
        ·simp only[Zs];exact eN
        ·exact eN
        ·refine S8 f ?_ ?_ ?_
         ·trivial
         ·trivial
         ·repeat' refine eS rfl ?_
          have i:=A7v (E.trans S) ⟨O,J⟩ l;have R:=E.trans S;have A:=(R.2 s c D (by rw[C];exact s1)).1 aw;have o:=(S.2 t e F (by rw[<-E.1,C];exact G)).1 ax;have n:=i.lp;have w:=GJ J D (by rw[n];exact s1) A;have m:=GJ J F (by rw[n];exact G) o;refine evP f 4 ?_ ?_
          ·trivial
          ·by_cases z:c=e
           ·subst z;rw[show (c != c)=false from bne_self_eq_false c];refine rL f ?_ ?_
            ·trivial
            ·repeat'(first|refine eS rfl ?_|refine AB ?_|refine rC ?_ ?_<;>intro j<;>try(cases j;done))
             have y:=dI i A o;have hn:=xN R;exact⟨⟨((g,d,aq),V,k-1),y,by simp only;omega,by simp only;rw[hn];omega⟩,by simp only;rw[hn];omega,eW [(101,.nm 101),(102,.nm 102),(103,.nm 103),(104,.nm 104),(3,.nm 3),(7,.nm 7),(15,.nm 15)]⟩
           ·rw[show (c != e)=true by simpa using z];refine rN 3 f ?_ ?_
            ·trivial
            ·have L:=λr:Int=>dJ (i.srt r.toNat) (λa ha=>(i.arr r.toNat a ha).2);refine clG f (A3O h hh ai g d aq V (k-1) (by omega) (by omega) w.1 w.2 m.1 m.2 (by rw[i.lt,n]) (by rw[i.la,n]) (i.tyr c w.1 (by rw[<-n];exact w.2)) (i.tyr e m.1 (by rw[<-n];exact m.2)) (UD (L c) (by omega)) (UD (L e) (by omega))) [(1,.nm 101),(2,.nm 102),(3,.nm 103),(4,.nm 104),(5,.nm 3),(6,.nm 7),(7,.nm 15)] [102,103,104,15] ?_ ?_ ?_
             ·exact eN
             ·simp only[mgO];exact eN
             ·rintro res M (⟨I,rfl,rfl⟩|⟨I,rfl,T,W,ap,aa,rfl⟩)
              ·refine⟨[(101,.nm 1),(102,.nm 2),(103,.nm 3),(104,.nm 4),(3,.nm 5),(7,.nm 6),(15,.nm 7)],.p .bool false,[(101,.box 111 true [.p ER h,.sr 102 T3 0 g.length,.sr 103 T3 0 d.length,.sr 104 DS 0 aq.length]),(102,.arr 3 T3 g),(103,.arr 3 T3 d),(104,.arr 91 DS aq),(3,.box 108 false [.bp 101 [] 0]),(7,.box 173 false [.sr 15 Rx 0 (k-1)]),(15,.arr 172 Rx V)],rfl,rfl,?_,?_,rfl,rfl,?_⟩
               ·simp only[mgO];exact eN
               ·exact eN
               ·refine rL f ?_ ?_
                ·trivial
                ·repeat'(first|exact trivial|refine eS rfl ?_|refine rX f ?_ ?_|refine rC ?_ ?_<;>intro j<;>try(cases j;done))
                 refine Ev.ent (σ':=⟨[(6,.p .bool false)],xP h g d aq⟩) ?_ (AC [(101,.nm 101),(102,.nm 102),(103,.nm 103),(104,.nm 104)] rfl rfl ?_ ?_)
                 ·exact fM f [.tmp 6] (.p .bool false) eT (.inr ⟨rfl,⟨g,d,aq,rfl⟩,λX v ag ao=>by
                   have:=(Uy hk i A o ag ao).2.1;rw[I]at this;cases this⟩)
                 ·unfold xP;exact eN
                 ·exact eN
              ·refine⟨[(101,.nm 1),(102,.nm 2),(103,.nm 3),(104,.nm 4),(3,.nm 5),(7,.nm 6),(15,.nm 7)],.p .bool true,[(101,.box 111 true [.p ER h,.sr 102 T3 0 (g.set e.toNat c).length,.sr 103 T3 0 (d.set c.toNat (Bo h (d.getD c.toNat 0) (d.getD e.toNat 0)).1).length,.sr 104 DS 0 (aq.set c.toNat (B4 (aq.getD c.toNat []) (aq.getD e.toNat [])).1).length]),(102,.arr 3 T3 (g.set e.toNat c)),(103,.arr 3 T3 (d.set c.toNat (Bo h (d.getD c.toNat 0) (d.getD e.toNat 0)).1)),(104,.arr 91 DS (aq.set c.toNat (B4 (aq.getD c.toNat []) (aq.getD e.toNat [])).1)),(3,.box 108 false [.bp 101 [] 0]),(7,.box 173 false [.sr 15 Rx 0 W]),(15,.arr 172 Rx T)],rfl,rfl,?_,?_,rfl,rfl,?_⟩
               ·simp only[mgO];exact eN
               ·exact eN
               ·refine rL f ?_ ?_
                ·trivial
                ·repeat'(first|refine eS rfl ?_|refine AB ?_|refine rC ?_ ?_<;>intro j<;>try(cases j;done))
                 have y:=XJ hk i A o z I;rw[<-aa]at y;have hn:=xN R;have an:=xO (a:=c) m.1 m.2 o.root z;have bc:(B4 (aq.getD c.toNat []) (aq.getD e.toNat [])).2.length<=(DA N).length:=UD Q7 (L c);have au:=ADx List.length aa;rw[GO,ON,ON]at au;have am:nR g*((DA N).length+1)=nR (g.set e.toNat c)*((DA N).length+1)+((DA N).length+1):=by rw[<-an,AET,Nat.one_mul]
                 rw[hn]at am;exact⟨⟨((g.set e.toNat c,d.set c.toNat (Bo h (d.getD c.toNat 0) (d.getD e.toNat 0)).1,aq.set c.toNat (B4 (aq.getD c.toNat []) (aq.getD e.toNat [])).1),T,W),y,ap,by simp only;omega⟩,by simp only;omega,eW [(101,.nm 101),(102,.nm 102),(103,.nm 103),(104,.nm 104),(3,.nm 3),(7,.nm 7),(15,.nm 15)]⟩
  ·have Z:k=0:=by
    have:=UA.1 j;omega
   subst Z;rw[ADf]at l;refine Ev.ent (σ':=⟨[(6,.p .bool true)],xP h q d aq⟩) ?_ (AC [(101,.nm 101),(102,.nm 102),(103,.nm 103),(104,.nm 104)] rfl rfl ?_ ?_)
   ·exact fM f [.tmp 6] (.p .bool true) eT (.inl ⟨rfl,q,d,aq,rfl,l⟩)
   ·unfold xP;exact eN
   ·exact eN
open Classical in
noncomputable def Ek (p:List Int) (x:Int):Int:=if h:∃r,Rt p x r then h.choose else x
theorem dK {p:List Int} {x r:Int} (h:Rt p x r):Ek p x=r:=by
 unfold Ek;rw[dif_pos ⟨r,h⟩];exact(Exists.choose_spec (p:=λr=>Rt p x r) ⟨r,h⟩).det h
theorem PN {p:List Int} {a:Int->Nat} (hp:Fo p a) {x:Int} (b:0<=x) (c:x<(p.length:Int)):Rt p x (Ek p x):=by
 obtain⟨r,h,-,-⟩:=hp.root b c;rw[dK h];exact h
noncomputable def quo (p ty:List Int) (ar:List (List (Int×Int))):List AD:=(List.range p.length).map λk=>(ty.getD k 0,(ar.getD k []).map λa=>(a.1,Ek p a.2))
theorem E9 (p ty:List Int) (ar:List (List (Int×Int))):(quo p ty ar).length=p.length:=by simp[quo]
theorem Nc {p ty:List Int} {ar:List (List (Int×Int))} {n:Int} (n0:0<=n) (n1:n<(p.length:Int)):(quo p ty ar).getD n.toNat (0,[])=(ty.getD n.toNat 0,(ar.getD n.toNat []).map λa=>(a.1,Ek p a.2)):=by
 unfold quo;rw[AS,iS,AE5 (by omega)];rfl
def LK (len:Nat) (o:List Int):List Int:=(List.range len).map λ(k:Nat)=>if (k:Int)∈o then ((o.idxOf (k:Int):Nat):Int) else -1
theorem XL (len:Nat) (o:List Int):(LK len o).length=len:=by simp[LK]
theorem XM {len:Nat} {o:List Int} {n:Int} (n0:0<=n) (n1:n<(len:Int)):(LK len o).getD n.toNat 0=if n∈o then (o.idxOf n:Int) else -1:=by
 unfold LK;rw[AS,iS,AE5 (by omega)];simp only[AEg,AF1];rw[show ((n.toNat:Nat):Int)=n by omega]
theorem XN {o:List Int} {n:Int} (h:n∉o):(o++[n]).idxOf n=o.length:=by
 rw[AEU,An h];simp
theorem Zu {o t:List Int} {n:Int} (h:n∈o):(o++t).idxOf n=o.idxOf n:=by
 rw[AEU,BY h]
theorem A3P {len:Nat} {o:List Int} {n:Int} (n0:0<=n) (n1:n<(len:Int)) (h:n∉o):(LK len o).set n.toNat (o.length:Int)=LK len (o++[n]):=by
 apply YI
 ·simp[LK]
 ·intro i h1 c;rw[List.getElem_set];simp only[LK,AEl,AEp];by_cases e:n.toNat=i
  ·rw[BY e];have b:(i:Int)=n:=by omega
   rw[b,BY (by simp),XN h]
  ·rw[An e];have b:(i:Int)≠n:=by omega
   by_cases a:(i:Int)∈o
   ·rw[BY a,BY (by simp[a]),Zu a]
   ·rw[An a,An (by simp[a,b])]
theorem XO {o t:List Int} {x:Int} (h:x∈o):B6 (o++t) x=B6 o x:=by
 unfold B6;rw[BY (YC _ h),BY h,Zu h]
theorem Q8 {f:List AD} (hf:AW f) (k:Nat):∀(l:List (Int×Int)) (t:List Int),(∀a∈l,0<=a.2/\a.2<(f.length:Int))->KP f t->f.length-t.length<=k ->
  (∀a∈l,a.2∈l.foldl (Ad f k) t)/\∀x∈l.foldl (Ad f k) t,x∈t\/∀a∈(f.getD x.toNat (0,[])).2,a.2∈l.foldl (Ad f k) t:=by
 intro l;induction l with
 | nil=>exact λt _ _ _=>⟨λa ha=>(by cases ha),λx c=>.inl c⟩
 | cons a l u =>
  intro t j m o;simp only[OR];have p:KP f (Ad f k t a)/\t <+: Ad f k t a/\a.2∈Ad f k t a/\∀x∈Ad f k t a,x∈t\/∀b∈(f.getD x.toNat (0,[])).2,b.2∈Ad f k t a:=by
   unfold Ad;split
   ·rename_i hn;exact⟨m,AAq _,hn,λx c=>.inl c⟩
   ·rename_i hn;have q:=j a (by simp);obtain⟨e,g⟩:=ED hf k t a.2 m q.1 q.2 hn;obtain⟨h,i⟩:=IX hf k t a.2 m q.1 q.2 hn o;exact⟨e,g,h,i⟩
  obtain⟨e,g,h,i⟩:=p;have v:=g.length_le;obtain⟨r,s⟩:=u (Ad f k t a) (λb d=>j b (by simp[d])) e (by omega);obtain⟨_,n⟩:=Ez (ED hf k) l (Ad f k t a) (λb d=>j b (by simp[d])) e;refine⟨λb d=>?_,λx c=>?_⟩
  ·rcases DO.1 d with rfl|d
   ·exact n.subset h
   ·exact r b d
  ·rcases s x c with c|c
   ·rcases i x c with c|c
    ·exact .inl c
    ·exact .inr λb d=>n.subset (c b d)
   ·exact .inr c
def HO (f:List AD) (o a:List Int):List AD:=(a.drop o.length).map (Di f a)
theorem A0I {f:List AD} {o t:List Int} {x:Int} (h:∀a∈(f.getD x.toNat (0,[])).2,a.2∈o):Di f (o++t) x=Di f o x:=by
 unfold Di;refine ADx _ (UI λa ha=>?_);unfold LJ;rw[XO (h a ha)]
theorem A3Q {f:List AD} {c b d:List Int} (g:c <+: b) (i:b <+: d) (j:∀x∈b,x∈c\/∀a∈(f.getD x.toNat (0,[])).2,a.2∈b) (hn:b.Nodup):HO f c b++HO f b d=HO f c d:=by
 obtain⟨t,rfl⟩:=g;obtain⟨s,rfl⟩:=i;unfold HO;rw[AEz,AEz,UN,AEz,<-UN,YK]
 congr 1
 refine UI λx e=>?_;refine(A0I λa ha=>?_).symm;rcases j x (AE9 _ e) with h|h
 ·exact absurd rfl ((ADJ.1 hn).2.2 x h x e)
 ·exact h a ha
theorem Zv (f:List AD) (o:List Int):HO f o o=[]:=by
 unfold HO;rw[AF4];rfl
theorem SS {α β:Type} (f:α->β) {l:List α} (d:α) (e:β) {i:Nat} (h:i<l.length):(l.map f).getD i e=f (l.getD i d):=by
 simp[AS,At h]
structure AD8 (Q:List AD) (o1:List Int) (L:List (Int×Int)) (j:Nat) (oo:Nat->List Int):Prop where
 zero:oo 0=o1
 succ:∀i,i<L.length->oo (i+1)=Ad Q j (oo i) (0,(L.getD i (0,0)).2)
 dok:∀i,KP Q (oo i)
 pre:∀i,o1 <+: oo i
 nxt:∀i,oo i <+: oo (i+1)
 tgt:∀i,∀a∈L.take i,a.2∈oo i
 cls:∀i,∀x∈oo i,x∈o1\/∀a∈(Q.getD x.toNat (0,[])).2,a.2∈oo i
 last:oo L.length=L.foldl (Ad Q j) o1
theorem A7x {Q:List AD} (c:AW Q) {b:List Int} {L:List (Int×Int)} {j:Nat} (g:∀a∈L,0<=a.2/\a.2<(Q.length:Int)) (h1:KP Q b) (k:Q.length-b.length<=j):AD8 Q b L j (λi=>(L.take i).foldl (Ad Q j) b):=by
 have f:=λi=>λa (ha:a∈L.take i)=>g a (f6 ha);have hs:∀i,i<L.length->(L.take (i+1)).foldl (Ad Q j) b=Ad Q j ((L.take i).foldl (Ad Q j) b) (0,(L.getD i (0,0)).2):=λi hi=>NW (Ad Q j) L (0,0) b hi;have d:=λi=>Ez (ED c j) (L.take i) b (f i) h1;refine⟨rfl,hs,λi=>(d i).1,λi=>(d i).2,λi=>?_,λi=>(Q8 c j _ b (f i) h1 k).1,λi=>(Q8 c j _ b (f i) h1 k).2,by simp only[UE]⟩;by_cases h:i<L.length
 ·show _ <+: (L.take (i+1)).foldl (Ad Q j) b;rw[hs i h];have l:=g _ (AE L (0,0) h);exact(Ez (ED c j) [(0,(L.getD i (0,0)).2)] _ (λa ha=>by
   have e:a=(0,(L.getD i (0,0)).2):=by simpa using ha
   subst e;exact l) (d i).1).2
 ·show (L.take i).foldl (Ad Q j) b <+: (L.take (i+1)).foldl (Ad Q j) b;rw[As (by omega),As (by omega)];exact AAq _
theorem A7y {α:Type} (l:List α) (x y:α) (t:List α) {k:Nat} (hk:k=l.length):(l++[x]++t).set k y=l++y :: t:=by
 subst hk;rw[UN,AEo _ _ (by omega),AE3];rfl
theorem A0J {Q:List AD} {o a:List Int} {n:Int} (h:o++[n] <+: a):HO Q o a=Di Q a n :: HO Q (o++[n]) a:=by
 obtain⟨t,rfl⟩:=h;unfold HO;rw[AEz,UN,AEz];rfl
def uO (h:AH) (p ty:List Int) (ar:List (List (Int×Int))) (M:List Int) (out:List AD):List (Nat×Obj):=[(101,.box 111 true [.p ER h,.sr 102 T3 0 p.length,.sr 103 T3 0 ty.length,.sr 104 DS 0 ar.length]),(102,.arr 3 T3 p),(103,.arr 3 T3 ty),(104,.arr 91 DS ar),(105,.box 108 false [.bp 101 [] 0]),(106,.box 61 false [.sr 107 T3 0 M.length]),(107,.arr 3 T3 M),(108,.box 25 true [.sr 109 Ls 0 out.length]),(109,.arr 93 Ls out),(110,.box 174 false [.clo 137 [105,106,108,110]])]
def A9w (h:AH) (p0 ty:List Int) (ar:List (List (Int×Int))) (k:Nat):Prop:=∀(p o:List Int) (out:List AD) (n:Int),(∃b,Fo p b)->E0 p0 p->KP (quo p0 ty ar) o->out.length=o.length->0<=n->n<(p0.length:Int)->p0.length-o.length<=k ->
 BJ Tryz.prog 137 [.p T3 n,.bp 105 [] 0,.bp 106 [] 0,.bp 108 [] 0,.bp 110 [] 0] (uO h p ty ar (LK p0.length o) out) [101,105,106,108,110]
  (λres c=>∃a,(∃b,Fo a b)/\E0 p0 a/\res=.p T3 (B6 (Ad (quo p0 ty ar) k o (0,Ek p0 n)) (Ek p0 n))/\c=uO h a ty ar (LK p0.length (Ad (quo p0 ty ar) k o (0,Ek p0 n))) (out++HO (quo p0 ty ar) o (Ad (quo p0 ty ar) k o (0,Ek p0 n))))
theorem jZ (h:AH) {p0 ty:List Int} {ar:List (List (Int×Int))} (ai:∃m,Fo p0 m) (v:AW (quo p0 ty ar)) (aw:ty.length=p0.length) (ae:ar.length=p0.length) (ag:∀k,∀a∈ar.getD k [],0<=a.2/\a.2<(p0.length:Int)) (k:Nat) (ay:∀j,k=j+1->A9w h p0 ty ar j):A9w h p0 ty ar k:=by
 intro p o out n aj F O y n0 n1 hk;obtain⟨m,fo⟩:=aj;obtain⟨bj,L⟩:=ai;have U:=PN L n0 n1;have d:=GJ L n0 n1 U;have hp:=v.1;rw[E9]at hp;have C:=XL p0.length o;generalize bd:Ek p0 n=b at *;refine Kv [0,1,2,3,4,6,7,8,10,18,49,50,51,52] [] [] Tryz.func137 Tryz.ntmps137 AG ?_;intro w0 K O0 ρ0 f be bf;simp only[uO,Ar];repeat'(first|exact trivial|refine eS rfl ?_|refine rX f ?_ ?_)
 refine cP 2 f ?_ ?_
 ·trivial
 ·refine rM f (dH h ty ar m fo n0 (by rw[<-F.1];exact n1)) [(1,.nm 101),(2,.nm 102),(3,.nm 103),(4,.nm 104)] [102,103,104] ?_ ?_ ?_
  ·exact eN
  ·simp only[Zs];exact eN
  ·rintro _ _ ⟨u,bi,rfl,rfl,M,bc,ba⟩;have aa:=F.trans bc;have e:=((F.2 n b n0 n1).1 U).det ba;subst e;refine⟨[(101,.nm 1),(102,.nm 2),(103,.nm 3),(104,.nm 4)],.p T3 b,[(101,.box 111 true [.p ER h,.sr 102 T3 0 u.length,.sr 103 T3 0 ty.length,.sr 104 DS 0 ar.length]),(102,.arr 3 T3 u),(103,.arr 3 T3 ty),(104,.arr 91 DS ar)],rfl,rfl,?_,?_,rfl,rfl,?_⟩
   ·simp only[Zs];exact eN
   ·exact eN
   ·refine rL f ?_ ?_
    ·trivial
    ·repeat'(first|exact trivial|refine eS rfl ?_|refine rX f ?_ ?_|refine rC ?_ ?_<;>intro l<;>try(cases l;done))
     ·exact⟨d.1,by rw[C];exact d.2⟩
     ·exact⟨d.1,by rw[C];exact d.2⟩
     ·rw[XM d.1 d.2]at l;have B:b∈o:=Do λe=>by rw[An e]at l;omega
      have W:Ad (quo p0 ty ar) k o (0,b)=o:=BY B;have A:B6 o b=(LK p0.length o).getD b.toNat 0:=by
       rw[XM d.1 d.2,BY B];unfold B6;rw[BY B]
      refine Ev.ent (σ':=⟨[(6,.p T3 (B6 o b))],uO h u ty ar (LK p0.length o) out⟩) ?_ (AC [(101,.nm 101),(102,.nm 102),(103,.nm 103),(104,.nm 104),(105,.nm 105),(106,.nm 106),(107,.nm 107),(108,.nm 108),(109,.nm 109),(110,.nm 110)] rfl rfl ?_ ?_)
      ·refine fM f [.tmp 6] (.p T3 (B6 o b)) eT ⟨u,⟨m,M⟩,aa,by rw[W],?_⟩;rw[W,Zv,UO];rfl
      ·unfold uO;exact eN
      ·refine eM ?_;exact A.symm
     ·exact⟨d.1,by rw[C];exact d.2⟩
     ·refine⟨⟨d.1,by rw[aw];exact d.2⟩,?_⟩;have:=O.len;rw[E9]at this;simp only[AP];omega
     ·exact⟨d.1,by rw[ae];exact d.2⟩
     ·rw[XM d.1 d.2]at l;have w:b∉o:=λe=>by rw[BY e]at l;omega
      have N:=O.snoc d.1 (by rw[E9];exact d.2) w;have an:=N.len;rw[E9,GO,To]at an;obtain⟨j,rfl⟩:∃j,k=j+1:=⟨k-1,by omega⟩;have am:=ay j rfl;have x:=Nc (p:=p0) (ty:=ty) (ar:=ar) d.1 d.2;have ax:=λa (ha:a∈ar.getD b.toNat [])=>ag b.toNat a ha;have bg:(ar.getD b.toNat []).length<=100000:=by
       have:=(v.2 _ (AE (quo p0 ty ar) (0,[]) (k:=b.toNat) (by rw[E9];omega))).1;rw[x,Of]at this;exact this
      have ad:∀a∈((ar.getD b.toNat []).map λa=>(a.1,Ek p0 a.2)),0<=a.2/\a.2<((quo p0 ty ar).length:Int):=λa ha=>by
       refine BE v (n:=b) ?_;rw[x];exact ha
      obtain⟨c,g⟩:∃c,AD8 (quo p0 ty ar) (o++[b]) ((ar.getD b.toNat []).map λa=>(a.1,Ek p0 a.2)) j c:=⟨_,A7x v (j:=j) ad N (by rw[E9,GO,To];omega)⟩;have G:Ad (quo p0 ty ar) (j+1) o (0,b)=((ar.getD b.toNat []).map λa=>(a.1,Ek p0 a.2)).foldl (Ad (quo p0 ty ar) j) (o++[b]):=by
       unfold Ad;rw[An w];show DK (quo p0 ty ar) (j+1) o b=_;rw[CK,x];rfl
      rw[<-g.last,Of]at G;have ap:=λ(i:Nat) (hi:i<(ar.getD b.toNat []).length)=>show (((ar.getD b.toNat []).map λa=>(a.1,Ek p0 a.2)).getD i (0,0))=(((ar.getD b.toNat []).getD i (0,0)).1,Ek p0 ((ar.getD b.toNat []).getD i (0,0)).2) by
       exact SS (λa:Int×Int=>(a.1,Ek p0 a.2)) (0,0) (0,0) hi
      rw[y,A3P d.1 d.2 w];generalize bh:ar.getD b.toNat []=xs at *;refine AJ (ι:={s:Nat×List Int//s.1<=xs.length/\(∃m,Fo s.2 m)/\E0 p0 s.2}) (λs=>⟨[(0,.p T3 b),(1,.bp 105 [] 0),(2,.bp 106 [] 0),(3,.bp 108 [] 0),(4,.bp 110 [] 0),(7,.p (.int .i64) (o.length:Int)),(8,.sr 64 AU 0 ((xs.take s.1.1).map λa=>(a.1,B6 (c s.1.1) (Ek p0 a.2))).length),(49,.p DS xs),(50,.p (.int .i64) (xs.length:Int)),(51,.p (.int .i64) (s.1.1:Int))],uO h s.1.2 ty ar (LK p0.length (c s.1.1)) (out++[(ty.getD b.toNat 0,[])]++HO (quo p0 ty ar) (o++[b]) (c s.1.1))++[(64,.arr 106 AU ((xs.take s.1.1).map λa=>(a.1,B6 (c s.1.1) (Ek p0 a.2))))]⟩) (λs=>xs.length-s.1.1) ⟨(0,u),IS _,⟨m,M⟩,aa⟩ (AC [(101,.nm 101),(102,.nm 102),(103,.nm 103),(104,.nm 104),(105,.nm 105),(106,.nm 106),(107,.nm 107),(108,.nm 108),(109,.nm 109),(110,.nm 110),(64,.nil)] rfl rfl ?_ ?_) (λs=>?_)
      ·unfold uO;simp only[g.zero,Zv,UO];refine eM ?_;exact⟨by rw[XL,XL],y.symm⟩
      ·exact eN
      ·obtain⟨⟨i,q⟩,hi,⟨Z,P⟩,V⟩:=s;have E:=g.pre i;have z:=g.dok i;have au:=E.length_le;have ah:=z.len;rw[GO,To]at au;rw[E9]at ah;have R:(out++[(ty.getD b.toNat 0,[])]++HO (quo p0 ty ar) (o++[b]) (c i)).length=(c i).length:=by
        unfold HO;simp only[GO,To,Of,YE];omega
       have S:out.length+1+(HO (quo p0 ty ar) (o++[b]) (c i)).length=(c i).length:=by
        rw[<-R,GO,GO,To]
       simp only[uO];repeat'(first|exact trivial|refine eS rfl ?_|refine rX f ?_ ?_|refine rC ?_ ?_<;>intro l<;>try(cases l;done))
       ·exact l
       ·have r:i<xs.length:=IN.1 l;have Y:=ax _ (AE xs (0,0) r);have X:=g.succ i (by rw[Of];exact r);rw[ap i r]at X;have af:=A3Q E (g.nxt i) (g.cls i) z.nd;have av:=g.pre (i+1);have T:out.length+1+(HO (quo p0 ty ar) (o++[b]) (c (i+1))).length=(c (i+1)).length:=by
         have h1:=av.length_le;rw[GO,To]at h1;unfold HO;simp only[GO,To,Of,YE];omega
        have J:((xs.take i).map λa=>(a.1,B6 (c i) (Ek p0 a.2)))++[((xs.getD i (0,0)).1,B6 (c (i+1)) (Ek p0 (xs.getD i (0,0)).2))]=(xs.take (i+1)).map λa=>(a.1,B6 (c (i+1)) (Ek p0 a.2)):=by
         rw[EU _ xs (0,0) r]
         congr 1
         refine UI λa ha=>?_;obtain⟨t,H⟩:=g.nxt i;rw[<-H,XO (g.tgt i (a.1,Ek p0 a.2) (by rw[<-List.map_take];exact IF.2 ⟨a,ha,rfl⟩))]
        rw[S];refine CV drawsAny f 10 [([3,4,5],6),([1,2],7),([],8),([0],9)] [] (by kernel_rfl) (NQ ?_ ?_)
        ·trivial
        ·refine mxC f (am q (c i) (out++[(ty.getD b.toNat 0,[])]++HO (quo p0 ty ar) (o++[b]) (c i)) (xs.getD i (0,0)).2 ⟨Z,P⟩ V z R Y.1 Y.2 (by omega)) [(101,.nm 101),(102,.nm 102),(103,.nm 103),(104,.nm 104),(105,.nm 105),(106,.nm 106),(107,.nm 107),(108,.nm 108),(109,.nm 109),(110,.nm 110)] [102,103,104,107,109] ?_ ?_ ?_
         ·exact eN
         ·simp only[uO];refine eM ?_;exact S.symm
         ·rintro _ _ ⟨I,⟨az,ab⟩,bb,rfl,rfl⟩;rw[<-X,UN _ _ (HO _ (c i) _),af];refine⟨[(101,.nm 101),(102,.nm 102),(103,.nm 103),(104,.nm 104),(105,.nm 105),(106,.nm 106),(107,.nm 107),(108,.nm 108),(109,.nm 109),(110,.nm 110)],.p T3 (B6 (c (i+1)) (Ek p0 (xs.getD i (0,0)).2)),[(101,.box 111 true [.p ER h,.sr 102 T3 0 I.length,.sr 103 T3 0 ty.length,.sr 104 DS 0 ar.length]),(102,.arr 3 T3 I),(103,.arr 3 T3 ty),(104,.arr 91 DS ar),(105,.box 108 false [.bp 101 [] 0]),(106,.box 61 false [.sr 107 T3 0 (LK p0.length (c (i+1))).length]),(107,.arr 3 T3 (LK p0.length (c (i+1)))),(108,.box 25 true [.sr 109 Ls 0 (c (i+1)).length]),(109,.arr 93 Ls (out++[(ty.getD b.toNat 0,[])]++HO (quo p0 ty ar) (o++[b]) (c (i+1)))),(110,.box 174 false [.clo 137 [105,106,108,110]])],rfl,rfl,?_,?_,rfl,rfl,rfl,?_⟩
          ·simp only[uO];refine eM ?_;exact T
          ·exact eN
          ·refine NQ ?_ ?_
           ·trivial
           ·refine PY f [] ?_ ?_
            ·trivial
            ·refine NQ ?_ ?_
             ·trivial
             ·refine PY f [] ?_ ?_
              ·trivial
              ·refine NQ ?_ ?_
               ·trivial
               ·refine PY f [64] ?_ ?_
                ·rw[Of,ON];simp only[AP];omega
                ·refine S8 f ?_ ?_ ?_
                 ·trivial
                 ·trivial
                 ·repeat'(first|refine eS rfl ?_|refine AB ?_|refine rX f ?_ ?_)
                  ·exact eV
                  ·refine⟨⟨(i+1,I),r,⟨az,ab⟩,bb⟩,by simp only;omega,AC [(101,.nm 101),(102,.nm 102),(103,.nm 103),(104,.nm 104),(105,.nm 105),(106,.nm 106),(107,.nm 107),(108,.nm 108),(109,.nm 109),(110,.nm 110),(64,.nm 64)] rfl rfl ?_ ?_⟩
                   ·simp only[uO,<-J];refine eM ?_;exact T.symm
                   ·simp only[<-J];exact eN
       ·exact IN.2 (by omega)
       ·have al:i=xs.length:=by
         have:=UA.1 l;omega
        subst al;obtain⟨t,H⟩:=E;have A:B6 (c xs.length) b=(o.length:Int):=by
         rw[<-H,XO (by simp)];unfold B6;rw[BY (by simp),XN w]
        have aq:Di (quo p0 ty ar) (c xs.length) b=(ty.getD b.toNat 0,xs.map λa=>(a.1,B6 (c xs.length) (Ek p0 a.2))):=by
         unfold Di;rw[x];simp only[AAc];rfl
        have ak:(out++[(ty.getD b.toNat 0,([]:List (Int×Int)))]++HO (quo p0 ty ar) (o++[b]) (c xs.length)).getD o.length (0,[])=(ty.getD b.toNat 0,[]):=by
         rw[<-y];simp[AS]
        have D:=A0J (Q:=quo p0 ty ar) (g.pre xs.length);rw[aq]at D;rw[UE,ak,A7y out _ _ _ y.symm,<-D];have ao:out.length+1+(HO (quo p0 ty ar) (o++[b]) (c xs.length)).length=(out++HO (quo p0 ty ar) o (c xs.length)).length:=by
         rw[D];simp only[GO,OS];omega
        rw[ao];refine Ev.ent (σ':=⟨[(6,.p T3 (B6 (c xs.length) b))],uO h q ty ar (LK p0.length (c xs.length)) (out++HO (quo p0 ty ar) o (c xs.length))⟩) ?_ (AC [(101,.nm 101),(102,.nm 102),(103,.nm 103),(104,.nm 104),(105,.nm 105),(106,.nm 106),(107,.nm 107),(108,.nm 108),(109,.nm 109),(110,.nm 110)] rfl rfl ?_ ?_)
        ·exact fM f [.tmp 6] (.p T3 (B6 (c xs.length) b)) eT ⟨q,⟨Z,P⟩,V,by rw[G],by rw[G];rfl⟩
        ·unfold uO;exact eN
        ·refine eM ?_;exact A.symm
theorem A3R (h:AH) {p0 ty:List Int} {ar:List (List (Int×Int))} (f:∃i,Fo p0 i) (b:AW (quo p0 ty ar)) (g:ty.length=p0.length) (c:ar.length=p0.length) (d:∀k,∀a∈ar.getD k [],0<=a.2/\a.2<(p0.length:Int)):∀k,A9w h p0 ty ar k
 | 0=>jZ h f b g c d 0 (λj e=>by cases e)
 | k+1=>jZ h f b g c d (k+1) (λj e=>by cases e;exact A3R h f b g c d k)
theorem A3S (len:Nat):LK len []=List.replicate len (-1):=by
 unfold LK;apply YI
 ·simp
 ·intro i h1 a;simp
theorem A3T {α:Type} (x y:α) {n i:Nat} (h:i<n):(List.replicate i x++List.replicate (n-i) y).set i x=List.replicate (i+1) x++List.replicate (n-(i+1)) y:=by
 obtain⟨m,a⟩:∃m,n-i=m+1:=⟨n-i-1,by omega⟩;have b:n-(i+1)=m:=by omega
 rw[a,b,AEo _ _ (by simp),AEX,AE3,AEK,AEO,AF5,UN];rfl
theorem A3U (h:AH) {p ty:List Int} {ar:List (List (Int×Int))} (g:∃y,Fo p y) (f:AW (quo p ty ar)) (t:ty.length=p.length) (m:ar.length=p.length) (n:∀k,∀a∈ar.getD k [],0<=a.2/\a.2<(p.length:Int)) {r:Int} (v:0<=r) (w:r<(p.length:Int)) :
  BJ Tryz.prog 87 [.bp 101 [] 0,.p T3 r] (xP h p ty ar) [101]
  (λres _=>res=.p Da (AN (quo p ty ar) (Ek p r))):=by
 have d:=A3R h g f t m n p.length p [] [] r g (E0.refl p) ⟨by simp,λx u=>by cases u⟩ rfl v w (by simp);have o:HO (quo p ty ar) [] (Ad (quo p ty ar) p.length [] (0,Ek p r))=AN (quo p ty ar) (Ek p r):=by
  have e:Ad (quo p ty ar) p.length [] (0,Ek p r)=DK (quo p ty ar) p.length [] (Ek p r):=An (by simp);rw[e];unfold HO AN;rw[E9];rfl
 rw[AE0,o,A3S]at d;have s:=f.1;rw[E9]at s;generalize AN (quo p ty ar) (Ek p r)=G at *;generalize B6 _ _=z at d;generalize LK _ _=M at d;refine Kv [0,1,2,4,5,6,7,8,16,17,18] [] [] Tryz.func87 Tryz.ntmps87 AG ?_;intro w0 K O0 ρ0 b B C;simp only[xP,Ar];repeat'(first|exact trivial|refine eS rfl ?_|refine rX b ?_ ?_)
 ·simp only[AP];omega
 ·refine AJ (ι:={i:Nat//i<=p.length}) (λi=>⟨[(0,.bp 101 [] 0),(1,.p T3 r),(2,.bp 2 [] 0),(4,.bp 4 [] 0),(5,.bp 5 [] 0),(16,.p (.int .i64) (p.length:Int)),(17,.p (.int .i64) (i.1:Int))],[(5,.box 61 false [.sr 14 T3 0 p.length]),(14,.arr 3 T3 (List.replicate i.1 (-1)++List.replicate (p.length-i.1) 0)),(4,.box 25 true [.raw (.slice none 0 0)]),(2,.box 108 false [.bp 101 [] 0]),(101,.box 111 true [.p ER h,.sr 102 T3 0 p.length,.sr 103 T3 0 ty.length,.sr 104 DS 0 ar.length]),(102,.arr 3 T3 p),(103,.arr 3 T3 ty),(104,.arr 91 DS ar)]⟩) (λi=>p.length-i.1) ⟨0,by omega⟩ (AC [(5,.nm 5),(14,.nm 14),(4,.nm 4),(2,.nm 2),(101,.nm 101),(102,.nm 102),(103,.nm 103),(104,.nm 104)] rfl rfl ?_ ?_) (λi=>?_)
  ·refine eM ?_;rfl
  ·exact eN
  ·obtain⟨i,hi⟩:=i;simp only;repeat'(first|exact trivial|refine eS rfl ?_|refine AB ?_|refine rX b ?_ ?_|refine rC ?_ ?_<;>intro c<;>try(cases c;done))
   ·exact c
   ·exact eV
   ·have j:i<p.length:=IN.1 c;refine⟨⟨i+1,j⟩,by simp only;omega,AC [(5,.nm 5),(14,.nm 14),(4,.nm 4),(2,.nm 2),(101,.nm 101),(102,.nm 102),(103,.nm 103),(104,.nm 104)] rfl rfl ?_ ?_⟩
    ·refine eM ?_;exact A3T _ _ j
    ·exact eN
   ·have q:i=p.length:=by
     have:=UA.1 c;omega
    subst q;rw[AE3,List.replicate_zero,UO];refine cP 2 b ?_ ?_
    ·trivial
    ·refine rM b (d) [(101,.nm 101),(102,.nm 102),(103,.nm 103),(104,.nm 104),(105,.nm 2),(106,.nm 5),(107,.nm 14),(108,.nm 7),(109,.nil),(110,.nm 8)] [102,103,104,14] ?_ ?_ ?_
     ·exact eN
     ·simp only[uO];refine eM ?_;exact AEX.symm
     ·rintro _ _ ⟨l,A,D,rfl,rfl⟩;refine⟨[(101,.nm 101),(102,.nm 102),(103,.nm 103),(104,.nm 104),(2,.nm 105),(5,.nm 106),(14,.nm 107),(7,.nm 108),(120,.nm 109),(8,.nm 110)],.p T3 z,[(101,.box 111 true [.p ER h,.sr 102 T3 0 l.length,.sr 103 T3 0 ty.length,.sr 104 DS 0 ar.length]),(102,.arr 3 T3 l),(103,.arr 3 T3 ty),(104,.arr 91 DS ar),(2,.box 108 false [.bp 101 [] 0]),(5,.box 61 false [.sr 14 T3 0 M.length]),(14,.arr 3 T3 M),(7,.box 25 true [.sr 120 Ls 0 G.length]),(120,.arr 93 Ls G),(8,.box 174 false [.clo 137 [2,5,7,8]])],rfl,rfl,?_,?_,rfl,rfl,CR ?_⟩
      ·simp only[uO];exact eN
      ·exact eN
      ·refine FP [120] ?_;repeat'(first|exact trivial|refine eS rfl ?_|refine rX b ?_ ?_)
       exact fM b [.cell 4 25] (.p Da G) eT rfl
structure AD9 (f:List AD) (r:Int) (o:List Int):Prop where
 ok:KP f o
 zero:o.getD 0 0=r/\0<o.length
 cl:∀n∈o,∀a∈AR f n,a.2∈o
theorem LL {f:List AD} (hf:AW f) {r:Int} (b:0<=r) (c:r<(f.length:Int)):AD9 f r (DK f f.length [] r):=by
 have h1:=ED hf f.length [] r (GH f) b c (by simp);have d:=IX hf f.length [] r (GH f) b c (by simp) (by simp);have e:[r] <+: DK f f.length [] r:=by
  obtain⟨k,hk⟩:∃k,f.length=k+1:=⟨f.length-1,by omega⟩;rw[hk,CK];exact(Ez (ED hf k) _ _ (λa ha=>BE hf ha) ((GH f).snoc b c (by simp))).2
 refine⟨h1.1,?_,λn hn a ha=>?_⟩
 ·obtain⟨t,g⟩:=e;rw[<-g];exact⟨rfl,by simp⟩
 ·rcases d.2 n hn with h|h
  ·cases h
  ·exact h a ha
theorem Mr {f:List AD} {r:Int} {i:Nat} (hi:i<(DK f f.length [] r).length):(AN f r).getD i (0,[])=Di f (DK f f.length [] r) ((DK f f.length [] r).getD i 0):=by
 unfold AN;simp[AS,hi]
theorem Ms (f:List AD) (r:Int):(AN f r).length=(DK f f.length [] r).length:=by simp[AN]
def Cc (f g:List AD):List AD:=f++g.map λx=>(x.1,Aj f.length x.2)
theorem FA (f g:List AD):(Cc f g).length=f.length+g.length:=by simp[Cc]
theorem PO {f g:List AD} {x:Int} (a:0<=x) (b:x<(f.length:Int)):(Cc f g).getD x.toNat (0,[])=f.getD x.toNat (0,[]):=by
 unfold Cc;rw[AS,AS,UR (by omega)]
theorem Mt {f g:List AD} {y:Int} (a:0<=y) (b:y<(g.length:Int)):(Cc f g).getD ((f.length:Int)+y).toNat (0,[])=((g.getD y.toNat (0,[])).1,Aj f.length (g.getD y.toNat (0,[])).2):=by
 unfold Cc;have e:((f.length:Int)+y).toNat=f.length+y.toNat:=by omega
 rw[e,AS,UT (by omega),AEN];rw[<-AS];exact SS (λx:AD=>(x.1,Aj f.length x.2)) (0,[]) (0,[]) (by omega)
theorem xQ {n:Nat} {p:List Int} {x y:Int} (h:EG n p [] x y):Ek p x=Ek p y:=by
 induction h with
 | cls _ _ _ _ h g=>rw[dK h,dK g]
 | wt h=>cases h
 | symm _ a=>exact a.symm
 | trans _ _ b c=>exact b.trans c
noncomputable abbrev ST (p ty:List Int) (ar:List (List (Int×Int))):List Int:=DK (quo p ty ar) (quo p ty ar).length [] (Ek p 0)
structure A8z (h:AH) (N:List AD) (P:List (Int×Int)) (U:List AD) (v:Int->Int):Prop where
 good:AW U
 pos:0<U.length
 str:∀x∈U,Nr x.2
 feat:∀x∈U,∀a∈x.2,a.1∈DA N
 ty:Dv h U
 ro:RO U
 zero:v 0=0
 proj:eJ h N P U v
 least:∀X w,Dv h X->eJ h N P X w->w 0=0->∃m,OM h U X m
 len:U.length<=N.length
section
variable {h:AH} {N:List AD} {P:List (Int×Int)} {p ty:List Int} {ar:List (List (Int×Int))}
theorem SU (a:JI h N P p ty ar []) (b:AW (quo p ty ar)) (c:0<N.length):AD9 (quo p ty ar) (Ek p 0) (ST p ty ar):=by
 obtain⟨d,fo⟩:=a.fo;have lp:=a.lp;have:=GJ fo (x:=0) (by omega) (by omega) (PN fo (by omega) (by omega));exact LL b this.1 (by rw[E9];exact this.2)
theorem XP (d:JI h N P p ty ar []) (c:AW (quo p ty ar)) (b:0<N.length):Ek p 0∈ST p ty ar:=by
 have a:=SU d c b;have:=AE (ST p ty ar) 0 a.zero.2;rw[a.zero.1]at this;exact this
theorem A3V (a:JI h N P p ty ar []) {x y:Int} (b:(x,y)∈P) (c:Ek p x∈ST p ty ar):Ek p y∈ST p ty ar:=by
 rw[<-xQ (a.sp (x,y) b)];exact c
theorem oQ (b:JI h N P p ty ar []) (f:AW (quo p ty ar)) (e:0<N.length) {x:Int} (c:0<=x) (k:x<(N.length:Int)) (j:Ek p x∈ST p ty ar) {a:Int×Int} (ha:a∈AR N x):Ek p a.2∈ST p ty ar:=by
 obtain⟨l,fo⟩:=b.fo;have lp:=b.lp;obtain⟨t,i,g⟩:=b.sa x _ c k (PN fo c (by omega)) a ha;rw[xQ g];have d:=GJ fo c (by omega) (PN fo c (by omega));refine(SU b f e).cl _ j (a.1,Ek p t) ?_;rw[AR,Nc d.1 d.2];exact IF.2 ⟨(a.1,t),i,rfl⟩
def A0K (N:List AD) (k:Nat) (g:List AD):Prop:=∀i:Int,0<=i->i<(g.length:Int)->(k:Int)+i<(N.length:Int)/\N.getD ((k:Int)+i).toNat (0,[])=((g.getD i.toNat (0,[])).1,Aj k (g.getD i.toNat (0,[])).2)
theorem XQ (m:JI h N P p ty ar []) (f:AW (quo p ty ar)) (e:0<N.length) {k:Nat} {g:List AD} (l:A0K N k g) (r:RO g) (hk:Ek p (k:Int)∈ST p ty ar):∀(n:Nat) (i:Int),i.toNat<=n->0<=i->i<(g.length:Int)->Ek p ((k:Int)+i)∈ST p ty ar:=by
 intro n;induction n with
 | zero =>
  intro i hn o c;have:i=0:=by omega
  subst this;rw[AF0];exact hk
 | succ n q =>
  intro i hn o c;by_cases hi:i=0
  ·subst hi;rw[AF0];exact hk
  ·obtain⟨j,d,s,a,ha,rfl⟩:=r i (by omega) c;have b:=l j d (by omega);have:=oQ m f e (x:=(k:Int)+j) (by omega) b.1 (q j (by omega) d (by omega)) (a:=(a.1,a.2+(k:Int))) (by
    rw[AR,b.2];exact IF.2 ⟨a,ha,rfl⟩)
   rw[Int.add_comm];exact this
end
theorem j5 {h:AH} {N:List AD} {P:List (Int×Int)} {f:List AD} {v:Int->Int} (e:eJ h N P f v) {k:Nat} {g:List AD} (d:A0K N k g) (j:v (k:Int)=0):OM h g f λi=>v ((k:Int)+i):=by
 refine⟨by show v ((k:Int)+0)=0;rw[AF0];exact j,λi b c=>?_,λi b c=>?_,λi b c a ha=>?_⟩
 ·exact e.rng _ (by omega) (d i b c).1
 ·have:=e.ty _ (by omega) (d i b c).1;rw[(d i b c).2]at this;exact this
 ·have:=e.arc _ (by omega) (d i b c).1 (a.1,a.2+(k:Int)) (by
   rw[AR,(d i b c).2];exact IF.2 ⟨a,ha,rfl⟩)
  rw[Int.add_comm (k:Int) a.2];exact this
theorem Nf {h:AH} {g X:List AD} {m:Int->Int} (a:OM h g X m):eJ h g [] X m:=⟨a.rng,a.ty,a.arc,λq b=>by cases b⟩
theorem XR {h:AH} {f g X:List AD} (hf:AW f) (m:AW g) {v w:Int->Int} (h1:eJ h f [] X v) (i:eJ h g [] X w):eJ h (Cc f g) [] X (λx=>if x<(f.length:Int) then v x else w (x-(f.length:Int))):=by
 have j:=FA f g;refine⟨λx d e=>?_,λx d e=>?_,λx d e a ha=>?_,λq n=>by cases n⟩
 ·rw[j]at e;show _/\_;try simp only
  split
  ·exact h1.rng x d (by assumption)
  ·exact i.rng _ (by omega) (by omega)
 ·rw[j]at e;try simp only
  by_cases c:x<(f.length:Int)
  ·rw[BY c,PO d c];exact h1.ty x d c
  ·rw[An c];have:=Mt (f:=f) (g:=g) (y:=x-(f.length:Int)) (by omega) (by omega);rw[show (f.length:Int)+(x-(f.length:Int))=x by omega]at this;rw[this];exact i.ty _ (by omega) (by omega)
 ·rw[j]at e;try simp only
  by_cases c:x<(f.length:Int)
  ·rw[BY c];rw[AR,PO d c]at ha;have l:=BE hf ha;rw[BY l.2];exact h1.arc x d c a ha
  ·rw[An c];have:=Mt (f:=f) (g:=g) (y:=x-(f.length:Int)) (by omega) (by omega);rw[show (f.length:Int)+(x-(f.length:Int))=x by omega]at this;rw[AR,this]at ha;obtain⟨b,k,rfl⟩:=IF.1 ha;have l:=BE m k;rw[An (by simp only;omega)];try simp only
   rw[show b.2+(f.length:Int)-(f.length:Int)=b.2 by omega];exact i.arc _ (by omega) (by omega) b k
theorem oT {h:AH} {N X:List AD} {P:List (Int×Int)} {v:Int->Int} (h1:eJ h N [] X v) (a:∀q∈P,v q.1=v q.2):eJ h N P X v:=⟨h1.rng,h1.ty,h1.arc,a⟩
theorem Zw {N f g:List AD} {k:Nat} (h:A0K f k N):A0K (Cc f g) k N:=by
 intro i a b;have:=h i a b;rw[FA,PO (by omega) this.1];exact⟨by omega,this.2⟩
theorem Zx {f:List AD}:A0K f 0 f:=by
 intro i c b;rw[show ((0:Nat):Int)+i=i by omega];refine⟨b,?_⟩;have:Aj 0 (f.getD i.toNat (0,[])).2=(f.getD i.toNat (0,[])).2:=by
  unfold Aj;rw[UI (g:=id) (λa _=>by show (a.1,a.2+((0:Nat):Int))=a;rw[Int.natCast_zero,AF0]),AFB]
 rw[this]
theorem XS {f g:List AD}:A0K (Cc f g) f.length g:=by
 intro i a b;rw[FA,Mt a b];exact⟨by omega,rfl⟩
set_option maxHeartbeats 1000000 in
theorem A9x {h:AH} {N:List AD} {P:List (Int×Int)} {p ty:List Int} {ar:List (List (Int×Int))} (L:JI h N P p ty ar []) (E:AW (quo p ty ar)) (O:0<N.length) (H:∀x,0<=x->x<(N.length:Int)->Ek p x∈ST p ty ar) :
  A8z h N P (AN (quo p ty ar) (Ek p 0)) (λx=>B6 (ST p ty ar) (Ek p x)):=by
 have s:=SU L E O
 have af:=XP L E O
 obtain⟨nty,⟨av,fo⟩,lp,lt,la,wr,tyr,arr,srt,sp,st,sa,co⟩:=L
 have aj:=E9 p ty ar
 have w:=λ{x:Int} (C:0<=x) (D:x<(N.length:Int))=>PN fo C (by rw[lp];exact D)
 have J:=λ{x:Int} (C:0<=x) (D:x<(N.length:Int))=>GJ fo C (by rw[lp];exact D) (w C D)
 have K:=Ms (quo p ty ar) (Ek p 0)
 have aa:=λi=>Mr (f:=quo p ty ar) (r:=Ek p 0) (i:=i)
 have M:∀x:Int,0<=x->x<(N.length:Int)->AR (quo p ty ar) x=(ar.getD x.toNat []).map λa=>(a.1,Ek p a.2):=λx C D=>by
  rw[AR,Nc C (by rw[lp];exact D)]
 have u:∀x∈ST p ty ar,(0<=x/\x<(N.length:Int))/\EX p x=x:=by
  have ag:Iso (quo p ty ar) (quo p ty ar) id (λx=>(0<=x/\x<(N.length:Int))/\EX p x=x):=by
   refine⟨λi _=>by simp,λi hi a ha=>?_,λi j _ _ e=>e⟩
   rw[M i hi.1.1 hi.1.2]at ha
   obtain⟨b,m,rfl⟩:=List.mem_map.1 ha
   have c:=(arr _ b m).1
   have:=J c.1 c.2
   rw[lp]at this
   exact⟨this,(w c.1 c.2).root⟩
  have R:=J (x:=0) (by omega) (by omega)
  rw[lp]at R
  exact(Q2 ag _ [] _ (λx d=>by cases d) ⟨R,(w (x:=0) (by omega) (by omega)).root⟩).2
 have ah:=λ(q:Nat)=>Q4 E (quo p ty ar).length [] (Ek p 0) (GH _) (J (x:=0) (by omega) (by omega)).1 (by rw[aj];exact(J (x:=0) (by omega) (by omega)).2) (by simp) q
 unfold ST at s af H u ⊢
 generalize ao:AN (quo p ty ar) (Ek p 0)=F at *
 generalize aq:DK (quo p ty ar) (quo p ty ar).length [] (Ek p 0)=o at *
 have z:∀i:Int,0<=i->i<(o.length:Int)->o.getD i.toNat 0∈o/\B6 o (o.getD i.toNat 0)=i:=λi g l=>by
  refine⟨AE o 0 (by omega),?_⟩
  rw[HF s.ok.nd (by omega)]
  omega
 have A:∀x∈o,F.getD (B6 o x).toNat (0,[])=(ty.getD x.toNat 0,(ar.getD x.toNat []).map λa=>(a.1,B6 o (Ek p a.2))):=λx d=>by
  have am:=FU d
  have c:=(u x d).1
  rw[aa _ (by omega),am.2.2]
  unfold Di
  rw[Nc c.1 (by rw[lp];exact c.2),List.map_map]
  rfl
 have Q:∀x∈o,∀a∈ar.getD x.toNat [],Ek p a.2∈o:=λx d a ha=>by
  have c:=(u x d).1
  exact s.cl x d (a.1,Ek p a.2) (by rw[M x c.1 c.2];exact List.mem_map.2 ⟨a,ha,rfl⟩)
 have S:∀k,Nr ((ar.getD k []).map λa=>(a.1,B6 o (Ek p a.2))):=λk=>by
  unfold Nr
  rw[List.pairwise_map]
  exact srt k
 have G:∀x∈F,∃y∈o,x=(ty.getD y.toNat 0,(ar.getD y.toNat []).map λa=>(a.1,B6 o (Ek p a.2))):=λx d=>by
  obtain⟨i,hi,rfl⟩:=CH (0,[]) d
  have h1:=z (i:Int) (by omega) (by omega)
  refine⟨_,h1.1,?_⟩
  rw[<-A _ h1.1,h1.2]
  rw[Int.toNat_natCast]
 have ae:B6 o (Ek p 0)=0:=by
  have:=HF s.ok.nd s.zero.2
  rw[s.zero.1]at this
  exact this
 have ap:=s.ok.len
 have an:=E.1
 refine⟨⟨by omega,λx d=>?_⟩,by rw[K];exact s.zero.2,λx d=>?_,λx d a ha=>?_,λx d=>?_,λi g l=>?_,ae,⟨λi g l=>?_,λi g l=>?_,λi g l a ha=>?_,λq ai=>?_⟩,λX v ab T al=>?_,by omega⟩
 ·obtain⟨y,B,rfl⟩:=G x d
  have c:=(u y B).1
  refine⟨?_,λa ha=>?_⟩
  ·have:=(E.2 _ (AE (quo p ty ar) (0,[]) (k:=y.toNat) (by omega))).1
   rw[Nc c.1 (by rw[lp];exact c.2),List.length_map]at this
   simp only[List.length_map]
   exact this
  ·obtain⟨b,m,rfl⟩:=List.mem_map.1 ha
   have:=FU (Q y B b m)
   rw[K]
   exact⟨this.1,this.2.1⟩
 ·obtain⟨y,B,rfl⟩:=G x d
  exact S _
 ·obtain⟨y,B,rfl⟩:=G x d
  obtain⟨b,m,rfl⟩:=List.mem_map.1 ha
  exact(arr _ b m).2
 ·obtain⟨y,B,rfl⟩:=G x d
  have c:=(u y B).1
  exact tyr y c.1 c.2
 · -- in order
  obtain⟨j,au,a,ha,e⟩:=ah i.toNat (by simp only[List.length_nil];omega) (by omega)
  have h1:=z (j:Int) (by omega) (by omega)
  have W:=z i (by omega) (by omega)
  rw[Int.toNat_natCast]at h1
  have c:=(u _ h1.1).1
  rw[M _ c.1 c.2]at ha
  obtain⟨b,m,rfl⟩:=List.mem_map.1 ha
  refine⟨(j:Int),by omega,by omega,(b.1,B6 o (Ek p b.2)),?_,?_⟩
  ·have:=A _ h1.1
   rw[h1.2]at this
   rw[AR,this]
   exact List.mem_map.2 ⟨b,m,rfl⟩
  ·show B6 o (Ek p b.2)=i
   simp only at e
   rw[e,W.2]
 ·have:=FU (H i g l)
  rw[K]
  exact⟨this.1,this.2.1⟩
 ·show BA h _ (F.getD (B6 o (Ek p i)).toNat (0,[])).1=true
  rw[A _ (H i g l)]
  exact st i _ g l (w g l)
 ·obtain⟨t,ak,ad⟩:=sa i _ g l (w g l) a ha
  have e:=xQ ad
  show Dh (AR F (B6 o (Ek p i))) a.1=B6 o (Ek p a.2)
  rw[e,AR,A _ (H i g l)]
  exact Mq (S _) (a:=(a.1,B6 o (Ek p t))) (List.mem_map.2 ⟨(a.1,t),ak,rfl⟩)
 ·show B6 o (Ek p q.1)=B6 o (Ek p q.2)
  rw[xQ (sp q ai)]
 ·obtain⟨c1,c2,U,V⟩:=co X v ab T
  refine⟨λi=>v (o.getD i.toNat 0),?_,λi g l=>?_,λi g l=>?_,λi g l a ha=>?_⟩
  ·show v (o.getD 0 0)=0
   rw[s.zero.1,<-c1 0 _ (by omega) (by omega) (w (by omega) (by omega))]
   exact al
  ·have n:=z i g (by omega)
   have c:=(u _ n.1).1
   exact T.rng _ c.1 c.2
  ·have n:=z i g (by omega)
   have c:=u _ n.1
   have hn:=A _ n.1
   rw[n.2]at hn
   rw[hn]
   exact U _ c.1.1 c.1.2 c.2
  ·have n:=z i g (by omega)
   have c:=u _ n.1
   have hn:=A _ n.1
   rw[n.2]at hn
   rw[AR,hn]at ha
   obtain⟨b,m,rfl⟩:=List.mem_map.1 ha
   have Y:=V _ c.1.1 c.1.2 c.2 b m
   have I:=(arr _ b m).1
   have Z:=FU (Q _ n.1 b m)
   simp only
   rw[Z.2.2,<-c1 b.2 _ I.1 I.2 (w I.1 I.2)]
   exact Y
structure VF (h:AH) (f:List AD):Prop where
 good:AW f
 pos:0<f.length
 ty:Dv h f
 str:∀x∈f,Nr x.2
 ft:∀x∈f,∀a∈x.2,0<=a.1/\a.1<(h.2.length:Int)
 can:AN f 0=f
 ro:RO f
structure HU (h:AH):Prop where
 ok:GL h
 inj:Lq h
 ft:h.2.length<=64
def j6 (U:List AD):Prop:=(DK U U.length [] 0).length=U.length/\∀k,(hk:k<(DK U U.length [] 0).length)->(DK U U.length [] 0)[k]=(k:Int)
theorem dL {Q:List AD} (m:AW Q) {r:Int} (L:0<=r) (M:r<(Q.length:Int)):AW (AN Q r)/\j6 (AN Q r):=by
 have d:=LL m L M;have D:=Ms Q r;have C:=λi=>Mr (f:=Q) (r:=r) (i:=i);generalize O:AN Q r=c at *;generalize H:DK Q Q.length [] r=o at *;have R:=d.ok.len;have N:=m.1;have g:∀i:Int,0<=i->i<(o.length:Int)->o.getD i.toNat 0∈o/\B6 o (o.getD i.toNat 0)=i:=λi J K=>by
  refine⟨AE o 0 (by omega),?_⟩;rw[HF d.ok.nd (by omega)];omega
 have p:∀i:Int,0<=i->i<(o.length:Int)->AR c i=(AR Q (o.getD i.toNat 0)).map (LJ o):=λi J K=>by
  rw[AR,C i.toNat (by omega)];rfl
 have F:Iso c Q (λi=>o.getD i.toNat 0) (λi=>0<=i/\i<(o.length:Int)):=by
  refine⟨λi hi=>?_,λi hi a ha=>?_,λi j hi B e=>?_⟩
  ·rw[p i hi.1 hi.2,AAc];have:∀a∈AR Q (o.getD i.toNat 0),((λa:Int×Int=>(a.1,o.getD a.2.toNat 0))∘LJ o) a=a:=λa ha=>by
    show (a.1,o.getD (B6 o a.2).toNat 0)=a;rw[(FU (d.cl _ (g i hi.1 hi.2).1 a ha)).2.2]
   rw[UI this,List.map_id']
  ·rw[p i hi.1 hi.2]at ha;obtain⟨b,q,rfl⟩:=IF.1 ha;have:=FU (d.cl _ (g i hi.1 hi.2).1 b q);exact⟨this.1,this.2.1⟩
  ·have h1:=(g i hi.1 hi.2).2;have h:=(g j B.1 B.2).2;have e:o.getD i.toNat 0=o.getD j.toNat 0:=e;rw[<-h1,<-h,e]
 have h0:(0:Int)<(o.length:Int):=by have:=d.zero.2;omega
 have v:AW c:=by
  refine⟨by omega,λx u=>?_⟩;obtain⟨i,hi,rfl⟩:=CH (0,[]) u;have h1:=p (i:Int) (by omega) (by omega);rw[AR,UG]at h1;rw[h1];have t:=g (i:Int) (by omega) (by omega);rw[UG]at t;have S:=d.ok.rng _ t.1;refine⟨?_,λa ha=>?_⟩
  ·rw[Of];exact(m.2 _ (AE Q (0,[]) (k:=(o.getD i 0).toNat) (by omega))).1
  ·obtain⟨b,q,rfl⟩:=IF.1 ha;have:=FU (d.cl _ t.1 b q);rw[D];exact⟨this.1,this.2.1⟩
 have s:=Q2 F Q.length [] 0 (λx u=>by cases u) ⟨by omega,h0⟩;have I:o.getD (0:Int).toNat 0=r:=d.zero.1;rw[AEW,I,H]at s;have A:=Q1 v (n:=0) (by omega) (by omega) (Q.length-c.length);rw[show c.length+(Q.length-c.length)=Q.length by omega]at A;rw[A]at s;unfold j6;refine⟨v,?_⟩;generalize DK c c.length [] 0=l at *;obtain⟨y,E⟩:=s;have P:l.length=o.length:=by
  have:=ADx List.length y;rw[Of]at this;exact this.symm
 have G:∀k,(hk:k<l.length)->l[k]=(k:Int):=λk hk=>by
  have w:=E l[k] (nO hk);have h1:=(g l[k] w.1 w.2).2;have h:=(g (k:Int) (by omega) (by omega)).2;have e:o.getD k 0=o.getD (l[k]).toNat 0:=by
   exact(ADx (λz:List Int=>z.getD k 0) y).trans (by simp[AS,hk])
  rw[UG,e]at h;rw[<-h1,h]
 exact⟨by omega,G⟩
theorem XT {b:List AD} (g:AW b) (k:j6 b):AN b 0=b:=by
 unfold AN;obtain⟨q,c⟩:=k;generalize DK b b.length [] 0=l at *;have o:l.Nodup:=by
  unfold List.Nodup;rw[UK];intro i j hi n p e;rw[c i hi,c j n]at e;omega
 have m:∀x,0<=x->x<(l.length:Int)->B6 l x=x:=λx r s=>by
  have:=HF o (i:=x.toNat) (by omega);have e:l.getD x.toNat 0=x:=by
   rw[AS,At (by omega)];show l[x.toNat]=x;rw[c _ (by omega)];omega
  rw[e]at this;rw[this];omega
 apply YI
 ·rw[Of];omega
 ·intro i h1 d;rw[AEl,c i (by simpa using h1)];have f:b.getD (i:Int).toNat (0,[])=b[i]:=by simp[AS,d]
  unfold Di;rw[f];have:∀a∈b[i].2,LJ l a=a:=λa ha=>by
   have h:=(g.2 _ (nO d)).2 a ha;unfold LJ;rw[m a.2 h.1 (by omega)]
  rw[UI this,List.map_id']
theorem j7 {Q:List AD} (a:AW Q) {r:Int} (b:0<=r) (c:r<(Q.length:Int)):AN (AN Q r) 0=AN Q r :=
 XT (dL a b c).1 (dL a b c).2
theorem XU {h:AH} {a X:List AD} (g:RO a) {m f:Int->Int} (h1:OM h a X m) (b:OM h a X f):∀(k:Nat) (i:Int),i.toNat<=k->0<=i->i<(a.length:Int)->m i=f i:=by
 intro k;induction k with
 | zero =>
  intro i hk l e;have:i=0:=by omega
  subst this;rw[h1.zero,b.zero]
 | succ k n =>
  intro i hk l e;by_cases hi:i=0
  ·subst hi;rw[h1.zero,b.zero]
  ·obtain⟨j,c,o,x,d,rfl⟩:=g i (by omega) e;rw[<-h1.arc j c (by omega) x d,<-b.arc j c (by omega) x d,n j (by omega) c (by omega)]
theorem Mu {h:AH} (hk:GL h) {a b c:List AD} (w:AW a) (ta:Dv h a) (tb:Dv h b) (A:Dv h c) {m n:Int->Int} (h1:OM h a b m) (j:OM h b c n):OM h a c λi=>n (m i):=by
 refine⟨by show n (m 0)=0;rw[h1.zero,j.zero],λi f g=>?_,λi f g=>?_,λi f g x p=>?_⟩
 ·have:=h1.rng i f g;exact j.rng _ this.1 this.2
 ·have d:=h1.rng i f g;have B:=j.rng _ d.1 d.2;have r:=ta _ (AE a (0,[]) (k:=i.toNat) (by omega));have s:=tb _ (AE b (0,[]) (k:=(m i).toNat) (by omega));have t:=A _ (AE c (0,[]) (k:=(n (m i)).toNat) (by omega));exact PM hk r.1 r.2 s.1 s.2 t.1 t.2 (h1.ty i f g) (j.ty _ d.1 d.2)
 ·have d:=h1.rng i f g;have q:=BE w p;have o:=h1.arc i f g x p;obtain⟨y,z,u,v⟩:=Q3 (l:=AR b (m i)) (e:=x.1) (by rw[o];exact(h1.rng _ q.1 q.2).1);have:=j.arc (m i) d.1 d.2 y z;rw[u,v,o]at this;exact this
theorem LM {a:List AD} (hs:∀x∈a,Nr x.2) (n:Int):Nr (AR a n):=by
 unfold AR;by_cases h:n.toNat<a.length
 ·exact hs _ (AE a (0,[]) h)
 ·rw[AS,UJ (by omega)];exact .nil
theorem dP {h:AH} {a:List AD} (hs:∀x∈a,Nr x.2):OM h a a id :=
 ⟨rfl,λi c d=>⟨c,d⟩,λi _ _=>SM h _,λi _ _ x b=>Mq (LM hs i) b⟩
theorem xR:∀ {l m:List (Int×Int)},Nr l->Nr m->(∀x,x∈l↔x∈m)->l=m
 | [],[],_,_,_=>rfl
 | [],b :: m,_,_,h=>by have:=(h b).2 (by simp);cases this
 | a :: l,[],_,_,h=>by have:=(h a).1 (by simp);cases this
 | a :: l,b :: m,h1,i,h=>by
  obtain⟨f,g⟩:=UW.1 h1;obtain⟨b1,b2⟩:=UW.1 i;have e:a=b:=by
   rcases DO.1 ((h a).1 (by simp)) with e|e
   ·exact e
   ·rcases DO.1 ((h b).2 (by simp)) with d|d
    ·exact d.symm
    ·have:=f b d;have:=b1 a e;omega
  subst e;refine ADx _ (xR g b2 λx=>⟨λc=>?_,λc=>?_⟩)
  ·rcases DO.1 ((h x).1 (by simp[c])) with e|e
   ·subst e;have:=f x c;omega
   ·exact e
  ·rcases DO.1 ((h x).2 (by simp[c])) with e|e
   ·subst e;have:=b1 x c;omega
   ·exact e
theorem ADa {h:AH} (hu:HU h) {c V:List AD} (b:VF h c) (d:VF h V) {m p:Int->Int} (h1:OM h c V m) (n:OM h V c p):c=V:=by
 have key:∀ {c V:List AD},VF h c->VF h V->∀ {m p:Int->Int},OM h c V m->OM h V c p->c.length<=V.length->c=V:=by
  clear b d h1 n;intro c V b d m p h1 n L;have c1:=Mu hu.ok b.good b.ty d.ty b.ty h1 n;have c2:=Mu hu.ok d.good d.ty b.ty d.ty n h1;have u:∀i,0<=i->i<(c.length:Int)->p (m i)=i:=λi s t=>XU b.ro c1 (dP b.str) i.toNat i (NO _) s t;have I:∀i,0<=i->i<(V.length:Int)->m (p i)=i:=λi s t=>XU d.ro c2 (dP d.str) i.toNat i (NO _) s t;have D:∀ {A B:List AD} {f:Int->Int},AW A->OM h A B f->∀i,0<=i->i<(A.length:Int)->∀x∈AR A i,(x.1,f x.2)∈AR B (f i):=λ{A B f} J hf i s t x o=>by
   have r:=BE J o;have F:=hf.arc i s t x o;obtain⟨y,C,w,v⟩:=Q3 (l:=AR B (f i)) (e:=x.1) (by rw[F];exact(hf.rng _ r.1 r.2).1);rw[<-w,<-F,<-v];exact C
  have K:Iso c V m (λi=>0<=i/\i<(c.length:Int)):=by
   refine⟨λi hi=>?_,λi hi a ha=>BE b.good ha,λi j hi E e=>?_⟩
   ·have q:=h1.rng i hi.1 hi.2;refine xR (LM d.str _) ?_ λx=>⟨λo=>?_,λo=>?_⟩
    ·unfold Nr;rw[ADy];exact LM b.str i
    ·have g:=D d.good n (m i) q.1 q.2 x o;rw[u i hi.1 hi.2]at g;refine IF.2 ⟨_,g,?_⟩;have r:=BE d.good o;show (x.1,m (p x.2))=x;rw[I x.2 r.1 r.2]
    ·obtain⟨y,C,rfl⟩:=IF.1 o;exact D b.good h1 i hi.1 hi.2 y C
   ·rw[<-u i hi.1 hi.2,<-u j E.1 E.2,e]
  have M:=b.pos;have:=Ya K b.good ⟨by omega,by omega⟩ h1.zero b.pos L λi hi=>by
   have q:=h1.rng i hi.1 hi.2;have w:=h1.ty i hi.1 hi.2;have v:=n.ty (m i) q.1 q.2;rw[u i hi.1 hi.2]at v;have G:=b.ty _ (AE c (0,[]) (k:=i.toNat) (by omega));have H:=d.ty _ (AE V (0,[]) (k:=(m i).toNat) (by omega));exact hu.inj _ _ H.1 H.2 G.1 G.2 v w
  rw[d.can,b.can]at this;exact this.symm
 rcases Nat.le_total c.length V.length with z|z
 ·exact key b d h1 n z
 ·exact(key d b n h1 z).symm
structure XV (h:AH) (a b U:List AD):Prop where
 vf:VF h U
 left:∃m,OM h a U m
 right:∃m,OM h b U m
 least:∀X,Dv h X->∀m1,OM h a X m1->∀m2,OM h b X m2->∃m,OM h U X m
 len:U.length<=a.length+b.length
theorem A7z {h:AH} (hu:HU h) {a b d V:List AD} (h1:XV h a b d) (c:XV h a b V):d=V:=by
 obtain⟨l,e⟩:=c.left;obtain⟨n,f⟩:=c.right;obtain⟨o,g⟩:=h1.left;obtain⟨p,i⟩:=h1.right;obtain⟨m,j⟩:=h1.least V c.vf.ty l e n f;obtain⟨q,k⟩:=c.least d h1.vf.ty o g p i;exact ADa hu h1.vf c.vf j k
open Classical in
noncomputable def Ec (h:AH) (a b:List AD):List AD×Bool:=if H:∃U,XV h a b U then (H.choose,true) else ([],false)
theorem TW {h:AH} (hu:HU h) {a b U:List AD} (h1:XV h a b U):Ec h a b=(U,true):=by
 unfold Ec;have H:∃U,XV h a b U:=⟨U,h1⟩;rw[dif_pos H,A7z hu H.choose_spec h1]
theorem j8 {h:AH} {a b:List AD} (h1:∀X,Dv h X->∀d,OM h a X d->∀e,¬OM h b X e):Ec h a b=([],false):=by
 unfold Ec;rw[dif_neg];rintro⟨f,c⟩;obtain⟨d,g⟩:=c.left;obtain⟨e,i⟩:=c.right;exact h1 f c.vf.ty d g e i
theorem TX {h:AH} {a b:List AD} (h1:(Ec h a b).2=true):XV h a b (Ec h a b).1:=by
 unfold Ec at h1 ⊢;split at h1
 ·rename_i H;rw[dif_pos H];exact H.choose_spec
 ·cases h1
theorem XW {f:List AD} {e:Int} (h:e∈DA f):∃x∈f,∃a∈x.2,a.1=e:=by
 unfold DA at h;obtain⟨x,c,b⟩:=List.mem_flatMap.1 h;obtain⟨a,ha,e⟩:=IF.1 b;exact⟨x,c,a,ha,e⟩
theorem A9y {h:AH} {N:List AD} {P:List (Int×Int)} {p ty:List Int} {ar:List (List (Int×Int))} (d:JI h N P p ty ar []) (g:AW (quo p ty ar)) (m:0<N.length) (j:∀x∈N,∀a∈x.2,0<=a.1/\a.1<(h.2.length:Int)) {v:Int->Int} (c:A8z h N P (AN (quo p ty ar) (Ek p 0)) v):VF h (AN (quo p ty ar) (Ek p 0)):=by
 have f:0<=Ek p 0/\Ek p 0<((quo p ty ar).length:Int):=by
  obtain⟨n,fo⟩:=d.fo;have:=d.lp;have:=GJ fo (x:=0) (by omega) (by omega) (PN fo (by omega) (by omega));rw[E9];exact this
 refine⟨c.good,c.pos,c.ty,c.str,λx k a ha=>?_,j7 g f.1 f.2,c.ro⟩;obtain⟨y,l,b,i,e⟩:=XW (c.feat x k a ha);rw[<-e];exact j y l b i
theorem A0L {h:AH} {f g:List AD} (hf:VF h f) (e:VF h g):∀x∈Cc f g,∀a∈x.2,0<=a.1/\a.1<(h.2.length:Int):=by
 intro x c;unfold Cc at c;rcases No.1 c with c|c
 ·exact hf.ft x c
 ·obtain⟨y,i,rfl⟩:=IF.1 c;intro a ha;obtain⟨b,d,rfl⟩:=IF.1 ha;exact e.ft y i b d
theorem dQ {h:AH} {f g:List AD} (hf:VF h f) (i:VF h g) {p ty:List Int} {ar:List (List (Int×Int))} (b:JI h (Cc f g) [(0,(f.length:Int))] p ty ar []) (d:AW (quo p ty ar)):XV h f g (AN (quo p ty ar) (Ek p 0)):=by
 have v:=hf.pos;have u:=FA f g;have c:0<(Cc f g).length:=by omega
 have h0:=XP b d c;have l:=XQ b d c (Zw (g:=g) Zx) hf.ro h0;have n:=XQ b d c (XS (f:=f)) i.ro (A3V b (by simp) h0);have a:=A9x b d c λx t w=>by
  by_cases o:x<(f.length:Int)
  ·have:=l x.toNat x (NO _) t o
   rwa [show ((0:Nat):Int)+x=x by omega]at this
  ·have:=n _ (x-(f.length:Int)) (NO _) (by omega) (by omega)
   rwa [show (f.length:Int)+(x-(f.length:Int))=x by omega]at this
 refine⟨A9y b d c (A0L hf i) a,⟨_,j5 a.proj (Zw (g:=g) Zx) a.zero⟩,⟨_,j5 a.proj (XS (f:=f)) (by rw[<-a.proj.eq (0,(f.length:Int)) (by simp)];exact a.zero)⟩,λX k r h1 s j=>?_,by have:=a.len;omega⟩;refine a.least X _ k (oT (XR hf.good i.good (Nf h1) (Nf j)) λq m=>?_) ?_
 ·have e:q=(0,(f.length:Int)):=by simpa using m
  subst e;try simp only
  rw[BY (by omega),An (by omega),Int.sub_self,h1.zero,j.zero]
 ·show (if (0:Int)<(f.length:Int) then r 0 else s (0-(f.length:Int)))=0;rw[BY (by omega)];exact h1.zero
theorem Zy {h:AH} {f g:List AD} (hf:VF h f) (c:VF h g) (d:∀X v,Dv h X->¬eJ h (Cc f g) [(0,(f.length:Int))] X v):Ec h f g=([],false):=by
 have j:=hf.pos;refine j8 λX b k h1 l a=>d X _ b (oT (XR hf.good c.good (Nf h1) (Nf a)) λq i=>?_);have e:q=(0,(f.length:Int)):=by simpa using i
 subst e;try simp only
 rw[BY (by omega),An (by omega),Int.sub_self,h1.zero,a.zero]
theorem j9 (l:List (Int×Int)):Aj 0 l=l:=by
 unfold Aj;rw[UI (g:=id) (λa _=>by show (a.1,a.2+((0:Nat):Int))=a;rw[Int.natCast_zero,AF0]),AFB]
theorem A0M (a b:Nat):Cq 0 a++Cq a b=Cq 0 (a+b):=by
 unfold Cq;rw[List.range_add,YK,AAc]
 congr 1
 ·refine UI λi _=>?_;show ((a+i:Nat):Int)=((0+(a+i):Nat):Int);rw[ADK]
theorem A0N {n k:Nat} (h:k<n):(Cq 0 n).getD k 0=(k:Int):=by
 unfold Cq;rw[AS,iS,AE5 h];show ((0+k:Nat):Int)=k;rw[ADK]
theorem Mv {n:Nat} {x:Int} (a:0<=x) (b:x<(n:Int)):EX (Cq 0 n) x=x:=by
 unfold EX;rw[A0N (by omega)];omega
def Mw (N:List AD):List Int:=N.map (·.1)
def TY (N:List AD):List (List (Int×Int)):=N.map (·.2)
theorem PP (N:List AD) (k:Nat):(Mw N).getD k 0=(N.getD k (0,[])).1:=by
 unfold Mw;rw[AS,iS,AS];cases N[k]?<;>rfl
theorem Ng (N:List AD) (k:Nat):(TY N).getD k []=(N.getD k (0,[])).2:=by
 unfold TY;rw[AS,iS,AS];cases N[k]?<;>rfl
theorem oU (f g:List AD):DL f f.length++DL g g.length=Mw (Cc f g):=by
 unfold DL Mw Cc;rw[UE,UE,YK,AAc];rfl
theorem A0O (f g:List AD):Fz 0 f f.length++Fz f.length g g.length=TY (Cc f g):=by
 unfold Fz TY Cc;rw[UE,UE,YK,AAc]
 congr 1
 exact UI λx _=>j9 x.2
theorem dS {n:Nat} {x r:Int} (a:0<=x) (b:x<(n:Int)) (h:Rt (Cq 0 n) x r):r=x:=h.det (.base (Mv a b))
theorem dT {h:AH} {N:List AD} (l:AW N) (m:Dv h N) (hs:∀x∈N,Nr x.2):JI h N [] (Cq 0 N.length) (Mw N) (TY N) []:=by
 have f:(Cq 0 N.length).length=N.length:=KK 0 N.length;refine⟨m,⟨λ_=>0,λn n0 n1=>?_,λn n0 n1 hn=>?_⟩,f,by simp[Mw],by simp[TY],λw g=>(by cases g),λx c d=>?_,λk a ha=>?_,λk=>?_,λq p=>(by cases p),λx r c d e=>?_,λx r c d e a ha=>?_,λX v s o=>?_⟩
 ·rw[f]at n1 ⊢;rw[Mv n0 n1];exact⟨n0,n1⟩
 ·rw[f]at n1;exact absurd (Mv n0 n1) hn
 ·rw[PP];exact m _ (AE N (0,[]) (by omega))
 ·rw[Ng]at ha;refine⟨XI l k a ha,?_⟩;by_cases hk:k<N.length
  ·exact List.mem_flatMap.2 ⟨_,AE N (0,[]) hk,IF.2 ⟨a,ha,rfl⟩⟩
  ·rw[AS,UJ (by omega)]at ha;cases ha
 ·rw[Ng];have:=LM hs (k:Int)
  rwa [AR,UG]at this
 ·rw[dS c d e,PP];exact SM h _
 ·rw[dS c d e,Ng];have b:=BE l ha;exact⟨a.2,ha,.cls b.1 b.2 b.1 b.2 (.base (Mv b.1 b.2)) (.base (Mv b.1 b.2))⟩
 ·refine⟨λx r c d e=>by rw[dS c d e],λw g=>(by cases g),λr i j _=>?_,λr i j _ a ha=>?_⟩
  ·rw[PP];exact o.ty r i j
  ·rw[Ng]at ha;exact o.arc r i j a ha
theorem PQ {f g:List AD} (hf:AW f) (d:AW g) (j:f.length+g.length<=100000):AW (Cc f g):=by
 have i:=FA f g;refine⟨by omega,λx c=>?_⟩;unfold Cc at c;rcases No.1 c with c|c
 ·refine⟨(hf.2 x c).1,λa ha=>?_⟩;have:=(hf.2 x c).2 a ha;omega
 ·obtain⟨y,e,rfl⟩:=IF.1 c;refine⟨by simp only[Aj,Of];exact(d.2 y e).1,λa ha=>?_⟩;obtain⟨b,h,rfl⟩:=IF.1 ha;have:=(d.2 y e).2 b h;simp only;omega
theorem Nh {f g:List AD} (hf:∀x∈f,Nr x.2) (b:∀x∈g,Nr x.2):∀x∈Cc f g,Nr x.2:=by
 intro x a;unfold Cc at a;rcases No.1 a with a|a
 ·exact hf x a
 ·obtain⟨y,c,rfl⟩:=IF.1 a;unfold Nr Aj;rw[ADy];exact b y c
theorem XX {h:AH} {f g:List AD} (hf:Dv h f) (b:Dv h g):Dv h (Cc f g):=by
 intro x a;unfold Cc at a;rcases No.1 a with a|a
 ·exact hf x a
 ·obtain⟨y,c,rfl⟩:=IF.1 a;exact b y c
def A0P (N:List AD):Prop:=∀x∈N,∀a∈x.2,0<=a.1/\a.1<64
theorem XY {f g:List AD} (hf:A0P f) (e:A0P g):A0P (Cc f g):=by
 intro x c;unfold Cc at c;rcases No.1 c with c|c
 ·exact hf x c
 ·obtain⟨y,h,rfl⟩:=IF.1 c;intro a ha;obtain⟨b,d,rfl⟩:=IF.1 ha;exact e y h b d
theorem XZ {l:List (Int×Int)} (h:Nr l) (hf:∀a∈l,0<=a.1/\a.1<64):l.length<=64:=by
 have:=dJ h (S:=(List.range 64).map λ(i:Nat)=>(i:Int)) (λa ha=>IF.2 ⟨a.1.toNat,UM.2 (by have:=hf a ha;omega),by have:=hf a ha;omega⟩)
 rwa [Of,AEE]at this
theorem oV {N:List AD} (h:∀x∈N,x.2.length<=64):(DA N).length<=64*N.length:=by
 induction N with
 | nil=>simp[DA]
 | cons x N b =>
  have h1:=h x (by simp);have c:=b λy a=>h y (by simp[a]);have e:DA (x :: N)=x.2.map (·.1)++DA N:=rfl;rw[e,GO,Of,OS];omega
theorem A0Q {N:List AD} (h:A0P N) {e:Int} (b:e∈DA N):0<=e/\e<64:=by
 obtain⟨x,c,a,ha,rfl⟩:=XW b;exact h x c a ha
theorem Xa {h:AH} {N:List AD} {P:List (Int×Int)} {p ty:List Int} {ar:List (List (Int×Int))} (c:JI h N P p ty ar []) (k:N.length<=100000) (hf:A0P N):AW (quo p ty ar):=by
 have g:=E9 p ty ar;obtain⟨l,fo⟩:=c.fo;have lp:=c.lp;refine⟨by omega,λx j=>?_⟩;obtain⟨i,hi,rfl⟩:=CH (0,[]) j;have e:=Nc (p:=p) (ty:=ty) (ar:=ar) (n:=(i:Int)) (by omega) (by omega);rw[UG]at e;rw[e];refine⟨?_,λa ha=>?_⟩
 ·simp only[Of];have:=XZ (c.srt i) (λa ha=>A0Q hf (c.arr i a ha).2);omega
 ·obtain⟨b,f,rfl⟩:=IF.1 ha;have d:=(c.arr i b f).1;have:=GJ fo (x:=b.2) d.1 (by omega) (PN fo d.1 (by omega));rw[g];exact this
theorem VF.ft64 {h:AH} {f:List AD} (b:VF h f) (hu:HU h):A0P f:=λx c a ha=>by
 have h1:=b.ft x c a ha;have d:=hu.ft;omega
def ADb (d:List AI) (o:List ByteArray) (i:Nat):Prop:=∀j,j<i->∀x∈d,AZ x.2.1 (o.getD j ByteArray.empty)=true->AZ o x.1=true
theorem A3W {c:ByteArray} {o:List ByteArray} {x:AI} (h:AZ x.2.1 c=true):AZ (Y1 c o x) x.1=true:=by grind [Y1,Ov,Cv]
theorem Zz {c:ByteArray} {x:AI} (h:AZ x.2.1 c=true):∀ {l:List AI} {o:List ByteArray},x∈l->AZ (l.foldl (Y1 c) o) x.1=true
 | [],_,a=>by cases a
 | y :: l,o,a=>by
  rw[OR];rcases DO.1 a with rfl|a
  ·grind [KA,NU,A3W]
  ·exact Zz h a
theorem Xb {d:List AI}:∀ {n i:Nat} {o:List ByteArray},cC d o->d.length<=n+i->ADb d o i->i<=o.length->∃m,ADb d (Cn d n i o) m/\(Cn d n i o).length<=m
 | 0,i,o,ha,f,a,hi=>⟨i,a,by
  have:=ha.len;show o.length<=i;omega⟩
 | n+1,i,o,ha,f,a,hi=>by
  unfold Cn;split
  ·rename_i q;obtain⟨c,k⟩:=WI (o.getD i ByteArray.empty) (l:=d) (o:=o) (λ_ h=>h) ha;refine Xb c (by omega) (λj p x b hs=>?_) (by omega);rw[R3 _ (by omega)]at hs;by_cases e:j=i
   ·subst e;exact Zz hs b
   ·exact KA (λz g=>NU g) (a j (by omega) x b hs)
  ·exact⟨i,a,by omega⟩
theorem SV {α:Type} {p:α->Bool}:∀ {l:List α},l.countP p=1->∀x∈l,p x=true->∀y∈l,p y=true->x=y
 | [],h,x,a,_,_,_,_=>by cases a
 | z :: l,h,x,a,d,y,b,e=>by
  rw[AEm]at h;by_cases c:p z=true
  ·rw[BY c]at h;grind
  ·rw[An c]at h;have a:x∈l:=by grind
   have b:y∈l:=by grind
   exact SV (by omega) x a d y b e
theorem Xc (s:ByteArray):∀(l:List AI) (k:Nat),0<=Cu s k l->∃x∈l,AY x.1 s=true
 | [],k,h=>by
  simp only[Cu]at h;omega
 | y :: l,k,h=>by
  simp only[Cu]at h;split at h
  ·rename_i e;exact⟨y,by simp,e⟩
  ·obtain⟨x,a,e⟩:=Xc s l (k+1) h;exact⟨x,by simp[a],e⟩
theorem oW {d:List AI} (t:A7 d=0):∃r∈d,∀x∈d,AZ (Co d r.1) x.1=true:=by
 obtain⟨hs,I,h1,hn,l⟩:=A1 t;have C:0<d.countP λx=>x.2.1.length==0:=by grind [ID]
 obtain⟨r,c,q⟩:=List.countP_pos_iff.1 C;refine⟨r,c,?_⟩;have D:=Db c;have u:cC d [r.1]:=⟨λs hs=>by
  have:s=r.1:=by simpa using hs
  rw[this];exact D,by simp⟩
 obtain⟨m,B,J⟩:=Xb (d:=d) (n:=d.length) (i:=0) u (by omega) (λj A=>by omega) (by omega);have p:r.1∈Cn d d.length 0 [r.1]:=LB (by simp);have v:Co d r.1=J9 (Cn d d.length 0 [r.1]):=by unfold Co;rw[An (by omega)]
 rw[v];generalize Cn d d.length 0 [r.1]=o at *;have key:∀(k:Nat) (x:AI),x∈d->GS d x.1<=k->AZ o x.1=true:=by
  intro k;induction k with
  | zero =>
   intro x a hk;by_cases g:x.2.1.length=0
   ·have e:=SV h1 x a (by simpa using g) r c q;rw[e];exact Fv p
   ·obtain⟨s,b⟩:∃s,s∈x.2.1:=AF3 (by omega);have:=LA hn l a (Fv b);omega
  | succ k H =>
   intro x a hk;by_cases g:x.2.1.length=0
   ·have e:=SV h1 x a (by simpa using g) r c q;rw[e];exact Fv p
   ·obtain⟨s,b⟩:∃s,s∈x.2.1:=AF3 (by omega);have E:=LA hn l a (Fv b);obtain⟨y,G,e⟩:=Xc s d 0 (hs x a s b);rw[<-IK d e]at E;obtain⟨z,h,f⟩:=UF.1 (H y G (by omega));obtain⟨j,A,rfl⟩:=CH ByteArray.empty h;refine B j (by omega) x a ?_;exact UF.2 ⟨s,b,D8 (BX f e)⟩
 intro x a;obtain⟨z,h,e⟩:=UF.1 (key _ x a (NO _));obtain⟨w,F,f⟩:=UF.1 (Qg (o:=[]) h);exact UF.2 ⟨w,F,BX f e⟩
abbrev cnt (c:List Int):Nat:=(IA c).length
theorem A3X {w:Int} (a:U64 w) {r:Nat} (d:r<64):A2z w (r:Int)=w.toNat.testBit r:=by
 have h0:=a.1;have h1:=a.2;have b:w.toNat / 2 ^ r<=w.toNat:=Nat.div_le_self _ _;have e:YO .u64 w (r:Int)=((w.toNat / 2 ^ r:Nat):Int):=by
  unfold YO;have c:min ((r:Int)).toNat IntKind.u64.bits=r:=by
   show min ((r:Int)).toNat 64=r;omega
  grind
 unfold A2z;rw[Nat.testBit_eq_decide_div_mod_eq,e];generalize w.toNat / 2 ^ r=z at *;rw[II ⟨by omega,by omega⟩ ⟨by decide,by decide⟩,UG,show (1:Int).toNat=1 from rfl,Nat.and_one_is_mod,AEa,YD,Fe];omega
theorem Uz {b:List Int} (d:IJ b) (i:Nat):Ts b (i:Int)=BF b i:=by
 have a:Int.tdiv (i:Int) 64=((i / 64:Nat):Int):=by rw[oS (by omega)];omega
 have c:Int.tmod (i:Int) 64=((i % 64:Nat):Int):=by rw[AEk (by omega)];omega
 unfold Ts BF;rw[a,c,UG];by_cases hk:i / 64<b.length
 ·rw[An (by rw[UU,Fe,Fe];omega),A3X (BK d _) (by omega)]
 ·rw[BY (by rw[UU,Fe,Fe];omega),HC hk];simp
theorem kA (c:List Int):(IA c).Nodup:=by
 unfold IA OD List.Nodup;rw[ADy];refine List.Pairwise.imp (λh e=>h ?_) (List.Pairwise.filter _ List.nodup_range);exact AFp e
theorem Z0 {c:List Int} (b:IJ c) {x:Int}:x∈IA c↔∃i:Nat,x=(i:Int)/\BF c i=true:=by
 unfold IA OD;rw[IF];constructor
 ·grind [Uz]
 ·rintro⟨i,rfl,a⟩;refine⟨i,ADv.2 ⟨UM.2 ?_,by rw[Uz b];exact a⟩,rfl⟩;refine Do λd=>?_;unfold BF at a;rw[HC (by omega)]at a;simp at a
theorem A9z {a b:List Int} (ha:IJ a) (d:IJ b) (h:∀i,BF a i=true->BF b i=true) (e:cnt b<=cnt a) (i:Nat) (hi:BF b i=true):BF a i=true:=by
 refine Do λhn=>?_;have c:(i:Int)∉IA a:=λf=>by grind [Z0]
 have:=SR (l:=(i:Int) :: IA a) (l':=IA b) (aT.2 ⟨c,kA a⟩) λx c=>by grind [Z0]
 grind
theorem Xd (x:AQ) (out:List AQ):∀n,(Fx x out n=0->n=0\/GC x (out.getD 0 c0)=true)/\∀k,Fx x out n=k+1->GC x (out.getD k c0)=false
 | 0=>⟨λ_=>.inl rfl,λk h=>by simp[Fx]at h⟩
 | n+1=>by
  obtain⟨h1,a⟩:=Xd x out n;grind [Fx]
theorem kB {a b:AQ} (h:GC a b=true):cnt b.2<=cnt a.2:=by
 unfold GC at h;grind
theorem dU {a b:AQ} (h:GC a b=false):cnt a.2<=cnt b.2:=by
 unfold GC at h;grind
def HM (out:List AQ):Prop:=∀y∈out,cnt y.2<=cnt (out.getD 0 c0).2
theorem A7A {out:List AQ} (h:HM out) (x:AQ):HM (cM out x):=by
 obtain⟨s1,s2⟩:=Xd x out out.length;have c:=iI x out out.length;intro y a;rw[iM]at a;unfold cM;cases hk:Fx x out out.length with
 | zero =>
  rw[ADf,YJ,AE0];have e:([x]++out).getD 0 c0=x:=rfl;rw[e];rcases a with rfl|a
  ·exact NO _
  ·have h1:=h y a;rcases s1 hk with e|e
   ·grind
   ·exact UD h1 (kB e)
 | succ k =>
  have b:=dU (s2 k hk);rw[hk]at c;have e:(out.take (k+1)++[x]++out.drop (k+1)).getD 0 c0=out.getD 0 c0:=by grind
  rw[e];rcases a with rfl|a
  ·exact UD b (h _ (BD (by omega)))
  ·exact h y a
theorem kC {d:List AI}:∀ {l:List (List Int)} {o:List AQ},HM o->HM (l.foldl (R8 d) o)
 | [],_,h=>h
 | b :: l,o,h=>by
  rw[OR];exact kC (A7A h _)
def In (n:Nat) (c:List Int):Prop:=IJ c/\∀i,BF c i=true->i<n
theorem A9A (n:Nat):In n []:=⟨λx a=>(by cases a),λi hi=>by unfold BF at hi;simp at hi⟩
theorem A9B {n:Nat} {a b:List Int} (ha:In n a) (c:In n b):In n (Ej a b) :=
 ⟨Qs ha.1 c.1,λi hi=>by
  rw[Qr ha.1 c.1,AT]at hi;exact ha.2 i hi.1⟩
theorem A7B {n:Nat} {l:List (List Int)} (h:∀c∈l,In n c) (k:Nat):In n (l.getD k []):=by grind [BD,SF,A9A]
theorem A7C {n:Nat} {l:List (List Int)} (h:∀c∈l,In n c) (i k:Nat):∀c∈Gf l i k,In n c:=by grind [Gf,Ej,A9B,A7B]
theorem xS {q i:Nat}:∀ {n k:Nat} {l:List (List Int)},(∀c∈l,In q c)->∀c∈Gg i n k l,In q c
 | 0,_,_,h=>h
 | n+1,k,l,h=>by
  unfold Gg;split
  ·exact xS (A7C h i k)
  ·exact h
theorem dV {q:Nat}:∀ {n i:Nat} {l:List (List Int)},(∀c∈l,In q c)->∀c∈IG n i l,In q c
 | 0,_,_,h=>h
 | n+1,i,l,h=>by
  unfold IG;split
  ·exact dV (xS h)
  ·exact h
def A0R (h:AH):Prop:=∀t,0<=t->t<(h.1.length:Int)->BA h 0 t=true
theorem Mx (d:List AI):A0R (Ax d).1:=by
 have hk:=JK d;unfold Ax at hk ⊢;split
 ·intro t h0 h1;simp at h1;omega
 ·rename_i g;rw[An g]at hk;have g:(BC d).2=0:=Do g;have A:A0 d=0:=by grind [BC]
  obtain⟨L,-,-⟩:=CE A;obtain⟨j,P,-⟩:=BZ L;obtain⟨-,z,-,hn,O⟩:=A1 j;have G:=D7 d d.length;rw[UE]at G;have k:(AO d).length<=4096:=by omega
  obtain⟨r,H,N⟩:=oW j;have a:∀c∈Ay (AX d),In (AO d).length c:=dV λc f=>by
   obtain⟨s,hs,rfl⟩:=IF.1 f;exact⟨(B9 (d:=d) k s 0).2.1,λi hi=>((B9 (d:=d) k s i).1.1 hi).1⟩
  obtain⟨s,hs,M⟩:=UF.1 (O3 H);have I:s=r.1:=by grind [Dd,Qd]
  subst I;have n:Ey d (AO d) r.1∈Ay (AX d):=by
   have hp:AX d <+: Ay (AX d):=Qp 257 0 (AX d);exact hp.subset (IF.2 ⟨_,hs,rfl⟩)
  have l:∀i,i<(AO d).length->BF (Ey d (AO d) r.1) i=true:=λi hi=>by grind [B9,Dd,BD]
  have B:HM (AM d):=kC λy K=>by cases K
  have q:=De.2 ⟨_,n,rfl⟩;have u:0<(AM d).length:=AEP q;have p:=B _ q;obtain⟨b,m,h⟩:=De.1 (BD (d:=c0) u);rw[h]at p;have E:=A9z (a b m).1 (a _ n).1 (λi hi=>l i ((a b m).2 i hi)) p;have D:Bb (Bt d) 0=b:=by
   show ((Ee (AM d) _ _).getD 0 TN).2.1=b;have:(Ee (AM d) (BC d).1 (AM d).length).getD 0 TN=(((AM d).getD 0 c0).1,((AM d).getD 0 c0).2,ZP (AM d) ((0:Nat):Int),(BC d).1.getD 0 []):=by
    unfold Ee;rw[AS,iS,AE5 u];rfl
   rw[this,h]
  have Q:(Bt d).1.length=(AM d).length:=KE _ _ _;intro t v w;refine(B3 hk (by omega) (by show (0:Int)<((Bt d).1.length:Int);omega) v w).2 λi hi=>?_;show BF (Bb (Bt d) 0) i=true;rw[D];refine E i (l i ?_);have C:=CW v w;have F:Bb (Bt d) t∈Ay (AX d):=by
   have e:((Bt d).1.map λt=>t.2.1)=(AM d).map λx=>x.2:=by
    show ((Ee _ _ _).map λt=>t.2.1)=_;unfold Ee;rw[AAc];apply YI
    ·simp
    ·intro i h1 z;simp[AS,show i<(AM d).length by simpa using h1]
   have o:Bb (Bt d) t∈(Bt d).1.map λt=>t.2.1:=C;rw[e]at o;obtain⟨x,J,ex⟩:=IF.1 o;obtain⟨c,f,rfl⟩:=De.1 J;rw[<-ex];exact f
  exact(a _ F).2 i hi
theorem Xe (d:List AI):Nd ((Ax d).1.1.map λt=>t.2.1):=by
 unfold Ax;split
 ·exact⟨.nil,λc h=>(by cases h)⟩
 ·rename_i a;have a:(BC d).2=0:=Do a;have g:A0 d=0:=by
   unfold BC at a;split at a
   ·rename_i h;exact absurd a h
   ·rename_i h;exact Do h
  obtain⟨m,-,-⟩:=CE g;obtain⟨f,o,-⟩:=BZ m;have hf:Nd (Ay (AX d)):=Ut (SG f);have e:((Bt d).1.map λt=>t.2.1)=(AM d).map λx=>x.2:=by
   show ((Ee _ _ _).map λt=>t.2.1)=_;unfold Ee;rw[AAc];apply YI
   ·simp
   ·intro i h1 n;simp[AS,show i<(AM d).length by simpa using h1]
  show Nd ((Bt d).1.map λt=>t.2.1);rw[e];refine⟨Mg (by simpa using hf.nd),λc k=>?_⟩;obtain⟨x,l,rfl⟩:=IF.1 k;obtain⟨b,j,rfl⟩:=De.1 l;exact hf.nrm b j
def Yb (l:List (Int×Int)) (e:Int):Int×Bool:=match l with
 | []=>(0,false)
 | a :: r=>if a.1=e then (a.2,true) else Yb r e
structure CI (n:Nat) (o:List Int) (ar:List (List (Int×Int))) (W:List (Int×Int)):Prop where
 lo:o.length=n
 la:ar.length=n
 rep:∀k:Nat,k<n->0<=o.getD k 0/\o.getD k 0<=(k:Int)/\o.getD (o.getD k 0).toNat 0=o.getD k 0
 wr:∀w∈W,(0<=w.1/\w.1<(n:Int))/\(0<=w.2/\w.2<(n:Int))
 ta:∀k,∀a∈ar.getD k [],0<=a.2/\a.2<(n:Int)
theorem CI.rng {n:Nat} {o:List Int} {ar:List (List (Int×Int))} {W:List (Int×Int)} (h:CI n o ar W) {x:Int} (c:0<=x) (d:x<(n:Int)):0<=o.getD x.toNat 0/\o.getD x.toNat 0<(n:Int)/\o.getD (o.getD x.toNat 0).toNat 0=o.getD x.toNat 0:=by
 obtain⟨h1,b,a⟩:=h.rep x.toNat (by omega);exact⟨h1,by omega,a⟩
section
variable {n:Nat} {o:List Int} {ar:List (List (Int×Int))} {W:List (Int×Int)} {x y:Int}
end
section
attribute [local go_sem] WG A2C
def Xf:Aa:={ ins:=[Da,T3,T3],pre:=λ(f,n,_,_)=>(0:Int)<=n/\n<(List.length f:Int),out:=λ(f,n,e,_)=>[.p T3 (Yb (List.getD (f:List AD) (Int.toNat n) (0,[])).2 e).1,.p .bool (Yb (List.getD (f:List AD) (Int.toNat n) (0,[])).2 e).2],lend:=true }
attribute [local go_sem] Xf
theorem A3Y:Ab Tryz.prog 125 Xf:=by
 refine fK [0,1,2,3,6,7,8,9,19,28] Tryz.func125 Tryz.ntmps125 AG ?_;rintro w0 O0 ⟨f,n,e,u⟩ b ⟨⟨m,hf⟩,-⟩ hn;simp only[Xf,AL];repeat'(first|exact trivial|refine eS rfl ?_|refine rX b ?_ ?_)
 ·exact hn
 ·have i:List.length (List.getD (f:List AD) (Int.toNat n) (0,[])).2<=AP:=by
   have h1:Int.toNat n<List.length f:=(AEZ hn.1).2 hn.2;have:=hf _ (AE (f:List AD) (0,[]) h1);exact this.2.1
  simp only[AP]at i;generalize (List.getD (f:List AD) (Int.toNat n) (0,[])).2=l at *;refine AJ (ι:={k:Nat//k<=l.length/\Yb (l.drop k) e=Yb l e}) (λk=>⟨[(2,.p T3 e),(8,.p DS l),(9,.p (.int .i64) (k.1:Int))],[]⟩) (λk=>l.length-k.1) ⟨0,by simp⟩ (eW []) (λk=>?_)
  ·obtain⟨k,hk,a⟩:=k;have j:k<l.length->l.drop k=l.getD k (0,0) :: l.drop (k+1):=λh=>by
    rw[TO h,AS,At h];rfl
   have g:k<l.length->(if (l.getD k (0,0)).1=e then ((l.getD k (0,0)).2,true) else Yb (l.drop (k+1)) e)=Yb l e:=λh=>by
    rw[j h]at a;exact a
   repeat'(first|exact trivial|refine eS rfl ?_|refine AB ?_|refine rX b ?_ ?_|refine rC ?_ ?_<;>intro c<;>try(cases c;done))
   ·exact eV
   ·exact eV
   ·have d:k<l.length:=by exact eV
    have a:=g d;rw[BY c]at a;exact fI b [.tmp 6,.tmp 7] (by rw[<-a];exact eR)
   ·exact eV
   ·have d:k<l.length:=by exact eV
    have a:=g d;rw[An c]at a;exact⟨⟨k+1,by omega,a⟩,by simp only;omega,eW []⟩
   ·have hk:l.drop k=[]:=By (by exact eV);rw[hk]at a;have a:(0,false)=Yb l e:=a;exact fI b [.tmp 6,.tmp 7] (by rw[<-a];exact eR)
def A8B (b:List Int):List G8->Nat->Int×Bool
 | [],_=>(0,false)
 | t :: r,k=>if t.2.1=b then ((k:Int),true) else A8B b r (k+1)
def A3Z (h:AH) (a b:Int):Int×Bool:=A8B (Ej (Bb h a) (Bb h b)) h.1 0
end
section
def ADc (h:AH) (l:List AD) (c:List Int):Nat->Option (List Int)
 | 0=>some (List.replicate l.length 0)
 | i+1=>match ADc h l c i with
  | none=>none
  | some o=>if (A3Z h (o.getD (c.getD i 0).toNat 0) (l.getD i (0,[])).1).2=true then some (o.set (c.getD i 0).toNat (A3Z h (o.getD (c.getD i 0).toNat 0) (l.getD i (0,[])).1).1) else none
def A40 (h:AH) (l:List AD) (c:List Int):List Int×Bool:=match ADc h l c l.length with
 | none=>([],false)
 | some o=>((List.range l.length).map λ(k:Nat)=>o.getD (c.getD k 0).toNat 0,true)
def ADV (n:Nat) (c:List Int):Prop:=c.length=n/\∀k:Nat,k<n->0<=c.getD k 0/\c.getD k 0<=(k:Int)/\c.getD (c.getD k 0).toNat 0=c.getD k 0
def A41:Aa:={ ins:=[ER,FQ,Ft],pre:=λ(h,l,c,_)=>ADV (List.length l) c/\Dv h l/\0<List.length (h:AH).1/\List.length l<=100000/\(∀x∈(h:AH).1,x.2.1.length<=100000),out:=λ(h,l,c,_)=>[.p Ft (A40 h l c).1,.p .bool (A40 h l c).2] }
attribute [local go_sem] A41
end
section
attribute [local go_sem] Xf TL
attribute [local go_sem] S9 gM ne_eq not_false_eq_true
end
inductive EQ (n:Nat) (o:List Int) (W:List (Int×Int)):Int->Int->Prop
 | cls {x y:Int} (x0:0<=x) (x1:x<(n:Int)) (y0:0<=y) (y1:y<(n:Int)) (h:o.getD x.toNat 0=o.getD y.toNat 0):EQ n o W x y
 | wt {x y:Int} (h:(x,y)∈W):EQ n o W x y
 | symm {x y:Int} (h:EQ n o W x y):EQ n o W y x
 | trans {x y z:Int} (h:EQ n o W x y) (g:EQ n o W y z):EQ n o W x z
theorem EQ.mono {n:Nat} {o b:List Int} {W a:List (Int×Int)} (h1:∀x y,0<=x->x<(n:Int)->0<=y->y<(n:Int)->o.getD x.toNat 0=o.getD y.toNat 0->EQ n b a x y) (c:∀x y,(x,y)∈W->EQ n b a x y) {x y:Int} (h:EQ n o W x y):EQ n b a x y:=by
 induction h with
 | cls g i j k h=>exact h1 _ _ g i j k h
 | wt h=>exact c _ _ h
 | symm _ d=>exact .symm d
 | trans _ _ e f=>exact .trans e f
theorem EQ.nil {n:Nat} {o:List Int} {x y:Int} (h:EQ n o [] x y):o.getD x.toNat 0=o.getD y.toNat 0:=by
 induction h with
 | cls _ _ _ _ h=>exact h
 | wt h=>cases h
 | symm _ a=>exact a.symm
 | trans _ _ b c=>exact b.trans c
section
variable {h:AH} {N:List AD} {P:List (Int×Int)} {o:List Int} {ar:List (List (Int×Int))} {W:List (Int×Int)} {w:Int×Int}
end
def A9C (h:AH):Prop:=∀t∈h.1,Nrm t.2.1
section
variable {h:AH} {N:List AD} {c:List Int}
end
section
variable {d:List AI}
theorem KL (d:List AI):((Bt d).1.map λt=>t.2.1)=(AM d).map λx=>x.2:=by
 show ((Ee _ _ _).map λt=>t.2.1)=_;unfold Ee;rw[AAc];apply YI
 ·simp
 ·intro i h1 a;simp[AS,show i<(AM d).length by simpa using h1]
theorem dX (d:List AI):(Bt d).1.length=(AM d).length:=KE _ _ _
theorem A42 (d:List AI) {k:Nat} (hk:k<(AM d).length):(Bt d).1.getD k TN=(((AM d).getD k c0).1,((AM d).getD k c0).2,ZP (AM d) (k:Int),(BC d).1.getD k []):=by
 unfold Bt Ee;simp[AS,hk]
theorem Ni (d:List AI) {t:Int} (a:0<=t) (b:t<((AM d).length:Int)):Bb (Bt d) t=((AM d).getD t.toNat c0).2:=by
 unfold Bb;rw[A42 d (by omega)]
theorem kD (a:A0 d=0):(BC d).2=0/\(BC d).1=KC d (AM d) (BO d) (AM d).length:=by
 unfold BC;rw[An (by rw[a];simp)];exact⟨rfl,rfl⟩
theorem U0 (a:A0 d=0):(Ax d).1=Bt d:=by
 unfold Ax;rw[An (by rw[(kD a).1];simp)]
theorem A8C (b:A0 d=0):GL (Bt d)/\Nd ((Bt d).1.map λt=>t.2.1):=by
 have h1:=JK d;have a:=Xe d;rw[U0 b]at h1 a;exact⟨h1,a⟩
theorem Xg (a:A0 d=0):(Bt d).2=(BO d).map (Ql d):=by
 unfold Bt ET;rw[An (by rw[a];simp)]
theorem A43 (a:A0 d=0) {t:Int} (b:0<=t) (c:t<((AM d).length:Int)):c7 (Bt d) t=Tu d (AM d) (BO d) t.toNat (BO d).length:=by
 unfold c7;rw[A42 d (by omega)];show (BC d).1.getD t.toNat []=_;rw[(kD a).2];unfold KC;simp[AS,show t.toNat<(AM d).length by omega]
theorem oX (a:A0 d=0):A7 d=0/\(CA d).1=AM d/\LD d=0/\(∀s∈BO d,(Df d s).2=true)/\X1 d (AM d) (BO d) (AM d).length=false:=by
 obtain⟨b,-,f⟩:=CE a;obtain⟨e,-,c⟩:=BZ b;refine⟨e,c,f,?_,?_⟩
 ·unfold A0 at a;split at a
  ·rename_i h;exact absurd b h
  ·split at a
   ·cases a
   ·split at a
    ·rename_i h;exact absurd a h
    ·split at a
     ·cases a
     ·rename_i h;exact Is.1 (by simpa using h)
 ·unfold A0 at a;split at a
  ·rename_i h;exact absurd b h
  ·split at a
   ·cases a
   ·split at a
    ·rename_i h;exact absurd a h
    ·split at a
     ·cases a
     ·split at a
      ·cases a
      ·rename_i h;rw[c]at h;simpa using h
def Cd (l:List (List Int)) (c:List Int):Prop:=c=[]\/c∈l
theorem A44 {l:List (List Int)} (hk:JJ l) {c:List Int} (h:Cd l c):IJ c:=by
 rcases h with rfl|h
 ·exact λx a=>by cases a
 ·exact hk.wds c h
theorem A9D {l:List (List Int)} (hk:JJ l) (hn:Nd l) {a b:List Int} (ha:Cd l a) (j:b∈l):Cd l (Ej a b):=by
 have f:=A44 hk ha;have g:=hk.wds b j;have m:Nrm (Ej a b):=by unfold Ej;exact PI _
 have k:=λi=>Qr f g i;by_cases hi:∃i,BF a i=true/\BF b i=true
 ·rcases ha with rfl|ha
  ·obtain⟨i,h1,-⟩:=hi;unfold BF at h1;simp at h1
  ·obtain⟨t,d,e⟩:=hk.meet a ha b j hi;right;rw[nW (Qs f g) (hk.wds t d) m (hn.nrm t d) λi=>by rw[k,e]];exact d
 ·left;refine Do λn=>?_;unfold Ej at n;have o:IJ (Ej a b):=Qs f g;have:∃i,BF (Ej a b) i=true:=by
   have c:=m;rcases c with c|c
   ·exact absurd (UL c) n
   ·exact i5 o c
  obtain⟨i,h⟩:=this;rw[k,AT]at h;exact hi ⟨i,h⟩
def UsD (d:List AI) (t:Int) (s:ByteArray) (x:AI):Prop:=(DI x s).2=true/\BA (Bt d) (BN (AM d) x.1) t=true
def vcD (d:List AI) (s:ByteArray) (x:AI):List Int:=((AM d).getD (BN (AM d) (DI x s).1).toNat c0).2
theorem VA (hn:nE d (AM d)) {x:AI} (a:x∈d):0<=BN (AM d) x.1/\BN (AM d) x.1<((AM d).length:Int):=⟨hn.1 x a,IM _ _⟩
theorem A45 (hn:nE d (AM d)) {x:AI} (b:x∈d) {s:ByteArray} (a:(DI x s).2=true):0<=BN (AM d) (DI x s).1/\BN (AM d) (DI x s).1<((AM d).length:Int):=⟨hn.value b a,IM _ _⟩
theorem xT (d:List AI) {k:Int} (a:0<=k) (b:k<((AM d).length:Int)):((AM d).getD k.toNat c0).2∈(AM d).map λx=>x.2:=IF.2 ⟨_,BD (by omega),rfl⟩
theorem A0S (hk:GL (Bt d)) {a t:Int} (b:0<=a) (g:a<((AM d).length:Int)) (c:0<=t) (h:t<((AM d).length:Int)):La (AM d) a t=BA (Bt d) a t:=by
 have j:=dX d;have e:a<((Bt d).1.length:Int):=by omega
 have f:t<((Bt d).1.length:Int):=by omega
 have i:=hk.1.wds _ (CW b e);have wt:=hk.1.wds _ (CW c f);rw[AEa];unfold La;rw[<-Ni d b g,<-Ni d c h,Fc wt i];exact(B3 hk b e c f).symm
theorem dY (hk:GL (Bt d)) (h:Nd ((Bt d).1.map λt=>t.2.1)) (hn:nE d (AM d)) {t:Int} (p:0<=t) (q:t<((AM d).length:Int)) (s:ByteArray):∀(r:List AI) (o:List Int×Bool),(∀x∈r,x∈d)->Cd ((AM d).map λx=>x.2) o.1 ->
  Cd ((AM d).map λx=>x.2) (r.foldl (KB (AM d) t s) o).1/\((r.foldl (KB (AM d) t s) o).2=true↔o.2=true\/∃x∈r,UsD d t s x)/\∀i,BF (r.foldl (KB (AM d) t s) o).1 i=true↔BF o.1 i=true/\∀x∈r,UsD d t s x->BF (vcD d s x) i=true
 | [],o,_,g=>⟨g,by simp,λi=>by simp⟩
 | x :: r,o,n,g=>by
  rw[KL]at h;have m:JJ ((AM d).map λx=>x.2):=by have:=hk.1;rwa [KL]at this
  have w:=n x (by simp);obtain⟨n0,n1⟩:=VA hn w;have u:=A0S hk n0 n1 p q;rw[OR];by_cases hu:UsD d t s x
  ·obtain⟨v0,v1⟩:=A45 hn w hu.1;have e:KB (AM d) t s o x=(Ej o.1 (vcD d s x),true):=by
    unfold KB;rw[An]
    ·rfl
    ·rw[hu.1,u,hu.2];simp
   have v:vcD d s x∈(AM d).map λx=>x.2:=xT d v0 v1;obtain⟨h1,k,l⟩:=dY hk (by rw[KL];exact h) hn p q s r (KB (AM d) t s o x) (λy f=>n y (by simp[f])) (by rw[e];exact A9D m h g v);refine⟨h1,?_,λi=>?_⟩
   ·rw[k,e];exact⟨λ_=>.inr ⟨x,by simp,hu⟩,λ_=>.inl rfl⟩
   ·rw[l,e];simp only;rw[Qr (A44 m g) (m.wds _ v),AT];constructor
    ·rintro⟨⟨a,b⟩,c⟩;refine⟨a,λy f j=>?_⟩;rcases DO.1 f with rfl|f
     ·exact b
     ·exact c y f j
    ·rintro⟨a,b⟩;exact⟨⟨a,b x (by simp) hu⟩,λy f=>b y (by simp[f])⟩
  ·have e:KB (AM d) t s o x=o:=by
    unfold KB;rw[BY];rw[u];unfold UsD at hu;cases h1:(DI x s).2 with
    | false=>simp
    | true =>
     rw[h1]at hu;have:BA (Bt d) (BN (AM d) x.1) t=false:=by simpa using hu
     rw[this];simp
   obtain⟨h1,k,l⟩:=dY hk (by rw[KL];exact h) hn p q s r (KB (AM d) t s o x) (λy f=>n y (by simp[f])) (by rw[e];exact g);refine⟨h1,?_,λi=>?_⟩
   ·rw[k,e];constructor
    ·rintro (a|⟨y,f,a⟩)
     ·exact .inl a
     ·exact .inr ⟨y,by simp[f],a⟩
    ·rintro (a|⟨y,f,a⟩)
     ·exact .inl a
     ·rcases DO.1 f with rfl|f
      ·exact absurd a hu
      ·exact .inr ⟨y,f,a⟩
   ·rw[l,e];constructor
    ·rintro⟨a,b⟩;refine⟨a,λy f j=>?_⟩;rcases DO.1 f with rfl|f
     ·exact absurd j hu
     ·exact b y f j
    ·rintro⟨a,b⟩;exact⟨a,λy f=>b y (by simp[f])⟩
theorem Xh {b:List Int}:∀ {l:List AQ} {k:Nat},(∃x∈l,x.2=b)->∃j:Nat,j<l.length/\QX b k l=((k+j:Nat):Int)/\(l.getD j c0).2=b
 | [],k,⟨x,a,_⟩=>by cases a
 | y :: l,k,⟨x,a,e⟩=>by
  unfold QX;by_cases h:HS y.2 b=true
  ·rw[BY h];exact⟨0,by simp,rfl,by simpa[HS] using h⟩
  ·rw[An h];rcases DO.1 a with rfl|a
   ·exact absurd (by simpa[HS] using e) h
   ·obtain⟨j,h1,c,d⟩:=Xh (k:=k+1) ⟨x,a,e⟩;exact⟨j+1,by simp only[OS];omega,by rw[c];congr 1;omega,by simpa using d⟩
theorem oY {b:List Int} (h:Nrm b):BM b=b:=by
 unfold BM;have:Cj b b.length=b.length:=by
  rcases h with h|h
  ·rw[h];rfl
  ·cases e:b.length with
   | zero=>rfl
   | succ m =>
    rw[e]at h;show (if b.getD m 0=0 then Cj b m else m+1)=m+1;rw[An (by simpa using h)]
 rw[this,UE]
theorem Q9 (b:A0 d=0) {t:Int} (z:0<=t) (J:t<((AM d).length:Int)) {s:ByteArray} (hs:s∈BO d) :
  ((Fa d (AM d) t s).2=true↔∃x∈d,UsD d t s x)/\((Fa d (AM d) t s).2=true->(0<=HL (AM d) (Fa d (AM d) t s).1/\HL (AM d) (Fa d (AM d) t s).1<((AM d).length:Int)) /\
   ∀i,BF (Bb (Bt d) (HL (AM d) (Fa d (AM d) t s).1)) i=true↔∀x∈d,UsD d t s x->BF (vcD d s x) i=true):=by
 obtain⟨n,-,D,-,u⟩:=oX b;obtain⟨hk,p⟩:=A8C b;have hn:=Qk n D;have L:=wX n;have r:=Mx d;rw[U0 b]at r;have K:JJ ((AM d).map λx=>x.2):=by have:=hk.1;rwa [KL]at this
 have q:=p;rw[KL]at q;have A:=xT d (AEu 0) (by omega:(0:Int)<((AM d).length:Int));obtain⟨g,a,m⟩:=dY hk p hn z J s d (((AM d).getD 0 c0).2,false) (λx f=>f) (.inr A);have e:Fa d (AM d) t s=d.foldl (KB (AM d) t s) (((AM d).getD 0 c0).2,false):=rfl;rw[<-e]at g a m;refine⟨by rw[a];simp,λhu=>?_⟩;have E:(Fa d (AM d) t s).1≠[]:=by
  intro G;have h1:LF d (AM d) t.toNat s=true:=by
   unfold LF;rw[ADu z,hu,G];rfl
  have B:X1 d (AM d) (BO d) (AM d).length=true:=by
   unfold X1;refine UF.2 ⟨t.toNat,UM.2 (by omega),?_⟩;unfold cQ;exact UF.2 ⟨s,hs,h1⟩
  rw[B]at u;cases u
 have o:(Fa d (AM d) t s).1∈(AM d).map λx=>x.2:=g.resolve_left E;obtain⟨x,f,ex⟩:=IF.1 o;obtain⟨j,M,H,I⟩:=Xh (l:=AM d) (k:=0) ⟨x,f,ex⟩;have hf:HL (AM d) (Fa d (AM d) t s).1=(j:Int):=by
  unfold HL;rw[oY (q.nrm _ o),H];simp
 rw[hf];refine⟨⟨oF _,by omega⟩,λi=>?_⟩;rw[Ni d (oF _) (by omega),UG,I,m];constructor
 ·exact λh=>h.2
 ·intro h;refine⟨?_,h⟩;obtain⟨y,v,w⟩:=(a.1 hu).resolve_left (by simp);obtain⟨v0,v1⟩:=A45 hn v w.1;have C:=h y v w;have c:=dX d;have F:=r _ v0 (by rw[c];exact v1);have:=(B3 hk (AEu 0) (by rw[c];omega) v0 (by rw[c];exact v1)).1 F i;unfold Tb2 at this;rw[Ni d (AEu 0) (by omega),Ni d v0 v1]at this;exact this C
theorem SW {s:ByteArray}:∀ {r:List AI} {o:List ByteArray} {y:ByteArray},y∈r.foldl (HT s) o->y∈o\/∃x∈r,x.1=y/\(DI x s).2=true
 | [],_,_,h=>.inl h
 | x :: r,o,y,h=>by
  rw[OR]at h;rcases SW h with h|⟨z,b,h⟩
  ·unfold HT at h;split at h
   ·rename_i a;rcases G0 h with h|h
    ·exact .inl h
    ·exact .inr ⟨x,by simp,h.symm,a⟩
   ·exact .inl h
  ·exact .inr ⟨z,by simp[b],h⟩
theorem Xi {s:ByteArray} (h:(Df d s).2=true):∃x∈d,x.1=(Df d s).1/\(DI x s).2=true:=by
 unfold Df at h ⊢;split
 ·rename_i h1;have a:(A4 d (FZ d s)).getD 0 ByteArray.empty∈A4 d (FZ d s):=BD (by omega);exact(SW (HZ a)).resolve_left (by simp)
 ·rename_i h1;rw[An h1]at h;cases h
theorem oZ (d:List AI):eI (Ax d).1:=by
 by_cases a:A0 d=0
 ·rw[U0 a];obtain⟨j,-,l,m,-⟩:=oX a;have hn:=Qk j l;have g:=dX d;refine⟨λx b=>?_,λt f p hp=>?_⟩
  ·rw[Xg a]at b;obtain⟨s,hs,rfl⟩:=IF.1 b;obtain⟨y,n,e,-⟩:=Xi (m s hs);rw[g];show 0<=BN (AM d) (Df d s).1/\BN (AM d) (Df d s).1<((AM d).length:Int);rw[<-e];exact VA hn n
  ·obtain⟨k,hk,e⟩:=CH TN f;rw[g]at hk ⊢;have c:=A43 a (t:=(k:Int)) (oF _) (by omega);unfold c7 at c;rw[UG,e]at c;rw[c]at hp;unfold Tu at hp;obtain⟨i,hi,rfl⟩:=IF.1 hp;obtain⟨h1,h⟩:=ADv.1 hi;have h1:=UM.1 h1;exact((Q9 a (t:=(k:Int)) (oF _) (by omega) (BD h1)).2 h).1
 ·have:(Ax d).1=([],[]):=by
   unfold Ax BC;rw[BY a,BY a]
  rw[this];exact⟨λx b=>(by cases b),λt f=>(by cases f)⟩
end
structure HAp (h:AH):Prop where
 iff:∀t f,0<=t->t<(h.1.length:Int)->0<=f->f<(h.2.length:Int)->((CB h t f).2=true↔BA h (Lh h f) t=true)
 mono:∀t t' f,0<=t->t<(h.1.length:Int)->0<=t'->t'<(h.1.length:Int)->0<=f->f<(h.2.length:Int)->BA h t t'=true->(CB h t f).2=true->BA h (CB h t f).1 (CB h t' f).1=true
def VB (h:AH) (m:Nat) (u:List Int):Prop:=u.length=m/\∀t∈u,0<=t/\t<(h.1.length:Int)
theorem VB.get {h:AH} {m:Nat} {u:List Int} (hu:VB h m u) {n:Nat} (n1:n<m):0<=u.getD n 0/\u.getD n 0<(h.1.length:Int):=by
 have a:n<u.length:=by rw[hu.1];exact n1
 rw[AS,At a];exact hu.2 _ (nO a)
theorem Nq.tyl {h:AH} {m:Nat} {s:Eb} (hs:Nq h m s):VB h m s.1:=⟨hs.len,hs.ty⟩
def RY (h:AH) (m:Nat) (u v:List Int):Prop:=∀i,i<m->BA h (u.getD i 0) (v.getD i 0)=true
def o0 (h:AH) (u:List Int) (n:Int) (l:List (Int×Int)):Prop:=∀a∈l,(CB h (u.getD n.toNat 0) a.1).2=true/\BA h (CB h (u.getD n.toNat 0) a.1).1 (u.getD a.2.toNat 0)=true
def WTy (h:AH) (f:List AD) (u:List Int):Prop:=∀i,i<f.length->o0 h u (i:Int) (f.getD i (0,[])).2
theorem RY.refl {h:AH} (hk:GL h) {m:Nat} {u:List Int} (hu:VB h m u):RY h m u u:=λi hi=>Uv hk (hu.get hi).1 (hu.get hi).2
theorem RY.trans {h:AH} (hk:GL h) {m:Nat} {u v w:List Int} (hu:VB h m u) (a:VB h m v) (b:VB h m w) (h1:RY h m u v) (c:RY h m v w):RY h m u w:=λi hi =>
 Hb hk (hu.get hi).1 (hu.get hi).2 (a.get hi).1 (a.get hi).2 (b.get hi).1 (b.get hi).2 (h1 i hi) (c i hi)
theorem RY.anti {h:AH} (hi:Lq h) {m:Nat} {u v:List Int} (hu:VB h m u) (b:VB h m v) (h1:RY h m u v) (d:RY h m v u):u=v:=by
 refine YI (by rw[hu.1,b.1]) λi c e=>?_;have a:i<m:=by rw[<-hu.1];exact c
 have:=hi _ _ (hu.get a).1 (hu.get a).2 (b.get a).1 (b.get a).2 (h1 i a) (d i a)
 rwa [AS,At c,AS,At e]at this
structure xU (h:AH) (m:Nat) (s s':Eb):Prop where
 up:RY h m s.1 s'.1
 pre:s.2 <+: s'.2
 ch:∀k:Nat,k<m->s'.1.getD k 0=s.1.getD k 0\/(k:Int)∈s'.2.drop s.2.length
theorem xU.refl {h:AH} (hk:GL h) {m:Nat} {s:Eb} (hs:Nq h m s):xU h m s s:=⟨RY.refl hk hs.tyl,AAq _,λ_ _=>.inl rfl⟩
theorem SX {l l':List Int} (hp:l <+: l') {n:Nat} {x:Int} (h:x∈l.drop n):x∈l'.drop n:=by
 obtain⟨r,rfl⟩:=hp;rw[AFw];exact YC _ h
theorem RB {l:List Int} {a b:Nat} (c:a<=b) {x:Int} (h:x∈l.drop b):x∈l.drop a:=by
 have:l.drop b=(l.drop a).drop (b-a):=by rw[AEH];congr 1;omega
 rw[this]at h;exact AEc h
theorem xU.trans {h:AH} (hk:GL h) {m:Nat} {a b c:Eb} (ha:Nq h m a) (i:Nq h m b) (j:Nq h m c) (h1:xU h m a b) (d:xU h m b c):xU h m a c:=by
 refine⟨h1.up.trans hk ha.tyl i.tyl j.tyl d.up,h1.pre.trans d.pre,λk g=>?_⟩;rcases d.ch k g with f|f
 ·rcases h1.ch k g with e|e
  ·exact .inl (f.trans e)
  ·exact .inr (SX d.pre e)
 ·exact .inr (RB h1.pre.length_le f)
theorem SY {h:AH} (hk:GL h) (hi:Lq h) {m:Nat} {s c:Eb} (hs:Nq h m s) {n t:Int} (n0:0<=n) (n1:n<(m:Int)) (f:0<=t) (g:t<(h.1.length:Int)) (e:DJ h s n t=some c) :
  xU h m s c/\BA h t (c.1.getD n.toNat 0)=true:=by
 have r:=(E8 hk hi hs n0 n1 f g e).1;obtain⟨i,j⟩:=hs.get n0 n1;unfold DJ at e;split at e
 ·rename_i o;obtain⟨u,w,q,d⟩:=(Me hk i j f g).1 o;generalize (Bo h (s.1.getD n.toNat 0) t).1=v at *;injection e with e
  split at e
  ·rename_i p;subst e;exact⟨xU.refl hk hs,by rw[<-p];exact d⟩
  ·subst e;have l:n.toNat<s.1.length:=by rw[hs.len];omega
   have a:∀k:Nat,(s.1.set n.toNat v).getD k 0=if k=n.toNat then v else s.1.getD k 0:=λk=>Na _ _ _ l k
   refine⟨⟨λk b=>?_,AFg _ _,λk b=>?_⟩,?_⟩
   ·simp only;rw[a];split
    ·rename_i e;rw[e];exact q
    ·exact Uv hk (hs.tyl.get b).1 (hs.tyl.get b).2
   ·simp only;rw[a];split
    ·rename_i e;right;rw[AFw,AE3,YJ];exact AE9 _ (by simp;omega)
    ·exact .inl rfl
   ·simp only;rw[a,BY rfl];exact d
 ·cases e
theorem Z1 {h:AH} (hk:GL h) (hi:Lq h) {m:Nat} {s:Eb} (hs:Nq h m s) {n t:Int} (n0:0<=n) (n1:n<(m:Int)) (p:0<=t) (q:t<(h.1.length:Int)) {u:List Int} (hu:VB h m u) (a:RY h m s.1 u) (j:BA h t (u.getD n.toNat 0)=true) :
  ∃c,DJ h s n t=some c/\RY h m c.1 u:=by
 obtain⟨d,f⟩:=hs.get n0 n1;have b:n.toNat<m:=by omega
 obtain⟨r,v⟩:=hu.get b;obtain⟨l,o⟩:=(Me hk d f p q).2 _ r v (a _ b) j;unfold DJ;rw[BY l];refine⟨_,rfl,?_⟩;split
 ·exact a
 ·intro k g;have i:n.toNat<s.1.length:=by rw[hs.len];omega
  simp only;rw[Na _ _ _ i k];split
  ·rename_i e;rw[e];exact o
  ·exact a k g
section
variable {h:AH} (hk:GL h) (hi:Lq h) (hf:eI h) (hap:HAp h) {m:Nat} {n:Int} (n0:0<=n) (n1:n<(m:Int))
include hk hi hf n0 n1
theorem dZ:∀ {l:List (Int×Int)} {s c:Eb},(∀a∈l,Lj h m a)->Nq h m s->Mj h n l s=some c->xU h m s c/\∀a∈l,BA h (Lh h a.1) (c.1.getD n.toNat 0)=true
 | [],s,c,_,hs,e=>by
  injection e with e
  subst e;exact⟨xU.refl hk hs,λa ha=>by cases ha⟩
 | a :: l,s,c,o,hs,e=>by
  unfold Mj at e;cases g:DJ h s n (Lh h a.1) with
  | none=>rw[g]at e;cases e
  | some s1 =>
   rw[g]at e;obtain⟨⟨r,t⟩,-⟩:=o a (by simp);obtain⟨j,k⟩:=Mk hf r t;obtain⟨d,-,-⟩:=E8 hk hi hs n0 n1 j k g;obtain⟨v,w⟩:=SY hk hi hs n0 n1 j k g;have p:∀b∈l,Lj h m b:=λb f=>o b (OF _ f);have e:Mj h n l s1=some c:=e;obtain⟨q,u⟩:=dZ p d e;have i:=(Qy hk hi hf n0 n1 p d e).1;refine⟨v.trans hk hs d i q,λb f=>?_⟩;rcases DO.1 f with rfl|f
   ·exact Hb hk j k (d.get n0 n1).1 (d.get n0 n1).2 (i.get n0 n1).1 (i.get n0 n1).2 w (q.up _ (by omega))
   ·exact u b f
theorem xV:∀ {l:List (Int×Int)} {s c:Eb},(∀a∈l,Lj h m a)->Nq h m s->Np h n l s=some c->xU h m s c/\(n∈c.2.drop s.2.length\/(c.1.getD n.toNat 0=s.1.getD n.toNat 0/\∀a∈l,(CB h (s.1.getD n.toNat 0) a.1).2=true/\BA h (CB h (s.1.getD n.toNat 0) a.1).1 (c.1.getD a.2.toNat 0)=true))
 | [],s,c,_,hs,e=>by
  injection e with e
  subst e;exact⟨xU.refl hk hs,.inr ⟨rfl,λa ha=>by cases ha⟩⟩
 | a :: l,s,c,t,hs,e=>by
  unfold Np at e;split at e
  ·rename_i v;obtain⟨w,x⟩:=hs.get n0 n1;obtain⟨o,p⟩:=HE hf w x v;cases j:DJ h s a.2 (CB h (s.1.getD n.toNat 0) a.1).1 with
   | none=>rw[j]at e;cases e
   | some s1 =>
    rw[j]at e;obtain⟨-,d,b1⟩:=t a (by simp);obtain⟨g,-,-⟩:=E8 hk hi hs d b1 o p j;obtain⟨r,A⟩:=SY hk hi hs d b1 o p j;have u:∀b∈l,Lj h m b:=λb f=>t b (OF _ f);have e:Np h n l s1=some c:=e;obtain⟨q,i⟩:=xV u g e;have k:=(Uw hk hi hf n0 n1 u g e).1;refine⟨r.trans hk hs g k q,?_⟩;have y:((n.toNat:Nat):Int)=n:=ADu n0;rcases r.ch n.toNat (by omega) with c1|c1
    ·rcases i with i|⟨i,z⟩
     ·exact .inl (RB r.pre.length_le i)
     ·refine .inr ⟨i.trans c1,λb f=>?_⟩;rcases DO.1 f with rfl|f
      ·exact⟨v,Hb hk o p (g.get d b1).1 (g.get d b1).2 (k.get d b1).1 (k.get d b1).2 A (q.up _ (by omega))⟩
      ·have:=z b f
       rwa [c1]at this
    ·rw[y]at c1;exact .inl (SX q.pre c1)
  ·cases e
include hap
theorem xW {u:List Int} (hu:VB h m u):∀ {l:List (Int×Int)} {s:Eb},(∀a∈l,Lj h m a)->Nq h m s->RY h m s.1 u->(∀a∈l,(CB h (u.getD n.toNat 0) a.1).2=true)->∃c,Mj h n l s=some c/\RY h m c.1 u
 | [],s,_,_,e,_=>⟨s,rfl,e⟩
 | a :: l,s,j,hs,e,k=>by
  obtain⟨⟨f,g⟩,-⟩:=j a (by simp);obtain⟨o,p⟩:=Mk hf f g;obtain⟨v,w⟩:=hu.get (show n.toNat<m by omega);obtain⟨s1,i,h1⟩:=Z1 hk hi hs n0 n1 o p hu e ((hap.iff _ _ v w f g).1 (k a (by simp)));obtain⟨r,-,-⟩:=E8 hk hi hs n0 n1 o p i;obtain⟨c,q,t⟩:=xW hu (λb d=>j b (OF _ d)) r h1 λb d=>k b (OF _ d);exact⟨c,by unfold Mj;rw[i];exact q,t⟩
theorem xX {u:List Int} (hu:VB h m u):∀ {l:List (Int×Int)} {s:Eb},(∀a∈l,Lj h m a)->Nq h m s->RY h m s.1 u->(∀a∈l,BA h (Lh h a.1) (s.1.getD n.toNat 0)=true)->o0 h u n l->∃j,Np h n l s=some j/\RY h m j.1 u
 | [],s,_,_,f,_,_=>⟨s,rfl,f⟩
 | a :: l,s,p,hs,f,y,z=>by
  obtain⟨⟨v,w⟩,k,b1⟩:=p a (by simp);obtain⟨d,e⟩:=hs.get n0 n1;have q:n.toNat<m:=by omega
  have x:a.2.toNat<m:=by omega
  obtain⟨A,B⟩:=hu.get q;have r:=(hap.iff _ _ d e v w).2 (y a (by simp));obtain⟨g,i⟩:=HE hf d e r;obtain⟨I,J⟩:=z a (by simp);obtain⟨v0,v1⟩:=HE hf A B I;have E:=hap.mono _ _ a.1 d e A B v w (f _ q) r;obtain⟨s1,o,h1⟩:=Z1 hk hi hs k b1 g i hu f (Hb hk g i v0 v1 (hu.get x).1 (hu.get x).2 E J);obtain⟨t,-,-⟩:=E8 hk hi hs k b1 g i o;obtain⟨H,-⟩:=SY hk hi hs k b1 g i o;obtain⟨j,C,D⟩:=xX hu (λb c=>p b (OF _ c)) t h1 (λb c=>by
   obtain⟨⟨c0,c1⟩,-⟩:=p b (OF _ c);obtain⟨F,G⟩:=Mk hf c0 c1;exact Hb hk F G d e (t.get n0 n1).1 (t.get n0 n1).2 (y b (OF _ c)) (H.up _ q)) λb c=>z b (OF _ c)
  exact⟨j,by unfold Np;rw[BY r,o];exact C,D⟩
end
section
variable {h:AH} (hk:GL h) (hi:Lq h) (hf:eI h) (hap:HAp h) {f:List AD} (ha:PK h f)
include hk hi hf hap ha
theorem A46 {n:Int} (n0:0<=n) (n1:n<(f.length:Int)) {s c:Eb} (hs:Nq h f.length s) (e:Li h f n s=some c):xU h f.length s c/\(n∈c.2.drop s.2.length\/o0 h c.1 n (f.getD n.toNat (0,[])).2):=by
 have _:=hap;have g:=Ml ha n0 n1;unfold Li at e;cases d:Mj h n (f.getD n.toNat (0,[])).2 s with
 | none=>rw[d]at e;cases e
 | some s1 =>
  rw[d]at e;have i:=(Qy hk hi hf n0 n1 g hs d).1;obtain⟨j,-⟩:=dZ hk hi hf n0 n1 g hs d;have e:Np h n (f.getD n.toNat (0,[])).2 s1=some c:=e;have k:=(Uw hk hi hf n0 n1 g i e).1;obtain⟨l,b⟩:=xV hk hi hf n0 n1 g i e;refine⟨j.trans hk hs i k l,?_⟩;rcases b with b|⟨b,m⟩
  ·exact .inl (RB j.pre.length_le b)
  ·refine .inr λa ha=>?_;rw[b];exact m a ha
theorem A47 {n:Int} (n0:0<=n) (n1:n<(f.length:Int)) {s:Eb} (hs:Nq h f.length s) {u:List Int} (hu:VB h f.length u) (d:o0 h u n (f.getD n.toNat (0,[])).2) (j:RY h f.length s.1 u):∃e,Li h f n s=some e/\RY h f.length e.1 u:=by
 have b:=Ml ha n0 n1;obtain⟨s1,c,h1⟩:=xW hk hi hf hap n0 n1 hu b hs j λa ha=>(d a ha).1;have k:=(Qy hk hi hf n0 n1 b hs c).1;obtain⟨-,l⟩:=dZ hk hi hf n0 n1 b hs c;obtain⟨s2,g,i⟩:=xX hk hi hf hap n0 n1 hu b k h1 l d;exact⟨s2,by unfold Li;rw[c];exact g,i⟩
def ADd (h:AH) (f:List AD) (i:Nat) (s:Eb):Prop:=∀n:Nat,n<f.length->o0 h s.1 (n:Int) (f.getD n (0,[])).2\/(n:Int)∈s.2.drop i
theorem A7D {n:Nat} (hn:n<f.length) {s d:Eb} (hs:Nq h f.length s) (i:Nq h f.length d) (j:xU h f.length s d) (p:o0 h s.1 (n:Int) (f.getD n (0,[])).2):o0 h d.1 (n:Int) (f.getD n (0,[])).2\/(n:Int)∈d.2.drop s.2.length:=by
 have _:=hap;have _:=hi;have o:∀a∈(f.getD n (0,[])).2,Lj h f.length a:=ha _ (AE f (0,[]) hn);rcases j.ch n hn with c|c
 ·left;intro a g;obtain⟨e,k⟩:=p a g;obtain⟨-,b,b1⟩:=o a g;rw[UG]at e k ⊢;rw[c];obtain⟨l,m⟩:=hs.tyl.get hn;obtain⟨q,r⟩:=HE hf l m e;exact⟨e,Hb hk q r (hs.get b b1).1 (hs.get b b1).2 (i.get b b1).1 (i.get b b1).2 k (j.up _ (by omega))⟩
 ·exact .inr c
theorem xY:∀ {k i:Nat} {s:Eb} {ty:List Int},Nq h f.length s->ADd h f i s->wlF h f k i s=some ty->WTy h f ty/\RY h f.length s.1 ty/\VB h f.length ty
 | 0,_,_,_,_,_,e=>by cases e
 | k+1,i,s,ty,hs,hp,e=>by
  unfold wlF at e;split at e
  ·rename_i d;have p:=AE s.2 (0:Int) d;obtain⟨n0,n1⟩:=hs.wt _ p;generalize hn:s.2.getD i 0=n at *;cases c:Li h f n s with
   | none=>rw[c]at e;cases e
   | some s1 =>
    rw[c]at e;have g:=(XB hk hi hf ha n0 n1 hs c).1;obtain⟨j,b⟩:=A46 hk hi hf hap ha n0 n1 hs c;have r:ADd h f (i+1) s1:=by
     intro m l;rcases hp m l with q|a
     ·rcases A7D hk hi hf hap ha l hs g j q with h1|h1
      ·exact .inl h1
      ·exact .inr (RB (by omega) h1)
     ·have t:s.2.drop i=n :: s.2.drop (i+1):=by
       rw[TO d,<-hn,AS,At d];rfl
      rw[t]at a;rcases DO.1 a with a|a
      ·rcases b with b|b
       ·exact .inr (by rw[a];exact RB (by omega) b)
       ·left;rw[a];have:n.toNat=m:=by omega
        rw[this]at b;exact b
      ·exact .inr (SX j.pre a)
    have e:wlF h f k (i+1) s1=some ty:=e;obtain⟨u,v,o⟩:=xY g r e;exact⟨u,j.up.trans hk hs.tyl g.tyl o v,o⟩
  ·rename_i d;injection e with e
   subst e;refine⟨λn hn=>?_,RY.refl hk hs.tyl,hs.tyl⟩;rcases hp n hn with h1|h1
   ·exact h1
   ·rw[By (by omega)]at h1;cases h1
theorem A48 {u:List Int} (hu:VB h f.length u) (d:WTy h f u):∀ {k i:Nat} {s:Eb},Nq h f.length s->i<=s.2.length->Zi h s.1+s.2.length+1<=k+i->RY h f.length s.1 u->∃ty,wlF h f k i s=some ty/\RY h f.length ty u
 | 0,i,s,hs,j,l,b=>by omega
 | k+1,i,s,hs,j,l,b=>by
  unfold wlF;by_cases a:i<s.2.length
  ·rw[BY a];obtain⟨n0,n1⟩:=hs.wt _ (AE s.2 (0:Int) a);have e:=d (s.2.getD i 0).toNat (by omega);rw[ADu n0]at e;obtain⟨s1,c,h1⟩:=A47 hk hi hf hap ha n0 n1 hs hu e b;obtain⟨g,m,n⟩:=XB hk hi hf ha n0 n1 hs c;rw[c];exact A48 hu d g (by omega) (by omega) h1
  ·rw[An a];exact⟨s.1,rfl,b⟩
theorem o4 (a:∀x∈f,0<=x.1/\x.1<(h.1.length:Int)) {ty:List Int} (e:IZ h f=some ty):WTy h f ty/\RY h f.length (Bd f) ty/\VB h f.length ty:=by
 have e:wlF h f (OJ h f) 0 (Bd f,Eg f)=some ty:=e;refine xY hk hi hf hap ha (k:=OJ h f) (i:=0) (s:=(Bd f,Eg f)) (A3w a) (λn hn=>.inr ?_) e;rw[YJ];exact IF.2 ⟨n,UM.2 hn,rfl⟩
theorem kE (b:∀x∈f,0<=x.1/\x.1<(h.1.length:Int)) {u:List Int} (hu:VB h f.length u) (c:WTy h f u) (a:RY h f.length (Bd f) u):∃ty,IZ h f=some ty/\RY h f.length ty u :=
 A48 hk hi hf hap ha hu c (k:=OJ h f) (i:=0) (s:=(Bd f,Eg f)) (A3w b) (IS _) (A3x h f) a
end
inductive Up (d:List AI) (m:ByteArray):ByteArray->Prop
 | base {x:ByteArray}:AY m x=true->Up d m x
 | step {x s:ByteArray} {y:AI}:y∈d->AY y.1 x=true->AZ y.2.1 s=true->Up d m s->Up d m x
section
variable {d:List AI}
theorem Xj {m x y:ByteArray} (h:Up d m x) (e:AY x y=true):Up d m y:=by
 cases h with
 | base h=>exact .base (BX h e)
 | step h1 a b c=>exact .step h1 (BX a e) b c
theorem A9F {c x s:ByteArray} (h:Up d c x) {y:AI} (f:y∈d) (e:AY y.1 c=true) (hs:AZ y.2.1 s=true):Up d s x:=by
 induction h with
 | base h=>exact .step f (BX e h) hs (.base (Cv s))
 | step h1 a b i g=>exact .step h1 a b g
theorem RC {a b c:ByteArray} (h1:Up d a b) (i:Up d b c):Up d a c:=by
 induction i with
 | base h=>exact Xj h1 h
 | step e f g k j=>exact .step e f g j
theorem A7E {m a x:ByteArray} (e:AY a m=true) (h:Up d m x):Up d a x:=RC (.base e) h
theorem A7F (hn:Cm d=0) (f:d.length<=(Bk d).length) {m x:ByteArray} (h:Up d m x):AY m x=true\/GS d m<GS d x:=by
 induction h with
 | base h=>exact .inl h
 | step h1 c e g a =>
  right;have b:=LA hn f h1 e;rw[IK d c]at b;rcases a with a|a
  ·rw[IK d a];exact b
  ·omega
theorem A49 {o:List ByteArray} {s t:ByteArray} (h:t∈J8 o s):t∈o\/t=s:=by
 unfold J8 at h;split at h
 ·exact .inl h
 ·rcases No.1 h with h|h
  ·exact .inl h
  ·exact .inr (by simpa using h)
theorem Z2:∀ {l o:List ByteArray} {t:ByteArray},t∈l.foldl J8 o->t∈o\/t∈l
 | [],_,_,h=>.inl h
 | s :: l,o,t,h=>by
  rw[OR]at h;rcases Z2 h with h|h
  ·rcases A49 h with h|h
   ·exact .inl h
   ·exact .inr (by simp[h])
  ·exact .inr (by simp[h])
theorem A0T {s:ByteArray} (h:0<=Au d s):d.getD (Au d s).toNat d0∈d/\AY (d.getD (Au d s).toNat d0).1 s=true:=by
 rcases DU d s with g|⟨b,c,a⟩
 ·omega
 ·exact⟨BD (by omega),a⟩
theorem Z3 (hs:QR d) {x:ByteArray}:∀ {n i:Nat} {o:List ByteArray},(∀t∈o,0<=Au d t/\Up d t x)->∀t∈IE d n i o,0<=Au d t/\Up d t x
 | 0,_,_,b=>b
 | n+1,i,o,b=>by
  unfold IE;split
  ·rename_i hi;refine Z3 hs λt a=>?_;rcases Z2 a with a|a
   ·exact b t a
   ·obtain⟨c1,c2⟩:=b _ (BD (d:=ByteArray.empty) hi);obtain⟨c,e⟩:=A0T c1;exact⟨hs _ c t a,A9F c2 c e (Fv a)⟩
  ·exact b
theorem Z4 {l:List ByteArray} {t:ByteArray} (h:t∈J9 l):t∈l:=(WP (o:=[]) h).resolve_left (by simp)
theorem A4a (hs:QR d) {x t:ByteArray} (b:0<=Au d x) (h:AZ (Kz d x) t=true):Up d t x:=by
 obtain⟨u,hu,e⟩:=UF.1 h;unfold Kz at hu;rw[An (by omega)]at hu;have:=(Z3 hs (x:=x) (n:=d.length) (i:=0) (o:=[x]) (λt a=>by
  have:t=x:=by simpa using a
  subst this;exact⟨b,.base (Cv _)⟩) u (Z4 hu)).2
 exact A7E (D8 e) this
theorem Z5 {m:ByteArray}:∀ {n i:Nat} {o:List ByteArray},(∀t∈o,Up d m t)->∀t∈Cn d n i o,Up d m t
 | 0,_,_,a=>a
 | n+1,i,o,a=>by
  unfold Cn;split
  ·rename_i hi;have f:=a _ (BD (d:=ByteArray.empty) hi);generalize o.getD i ByteArray.empty=c at *;have key:∀(l:List AI) (o:List ByteArray),(∀y∈l,y∈d)->(∀t∈o,Up d m t)->∀t∈l.foldl (Y1 c) o,Up d m t:=by
    intro l;induction l with
    | nil=>exact λo _ a=>a
    | cons y l j =>
     intro o e a;rw[OR];refine j _ (λz g=>e z (by simp[g])) λt b=>?_;unfold Y1 at b;split at b
     ·rename_i h;rw[AT]at h;rcases No.1 b with b|b
      ·exact a t b
      ·have:t=y.1:=by simpa using b
       subst this;exact .step (e y (by simp)) (Cv _) h.1 f
     ·exact a t b
   exact Z5 (key d o (λ_ h=>h) a)
  ·exact a
theorem Xk {m x:ByteArray} (h:AZ (Co d m) x=true):Up d m x:=by
 obtain⟨u,hu,e⟩:=UF.1 h;unfold Co at hu;split at hu
 ·cases hu
 ·exact Xj (Z5 (m:=m) (n:=d.length) (i:=0) (o:=[m]) (λt a=>by
   have:t=m:=by simpa using a
   subst this;exact .base (Cv _)) u (Z4 hu)) e
theorem Xl {m x:ByteArray} (u:0<=Au d m) (h:Up d m x):AZ (Co d m) x=true:=by
 have q:cC d [m]:=⟨λs hs=>by
  have:s=m:=by simpa using hs
  rw[this];exact u,by simp⟩
 obtain⟨k,v,D⟩:=Xb (d:=d) (n:=d.length) (i:=0) q (by omega) (λj t=>by omega) (by omega);have A:m∈Cn d d.length 0 [m]:=LB (by simp);have r:Co d m=J9 (Cn d d.length 0 [m]):=by unfold Co;rw[An (by omega)]
 rw[r];generalize Cn d d.length 0 [m]=o at *;have key:AZ o x=true:=by
  induction h with
  | base h=>exact UF.2 ⟨m,A,h⟩
  | step h1 l p C B =>
   obtain⟨z,c,a⟩:=UF.1 B;obtain⟨j,t,rfl⟩:=CH ByteArray.empty c;obtain⟨s,y,f⟩:=UF.1 p;obtain⟨w,b,g⟩:=UF.1 (v j (by omega) _ h1 (UF.2 ⟨s,y,BX f (D8 a)⟩));exact UF.2 ⟨w,b,BX g l⟩
 obtain⟨z,c,e⟩:=UF.1 key;obtain⟨w,b,a⟩:=UF.1 (Qg (o:=[]) c);exact UF.2 ⟨w,b,BX a e⟩
theorem Z6:∀ {l o:List ByteArray} {x:ByteArray},AZ o x=true->AZ (l.foldl (FT d) o) x=true
 | [],_,_,h=>h
 | s :: l,o,x,h=>by
  rw[OR];refine Z6 ?_;unfold FT;split
  ·exact KA (λz a=>NV a) h
  ·exact h
theorem RD:∀ {l o:List ByteArray} {x:ByteArray},x∈l->0<=Au d x->AZ (l.foldl (FT d) o) x=true
 | s :: l,o,x,h,a=>by
  rw[OR];rcases DO.1 h with rfl|h
  ·refine Z6 ?_;unfold FT;rw[BY a];exact Qf
  ·exact RD h a
theorem OO:∀ {l o:List ByteArray},(∀x∈o,0<=Au d x)->∀x∈l.foldl (FT d) o,0<=Au d x
 | [],_,b=>b
 | s :: l,o,b=>by
  rw[OR];refine OO λx a=>?_;unfold FT at a;split at a
  ·rcases G0 a with a|rfl
   ·exact b x a
   ·assumption
  ·exact b x a
theorem A9G {l:List ByteArray} (h:xB l) {i j:Nat} (hi:i<l.length) (a:j<l.length) (d:i≠j):AY (l.getD i ByteArray.empty) (l.getD j ByteArray.empty)=false:=by
 have c:∀k (h:k<l.length),l.getD k ByteArray.empty=l[k]:=λk h=>by rw[AS,At h];rfl
 rw[c i hi,c j a];rcases Nat.lt_or_gt_of_ne d with b|b
 ·exact(UK.1 h) i j hi a b
 ·exact Mf ((UK.1 h) j i a hi b)
theorem RE:∀ {l o:List ByteArray},xB o->(∀s∈l,∀x∈o,AY x s=false)->xB l->xB (l.foldl (FT d) o)
 | [],_,h,_,_=>h
 | s :: l,o,h,b,f=>by
  rw[OR];have e:=UW.1 f;refine RE ?_ (λy c x a=>?_) e.2
  ·unfold FT;split
   ·exact Ws h (b s (by simp))
   ·exact h
  ·unfold FT at a;split at a
   ·rcases G0 a with a|rfl
    ·exact b y (by simp[c]) x a
    ·exact e.1 y c
   ·exact b y (by simp[c]) x a
theorem A0U (hn:Cm d=0) (s:ByteArray):xB (FZ d s):=by
 have key:∀(r:List AI) (o:List ByteArray),xB o->(∀y∈r,∀x∈o,AY x y.1=false)->r.Pairwise (λa b=>AY a.1 b.1=false)->xB (r.foldl (HT s) o):=by
  intro r;induction r with
  | nil=>exact λo h _ _=>h
  | cons y r q =>
   intro o h f hp;rw[OR];have l:=UW.1 hp;refine q _ ?_ (λz g x c=>?_) l.2
   ·unfold HT;split
    ·exact Ws h (f y (by simp))
    ·exact h
   ·unfold HT at c;split at c
    ·rcases G0 c with c|rfl
     ·exact f z (by simp[g]) x c
     ·exact l.1 z g
    ·exact f z (by simp[g]) x c
 refine key d [] .nil (λy _ x c=>by cases c) (UK.2 λi j hi k t=>?_);cases e:AY d[i].1 d[j].1 with
 | false=>rfl
 | true =>
  have h1:=MZ hn hi;have p:=MZ hn k;have m:d.getD i d0=d[i]:=by rw[AS,At hi];rfl
  have n:d.getD j d0=d[j]:=by rw[AS,At k];rfl
  rw[m,JE d e]at h1;rw[n]at p;omega
theorem SZ (r:A7 d=0) {l:List ByteArray} (t:xB l) {x:ByteArray} (g:x∈l) (w:0<=Au d x):∃m∈A4 d l,Up d m x:=by
 obtain⟨hs,C,-,hn,A⟩:=A1 r;have z:∀y∈Bc d l,0<=Au d y:=OO λy c=>by cases c
 obtain⟨q,n,ex⟩:=UF.1 (RD (d:=d) (o:=[]) g w);have n:q∈Bc d l:=n;have v:xB (Bc d l):=RE .nil (λs _ x g=>by cases g) t;have u:A4 d l=QV d (Bc d l) (Bc d l).length:=rfl;rw[u];generalize Bc d l=all at *;have key:∀(k:Nat) (y:ByteArray),GS d y<k->y∈all->Up d y x->∃m∈QV d all all.length,Up d m x:=by
  intro k;induction k with
  | zero=>exact λy h=>by omega
  | succ k B =>
   intro y D c hu;obtain⟨i,hi,rfl⟩:=CH ByteArray.empty c;by_cases a:QU d all i all.length=true
   ·exact⟨_,IF.2 ⟨i,ADv.2 ⟨UM.2 hi,a⟩,rfl⟩,hu⟩
   ·have a:QU d all i all.length=false:=by simpa using a
    unfold QU at a;obtain⟨j,b,hf⟩:=ADW.1 a;have b:=UM.1 b;unfold wQ at hf;simp only[UU,YD,UB,not_or,Bool.not_eq_false]at hf;obtain⟨f,ha⟩:=hf;have f:j≠i:=λe=>f (by rw[e]);have p:=A4a hs (z _ c) ha;rcases A7F hn A p with e|e
    ·exact absurd e (by rw[A9G v b hi f];simp)
    ·exact B _ (by omega) (BD b) (RC p hu)
 exact key _ q (AF2 _) n (.base ex)
theorem LN {s:ByteArray} (hs:s∈AO d):0<=Au d s:=by
 obtain⟨x,a,rfl⟩:=Dd hs;exact Db a
theorem RF {x:AI} (a:x∈d) (hn:Cm d=0):x.1∈AO d:=by
 obtain⟨s,hs,e⟩:=UF.1 (O3 a);obtain⟨y,b,rfl⟩:=Dd hs;rw[<-Qd hn b a e];exact hs
theorem A7G (b:A7 d=0) {m x:ByteArray} (c:0<=Au d m) (h:Up d m x) {i:Nat} (hi:BF (Ey d (AO d) x) i=true):BF (Ey d (AO d) m) i=true:=by
 obtain⟨-,j,-,hn,k⟩:=A1 b;have e:=D7 d d.length;rw[UE]at e;have a:(AO d).length<=4096:=by omega
 obtain⟨f,g⟩:=(B9 (d:=d) a x i).1.1 hi;exact(B9 (d:=d) a m i).1.2 ⟨f,Xl c (RC h (Xk g))⟩
end
section
variable {d:List AI}
def Dc (d:List AI) (c:List Int):Prop:=IJ c/\∀i j,BF c i=true->j<(AO d).length->Up d ((AO d).getD i ByteArray.empty) ((AO d).getD j ByteArray.empty)->BF c j=true
theorem A9H:Dc d []:=⟨λx a=>(by cases a),λi j hi=>by unfold BF at hi;simp at hi⟩
theorem A9I {a b:List Int} (ha:Dc d a) (c:Dc d b):Dc d (Ej a b) :=
 ⟨Qs ha.1 c.1,λi j hi e hu=>by
  rw[Qr ha.1 c.1,AT]at hi ⊢;exact⟨ha.2 i j hi.1 e hu,c.2 i j hi.2 e hu⟩⟩
theorem A7H {l:List (List Int)} (h:∀c∈l,Dc d c) (k:Nat):Dc d (l.getD k []):=by grind [BD,SF,A9H]
theorem A7I {l:List (List Int)} (h:∀c∈l,Dc d c) (i k:Nat):∀c∈Gf l i k,Dc d c:=by grind [Gf,Ej,A9I,A7H]
theorem xZ {i:Nat}:∀ {n k:Nat} {l:List (List Int)},(∀c∈l,Dc d c)->∀c∈Gg i n k l,Dc d c
 | 0,_,_,h=>h
 | n+1,k,l,h=>by
  unfold Gg;split
  ·exact xZ (A7I h i k)
  ·exact h
theorem x5:∀ {n i:Nat} {l:List (List Int)},(∀c∈l,Dc d c)->∀c∈IG n i l,Dc d c
 | 0,_,_,h=>h
 | n+1,i,l,h=>by
  unfold IG;split
  ·exact x5 (xZ h)
  ·exact h
theorem TZ (a:A7 d=0):(AO d).length<=4096:=by
 obtain⟨-,c,-⟩:=A1 a;have b:=D7 d d.length;rw[UE]at b;omega
theorem A7J (a:A7 d=0) {s:ByteArray} (hs:0<=Au d s):Dc d (Ey d (AO d) s):=by
 have b:=TZ a;refine⟨(B9 (d:=d) b s 0).2.1,λi j hi c hu=>?_⟩;grind [B9,Xl,RC,Xk]
theorem A9J (a:A7 d=0):∀c∈Ay (AX d),Dc d c:=x5 λc b=>by
 obtain⟨s,hs,rfl⟩:=IF.1 b;exact A7J a (LN hs)
theorem x6 {all:List ByteArray} {codes:List (List Int)} {b:List Int} {u:ByteArray}:∀ {m i:Nat} {l:List ByteArray},wT d all codes b m i l=.inl u->∃j,i<=j/\j<i+m/\DT (codes.getD j []) b=true/\u=all.getD j ByteArray.empty
 | 0,_,_,h=>by cases h
 | m+1,i,l,h=>by
  unfold wT at h;split at h
  ·grind
  ·obtain⟨j,e,f,a,c⟩:=x6 h;exact⟨j,by omega,by omega,a,c⟩
theorem x7 {all:List ByteArray} {codes:List (List Int)} {b:List Int} {r:List ByteArray}:∀ {m i:Nat} {l:List ByteArray},wT d all codes b m i l=.inr r->(∀j,i<=j->j<i+m->DT (codes.getD j []) b=false)/\r=l++((List.range' i m).filter λj:Nat=>Ts b (j:Int)).map λj=>all.getD j ByteArray.empty
 | 0,i,l,h=>by grind [wT]
 | m+1,i,l,h=>by
  unfold wT at h;split at h
  ·cases h
  ·rename_i f;obtain⟨c,a⟩:=x7 h;refine⟨λj h1 e=>?_,?_⟩
   ·grind
   ·rw[a,AFu,dO];grind
theorem x8 {a b:ByteArray} {x:UInt8}:x∈(a++b).toList↔x∈a.toList\/x∈b.toList:=by
 rw[ByteArray.toList_eq,ByteArray.toList_eq,ByteArray.toList_eq];simp
theorem A0V {l:List ByteArray}:∀ {n:Nat},2<=n->(38:UInt8)∈(Qh l n).toList
 | n+1,hn=>by
  rw[O4];unfold ZN;rw[BY (by omega)];rw[x8,x8]
  simp_all
theorem o5 (hn:Cm d=0) {s:ByteArray} (hs:s∈AO d):(38:UInt8)∉s.toList:=by
 obtain⟨x,g,rfl⟩:=Dd hs;obtain⟨j,c,e⟩:=CH d0 g;have h1:=(JF (d:=d) (r:=d) (k:=0) hn j c).2;rw[e]at h1;intro a;unfold Ew at h1;rw[AT,Is]at h1;rw[ByteArray.toList_eq]at a;obtain⟨k,hk,h⟩:=AAd.1 a;have f:k<x.1.data.size:=by simpa using hk
 have:=h1.2 k (UM.2 f);unfold chr at this;have b:x.1.data.getD k 0=38:=by simp_all
 rw[b]at this;revert this;decide
theorem A0W (h:A7 d=0) {y:AQ} (V:y∈AM d) (hf:JJ (Ay (AX d))) {s:ByteArray} (hs:s∈AO d) (e:AY y.1 s=true):y.2=Ey d (AO d) s:=by
 obtain⟨ah,ab,-,hn,af⟩:=A1 h;have o:=TZ h;have L:Nd (Ay (AX d)):=Ut (SG h);have ae:(AX d).length=(AO d).length:=by simp[AX]
 have M:AX d <+: Ay (AX d):=Qp 257 0 (AX d);have U:∀ {t:ByteArray},t∈AO d->AY t s=true->t=s:=λ{t} x e=>by grind [Dd,Qd]
 have heq:∀j,j<(AO d).length->∀b∈Ay (AX d),DT ((AX d).getD j []) b=true->b=Ey d (AO d) ((AO d).getD j ByteArray.empty):=λj R b f p=>by
  have g:(AX d).getD j []∈Ay (AX d):=M.subset (BD (by omega));unfold DT at p;rw[AT,Fc (hf.wds _ g) (hf.wds b f),Fc (hf.wds b f) (hf.wds _ g)]at p;rw[<-JG d R];refine nW (hf.wds b f) (hf.wds _ g) (L.nrm b f) (L.nrm _ g) λi=>?_;rw[AEa];exact⟨p.2 i,p.1 i⟩
 obtain⟨b,f,rfl⟩:=De.1 V;show b=_;have e:AY (G2 d (AO d) (AX d) b) s=true:=e;unfold G2 at e;cases w:wT d (AO d) (AX d) b (AO d).length 0 [] with
 | inl u =>
  rw[w]at e;obtain⟨j,-,C,X,rfl⟩:=x6 w;rw[ADK]at C;rw[<-U (BD C) e];exact heq j C b f X
 | inr l =>
  exfalso;rw[w]at e;have e:AY (iH (A4 d l)) s=true:=e;obtain⟨O,D⟩:=x7 w;rw[AE0]at D;have N:=hf.wds b f;have v:∀i,i<(AO d).length->BF b i=true->(AO d).getD i ByteArray.empty∈l:=λi hi ad=>by grind [Uz]
  have K:∀t∈l,∃i,i<(AO d).length/\t=(AO d).getD i ByteArray.empty/\BF b i=true:=λt x=>by grind [Uz]
  have T:(List.range' 0 (AO d).length).map (λj=>(AO d).getD j ByteArray.empty)=AO d:=by
   apply YI
   ·simp
   ·intro i ai W;simp[AS,W]
  have E:xB l:=by
   rw[D];have:=Wu hn;rw[<-T]at this;exact this.sublist (List.filter_sublist.map _)
  obtain⟨z,r⟩:=hf.some b f;have B:∀i,BF b i=true->i<(AO d).length:=by
   have:=dV (q:=(AO d).length) (n:=257) (i:=0) (l:=AX d) (λc Q=>by
    obtain⟨t,x,rfl⟩:=IF.1 Q;exact⟨(B9 (d:=d) o t 0).2.1,λi hi=>((B9 (d:=d) o t i).1.1 hi).1⟩) b f
   exact this.2
  have F:∀t∈l,0<=Au d t:=λt x=>by
   obtain⟨i,hi,rfl,-⟩:=K t x;exact LN (BD hi)
  obtain⟨m,g,-⟩:=SZ h E (v z (B z r) r) (F _ (v z (B z r) r));have ag:0<(A4 d l).length:=AEP g;have S:iH (A4 d l)=Qh (A4 d l) (A4 d l).length:=rfl;rw[S]at e;by_cases h1:(A4 d l).length=1
  ·obtain⟨k,H,rfl,P⟩:=K m (HZ g);have G:DT ((AX d).getD k []) b=true:=by
    have J:(AX d).getD k []∈Ay (AX d):=M.subset (BD (by omega));unfold DT;rw[AT,Fc (hf.wds _ J) N,Fc N (hf.wds _ J),JG d H];refine⟨λi hi=>?_,λi hi=>?_⟩
    ·obtain⟨Z,aa⟩:=(B9 (d:=d) o _ i).1.1 hi;exact(A9J h b f).2 k i P Z (Xk aa)
    ·have A:=B i hi;obtain⟨Y,I,hu⟩:=SZ h E (v i A hi) (F _ (v i A hi));have:Y=(AO d).getD k ByteArray.empty:=by
      obtain⟨a,ha⟩:=ADS.1 h1;rw[ha]at g I;rw[YB.1 I,YB.1 g]
     rw[this]at hu;exact(B9 (d:=d) o _ i).1.2 ⟨A,Xl (LN (BD H)) hu⟩
   rw[O k (IS _) (by omega)]at G;cases G
  ·grind [A0V,A4,Hg,o5]
theorem Z7 (s:ByteArray):∀(l:List AQ) (k:Nat),0<=MW s k l->∃j,j<l.length/\MW s k l=((k+j:Nat):Int)/\AY (l.getD j c0).1 s=true
 | [],k,h=>by simp only[MW]at h;omega
 | x :: l,k,h=>by
  simp only[MW]at h ⊢;split
  ·grind
  ·rename_i e;rw[An e]at h;obtain⟨j,c,a,b⟩:=Z7 s l (k+1) h;exact⟨j+1,by simp only[OS];omega,by rw[a];congr 1;omega,by simpa using b⟩
theorem A4b (a:A7 d=0) (hf:JJ (Ay (AX d))) {s:ByteArray} (hs:s∈AO d):((AM d).getD (BN (AM d) s).toNat c0).2=Ey d (AO d) s:=by
 have h0:0<=BN (AM d) s:=G7 a (Fv hs);grind [Z7,AM,BN,A0W,BD]
theorem Z8 {s:ByteArray} (hn:Cm d=0):∀ {r:List AI} {o:List ByteArray} {x:AI},(∀y∈r,y∈d)->x∈d->((∃z∈o,AY z x.1=true)\/(x∈r/\(DI x s).2=true))->∃z∈r.foldl (HT s) o,AY z x.1=true
 | [],o,x,_,_,h=>h.resolve_right λg=>by cases g.1
 | y :: r,o,x,f,i,h=>by
  rw[OR];refine Z8 hn (λz c=>f z (by simp[c])) i ?_;rcases h with ⟨z,c,e⟩|⟨a,b⟩
  ·grind [HT,NV]
  ·rcases DO.1 a with rfl|a
   ·left;unfold HT;rw[BY b];exact UF.1 (Qf (l:=o) (s:=x.1))
   ·exact .inr ⟨a,b⟩
theorem Z9 (f:Int):∀(a b:List (Int×Int)),EK f (a++b)=if (EK f a).2=true then EK f a else EK f b
 | [],_=>rfl
 | x :: a,b=>by
  have h1:EK f (x :: a++b)=if x.1=f then (x.2,true) else EK f (a++b):=rfl
  have c:EK f (x :: a)=if x.1=f then (x.2,true) else EK f a:=rfl
  rw[h1,c];split
  ·rfl
  ·exact Z9 f a b
theorem x9 (l:List AQ) (fs:List ByteArray) (t:Nat) (f:Int):∀n,EK f (Tu d l fs t n)=if 0<=f/\f<(n:Int)/\(Fa d l (t:Int) (fs.getD f.toNat ByteArray.empty)).2=true then (HL l (Fa d l (t:Int) (fs.getD f.toNat ByteArray.empty)).1,true) else (0,false)
 | 0=>by
  rw[An (by omega)];rfl
 | n+1=>by
  rw[ZT,Z9,x9 l fs t f n];grind [Fa,EK]
theorem Xm (c:A0 d=0) {t f:Int} (e:0<=t) (g:t<((AM d).length:Int)) (a:0<=f) (b:f<((BO d).length:Int)):CB (Bt d) t f=if (Fa d (AM d) t ((BO d).getD f.toNat ByteArray.empty)).2=true then (HL (AM d) (Fa d (AM d) t ((BO d).getD f.toNat ByteArray.empty)).1,true) else (0,false):=by
 unfold CB;grind [A43,x9,Fa,AM,BO]
theorem A7K (c:A0 d=0) {f:Int} (a:0<=f) (b:f<((BO d).length:Int)):Lh (Bt d) f=BN (AM d) (Df d ((BO d).getD f.toNat ByteArray.empty)).1:=by grind [Lh,Xg,BO,Ql]
theorem ADe (b:A0 d=0):HAp (Bt d):=by
 obtain⟨j,-,T,F,-⟩:=oX b;obtain⟨u,-,-⟩:=CE b;obtain⟨-,U,-⟩:=BZ u;have al:=Wp j U;obtain⟨ao,ak,-,hn,am⟩:=A1 j;obtain⟨hk,an⟩:=A8C b;have I:=Qk j T;have n:=dX d;have hF:(Bt d).2.length=(BO d).length:=by rw[Xg b,Of]
 have E:∀s∈AO d,Bb (Bt d) (BN (AM d) s)=Ey d (AO d) s:=λs hs=>by grind [Ni,G7,Fv,IM,A4b]
 refine⟨λt f g l k c=>?_,λt w f g l A ai k c X q=>?_⟩
 ·rw[n]at l;rw[hF]at c;have hs:=BD (d:=ByteArray.empty) (show f.toNat<(BO d).length by omega);rw[Xm b g l k c,A7K b k c];generalize (BO d).getD f.toNat ByteArray.empty=s at *;obtain⟨v,-⟩:=Q9 b g l hs;obtain⟨aj,aa,S,Y⟩:=Xi (F s hs);have hi:(if (Fa d (AM d) t s).2=true then (HL (AM d) (Fa d (AM d) t s).1,true) else ((0:Int),false)).2=true↔(Fa d (AM d) t s).2=true:=by
   split<;>simp[*]
  rw[hi,v];constructor
  ·rintro⟨x,a,Z,W⟩;have hint:=F s hs;unfold Df at hint ⊢;split at hint
   ·rename_i h1;rw[BY h1];obtain⟨ap,V⟩:=ADS.1 h1;obtain⟨z,u,C⟩:=Z8 (d:=d) (s:=s) hn (r:=d) (o:=[]) (λy ad=>ad) a (.inr ⟨a,Z⟩);have ae:0<=Au d z:=by rw[JE d C];exact Db a
    obtain⟨m,p,hu⟩:=SZ j (A0U hn s) u ae;have hu:=Xj hu C;have e:(A4 d (FZ d s)).getD 0 ByteArray.empty=m:=by
     rw[V]at p ⊢;rw[YB.1 p];rfl
    rw[show ((A4 d (FZ d s)).getD 0 ByteArray.empty,true).1=m from e];obtain⟨ar,K,B,-⟩:=(SW (HZ p)).resolve_left (by simp);have H:m∈AO d:=by rw[<-B];exact RF K hn
    have ab:=RF a hn;obtain⟨n0,n1⟩:=VA I a;have L:0<=BN (AM d) m:=G7 j (Fv H);have aq:=IM (AM d) m;refine Hb hk L (by omega) n0 (by omega) g (by omega) ((B3 hk L (by omega) n0 (by omega)).2 λi hi=>?_) W;unfold Tb2 at hi ⊢;rw[E x.1 ab]at hi;rw[E m H];exact A7G j (by rw[<-B];exact Db K) hu hi
   ·cases hint
  ·intro h;rw[<-S]at h;exact⟨aj,aa,Y,h⟩
 ·have M:t<((AM d).length:Int):=by omega
  have N:w<((AM d).length:Int):=by omega
  rw[hF]at c;have hs:=BD (d:=ByteArray.empty) (show f.toNat<(BO d).length by omega);rw[Xm b g M k c]at q ⊢;rw[Xm b A N k c];generalize (BO d).getD f.toNat ByteArray.empty=s at *;obtain⟨v,af⟩:=Q9 b g M hs;obtain⟨ag,ah⟩:=Q9 b A N hs;have hi:(Fa d (AM d) t s).2=true:=by
   split at q
   ·assumption
   ·cases q
  have J:∀x∈d,UsD d t s x->UsD d w s x:=λx a hu=>by
   obtain⟨n0,n1⟩:=VA I a;exact⟨hu.1,Hb hk n0 (by omega) g l A ai hu.2 X⟩
  have G:(Fa d (AM d) w s).2=true:=by
   obtain⟨x,a,hu⟩:=v.1 hi;exact ag.2 ⟨x,a,J x a hu⟩
  rw[BY hi,BY G];obtain⟨⟨O,P⟩,Q⟩:=af hi;obtain⟨⟨R,b1⟩,b2⟩:=ah G;refine(B3 hk O (by rw[n];exact P) R (by rw[n];exact b1)).2 λi D=>?_;unfold Tb2 at D ⊢;exact(Q i).2 λx a hu=>(b2 i).1 D x a (J x a hu)
theorem o6 (d:List AI):HAp (Ax d).1:=by
 by_cases a:A0 d=0
 ·rw[U0 a];exact ADe a
 ·have:(Ax d).1=([],[]):=by
   unfold Ax BC;rw[BY a,BY a]
  rw[this];exact⟨λt f c b=>by simp at b;omega,λt e f c b=>by simp at b;omega⟩
end
theorem My (d:List AI):(Ax d).1.1.length<=256/\(Ax d).1.2.length<=64:=by
 unfold Ax;split
 ·exact⟨by simp,by simp⟩
 ·rename_i a;have a:(BC d).2=0:=Do a;have b:A0 d=0:=by
   unfold BC at a;split at a
   ·rename_i h;exact absurd a h
   ·rename_i h;exact Do h
  obtain⟨f,c,-⟩:=CE b;obtain⟨-,e,-⟩:=BZ f;refine⟨?_,?_⟩
  ·show (Ee _ _ _).length<=256;rw[KE,IL];exact e
  ·show (ET d).1.length<=64;unfold ET;rw[An (by rw[b];simp)];show ((BO d).map (Ql d)).length<=64;rw[Of];exact c
theorem kF {H:AH} (q:H.1.length<=256) (r:H.2.length<=64) {f:List AD} (h:cW H f=true):AW f/\KG f/\0<f.length/\Dv H f/\EA f=true/\f.length<=12/\∀x∈f,∀a∈x.2,0<=a.1/\a.1<(H.2.length:Int):=by
 unfold cW at h;rw[AT,YD]at h;obtain⟨l,c⟩:=h;unfold BP at c;split at c
 ·rename_i h1;exact absurd c h1
 ·rename_i h1;split at c
  ·cases c
  ·rename_i e;split at c
   ·cases c
   ·rename_i i;have h1:(BG f).2=0:=Do h1;have e:f.all (Us H)=true:=by simpa using e
    have i:Cy f (BG f).1=0:=by simpa using i
    have k:EA f=true:=by
     unfold EA;simp only[AT,YD];refine⟨⟨l,?_⟩,h1,?_⟩
     ·rw[Is]at e ⊢;intro x d;have:=e x d;unfold Us at this;rw[AT,Fe,Is]at this;unfold ndB;rw[AT,Fe,Is];refine⟨by omega,λa ha=>?_⟩;have:=this.2 a ha;unfold w4 at this;rw[Fe]at this;unfold ftB;rw[Fe];omega
     ·rw[<-JM i];exact EW f
    obtain⟨n,o,p,-⟩:=Mn k;have g:CJ f=0:=by
     unfold BG at h1;split at h1
     ·rename_i hh;exact hh
     ·exact h1
    have m:HA (f.length:Int) f=0:=by
     unfold CJ at g;split at g
     ·cases g
     ·split at g
      ·cases g
      ·exact g
    refine⟨n,o,p,λx d=>?_,k,(JH l).1,λx d a ha=>?_⟩
    ·have b:=Is.1 e x d;unfold Us at b;rw[AT,Fe]at b;exact⟨(IV m x d).1,b.1⟩
    ·have b:=Is.1 e x d;unfold Us at b;rw[AT,Is]at b;have j:=b.2 a ha;unfold w4 at j;rw[Fe]at j;exact⟨((IV m x d).2 a ha).1,j⟩
theorem Xn {f:List AD} (hf:AW f):Cz f:=⟨hf.1,λx a=>(hf.2 x a).1⟩
structure k9 (h:AH):Prop where
 ok:GL h
 inj:Lq h
 ft:eI h
 nrm:A9C h
 ap:HAp h
 b1:h.1.length<=256
 b2:h.2.length<=64
theorem RG (d:List AI):k9 (Ax d).1:=⟨JK d,i7 d,oZ d,λt a=>(Xe d).nrm _ (IF.2 ⟨t,a,rfl⟩),o6 d,(My d).1,(My d).2⟩
theorem h14 (d:List AI):k9 (w5 d):=by
 unfold w5;split
 ·exact RG d
 ·exact RG Cw
theorem Sa {f:List AD} {ty:List Int} {x:AD} (b:x∈FC f ty):∃i,i<f.length/\x=(ty.getD i 0,(f.getD i (0,[])).2):=by
 obtain⟨i,hi,rfl⟩:=List.getElem_of_mem b;have a:i<f.length:=by rw[Du]at hi;exact hi
 refine⟨i,a,?_⟩;rw[<-Hi f ty a,AS,At hi];rfl
theorem KM {α:Type} {f:List α} {i:Nat} (h:i<f.length) (d:α):f.getD i d∈f:=by
 rw[AS,At h];exact nO _
def HP (p:List Int) (n:Nat):List AD:=(List.range n).map λ(i:Nat)=>((0:Int),[(p.getD i 0,(i:Int)+1)])
def A6 (p:List Int) (g:List AD):List AD:=HP p p.length++g.map λx=>(x.1,Aj p.length x.2)
theorem kG (p:List Int) (n:Nat):HP p (n+1)=HP p n++[((0:Int),[(p.getD n 0,(n:Int)+1)])]:=by simp[HP,YF]
theorem Ib (p:List Int) (n:Nat):(HP p n).length=n:=by simp[HP]
def FtP (h:AH) (p:List Int):Prop:=∀e∈p,0<=e/\e<(h.2.length:Int)
theorem A9K {l:List (Int×Int)} (h:Nr l) {e:Int} (c:0<=Dh l e):YN l e=Dh l e:=by
 obtain⟨a,ha,b,d⟩:=Q3 c;rw[<-b,xL h ha,Mq h ha]
theorem A4c {f:List AD} (hf:AW f) (h0:0<f.length) (p:List Int):∀n,EL f 0 p=some n->0<=n/\n<(f.length:Int):=by
 induction p using EV with
 | h0 =>
  intro n h;simp only[EL,tO]at h;omega
 | h1 p e g =>
  intro n h;obtain⟨x,d,a,ha,c,b⟩:=A0H h;rw[<-b];exact BE hf ha
theorem A9L {f:List AD} (hf:AW f) (hs:KG f) (h0:0<f.length) (a:EA f=true):RO f:=by
 have h1:=A7r hf hs h0 (λ_ _=>true)
 rwa [oK a λ_ _ _ _=>rfl]at h1
theorem A4d {h:AH} (j:h.1.length<=256) (k:h.2.length<=64) {f:List AD} (l:cW h f=true):VF h f/\f.length<=12:=by
 obtain⟨a,b,c,e,d,g,i⟩:=kF j k l;exact⟨⟨a,c,e,λx m=>(Ia _).1 (b x m).1,i,OL d,A9L a b c d⟩,g⟩
theorem VF.srt {h:AH} (hu:HU h) {f:List AD} (a:VF h f):KG f:=λx b=>by
 have:=XZ (a.str x b) (a.ft64 hu x b);exact⟨(Ia _).2 (a.str x b),by omega⟩
theorem VF.small {h:AH} {f:List AD} (a:VF h f):Cz f:=Xn a.good
theorem d5 {h:AH} (a b:List AD):(∃c,XV h a b c/\Ec h a b=(c,true))\/(Ec h a b=([],false)/\∀c,¬XV h a b c):=by
 unfold Ec;by_cases H:∃c,XV h a b c
 ·left;rw[dif_pos H];exact⟨_,H.choose_spec,rfl⟩
 ·right;rw[dif_neg H];exact⟨rfl,λc d=>H ⟨c,d⟩⟩
theorem Ic (f:List AD) (ty:List Int) (n:Nat):((FC f ty).getD n (0,[])).2=(f.getD n (0,[])).2:=by
 by_cases h:n<f.length
 ·rw[Hi f ty h]
 ·rw[AS,UJ (by rw[Du];omega),AS,UJ (by omega)]
theorem kH {f g:List AD} (h:∀n:Nat,(f.getD n (0,[])).2=(g.getD n (0,[])).2):∀(k:Nat) (o:List Int) (n:Int),DK f k o n=DK g k o n
 | 0,_,_=>rfl
 | k+1,o,n=>by
  have e:Ad f k=Ad g k:=by
   funext o a;unfold Ad;rw[kH h k o a.2]
  rw[CK,CK,h,e]
theorem o7 {f:List AD} (hf:AW f) (h0:0<f.length) (a:AN f 0=f):j6 f:=by
 have:=(dL hf (r:=0) (by omega) (by omega)).2
 rwa [a]at this
theorem A4e {h:AH} {f:List AD} (b:VF h f) {ty:List Int} (k:VB h f.length ty):VF h (FC f ty):=by
 have c:=Du f ty;have g:AW (FC f ty):=by
  refine⟨by rw[c];exact b.good.1,λx a=>?_⟩;obtain⟨i,hi,rfl⟩:=Sa a;rw[c];exact b.good.2 (f.getD i (0,[])) (KM hi (0,[]))
 have hp:∀x∈FC f ty,∃y∈f,x.2=y.2:=λx a=>by
  obtain⟨i,hi,rfl⟩:=Sa a;exact⟨_,KM hi (0,[]),rfl⟩
 refine⟨g,by rw[c];exact b.pos,λx a=>?_,λx a=>?_,λx a=>?_,XT g ?_,λi l m=>?_⟩
 ·obtain⟨i,hi,rfl⟩:=Sa a;exact k.get hi
 ·obtain⟨y,d,e⟩:=hp x a;rw[e];exact b.str y d
 ·obtain⟨y,d,e⟩:=hp x a;rw[e];exact b.ft y d
 ·have:=o7 b.good b.pos b.can;unfold j6 at this ⊢;rw[c,kH (Ic f ty)];exact this
 ·obtain⟨j,n,o,x,a,e⟩:=b.ro i l (by rw[<-c];exact m);exact⟨j,n,o,x,by show x∈((FC f ty).getD j.toNat (0,[])).2;rw[Ic];exact a,e⟩
theorem EE (f:List AD) (i:Nat):(Bd f).getD i 0=(f.getD i (0,[])).1:=by
 unfold Bd;rw[AS,iS,AS];cases f[i]?<;>rfl
theorem o8 {f:List AD} {ty:List Int} (a:ty.length=f.length):Bd (FC f ty)=ty:=by
 refine YI (by simp[Bd,Du,a]) λi b c=>?_;have:=EE (FC f ty) i;rw[Hi f ty (by omega)]at this;simpa[AS,b,c] using this
theorem Ta {h:AH} {f:List AD} {t:Int}:∀ {l:List (Int×Int)},FG h f t l=0↔∀a∈l,(CB h t a.1).2=true/\BA h (CB h t a.1).1 (f.getD a.2.toNat (0,[])).1=true
 | []=>⟨λ_ a ha=>(by cases ha),λ_=>rfl⟩
 | a :: l=>by
  unfold FG;rw[List.forall_mem_cons,<-Ta (l:=l)];cases h1:(CB h t a.1).2
  ·simp
  ·cases b:BA h (CB h t a.1).1 (f.getD a.2.toNat (0,[])).1<;>simp
theorem OP {h:AH} {f:List AD}:∀ {l:List AD},Dt h f l=0↔∀x∈l,∀a∈x.2,(CB h x.1 a.1).2=true/\BA h (CB h x.1 a.1).1 (f.getD a.2.toNat (0,[])).1=true
 | []=>⟨λ_ a ha=>(by cases ha),λ_=>rfl⟩
 | x :: l=>by
  unfold Dt;rw[List.forall_mem_cons,<-OP (l:=l),<-Ta];by_cases h1:FG h f x.1 x.2=0
  ·simp[h1]
  ·simp[h1]
theorem A7L {h:AH} {f:List AD}:Dt h f f=0↔WTy h f (Bd f):=by
 rw[OP];constructor
 ·intro h1 i hi a ha;have:=h1 _ (KM hi (0,[])) a ha
  rwa [EE,EE,UG]
 ·intro h1 x b a ha;obtain⟨i,hi,rfl⟩:=CH (0,[]) b;have:=h1 i hi a ha
  rwa [EE,EE,UG]at this
section
variable {h:AH} (hh:k9 h)
include hh
theorem k9.hu:HU h:=⟨hh.ok,hh.inj,hh.b2⟩
omit hh in
theorem d6 {f:List AD} (b:VF h f):PK h f:=λx c a ha=>⟨b.ft x c a ha,(b.good.2 x c).2 a ha⟩
theorem kI {f:List AD} (a:VF h f) {ty:List Int} (e:IZ h f=some ty):VF h (FC f ty)/\WTy h f ty/\VB h f.length ty/\OM h f (FC f ty) id:=by
 obtain⟨h1,g,d⟩:=o4 hh.ok hh.inj hh.ft hh.ap (d6 a) a.ty e;refine⟨A4e a d,h1,d,rfl,λi b c=>⟨b,by rw[Du];exact c⟩,λi b c=>?_,λi b c x j=>?_⟩
 ·have:=g i.toNat (by omega);rw[EE]at this;show BA h _ ((FC f ty).getD i.toNat (0,[])).1=true
  rwa [Hi f ty (by omega)]
 ·show Dh ((FC f ty).getD i.toNat (0,[])).2 x.1=x.2;rw[Ic];exact A9s (a.srt hh.hu) j
theorem yA {f g:List AD} (n:VF h f) (p:VF h g) (E:WTy h g (Bd g)) {m:Int->Int} (c:OM h f g m):∃ty,IZ h f=some ty/\OM h (FC f ty) g m:=by
 have H:=p.pos
 let u:List Int:=(List.range f.length).map λi:Nat=>(g.getD (m (i:Int)).toNat (0,[])).1
 have k:∀i:Nat,i<f.length->u.getD i 0=(g.getD (m (i:Int)).toNat (0,[])).1:=λi hi=>by
  simp[u,AS,hi]
 have q:∀i:Nat,i<f.length->(m (i:Int)).toNat<g.length/\0<=m (i:Int):=λi hi=>by
  have:=c.rng (i:Int) (by omega) (by omega);omega
 have D:VB h f.length u:=⟨by simp[u],λt C=>by
  obtain⟨i,hi,rfl⟩:=IF.1 C;exact p.ty _ (KM (q i (UM.1 hi)).1 (0,[]))⟩
 have F:WTy h f u:=λi hi a ha=>by
  have z:a∈AR f (i:Int):=by show a∈(f.getD (i:Int).toNat (0,[])).2;rwa [UG]
  have h1:=c.arc (i:Int) (by omega) (by omega) a z;obtain⟨s,G⟩:=(n.good.2 _ (KM hi (0,[]))).2 a ha;have y:=c.rng a.2 s G;obtain⟨b,A,v,w⟩:=Q3 (l:=AR g (m (i:Int))) (e:=a.1) (by rw[h1];exact y.1);have o:=E _ (q i hi).1 b (by exact A);rw[EE,EE,v,w,h1,UG]at o;rw[UG,k i hi,k a.2.toNat (by omega),ADu s];exact o
 obtain⟨ty,e,B⟩:=kE hh.ok hh.inj hh.ft hh.ap (d6 n) n.ty D F λi hi=>by
  rw[EE,k i hi];have:=c.ty (i:Int) (by omega) (by omega)
  rwa [UG]at this
 refine⟨ty,e,c.zero,λi j d=>c.rng i j (by rw[Du]at d;exact d),λi j d=>?_,λi j d x r=>?_⟩
 ·rw[Du]at d;have:=B i.toNat (by omega);rw[k _ (by omega),ADu j]at this
  rwa [Hi f ty (by omega)]
 ·rw[Du]at d;exact c.arc i j d x (by rw[AR,Ic]at r;exact r)
omit hh in
theorem A0X {f:List AD} (e:Ai h f=0):WTy h f (Bd f):=by
 unfold Ai at e
 split at e
 ·exact A7L.1 e
 ·rename_i hn;exact absurd e hn
end
theorem Tc {h:AH} {f:List AD} {ty:List Int} (e:IZ h f=some ty):Gj h f=(FC f ty,true):=by unfold Gj;rw[e]
theorem Td {h:AH} {f:List AD} (e:IZ h f=none):Gj h f=([],false):=by unfold Gj;rw[e]
theorem VB.set {h:AH} {m:Nat} {u:List Int} (hu:VB h m u) {t:Int} (b:0<=t) (c:t<(h.1.length:Int)) (i:Nat):VB h m (u.set i t):=⟨by rw[YG];exact hu.1,λx a=>by
 rcases AE6 a with a|rfl
 ·exact hu.2 x a
 ·exact⟨b,c⟩⟩
theorem RY.set {h:AH} (hk:GL h) {m:Nat} {u:List Int} (hu:VB h m u) {t:Int} {i:Nat} (hi:i<m) (hs:BA h (u.getD i 0) t=true):RY h m u (u.set i t):=λk a=>by
 rw[Na _ _ _ (by rw[hu.1];exact hi) k];split
 ·rename_i e;rw[e];exact hs
 ·exact Uv hk (hu.get a).1 (hu.get a).2
section
variable {h:AH} (hk:GL h) (hn:A9C h) (hi:Lq h) (hf:eI h) (hap:HAp h) {m:Nat}
include hk hn hi hf hap
end
section
variable {h:AH} (hk:GL h) (hn:A9C h) (hi:Lq h) (hf:eI h) (hap:HAp h) {f:List AD} (ha:PK h f)
include hk hn hi hf hap ha
end
section
attribute [local go_sem] OH
end
section
open Go
end
section
noncomputable def Sb:Aa:={ ins:=[ER,Da,Da],pre:=λ(h,a,b,_)=>HU h/\VF h a/\VF h b/\List.length a+List.length b<=10000,out:=λ(h,a,b,_)=>[.p Da (Ec h a b).1,.p .bool (Ec h a b).2] }
attribute [local go_sem] Sb
theorem A4f:Ab Tryz.prog 35 Sb:=by
 refine fK [0,1,2,3,4,5,6,7,8,25] Tryz.func35 Tryz.ntmps35 AG ?_;rintro w0 O0 ⟨h,a,b,u⟩ c-⟨hu,va,e,G⟩;simp only[Sb,AL];repeat'(first|exact trivial|refine eS rfl ?_|refine rX c ?_ ?_)
 refine cP 3 c ?_ ?_
 ·trivial
 ·refine rM c (A3M h [] [] [] a va.good (by simp) rfl rfl) [(1,.nm 11),(2,.nil),(3,.nil),(4,.nil)] [] ?_ ?_ ?_
  ·exact eN
  ·simp only[Zs];exact eN
  ·rintro _ _ ⟨rfl,rfl⟩;refine⟨[(11,.nm 1),(102,.nm 2),(103,.nm 3),(104,.nm 4)],.raw (.tuple #[]),[(11,.box 111 true [.p ER h,.sr 102 T3 0 (Cq 0 a.length).length,.sr 103 T3 0 (DL a a.length).length,.sr 104 DS 0 (Fz 0 a a.length).length]),(102,.arr 3 T3 (Cq 0 a.length)),(103,.arr 3 T3 (DL a a.length)),(104,.arr 91 DS (Fz 0 a a.length))],rfl,rfl,?_,?_,rfl,rfl,CR ?_⟩
   ·simp only[Zs];exact eN
   ·exact eN
   ·have la:(Cq 0 a.length).length=a.length:=KK 0 a.length;have lt:(DL a a.length).length=a.length:=by unfold DL;rw[Of,UE]
    have J:(Fz 0 a a.length).length=a.length:=by unfold Fz;rw[Of,UE]
    repeat' refine eS rfl ?_
    refine cP 3 c ?_ ?_
    ·trivial
    ·refine rM c (A3M h (Cq 0 a.length) (DL a a.length) (Fz 0 a a.length) b e.good (by omega) (by omega) (by omega)) [(1,.nm 11),(2,.nm 102),(3,.nm 103),(4,.nm 104)] [102,103,104] ?_ ?_ ?_
     ·exact eN
     ·simp only[Zs];exact eN
     ·rintro _ _ ⟨rfl,rfl⟩;rw[la,A0M,oU,A0O];rw[show a.length+b.length=(Cc a b).length from (FA a b).symm];have F:=FA a b;have w:=PQ va.good e.good (by omega);have z:=dT w (XX va.ty e.ty) (Nh va.str e.str);have o:=XY (va.ft64 hu) (e.ft64 hu);have I:=oV (N:=Cc a b) λx l=>XZ (Nh va.str e.str x l) (o x l);have hap:=va.pos;have H:=e.pos;have C:=λp ty ar y j=>dQ va e (p:=p) (ty:=ty) (ar:=ar) y j;have A:=Zy va e;generalize Cq 0 (Cc a b).length=p0 at *;generalize Mw (Cc a b)=s at *;generalize TY (Cc a b)=q at *;refine⟨[(11,.nm 1),(102,.nm 2),(103,.nm 3),(104,.nm 4)],.raw (.tuple #[]),[(11,.box 111 true [.p ER h,.sr 102 T3 0 p0.length,.sr 103 T3 0 s.length,.sr 104 DS 0 q.length]),(102,.arr 3 T3 p0),(103,.arr 3 T3 s),(104,.arr 91 DS q)],rfl,rfl,?_,?_,rfl,rfl,CR ?_⟩
      ·simp only[Zs];exact eN
      ·exact eN
      ·repeat' refine eS rfl ?_
       refine cP 4 c ?_ ?_
       ·trivial
       ·refine rM c (A7w h hu.ok z (a:=0) (b:=(a.length:Int)) (by omega) (by omega) (by omega) (by omega)) [(101,.nm 11),(102,.nm 102),(103,.nm 103),(104,.nm 104)] [102,103,104] ?_ ?_ ?_
        ·exact eN
        ·simp only[xP];exact eN
        ·rintro res E (⟨rfl,f,i,g,rfl,d⟩|⟨rfl,⟨f,i,g,rfl⟩,B⟩)
         ·have j:=Xa d (by omega) o;have n:=TW hu (C f i g d j);refine⟨[(11,.nm 101),(102,.nm 102),(103,.nm 103),(104,.nm 104)],.p .bool true,[(11,.box 111 true [.p ER h,.sr 102 T3 0 f.length,.sr 103 T3 0 i.length,.sr 104 DS 0 g.length]),(102,.arr 3 T3 f),(103,.arr 3 T3 i),(104,.arr 91 DS g)],rfl,rfl,?_,?_,rfl,rfl,?_⟩
          ·simp only[xP];exact eN
          ·exact eN
          ·refine rL c ?_ ?_
           ·trivial
           ·repeat'(first|refine eS rfl ?_|refine rC ?_ ?_<;>intro m<;>try(cases m;done))
            refine cP 1 c ?_ ?_
            ·trivial
            ·refine rM c (A3U h d.fo j (by rw[d.lt,d.lp]) (by rw[d.la,d.lp]) (λk x l=>by rw[d.lp];exact(d.arr k x l).1) (r:=0) (by omega) (by rw[d.lp];omega)) [(101,.nm 11),(102,.nm 102),(103,.nm 103),(104,.nm 104)] [11,102,103,104] ?_ ?_ ?_
             ·exact eN
             ·simp only[xP];exact eN
             ·rintro _ E rfl;refine⟨[],.p Da (AN (quo f i g) (Ek f 0)),[],rfl,rfl,?_,?_,rfl,rfl,?_⟩
              ·exact eN
              ·exact eN
              ·refine rL c ?_ ?_
               ·trivial
               ·repeat' refine eS rfl ?_
                exact fI c [.cell 6 25,.tmp 7] (by rw[n];exact eR)
         ·have n:=A (λX v t D=>B X v t D);refine⟨[(11,.nm 101),(102,.nm 102),(103,.nm 103),(104,.nm 104)],.p .bool false,[(11,.box 111 true [.p ER h,.sr 102 T3 0 f.length,.sr 103 T3 0 i.length,.sr 104 DS 0 g.length]),(102,.arr 3 T3 f),(103,.arr 3 T3 i),(104,.arr 91 DS g)],rfl,rfl,?_,?_,rfl,rfl,?_⟩
          ·simp only[xP];exact eN
          ·exact eN
          ·refine rL c ?_ ?_
           ·trivial
           ·repeat'(first|exact trivial|refine eS rfl ?_|refine rX c ?_ ?_|refine rC ?_ ?_<;>intro m<;>try(cases m;done))
            exact fI c [.cell 6 25,.tmp 7] (by rw[n];exact eR)
end
section
open Go
end
section
open Go
end
section
variable {h:AH} {N:List AD} {P:List (Int×Int)} {c p:List Int} {g:List AD}
end
section
variable {h:AH} {a b:List AD}
end
section
open Go
end
section
attribute [local go_sem] A41
end
section
attribute [local go_sem] Sb SL
theorem A9M {h:AH} (hh:k9 h) {f:List AD} (a:VF h f):A9r h f:=⟨hh.ok,hh.inj,hh.ft,UD hh.b2 (by decide),a.good,d6 a,a.ty⟩
noncomputable def HQ (h:AH) (a b:List AD):List AD×Bool:=if (Ec h a b).2=true then Gj h (Ec h a b).1 else ([],false)
end
theorem A4g {h:AH} (hk:GL h) {N:List AD} {P:List (Int×Int)}:∀(k:Nat) (p ty:List Int) (ar:List (List (Int×Int))) (W:List (Int×Int)),JI h N P p ty ar W->nR p*((DA N).length+1)+W.length<=k ->
  (∃E G o,JI h N P E G o [])\/(∀X v,Dv h X->¬eJ h N P X v):=by
 intro k;induction k with
 | zero =>
  intro p ty ar W c g;have:W=[]:=UL (by omega);subst this;exact .inl ⟨p,ty,ar,c⟩
 | succ k l =>
  intro p ty ar W c g;cases j:W.getLast? with
  | none =>
   have:W=[]:=List.getLast?_eq_none_iff.1 j;subst this;exact .inl ⟨p,ty,ar,c⟩
  | some w =>
   have r:W=W.dropLast++[w]:=by
    obtain⟨K,e⟩:=List.getLast?_eq_some_iff.1 j;rw[e];simp
   obtain⟨s,t⟩:=w;rw[r]at c g;rw[GO,To]at g;generalize W.dropLast=V at *;obtain⟨⟨m,s1⟩,n,F⟩:=c.wr (s,t) (by simp);simp only at m s1 n F;obtain⟨M,fo⟩:=c.fo;have lp:=c.lp;obtain⟨a,ha,H,I⟩:=fo.root m (by omega);obtain⟨b,d,q,b1⟩:=fo.root n (by omega);by_cases f:a=b
   ·subst f;exact l p ty ar V (dI c ha d) (by omega)
   ·cases i:(Bo h (ty.getD a.toNat 0) (ty.getD b.toNat 0)).2 with
    | false =>
     right;intro X v u C;have:=(Uy hk c ha d u C).2.1;rw[i]at this;cases this
    | true =>
     have z:=XJ hk c ha d f i;refine l _ _ _ _ z ?_;have B:=xO (a:=a) q b1 d.root f;have A:=dJ (c.srt a.toNat) (λx D=>(c.arr a.toNat x D).2);have L:=UD (Q7 (x:=ar.getD a.toNat []) (y:=ar.getD b.toNat [])) A;have J:nR p*((DA N).length+1)=nR (p.set b.toNat a)*((DA N).length+1)+((DA N).length+1):=by rw[<-B,AET,Nat.one_mul]
     rw[GO];omega
theorem aA {h:AH} (hk:GL h) {N:List AD}:∀(R P:List (Int×Int)) (p ty:List Int) (ar:List (List (Int×Int))),(∀q∈R,(0<=q.1/\q.1<(N.length:Int))/\(0<=q.2/\q.2<(N.length:Int)))->JI h N P p ty ar [] ->
  (∃l r g,JI h N (P++R) l r g [])\/(∀X v,Dv h X->¬eJ h N (P++R) X v)
 | [],P,p,ty,ar,f,e=>.inl ⟨p,ty,ar,by rw[UO];exact e⟩
 | q :: R,P,p,ty,ar,f,e=>by
  obtain⟨a,b⟩:=q;have c:=f (a,b) (by simp);have i:P++(a,b) :: R=P++[(a,b)]++R:=by simp
  rw[i];rcases A4g hk _ _ _ _ _ (XK e c.1 c.2) (NO _) with ⟨m,o,n,h1⟩|k
  ·exact aA hk R (P++[(a,b)]) m o n (λq c=>f q (by simp[c])) h1
  ·exact .inr λX v j d=>k X v j ⟨d.rng,d.ty,d.arc,λq c=>d.eq q (YC _ c)⟩
theorem A7M {h:AH} (hu:HU h) {a b X:List AD} (va:VF h a) (c:VF h b) (l:a.length+b.length<=100000) (j:Dv h X) {n o:Int->Int} (h1:OM h a X n) (f:OM h b X o):∃i,XV h a b i:=by
 have r:=FA a b;have hap:=va.pos;have s:=c.pos;have k:=PQ va.good c.good l;rcases aA hu.ok (N:=Cc a b) [(0,(a.length:Int))] [] _ _ _ (λq d=>by
  have e:q=(0,(a.length:Int)):=by simpa using d
  subst e;simp only;omega) (dT k (XX va.ty c.ty) (Nh va.str c.str)) with ⟨p,ty,ar,g⟩|m
 ·exact⟨_,dQ va c g (Xa g (by omega) (XY (va.ft64 hu) (c.ft64 hu)))⟩
 ·exfalso;refine m X _ j (oT (XR va.good c.good (Nf h1) (Nf f)) λq d=>?_);have e:q=(0,(a.length:Int)):=by simpa using d
  subst e;try simp only
  rw[BY (by omega),An (by omega),Int.sub_self,h1.zero,f.zero]
section
attribute [local go_sem] Sb KF cs1 cs3
end
section
attribute [local go_sem] ZZ
end
instance baDec:DecidableEq ByteArray:=λa b =>
 if h:a.data.toList=b.data.toList then isTrue (by
  cases a
  cases b
  exact ADx ByteArray.mk (Array.toList_inj.1 h))
 else isFalse λe=>h (by rw[e])
section
attribute [local go_sem] SL Q0 ZZ Jk
end
section
attribute [local go_sem] Jk
end
abbrev Wt (h:AH) (f:List AD):Prop:=VF h f/\WTy h f (Bd f)
def yB (h:AH) (l:List (List AD)) (X:List AD):Prop:=∀x∈l,∃m,OM h x X m
structure TU (h:AH) (l:List (List AD)) (U:List AD):Prop where
 wt:Wt h U
 hom:yB h l U
 least:∀X,Wt h X->yB h l X->∃m,OM h U X m
def Mz (h:AH) (l:List (List AD)) (r:List AD×Bool):Prop:=(r.2=true/\TU h l r.1)\/(r=([],false)/\∀X,Wt h X->¬yB h l X)
theorem Mz.congr {h:AH} {l l':List (List AD)} {r:List AD×Bool} (H:Mz h l r) (d:∀X,Wt h X->(yB h l X↔yB h l' X)):Mz h l' r:=by
 rcases H with ⟨h1,a⟩|⟨h1,a⟩
 ·exact .inl ⟨h1,a.wt,(d _ a.wt).1 a.hom,λX b c=>a.least X b ((d X b).2 c)⟩
 ·exact .inr ⟨h1,λX b c=>a X b ((d X b).2 c)⟩
theorem A4h {h:AH} (hk:GL h) {l:List (List AD)} (c:∀x∈l,VF h x) {a X:List AD} (d:VF h a) (e:VF h X) (f:yB h l a) {m:Int->Int} (g:OM h a X m):yB h l X:=λx b=>by
 obtain⟨k,q⟩:=f x b;exact⟨_,Mu hk (c x b).good (c x b).ty d.ty e.ty q g⟩
theorem Hc {h:AH} {x X:List AD}:yB h [x] X↔∃m,OM h x X m:=by simp[yB]
theorem Xo {h:AH} {x X:List AD} {l:List (List AD)}:yB h (x :: l) X↔(∃m,OM h x X m)/\yB h l X:=by simp[yB]
section
variable {h:AH} (hh:k9 h)
include hh
theorem A9N {f:List AD} (c:VF h f) {ty:List Int} (e:IZ h f=some ty):Wt h (FC f ty):=by
 obtain⟨h1,a,b,-⟩:=kI hh c e;refine⟨h1,?_⟩;rw[o8 b.1];intro i hi;rw[Ic];exact a i (by rw[<-Du f ty];exact hi)
theorem A7N {f:List AD} (c:VF h f):Mz h [f] (Gj h f):=by
 cases e:IZ h f with
 | some ty =>
  rw[Tc e];refine .inl ⟨rfl,A9N hh c e,Hc.2 ⟨_,(kI hh c e).2.2.2⟩,λX b d=>?_⟩;obtain⟨m,g⟩:=Hc.1 d;obtain⟨i,a,q⟩:=yA hh c b.1 b.2 g;rw[e]at a;cases a;exact⟨m,q⟩
 | none =>
  rw[Td e];refine .inr ⟨rfl,λX b d=>?_⟩;obtain⟨m,g⟩:=Hc.1 d;obtain⟨i,a,q⟩:=yA hh c b.1 b.2 g;rw[e]at a;cases a
theorem yC {a b:List AD} (va:VF h a) (k:VF h b) (q:a.length+b.length<=10000):Mz h [a,b] (HQ h a b):=by
 unfold HQ;rcases d5 (h:=h) a b with ⟨l,c,e⟩|⟨e,p⟩
 ·rw[e,BY rfl];refine(A7N hh c.vf).congr λX g=>?_;rw[Hc,Xo,Hc];constructor
  ·rintro⟨m,o⟩;obtain⟨i,d⟩:=c.left;obtain⟨j,f⟩:=c.right;exact⟨⟨_,Mu hh.ok va.good va.ty c.vf.ty g.1.ty d o⟩,_,Mu hh.ok k.good k.ty c.vf.ty g.1.ty f o⟩
  ·rintro⟨⟨i,d⟩,j,f⟩;exact c.least X g.1.ty i d j f
 ·rw[e,An Bool.false_ne_true];refine .inr ⟨rfl,λX g n=>?_⟩;rw[Xo,Hc]at n;obtain⟨⟨i,d⟩,j,f⟩:=n;obtain⟨l,c⟩:=A7M hh.hu va k (by omega) g.1.ty d f;exact p l c
omit hh in
theorem A4i {l l':List (List AD)} (hp:∀x,x∈l↔x∈l') (X:List AD):yB h l X↔yB h l' X:=⟨λa x b=>a x ((hp x).2 b),λa x b=>a x ((hp x).1 b)⟩
omit hh in
theorem Mz.perm {l l':List (List AD)} {r:List AD×Bool} (H:Mz h l r) (hp:∀x,x∈l↔x∈l'):Mz h l' r:=H.congr λX _=>A4i hp X
omit hh in
theorem d7 {a b:List AD}:(HQ h a b).1.length<=a.length+b.length:=by
 unfold HQ
 split
 ·rename_i e
  have:=(TX e).len
  cases c:IZ h (Ec h a b).1 with
  | none=>rw[Td c];simp
  | some ty=>rw[Tc c,Du];exact this
 ·simp
omit hh in
theorem Mz.vf {l:List (List AD)} {r:List AD×Bool} (H:Mz h l r) (e:r.2=true):TU h l r.1:=by
 rcases H with ⟨-,b⟩|⟨a,-⟩
 ·exact b
 ·rw[a]at e;cases e
end
theorem Gk (p:List Int) (g:List AD):(A6 p g).length=p.length+g.length:=by simp[A6,HP]
theorem Te {p:List Int} {g:List AD} {i:Int} (a:0<=i) (b:i<(p.length:Int)):(A6 p g).getD i.toNat (0,[])=(0,[(p.getD i.toNat 0,i+1)]):=by grind [A6,Ib,HP]
theorem RH {p:List Int} {g:List AD} {y:Int} (a:0<=y) (b:y<(g.length:Int)):(A6 p g).getD ((p.length:Int)+y).toNat (0,[])=((g.getD y.toNat (0,[])).1,Aj p.length (g.getD y.toNat (0,[])).2):=by
 unfold A6;have e:((p.length:Int)+y).toNat=p.length+y.toNat:=by omega
 rw[e,AS,UT (by rw[Ib];omega),Ib,AEN];rw[<-AS];exact SS (λx:AD=>(x.1,Aj p.length x.2)) (0,[]) (0,[]) (by omega)
theorem LO {p:List Int} {g:List AD} {x:AD} (a:x∈A6 p g):(∃i,i<p.length/\x=(0,[(p.getD i 0,(i:Int)+1)]))\/∃y∈g,x=(y.1,Aj p.length y.2):=by
 rcases No.1 a with h|h
 ·obtain⟨i,hi,rfl⟩:=IF.1 h;exact .inl ⟨i,by simpa using hi,rfl⟩
 ·obtain⟨y,b,rfl⟩:=IF.1 h;exact .inr ⟨y,b,rfl⟩
theorem PR {b:Nat} {l:List (Int×Int)} (h:Nr l):Nr (Aj b l):=by
 unfold Aj Nr;rw[ADy];exact h
theorem Tf {p:List Int} {g:List AD} (hp:p.length<=1000) (c:AW g) (j:0<g.length) (k:g.length<=10000):AW (A6 p g):=by
 have d:=Gk p g;refine⟨by omega,λx h=>?_⟩;rcases LO h with ⟨i,hi,rfl⟩|⟨y,e,rfl⟩
 ·refine⟨by simp,λa ha=>?_⟩;have:a=(p.getD i 0,(i:Int)+1):=by simpa using ha
  subst this;rw[d];simp only;omega
 ·refine⟨by unfold Aj;rw[Of];exact(c.2 y e).1,λa ha=>?_⟩;obtain⟨b,f,rfl⟩:=IF.1 ha;have:=(c.2 y e).2 b f;rw[d];simp only;omega
theorem A0Y {h:AH} {f:List AD} (vf:VF h f):DK f f.length [] 0=(List.range f.length).map λ(i:Nat)=>(i:Int):=by
 have q:=vf.pos;have d:=LL vf.good (r:=0) (by omega) (by omega);have l:=Ms f 0;have c:=λi=>Mr (f:=f) (r:=0) (i:=i);rw[vf.can]at l;simp only[vf.can]at c;generalize p:DK f f.length [] 0=o at *;have m:OM h f f (λi=>o.getD i.toNat 0):=by
  refine⟨d.zero.1,λi g j=>d.ok.rng _ (AE o 0 (by omega)),λi g j=>?_,λi g j a ha=>?_⟩
  ·rw[c i.toNat (by omega)];exact SM h _
  ·rw[AR,c i.toNat (by omega)]at ha;obtain⟨b,e,rfl⟩:=IF.1 ha;have k:=d.cl _ (AE o 0 (by omega)) b e;show Dh (AR f (o.getD i.toNat 0)) b.1=o.getD (B6 o b.2).toNat 0;rw[(FU k).2.2];exact Mq (LM vf.str _) e
 have hu:=XU vf.ro m (dP vf.str);apply YI
 ·rw[Of,AEE];omega
 ·intro i h1 n;rw[AEl,AEp];have:=hu i (i:Int) (by omega) (by omega) (by omega);simp only[UG,id]at this;rw[<-this,AS,At h1];rfl
theorem A0Z {f:List AD} (hf:AW f) (h:DK f f.length [] 0=(List.range f.length).map λ(i:Nat)=>(i:Int)):AN f 0=f:=by
 unfold AN;generalize q:DK f f.length [] 0=l at *;have r:l.length=f.length:=by rw[h];simp
 have b:∀k,(hk:k<l.length)->l[k]=(k:Int):=λk hk=>by subst h;simp
 clear h;have o:l.Nodup:=by
  unfold List.Nodup;rw[UK];intro i j hi n p e;rw[b i hi,b j n]at e;omega
 have m:∀x,0<=x->x<(l.length:Int)->B6 l x=x:=λx s t=>by
  have:=HF o (i:=x.toNat) (by omega);have e:l.getD x.toNat 0=x:=by
   rw[AS,At (by omega)];show l[x.toNat]=x;rw[b _ (by omega)];omega
  rw[e]at this;rw[this];omega
 apply YI
 ·rw[Of];omega
 ·intro i h1 c;rw[AEl,b i (by simpa using h1)];have d:f.getD (i:Int).toNat (0,[])=f[i]:=by simp[AS,c]
  unfold Di;rw[d];have:∀a∈f[i].2,LJ l a=a:=λa ha=>by
   have g:=(hf.2 _ (nO c)).2 a ha;unfold LJ;rw[m a.2 g.1 (by omega)]
  rw[UI this,List.map_id']
theorem yD {Q R:List AD} {c:Int->Int} {d:Int->Prop} (h:Iso Q R c d) {pre:List Int} (hp:∀i,d i->c i∉pre):∀(k:Nat) (t:List Int) (i:Int),(∀x∈t,d x)->d i->DK R k (pre++t.map c) (c i)=pre++(DK Q k t i).map c/\∀x∈DK Q k t i,d x
 | 0,t,i,f,hi=>⟨rfl,f⟩
 | k+1,t,i,f,hi=>by
  have key:∀(l:List (Int×Int)) (t:List Int),(∀a∈l,d a.2)->(∀x∈t,d x) ->
    (l.map λa=>(a.1,c a.2)).foldl (Ad R k) (pre++t.map c)=pre++(l.foldl (Ad Q k) t).map c/\∀x∈l.foldl (Ad Q k) t,d x:=by
   intro l;induction l with
   | nil=>intro t _ f;exact⟨rfl,f⟩
   | cons a l q =>
    intro t m f;have ha:=m a (by simp);have hs:Ad R k (pre++t.map c) (a.1,c a.2)=pre++(Ad Q k t a).map c/\∀x∈Ad Q k t a,d x:=by
     unfold Ad;by_cases j:a.2∈t
     ·rw[BY j,BY (No.2 (.inr (IF.2 ⟨_,j,rfl⟩)))];exact⟨rfl,f⟩
     ·have p:¬c a.2∈pre++t.map c:=by
       intro hh;rcases No.1 hh with hh|hh
       ·exact hp _ ha hh
       ·obtain⟨x,g,e⟩:=IF.1 hh;exact j (h.inj x a.2 (f x g) ha e▸g)
      rw[An j];simp only[An p];exact yD h hp k t a.2 f ha
    rw[UQ,OR,OR,hs.1];exact q _ (λb o=>m b (by simp[o])) hs.2
  rw[CK,CK];have e:pre++t.map c++[c i]=pre++(t++[i]).map c:=by simp
  have n:(R.getD (c i).toNat (0,[])).2=(AR Q i).map λa=>(a.1,c a.2):=h.arc i hi;rw[n,e];refine key _ _ (h.cl i hi) λx g=>?_;rcases No.1 g with g|g
  ·exact f x g
  ·have:x=i:=by simpa using g
   rw[this];exact hi
abbrev d8 (n:Nat):List Int:=(List.range n).map λ(i:Nat)=>(i:Int)
theorem kJ {n:Nat} {x:Int} (h:x∈d8 n):0<=x/\x<(n:Int):=by grind
theorem A10 (n:Nat):d8 (n+1)=d8 n++[(n:Int)]:=by unfold d8;rw[YF,YK];rfl
theorem Xp {p:List Int} {g:List AD}:∀(r j:Nat) (k:Nat),j+r=p.length->DK (A6 p g) (r+k) (d8 j) (j:Int)=DK (A6 p g) k (d8 p.length) (p.length:Int)
 | 0,j,k,h=>by rw[show j=p.length by omega,ADK]
 | r+1,j,k,h=>by
  rw[show r+1+k=(r+k)+1 by omega,CK,Te (by omega) (by omega),UG];show Ad (A6 p g) (r+k) (d8 j++[(j:Int)]) (p.getD j 0,(j:Int)+1)=_;rw[<-A10];unfold Ad;rw[An (λa=>by have:=kJ a;simp only at this;omega)];have e:((j:Int)+1)=((j+1:Nat):Int):=by omega
  simp only[e];exact Xp r (j+1) k (by omega)
theorem A11 {h:AH} {p:List Int} {g:List AD} (b:VF h g) (hp:p.length<=1000) (l:g.length<=10000):AN (A6 p g) 0=A6 p g:=by
 have f:=b.pos;refine A0Z (Tf hp b.good f l) ?_;rw[Gk];have d:=Xp (p:=p) (g:=g) p.length 0 g.length (by omega);rw[show d8 0=[] from rfl,show ((0:Nat):Int)=0 from rfl]at d;rw[d];have k:Iso g (A6 p g) (λi=>(p.length:Int)+i) (λi=>0<=i/\i<(g.length:Int)):=by
  refine⟨λi hi=>?_,λi hi a ha=>BE b.good ha,λi j hi o e=>by have e:(p.length:Int)+i=(p.length:Int)+j:=e;omega⟩;rw[AR,RH hi.1 hi.2];show Aj p.length (AR g i)=_;unfold Aj;refine UI λa _=>?_;show (a.1,a.2+(p.length:Int))=(a.1,(p.length:Int)+a.2);rw[Int.add_comm]
 have c:=(yD k (pre:=d8 p.length) (λi hi m=>by have:=kJ m;omega) g.length [] 0 (λx n=>by cases n) ⟨by omega,by omega⟩).1;rw[AEW,UO,AF0,A0Y b]at c;rw[c];rw[List.range_add,YK,AAc,AAc];refine ADx _ (UI λi _=>?_);show (p.length:Int)+(i:Int)=((p.length+i:Nat):Int);omega
theorem Xq {h:AH} (h0:0<h.1.length) {p:List Int} {g:List AD} (d:VF h g) (l:FtP h p) (hp:p.length<=1000) (k:g.length<=10000):VF h (A6 p g):=by
 have n:=d.pos;have q:=Gk p g;refine⟨Tf hp d.good n k,by omega,λx c=>?_,λx c=>?_,λx c a ha=>?_,A11 d hp k,λi r s=>?_⟩
 ·rcases LO c with ⟨i,hi,rfl⟩|⟨y,f,rfl⟩
  ·exact⟨by simp,by simp only;omega⟩
  ·exact d.ty y f
 ·rcases LO c with ⟨i,hi,rfl⟩|⟨y,f,rfl⟩
  ·exact List.pairwise_singleton _ _
  ·exact PR (d.str y f)
 ·rcases LO c with ⟨i,hi,rfl⟩|⟨y,f,rfl⟩
  ·have:a=(p.getD i 0,(i:Int)+1):=by simpa using ha
   rw[this];exact l _ (BD hi)
  ·obtain⟨b,m,rfl⟩:=IF.1 ha;exact d.ft y f b m
 ·by_cases hi:i<=(p.length:Int)
  ·refine⟨i-1,by omega,by omega,(p.getD (i-1).toNat 0,i-1+1),?_,by simp only;omega⟩;rw[AR,Te (by omega) (by omega)];exact YB.2 rfl
  ·obtain⟨j,o,t,x,c,e⟩:=d.ro (i-p.length) (by omega) (by omega);refine⟨(p.length:Int)+j,by omega,by omega,(x.1,x.2+(p.length:Int)),?_,by simp only;omega⟩;rw[AR,RH o (by omega)];exact IF.2 ⟨x,c,rfl⟩
theorem aB {f:List AD} (hf:AW f) {r:Int} (l:0<=r) (m:r<(f.length:Int)):AW (AN f r)/\0<(AN f r).length:=by
 have c:=LL hf l m;have h:=Ms f r;have g:=λi=>Mr (f:=f) (r:=r) (i:=i);generalize p:DK f f.length [] r=o at *;have q:=c.ok.len;have n:=hf.1;have t:=c.zero.2;refine⟨⟨by omega,λx j=>?_⟩,by omega⟩;obtain⟨i,hi,rfl⟩:=CH (0,[]) j;rw[g i (by omega)];have d:o.getD i 0∈o:=AE o 0 (by omega);have s:=c.ok.rng _ d;refine⟨?_,λa ha=>?_⟩
 ·show (List.map (LJ o) _).length<=_;rw[Of];exact(hf.2 _ (AE f (0,[]) (k:=(o.getD i 0).toNat) (by omega))).1
 ·obtain⟨b,e,rfl⟩:=IF.1 ha;have:=FU (c.cl _ d b e);rw[h];exact⟨this.1,this.2.1⟩
theorem A7O {h:AH} {f:List AD} (hf:AW f) (b:Dv h f) {r:Int} (d:0<=r) (e:r<(f.length:Int)):Dv h (AN f r):=by
 have a:=LL hf d e;intro x c;obtain⟨n,hn,rfl⟩:=IF.1 c;have g:=a.ok.rng n hn;exact b (f.getD n.toNat (0,[])) (AE f (0,[]) (k:=n.toNat) (by omega))
structure PF (h:AH) (S:List AD):Prop where
 good:AW S
 pos:0<S.length
 ty:Dv h S
 str:∀x∈S,Nr x.2
 ft:∀x∈S,∀a∈x.2,0<=a.1/\a.1<(h.2.length:Int)
theorem VF.pf {h:AH} {f:List AD} (v:VF h f):PF h f:=⟨v.good,v.pos,v.ty,v.str,v.ft⟩
theorem kK {S:List AD} (a:AW S) {r:Int} (c:0<=r) (d:r<(S.length:Int)):∀x∈AN S r,∃n∈DK S S.length [] r,(0<=n/\n<(S.length:Int))/\x=Di S (DK S S.length [] r) n:=λx b=>by
 obtain⟨n,hn,rfl⟩:=IF.1 b;exact⟨n,hn,(LL a c d).ok.rng n hn,rfl⟩
theorem A7P {S:List AD} (b:AW S) {r:Int} (c:0<=r) (d:r<(S.length:Int)):RO (AN S r):=by
 have k:=LL b c d;have h:=Q4 b S.length [] r (GH _) c d (by simp);have p:=Ms S r;have g:=λi=>Mr (f:=S) (r:=r) (i:=i);generalize AN S r=l at *;generalize DK S S.length [] r=o at *;intro i m n;obtain⟨j,q,a,ha,e⟩:=h i.toNat (by simp only[ADw];omega) (by omega);refine⟨(j:Int),by omega,by omega,LJ o a,?_,?_⟩
 ·rw[AR,UG,g j (by omega)];exact IF.2 ⟨a,ha,rfl⟩
 ·show B6 o a.2=i;rw[e,HF k.ok.nd (by omega)];omega
theorem A9O {h:AH} {S:List AD} (p:PF h S) {r:Int} (c:0<=r) (d:r<(S.length:Int)):VF h (AN S r):=by
 have f:=aB p.good c d;refine⟨f.1,f.2,A7O p.good p.ty c d,λx e=>?_,λx e a ha=>?_,j7 p.good c d,A7P p.good c d⟩
 ·obtain⟨n,-,hn,rfl⟩:=kK p.good c d x e;show List.Pairwise _ (List.map _ _);rw[ADy];exact(LM p.str n).imp λh=>h
 ·obtain⟨n,-,hn,rfl⟩:=kK p.good c d x e;obtain⟨b,g,rfl⟩:=IF.1 ha;exact p.ft _ (AE S (0,[]) (by omega)) b g
theorem Xr {Q R:List AD} {b:Int->Int} {c:Int->Prop} (h:Iso Q R b c) (l:AW Q) {r:Int} (k:c r) (s:0<=r) (t:r<(Q.length:Int)) (u:Q.length<=R.length)
  (m:∀i,c i->(R.getD (b i).toNat (0,[])).1=(Q.getD i.toNat (0,[])).1):AN R (b r)=AN Q r:=by
 have f:DK R R.length [] (b r)=(DK Q Q.length [] r).map b/\∀x∈DK Q Q.length [] r,c x:=by
  have h1:=Q2 h R.length [] r (λx p=>by cases p) k;have g:=Q1 l (n:=r) s t (R.length-Q.length);rw[show Q.length+(R.length-Q.length)=R.length by omega]at g;rw[g]at h1;exact h1
 unfold AN;rw[f.1];generalize DK Q Q.length [] r=o at *;rw[AAc];refine UI λi hi=>?_;have d:=f.2 i hi;show Di R (o.map b) (b i)=Di Q o i;unfold Di;have j:(R.getD (b i).toNat (0,[])).2=(AR Q i).map λa=>(a.1,b a.2):=h.arc i d;rw[m i d,j,AAc];refine ADx _ (UI λa ha=>?_);show (a.1,B6 (o.map b) (b a.2))=(a.1,B6 o a.2);rw[jV λy q e=>h.inj y a.2 (f.2 y q) (h.cl i d a ha) e]
def RI (f:List AD) (e:Int):List (Int×Int):=(f.getD 0 (0,[])).2.filter λa=>a.1 != e
def Id (f:List AD) (e:Int):List AD:=((f.getD 0 (0,[])).1,Aj 1 (RI f e)) :: f.map λx=>(x.1,Aj 1 x.2)
def Ll (f:List AD) (e:Int):List AD:=AN (Id f e) 0
def M0 (f:List AD) (e:Int):List AD:=f++[((f.getD 0 (0,[])).1,RI f e)]
theorem Nj (f:List AD) (e:Int):(Id f e).length=f.length+1:=by simp[Id]
theorem A7Q {f:List AD} {e i:Int} (c:0<=i) (d:i<(f.length:Int)):(Id f e).getD (i+1).toNat (0,[])=((f.getD i.toNat (0,[])).1,Aj 1 (f.getD i.toNat (0,[])).2):=by
 have a:(i+1).toNat=i.toNat+1:=by omega
 have b:i.toNat<f.length:=by omega
 rw[a];simp[Id,AS,b]
theorem Xs {f:List AD} {e:Int} {a:Int×Int} (h:a∈RI f e):a∈AR f 0:=(ADv.1 h).1
theorem Xt {b:Nat} {l:List (Int×Int)} {a:Int×Int}:a∈Aj b l↔∃x∈l,a=(x.1,x.2+(b:Int)):=by
 unfold Aj;rw[IF];exact⟨λ⟨x,h1,c⟩=>⟨x,h1,c.symm⟩,λ⟨x,h1,c⟩=>⟨x,h1,c.symm⟩⟩
theorem kL {f:List AD} (hs:∀x∈f,Nr x.2) (e:Int):Nr (RI f e):=(LM hs 0).filter _
theorem RJ {h:AH} {f:List AD} (v:PF h f) (p:f.length<=10000) (e:Int):PF h (Id f e):=by
 have hp:=v.pos;have h0:f.getD 0 (0,[])∈f:=AE f (0,[]) hp;have k:∀x∈Id f e,x=((f.getD 0 (0,[])).1,Aj 1 (RI f e))\/∃y∈f,x=(y.1,Aj 1 y.2):=λx c=>by
  rcases DO.1 c with rfl|c
  ·exact .inl rfl
  ·obtain⟨y,d,rfl⟩:=IF.1 c;exact .inr ⟨y,d,rfl⟩
 have o:=Nj f e;have j:∀x∈Id f e,∃y∈f,x.1=y.1/\x.2.length<=y.2.length/\∀a∈x.2,∃b∈y.2,a=(b.1,b.2+1):=λx c=>by
  rcases k x c with rfl|⟨y,d,rfl⟩
  ·refine⟨_,h0,rfl,?_,λa ha=>?_⟩
   ·show (List.map _ _).length<=_;rw[Of];exact YH _ _
   ·obtain⟨b,g,rfl⟩:=Xt.1 ha;exact⟨b,Xs g,rfl⟩
  ·refine⟨y,d,rfl,?_,λa ha=>?_⟩
   ·show (List.map _ _).length<=_;rw[Of];exact NO _
   ·obtain⟨b,g,rfl⟩:=Xt.1 ha;exact⟨b,g,rfl⟩
 refine⟨⟨by omega,λx c=>?_⟩,by omega,λx c=>?_,λx c=>?_,λx c a ha=>?_⟩
 ·obtain⟨y,d,-,n,i⟩:=j x c;have m:=v.good.2 y d;refine⟨by omega,λa ha=>?_⟩;obtain⟨b,g,rfl⟩:=i a ha;have:=m.2 b g;try simp only
  omega
 ·obtain⟨y,d,l,-,-⟩:=j x c;rw[l];exact v.ty y d
 ·rcases k x c with rfl|⟨y,d,rfl⟩
  ·exact PR (kL v.str e)
  ·exact PR (v.str y d)
 ·obtain⟨y,d,-,-,i⟩:=j x c;obtain⟨b,g,rfl⟩:=i a ha;exact v.ft y d b g
theorem A7R {h:AH} {f:List AD} (v:PF h f) (a:f.length<=10000) (e:Int):VF h (Ll f e):=A9O (RJ v a e) (AEu _) (by rw[Nj];omega)
theorem A9P {h:AH} {f:List AD} (v:PF h f) (k:f.length<=10000) (e:Int):AN (M0 f e) (f.length:Int)=Ll f e:=by
 have n:=Nj f e;have hp:=v.pos;have g:=λi b c=>A7Q (f:=f) (e:=e) (i:=i) b c;have hn:(M0 f e).getD f.length (0,[])=((f.getD 0 (0,[])).1,RI f e):=by simp[M0,AS]
 have hi:∀i:Int,0<=i->i<(f.length:Int)->(M0 f e).getD i.toNat (0,[])=f.getD i.toNat (0,[]):=λi b c=>by
  have:i.toNat<f.length:=by omega
  simp[M0,AS,UR this]
 have m:∀l:List (Int×Int),(∀a∈l,0<=a.2)->l=(Aj 1 l).map λa=>(a.1,if a.2=0 then (f.length:Int) else a.2-1):=λl h1=>by
  unfold Aj;rw[AAc];refine(AFB l).symm.trans (UI λa ha=>?_);have:=h1 a ha;show a=(a.1,if a.2+((1:Nat):Int)=0 then _ else a.2+((1:Nat):Int)-1);rw[An (by omega)];exact AFC rfl (by simp only;omega)
 have o:Iso (Id f e) (M0 f e) (λi=>if i=0 then (f.length:Int) else i-1) (λi=>0<=i/\i<(f.length:Int)+1):=by
  refine⟨λi ⟨b,c⟩=>?_,λi ⟨b,c⟩ a ha=>?_,λi j ⟨b,c⟩ ⟨p,q⟩ d=>?_⟩
  ·by_cases h0:i=0
   ·subst h0;simp only[AD1];rw[AR,UG,hn];exact m _ λa ha=>(BE v.good (Xs ha)).1
   ·simp only[An h0];rw[AR,hi _ (by omega) (by omega),AR,show i=(i-1)+1 by omega,g _ (by omega) (by omega),show i-1+1-1=i-1 by omega];exact m _ λa ha=>(BE v.good ha).1
  ·have:=BE (RJ v k e).good ha;omega
  ·try simp only at d
   split at d<;>split at d<;>omega
 have:=Xr o (RJ v k e).good (r:=0) ⟨by omega,by omega⟩ (by omega) (by omega) (by rw[n];simp[M0]) λi ⟨b,c⟩=>by
  by_cases h0:i=0
  ·subst h0;simp only[AD1];rw[UG,hn];rfl
  ·simp only[An h0];rw[hi _ (by omega) (by omega),show i=(i-1)+1 by omega,g _ (by omega) (by omega),show i-1+1-1=i-1 by omega]
 simp only[AD1]at this;exact this
def yE (s:ByteArray):Nat->List G8->Int
 | _,[]=>-1
 | k,x :: l=>if AY x.1 s=true then (k:Int) else yE s (k+1) l
def Hd (h:AH) (s:ByteArray):Int:=yE s 0 h.1
def ftG (s:ByteArray):Nat->List ZS->Int
 | _,[]=>-1
 | k,x :: l=>if AY x.1 s=true then (k:Int) else ftG s (k+1) l
def Xu (h:AH) (s:ByteArray):Int:=ftG s 0 h.2
theorem yF (s:ByteArray):∀(l:List G8) (k:Nat),yE s k l=-1\/((k:Int)<=yE s k l/\yE s k l<((k+l.length:Nat):Int))
 | [],_=>.inl rfl
 | x :: l,k=>by
  unfold yE;split
  ·exact .inr ⟨AEu _,by simp only[OS];omega⟩
  ·have:=yF s l (k+1);simp only[OS];omega
theorem yG (s:ByteArray):∀(l:List ZS) (k:Nat),ftG s k l=-1\/((k:Int)<=ftG s k l/\ftG s k l<((k+l.length:Nat):Int))
 | [],_=>.inl rfl
 | x :: l,k=>by
  unfold ftG;split
  ·exact .inr ⟨AEu _,by simp only[OS];omega⟩
  ·have:=yG s l (k+1);simp only[OS];omega
theorem HG (h:AH) (s:ByteArray):-1<=Hd h s/\Hd h s<(h.1.length:Int):=by
 have:=yF s h.1 0;unfold Hd;omega
theorem d9 (h:AH) (s:ByteArray):-1<=Xu h s/\Xu h s<(h.2.length:Int):=by
 have:=yG s h.2 0;unfold Xu;omega
structure LW where
 list:Int
 cons:Int
 null:Int
 dlist:Int
 first:Int
 rest:Int
 head:Int
 last:Int
def sb (l:List UInt8):ByteArray:=⟨l.toArray⟩
def BH (h:AH):LW:=⟨Hd h (sb [108,105,115,116]),Hd h (sb [99,111,110,115]),Hd h (sb [110,117,108,108]),Hd h (sb [100,108,105,115,116]),Xu h (sb [70,73,82,83,84]),Xu h (sb [82,69,83,84]),Xu h (sb [76,73,83,84]),Xu h (sb [76,65,83,84])⟩
def PT (h:AH):Bool:=decide (0<=(BH h).list/\0<=(BH h).cons/\0<=(BH h).null/\0<=(BH h).dlist/\0<=(BH h).first/\0<=(BH h).rest/\0<=(BH h).head/\0<=(BH h).last)&&BA h (BH h).list (BH h).cons&&BA h (BH h).list (BH h).null
def RK (w:LW) (row:List (Int×Int)):Bool:=decide (Dh row w.first<0)&&decide (Dh row w.rest<0)
def Tg (w:LW) (row:List (Int×Int)):Bool:=decide (0<=Dh row w.first)&&decide (0<=Dh row w.rest)
def Tx (h:AH) (w:LW) (x:AD):Bool:=BA h w.null x.1&&RK w x.2
def Lm (h:AH) (w:LW) (x:AD):Bool:=BA h w.cons x.1&&Tg w x.2
def OQ (h:AH) (w:LW) (x:AD):Bool:=BA h x.1 w.cons&&RK w x.2
def BQ (h:AH) (w:LW) (x:AD):Int:=if Tx h w x=true then 1 else if Lm h w x=true then 2 else if OQ h w x=true then 3 else 0
def RL (h:AH) (w:LW) (f:List AD):Nat->List Int->List Int->Int->List Int×Bool×Int
 | 0,_,_,_=>([],false,6)
 | k+1,a,out,n=>if n∈a then ([],false,6) else
  if BQ h w (f.getD n.toNat (0,[]))=1 then (out,true,0) else if BQ h w (f.getD n.toNat (0,[]))=3 then (out,false,0) else if BQ h w (f.getD n.toNat (0,[]))=0 then ([],false,13)
  else RL h w f k (a++[n]) (out++[Dh (f.getD n.toNat (0,[])).2 w.first]) (Dh (f.getD n.toNat (0,[])).2 w.rest)
def Aq (h:AH) (f:List AD) (n:Int):List Int×Bool×Int:=if PT h=true then RL h (BH h) f (f.length+1) [] [] n else ([],false,5)
theorem aC {h:AH} {w:LW} {x:AD} (e:BQ h w x=2):0<=Dh x.2 w.first/\0<=Dh x.2 w.rest:=by
 unfold BQ at e;split at e
 ·cases e
 ·split at e
  ·rename_i a;unfold Lm Tg at a;simp only[AT,Fe]at a;exact a.2
  ·split at e<;>cases e
theorem kM {h:AH} (e:PT h=true):(0<=(BH h).first/\0<=(BH h).rest)/\0<=(BH h).cons/\0<=(BH h).null/\0<=(BH h).list/\0<=(BH h).dlist/\0<=(BH h).head/\0<=(BH h).last:=by
 unfold PT at e;rw[AT,AT,Fe]at e;obtain⟨⟨⟨h1,a,b,c,d,f,g,i⟩,-⟩,-⟩:=e;exact⟨⟨d,f⟩,a,b,h1,c,g,i⟩
def shN (b:Nat) (g:List AD) (i:Nat):List AD:=(g.take i).map λx:AD=>(x.1,Aj b x.2)
theorem A4j (b:Nat) (g:List AD) {i:Nat} (h:i<g.length):shN b g (i+1)=shN b g i++[((g.getD i (0,[])).1,Aj b (g.getD i (0,[])).2)]:=by
 unfold shN;rw[Az g (0,[]) h,YK];rfl
theorem A7S (b:Nat) (g:List AD):shN b g g.length=g.map λx:AD=>(x.1,Aj b x.2):=by
 unfold shN;rw[UE]
theorem A7T (b:Nat) (g:List AD) {i:Nat} (h:i<=g.length):(shN b g i).length=i:=by
 unfold shN;rw[Of,ON];omega
def o9:Aa:={ ins:=[Ft,Da],pre:=λ(p,g,_)=>List.length p<=1000/\AW g,out:=λ(p,g,_)=>[.p Da (A6 p g)] }
theorem A4k:Ab Tryz.prog 141 o9:=by
 refine qJ [0,1,3,4,5,6,7,9,10,12,13,14,15,16,33,34,35,36,43,44,45,46] [26] [] Tryz.func141 Tryz.ntmps141 AG ?_;rintro w0 O0 ⟨p,g,u⟩ e-⟨hp,f⟩;have I:=f.1;simp only[o9,AL];repeat'(first|exact trivial|refine eS rfl ?_|refine AB ?_|refine rX e ?_ ?_|refine rC ?_ ?_<;>intro b<;>try(cases b;done))
 refine AJ (ι:={k:Nat//k<=p.length}) (λk=>⟨[(0,.p Ft p),(3,.bp 3 [] 0),(4,.bp 4 [] 0),(5,.bp 5 [] 0),(13,.p Ft p),(14,.p (.int .i64) (p.length:Int)),(15,.p (.int .i64) (k.1:Int))],[(3,.box 25 true [.p FQ g]),(4,.box 25 true [.raw (.slice none 0 0)]),(5,.box 25 true [.sr 29 Ls 0 (HP p k.1).length]),(29,.arr 93 Ls (HP p k.1))]⟩) (λk=>p.length-k.1) ⟨0,IS _⟩ (AC [(3,.nm 3),(4,.nm 4),(5,.nm 5),(29,.nil)] rfl rfl ?_ ?_) (λk=>?_)
 ·first|exact eN|refine eM ?_
  exact⟨rfl,rfl⟩
 ·first|exact eN|refine eM ?_
 ·obtain⟨k,hk⟩:=k;have B:=Ib p k;repeat'(first|exact trivial|refine eS rfl ?_|refine AB ?_|refine rX e ?_ ?_|refine rC ?_ ?_<;>intro b<;>try(cases b;done))
  ·exact b
  ·have n:k<p.length:=IN.1 b;refine⟨⟨by omega,by omega⟩,?_⟩;rw[B];simp only[AP];omega
  ·omega
  ·have n:k<p.length:=IN.1 b;have hs:=kG p k;refine⟨⟨k+1,n⟩,by simp only;omega,AC [(3,.nm 3),(4,.nm 4),(5,.nm 5),(29,.nm 29)] rfl rfl ?_ ?_⟩
   ·simp only[hs];first|exact eN|refine eM ?_
   ·first|exact eN|refine eM ?_
  ·have D:k=p.length:=by
    have:=UA.1 b;omega
   subst D;obtain⟨t,m⟩:∃c,HP p p.length=c:=⟨_,rfl⟩;have A:=Ib p p.length;have s:t++g.map (λx:AD=>(x.1,Aj p.length x.2))=A6 p g:=by rw[<-m];rfl
   generalize HP p p.length=ch at *;subst m;refine AJ (ι:={i:Nat//i<=g.length}) (λi=>⟨[(0,.p Ft p),(3,.bp 3 [] 0),(4,.bp 4 [] 0),(5,.bp 5 [] 0),(33,.p FQ g),(34,.p (.int .i64) (g.length:Int)),(35,.p (.int .i64) (i.1:Int))],[(3,.box 25 true [.p FQ g]),(4,.box 25 true [.raw (.slice none 0 0)]),(5,.box 25 true [.sr 29 Ls 0 (ch++shN p.length g i.1).length]),(29,.arr 93 Ls (ch++shN p.length g i.1))]⟩) (λi=>g.length-i.1) ⟨0,IS _⟩ (AC [(3,.nm 3),(4,.nm 4),(5,.nm 5),(29,.nm 29)] rfl rfl ?_ ?_) (λi=>?_)
   ·have v:ch++shN p.length g 0=ch:=by simp[shN]
    simp only[v];first|exact eN|refine eM ?_
   ·first|exact eN|refine eM ?_
   ·obtain⟨i,hi⟩:=i;have E:=A7T p.length g hi;have r:=λh:i<g.length=>A4j p.length g h;simp only;generalize o:shN p.length g i=os at *;repeat'(first|exact trivial|refine eS rfl ?_|refine AB ?_|refine rX e ?_ ?_|refine rC ?_ ?_<;>intro b<;>try(cases b;done))
    ·exact b
    ·have l:i<g.length:=IN.1 b;have q:=XI f i;have G:(g.getD i (0,[])).2.length<=100000:=(f.2 _ (AE g (0,[]) l)).1;generalize L:g.getD i (0,[])=x at *;obtain⟨H,xs⟩:=x;simp only at q G r ⊢;refine AJ (ι:={j:Nat//j<=xs.length}) (λj=>⟨[(0,.p Ft p),(3,.bp 3 [] 0),(4,.bp 4 [] 0),(5,.bp 5 [] 0),(10,.bp 10 [] 0),(33,.p FQ g),(34,.p (.int .i64) (g.length:Int)),(35,.p (.int .i64) (i:Int)),(43,.p DS xs),(44,.p (.int .i64) (xs.length:Int)),(45,.p (.int .i64) (j.1:Int))],[(3,.box 25 true [.p FQ g]),(4,.box 25 true [.raw (.slice none 0 0)]),(5,.box 25 true [.sr 29 Ls 0 (ch++os).length]),(29,.arr 93 Ls (ch++os)),(10,.box 93 true [.p T3 H,.sr 60 AU 0 (Aj p.length (xs.take j.1)).length]),(60,.arr 106 AU (Aj p.length (xs.take j.1)))]⟩) (λj=>xs.length-j.1) ⟨0,IS _⟩ (AC [(3,.nm 3),(4,.nm 4),(5,.nm 5),(29,.nm 29),(10,.nm 10),(60,.nil)] rfl rfl ?_ ?_) (λj=>?_)
     ·first|exact eN|refine eM ?_
      exact⟨rfl,rfl⟩
     ·first|exact eN|refine eM ?_
     ·obtain⟨j,J⟩:=j;have w:(Aj p.length (xs.take j)).length=j:=by unfold Aj;rw[Of,ON];omega
      have y:=λh:j<xs.length=>EU (λa:Int×Int=>(a.1,a.2+(p.length:Int))) xs (0,0) h;simp only;repeat'(first|exact trivial|refine eS rfl ?_|refine AB ?_|refine rX e ?_ ?_|refine rC ?_ ?_<;>intro b<;>try(cases b;done))
      ·exact b
      ·have d:j<xs.length:=IN.1 b;have K:=q _ (AE xs (0,0) d);refine⟨⟨by omega,by omega⟩,?_⟩;rw[w];simp only[AP];omega
      ·omega
      ·have d:j<xs.length:=IN.1 b;have z:Aj p.length (xs.take (j+1))=Aj p.length (xs.take j)++[((xs.getD j (0,0)).1,(xs.getD j (0,0)).2+(p.length:Int))]:=y d;refine⟨⟨j+1,d⟩,by simp only;omega,AC [(3,.nm 3),(4,.nm 4),(5,.nm 5),(29,.nm 29),(10,.nm 10),(60,.nm 60)] rfl rfl ?_ ?_⟩
       ·simp only[z];first|exact eN|refine eM ?_
       ·first|exact eN|refine eM ?_
      ·rw[A,E];simp only[AP];omega
      ·omega
      ·have d:xs.take j=xs:=As (UA.1 b);have F:=r l;rw[d];refine⟨⟨i+1,l⟩,by simp only;omega,AC [(3,.nm 3),(4,.nm 4),(5,.nm 5),(29,.nm 29)] rfl rfl ?_ ?_⟩
       ·simp only[F,<-UN];first|exact eN|refine eM ?_
       ·first|exact eN|refine eM ?_
    ·have C:i=g.length:=by
      have:=UA.1 b;omega
     subst C;rw[A7S]at o;rw[o]at s;exact fI e [.cell 4 25] (by rw[<-s];exact eR)
def E1 (l:List (Int×Int)) (e:Int):Int×Bool:=match l with
 | []=>(0,false)
 | a :: l=>if a.1=e then (a.2,true) else E1 l e
theorem Xv (e:Int) (l:List (Int×Int)) {k:Nat} (h:k<l.length):E1 (l.drop k) e=if (l.getD k (0,0)).1=e then ((l.getD k (0,0)).2,true) else E1 (l.drop (k+1)) e:=by
 rw[TO h];have e:l.getD k (0,0)=l[k]:=by simp[AS,h]
 rw[e];rfl
def A4l:Aa:={ ins:=[Da,T3,T3],pre:=λ(f,n,_,_)=>Cz f/\0<=n/\n<(List.length f:Int),out:=λ(f,n,e,_)=>[.p T3 (E1 (List.getD f n.toNat (0,[])).2 e).1,.p .bool (E1 (List.getD f n.toNat (0,[])).2 e).2] }
theorem A7U:Ab Tryz.prog 123 A4l:=by
 refine fK [0,1,2,3,6,7,9,15,16,17,18,24] Tryz.func123 Tryz.ntmps123 AG ?_;rintro w0 O0 ⟨f,n,e,u⟩ c-⟨hf,h0,h1⟩;simp only[A4l,AL];repeat'(first|exact trivial|refine eS rfl ?_|refine AB ?_|refine rX c ?_ ?_|refine rC ?_ ?_<;>intro a<;>try(cases a;done))
 ·exact⟨h0,h1⟩
 ·generalize g:(f.getD n.toNat (0,[])).2=xs at *;have i:xs.length<=100000:=by
   rw[<-g];have hn:n.toNat<f.length:=by
    have h0:(0:Int)<=n:=h0;have h1:(n:Int)<(List.length f:Int):=h1;exact(AEZ h0).2 h1
   exact hf.2 _ (AE f (0,[]) hn)
  refine AJ (ι:={k:Nat//k<=xs.length/\E1 xs e=E1 (xs.drop k) e}) (λk=>⟨[(2,.p T3 e),(15,.p DS xs),(16,.p (.int .i64) (xs.length:Int)),(17,.p (.int .i64) (k.1:Int))],[]⟩) (λk=>xs.length-k.1) ⟨0,IS _,rfl⟩ (AC [] rfl rfl ?_ ?_) (λk=>?_)
  ·first|exact eN|refine eM ?_
  ·first|exact eN|refine eM ?_
  ·obtain⟨k,hk,d⟩:=k;repeat'(first|exact trivial|refine eS rfl ?_|refine AB ?_|refine rX c ?_ ?_|refine rC ?_ ?_<;>intro a<;>try(cases a;done))
   ·exact a
   ·have b:k<xs.length:=IN.1 (by assumption);have h:=Xv e xs b;rw[BY a]at h;rw[d,h];exact fI c [.tmp 6,.tmp 7]
   ·omega
   ·have b:k<xs.length:=IN.1 (by assumption);have h:=Xv e xs b;rw[An a]at h;refine⟨⟨k+1,b,d.trans h⟩,by simp only;omega,AC [] rfl rfl ?_ ?_⟩
    ·first|exact eN|refine eM ?_
    ·first|exact eN|refine eM ?_
   ·have b:xs.drop k=[]:=By (UA.1 a);rw[b]at d;rw[d];exact fI c [.tmp 6,.tmp 7] (by first|exact eR|refine YM ?_;exact⟨rfl,rfl⟩)
section
attribute [local go_sem] A4l
def CZ (f:List AD):Int->List Int->Int×Bool
 | n,[]=>(n,true)
 | n,e :: p=>if (E1 (AR f n) e).2=true then CZ f (E1 (AR f n) e).1 p else (0,false)
theorem KN {p:List Int} {k:Nat} (h:k<p.length):p.drop k=p.getD k 0 :: p.drop (k+1):=by
 rw[TO h];simp[AS,h]
theorem Xw {l:List (Int×Int)} {e:Int} (h:(E1 l e).2=true):∃a∈l,a.1=e/\a.2=(E1 l e).1:=by
 induction l with
 | nil=>simp[E1]at h
 | cons a l g =>
  simp only[E1]at h ⊢;split
  ·rename_i c;exact⟨a,by simp,c,rfl⟩
  ·rename_i c;rw[An c]at h;obtain⟨b,f,h1,d⟩:=g h;exact⟨b,by simp[f],h1,d⟩
theorem A12 {l:List (Int×Int)} (hs:Nr l) (hn:∀a∈l,0<=a.2) (e:Int):E1 l e=if YN l e<0 then (0,false) else (YN l e,true):=by
 cases h:(E1 l e).2 with
 | true =>
  obtain⟨a,ha,g,i⟩:=Xw h;have d:=xL hs ha;rw[g]at d;have:=hn a ha;rw[An (by omega),d,i,<-h]
 | false =>
  have c:∀a∈l,a.1≠e:=by
   intro a ha g;clear hs hn;induction l with
   | nil=>cases ha
   | cons b l f =>
    simp only[E1]at h;split at h
    ·cases h
    ·rename_i j;rcases DO.1 ha with rfl|ha
     ·exact j g
     ·exact f h ha
  have d:YN l e=-1:=by
   unfold YN;clear hs hn h;generalize (-1:Int)=t;induction l with
   | nil=>rfl
   | cons b l f =>
    rw[OR,An (c b (by simp))];exact f (λa ha=>c a (by simp[ha]))
  have h0:(E1 l e).1=0:=by
   clear hs hn d;induction l with
   | nil=>rfl
   | cons b l f =>
    simp only[E1];rw[An (c b (by simp))];refine f ?_ (λa ha=>c a (by simp[ha]));simp only[E1]at h
    rwa [An (c b (by simp))]at h
  rw[d,BY (by decide),<-h0,<-h]
theorem Xx {f:List AD} (hf:AW f) (hs:∀x∈f,Nr x.2):∀(p:List Int) (n:Int),CZ f n p=match EL f n p with|some m=>(m,true)|none=>(0,false)
 | [],n=>rfl
 | e :: p,n=>by
  have h:=A12 (LM hs n) (λa ha=>(BE hf ha).1) e;simp only[CZ,EL];rw[h];by_cases b:YN (AR f n) e<0
  ·rw[BY b,BY b];rfl
  ·rw[An b,An b];exact Xx hf hs p _
def atS:Aa:={ ins:=[Da,Ft],pre:=λ(f,_,_)=>AW f/\0<List.length f,out:=λ(f,p,_)=>[.p T3 (CZ f 0 p).1,.p .bool (CZ f 0 p).2] }
attribute [local go_sem] atS
theorem A8E:Ab Tryz.prog 68 atS:=by
 refine fK [0,1,2,4,5,6,8,9,10,11,12,13,14,25] Tryz.func68 Tryz.ntmps68 (AF A7U AG) ?_;rintro w0 O0 ⟨f,p,u⟩ e ⟨-,⟨i,-⟩,-⟩ ⟨hf,h0⟩;simp only[AP]at i;simp only[atS,AL];have j:Cz f:=⟨hf.1,λx l=>(hf.2 x l).1⟩;have h0:0<f.length:=h0;repeat'(first|exact trivial|refine eS rfl ?_|refine AB ?_|refine rX e ?_ ?_|refine rC ?_ ?_<;>intro b<;>try(cases b;done))
 refine AJ (ι:={s:Nat×Int//s.1<=p.length/\(0<=s.2/\s.2<(f.length:Int))/\CZ f 0 p=CZ f s.2 (p.drop s.1)}) (λs=>⟨[(2,.bp 2 [] 0),(6,.p T3 s.1.2),(11,.p Ft p),(12,.p (.int .i64) (p.length:Int)),(13,.p (.int .i64) (s.1.1:Int))],[(2,.box 25 true [.p FQ f])]⟩) (λs=>p.length-s.1.1) ⟨(0,0),IS _,⟨AEu 0,by show (0:Int)<_;omega⟩,rfl⟩ (AC [(2,.nm 2)] rfl rfl ?_ ?_) (λs=>?_)
 ·first|exact eN|refine eM ?_
 ·first|exact eN|refine eM ?_
 ·obtain⟨⟨k,n⟩,hk,hn,d⟩:=s;simp only at hk hn d ⊢;repeat'(first|exact trivial|refine eS rfl ?_|refine AB ?_|refine rX e ?_ ?_|refine rC ?_ ?_<;>intro b<;>try(cases b;done))
  ·exact b
  ·exact⟨j,hn⟩
  ·have c:k<p.length:=IN.1 (by assumption);have h1:CZ f 0 p=(0,false):=by
    rw[d,KN c];simp only[CZ];rw[An (by rw[b];simp)]
   exact fI e [.tmp 4,.tmp 5] (by rw[h1];exact eR)
  ·omega
  ·have c:k<p.length:=IN.1 (by assumption);have h1:=d;rw[KN c]at h1;simp only[CZ]at h1;rw[BY b]at h1;obtain⟨a,ha,-,h⟩:=Xw b;have g:=BE hf ha;rw[h]at g;refine⟨⟨(k+1,(E1 (f.getD n.toNat (0,[])).2 (p.getD k 0)).1),c,g,h1⟩,by simp only;omega,AC [(2,.nm 2)] rfl rfl ?_ ?_⟩
   ·first|exact eN|refine eM ?_
   ·first|exact eN|refine eM ?_
  ·have c:p.drop k=[]:=By (UA.1 b);rw[c]at d;exact fI e [.tmp 4,.tmp 5] (by rw[d];first|exact eR|refine YM ?_;exact⟨rfl,rfl⟩)
end
def Ah (h:AH):Int:=Xu h (sb [65,82,71,83])
def Jl (h:AH) (i:Nat):List Int:=Ah h :: (List.replicate i (BH h).rest++[(BH h).first])
theorem yH (h:AH) (i:Nat):(Jl h i).length=i+2:=by simp[Jl]
def Ie (pl:Nat->List Int):Nat->List (List AD)->List (List AD)
 | _,[]=>[]
 | i,k :: l=>A6 (pl i) k :: Ie pl (i+1) l
noncomputable def Cg (h:AH) (pl:Nat->List Int):Nat->List AD->List (List AD)->List AD×Bool
 | _,f,[]=>(f,true)
 | i,f,k :: l=>if (HQ h f (A6 (pl i) k)).2=true then Cg h pl (i+1) (HQ h f (A6 (pl i) k)).1 l else ([],false)
theorem Xy {pl:Nat->List Int} {x:List AD}:∀ {l:List (List AD)} {i:Nat},x∈Ie pl i l->∃j,j<l.length/\x=A6 (pl (i+j)) (l.getD j [])
 | k :: l,i,h=>by
  rcases DO.1 h with rfl|h
  ·exact⟨0,by simp,rfl⟩
  ·obtain⟨j,a,rfl⟩:=Xy h;exact⟨j+1,by simpa using a,by rw[show i+(j+1)=i+1+j by omega];rfl⟩
theorem Xz {h:AH} {pl:Nat->List Int}:∀ {l:List (List AD)} {i:Nat} {f:List AD},(∀x∈Ie pl i l,x.length<=100)->(Cg h pl i f l).1.length<=f.length+100*l.length
 | [],i,f,_=>NO _
 | k :: l,i,f,c=>by
  unfold Cg;split
  ·have h1:=d7 (h:=h) (a:=f) (b:=A6 (pl i) k);have e:=c _ (ADM (a:=A6 (pl i) k) (l:=Ie pl (i+1) l));have g:=Xz (h:=h) (pl:=pl) (l:=l) (i:=i+1) (f:=(HQ h f (A6 (pl i) k)).1) λx d=>c x (OF _ d);simp only[OS];omega
  ·simp
section
variable {h:AH} (hh:k9 h)
include hh
theorem X0 {pl:Nat->List Int}:∀(l:List (List AD)) (i:Nat) (f:List AD) (L:List (List AD)),Mz h L (f,true)->(∀x∈L,VF h x)->(∀x∈Ie pl i l,VF h x/\x.length<=100)->f.length+100*l.length<=10000->Mz h (L++Ie pl i l) (Cg h pl i f l)
 | [],i,f,L,H,o,q,r=>by
  show Mz h (L++[]) (f,true);rw[UO];exact H
 | k :: l,i,f,L,H,o,q,r=>by
  have hu:=q _ (ADM (a:=A6 (pl i) k) (l:=Ie pl (i+1) l));have g:=H.vf rfl;simp only[OS]at r;have v:=d7 (h:=h) (a:=f) (b:=A6 (pl i) k);have hs:Mz h (L++[A6 (pl i) k]) (HQ h f (A6 (pl i) k)):=by
   refine(yC hh g.wt.1 hu.1 (by have:=hu.2;show f.length+_<=10000;omega)).congr λX j=>?_;rw[Xo,Hc];constructor
   ·rintro⟨⟨m,d⟩,s⟩ x t;rcases No.1 t with c|c
    ·exact A4h hh.ok o g.wt.1 j.1 g.hom d x c
    ·rw[YB.1 c];exact s
   ·intro n;exact⟨g.least X j λx d=>n x (YC _ d),n _ (AE9 _ (YB.2 rfl))⟩
  show Mz h (L++A6 (pl i) k :: Ie pl (i+1) l) (Cg h pl i f (k :: l));unfold Cg;split
  ·rename_i p;have:=X0 l (i+1) (HQ h f (A6 (pl i) k)).1 (L++[A6 (pl i) k]) (by rw[<-p];exact hs) (λx d=>by
    rcases No.1 d with c|c
    ·exact o x c
    ·rw[YB.1 c];exact hu.1) (λx d=>q x (OF _ d)) (by omega)
   rwa [UN,List.singleton_append]at this
  ·rename_i p;refine .inr ⟨rfl,λX j n=>?_⟩;rcases hs with ⟨e,-⟩|⟨-,u⟩
   ·exact p e
   ·refine u X j λx d=>n x ?_;rcases No.1 d with c|c
    ·exact YC _ c
    ·exact AE9 _ (by rw[YB.1 c];exact ADM)
omit hh in
theorem A13 {f:List AD} (a:Wt h f):Mz h [f] (f,true):=.inl ⟨rfl,a,Hc.2 ⟨id,dP a.1.str⟩,λ_ _ b=>Hc.1 b⟩
end
theorem kN {h:AH} {f:List AD} (vf:VF h f) {n e:Int} (h0:0<=Dh (AR f n) e) (p:List Int):EL f n (e :: p)=EL f (Dh (AR f n) e) p:=by
 show (if YN (AR f n) e<0 then none else EL f (YN (AR f n) e) p)=_;rw[A9K (LM vf.str n) h0,An (by omega)]
theorem X2 {h:AH} {w:LW} {f:List AD} (vf:VF h f):∀(k:Nat) (a out:List Int) (n:Int) (l:List Int) (b:Bool),RL h w f k a out n=(l,b,0)->∃t,l=out++t/\∀i,i<t.length->EL f n (List.replicate i w.rest++[w.first])=some (t.getD i 0)
 | 0,a,out,n,l,b,e=>by
  simp[RL]at e
 | k+1,a,out,n,l,b,e=>by
  unfold RL at e;split at e
  ·simp at e
  ·split at e
   ·have:=ADx (λx=>x.1) e;exact⟨[],by rw[UO];exact this.symm,λi hi=>by simp at hi⟩
   ·split at e
    ·have:=ADx (λx=>x.1) e;exact⟨[],by rw[UO];exact this.symm,λi hi=>by simp at hi⟩
    ·split at e
     ·simp at e
     ·rename_i h1 d h0;have c:BQ h w (f.getD n.toNat (0,[]))=2:=by
       unfold BQ at h1 d h0 ⊢;grind
      obtain⟨c1,c2⟩:=aC c;obtain⟨t,rfl,g⟩:=X2 vf k _ _ _ _ _ e;refine⟨Dh (f.getD n.toNat (0,[])).2 w.first :: t,by simp,λi hi=>?_⟩;cases i with
      | zero=>exact kN vf c1 []
      | succ i =>
       rw[AEK,ADF,kN vf c2];exact g i (by simpa using hi)
theorem kO {h:AH} {f:List AD} {n:Int} {l:List Int} {b:Bool} (e:Aq h f n=(l,b,0)):PT h=true:=by
 unfold Aq at e;split at e
 ·assumption
 ·simp at e
theorem pA {h:AH} {f:List AD} (vf:VF h f) {n:Int} {l:List Int} {b:Bool} (a:EL f 0 [Ah h]=some n) (e:Aq h f n=(l,b,0)) {i:Nat} (hi:i<l.length):EL f 0 (Jl h i)=some (l.getD i 0):=by
 unfold Aq at e;rw[BY (kO e)]at e;obtain⟨t,rfl,d⟩:=X2 vf _ _ _ _ _ _ e;have h1:=d i hi;have a:(if YN (AR f 0) (Ah h)<0 then none else some (YN (AR f 0) (Ah h)))=some n:=a;split at a
 ·cases a
 ·rename_i c;injection a with a
  show (if YN (AR f 0) (Ah h)<0 then none else EL f (YN (AR f 0) (Ah h)) _)=_;rw[An c,a];exact h1
theorem A4m {h:AH} (e:PT h=true) (ha:0<=Ah h) (i:Nat):FtP h (Jl h i):=by
 obtain⟨⟨h1,b⟩,-⟩:=kM e;have c:=d9 h (sb [70,73,82,83,84]);have d:=d9 h (sb [82,69,83,84]);have f:=d9 h (sb [65,82,71,83]);intro x a;rcases DO.1 a with rfl|a
 ·exact⟨ha,f.2⟩
 ·rcases No.1 a with a|a
  ·rw[(List.mem_replicate.1 a).2];exact⟨b,d.2⟩
  ·rw[YB.1 a];exact⟨h1,c.2⟩
def CG (h:AH) (ar:Int) (f:List AD):Int :=
 if ar<1\/2<ar then 2 else if Ai h f≠0 then Ai h f else if Ah h<0 then 13 else if (CZ f 0 [Ah h]).2=false then 13
 else if (Aq h f (CZ f 0 [Ah h]).1).2.2≠0\/(Aq h f (CZ f 0 [Ah h]).1).2.1=false\/((Aq h f (CZ f 0 [Ah h]).1).1.length:Int)≠ar then 13 else 0
structure eB (h:AH) (ar:Int) (f:List AD):Prop where
 arb:1<=ar/\ar<=2
 chk:Ai h f=0
 args:0<=Ah h
 lw:PT h=true
 walk:∀i:Nat,(i:Int)<ar->∃n,EL f 0 (Jl h i)=some n
theorem yI {h:AH} {ar:Int} {f:List AD} (vf:Ai h f=0->VF h f) (e:CG h ar f=0):eB h ar f:=by
 unfold CG at e;split at e
 ·cases e
 ·rename_i h1;split at e
  ·rename_i a;exact absurd e a
  ·rename_i a;have a:Ai h f=0:=by simpa using a
   have v:=vf a;split at e
   ·cases e
   ·rename_i j;split at e
    ·cases e
    ·rename_i d;split at e
     ·cases e
     ·rename_i b;have hp:=Xx v.good v.str [Ah h] 0;cases c:EL f 0 [Ah h] with
      | none =>
       rw[c]at hp;rw[hp]at d;exact absurd rfl d
      | some n =>
       rw[c]at hp;have hp:CZ f 0 [Ah h]=(n,true):=hp;rw[hp]at b;have b:(Aq h f n).2.2=0/\(Aq h f n).2.1=true/\((Aq h f n).1.length:Int)=ar:=by
        refine⟨?_,?_,?_⟩<;>grind
       have g:Aq h f n=((Aq h f n).1,true,0):=AFC rfl (AFC b.2.1 b.1);exact⟨by omega,a,by omega,kO g,λi hi=>⟨_,pA v c g (by omega)⟩⟩
section
open Go
end
section
attribute [local go_sem] o9 Sb atS Dg
theorem VF.h0 {h:AH} {f:List AD} (vf:VF h f):0<h.1.length:=by
 have hp:=vf.pos;have:=vf.ty _ (AE f (0,[]) (k:=0) (by omega));omega
noncomputable def A14 (h:AH) (f:List AD) (p:List Int) (g:List AD):List AD×Bool:=Ec h f (A6 p g)
noncomputable def A9Q:Aa:={ ins:=[ER,Da,Ft,Da],pre:=λ(h,f,p,g,_)=>HU h/\VF h f/\VF h g/\FtP h p/\List.length p<=20/\List.length f<=60/\List.length g<=20,out:=λ(h,f,p,g,_)=>[.p Da (A14 h f p g).1,.p .bool (A14 h f p g).2] }
theorem A9R:Ab Tryz.prog 126 A9Q:=by
 refine fK [0,1,2,3,4,5,7,8,9] Tryz.func126 Tryz.ntmps126 (AF A4k (AF A4f AG)) ?_;rintro w0 O0 ⟨⟨i,hf⟩,f,p,g,u⟩ a-⟨hu,vf,b,d,lp,lf,j⟩;have e:=Xq vf.h0 b d (by omega) (by omega);have h:=Gk p g;simp only[A9Q,AL];repeat'(first|exact trivial|refine eS rfl ?_|refine AB ?_|refine rX a ?_ ?_|refine rC ?_ ?_<;>intro c<;>try(cases c;done))
 ·exact⟨⟨by omega,b.good⟩,hu,vf,e,by omega⟩
 ·exact fI a [.cell 8 25,.tmp 9] (by unfold A14;exact eR)
def Yc (f:List AD) (p:List Int):List AD:=if (CZ f 0 p).2=true then AN f (CZ f 0 p).1 else []
def A9S:Aa:={ ins:=[Da,Ft],pre:=λ(f,p,_)=>AW f/\KG f/\0<List.length f/\((CZ f 0 p).2=true->0<=(CZ f 0 p).1/\(CZ f 0 p).1<(List.length f:Int)),out:=λ(f,p,_)=>[.p Da (Yc f p),.p .bool (CZ f 0 p).2] }
theorem A9T:Ab Tryz.prog 79 A9S:=by
 refine fK [0,1,2,4,5,6,7,15] Tryz.func79 Tryz.ntmps79 (AF A8E (AF A3t AG)) ?_;rintro w0 O0 ⟨f,p,u⟩ b-⟨hf,hs,h0,c⟩;simp only[A9S,AL];repeat'(first|exact trivial|refine eS rfl ?_|refine AB ?_|refine rX b ?_ ?_|refine rC ?_ ?_<;>intro a<;>try(cases a;done))
 ·exact⟨hf,h0⟩
 ·exact fI b [.cell 4 25,.tmp 5] (by unfold Yc;rw[a,An (by simp)];exact eR)
 ·exact⟨hf,hs,c a⟩
 ·exact fI b [.cell 4 25,.tmp 5] (by unfold Yc;rw[a,BY rfl];exact eR)
end
noncomputable def GK (h:AH) (ar:Int) (f:List AD) (A:List (List AD)):List AD×Bool :=
 if (A.length:Int)≠ar then ([],false) else if (Cg h (Jl h) 0 f A).2=true then (Ll (Cg h (Jl h) 0 f A).1 (Ah h),true) else ([],false)
structure RA (h:AH) (ar:Int) (f:List AD) (A:List (List AD)):Prop where
 hh:k9 h
 top:A0R h
 vf:VF h f
 lf:f.length<=12
 ok:eB h ar f
 va:∀x∈A,VF h x/\x.length<=12
 la:A.length<=3
theorem RA.wt {h:AH} {ar:Int} {f:List AD} {A:List (List AD)} (r:RA h ar f A):Wt h f:=⟨r.vf,A0X r.ok.chk⟩
theorem RA.un {h:AH} {ar:Int} {f:List AD} {A:List (List AD)} (r:RA h ar f A):∀x∈Ie (Jl h) 0 A,VF h x/\x.length<=100:=λx b=>by
 obtain⟨j,a,rfl⟩:=Xy b;have hp:=yH h (0+j);have hk:=r.va _ (AE A [] a);have c:=r.la;exact⟨Xq r.vf.h0 hk.1 (A4m r.ok.lw r.ok.args _) (by omega) (by omega),by rw[Gk];omega⟩
theorem RA.all {h:AH} {ar:Int} {f:List AD} {A:List (List AD)} (r:RA h ar f A):Mz h (f :: Ie (Jl h) 0 A) (Cg h (Jl h) 0 f A) :=
 X0 r.hh A 0 f [f] (A13 r.wt) (by simp[r.vf]) r.un (by have:=r.lf;have:=r.la;omega)
theorem RA.len {h:AH} {ar:Int} {f:List AD} {A:List (List AD)} (r:RA h ar f A):(Cg h (Jl h) 0 f A).1.length<=312:=by
 have:=Xz (h:=h) (pl:=Jl h) (l:=A) (i:=0) (f:=f) λx a=>(r.un x a).2;have:=r.lf;have:=r.la;omega
theorem RA.res {h:AH} {ar:Int} {f:List AD} {A:List (List AD)} (r:RA h ar f A) (a:(GK h ar f A).2=true):(A.length:Int)=ar/\TU h (f :: Ie (Jl h) 0 A) (Cg h (Jl h) 0 f A).1/\GK h ar f A=(Ll (Cg h (Jl h) 0 f A).1 (Ah h),true):=by
 unfold GK at a ⊢;by_cases h1:(A.length:Int)≠ar
 ·rw[BY h1]at a;cases a
 ·rw[An h1]at a ⊢;by_cases b:(Cg h (Jl h) 0 f A).2=true
  ·rw[BY b];exact⟨by omega,r.all.vf b,rfl⟩
  ·rw[An b]at a;cases a
section
theorem kP (s:ByteArray) (l:List G8) {k:Nat} (h:k<l.length):yE s k (l.drop k)=if AY (l.getD k TN).1 s=true then (k:Int) else yE s (k+1) (l.drop (k+1)):=by
 rw[TO h];have e:l.getD k TN=l[k]:=by simp[AS,h]
 rw[e];rfl
theorem kQ (s:ByteArray) (l:List ZS) {k:Nat} (h:k<l.length):ftG s k (l.drop k)=if AY (l.getD k (ByteArray.empty,0)).1 s=true then (k:Int) else ftG s (k+1) (l.drop (k+1)):=by
 rw[TO h];have e:l.getD k (ByteArray.empty,0)=l[k]:=by simp[AS,h]
 rw[e];rfl
def aD:Aa:={ ins:=[ER,T9],pre:=λ_=>True,out:=λ(h,s,_)=>[.p T3 (Hd h s)],lend:=true }
attribute [local go_sem] aD
theorem Nk:Ab Tryz.prog 60 aD:=by
 refine fK [0,1,2,4,5,10,20] Tryz.func60 Tryz.ntmps60 AG ?_;rintro w0 O0 ⟨⟨a,hf⟩,s,u⟩ e ⟨⟨⟨g,-⟩,-⟩,-⟩ -;simp only[AP]at g;simp only[aD,AL];repeat'(first|exact trivial|refine eS rfl ?_|refine AB ?_|refine rX e ?_ ?_|refine rC ?_ ?_<;>intro b<;>try(cases b;done))
 refine AJ (ι:={k:Nat//k<=a.length/\yE s k (a.drop k)=Hd (a,hf) s}) (λk=>⟨[(1,.p T9 s),(2,.bp 2 [] 0),(5,.p (.int .i64) (k.1:Int))],[(2,.box 31 true [.p Tr a,.p WB hf])]⟩) (λk=>a.length-k.1) ⟨0,IS _,rfl⟩ (eW [(2,.nm 2)]) (λk=>?_)
 ·obtain⟨k,hk,c⟩:=k;have f:=λh:k<a.length=>kP s a h;simp only;repeat'(first|exact trivial|refine eS rfl ?_|refine AB ?_|refine rX e ?_ ?_|refine rC ?_ ?_<;>intro b<;>try(cases b;done))
  ·exact b
  ·have d:k<a.length:=by exact eV
   rw[f d,BY b]at c;exact fI e [.tmp 4] (by rw[<-c];exact eR)
  ·omega
  ·have d:k<a.length:=by exact eV
   rw[f d,An (by rw[b];simp)]at c;exact⟨⟨k+1,by omega,c⟩,by simp only;omega,eW [(2,.nm 2)]⟩
  ·have d:a.drop k=[]:=By (by exact eV);rw[d]at c;exact fI e [.tmp 4] (by rw[<-c];first|exact eR|refine YM ?_;rfl)
def PU:Aa:={ ins:=[ER,T9],pre:=λ_=>True,out:=λ(h,s,_)=>[.p T3 (Xu h s)],lend:=true }
attribute [local go_sem] PU
theorem Sc:Ab Tryz.prog 70 PU:=by
 refine fK [0,1,2,4,5,10,20] Tryz.func70 Tryz.ntmps70 AG ?_;rintro w0 O0 ⟨⟨f,hf⟩,s,u⟩ d ⟨⟨-,g,-⟩,-⟩ -;simp only[AP]at g;simp only[PU,AL];repeat'(first|exact trivial|refine eS rfl ?_|refine AB ?_|refine rX d ?_ ?_|refine rC ?_ ?_<;>intro a<;>try(cases a;done))
 refine AJ (ι:={k:Nat//k<=hf.length/\ftG s k (hf.drop k)=Xu (f,hf) s}) (λk=>⟨[(1,.p T9 s),(2,.bp 2 [] 0),(5,.p (.int .i64) (k.1:Int))],[(2,.box 31 true [.p Tr f,.p WB hf])]⟩) (λk=>hf.length-k.1) ⟨0,IS _,rfl⟩ (eW [(2,.nm 2)]) (λk=>?_)
 ·obtain⟨k,hk,b⟩:=k;have e:=λh:k<hf.length=>kQ s hf h;simp only;repeat'(first|exact trivial|refine eS rfl ?_|refine AB ?_|refine rX d ?_ ?_|refine rC ?_ ?_<;>intro a<;>try(cases a;done))
  ·exact a
  ·have c:k<hf.length:=by exact eV
   rw[e c,BY a]at b;exact fI d [.tmp 4] (by rw[<-b];exact eR)
  ·omega
  ·have c:k<hf.length:=by exact eV
   rw[e c,An (by rw[a];simp)]at b;exact⟨⟨k+1,by omega,b⟩,by simp only;omega,eW [(2,.nm 2)]⟩
  ·have c:hf.drop k=[]:=By (by exact eV);rw[c]at b;exact fI d [.tmp 4] (by rw[<-b];first|exact eR|refine YM ?_;rfl)
def A4n:Aa:=PU
attribute [local go_sem] A4n
theorem X3:Ab Tryz.prog 67 PU:=by
 refine fK [0,1,2,4,5,6,8,9,10,11,20] Tryz.func67 Tryz.ntmps67 AG ?_;rintro w0 O0 ⟨⟨g,hf⟩,s,u⟩ b ⟨⟨-,f,-⟩,-⟩ -;simp only[AP]at f;simp only[PU,AL];repeat'(first|exact trivial|refine eS rfl ?_|refine AB ?_|refine rX b ?_ ?_|refine rC ?_ ?_<;>intro a<;>try(cases a;done))
 refine AJ (ι:={k:Nat//k<=hf.length/\ftG s k (hf.drop k)=Xu (g,hf) s}) (λk=>⟨[(1,.p T9 s),(8,.p WB hf),(9,.p (.int .i64) (hf.length:Int)),(10,.p (.int .i64) (k.1:Int))],[]⟩) (λk=>hf.length-k.1) ⟨0,IS _,rfl⟩ (eW []) (λk=>?_)
 ·obtain⟨k,hk,c⟩:=k;have e:=λh:k<hf.length=>kQ s hf h;simp only;repeat'(first|exact trivial|refine eS rfl ?_|refine AB ?_|refine rX b ?_ ?_|refine rC ?_ ?_<;>intro a<;>try(cases a;done))
  ·exact a
  ·refine cP 5 b ?_ ?_
   ·trivial
   ·refine ADR (j:=.i64) b (by kernel_rfl) ?_;refine rL b ?_ ?_
    ·trivial
    ·repeat'(first|exact trivial|refine eS rfl ?_|refine AB ?_|refine rX b ?_ ?_|refine rC ?_ ?_<;>intro a<;>try(cases a;done))
     ·have d:k<hf.length:=by exact eV
      rw[e d,BY a]at c;exact fI b [.tmp 4] (by rw[<-c];exact eR)
     ·omega
     ·have d:k<hf.length:=by exact eV
      rw[e d,An (by rw[a];simp)]at c;exact⟨⟨k+1,by omega,c⟩,by simp only;omega,eW []⟩
  ·have d:hf.drop k=[]:=By (by exact eV);rw[d]at c;exact fI b [.tmp 4] (by rw[<-c];first|exact eR|refine YM ?_;rfl)
theorem A7V (s:ByteArray) (t:G8):BJ Tryz.prog 180 [.p mK t,.bp 1 [] 0] [(1,.box 9 false [.p T9 s])] [1] (λres c=>res=.p .bool (AY t.1 s)/\c=[(1,.box 9 false [.p T9 s])]):=by
 refine Kv [0,1,2,3] [] [] Tryz.func180 Tryz.ntmps180 AG ?_;intro w0 K O0 ρ0 a d e;simp only[Ar];repeat'(first|exact trivial|refine eS rfl ?_|refine AB ?_|refine rX a ?_ ?_|refine rC ?_ ?_<;>intro b<;>try(cases b;done))
 refine Ev.ent (σ':=⟨[(3,.p .bool (AY t.1 s))],[(1,.box 9 false [.p T9 s])]⟩) ?_ (AC [(1,.nm 1)] rfl rfl ?_ ?_)
 ·exact fM a [.tmp 3] (.p .bool (AY t.1 s)) eT ⟨rfl,rfl⟩
 ·exact eN
 ·exact eN
theorem A15 (l:List G8) (s:ByteArray):BJ Tryz.prog 177 [.p Tr l,.clo 180 [1]] [(1,.box 9 false [.p T9 s])] [1] (λres g=>res=.p T3 (yE s 0 l)/\g=[(1,.box 9 false [.p T9 s])]):=by
 refine Kv [0,1,4,5,7,8,9,16] [] [] Tryz.func177 Tryz.ntmps177 AG ?_;intro w0 K O0 ρ0 b e j;have i:l.length<=140737488355328:=e.1.1;simp only[Ar];repeat'(first|exact trivial|refine eS rfl ?_|refine AB ?_|refine rX b ?_ ?_|refine rC ?_ ?_<;>intro a<;>try(cases a;done))
 refine AJ (ι:={k:Nat//k<=l.length/\yE s k (l.drop k)=yE s 0 l}) (λk=>⟨[(0,.p Tr l),(1,.clo 180 [1]),(7,.p (.int .i64) (l.length:Int)),(8,.p (.int .i64) (k.1:Int))],[(1,.box 9 false [.p T9 s])]⟩) (λk=>l.length-k.1) ⟨0,IS _,rfl⟩ (eW [(1,.nm 1)]) (λk=>?_)
 ·obtain⟨k,hk,hf⟩:=k;have f:=λh:k<l.length=>kP s l h;simp only;repeat'(first|exact trivial|refine eS rfl ?_|refine AB ?_|refine rX b ?_ ?_|refine rC ?_ ?_<;>intro a<;>try(cases a;done))
  ·have c:k<l.length:=IN.1 a;have d:=f c;refine cP 5 b ?_ ?_
   ·exact a
   ·refine rM b (A7V s (l.getD k TN)) [(1,.nm 1)] [] ?_ ?_ ?_
    ·exact eN
    ·exact eN
    ·rintro _ _ ⟨rfl,rfl⟩;refine⟨[(1,.nm 1)],.p .bool (AY (l.getD k TN).1 s),[(1,.box 9 false [.p T9 s])],rfl,rfl,?_,?_,rfl,rfl,CR ?_⟩
     ·exact eN
     ·exact eN
     ·repeat'(first|exact trivial|refine eS rfl ?_|refine AB ?_|refine rX b ?_ ?_|refine rC ?_ ?_<;>intro a<;>try(cases a;done))
      ·rw[BY a,hf]at d;refine Ev.ent (σ':=⟨[(4,.p (.int .i64) (k:Int))],[(1,.box 9 false [.p T9 s])]⟩) ?_ (AC [(1,.nm 1)] rfl rfl ?_ ?_)
       ·exact fM b [.tmp 4] (.p T3 (k:Int)) eT ⟨by rw[d],rfl⟩
       ·exact eN
       ·exact eN
      ·omega
      ·rw[An (by rw[a];simp)]at d;exact⟨⟨k+1,c,d.symm.trans hf⟩,by simp only;omega,eW [(1,.nm 1)]⟩
  ·have c:l.drop k=[]:=By (UA.1 a);rw[c]at hf;have hf:(-1:Int)=yE s 0 l:=hf;refine Ev.ent (σ':=⟨[(4,.p (.int .i64) (-1))],[(1,.box 9 false [.p T9 s])]⟩) ?_ (AC [(1,.nm 1)] rfl rfl ?_ ?_)
   ·exact fM b [.tmp 4] (.p T3 (-1)) eT ⟨by rw[hf],rfl⟩
   ·exact eN
   ·exact eN
def yJ:Aa:={ ins:=[ER,T9],pre:=λ_=>True,out:=λ(h,s,_)=>[.p T3 (Hd h s)],lend:=true }
attribute [local go_sem] yJ
theorem A7W:Ab Tryz.prog 138 yJ:=by
 refine fK [0,1,2,3,4] Tryz.func138 Tryz.ntmps138 AG ?_;rintro w0 O0 ⟨⟨c,hf⟩,s,u⟩ a - -;simp only[yJ,AL];refine Ev.ent (σ':=⟨[(0,.p ER (c,hf)),(1,.p T9 s)],[]⟩) ?_ (AC [] rfl rfl ?_ ?_)
 ·repeat'(first|exact trivial|refine eS rfl ?_|refine AB ?_|refine rX a ?_ ?_|refine rC ?_ ?_<;>intro b<;>try(cases b;done))
  refine cP 3 a ?_ ?_
  ·trivial
  ·refine rM a (A15 c s) [(1,.nm 3)] [] ?_ ?_ ?_
   ·exact eN
   ·exact eN
   ·rintro _ _ ⟨rfl,rfl⟩;refine⟨[(3,.nm 1)],.p T3 (yE s 0 c),[(3,.box 9 false [.p T9 s])],rfl,rfl,?_,?_,rfl,rfl,?_⟩
    ·exact eN
    ·exact eN
    ·refine rL a ?_ ?_
     ·trivial
     ·repeat'(first|exact trivial|refine eS rfl ?_|refine AB ?_|refine rX a ?_ ?_|refine rC ?_ ?_<;>intro b<;>try(cases b;done))
      exact fI a [.tmp 4] (by unfold Hd;exact eR)
 ·exact eN
 ·exact eN
theorem LP (h:AH):Hd h ⟨#[108,105,115,116]⟩=(BH h).list/\Hd h ⟨#[99,111,110,115]⟩=(BH h).cons/\Hd h ⟨#[110,117,108,108]⟩=(BH h).null/\Hd h ⟨#[100,108,105,115,116]⟩=(BH h).dlist/\Xu h ⟨#[70,73,82,83,84]⟩=(BH h).first/\Xu h ⟨#[82,69,83,84]⟩=(BH h).rest/\Xu h ⟨#[76,73,83,84]⟩=(BH h).head/\Xu h ⟨#[76,65,83,84]⟩=(BH h).last:=⟨rfl,rfl,rfl,rfl,rfl,rfl,rfl,rfl⟩
theorem Sd (h:AH):((BH h).list<(h.1.length:Int)/\(BH h).cons<(h.1.length:Int)/\(BH h).null<(h.1.length:Int)/\(BH h).dlist<(h.1.length:Int))/\(-1<=(BH h).list/\-1<=(BH h).cons/\-1<=(BH h).null/\-1<=(BH h).dlist) :=
 ⟨⟨(HG h _).2,(HG h _).2,(HG h _).2,(HG h _).2⟩,(HG h _).1,(HG h _).1,(HG h _).1,(HG h _).1⟩
theorem Se {α:Type} {f:List α} {n:Int} (h:0<=n/\n<(f.length:Int)):n.toNat<f.length:=by omega
end
section
attribute [local go_sem] aD PU dF cs4 cs5
def RM:Aa:={ ins:=[ER],pre:=λ(h,_)=>GL h,out:=λ(h,_)=>[.p .bool (PT h)],lend:=true }
attribute [local go_sem] RM
theorem pB:Ab Tryz.prog 47 RM:=by
 refine fK [0,1,2,3,4,5,26,44] Tryz.func47 Tryz.ntmps47 (AF Nk (AF Sc (AF Mo AG))) ?_;rintro w0 O0 ⟨⟨a,hf⟩,u⟩ d-hk;have hk:GL (a,hf):=hk;obtain⟨f,g,h,i,j,k,l,m⟩:=LP (a,hf);obtain⟨⟨r,s,t,v⟩,n,o,p,q⟩:=Sd (a,hf);simp only[RM,AL];repeat'(first|exact trivial|refine eS rfl ?_|refine AB ?_|refine rX d ?_ ?_|refine rC ?_ ?_<;>intro e<;>try(cases e;done))
 all_goals simp only[f,g,h,i,j,k,l,m]at *
 ·have c:PT (a,hf)=false:=by
   rw[AEf];intro b;unfold PT at b;simp only[AT,Fe]at b;omega
  exact fI d [.tmp 2] (by rw[c];exact eR)
 ·have c:PT (a,hf)=false:=by
   rw[AEf];intro b;unfold PT at b;simp only[AT,Fe]at b;omega
  exact fI d [.tmp 2] (by rw[c];exact eR)
 ·grind
 ·have c:PT (a,hf)=(BA (a,hf) (BH (a,hf)).list (BH (a,hf)).cons&&BA (a,hf) (BH (a,hf)).list (BH (a,hf)).null):=by
   unfold PT;rw[ADX (by omega),AFr]
  exact fI d [.tmp 2] (by rw[c];exact eR)
def eC:Aa:={ ins:=[ER,Da,T3,T9],pre:=λ(_,f,n,_)=>AW f/\(0:Int)<=n/\n<(List.length f:Int),out:=λ(h,f,n,s,_)=>[.p T3 (Dh (List.getD (f:List AD) n.toNat (0,[])).2 (Xu h s))],lend:=true }
attribute [local go_sem] eC
theorem X4:Ab Tryz.prog 92 eC:=by
 refine fK [0,1,2,3,4,5,8,9,10,22,36] Tryz.func92 Tryz.ntmps92 (AF Sc AG) ?_;rintro w0 O0 ⟨⟨l,hf⟩,f,n,s,u⟩ d-⟨g,hn⟩;have g:AW f:=g;have hn:0<=n/\n<(f.length:Int):=hn;simp only[eC,AL];repeat'(first|exact trivial|refine eS rfl ?_|refine AB ?_|refine rX d ?_ ?_|refine rC ?_ ?_<;>intro a<;>try(cases a;done))
 have o:=(g.2 _ (AE f (0,[]) (Se hn))).1;generalize m:Xu (l,hf) s=e at *;generalize j:(f.getD n.toNat (0,[])).2=L at *;refine AJ (ι:={k:Nat//k<=L.length/\Dh L e=Dh (L.drop k) e}) (λk=>⟨[(2,.p T3 n),(5,.bp 5 [] 0),(9,.p T3 e),(10,.p (.int .i64) (k.1:Int))],[(5,.box 25 true [.p FQ f])]⟩) (λk=>L.length-k.1) ⟨0,IS _,rfl⟩ (eW [(5,.nm 5)]) (λk=>?_)
 ·obtain⟨k,hk,b⟩:=k;have i:=λh:k<L.length=>Zr e L h;simp only;repeat'(first|exact trivial|refine eS rfl ?_|refine AB ?_|refine rX d ?_ ?_|refine rC ?_ ?_<;>intro a<;>try(cases a;done))
  all_goals try rw[j]at *
  ·exact hn
  ·exact⟨hn,a⟩
  ·exact⟨hn,by assumption⟩
  ·have c:k<L.length:=by exact eV
   rw[i c,BY a]at b;exact fI d [.tmp 8] (by rw[b];exact eR)
  ·omega
  ·have c:k<L.length:=by exact eV
   rw[i c,An a]at b;exact⟨⟨k+1,by omega,b⟩,by simp only;omega,eW [(5,.nm 5)]⟩
  ·have c:L.drop k=[]:=By (by exact eV);rw[c]at b;exact fI d [.tmp 8] (by rw[b];first|exact eR|refine YM ?_;rfl)
def eD:Aa:={ ins:=[ER,Da,T3],pre:=λ(_,f,n,_)=>AW f/\(0:Int)<=n/\n<(List.length f:Int),out:=λ(h,f,n,_)=>[.p .bool (RK (BH h) (List.getD (f:List AD) n.toNat (0,[])).2)],lend:=true }
attribute [local go_sem] eD
theorem aE:Ab Tryz.prog 140 eD:=by
 refine fK [0,1,2,3,4,6] Tryz.func140 Tryz.ntmps140 (AF X4 AG) ?_;rintro w0 O0 ⟨⟨g,hf⟩,f,n,u⟩ b-⟨a,hn⟩;have a:AW f:=a;obtain⟨h,i,j,k,d,e,l,m⟩:=LP (g,hf);simp only[eD,AL];repeat'(first|exact trivial|refine eS rfl ?_|refine AB ?_|refine rX b ?_ ?_|refine rC ?_ ?_<;>intro c<;>try(cases c;done))
 all_goals simp only[d,e]at *
 ·exact⟨⟨a,hn⟩,λ_=>⟨a,hn⟩⟩
 ·exact fI b [.tmp 6] (by unfold RK;exact eR)
def VC:Aa:={ ins:=[ER,Da,T3],pre:=λ(h,f,n,_)=>(PT h=true/\GL h)/\AW f/\Dv h f/\(0:Int)<=n/\n<(List.length f:Int),out:=λ(h,f,n,_)=>[.p .bool (Tx h (BH h) (List.getD (f:List AD) n.toNat (0,[])))],lend:=true }
attribute [local go_sem] VC
theorem aF:Ab Tryz.prog 113 VC:=by
 refine fK [0,1,2,3,4,6] Tryz.func113 Tryz.ntmps113 (AF aE (AF Nk (AF Mo AG))) ?_;rintro w0 O0 ⟨⟨a,hf⟩,f,n,u⟩ e-⟨⟨d,hk⟩,b,c,hn⟩;have d:PT (a,hf)=true:=d;have hk:GL (a,hf):=hk;have b:AW f:=b;have c:Dv (a,hf) f:=c;obtain⟨h,i,j,k,l,m,o,p⟩:=LP (a,hf);have hn:0<=n/\n<(f.length:Int):=hn;have q:=c _ (AE f (0,[]) (Se hn));obtain⟨-,t,s,-⟩:=kM d;obtain⟨⟨-,v1,r,-⟩,-⟩:=Sd (a,hf);simp only[VC,AL];repeat'(first|exact trivial|refine eS rfl ?_|refine AB ?_|refine rX e ?_ ?_|refine rC ?_ ?_<;>intro g<;>try(cases g;done))
 all_goals simp only[h,i,j,k,l,m,o,p]at *
 ·exact⟨⟨b,hn⟩,λ_=>hn,λ_=>⟨⟨⟨s,r⟩,q⟩,hk⟩⟩
 ·exact fI e [.tmp 6] (by unfold Tx;rw[AFt];exact eR)
def VD:Aa:={ ins:=[ER,Da,T3],pre:=λ(h,f,n,_)=>(PT h=true/\GL h)/\AW f/\Dv h f/\(0:Int)<=n/\n<(List.length f:Int),out:=λ(h,f,n,_)=>[.p .bool (Lm h (BH h) (List.getD (f:List AD) n.toNat (0,[])))],lend:=true }
attribute [local go_sem] VD
theorem A16:Ab Tryz.prog 94 VD:=by
 refine fK [0,1,2,3,4,6] Tryz.func94 Tryz.ntmps94 (AF X4 (AF Nk (AF Mo AG))) ?_;rintro w0 O0 ⟨⟨a,hf⟩,f,n,u⟩ e-⟨⟨d,hk⟩,b,c,hn⟩;have d:PT (a,hf)=true:=d;have hk:GL (a,hf):=hk;have b:AW f:=b;have c:Dv (a,hf) f:=c;obtain⟨h,i,j,k,l,m,o,p⟩:=LP (a,hf);have hn:0<=n/\n<(f.length:Int):=hn;have q:=c _ (AE f (0,[]) (Se hn));obtain⟨-,r,t,-⟩:=kM d;obtain⟨⟨-,v1,s,-⟩,-⟩:=Sd (a,hf);simp only[VD,AL];repeat'(first|exact trivial|refine eS rfl ?_|refine AB ?_|refine rX e ?_ ?_|refine rC ?_ ?_<;>intro g<;>try(cases g;done))
 all_goals simp only[h,i,j,k,l,m,o,p]at *
 ·exact⟨⟨b,hn⟩,λ_=>⟨b,hn⟩,λ_=>hn,λ_=>⟨⟨⟨r,v1⟩,q⟩,hk⟩⟩
 ·exact fI e [.tmp 6] (by unfold Lm Tg;rw[AFt];exact eR)
def RN:Aa:={ ins:=[ER,Da,T3],pre:=λ(h,f,n,_)=>(PT h=true/\GL h)/\AW f/\Dv h f/\(0:Int)<=n/\n<(List.length f:Int),out:=λ(h,f,n,_)=>[.p .bool (!Tx h (BH h) (List.getD (f:List AD) n.toNat (0,[]))&&OQ h (BH h) (List.getD (f:List AD) n.toNat (0,[])))],lend:=true }
attribute [local go_sem] RN
theorem pC:Ab Tryz.prog 95 RN:=by
 refine fK [0,1,2,3,4,6] Tryz.func95 Tryz.ntmps95 (AF aF (AF aE (AF Nk (AF Mo AG)))) ?_;rintro w0 O0 ⟨⟨a,hf⟩,f,n,u⟩ e-⟨⟨d,hk⟩,b,c,hn⟩;have d:PT (a,hf)=true:=d;have hk:GL (a,hf):=hk;have b:AW f:=b;have c:Dv (a,hf) f:=c;obtain⟨h,i,j,k,l,m,o,p⟩:=LP (a,hf);have hn:0<=n/\n<(f.length:Int):=hn;have q:=c _ (AE f (0,[]) (Se hn));obtain⟨-,r,t,-⟩:=kM d;obtain⟨⟨-,v1,s,-⟩,-⟩:=Sd (a,hf);simp only[RN,AL];repeat'(first|exact trivial|refine eS rfl ?_|refine AB ?_|refine rX e ?_ ?_|refine rC ?_ ?_<;>intro g<;>try(cases g;done))
 all_goals simp only[h,i,j,k,l,m,o,p]at *
 ·exact⟨⟨⟨d,hk⟩,b,c,hn⟩,λ_=>⟨b,hn⟩,λ_=>hn,λ_=>⟨⟨q,r,v1⟩,hk⟩⟩
 ·exact fI e [.tmp 6] (by unfold OQ;rw[AFt (BA _ _ _),<-Bool.and_assoc];exact eR)
def yK:Aa:={ ins:=[Ft,T3],pre:=λ_=>True,out:=λ(l,n,_)=>[.p .bool (w3 l n)],lend:=true }
attribute [local go_sem] yK
theorem A7X:Ab Tryz.prog 93 yK:=by
 refine fK [0,1,4,5,9,17] Tryz.func93 Tryz.ntmps93 AG ?_;rintro w0 O0 ⟨l,n,u⟩ d ⟨⟨g,-⟩,-⟩ -;simp only[AP]at g;simp only[yK,AL];repeat'(first|exact trivial|refine eS rfl ?_|refine AB ?_|refine rX d ?_ ?_|refine rC ?_ ?_<;>intro a<;>try(cases a;done))
 refine AJ (ι:={k:Nat//k<=l.length/\w3 l n=w3 (l.drop k) n}) (λk=>⟨[(0,.p Ft l),(1,.p T3 n),(5,.p (.int .i64) (k.1:Int))],[]⟩) (λk=>l.length-k.1) ⟨0,IS _,rfl⟩ (eW []) (λk=>?_)
 ·obtain⟨k,hk,b⟩:=k;have e:k<l.length->w3 (l.drop k) n=(l.getD k 0==n||w3 (l.drop (k+1)) n):=λh=>by
   rw[KN h];rfl
  simp only;repeat'(first|exact trivial|refine eS rfl ?_|refine AB ?_|refine rX d ?_ ?_|refine rC ?_ ?_<;>intro a<;>try(cases a;done))
  ·exact a
  ·have c:k<l.length:=by exact eV
   rw[e c,a,beq_self_eq_true,Bool.true_or]at b;exact fI d [.tmp 4] (by rw[b];exact eR)
  ·omega
  ·have c:k<l.length:=by exact eV
   have f:(l.getD k 0==n)=false:=ADC.2 a;rw[e c,f,AFs]at b;exact⟨⟨k+1,by omega,b⟩,by simp only;omega,eW []⟩
  ·have c:l.drop k=[]:=By (by exact eV);rw[c]at b;exact fI d [.tmp 4] (by rw[b];first|exact eR|refine YM ?_;rfl)
end
section
attribute [local go_sem] A9Q SL
noncomputable def A4o:Aa:={ ins:=[ER,Da,Ft,Da],pre:=λ(h,a,p,b,_)=>(k9 h/\A0R h)/\VF h a/\VF h b/\FtP h p/\List.length p<=20/\List.length a<=60/\List.length b<=20,out:=λ(h,a,p,b,_)=>[.p Da (HQ h a (A6 p b)).1,.p .bool (HQ h a (A6 p b)).2] }
attribute [local go_sem] A4o
theorem A9U:Ab Tryz.prog 72 A4o:=by
 refine fK [0,1,2,3,4,5,7,8,9,10,11,21] Tryz.func72 Tryz.ntmps72 (AF A9R (AF A3C AG)) ?_;rintro w0 O0 ⟨h,a,p,b,u⟩ e-⟨⟨hh,j⟩,va,i,d,g⟩;have hh:k9 h:=hh;have j:A0R h:=j;have va:VF h a:=va;have i:VF h b:=i;have g:p.length<=20/\a.length<=60/\b.length<=20:=g;have d:FtP h p:=d;simp only[A4o,AL];have f:(h.1,h.2)=h:=rfl;repeat'(first|exact trivial|refine eS rfl ?_|refine rX e ?_ ?_|refine rC ?_ ?_<;>intro c<;>try(cases c;done))
 ·exact⟨hh.hu,va,i,d,g⟩
 ·exact fI e [.cell 8 25,.tmp 9] (by unfold HQ;rw[f]at c;unfold A14 at c;rw[c,An Bool.false_ne_true];exact eR)
 ·exact A9M hh (TX c).vf
 ·exact fI e [.cell 8 25,.tmp 9] (by unfold HQ;rw[f]at c;unfold A14 at c;rw[c,BY rfl,f];unfold A14;exact eR)
end
section
attribute [local go_sem] A4n PU Dg cs4 cs5
theorem Ig (h:AH):Xu h ⟨#[65,82,71,83]⟩=Ah h:=rfl
def Tz (h:AH) (k:Nat):List Int:=Ah h :: List.replicate k (BH h).rest
theorem aG (h:AH) (k:Nat):Tz h (k+1)=Tz h k++[(BH h).rest]:=by
 unfold Tz;rw[AF5];rfl
theorem kR (h:AH) (k:Nat):(Tz h k).length=k+1:=by simp[Tz]
theorem yL (h:AH) (k:Nat):Jl h k=Tz h k++[(BH h).first]:=rfl
def kS:Aa:={ ins:=[ER,T3],pre:=λ(_,i,_)=>(0:Int)<=i/\(i:Int)<=100,out:=λ(h,i,_)=>[.p Ft (Jl h i.toNat)] }
attribute [local go_sem] kS
theorem A4p:Ab Tryz.prog 73 kS:=by
 refine qJ [0,1,2,4,5,9,10,11] [15,21] [] Tryz.func73 Tryz.ntmps73 (AF X3 AG) ?_;rintro w0 O0 ⟨h,i,u⟩ b-⟨c,d⟩;have c:(0:Int)<=(i:Int):=c;have d:(i:Int)<=100:=d;have n:(h.1,h.2)=h:=rfl;obtain⟨-,-,-,-,r,s,-,-⟩:=LP h;have q:=Ig h;simp only[kS,AL];obtain⟨m,rfl⟩:∃m:Nat,i=(m:Int):=⟨Int.toNat i,(ADu c).symm⟩;have o:m<=100:=UA.1 d;repeat'(first|exact trivial|refine eS rfl ?_|refine AB ?_|refine rX b ?_ ?_|refine rC ?_ ?_<;>intro a<;>try(cases a;done))
 refine AJ (ι:={k:Nat//k<=m}) (λk=>⟨[(2,.bp 2 [] 0),(5,.sr 8 T3 0 (k.1+1)),(9,.p T3 (m:Int)),(10,.p (.int .i64) (k.1:Int))],[(2,.box 31 true [.p Tr h.1,.p WB h.2]),(8,.arr 3 T3 (Tz h k.1))]⟩) (λk=>m-k.1) ⟨0,by omega⟩ (AC [(2,.nm 2),(8,.nm 8)] rfl rfl ?_ ?_) (λk=>?_)
 ·first|exact eN|refine eM ?_
  rfl
 ·first|exact eN|refine eM ?_
 ·obtain⟨k,hk⟩:=k;have f:=kR h k;have g:=aG h k;simp only;repeat'(first|exact trivial|refine eS rfl ?_|refine AB ?_|refine rX b ?_ ?_|refine rC ?_ ?_<;>intro a<;>try(cases a;done))
  ·simp only[AP];omega
  ·omega
  ·have e:k<m:=IN.1 a;refine⟨⟨k+1,e⟩,by simp only;omega,AC [(2,.nm 2),(8,.nm 8)] rfl rfl ?_ ?_⟩
   ·first|exact eN|refine eM ?_
    rw[g,As (by omega)];rfl
   ·first|exact eN|refine eM ?_
  ·simp only[AP];omega
  ·have e:k=m:=AE8 hk (UA.1 a);subst e;refine FP [8] ?_;have j:Jl h (Int.toNat (k:Int))=List.take (k+1+1) (List.take (k+1) (Tz h k)++[Xu (h.1,h.2) ⟨#[70,73,82,83,84]⟩]):=by
    rw[UG,yL,As (l:=Tz h k) (by omega),As (by rw[GO,f];exact NO _)];rfl
   exact fI b [.tmp 4] (by rw[j];exact eR)
theorem A4q {h:AH} (hu:HU h) {f:List AD} (v:PF h f) (l:f.length<=10000) (e:Int):AW (M0 f e)/\KG (M0 f e):=by
 have h0:=AE f (0,[]) v.pos;have n:(M0 f e).length=f.length+1:=by simp[M0]
 have i:∀x∈M0 f e,∃y∈f,x.2.length<=y.2.length/\Nr x.2/\∀a∈x.2,a∈y.2:=λx b=>by
  rcases No.1 b with b|b
  ·exact⟨x,b,NO _,v.str x b,λa ha=>ha⟩
  ·rw[YB.1 b];exact⟨_,h0,YH _ _,kL v.str e,λa ha=>Xs ha⟩
 refine⟨⟨by omega,λx b=>?_⟩,λx b=>?_⟩
 ·obtain⟨y,d,j,-,c⟩:=i x b;have k:=v.good.2 y d;refine⟨by omega,λa ha=>?_⟩;have:=k.2 a (c a ha);omega
 ·obtain⟨y,d,j,g,c⟩:=i x b;have m:=hu.ft;have:=XZ g λa ha=>by
   have:=v.ft y d a (c a ha);omega
  exact⟨(Ia _).2 g,by omega⟩
def VE:Aa:={ ins:=[Da,T3],pre:=λ(f,_,_)=>∃h,HU h/\PF h f/\List.length f<=10000,out:=λ(f,e,_)=>[.p Da (Ll f e)] }
attribute [local go_sem] VE
theorem aH:Ab Tryz.prog 74 VE:=by
 refine qJ [0,1,2,4,5,6,8,24,25,26,27,33] [37,44] [] Tryz.func74 Tryz.ntmps74 (AF A3t AG) ?_;rintro w0 O0 ⟨f,e,u⟩ d-⟨h,hu,hp,g⟩;have hp:PF h f:=hp;have g:f.length<=10000:=g;have h0:=hp.pos;simp only[VE,AL];have v:=(hp.good.2 _ (AE f (0,[]) h0)).1;repeat'(first|exact trivial|refine eS rfl ?_|refine AB ?_|refine rX d ?_ ?_|refine rC ?_ ?_<;>intro b<;>try(cases b;done))
 ·simp only[AP];omega
 ·exact IN.2 h0
 ·exact IN.2 h0
 ·have q:RI f e=(f.getD 0 (0,[])).2.filter λa=>a.1 != e:=rfl;have s:M0 f e=f++[((f.getD 0 (0,[])).1,RI f e)]:=rfl;have r:=A9P hp g e;generalize t:(f.getD 0 (0,[])).2=L at *;generalize (f.getD 0 (0,[])).1=ty at *;refine AJ (ι:={k:Nat//k<=L.length}) (λk=>⟨[(1,.p T3 e),(2,.bp 2 [] 0),(4,.bp 4 [] 0),(5,.bp 5 [] 0),(6,.bp 6 [] 0),(24,.p DS L),(25,.p (.int .i64) (L.length:Int)),(26,.p (.int .i64) (k.1:Int))],[(6,.box 93 true [.p T3 ty,.sr 38 AU 0 ((L.take k.1).filter λa=>a.1 != e).length]),(38,.arr 106 AU ((L.take k.1).filter λa=>a.1 != e)),(5,.box 25 true [.sr 9 Ls 0 f.length]),(9,.arr 93 Ls f),(4,.box 25 true [.raw (.slice none 0 0)]),(2,.box 25 true [.p FQ f])]⟩) (λk=>L.length-k.1) ⟨0,by omega⟩ (AC [(6,.nm 6),(38,.nil),(5,.nm 5),(9,.nm 9),(4,.nm 4),(2,.nm 2)] rfl rfl ?_ ?_) (λk=>?_)
  ·first|exact eN|refine eM ?_
   exact⟨rfl,rfl⟩
  ·first|exact eN|refine eM ?_
  ·obtain⟨k,hk⟩:=k;have j:=λhk:k<L.length=>Mm (λa:Int×Int=>a.1 != e) L hk;have o:=YH (λa:Int×Int=>a.1 != e) (L.take k);rw[ON]at o;simp only;repeat'(first|exact trivial|refine eS rfl ?_|refine AB ?_|refine rX d ?_ ?_|refine rC ?_ ?_<;>intro b<;>try(cases b;done))
   ·exact b
   ·simp only[AP];dsimp only[Ty.den]at *;omega
   ·omega
   ·have c:k<L.length:=by exact eV
    have n:((L.getD k (0,0)).1 != e)=true:=AEM.2 b;refine⟨⟨k+1,c⟩,by simp only;omega,AC [(6,.nm 6),(38,.nm 38),(5,.nm 5),(9,.nm 9),(4,.nm 4),(2,.nm 2)] rfl rfl ?_ ?_⟩
    ·simp only[j c,n,AD1];first|exact eN|refine eM ?_
    ·first|exact eN|refine eM ?_
   ·omega
   ·have c:k<L.length:=by exact eV
    refine⟨⟨k+1,c⟩,by simp only;omega,AC [(6,.nm 6),(38,.nm 38),(5,.nm 5),(9,.nm 9),(4,.nm 4),(2,.nm 2)] rfl rfl ?_ ?_⟩
    ·simp only[j c,b,ADB,AE4,UO];first|exact eN|refine eM ?_
    ·first|exact eN|refine eM ?_
   ·simp only[AP];omega
   ·have c:L.take k=L:=As (UA.1 b);rw[c,<-q,<-s];have m:(M0 f e).length=f.length+1:=by simp[M0]
    refine FP [9] ?_;have l:(M0 f e).take (f.length+1)=M0 f e:=As (Nat.le_of_eq m);have i:=A4q hu hp g e;repeat'(first|exact trivial|refine eS rfl ?_|refine AB ?_|refine rX d ?_ ?_|refine rC ?_ ?_<;>intro b<;>try(cases b;done))
    ·rw[l];exact⟨i.1,i.2,IN.2 (by rw[m];exact AF2 _)⟩
    ·exact fI d [.cell 4 25] (by rw[l,r];exact eR)
end
section
attribute [local go_sem] A4n PU kS VE A9S A4o cs4 cs5
def JO:Aa:={ ins:=[ER,T27],pre:=λ(h,r,_)=>HU h/\VF h r.2.2/\List.length r.2.2<=10000,out:=λ(h,r,_)=>[.p Da (Ll r.2.2 (Ah h))] }
attribute [local go_sem] JO
theorem aI:Ab Tryz.prog 28 JO:=by
 refine fK [0,1,2,3,4] Tryz.func28 Tryz.ntmps28 (AF X3 (AF aH AG)) ?_;rintro w0 O0 ⟨h,⟨nm,ar,f⟩,u⟩ a-⟨hu,vf,c⟩;simp only[JO,AL];repeat'(first|exact trivial|refine eS rfl ?_|refine AB ?_|refine rX a ?_ ?_|refine rC ?_ ?_<;>intro b<;>try(cases b;done))
 ·exact⟨h,hu,vf.pf,c⟩
 ·exact fI a [.cell 4 25] (by rw[<-Ig];exact eR)
noncomputable def M3 (h:AH) (ar:Int) (f:List AD) (i:Int):List AD×Bool:=if 0<=i/\i<ar then (Yc f (Jl h i.toNat),(CZ f 0 (Jl h i.toNat)).2) else ([],false)
theorem RP {h:AH} {f:List AD} (vf:VF h f) (p:List Int) (e:(CZ f 0 p).2=true):0<=(CZ f 0 p).1/\(CZ f 0 p).1<(f.length:Int):=by
 have ha:=Xx vf.good vf.str p 0;cases a:EL f 0 p with
 | none=>rw[a]at ha;rw[ha]at e;cases e
 | some n =>
  rw[a]at ha;rw[ha];exact A4c vf.good vf.pos p n a
noncomputable def PW:Aa:={ ins:=[ER,T27,T3],pre:=λ(h,r,i,_)=>(0:Int)<=i->(i:Int)<r.2.1->HU h/\VF h r.2.2/\(r.2.1:Int)<=2,out:=λ(h,r,i,_)=>[.p Da (M3 h r.2.1 r.2.2 i).1,.p .bool (M3 h r.2.1 r.2.2 i).2] }
attribute [local go_sem] PW
theorem A4r:Ab Tryz.prog 26 PW:=by
 refine fK [0,1,2,3,4,6,7,15] Tryz.func26 Tryz.ntmps26 (AF A4p (AF A9T AG)) ?_;rintro w0 O0 ⟨h,⟨nm,ar,f⟩,i,u⟩ c-hp;have hp:(0:Int)<=(i:Int)->(i:Int)<(ar:Int)->HU h/\VF h f/\(ar:Int)<=2:=hp;simp only[PW,AL];repeat'(first|exact trivial|refine eS rfl ?_|refine AB ?_|refine rX c ?_ ?_|refine rC ?_ ?_<;>intro a<;>try(cases a;done))
 ·have d:M3 h ar f i=([],false):=An λb=>by
   rcases a with h1|h1
   ·exact absurd b.1 (oR.2 h1)
   ·exact absurd b.2 (AAb.2 h1)
  exact fI c [.cell 6 25,.tmp 7] (by rw[d];exact eR)
 ·obtain⟨e,g⟩:=a;obtain⟨hu,vf,b⟩:=hp e g;exact⟨⟨e,ADD (AFy g) (ADD b (by decide))⟩,vf.good,vf.srt hu,vf.pos,RP vf _⟩
 ·have d:M3 h ar f i=(Yc f (Jl h (Int.toNat i)),(CZ f 0 (Jl h (Int.toNat i))).2):=BY a;exact fI c [.cell 6 25,.tmp 7] (by rw[d];exact eR)
def A7Y:Aa:={ ins:=[T55],pre:=λ_=>True,out:=λ(r,_)=>[.p T27 (r.1,(1:Int),r.2.2)] }
attribute [local go_sem] A7Y
theorem A9V:Ab Tryz.prog 30 A7Y:=by
 refine fK [0,1,2] Tryz.func30 Tryz.ntmps30 AG ?_;rintro w0 O0 ⟨⟨nm,c,f⟩,u⟩ a - -;simp only[A7Y,AL];repeat'(first|exact trivial|refine eS rfl ?_|refine AB ?_|refine rX a ?_ ?_|refine rC ?_ ?_<;>intro b<;>try(cases b;done))
 exact fI a [.cell 2 27]
noncomputable def Sf:Aa:={ ins:=[ER,T27,T38],pre:=λ(h,r,A,_)=>(List.length A:Int)=r.2.1->RA h r.2.1 r.2.2 A,out:=λ(h,r,A,_)=>[.p Da (GK h r.2.1 r.2.2 A).1,.p .bool (GK h r.2.1 r.2.2 A).2] }
attribute [local go_sem] Sf
theorem A4s:Ab Tryz.prog 23 Sf:=by
 refine fK [0,1,2,3,4,6,7,8,9,10,11,12,17,21,22,23,24,39] Tryz.func23 Tryz.ntmps23 (AF A4p (AF A9U (AF X3 (AF aH AG)))) ?_;rintro w0 O0 ⟨h,⟨nm,ar,f⟩,A,u⟩ d-hp;have hp:(List.length A:Int)=(ar:Int)->RA h ar f A:=hp;have F:(h.1,h.2)=h:=rfl;simp only[Sf,AL];repeat'(first|exact trivial|refine eS rfl ?_|refine AB ?_|refine rX d ?_ ?_|refine rC ?_ ?_<;>intro c<;>try(cases c;done))
 ·have j:GK h ar f A=([],false):=BY c;exact fI d [.cell 6 25,.tmp 7] (by rw[j];exact eR)
 ·have x:(A.length:Int)=ar:=by simpa using c
  have i:=hp x;have j:GK h ar f A=if (Cg h (Jl h) 0 f A).2=true then (Ll (Cg h (Jl h) 0 f A).1 (Ah h),true) else ([],false):=An (by omega)
  have E:=i.la;have z:=yH h;have q:=A4m i.ok.lw i.ok.args;have D:=i.va;refine AJ (ι:={s:Nat×List AD//s.1<=A.length/\Cg h (Jl h) 0 f A=Cg h (Jl h) s.1 s.2 (A.drop s.1)/\VF h s.2/\s.2.length<=12+16*s.1}) (λs=>⟨[(3,.bp 3 [] 0),(6,.bp 6 [] 0),(8,.bp 8 [] 0),(21,.p T38 A),(22,.p (.int .i64) (A.length:Int)),(23,.p (.int .i64) (s.1.1:Int))],[(3,.box 31 true [.p Tr h.1,.p WB h.2]),(6,.box 25 true [.raw (.slice none 0 0)]),(8,.box 25 true [.p FQ s.1.2])]⟩) (λs=>A.length-s.1.1) ⟨(0,f),IS _,rfl,i.vf,by have:=i.lf;simp only;omega⟩ (AC [(3,.nm 3),(6,.nm 6),(8,.nm 8)] rfl rfl ?_ ?_) (λs=>?_)
  ·first|exact eN|refine eM ?_
  ·first|exact eN|refine eM ?_
  ·obtain⟨⟨k,g⟩,hk,m,n,w⟩:=s;simp only at hk m n w ⊢;have B:∀l:k<A.length,Cg h (Jl h) k g (A.drop k)=if (HQ h g (A6 (Jl h k) (A.getD k []))).2=true then Cg h (Jl h) (k+1) (HQ h g (A6 (Jl h k) (A.getD k []))).1 (A.drop (k+1)) else ([],false):=λl=>by
    rw[Mi [] l];rfl
   repeat'(first|exact trivial|refine eS rfl ?_|refine AB ?_|refine rP d ?_ ?_|fail)
   refine rC (λc=>?_) λc=>?_
   ·repeat'(first|exact trivial|refine eS rfl ?_|refine AB ?_|refine rP d ?_ ?_|fail)
    ·exact c
    ·have l:k<A.length:=IN.1 c;have o:=D _ (AE A [] l);have H:=Gk (Jl h k) (A.getD k []);have y:=z k;have r:=B l;have G:=d7 (h:=h) (a:=g) (b:=A6 (Jl h k) (A.getD k []));have C:=yC i.hh n (Xq n.h0 o.1 (q k) (by omega) (by omega)) (by omega);refine CV drawsAny d 12 [([0,1,2,3,4,5,6,7,8,10],11)] [9] (by kernel_rfl) (NQ ?_ ?_)
     ·exact⟨show (k:Int)<=100 by omega,⟨i.hh,i.top⟩,n,o.1,q k,by rw[y];omega,by omega,UD o.2 (by decide)⟩
     ·refine PY d [] ?_ ?_
      ·trivial
      ·refine S8 d ?_ ?_ ?_
       ·trivial
       ·trivial
       ·repeat'(first|exact trivial|refine eS rfl ?_|refine AB ?_|refine rX d ?_ ?_|refine rC ?_ ?_<;>intro c<;>try(cases c;done))
        ·have t:¬(HQ h g (A6 (Jl h k) (A.getD k []))).2=true:=λe=>by
          have c:(HQ h g (A6 (Jl h k) (A.getD k []))).2=false:=c;rw[e]at c;cases c
         rw[m,r,An t]at j;have j:GK h ar f A=([],false):=j;exact fI d [.cell 6 25,.tmp 7] (by rw[j];exact eR)
        ·omega
        ·refine⟨⟨(k+1,(HQ h g (A6 (Jl h k) (A.getD k []))).1),l,m.trans (r.trans (BY c)),(C.vf c).wt.1,by simp only;omega⟩,by simp only;omega,AC [(3,.nm 3),(6,.nm 6),(8,.nm 8)] rfl rfl ?_ ?_⟩
         ·first|exact eN|refine eM ?_
         ·first|exact eN|refine eM ?_
   ·have v:A.drop k=[]:=By (UA.1 c);rw[v]at m;rw[m]at j;have j:GK h ar f A=(Ll g (Ah h),true):=j;repeat'(first|exact trivial|refine eS rfl ?_|refine AB ?_|refine rX d ?_ ?_|refine rC ?_ ?_<;>intro c<;>try(cases c;done))
    ·exact⟨h,i.hh.hu,n.pf,by omega⟩
    ·exact fI d [.cell 6 25,.tmp 7] (by rw[j,<-Ig];exact eR)
end
section
attribute [local go_sem] yJ A4n PU Wj cs4 cs5
def wdF (h:AH) (w:LW):gP.den:=(h,w.list,w.cons,w.null,w.dlist,w.first,w.rest,w.head,w.last)
def lwO (w:gP.den):LW:=⟨w.2.1,w.2.2.1,w.2.2.2.1,w.2.2.2.2.1,w.2.2.2.2.2.1,w.2.2.2.2.2.2.1,w.2.2.2.2.2.2.2.1,w.2.2.2.2.2.2.2.2⟩
def kT:Aa:={ ins:=[Da,T3,T3],pre:=λ(f,n,_)=>AW f/\(0:Int)<=n/\n<(List.length f:Int),out:=λ(f,n,e,_)=>[.p T3 (Dh (List.getD (f:List AD) n.toNat (0,[])).2 e)],lend:=true }
attribute [local go_sem] kT
theorem eE:Ab Tryz.prog 89 kT:=by
 refine fK [0,1,2,3,6,8,14,15,16,17,23] Tryz.func89 Tryz.ntmps89 AG ?_;rintro w0 O0 ⟨f,n,e,u⟩ d-⟨g,hn⟩;have g:AW f:=g;have hn:0<=n/\n<(f.length:Int):=hn;simp only[kT,AL];repeat'(first|exact trivial|refine eS rfl ?_|refine AB ?_|refine rX d ?_ ?_|refine rC ?_ ?_<;>intro a<;>try(cases a;done))
 ·exact hn
 ·have j:=(g.2 _ (AE f (0,[]) (Se hn))).1;generalize (f.getD n.toNat (0,[])).2=L at *;refine AJ (ι:={k:Nat//k<=L.length/\Dh L e=Dh (L.drop k) e}) (λk=>⟨[(2,.p T3 e),(14,.p DS L),(15,.p (.int .i64) (L.length:Int)),(16,.p (.int .i64) (k.1:Int))],[]⟩) (λk=>L.length-k.1) ⟨0,IS _,rfl⟩ (eW []) (λk=>?_)
  ·obtain⟨k,hk,b⟩:=k;have i:=λh:k<L.length=>Zr e L h;simp only;repeat'(first|exact trivial|refine eS rfl ?_|refine AB ?_|refine rX d ?_ ?_|refine rC ?_ ?_<;>intro a<;>try(cases a;done))
   ·exact a
   ·have c:k<L.length:=by exact eV
    rw[i c,BY a]at b;exact fI d [.tmp 6] (by rw[b];exact eR)
   ·omega
   ·have c:k<L.length:=by exact eV
    rw[i c,An a]at b;exact⟨⟨k+1,by omega,b⟩,by simp only;omega,eW []⟩
   ·have c:L.drop k=[]:=By (by exact eV);rw[c]at b;exact fI d [.tmp 6] (by rw[b];first|exact eR|refine YM ?_;rfl)
def WOk (h:AH) (w:LW):Prop:=(0<=w.cons/\w.cons<(h.1.length:Int))/\(0<=w.null/\w.null<(h.1.length:Int))
def X5:Aa:={ ins:=[gP,Da,T3],pre:=λ(w,f,n,_)=>WOk w.1 (lwO w)/\AW f/\Dv w.1 f/\(0:Int)<=n/\n<(List.length f:Int),out:=λ(w,f,n,_)=>[.p T3 (BQ w.1 (lwO w) (List.getD (f:List AD) n.toNat (0,[])))],lend:=true }
attribute [local go_sem] X5
theorem kU:Ab Tryz.prog 91 X5:=by
 refine fK [0,1,2,3,4,6,7,8,9,28,43,56] Tryz.func91 Tryz.ntmps91 (AF eE (AF cX AG)) ?_;rintro w0 O0 ⟨⟨h,l,c,d,dl,a,e,b,la⟩,f,n,u⟩ i-⟨j,k,m,hn⟩;have j:WOk h ⟨l,c,d,dl,a,e,b,la⟩:=j;have k:AW f:=k;have m:Dv h f:=m;have hn:0<=n/\n<(f.length:Int):=hn;have o:=m _ (AE f (0,[]) (Se hn));simp only[X5,AL];repeat'(first|exact trivial|refine eS rfl ?_|refine AB ?_|refine rX i ?_ ?_|refine rC ?_ ?_<;>intro p<;>try(cases p;done))
 ·exact hn
 ·exact⟨k,hn⟩
 ·exact⟨j.2,o⟩
 ·have g:BQ h ⟨l,c,d,dl,a,e,b,la⟩ (f.getD n.toNat (0,[]))=1:=by
   unfold BQ Tx Lm OQ RK Tg;simp only[AT,Fe];grind
  exact fI i [.tmp 6] (by rw[show lwO (h,l,c,d,dl,a,e,b,la)=⟨l,c,d,dl,a,e,b,la⟩ from rfl,g];exact eR)
 ·exact⟨j.1,o⟩
 ·have g:BQ h ⟨l,c,d,dl,a,e,b,la⟩ (f.getD n.toNat (0,[]))=2:=by
   unfold BQ Tx Lm OQ RK Tg;simp only[AT,Fe];grind
  exact fI i [.tmp 6] (by rw[show lwO (h,l,c,d,dl,a,e,b,la)=⟨l,c,d,dl,a,e,b,la⟩ from rfl,g];exact eR)
 ·exact⟨o,j.1⟩
 ·have g:BQ h ⟨l,c,d,dl,a,e,b,la⟩ (f.getD n.toNat (0,[]))=3:=by
   unfold BQ Tx Lm OQ RK Tg;simp only[AT,Fe];grind
  exact fI i [.tmp 6] (by rw[show lwO (h,l,c,d,dl,a,e,b,la)=⟨l,c,d,dl,a,e,b,la⟩ from rfl,g];exact eR)
 ·have g:BQ h ⟨l,c,d,dl,a,e,b,la⟩ (f.getD n.toNat (0,[]))=0:=by
   unfold BQ Tx Lm OQ RK Tg;simp only[AT,Fe];grind
  exact fI i [.tmp 6] (by rw[show lwO (h,l,c,d,dl,a,e,b,la)=⟨l,c,d,dl,a,e,b,la⟩ from rfl,g];exact eR)
theorem A7Z {a b:Int}:(if b<a then b else a)<0↔a<0\/b<0:=by split<;>omega
theorem A80 {a b:Int}:(0<=if b<a then b else a)↔0<=a/\0<=b:=by split<;>omega
def A8F:gP.den:=(([],[]),0,0,0,0,0,0,0,0)
def X6:Aa:={ ins:=[ER],pre:=λ_=>True,out:=λ(h,_)=>[.p gP (if PT h=true then wdF h (BH h) else A8F),.p Lr (if PT h=true then 0 else 5)] }
attribute [local go_sem] X6
theorem A4t:Ab Tryz.prog 88 X6:=by
 refine fK [0,1,2,3,4,58] Tryz.func88 Tryz.ntmps88 (AF A7W (AF X3 (AF cX AG))) ?_;rintro w0 O0 ⟨⟨a,hf⟩,u⟩ b - -;obtain⟨f,g,i,j,k,l,m,n⟩:=LP (a,hf);obtain⟨⟨s,t,v,w⟩,o,p,q,r⟩:=Sd (a,hf);simp only[X6,AL];repeat'(first|exact trivial|refine eS rfl ?_|refine AB ?_|refine rX b ?_ ?_|refine rC ?_ ?_<;>intro e<;>try(cases e;done))
 all_goals simp only[f,g,i,j,k,l,m,n,A7Z,A80]at *
 ·refine⟨λh=>?_,λh=>?_⟩<;>simp only[UB,iF,On,not_or]at h<;>grind
 ·have c:PT (a,hf)=false:=by
   rw[AEf];intro d;unfold PT at d;simp only[AT,Fe]at d;grind
  exact fI b [.cell 2 115,.tmp 3] (by simp only[c,ADB,AE4,A8F];exact eR)
 ·have c:PT (a,hf)=true:=by
   unfold PT;simp only[AT,Fe];grind
  exact fI b [.cell 2 115,.tmp 3] (by simp only[c,AD1,wdF];exact eR)
end
section
attribute [local go_sem] X6 X5 kT
def Dw (h:AH) (w:LW):Obj:=.box 115 true [.p ER h,.p T3 w.list,.p T3 w.cons,.p T3 w.null,.p T3 w.dlist,.p T3 w.first,.p T3 w.rest,.p T3 w.head,.p T3 w.last]
theorem A4u (h:AH) (w:LW) (f:List AD) (n:Int):BJ Tryz.prog 90 [.p gP (wdF h w),.p Da f,.p T3 n] [] [] (λres c=>res=.clo 139 [5,3,4]/\c=[(5,.box 3 false [.p T3 n]),(4,.box 25 true [.p FQ f]),(3,Dw h w)]):=by
 refine Kv [0,1,2,3,4,5,6] [] [] Tryz.func90 Tryz.ntmps90 AG ?_;intro w0 K O0 ρ0 a d e;simp only[Ar,wdF];repeat'(first|exact trivial|refine eS rfl ?_|refine AB ?_|refine rX a ?_ ?_|refine rC ?_ ?_<;>intro b<;>try(cases b;done))
 exact fM a [.tmp 6] (.clo 139 [5,3,4]) eT ⟨rfl,rfl⟩
abbrev WS:=List Int×List Int×Bool×Int
def GN (f:List AD) (n:Int):AD:=f.getD n.toNat (0,[])
def aJ (h:AH) (w:LW) (f:List AD) (s:WS):WS:=(s.1++[s.2.2.2],if BQ h w (GN f s.2.2.2)=2 then s.2.1++[Dh (GN f s.2.2.2).2 w.first] else s.2.1,decide (BQ h w (GN f s.2.2.2)=1),Dh (GN f s.2.2.2).2 w.rest)
def A2 (h:AH) (w:LW) (f:List AD) (n:Int):Nat->WS
 | 0=>([],[],false,n)
 | i+1=>aJ h w f (A2 h w f n i)
def WGo (h:AH) (w:LW) (f:List AD) (n:Int) (i:Nat):Prop:=∀j,j<i->BQ h w (GN f (A2 h w f n j).2.2.2)=2/\(A2 h w f n j).2.2.2∉(A2 h w f n j).1
theorem A17 (h:AH) (w:LW) (x:AD):BQ h w x=0\/BQ h w x=1\/BQ h w x=2\/BQ h w x=3:=by
 unfold BQ;split
 ·exact .inr (.inl rfl)
 ·split
  ·exact .inr (.inr (.inl rfl))
  ·split
   ·exact .inr (.inr (.inr rfl))
   ·exact .inl rfl
theorem RQ {h:AH} {w:LW} {f:List AD} {n:Int} (hf:AW f) (n0:0<=n) (n1:n<(f.length:Int)):∀i,WGo h w f n i->KP f (A2 h w f n i).1/\(A2 h w f n i).1.length=i/\(0<=(A2 h w f n i).2.2.2/\(A2 h w f n i).2.2.2<(f.length:Int))/\(A2 h w f n i).2.1.length=i
 | 0,_=>⟨GH f,rfl,⟨n0,n1⟩,rfl⟩
 | i+1,c=>by
  obtain⟨h1,d,a,e⟩:=RQ hf n0 n1 i (λj l=>c j (by omega));obtain⟨b,g⟩:=c i (by omega);have hk:=aC b;refine⟨h1.snoc a.1 a.2 g,?_,⟨hk.2,?_⟩,?_⟩
  ·show ((A2 h w f n i).1++_).length=_;rw[GO,d];rfl
  ·exact xM (by omega) _ λx k=>(BE hf (n:=(A2 h w f n i).2.2.2) k).2
  ·show (if _ then _ else _:List Int).length=_;rw[BY b,GO,e];rfl
theorem kV {h:AH} {w:LW} {f:List AD} {n:Int} (k:Nat):∀i,WGo h w f n i->RL h w f (k+i) [] [] n=RL h w f k (A2 h w f n i).1 (A2 h w f n i).2.1 (A2 h w f n i).2.2.2
 | 0,_=>rfl
 | i+1,b=>by
  have e:=kV (h:=h) (w:=w) (f:=f) (n:=n) (k+1) i (λj g=>b j (by omega));obtain⟨a,d⟩:=b i (by omega);rw[show k+(i+1)=k+1+i by omega,e];have c:BQ h w (f.getD (A2 h w f n i).2.2.2.toNat (0,[]))=2:=a;show (if _ then _ else _)=_;rw[An d,c,An (by decide),An (by decide),An (by decide)];show _=RL h w f k (aJ h w f (A2 h w f n i)).1 (aJ h w f (A2 h w f n i)).2.1 (aJ h w f (A2 h w f n i)).2.2.2;unfold aJ;rw[BY a];rfl
theorem kW {h:AH} {f:List AD} {n:Int} (hf:AW f) (j:PT h=true) (n0:0<=n) (n1:n<(f.length:Int)) {i:Nat} (c:WGo h (BH h) f n i) :
  ((A2 h (BH h) f n i).2.2.2∈(A2 h (BH h) f n i).1->Aq h f n=([],false,6)) /\
  ((A2 h (BH h) f n i).2.2.2∉(A2 h (BH h) f n i).1->BQ h (BH h) (GN f (A2 h (BH h) f n i).2.2.2)=0->Aq h f n=([],false,13)) /\
  ((A2 h (BH h) f n i).2.2.2∉(A2 h (BH h) f n i).1->BQ h (BH h) (GN f (A2 h (BH h) f n i).2.2.2)≠0->BQ h (BH h) (GN f (A2 h (BH h) f n i).2.2.2)≠2->Aq h f n=((A2 h (BH h) f n (i+1)).2.1,(A2 h (BH h) f n (i+1)).2.2.1,0)):=by
 obtain⟨h1,k,l,-⟩:=RQ hf n0 n1 i c;have m:=h1.len;have e:Aq h f n=RL h (BH h) f ((f.length-i)+1) (A2 h (BH h) f n i).1 (A2 h (BH h) f n i).2.1 (A2 h (BH h) f n i).2.2.2:=by
  unfold Aq;rw[BY j,<-kV _ _ c,show f.length-i+1+i=f.length+1 by omega]
 rw[e];show (_->(if _ then _ else _)=_)/\(_->_->(if _ then _ else _)=_)/\(_->_->_->(if _ then _ else _)=_);refine⟨λq=>BY q,λb a=>?_,λb a d=>?_⟩
 ·have a:BQ h (BH h) (f.getD (A2 h (BH h) f n i).2.2.2.toNat (0,[]))=0:=a;rw[An b,a];rfl
 ·have hk:=A17 h (BH h) (GN f (A2 h (BH h) f n i).2.2.2);have hs:(A2 h (BH h) f n (i+1)).2.1=(A2 h (BH h) f n i).2.1:=An d;have g:(A2 h (BH h) f n (i+1)).2.2.1=decide (BQ h (BH h) (GN f (A2 h (BH h) f n i).2.2.2)=1):=rfl;rw[An b,hs,g];show (if BQ h (BH h) (GN f (A2 h (BH h) f n i).2.2.2)=1 then _ else if BQ h (BH h) (GN f (A2 h (BH h) f n i).2.2.2)=3 then _ else _)=_;rcases hk with hk|hk|hk|hk
  ·exact absurd hk a
  ·rw[hk];rfl
  ·exact absurd hk d
  ·rw[hk];rfl
def wE:List (Nat×AV):=[(4,.bp 4 [] 0),(6,.bp 6 [] 0),(7,.bp 7 [] 0),(8,.bp 8 [] 0),(9,.bp 9 [] 0),(11,.bp 11 [] 0),(12,.bp 12 [] 0),(13,.bp 13 [] 0)]
def wO (h:AH) (w:LW) (f:List AD) (L:Go.Loop) (a:Array Value) (s:WS) (m e:Int):List (Nat×Obj):=[(50,.box 3 false [.p T3 m]),(51,Dw h w),(52,.box 25 true [.p FQ f]),(101,.loop L),(102,.frame a wE),(6,.box 61 false [.raw (.slice none 0 0)]),(7,.box 4 false [.p .bool false]),(8,.box 35 false [.p Lr e]),(9,Dw h w),(4,.box 25 true [.p FQ f]),(11,.box 61 false [.sr 60 T3 0 s.2.1.length]),(60,.arr 3 T3 s.2.1),(12,.box 4 false [.p .bool s.2.2.1]),(13,.box 119 false [.mp 24]),(24,.mapo T3 .bool (Lk s.1))]
def JP (L:Go.Loop):Go.Loop:={ L with state:=.done,pending:=some .ret }
def WRd (h:AH) (w:LW) (f:List AD) (n:Int) (L:Go.Loop) (a:Array Value) (i:Nat) (b:Bool) (O:List (Nat×Obj)):Prop :=
 ((A2 h w f n i).2.2.2∈(A2 h w f n i).1/\b=false/\O=wO h w f (JP L) a (A2 h w f n i) (A2 h w f n i).2.2.2 6) \/
 ((A2 h w f n i).2.2.2∉(A2 h w f n i).1/\BQ h w (GN f (A2 h w f n i).2.2.2)=0/\b=false/\O=wO h w f (JP L) a (A2 h w f n i) (A2 h w f n i).2.2.2 13) \/
 ((A2 h w f n i).2.2.2∉(A2 h w f n i).1/\BQ h w (GN f (A2 h w f n i).2.2.2)≠0/\b=true/\O=wO h w f L a (A2 h w f n (i+1)) (A2 h w f n i).2.2.2 0)
theorem A18 (h:AH) (w:LW) (f:List AD) (n:Int) (E:WOk h w) (hf:AW f) (D:Dv h f) (n0:0<=n) (n1:n<(f.length:Int)) (L:Go.Loop) (d:Array Value)
  (m:∀i,WGo h w f n i->Y6 Tryz.prog 101 [.p T3 (A2 h w f n i).2.2.2] (wO h w f L d (A2 h w f n i) (A2 h w f n i).2.2.2 0) [50,51,52,101,102,6,7,8,9,4,11,12,13,24] (λres k=>∃b,res=.p .bool b/\WRd h w f n L d i b k)) :
  BJ Tryz.prog 139 [.yl 101,.bp 50 [] 0,.bp 51 [] 0,.bp 52 [] 0] (wO h w f L d (A2 h w f n 0) n 0) [50,51,52,101,102,6,7,8,9,4,11,12,13,24] (λres k=>res=.raw (.tuple #[])/\∃i b,WGo h w f n i/\WRd h w f n L d i b k/\(b=true->BQ h w (GN f (A2 h w f n i).2.2.2)≠2)):=by
 refine Kv [0,1,2,3,14] [] [] Tryz.func139 Tryz.ntmps139 (AF kU (AF eE AG)) ?_;intro w0 K O0 ρ0 a B C;simp only[Ar,wO,Dw];have t:=m;clear m;repeat'(first|exact trivial|refine eS rfl ?_|refine AB ?_|refine rX a ?_ ?_|refine rC ?_ ?_<;>intro c<;>try(cases c;done))
 refine AJ (ι:={i:Nat//WGo h w f n i}) (λi=>⟨[(0,.yl 101),(1,.bp 50 [] 0),(2,.bp 51 [] 0),(3,.bp 52 [] 0)],wO h w f L d (A2 h w f n i.1) (A2 h w f n i.1).2.2.2 0⟩) (λi=>f.length+1-i.1) ⟨0,λj o=>by omega⟩ (AC [(50,.nm 50),(51,.nm 51),(52,.nm 52),(101,.nm 101),(102,.nm 102),(6,.nm 6),(7,.nm 7),(8,.nm 8),(9,.nm 9),(4,.nm 4),(11,.nm 11),(60,.nm 60),(12,.nm 12),(13,.nm 13),(24,.nm 24)] rfl rfl ?_ ?_) (λi=>?_)
 ·simp only[wO,Dw,wE,A2];first|exact eN|refine eM ?_
 ·simp only[wO,Dw,wE,A2];first|exact eN|refine eM ?_
 ·obtain⟨i,hi⟩:=i;obtain⟨q,x,r,y⟩:=RQ hf n0 n1 i hi;have u:=t i hi;have z:=q.len;have A:A2 h w f n (i+1)=aJ h w f (A2 h w f n i):=rfl;simp only[wO,Dw,wE];repeat'(first|exact trivial|refine eS rfl ?_|refine AB ?_|refine rX a ?_ ?_|refine rC ?_ ?_<;>intro c<;>try(cases c;done))
  refine cG 2 a ?_ ?_
  ·trivial
  ·refine rY 101 101 a (u) [(50,.nm 50),(51,.nm 51),(52,.nm 52),(101,.nm 101),(102,.nm 102),(6,.nm 6),(7,.nm 7),(8,.nm 8),(9,.nm 9),(4,.nm 4),(11,.nm 11),(60,.nm 60),(12,.nm 12),(13,.nm 13),(24,.nm 24)] [60] ?_ ?_ ?_
   ·first|exact eN|refine eM ?_
   ·simp only[wO,Dw,wE];first|exact eN|refine eM ?_
   ·rintro _ _ ⟨b,rfl,g⟩;have s:=g;rcases s with ⟨l,rfl,rfl⟩|⟨l,v,rfl,rfl⟩|⟨l,v,rfl,rfl⟩
    ·refine⟨[(50,.nm 50),(51,.nm 51),(52,.nm 52),(101,.nm 101),(102,.nm 102),(6,.nm 6),(7,.nm 7),(8,.nm 8),(9,.nm 9),(4,.nm 4),(11,.nm 11),(60,.nm 60),(12,.nm 12),(13,.nm 13),(24,.nm 24)],.p .bool false,wO h w f (JP L) d (A2 h w f n i) (A2 h w f n i).2.2.2 6,rfl,rfl,?_,?_,rfl,rfl,?_⟩
     ·simp only[wO,Dw,wE];first|exact eN|refine eM ?_
     ·first|exact eN|refine eM ?_
     ·simp only[wO,Dw,wE];refine rL a ?_ ?_
      ·trivial
      ·repeat'(first|exact trivial|refine eS rfl ?_|refine AB ?_|refine rX a ?_ ?_|refine rC ?_ ?_<;>intro c<;>try(cases c;done))
       refine Ev.ent (σ':=⟨[],wO h w f (JP L) d (A2 h w f n i) (A2 h w f n i).2.2.2 6⟩) ?_ (AC [(50,.nm 50),(51,.nm 51),(52,.nm 52),(101,.nm 101),(102,.nm 102),(6,.nm 6),(7,.nm 7),(8,.nm 8),(9,.nm 9),(4,.nm 4),(11,.nm 11),(60,.nm 60),(12,.nm 12),(13,.nm 13),(24,.nm 24)] rfl rfl ?_ ?_)
       ·exact fM a [] (.raw (.tuple #[])) rfl ⟨rfl,i,false,hi,g,λe=>by cases e⟩
       ·simp only[wO,Dw,wE];first|exact eN|refine eM ?_
       ·first|exact eN|refine eM ?_
    ·refine⟨[(50,.nm 50),(51,.nm 51),(52,.nm 52),(101,.nm 101),(102,.nm 102),(6,.nm 6),(7,.nm 7),(8,.nm 8),(9,.nm 9),(4,.nm 4),(11,.nm 11),(60,.nm 60),(12,.nm 12),(13,.nm 13),(24,.nm 24)],.p .bool false,wO h w f (JP L) d (A2 h w f n i) (A2 h w f n i).2.2.2 13,rfl,rfl,?_,?_,rfl,rfl,?_⟩
     ·simp only[wO,Dw,wE];first|exact eN|refine eM ?_
     ·first|exact eN|refine eM ?_
     ·simp only[wO,Dw,wE];refine rL a ?_ ?_
      ·trivial
      ·repeat'(first|exact trivial|refine eS rfl ?_|refine AB ?_|refine rX a ?_ ?_|refine rC ?_ ?_<;>intro c<;>try(cases c;done))
       refine Ev.ent (σ':=⟨[],wO h w f (JP L) d (A2 h w f n i) (A2 h w f n i).2.2.2 13⟩) ?_ (AC [(50,.nm 50),(51,.nm 51),(52,.nm 52),(101,.nm 101),(102,.nm 102),(6,.nm 6),(7,.nm 7),(8,.nm 8),(9,.nm 9),(4,.nm 4),(11,.nm 11),(60,.nm 60),(12,.nm 12),(13,.nm 13),(24,.nm 24)] rfl rfl ?_ ?_)
       ·exact fM a [] (.raw (.tuple #[])) rfl ⟨rfl,i,false,hi,g,λe=>by cases e⟩
       ·simp only[wO,Dw,wE];first|exact eN|refine eM ?_
       ·first|exact eN|refine eM ?_
    ·refine⟨[(50,.nm 50),(51,.nm 51),(52,.nm 52),(101,.nm 101),(102,.nm 102),(6,.nm 6),(7,.nm 7),(8,.nm 8),(9,.nm 9),(4,.nm 4),(11,.nm 11),(60,.nm 60),(12,.nm 12),(13,.nm 13),(24,.nm 24)],.p .bool true,wO h w f L d (A2 h w f n (i+1)) (A2 h w f n i).2.2.2 0,rfl,rfl,?_,?_,rfl,rfl,?_⟩
     ·simp only[wO,Dw,wE];first|exact eN|refine eM ?_
     ·first|exact eN|refine eM ?_
     ·simp only[wO,Dw,wE];refine rL a ?_ ?_
      ·trivial
      ·repeat'(first|exact trivial|refine eS rfl ?_|refine AB ?_|refine rX a ?_ ?_|refine rC ?_ ?_<;>intro c<;>try(cases c;done))
       ·exact⟨hf,r⟩
       ·refine⟨⟨i+1,λj o=>(Nat.lt_succ_iff_lt_or_eq.1 o).elim (hi j) λe=>by rw[e];exact⟨c,l⟩⟩,by simp only;omega,AC [(50,.nm 50),(51,.nm 51),(52,.nm 52),(101,.nm 101),(102,.nm 102),(6,.nm 6),(7,.nm 7),(8,.nm 8),(9,.nm 9),(4,.nm 4),(11,.nm 11),(60,.nm 60),(12,.nm 12),(13,.nm 13),(24,.nm 24)] rfl rfl ?_ ?_⟩
        ·simp only[wO,Dw,wE];first|exact eN|refine eM ?_
         rfl
        ·first|exact eN|refine eM ?_
       ·refine Ev.ent (σ':=⟨[],wO h w f L d (A2 h w f n (i+1)) (A2 h w f n i).2.2.2 0⟩) ?_ (AC [(50,.nm 50),(51,.nm 51),(52,.nm 52),(101,.nm 101),(102,.nm 102),(6,.nm 6),(7,.nm 7),(8,.nm 8),(9,.nm 9),(4,.nm 4),(11,.nm 11),(60,.nm 60),(12,.nm 12),(13,.nm 13),(24,.nm 24)] rfl rfl ?_ ?_)
        ·exact fM a [] (.raw (.tuple #[])) rfl ⟨rfl,i,true,hi,g,λ_=>c⟩
        ·simp only[wO,Dw,wE];first|exact eN|refine eM ?_
        ·first|exact eN|refine eM ?_
end
section
attribute [local go_sem] X6 X5 kT
theorem A19 (h:AH) (f:List AD) (n:Int) (k:AW f) (G:Dv h f) (n0:0<=n) (n1:n<(f.length:Int)):BJ Tryz.prog 54 [.p ER h,.p Da f,.p T3 n] [] [] (λres ai=>res=.tup [.p Ft (Aq h f n).1,.p .bool (Aq h f n).2.1,.p Lr (Aq h f n).2.2]):=by
 refine fKR [0,1,2,3,4,6,7,8,9,10,11,12,13,14,15,22,28,29,34,38,41] [50] [] Tryz.func54 Tryz.ntmps54 (AF A4t (AF kU (AF eE AG))) ?_;intro w0 K O0 ρ0 a ad ae;simp only[Ar];have R:(h.1,h.2)=h:=rfl;repeat'(first|exact trivial|refine eS rfl ?_|refine AB ?_|refine rX a ?_ ?_|refine rC ?_ ?_<;>intro c<;>try(cases c;done))
 all_goals simp only[R]at *
 ·have l:PT h=false:=by
   cases d:PT h with
   | true=>rw[d]at c;exact absurd rfl c
   | false=>rfl
  have j:Aq h f n=([],false,5):=by unfold Aq;rw[l,An (by simp)]
  simp only[l,ADB,AE4,j];exact zS a [.cell 6 61,.cell 7 4,.cell 8 35] rfl (.inl rfl) (.tup [.p Ft [],.p .bool false,.p Lr 5]) eT rfl
 ·have l:PT h=true:=by
   cases d:PT h with
   | false=>rw[d]at c;exact absurd c (by decide)
   | true=>rfl
  simp only[l,AD1,wdF];have C:=kM l;have B:=Sd h;have H:WOk h (BH h):=⟨⟨C.2.1,B.1.2.1⟩,C.2.2.1,B.1.2.2.1⟩;have v:=λ(i:Nat) (hi:WGo h (BH h) f n i)=>kW k l n0 n1 hi;have Q:=λ(i:Nat) (hi:WGo h (BH h) f n i)=>RQ k n0 n1 i hi;generalize aa:BH h=w at *;refine Ev.ent (σ':=⟨[(2,.p T3 n),(4,.bp 4 [] 0),(6,.bp 6 [] 0),(7,.bp 7 [] 0),(8,.bp 8 [] 0),(9,.bp 9 [] 0),(11,.bp 11 [] 0),(12,.bp 12 [] 0),(13,.bp 13 [] 0)],[(6,.box 61 false [.raw (.slice none 0 0)]),(7,.box 4 false [.p .bool false]),(8,.box 35 false [.p Lr 0]),(9,Dw h w),(4,.box 25 true [.p FQ f]),(11,.box 61 false [.raw (.slice none 0 0)]),(12,.box 4 false [.p .bool false]),(13,.box 119 false [.mp 24]),(24,.mapo T3 .bool [])]⟩) ?_ (AC [(6,.nm 6),(7,.nm 7),(8,.nm 8),(9,.nm 9),(4,.nm 4),(11,.nm 11),(12,.nm 12),(13,.nm 13),(24,.nm 24)] rfl rfl ?_ ?_)
  ·simp only[Dw];refine cP 3 a ?_ ?_
   ·trivial
   ·refine rM a (A4u h w f n) [] [] ?_ ?_ ?_
    ·simp only[wdF];first|exact eN|refine eM ?_
    ·first|exact eN|refine eM ?_
    ·rintro _ _ ⟨rfl,rfl⟩;refine⟨[(50,.nm 5),(52,.nm 4),(51,.nm 3)],.clo 139 [50,51,52],[(50,.box 3 false [.p T3 n]),(52,.box 25 true [.p FQ f]),(51,Dw h w)],rfl,rfl,?_,?_,rfl,rfl,CR ?_⟩
     ·simp only[Dw];first|exact eN|refine eM ?_
     ·first|exact eN|refine eM ?_
     ·simp only[Dw];repeat'(first|exact trivial|refine eS rfl ?_|refine AB ?_|refine rX a ?_ ?_|refine rC ?_ ?_<;>intro c<;>try(cases c;done))
      refine gK a rfl rfl (by simp only[go_sem,Nat.reduceEqDiff,reduceCtorEq,Nat.reduceAdd,Nat.reduceSub,Nat.reduceMul,Nat.reduceLeDiff,Nat.reduceLT,Int.reduceLE,Int.reduceToNat,Int.reduceNeg,↓reduceIte];rfl) 101 103 102 rfl rfl rfl rfl ?_;intro L e r u J M N O V;refine⟨_,wO h w f L e (A2 h w f n 0) n 0,[50,51,52,101,102,6,7,8,9,4,11,12,13,24],_,[(50,.nm 50),(51,.nm 51),(52,.nm 52),(101,.nm 101),(102,.nm 102),(6,.nm 6),(7,.nm 7),(8,.nm 8),(9,.nm 9),(4,.nm 4),(11,.nm 11),(60,.nil),(12,.nm 12),(13,.nm 13),(24,.nm 24)],[60],A18 h w f n H k G n0 n1 L e ?_,rfl,rfl,?_,?_,rfl,?_⟩
      ·intro i hi;obtain⟨I,Y,A,Z⟩:=Q i hi;have ab:=I.len;have t:=A7m (A2 h w f n i).1 (A2 h w f n i).2.2.2;have U:lwO (h,w.list,w.cons,w.null,w.dlist,w.first,w.rest,w.head,w.last)=w:=rfl;have D:Lk (A2 h w f n (i+1)).1=GM T3 .bool (A2 h w f n i).2.2.2 true (Lk (A2 h w f n i).1):=by
        show Lk ((A2 h w f n i).1++[(A2 h w f n i).2.2.2])=_;simp[Lk]
       have E:(A2 h w f n (i+1)).2.2.1=(BQ h w (f.getD (A2 h w f n i).2.2.2.toNat (0,[]))==1):=by
        show decide (BQ h w (GN f (A2 h w f n i).2.2.2)=1)=_;rw[AEa];simp[GN]
       have hT:=a.T;have hF:=a.F;refine gI (fr:=102) rfl rfl r M N O J V rfl (by kernel_rfl) (by simp) rfl rfl (by kernel_rfl) (by kernel_rfl) hT hF ?_;intro aj W X ak ah a af ag d;simp only[wO,Dw,wE,HK];repeat'(first|exact trivial|refine eS rfl ?_|refine AB ?_|refine rX a ?_ ?_|refine rC ?_ ?_<;>intro c<;>try(cases c;done))
       refine⟨rfl,?_⟩;repeat'(first|exact trivial|refine eS rfl ?_|refine AB ?_|refine rX a ?_ ?_|refine rC ?_ ?_<;>intro c<;>try(cases c;done))
       all_goals try simp only[U]at *
       ·exact⟨H,k,G,A⟩
       ·rw[t]at c;have S:(A2 h w f n i).2.2.2∈(A2 h w f n i).1:=by simpa[w3] using c
        refine Ev.ent (σ':=⟨[],wO h w f { L with state:=.busy } e (A2 h w f n i) (A2 h w f n i).2.2.2 6⟩) ?_ (AC [(50,.nm 50),(51,.nm 51),(52,.nm 52),(101,.nm 101),(102,.nm 102),(6,.nm 6),(7,.nm 7),(8,.nm 8),(9,.nm 9),(4,.nm 4),(11,.nm 11),(60,.nm 60),(12,.nm 12),(13,.nm 13),(24,.nm 24)] rfl rfl ?_ ?_)
        ·refine Y7 a (yn:=101) rfl rfl (by simp) d ⟨false,rfl,.inl ⟨S,rfl,?_⟩⟩;simp only[wO,Dw,wE,JP,go_sem,Nat.reduceEqDiff,reduceCtorEq,Nat.reduceAdd,Nat.reduceSub,Nat.reduceMul,Nat.reduceLeDiff,Nat.reduceLT,Int.reduceLE,Int.reduceToNat,Int.reduceNeg,↓reduceIte]
        ·simp only[wO,Dw,wE];first|exact eN|refine eM ?_
        ·first|exact eN|refine eM ?_
       ·have o:(A2 h w f n i).2.2.2∉(A2 h w f n i).1:=by
         have g:(Be T3 .bool (A2 h w f n i).2.2.2 (Lk (A2 h w f n i).1)).getD false=false:=by assumption
         rw[t]at g;intro m;have:=AEe.1 g _ m;simp at this
        refine Ev.ent (σ':=⟨[],wO h w f { L with state:=.busy } e (A2 h w f n i) (A2 h w f n i).2.2.2 13⟩) ?_ (AC [(50,.nm 50),(51,.nm 51),(52,.nm 52),(101,.nm 101),(102,.nm 102),(6,.nm 6),(7,.nm 7),(8,.nm 8),(9,.nm 9),(4,.nm 4),(11,.nm 11),(60,.nm 60),(12,.nm 12),(13,.nm 13),(24,.nm 24)] rfl rfl ?_ ?_)
        ·refine Y7 a (yn:=101) rfl rfl (by simp) d ⟨false,rfl,.inr (.inl ⟨o,c,rfl,?_⟩)⟩;simp only[wO,Dw,wE,JP,go_sem,Nat.reduceEqDiff,reduceCtorEq,Nat.reduceAdd,Nat.reduceSub,Nat.reduceMul,Nat.reduceLeDiff,Nat.reduceLT,Int.reduceLE,Int.reduceToNat,Int.reduceNeg,↓reduceIte]
        ·simp only[wO,Dw,wE];first|exact eN|refine eM ?_
        ·first|exact eN|refine eM ?_
       ·refine⟨⟨k,A⟩,?_⟩;have:=k.1;simp only[AP];omega
       ·have x:BQ h w (GN f (A2 h w f n i).2.2.2)≠0:=by assumption
        have o:(A2 h w f n i).2.2.2∉(A2 h w f n i).1:=by
         have g:(Be T3 .bool (A2 h w f n i).2.2.2 (Lk (A2 h w f n i).1)).getD false=false:=by assumption
         rw[t]at g;intro m;have:=AEe.1 g _ m;simp at this
        have y:(A2 h w f n (i+1)).2.1=(A2 h w f n i).2.1++[Dh (f.getD (A2 h w f n i).2.2.2.toNat (0,[])).2 w.first]:=BY c;refine Ev.ent (σ':=⟨[],wO h w f { L with state:=.busy } e (A2 h w f n (i+1)) (A2 h w f n i).2.2.2 0⟩) ?_ (AC [(50,.nm 50),(51,.nm 51),(52,.nm 52),(101,.nm 101),(102,.nm 102),(6,.nm 6),(7,.nm 7),(8,.nm 8),(9,.nm 9),(4,.nm 4),(11,.nm 11),(60,.nm 60),(12,.nm 12),(13,.nm 13),(24,.nm 24)] rfl rfl ?_ ?_)
        ·refine Rw a (yn:=101) rfl rfl (by simp) d ⟨true,rfl,.inr (.inr ⟨o,x,rfl,?_⟩)⟩;simp only[wO,Dw,wE,go_sem,Nat.reduceEqDiff,reduceCtorEq,Nat.reduceAdd,Nat.reduceSub,Nat.reduceMul,Nat.reduceLeDiff,Nat.reduceLT,Int.reduceLE,Int.reduceToNat,Int.reduceNeg,↓reduceIte,W8 r u]
        ·simp only[wO,Dw,wE,D,E,y];first|exact eN|refine eM ?_
        ·first|exact eN|refine eM ?_
       ·have x:BQ h w (GN f (A2 h w f n i).2.2.2)≠0:=by assumption
        have o:(A2 h w f n i).2.2.2∉(A2 h w f n i).1:=by
         have g:(Be T3 .bool (A2 h w f n i).2.2.2 (Lk (A2 h w f n i).1)).getD false=false:=by assumption
         rw[t]at g;intro m;have:=AEe.1 g _ m;simp at this
        have y:(A2 h w f n (i+1)).2.1=(A2 h w f n i).2.1:=An c;refine Ev.ent (σ':=⟨[],wO h w f { L with state:=.busy } e (A2 h w f n (i+1)) (A2 h w f n i).2.2.2 0⟩) ?_ (AC [(50,.nm 50),(51,.nm 51),(52,.nm 52),(101,.nm 101),(102,.nm 102),(6,.nm 6),(7,.nm 7),(8,.nm 8),(9,.nm 9),(4,.nm 4),(11,.nm 11),(60,.nm 60),(12,.nm 12),(13,.nm 13),(24,.nm 24)] rfl rfl ?_ ?_)
        ·refine Rw a (yn:=101) rfl rfl (by simp) d ⟨true,rfl,.inr (.inr ⟨o,x,rfl,?_⟩)⟩;simp only[wO,Dw,wE,go_sem,Nat.reduceEqDiff,reduceCtorEq,Nat.reduceAdd,Nat.reduceSub,Nat.reduceMul,Nat.reduceLeDiff,Nat.reduceLT,Int.reduceLE,Int.reduceToNat,Int.reduceNeg,↓reduceIte,W8 r u]
        ·simp only[wO,Dw,wE,D,E,y];first|exact eN|refine eM ?_
        ·first|exact eN|refine eM ?_
      ·simp only[BV,wO,Dw,wE,A2];first|exact eN|refine eM ?_
      ·simp only[BV,wO,Dw,wE,A2];first|exact eN|refine eM ?_
       rfl
      ·rintro _ _ ⟨rfl,i,b,hi,P,d⟩;rcases P with ⟨q,rfl,rfl⟩|⟨q,z,rfl,rfl⟩|⟨q,z,rfl,rfl⟩
       ·have j:=(v i hi).1 q;refine⟨[(50,.nm 50),(51,.nm 51),(52,.nm 52),(101,.nm 101),(102,.nm 102),(6,.nm 6),(7,.nm 7),(8,.nm 8),(9,.nm 9),(4,.nm 4),(11,.nm 11),(60,.nm 60),(12,.nm 12),(13,.nm 13),(24,.nm 24)],wO h w f (JP L) e (A2 h w f n i) (A2 h w f n i).2.2.2 6,JP L,rfl,rfl,?_,rfl,rfl,rfl,rfl,?_⟩
        ·simp only[wO,Dw,wE];first|exact eN|refine eM ?_
        ·intro b;simp only[JP,EvJ,wO,Dw,wE,BV,go_sem,Nat.reduceEqDiff,reduceCtorEq,Nat.reduceAdd,Nat.reduceSub,Nat.reduceMul,Nat.reduceLeDiff,Nat.reduceLT,Int.reduceLE,Int.reduceToNat,Int.reduceNeg,↓reduceIte];replace a:=NP (dn:=103) (b:=b) a;repeat'(first|exact trivial|refine eS rfl ?_|refine AB ?_|refine rX a ?_ ?_|refine rC ?_ ?_<;>intro c<;>try(cases c;done))
         refine Ev.ent (σ':=⟨[(6,.bp 6 [] 0),(7,.bp 7 [] 0),(8,.bp 8 [] 0)],[(6,.box 61 false [.p Ft []]),(7,.box 4 false [.p .bool false]),(8,.box 35 false [.p Lr 6]),(103,.dfr)]⟩) ?_ (AC [(6,.nm 6),(7,.nm 7),(8,.nm 8),(103,.nm 103)] rfl rfl ?_ ?_)
         ·rw[j];exact QN a [.cell 6 61,.cell 7 4,.cell 8 35] rfl (.inl rfl) rfl rfl (.tup [.p Ft [],.p .bool false,.p Lr 6]) eT rfl
         ·first|exact eN|refine eM ?_
         ·first|exact eN|refine eM ?_
       ·have j:=(v i hi).2.1 q z;refine⟨[(50,.nm 50),(51,.nm 51),(52,.nm 52),(101,.nm 101),(102,.nm 102),(6,.nm 6),(7,.nm 7),(8,.nm 8),(9,.nm 9),(4,.nm 4),(11,.nm 11),(60,.nm 60),(12,.nm 12),(13,.nm 13),(24,.nm 24)],wO h w f (JP L) e (A2 h w f n i) (A2 h w f n i).2.2.2 13,JP L,rfl,rfl,?_,rfl,rfl,rfl,rfl,?_⟩
        ·simp only[wO,Dw,wE];first|exact eN|refine eM ?_
        ·intro b;simp only[JP,EvJ,wO,Dw,wE,BV,go_sem,Nat.reduceEqDiff,reduceCtorEq,Nat.reduceAdd,Nat.reduceSub,Nat.reduceMul,Nat.reduceLeDiff,Nat.reduceLT,Int.reduceLE,Int.reduceToNat,Int.reduceNeg,↓reduceIte];replace a:=NP (dn:=103) (b:=b) a;repeat'(first|exact trivial|refine eS rfl ?_|refine AB ?_|refine rX a ?_ ?_|refine rC ?_ ?_<;>intro c<;>try(cases c;done))
         refine Ev.ent (σ':=⟨[(6,.bp 6 [] 0),(7,.bp 7 [] 0),(8,.bp 8 [] 0)],[(6,.box 61 false [.p Ft []]),(7,.box 4 false [.p .bool false]),(8,.box 35 false [.p Lr 13]),(103,.dfr)]⟩) ?_ (AC [(6,.nm 6),(7,.nm 7),(8,.nm 8),(103,.nm 103)] rfl rfl ?_ ?_)
         ·rw[j];exact QN a [.cell 6 61,.cell 7 4,.cell 8 35] rfl (.inl rfl) rfl rfl (.tup [.p Ft [],.p .bool false,.p Lr 13]) eT rfl
         ·first|exact eN|refine eM ?_
         ·first|exact eN|refine eM ?_
       ·have j:=(v i hi).2.2 q z (d rfl);refine⟨[(50,.nm 50),(51,.nm 51),(52,.nm 52),(101,.nm 101),(102,.nm 102),(6,.nm 6),(7,.nm 7),(8,.nm 8),(9,.nm 9),(4,.nm 4),(11,.nm 11),(60,.nm 60),(12,.nm 12),(13,.nm 13),(24,.nm 24)],wO h w f L e (A2 h w f n (i+1)) (A2 h w f n i).2.2.2 0,L,rfl,rfl,?_,rfl,rfl,rfl,by rw[r];rfl,?_⟩
        ·simp only[wO,Dw,wE];first|exact eN|refine eM ?_
        ·intro b;rw[u];generalize A2 h w f n (i+1)=s at *;simp only[EvJ,wO,Dw,wE,BV,go_sem,Nat.reduceEqDiff,reduceCtorEq,Nat.reduceAdd,Nat.reduceSub,Nat.reduceMul,Nat.reduceLeDiff,Nat.reduceLT,Int.reduceLE,Int.reduceToNat,Int.reduceNeg,↓reduceIte];replace a:=NP (dn:=103) (b:=b) a;refine FP [60] ?_;repeat'(first|exact trivial|refine eS rfl ?_|refine AB ?_|refine rP a ?_ ?_|fail)
         refine CV drawsAny a 3 [([0],2)] [1] (by kernel_rfl) (NQ ?_ ?_)
         ·trivial
         ·refine PY a [] ?_ ?_
          ·trivial
          ·refine S8 a ?_ ?_ ?_
           ·trivial
           ·trivial
           ·repeat'(first|exact trivial|refine eS rfl ?_|refine AB ?_|refine rX a ?_ ?_|refine rC ?_ ?_<;>intro c<;>try(cases c;done))
            refine Ev.ent (σ':=⟨[(6,.bp 6 [] 0),(7,.bp 7 [] 0),(8,.bp 8 [] 0)],[(6,.box 61 false [.p Ft s.2.1]),(7,.box 4 false [.p .bool s.2.2.1]),(8,.box 35 false [.p Lr 0]),(103,.dfr)]⟩) ?_ (AC [(6,.nm 6),(7,.nm 7),(8,.nm 8),(103,.nm 103)] rfl rfl ?_ ?_)
            ·rw[j];exact QN a [.cell 6 61,.cell 7 4,.cell 8 35] rfl (.inl rfl) rfl rfl (.tup [.p Ft s.2.1,.p .bool s.2.2.1,.p Lr 0]) eT rfl
            ·first|exact eN|refine eM ?_
            ·first|exact eN|refine eM ?_
  ·simp only[Dw];first|exact eN|refine eM ?_
  ·first|exact eN|refine eM ?_
end
end Go.Proofs.YtapkhdkbkodbjaaGreat.Fw
