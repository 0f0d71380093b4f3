/- Contracts of the program's and the reference's functions, and the plain laws of what they compute: U5 U6 U7 U8 U9 U10 U11 U12 N8 N9 V1 V2 V4 V5 V6 V9 V10 T19 T20 T22 T24 W6 T26 U14 W7 T27 T21 T23 T25 U13 V3 SN V11 V7 V8 T28 U17 H4 V14 T17 T18 L21 T30 W10 J1 I1 H2 H3 J2 V15 V16 J3 I2 I5 T29 K1 K2 I3 I4. -/
import Derived.Test.YtapkhdkbkodbjaaGreatIYB
import Derived.Test.YtapkhdkbkodbjaaGreatIZI
import Derived.Test.YtapkhdkbkodbjaaGreatIYA
import Derived.Laws.Strings
set_option linter.unusedVariables false
set_option linter.unusedSimpArgs false
namespace Go.Proofs.YtapkhdkbkodbjaaGreat.Fw
open Go
attribute [local irreducible] Ev
attribute [local go_sem] fV AM List.toList_toArray Bu evG evK YM Ey Ke Gt F7 Ir TP Nr DK DU Mv Cc DC frz lE Gl DT BA Fz Bg AV.frz AV.frzs AV.drp AV.drps AV.names AV.namess aq Gn LO KT US JQ Bh Bn Jm Ee Ij Ef Il Ik Im VS Pd HH KV F1 EX VT Ry qUn Jn Io Lr FW Du JT KW Eg UT Df Eh FI Rz Ip Np Fh Nn Pe R0 Ls JU KX Ei Dv HR Dx Hq Dg FJ Dh Ej F3 Cc Cq Pb Rx OO Gh JS JR KU Ph TM Nq Lw Lu Ka TN Lv Kb aV Pj Pi AV.trn AV.trns FB DJ Obj.trn J4 gH Dw El EY Ek Cg FK Am lk HV Gm Hm bin lD YQ lG TK yZ y3 pfs AV.cells CK Jk Pc KZ Pg CZ Nl Ty.cell1 Ii FC Dt GK LN FA KS Lq Ru Fg HG Ng UQ VR Lp KQ aR eU TJ Nm DB Jl RV.flat Ty.flat Ty.size St.add upd del Bi Value.oneCell' Lj Ty.dflt Ih Pz Hz QH List.take_succ_cons List.take_zero List.length_cons f6 f7 QG Jy MB Hh Jz A23 F8 M9 NA NB NC SA SB ND Ix Vl Option.map_some Option.map_none Option.bind_some Option.getD_some Option.getD_none Option.isNone_none Option.isNone_some Bool.and_true Bool.true_and Bool.and_false Bool.false_and Bool.not_true Bool.not_false if_true if_false List.length_cons List.length_nil and_true true_and and_self List.all_cons List.all_nil List.append_nil List.nil_append List.cons_append List.getElem?_cons_zero List.getElem?_cons_succ List.getElem?_nil List.map_cons List.map_nil List.set_cons_zero List.set_cons_succ List.isEmpty_nil List.isEmpty_cons decide_true decide_false beq_self_eq_true bne_self_eq_false Nat.zero_add Nat.add_zero Nat.sub_zero Int.toNat_natCast Int.toNat_zero Int.toNat_one List.take_length List.length_append List.length_singleton true_or or_true or_self false_or or_false Ty.agg.injEq Ty.slice.injEq Ty.prod.injEq Ty.int.injEq Option.some.injEq beq_iff_eq Lk evMG evMQ opM H5 L8 B4 Jw HI QA Ju H0 Iy Kn LU Oc Nv Od UW L9 QB QC Jv Ac Aj Op.operands Call.operands List.filterMap_cons List.filterMap_nil List.append_eq Bool.cond_false_right Bool.cond_true_left cond_true cond_false implies_true decide_eq_true_eq beq_true beq_false Bool.or_true Bool.or_false Bool.true_or Bool.false_or Option.isSome_some Array.empty_append List.append_toArray F0 Mw FL Hn aU Pf F2 GS GR Iq Ho KY Lt YR lF Hl inB Kd F4 Gi Jo Ao f8 List.drop_zero Dm H6 bT CU Kr CS AV.fgt AV.fgts Obj.fgt Az Ai Ac DM Ig BS Gu List.any_cons List.any_nil mB gB bU gC ME SG qs List.flatMap_cons List.flatMap_nil List.cons_append tn bX J5 List.take_succ_cons List.drop_succ_cons b6 HJ BV qK NH CB CT Af FO Km Bp FN Dz Hx Iw GW Hy
attribute [local go_sem] ty1 ty2 ty3 ty4 ty5 ty9 A5L A5M A5N A5O A5P A5Q A5R A5S A5T A5U A5V A5W A5X A5Y A5Z A60 A61 A62 A63 A64 A65 A66 A67 A68 A69 A6a A6b A6c A6d A6e A6f A6g A6h A6i A6j A6k A6l A6m A6n A6o A6p A6q A6r A6s A6t A6u A6v A6w A6x A6y A6z A6A A6B A6C A6D A6E A6F A6G A6H A6I A6J A6K A6L A6M A6N A6O A6P A6Q A6R A6S A6T qR qS qT qU qV qW qX qY qZ q9 rA rB rD rE rF rG rH rI rJ rK rO rQ rR rS rU rV rW rZ r7 r8 r9 sA sB sC sD sE sF sG sH sI sJ sK sL sM sN sO sP sQ sR sS sT sU sV sW sY sZ s5 s6 s7 s8 s9 tA tB tC tD tE tF tG tH tI tJ tK tL tM tN tP tQ tR tS tT tU tV tW tY tZ t8 t9 uA uB uC uD uE uF uG uH uI uJ uK uL uM uN uP uQ uR uS uT uU uV uW uX uY uZ u3 u4 u5 u6 u7 u9 vA vB vC vD vE vF vG vH vI vJ vK vL vM vN vO vP vQ vS vT vU vV vW vY vZ v4 v5 v6 v7 v8 v9 wA wB wC wD wF wG wH wI wJ wK wL wM wN wP wQ wR wS wT
set_option maxRecDepth 100000
set_option maxHeartbeats 4000000
theorem PJ {h:AG} (hk:GH h) {a b c:Int} (d:0<=a) (e:a<(h.1.length:Int)) (f:0<=b) (b1:b<(h.1.length:Int)) (c0:0<=c) (c1:c<(h.1.length:Int)) (h1:A7 h a b=true) (g:A7 h b c=true):A7 h a c=true :=
 (Bx hk d e c0 c1).2 λi hi=>(Bx hk d e f b1).1 h1 i ((Bx hk f b1 c0 c1).1 g i hi)
theorem Q4:∀ {x y:List (Int×Int)} {a:Int×Int},a∈x->a∈(Bz x y).1
 | [],_,_,h=>by cases h
 | b :: x,[],a,h=>by simpa[Bz] using h
 | b :: x,c :: y,a,h=>by
  rw[Bz];split
  ·rcases DO.1 h with rfl|h
   ·simp
   ·exact OF _ (Q4 h)
  ·split
   ·exact OF _ (Q4 h)
   ·rcases DO.1 h with rfl|h
    ·simp
    ·exact OF _ (Q4 h)
termination_by x y=>x.length+y.length
theorem NW:∀ {x y:List (Int×Int)} {a:Int×Int},a∈y->a∈(Bz x y).1\/∃t,(a.1,t)∈(Bz x y).1/\(t,a.2)∈(Bz x y).2
 | [],y,a,h=>by
  left;simpa[Bz] using h
 | b :: x,[],a,h=>by cases h
 | b :: x,c :: y,a,h=>by
  rw[Bz];split
  ·rcases NW (x:=x) h with g|⟨t,d,e⟩
   ·exact .inl (OF _ g)
   ·exact .inr ⟨t,OF _ d,e⟩
  ·split
   ·rcases DO.1 h with rfl|h
    ·left;simp
    ·rcases NW (x:=b :: x) h with g|⟨t,d,e⟩
     ·exact .inl (OF _ g)
     ·exact .inr ⟨t,OF _ d,e⟩
   ·rcases DO.1 h with rfl|h
    ·right;exact⟨b.2,by rw[show a.1=b.1 by omega];simp,by simp⟩
    ·rcases NW (x:=x) h with g|⟨t,d,e⟩
     ·exact .inl (OF _ g)
     ·exact .inr ⟨t,OF _ d,OF _ e⟩
termination_by x y=>x.length+y.length
theorem JM:∀ {x y:List (Int×Int)} {a:Int×Int},a∈(Bz x y).1->a∈x\/a∈y
 | [],y,a,h=>by
  right;simpa[Bz] using h
 | b :: x,[],a,h=>by
  left;simpa[Bz] using h
 | b :: x,c :: y,a,h=>by
  rw[Bz]at h;split at h
  ·rcases DO.1 h with rfl|h
   ·left;simp
   ·rcases JM h with g|g
    ·exact .inl (OF _ g)
    ·exact .inr g
  ·split at h
   ·rcases DO.1 h with rfl|h
    ·right;simp
    ·rcases JM h with g|g
     ·exact .inl g
     ·exact .inr (OF _ g)
   ·rcases DO.1 h with rfl|h
    ·left;simp
    ·rcases JM h with g|g
     ·exact .inl (OF _ g)
     ·exact .inr (OF _ g)
termination_by x y=>x.length+y.length
theorem Q5:∀ {x y:List (Int×Int)} {q:Int×Int},q∈(Bz x y).2->∃e,(e,q.1)∈x/\(e,q.2)∈y
 | [],y,q,h=>by simp[Bz]at h
 | b :: x,[],q,h=>by simp[Bz]at h
 | b :: x,c :: y,q,h=>by
  rw[Bz]at h;split at h
  ·obtain⟨e,h1,a⟩:=Q5 h;exact⟨e,OF _ h1,a⟩
  ·split at h
   ·obtain⟨e,h1,a⟩:=Q5 h;exact⟨e,h1,OF _ a⟩
   ·rcases DO.1 h with rfl|h
    ·exact⟨b.1,by simp,by rw[show b.1=c.1 by omega];simp⟩
    ·obtain⟨e,h1,a⟩:=Q5 h;exact⟨e,OF _ h1,OF _ a⟩
termination_by x y=>x.length+y.length
theorem Q6:∀ {x y:List (Int×Int)},(Bz x y).2.length<=x.length
 | [],y=>by simp[Bz]
 | b :: x,[]=>by simp[Bz]
 | b :: x,c :: y=>by
  rw[Bz];split
  ·have:=Q6 (x:=x) (y:=c :: y);simp only[OS];omega
  ·split
   ·exact Q6 (x:=b :: x) (y:=y)
   ·have:=Q6 (x:=x) (y:=y);simp only[OS];omega
termination_by x y=>x.length+y.length
abbrev NX (l:List (Int×Int)):Prop:=l.Pairwise (λa b=>a.1<b.1)
theorem VE:∀ {x y:List (Int×Int)},NX x->NX y->NX (Bz x y).1
 | [],y,_,h=>by simpa[Bz] using h
 | b :: x,[],h,_=>by simpa[Bz] using h
 | b :: x,c :: y,i,j=>by
  have d:=TA.1 i;have e:=TA.1 j;rw[Bz];split
  ·rename_i f;refine TA.2 ⟨λa ha=>?_,VE d.2 j⟩;rcases JM ha with g|g
   ·exact d.1 a g
   ·rcases DO.1 g with rfl|g
    ·exact f
    ·have:=e.1 a g;omega
  ·split
   ·rename_i f;refine TA.2 ⟨λa ha=>?_,VE i e.2⟩;rcases JM ha with g|g
    ·rcases DO.1 g with rfl|g
     ·exact f
     ·have:=d.1 a g;omega
    ·exact e.1 a g
   ·refine TA.2 ⟨λa ha=>?_,VE d.2 e.2⟩;rcases JM ha with g|g
    ·exact d.1 a g
    ·have:=e.1 a g;omega
termination_by x y=>x.length+y.length
theorem A7G {p:List Int} {o:Int->Nat} (hp:Fo p o) {a b:Int} (j:0<=a) (c:0<=b) (b1:b<(p.length:Int)) (ha:EO p a=a) (k:EO p b=b) (f:a≠b) {x r:Int} (d:0<=x) (q:x<(p.length:Int)) (h:Rt p x r):Rt (p.set b.toNat a) x (if r=b then a else r):=by
 have l:Rt (p.set b.toNat a) a a:=.base (by rw[C0 c b1 a j,An f];exact ha);induction h with
 | @base n hn =>
  split
  ·rename_i e;rw[e];exact .step (by rw[C0 c b1 b c,BY rfl];exact f) (by rw[C0 c b1 b c,BY rfl];exact l)
  ·rename_i e;exact .base (by rw[C0 c b1 n d,An e];exact hn)
 | @step n r hn _ m =>
  have g:n≠b:=λe=>hn (e▸k);have i:=hp.rng n d q;exact .step (by rw[C0 c b1 n d,An g];exact hn) (by rw[C0 c b1 n d,An g];exact m i.1 i.2)
theorem A7H {p:List Int} {c:Int->Nat} (hp:Fo p c) {a b:Int} (h:0<=a) (i:a<(p.length:Int)) (d:0<=b) (b1:b<(p.length:Int)) (ha:EO p a=a) (l:EO p b=b) (k:a≠b):∃o,Fo (p.set b.toNat a) o:=by
 classical
 refine⟨λx=>if Rt p x b then c x+c a+1 else c x,λn n0 n1=>?_,λn n0 n1 hn=>?_⟩
 ·rw[TH]at n1 ⊢;rw[C0 d b1 n n0];split
  ·exact⟨h,i⟩
  ·exact hp.rng n n0 n1
 ·rw[TH]at n1;rw[C0 d b1 n n0]at hn ⊢;by_cases e:n=b
  ·subst e;rw[BY rfl];have h1:¬Rt p a n:=λg=>k (g.det (.base ha)).symm;rw[An h1,BY (.base l)];omega
  ·rw[An e]at hn ⊢;have m:=hp.dec n n0 n1 hn;have f:Rt p n b↔Rt p (EO p n) b:=by
    constructor
    ·intro g;cases g with
     | base g=>exact absurd g hn
     | step _ g=>exact g
    ·exact λg=>.step hn g
   by_cases g:Rt p n b
   ·rw[BY g,BY (f.1 g)];omega
   ·rw[An g,An (λj=>g (f.2 j))];exact m
inductive EG (n:Nat) (p:List Int) (W:List (Int×Int)):Int->Int->Prop
 | cls {x y r:Int} (x0:0<=x) (x1:x<(n:Int)) (y0:0<=y) (y1:y<(n:Int)) (h:Rt p x r) (g:Rt p y r):EG n p W x y
 | wt {x y:Int} (h:(x,y)∈W):EG n p W x y
 | symm {x y:Int} (h:EG n p W x y):EG n p W y x
 | trans {x y z:Int} (h:EG n p W x y) (g:EG n p W y z):EG n p W x z
theorem EG.mono {n:Nat} {p q:List Int} {W V:List (Int×Int)} (h1:∀x y r,0<=x->x<(n:Int)->0<=y->y<(n:Int)->Rt p x r->Rt p y r->EG n q V x y) (a:∀x y,(x,y)∈W->EG n q V x y) {x y:Int} (h:EG n p W x y):EG n q V x y:=by
 induction h with
 | cls e f i j h g=>exact h1 _ _ _ e f i j h g
 | wt h=>exact a _ _ h
 | symm _ b=>exact .symm b
 | trans _ _ c d=>exact .trans c d
structure Zt (h:AG) (N:List AD) (P:List (Int×Int)) (X:List AD) (v:Int->Int):Prop where
 rng:∀x,0<=x->x<(N.length:Int)->0<=v x/\v x<(X.length:Int)
 ty:∀x,0<=x->x<(N.length:Int)->A7 h (N.getD x.toNat (0,[])).1 (X.getD (v x).toNat (0,[])).1=true
 arc:∀x,0<=x->x<(N.length:Int)->∀a∈AQ N x,DH (AQ X (v x)) a.1=v a.2
 eq:∀q∈P,v q.1=v q.2
structure JX (h:AG) (X:List AD) (v:Int->Int) (n:Nat) (p ty:List Int) (ar:List (List (Int×Int))) (W:List (Int×Int)):Prop where
 cls:∀x r,0<=x->x<(n:Int)->Rt p x r->v x=v r
 wt:∀w∈W,v w.1=v w.2
 ty:∀r,0<=r->r<(n:Int)->EO p r=r->A7 h (ty.getD r.toNat 0) (X.getD (v r).toNat (0,[])).1=true
 arc:∀r,0<=r->r<(n:Int)->EO p r=r->∀a∈ar.getD r.toNat [],DH (AQ X (v r)) a.1=v a.2
def Cw (N:List AD):List Int:=N.flatMap λx=>x.2.map (·.1)
structure JI (h:AG) (N:List AD) (P:List (Int×Int)) (p ty:List Int) (ar:List (List (Int×Int))) (W:List (Int×Int)):Prop where
 nty:De h N
 fo:∃rk,Fo p rk
 lp:p.length=N.length
 lt:ty.length=N.length
 la:ar.length=N.length
 wr:∀w∈W,(0<=w.1/\w.1<(N.length:Int))/\(0<=w.2/\w.2<(N.length:Int))
 tyr:∀x,0<=x->x<(N.length:Int)->0<=ty.getD x.toNat 0/\ty.getD x.toNat 0<(h.1.length:Int)
 arr:∀k,∀a∈ar.getD k [],(0<=a.2/\a.2<(N.length:Int))/\a.1∈Cw N
 srt:∀k,NX (ar.getD k [])
 sp:∀q∈P,EG N.length p W q.1 q.2
 st:∀x r,0<=x->x<(N.length:Int)->Rt p x r->A7 h (N.getD x.toNat (0,[])).1 (ty.getD r.toNat 0)=true
 sa:∀x r,0<=x->x<(N.length:Int)->Rt p x r->∀a∈AQ N x,∃t,(a.1,t)∈ar.getD r.toNat []/\EG N.length p W a.2 t
 co:∀X v,De h X->Zt h N P X v->JX h X v N.length p ty ar W
theorem GF {p:List Int} {a:Int->Nat} (hp:Fo p a) {x r:Int} (c:0<=x) (d:x<(p.length:Int)) (h:Rt p x r):0<=r/\r<(p.length:Int):=by
 obtain⟨s,hs,b,s1⟩:=hp.root c d;rw[h.det hs];exact⟨b,s1⟩
theorem So {p q:List Int} (h:Eu p q) {r:Int} (a:0<=r) (b:r<(p.length:Int)):EO p r=r↔EO q r=r :=
 ⟨λe=>((h.2 r r a b).1 (.base e)).root,λe=>((h.2 r r a b).2 (.base e)).root⟩
theorem A7I {h:AG} {N:List AD} {P:List (Int×Int)} {p q ty:List Int} {ar:List (List (Int×Int))} {W:List (Int×Int)} (hs:Eu p q) (j:∃z,Fo q z) (u:JI h N P p ty ar W):JI h N P q ty ar W:=by
 obtain⟨nty,fo,lp,lt,la,wr,tyr,arr,srt,sp,st,sa,co⟩:=u;have i:∀x r,0<=x->x<(N.length:Int)->(Rt p x r↔Rt q x r):=λx r b c=>hs.2 x r b (by rw[lp];exact c);have s:∀ {x y},EG N.length p W x y->EG N.length q W x y:=λ{x y} g=>g.mono (λx y r b c k l h1 o=>.cls b c k l ((i x r b c).1 h1) ((i y r k l).1 o)) (λ_ _ h=>.wt h);refine⟨nty,j,by rw[<-hs.1];exact lp,lt,la,wr,tyr,arr,srt,λq j=>s (sp q j),λx r b c d=>st x r b c ((i x r b c).2 d),λx r b c d a ha=>?_,λX v t w=>?_⟩
 ·grind
 ·obtain⟨c1,c2,m,n⟩:=co X v t w;exact⟨λx r b c d=>c1 x r b c ((i x r b c).2 d),c2,λr e f d=>m r e f ((So hs e (by rw[lp];exact f)).2 d),λr e f d=>n r e f ((So hs e (by rw[lp];exact f)).2 d)⟩
section
variable {h:AG} {N:List AD} {P:List (Int×Int)} {p ty:List Int} {ar:List (List (Int×Int))} {W:List (Int×Int)} {s t a b:Int}
theorem dK (n:JI h N P p ty ar (W++[(s,t)])) (hs:Rt p s a) (u:Rt p t a):JI h N P p ty ar W:=by
 obtain⟨nty,fo,lp,lt,la,wr,tyr,arr,srt,sp,st,sa,co⟩:=n;have b:=wr (s,t) (by simp);have l:∀ {x y},EG N.length p (W++[(s,t)]) x y->EG N.length p W x y:=λ{x y} g=>g.mono (λx y r d f A B h1 k=>.cls d f A B h1 k) (λx y c=>by
  rcases No.1 c with c|c
  ·exact .wt c
  ·have e:(x,y)=(s,t):=by simpa using c
   cases e;exact .cls b.1.1 b.1.2 b.2.1 b.2.2 hs u)
 refine⟨nty,fo,lp,lt,la,λw b=>wr w (TB _ b),tyr,arr,srt,λq o=>l (sp q o),st,λx r d f C a ha=>?_,λX v m z=>?_⟩
 ·grind
 ·obtain⟨c1,c2,i,j⟩:=co X v m z;exact⟨c1,λw b=>c2 w (TB _ b),i,j⟩
theorem VG (hk:GH h) (c:JI h N P p ty ar (W++[(s,t)])) (hs:Rt p s a) (g:Rt p t b) {X:List AD} {v:Int->Int} (o:De h X) (q:Zt h N P X v) :
  v a=v b/\(Bm h (ty.getD a.toNat 0) (ty.getD b.toNat 0)).2=true/\A7 h (Bm h (ty.getD a.toNat 0) (ty.getD b.toNat 0)).1 (X.getD (v a).toNat (0,[])).1=true:=by
 obtain⟨D,fo⟩:=c.fo;obtain⟨⟨i,s1⟩,j,l⟩:=c.wr (s,t) (by simp);simp only at i s1 j l;have d:=GF fo i (by rw[c.lp];exact s1) hs;have f:=GF fo j (by rw[c.lp];exact l) g;rw[c.lp]at d f;obtain⟨c1,c2,m,B⟩:=c.co X v o q;have u:=c1 s a i s1 hs;have w:=c1 t b j l g;have x:v s=v t:=c2 (s,t) (by simp);have e:v a=v b:=by rw[<-u,<-w,x]
 have y:=m a d.1 d.2 hs.root;have n:=m b f.1 f.2 g.root;rw[<-e]at n;have C:=q.rng a d.1 d.2;have r:=o _ (AE X (0,[]) (k:=(v a).toNat) (by omega));have ta:=c.tyr a d.1 d.2;have tb:=c.tyr b f.1 f.2;obtain⟨z,A⟩:=(MY hk ta.1 ta.2 tb.1 tb.2).2 _ r.1 r.2 y n;exact⟨e,z,A⟩
theorem Zu {α:Type} {l:List α} {d v:α} {a r:Int} (b:0<=a) (c:a<(l.length:Int)) (e:0<=r):(l.set a.toNat v).getD r.toNat d=if r=a then v else l.getD r.toNat d:=by grind
theorem XV (hk:GH h) (ae:JI h N P p ty ar (W++[(s,t)])) (hs:Rt p s a) (L:Rt p t b) (Y:a≠b) (al:(Bm h (ty.getD a.toNat 0) (ty.getD b.toNat 0)).2=true) :
  JI h N P (p.set b.toNat a) (ty.set a.toNat (Bm h (ty.getD a.toNat 0) (ty.getD b.toNat 0)).1) (ar.set a.toNat (Bz (ar.getD a.toNat []) (ar.getD b.toNat [])).1) (W++(Bz (ar.getD a.toNat []) (ar.getD b.toNat [])).2):=by
 have am:=λX v J M=>VG (X:=X) (v:=v) hk ae hs L J M;obtain⟨nty,⟨bb,fo⟩,lp,lt,la,wr,tyr,arr,srt,sp,st,sa,co⟩:=ae;obtain⟨⟨Q,s1⟩,R,S⟩:=wr (s,t) (by simp);simp only at Q s1 R S;have n:=GF fo Q (by rw[lp];exact s1) hs;have A:=GF fo R (by rw[lp];exact S) L;have ha:=hs.root;have Z:=L.root;have F:=λ{x r:Int} (c:0<=x) (i:x<(N.length:Int)) (O:Rt p x r)=>A7G fo n.1 A.1 A.2 ha Z Y c (by rw[lp];exact i) O;have aa:∀ {x r:Int},0<=x->x<(N.length:Int)->Rt (p.set b.toNat a) x r->∃j,Rt p x j/\r=if j=b then a else j:=λ{x r} c i O=>by
  obtain⟨j,h1,-,-⟩:=fo.root c (by rw[lp];exact i);exact⟨j,h1,O.det (F c i h1)⟩
 have ta:=tyr a n.1 (by rw[<-lp];exact n.2);have tb:=tyr b A.1 (by rw[<-lp];exact A.2);obtain⟨ax,ay,az,ba⟩:=(MY hk ta.1 ta.2 tb.1 tb.2).1 al;generalize aq:(Bm h (ty.getD a.toNat 0) (ty.getD b.toNat 0)).1=m at *;generalize ag:ar.getD a.toNat []=xs at *;generalize ah:ar.getD b.toNat []=ys at *;have ao:EG N.length (p.set b.toNat a) (W++(Bz xs ys).2) s t:=by
  have h1:=F Q s1 hs;have I:=F R S L;rw[An Y]at h1;rw[BY rfl]at I;exact .cls Q s1 R S h1 I
 have E:∀ {x y},EG N.length p (W++[(s,t)]) x y->EG N.length (p.set b.toNat a) (W++(Bz xs ys).2) x y:=λ{x y} g=>g.mono (λx y r c i aj ak h1 I=>.cls c i aj ak (F c i h1) (F aj ak I)) (λx y G=>by
  rcases No.1 G with G|G
  ·exact .wt (TB _ G)
  ·have e:(x,y)=(s,t):=by simpa using G
   cases e;exact ao)
 have av:=λ{r:Int} (D:0<=r)=>Zu (l:=ty) (d:=0) (v:=m) n.1 (by rw[lt,<-lp];exact n.2) D;have K:=λ{r:Int} (D:0<=r)=>Zu (l:=ar) (d:=[]) (v:=(Bz xs ys).1) n.1 (by rw[la,<-lp];exact n.2) D;refine⟨nty,A7H fo n.1 n.2 A.1 A.2 ha Z Y,by rw[TH];exact lp,by rw[TH];exact lt,by rw[TH];exact la,λw o=>?_,λx c i=>?_,λk y C=>?_,λk=>?_,λq an=>E (sp q an),λx r c i z=>?_,λx r c i z y C=>?_,λX v J M=>?_⟩
 ·rcases No.1 o with o|o
  ·exact wr w (TB _ o)
  ·grind [Q5]
 ·grind
 ·have h1:=K (r:=(k:Int)) (by omega);rw[Rb]at h1;rw[h1]at C;split at C
  ·grind [JM]
  ·exact arr _ _ C
 ·have h1:=K (r:=(k:Int)) (by omega);rw[Rb]at h1;rw[h1];split
  ·grind [VE]
  ·exact srt k
 ·obtain⟨j,h1,rfl⟩:=aa c i z;have O:=nty _ (AE N (0,[]) (k:=x.toNat) (by omega));have af:=GF fo c (by rw[lp];exact i) h1;by_cases e:j=b
  ·grind [PJ]
  ·grind [PJ]
 ·obtain⟨j,h1,rfl⟩:=aa c i z;have af:=GF fo c (by rw[lp];exact i) h1;obtain⟨u,H,T⟩:=sa x j c i h1 y C;by_cases e:j=b
  ·rw[BY e,K n.1,BY rfl];rw[e,ah]at H;rcases NW (x:=xs) H with g|⟨w,U,V⟩
   ·exact⟨u,g,E T⟩
   ·exact⟨w,U,.trans (E T) (.symm (.wt (AE8 _ V)))⟩
  ·rw[An e,K af.1];split
   ·rename_i B;rw[B,ag]at H;exact⟨u,Q4 H,E T⟩
   ·exact⟨u,H,E T⟩
 ·obtain⟨c1,c2,ap,ab⟩:=co X v J M;obtain⟨e,-,aw⟩:=am X v J M;have au:∀r,0<=r->r<(N.length:Int)->EO (p.set b.toNat a) r=r->r≠b/\EO p r=r:=λr D ai z=>by grind [C0]
  refine⟨λx r c i z=>?_,λw o=>?_,λr D ai z=>?_,λr D ai z y C=>?_⟩
  ·obtain⟨j,h1,rfl⟩:=aa c i z;have:=c1 x j c i h1;split
   ·rename_i B;rw[this,B,e]
   ·exact this
  ·rcases No.1 o with o|o
   ·exact c2 w (TB _ o)
   ·obtain⟨f,ad,B⟩:=Q5 o;rw[<-ag]at ad;rw[<-ah]at B;have U:=ab a n.1 (by rw[<-lp];exact n.2) ha _ ad;have V:=ab b A.1 (by rw[<-lp];exact A.2) Z _ B;rw[<-U,<-V,e]
  ·grind
  ·grind [JM]
end
theorem j6 {l:List Nat} {f g:Nat->Bool} {b:Nat} (hn:l.Nodup) (c:b∈l) (h1:f b=true) (d:g b=false) (h:∀x∈l,x≠b->g x=f x):(l.filter g).length+1=(l.filter f).length:=by
 induction l with
 | nil=>cases c
 | cons x l m =>
  obtain⟨k,j⟩:=TO.1 hn;by_cases e:x=b
  ·subst e;have:l.filter g=l.filter f:=List.filter_congr λy a=>h y (by simp[a]) (λe=>k (e▸a));rw[f5,f5,An (by rw[d];simp),BY h1,this];rfl
  ·have i:b∈l:=by
    rcases DO.1 c with g|g
    ·exact absurd g.symm e
    ·exact g
   have n:=m j i (λy a=>h y (by simp[a]));rw[f5,f5,h x (by simp) e];split
   ·simp only[OS];omega
   ·exact n
def nR (p:List Int):Nat:=((List.range p.length).filter λk=>p.getD k 0==(k:Int)).length
theorem ADc (p:List Int):nR p<=p.length:=by
 have:=aS (λk=>p.getD k 0==(k:Int)) (List.range p.length);rw[AEF]at this;exact this
theorem xX {p q:List Int} (h:Eu p q):nR q=nR p:=by
 unfold nR;rw[<-h.1];refine ADB List.length (List.filter_congr λk hk=>?_);have a:=Ri.1 hk;have:=So h (r:=(k:Int)) (by omega) (by omega);unfold EO at this;rw[Rb]at this;rw[AE9,TC,TC];exact this.symm
theorem xY {p:List Int} {a b:Int} (d:0<=b) (b1:b<(p.length:Int)) (c:EO p b=b) (e:a≠b):nR (p.set b.toNat a)+1=nR p:=by
 unfold nR;rw[TH];refine j6 (b:=b.toNat) List.nodup_range (Ri.2 (by omega)) ?_ ?_ λx _ f=>?_
 ·rw[TC];unfold EO at c;omega
 ·rw[Yb _ _ _ (by omega),ADD];omega
 ·rw[getD_set_ne _ _ _ (by omega)]
theorem Sp {α:Type} [DecidableEq α]:∀ {l l':List α},l.Nodup->(∀x∈l,x∈l')->l.length<=l'.length
 | [],_,_,_=>by simp
 | x :: l,l',hn,h=>by
  obtain⟨d,c⟩:=TO.1 hn;have a:=h x (by simp);have:=Sp (l:=l) (l':=l'.erase x) c (λy b=>(AF6 (λe:y=x=>d (by rw[<-e];exact b))).2 (h y (by simp[b])));rw[List.length_erase_of_mem a]at this;have:=AEQ a;simp only[OS];omega
theorem dL {l:List (Int×Int)} (h:NX l) {S:List Int} (hs:∀a∈l,a.1∈S):l.length<=S.length:=by
 have hn:(l.map (·.1)).Nodup:=by
  unfold List.Nodup;rw[ADz];exact h.imp λg=>by omega
 have:=Sp hn (l':=S) (λx b=>by
  obtain⟨a,ha,rfl⟩:=GO.1 b;exact hs a ha)
 rwa [RU]at this
theorem XW {h:AG} {N:List AD} {P:List (Int×Int)} {p ty:List Int} {ar:List (List (Int×Int))} (t:JI h N P p ty ar []) {a b:Int} (ha:0<=a/\a<(N.length:Int)) (s:0<=b/\b<(N.length:Int)):JI h N (P++[(a,b)]) p ty ar [(a,b)]:=by
 obtain⟨nty,fo,lp,lt,la,wr,tyr,arr,srt,sp,st,sa,co⟩:=t;have l:∀ {x y},EG N.length p [] x y->EG N.length p [(a,b)] x y:=λ{x y} g=>g.mono (λx y r j k C D h1 f=>.cls j k C D h1 f) (λx y A=>by cases A);refine⟨nty,fo,lp,lt,la,λw i=>?_,tyr,arr,srt,λq c=>?_,st,λx r j k z y B=>?_,λX v o d=>?_⟩
 ·have e:w=(a,b):=by simpa using i
  subst e;exact⟨ha,s⟩
 ·rcases No.1 c with c|c
  ·exact l (sp q c)
  ·have e:q=(a,b):=by simpa using c
   subst e;exact .wt (by simp)
 ·obtain⟨u,h1,f⟩:=sa x r j k z y B;exact⟨u,h1,l f⟩
 ·obtain⟨c1,c2,m,n⟩:=co X v o ⟨d.rng,d.ty,d.arc,λq c=>d.eq q (TB _ c)⟩;refine⟨c1,λw i=>?_,m,n⟩;have e:w=(a,b):=by simpa using i
  subst e;exact d.eq _ (by simp)
def xZ (h:AG) (p ty:List Int) (ar:List (List (Int×Int))):List (Nat×Obj):=[(101,.box 111 true [.p ER h,.sr 102 T3 0 p.length,.sr 103 T3 0 ty.length,.sr 104 DN 0 ar.length]),(102,.arr 3 T3 p),(103,.arr 3 T3 ty),(104,.arr 91 DN ar)]
theorem A7J (h:AG) (hk:GH h) {N:List AD} {P:List (Int×Int)} {p ty:List Int} {ar:List (List (Int×Int))} (Y:JI h N P p ty ar []) {a b:Int} (ha:0<=a/\a<(N.length:Int)) (ah:0<=b/\b<(N.length:Int)) (af:N.length<=10000) (hF:(Cw N).length<=1000000) :
  BJ Tryz.prog 86 [.bp 101 [] 0,.p T3 a,.p T3 b] (xZ h p ty ar) [101]
  (λres M=>(res=.p .bool true/\∃B H u,M=xZ h B H u/\JI h N (P++[(a,b)]) B H u [])\/(res=.p .bool false/\(∃B H u,M=xZ h B H u)/\∀X v,De h X->¬Zt h N (P++[(a,b)]) X v)):=by
 refine Kt [0,1,2,3,6,7,8,9,10,11,19,48] [] [] Tryz.func86 Tryz.ntmps86 AH ?_;intro w0 K O0 ρ0 f ba bb;have hh:h.1.length<=100000:=Rc hk.2 (by omega);have ai:∀x∈h.1,x.2.1.length<=100000:=λx av=>Rc (hk.1.wid x.2.1 (GO.2 ⟨x,av,rfl⟩)) (by omega);have aj:=XW Y ha ah;generalize az:P++[(a,b)]=Q at *;have ay:N.length*((Cw N).length+1)<=10000*1000001:=Nat.mul_le_mul af (by omega);simp only[xZ,Ao];repeat'(first|exact trivial|refine eS rfl ?_|refine rX f ?_ ?_)
 refine AK (ι:={s:(List Int×List Int×List (List (Int×Int)))×(List (Int×Int)×Nat)//JI h N Q s.1.1 s.1.2.1 s.1.2.2 (s.2.1.take s.2.2)/\s.2.2<=s.2.1.length/\nR s.1.1*((Cw N).length+1)+s.2.2<=N.length*((Cw N).length+1)+1}) (λs=>⟨[(3,.bp 3 [] 0),(7,.bp 7 [] 0),(8,.clo 134 [3,7])],[(101,.box 111 true [.p ER h,.sr 102 T3 0 s.1.1.1.length,.sr 103 T3 0 s.1.1.2.1.length,.sr 104 DN 0 s.1.1.2.2.length]),(102,.arr 3 T3 s.1.1.1),(103,.arr 3 T3 s.1.1.2.1),(104,.arr 91 DN s.1.1.2.2),(3,.box 108 false [.bp 101 [] 0]),(7,.box 173 false [.sr 15 SL 0 s.1.2.2]),(15,.arr 172 SL s.1.2.1)]⟩) (λs=>nR s.1.1.1*((Cw N).length+1)+s.1.2.2) ⟨((p,ty,ar),([(a,b)],1)),aj,by simp,by have:=Ro ((Cw N).length+1) (ADc p);rw[Y.lp]at this;simp only;omega⟩ (eW [(101,.nm 101),(102,.nm 102),(103,.nm 103),(104,.nm 104),(3,.nm 3),(7,.nm 7),(15,.nm 15)]) (λs=>?_)
 ·obtain⟨⟨⟨q,d,aq⟩,V,k⟩,l,ak,ae⟩:=s;simp only at l ak ae ⊢;repeat'(first|exact trivial|refine eS rfl ?_|refine rX f ?_ ?_|refine rC ?_ ?_<;>intro j<;>try(cases j;done))
  ·exact eV
  ·exact eV
  ·have Z:0<k:=IS.1 j;have al:((k:Int)-1).toNat=k-1:=by omega
   have U:=A0 V (0,0) (k:=k-1) (by omega);rw[show k-1+1=k by omega]at U;rw[al];generalize bd:V.getD (k-1) (0,0)=st at *;obtain⟨s,t⟩:=st;rw[U]at l;obtain⟨⟨D,s1⟩,F,G⟩:=l.wr (s,t) (by simp);simp only at D s1 F G;obtain⟨O,fo⟩:=l.fo;have C:=l.lp;refine Cf drawsAny f 8 [([0,1,2],3),([4,5,6],7)] [] (by kernel_rfl) (Ni ?_ ?_)
   ·trivial
   ·refine mxC f (dJ h d aq O fo D (by rw[C];exact s1)) [(1,.nm 101),(2,.nm 102),(3,.nm 103),(4,.nm 104)] [102,103,104] ?_ ?_ ?_
    ·exact eN
    ·simp only[Zs];exact eN
    ·rintro _ _ ⟨ab,c,rfl,rfl,ad,E,aw⟩;refine⟨[(101,.nm 1),(102,.nm 2),(103,.nm 3),(104,.nm 4)],.p T3 c,[(101,.box 111 true [.p ER h,.sr 102 T3 0 ab.length,.sr 103 T3 0 d.length,.sr 104 DN 0 aq.length]),(102,.arr 3 T3 ab),(103,.arr 3 T3 d),(104,.arr 91 DN aq)],rfl,rfl,?_,?_,rfl,rfl,rfl,?_⟩
     ·simp only[Zs];exact eN
     ·exact eN
     ·refine Ni ?_ ?_
      ·trivial
      ·refine mxC f (dJ h d aq O ad F (by rw[<-E.1,C];exact G)) [(1,.nm 101),(2,.nm 102),(3,.nm 103),(4,.nm 104)] [102,103,104] ?_ ?_ ?_
       ·exact eN
       ·simp only[Zs];exact eN
       ·rintro _ _ ⟨g,e,rfl,rfl,J,S,ax⟩;refine⟨[(101,.nm 1),(102,.nm 2),(103,.nm 3),(104,.nm 4)],.p T3 e,[(101,.box 111 true [.p ER h,.sr 102 T3 0 g.length,.sr 103 T3 0 d.length,.sr 104 DN 0 aq.length]),(102,.arr 3 T3 g),(103,.arr 3 T3 d),(104,.arr 91 DN aq)],rfl,rfl,?_,?_,rfl,rfl,rfl,?_⟩
        ·simp only[Zs];exact eN
        ·exact eN
        ·refine UY f ?_ ?_ ?_
         ·trivial
         ·trivial
         ·repeat' refine eS rfl ?_
          have i:=A7I (E.trans S) ⟨O,J⟩ l;have R:=E.trans S;have A:=(R.2 s c D (by rw[C];exact s1)).1 aw;have o:=(S.2 t e F (by rw[<-E.1,C];exact G)).1 ax;have n:=i.lp;have w:=GF J D (by rw[n];exact s1) A;have m:=GF J F (by rw[n];exact G) o;refine evP f 4 ?_ ?_
          ·trivial
          ·by_cases z:c=e
           ·subst z;rw[show (c != c)=false from bne_self_eq_false c];refine rL f ?_ ?_
            ·trivial
            ·repeat'(first|refine eS rfl ?_|refine AB ?_|refine rC ?_ ?_<;>intro j<;>try(cases j;done))
             have y:=dK i A o;have hn:=xX R;exact⟨⟨((g,d,aq),V,k-1),y,by simp only;omega,by simp only;rw[hn];omega⟩,by simp only;rw[hn];omega,eW [(101,.nm 101),(102,.nm 102),(103,.nm 103),(104,.nm 104),(3,.nm 3),(7,.nm 7),(15,.nm 15)]⟩
           ·rw[show (c != e)=true by simpa using z];refine rN 3 f ?_ ?_
            ·trivial
            ·have L:=λr:Int=>dL (i.srt r.toNat) (λa ha=>(i.arr r.toNat a ha).2);refine clG f (A40 h hh ai g d aq V (k-1) (by omega) (by omega) w.1 w.2 m.1 m.2 (by rw[i.lt,n]) (by rw[i.la,n]) (i.tyr c w.1 (by rw[<-n];exact w.2)) (i.tyr e m.1 (by rw[<-n];exact m.2)) (Rc (L c) (by omega)) (Rc (L e) (by omega))) [(1,.nm 101),(2,.nm 102),(3,.nm 103),(4,.nm 104),(5,.nm 3),(6,.nm 7),(7,.nm 15)] [102,103,104,15] ?_ ?_ ?_
             ·exact eN
             ·simp only[mgO];exact eN
             ·rintro res M (⟨I,rfl,rfl⟩|⟨I,rfl,T,W,ap,aa,rfl⟩)
              ·refine⟨[(101,.nm 1),(102,.nm 2),(103,.nm 3),(104,.nm 4),(3,.nm 5),(7,.nm 6),(15,.nm 7)],.p .bool false,[(101,.box 111 true [.p ER h,.sr 102 T3 0 g.length,.sr 103 T3 0 d.length,.sr 104 DN 0 aq.length]),(102,.arr 3 T3 g),(103,.arr 3 T3 d),(104,.arr 91 DN aq),(3,.box 108 false [.bp 101 [] 0]),(7,.box 173 false [.sr 15 SL 0 (k-1)]),(15,.arr 172 SL V)],rfl,rfl,?_,?_,rfl,rfl,?_⟩
               ·simp only[mgO];exact eN
               ·exact eN
               ·refine rL f ?_ ?_
                ·trivial
                ·repeat'(first|exact trivial|refine eS rfl ?_|refine rX f ?_ ?_|refine rC ?_ ?_<;>intro j<;>try(cases j;done))
                 refine Ev.ent (σ':=⟨[(6,.p .bool false)],xZ h g d aq⟩) ?_ (AC [(101,.nm 101),(102,.nm 102),(103,.nm 103),(104,.nm 104)] rfl rfl ?_ ?_)
                 ·exact fM f [.tmp 6] (.p .bool false) eT (.inr ⟨rfl,⟨g,d,aq,rfl⟩,λX v ag ao=>by
                   have:=(VG hk i A o ag ao).2.1;rw[I]at this;cases this⟩)
                 ·unfold xZ;exact eN
                 ·exact eN
              ·refine⟨[(101,.nm 1),(102,.nm 2),(103,.nm 3),(104,.nm 4),(3,.nm 5),(7,.nm 6),(15,.nm 7)],.p .bool true,[(101,.box 111 true [.p ER h,.sr 102 T3 0 (g.set e.toNat c).length,.sr 103 T3 0 (d.set c.toNat (Bm h (d.getD c.toNat 0) (d.getD e.toNat 0)).1).length,.sr 104 DN 0 (aq.set c.toNat (Bz (aq.getD c.toNat []) (aq.getD e.toNat [])).1).length]),(102,.arr 3 T3 (g.set e.toNat c)),(103,.arr 3 T3 (d.set c.toNat (Bm h (d.getD c.toNat 0) (d.getD e.toNat 0)).1)),(104,.arr 91 DN (aq.set c.toNat (Bz (aq.getD c.toNat []) (aq.getD e.toNat [])).1)),(3,.box 108 false [.bp 101 [] 0]),(7,.box 173 false [.sr 15 SL 0 W]),(15,.arr 172 SL T)],rfl,rfl,?_,?_,rfl,rfl,?_⟩
               ·simp only[mgO];exact eN
               ·exact eN
               ·refine rL f ?_ ?_
                ·trivial
                ·repeat'(first|refine eS rfl ?_|refine AB ?_|refine rC ?_ ?_<;>intro j<;>try(cases j;done))
                 have y:=XV hk i A o z I;rw[<-aa]at y;have hn:=xX R;have an:=xY (a:=c) m.1 m.2 o.root z;have bc:(Bz (aq.getD c.toNat []) (aq.getD e.toNat [])).2.length<=(Cw N).length:=Rc Q6 (L c);have au:=ADB List.length aa;rw[IF,OR,OR]at au;have am:nR g*((Cw N).length+1)=nR (g.set e.toNat c)*((Cw N).length+1)+((Cw N).length+1):=by rw[<-an,AEU,Nat.one_mul]
                 rw[hn]at am;exact⟨⟨((g.set e.toNat c,d.set c.toNat (Bm h (d.getD c.toNat 0) (d.getD e.toNat 0)).1,aq.set c.toNat (Bz (aq.getD c.toNat []) (aq.getD e.toNat [])).1),T,W),y,ap,by simp only;omega⟩,by simp only;omega,eW [(101,.nm 101),(102,.nm 102),(103,.nm 103),(104,.nm 104),(3,.nm 3),(7,.nm 7),(15,.nm 15)]⟩
  ·have Z:k=0:=by
    have:=RY.1 j;omega
   subst Z;rw[ADy]at l;refine Ev.ent (σ':=⟨[(6,.p .bool true)],xZ h q d aq⟩) ?_ (AC [(101,.nm 101),(102,.nm 102),(103,.nm 103),(104,.nm 104)] rfl rfl ?_ ?_)
   ·exact fM f [.tmp 6] (.p .bool true) eT (.inl ⟨rfl,q,d,aq,rfl,l⟩)
   ·unfold xZ;exact eN
   ·exact eN
open Classical in
noncomputable def Ed (p:List Int) (x:Int):Int:=if h:∃r,Rt p x r then h.choose else x
theorem dP {p:List Int} {x r:Int} (h:Rt p x r):Ed p x=r:=by
 unfold Ed;rw[dif_pos ⟨r,h⟩];exact(Exists.choose_spec (p:=λr=>Rt p x r) ⟨r,h⟩).det h
theorem PK {p:List Int} {a:Int->Nat} (hp:Fo p a) {x:Int} (b:0<=x) (c:x<(p.length:Int)):Rt p x (Ed p x):=by
 obtain⟨r,h,-,-⟩:=hp.root b c;rw[dP h];exact h
noncomputable def quo (p ty:List Int) (ar:List (List (Int×Int))):List AD:=(List.range p.length).map λk=>(ty.getD k 0,(ar.getD k []).map λa=>(a.1,Ed p a.2))
theorem E6 (p ty:List Int) (ar:List (List (Int×Int))):(quo p ty ar).length=p.length:=by simp[quo]
theorem NY {p ty:List Int} {ar:List (List (Int×Int))} {n:Int} (n0:0<=n) (n1:n<(p.length:Int)):(quo p ty ar).getD n.toNat (0,[])=(ty.getD n.toNat 0,(ar.getD n.toNat []).map λa=>(a.1,Ed p a.2)):=by
 unfold quo;rw[AS,aT,ADS (by omega)];rfl
def LI (len:Nat) (o:List Int):List Int:=(List.range len).map λ(k:Nat)=>if (k:Int)∈o then ((o.idxOf (k:Int):Nat):Int) else -1
theorem XX (len:Nat) (o:List Int):(LI len o).length=len:=by simp[LI]
theorem XY {len:Nat} {o:List Int} {n:Int} (n0:0<=n) (n1:n<(len:Int)):(LI len o).getD n.toNat 0=if n∈o then (o.idxOf n:Int) else -1:=by
 unfold LI;rw[AS,aT,ADS (by omega)];simp only[AEf,AF2];rw[show ((n.toNat:Nat):Int)=n by omega]
theorem XZ {o:List Int} {n:Int} (h:n∉o):(o++[n]).idxOf n=o.length:=by
 rw[AEV,An h];simp
theorem Zv {o t:List Int} {n:Int} (h:n∈o):(o++t).idxOf n=o.idxOf n:=by
 rw[AEV,BY h]
theorem A41 {len:Nat} {o:List Int} {n:Int} (n0:0<=n) (n1:n<(len:Int)) (h:n∉o):(LI len o).set n.toNat (o.length:Int)=LI len (o++[n]):=by
 apply TF
 ·simp[LI]
 ·intro i h1 c;rw[List.getElem_set];simp only[LI,AEl,AEo];by_cases e:n.toNat=i
  ·rw[BY e];have b:(i:Int)=n:=by omega
   rw[b,BY (by simp),XZ h]
  ·rw[An e];have b:(i:Int)≠n:=by omega
   by_cases a:(i:Int)∈o
   ·rw[BY a,BY (by simp[a]),Zv a]
   ·rw[An a,An (by simp[a,b])]
theorem Xa {o t:List Int} {x:Int} (h:x∈o):B2 (o++t) x=B2 o x:=by
 unfold B2;rw[BY (TB _ h),BY h,Zv h]
theorem Q7 {f:List AD} (hf:AU f) (k:Nat):∀(l:List (Int×Int)) (t:List Int),(∀a∈l,0<=a.2/\a.2<(f.length:Int))->KP f t->f.length-t.length<=k ->
  (∀a∈l,a.2∈l.foldl (Ab f k) t)/\∀x∈l.foldl (Ab f k) t,x∈t\/∀a∈(f.getD x.toNat (0,[])).2,a.2∈l.foldl (Ab f k) t:=by
 intro l;induction l with
 | nil=>exact λt _ _ _=>⟨λa ha=>(by cases ha),λx c=>.inl c⟩
 | cons a l u =>
  intro t j m o;simp only[ON];have p:KP f (Ab f k t a)/\t <+: Ab f k t a/\a.2∈Ab f k t a/\∀x∈Ab f k t a,x∈t\/∀b∈(f.getD x.toNat (0,[])).2,b.2∈Ab f k t a:=by
   unfold Ab;split
   ·rename_i hn;exact⟨m,AAg _,hn,λx c=>.inl c⟩
   ·rename_i hn;have q:=j a (by simp);obtain⟨e,g⟩:=EA hf k t a.2 m q.1 q.2 hn;obtain⟨h,i⟩:=IX hf k t a.2 m q.1 q.2 hn o;exact⟨e,g,h,i⟩
  obtain⟨e,g,h,i⟩:=p;have v:=g.length_le;obtain⟨r,s⟩:=u (Ab f k t a) (λb d=>j b (by simp[d])) e (by omega);obtain⟨_,n⟩:=Es (EA hf k) l (Ab f k t a) (λb d=>j b (by simp[d])) e;refine⟨λb d=>?_,λx c=>?_⟩
  ·rcases DO.1 d with rfl|d
   ·exact n.subset h
   ·exact r b d
  ·rcases s x c with c|c
   ·rcases i x c with c|c
    ·exact .inl c
    ·exact .inr λb d=>n.subset (c b d)
   ·exact .inr c
def HN (f:List AD) (o a:List Int):List AD:=(a.drop o.length).map (Dd f a)
theorem A0S {f:List AD} {o t:List Int} {x:Int} (h:∀a∈(f.getD x.toNat (0,[])).2,a.2∈o):Dd f (o++t) x=Dd f o x:=by
 unfold Dd;refine ADB _ (Rf λa ha=>?_);unfold LG;rw[Xa (h a ha)]
theorem A42 {f:List AD} {c b d:List Int} (g:c <+: b) (i:b <+: d) (j:∀x∈b,x∈c\/∀a∈(f.getD x.toNat (0,[])).2,a.2∈b) (hn:b.Nodup):HN f c b++HN f b d=HN f c d:=by
 obtain⟨t,rfl⟩:=g;obtain⟨s,rfl⟩:=i;unfold HN;rw[AEz,AEz,Rl,AEz,<-Rl,iN]
 congr 1
 refine Rf λx e=>?_;refine(A0S λa ha=>?_).symm;rcases j x (AE8 _ e) with h|h
 ·exact absurd rfl ((ADF.1 hn).2.2 x h x e)
 ·exact h a ha
theorem Zw (f:List AD) (o:List Int):HN f o o=[]:=by
 unfold HN;rw[AF5];rfl
theorem Sq {α β:Type} (f:α->β) {l:List α} (d:α) (e:β) {i:Nat} (h:i<l.length):(l.map f).getD i e=f (l.getD i d):=by
 simp[AS,At h]
structure ADd (Q:List AD) (o1:List Int) (L:List (Int×Int)) (j:Nat) (oo:Nat->List Int):Prop where
 zero:oo 0=o1
 succ:∀i,i<L.length->oo (i+1)=Ab Q j (oo i) (0,(L.getD i (0,0)).2)
 dok:∀i,KP Q (oo i)
 pre:∀i,o1 <+: oo i
 nxt:∀i,oo i <+: oo (i+1)
 tgt:∀i,∀a∈L.take i,a.2∈oo i
 cls:∀i,∀x∈oo i,x∈o1\/∀a∈(Q.getD x.toNat (0,[])).2,a.2∈oo i
 last:oo L.length=L.foldl (Ab Q j) o1
theorem A7K {Q:List AD} (c:AU Q) {b:List Int} {L:List (Int×Int)} {j:Nat} (g:∀a∈L,0<=a.2/\a.2<(Q.length:Int)) (h1:KP Q b) (k:Q.length-b.length<=j):ADd Q b L j (λi=>(L.take i).foldl (Ab Q j) b):=by
 have f:=λi=>λa (ha:a∈L.take i)=>g a (gO ha);have hs:∀i,i<L.length->(L.take (i+1)).foldl (Ab Q j) b=Ab Q j ((L.take i).foldl (Ab Q j) b) (0,(L.getD i (0,0)).2):=λi hi=>NQ (Ab Q j) L (0,0) b hi;have d:=λi=>Es (EA c j) (L.take i) b (f i) h1;refine⟨rfl,hs,λi=>(d i).1,λi=>(d i).2,λi=>?_,λi=>(Q7 c j _ b (f i) h1 k).1,λi=>(Q7 c j _ b (f i) h1 k).2,by simp only[Re]⟩;by_cases h:i<L.length
 ·show _ <+: (L.take (i+1)).foldl (Ab Q j) b;rw[hs i h];have l:=g _ (AE L (0,0) h);exact(Es (EA c j) [(0,(L.getD i (0,0)).2)] _ (λa ha=>by
   have e:a=(0,(L.getD i (0,0)).2):=by simpa using ha
   subst e;exact l) (d i).1).2
 ·show (L.take i).foldl (Ab Q j) b <+: (L.take (i+1)).foldl (Ab Q j) b;rw[As (by omega),As (by omega)];exact AAg _
theorem A7L {α:Type} (l:List α) (x y:α) (t:List α) {k:Nat} (hk:k=l.length):(l++[x]++t).set k y=l++y :: t:=by
 subst hk;rw[Rl,AEn _ _ (by omega),ADX];rfl
theorem A0T {Q:List AD} {o a:List Int} {n:Int} (h:o++[n] <+: a):HN Q o a=Dd Q a n :: HN Q (o++[n]) a:=by
 obtain⟨t,rfl⟩:=h;unfold HN;rw[AEz,Rl,AEz];rfl
def uO (h:AG) (p ty:List Int) (ar:List (List (Int×Int))) (M:List Int) (out:List AD):List (Nat×Obj):=[(101,.box 111 true [.p ER h,.sr 102 T3 0 p.length,.sr 103 T3 0 ty.length,.sr 104 DN 0 ar.length]),(102,.arr 3 T3 p),(103,.arr 3 T3 ty),(104,.arr 91 DN ar),(105,.box 108 false [.bp 101 [] 0]),(106,.box 61 false [.sr 107 T3 0 M.length]),(107,.arr 3 T3 M),(108,.box 25 true [.sr 109 NJ 0 out.length]),(109,.arr 93 NJ out),(110,.box 174 false [.clo 137 [105,106,108,110]])]
def A9G (h:AG) (p0 ty:List Int) (ar:List (List (Int×Int))) (k:Nat):Prop:=∀(p o:List Int) (out:List AD) (n:Int),(∃b,Fo p b)->Eu p0 p->KP (quo p0 ty ar) o->out.length=o.length->0<=n->n<(p0.length:Int)->p0.length-o.length<=k ->
 BJ Tryz.prog 137 [.p T3 n,.bp 105 [] 0,.bp 106 [] 0,.bp 108 [] 0,.bp 110 [] 0] (uO h p ty ar (LI p0.length o) out) [101,105,106,108,110]
  (λres c=>∃a,(∃b,Fo a b)/\Eu p0 a/\res=.p T3 (B2 (Ab (quo p0 ty ar) k o (0,Ed p0 n)) (Ed p0 n))/\c=uO h a ty ar (LI p0.length (Ab (quo p0 ty ar) k o (0,Ed p0 n))) (out++HN (quo p0 ty ar) o (Ab (quo p0 ty ar) k o (0,Ed p0 n))))
theorem j7 (h:AG) {p0 ty:List Int} {ar:List (List (Int×Int))} (ai:∃m,Fo p0 m) (v:AU (quo p0 ty ar)) (aw:ty.length=p0.length) (ae:ar.length=p0.length) (ag:∀k,∀a∈ar.getD k [],0<=a.2/\a.2<(p0.length:Int)) (k:Nat) (ay:∀j,k=j+1->A9G h p0 ty ar j):A9G h p0 ty ar k:=by
 intro p o out n aj F O y n0 n1 hk;obtain⟨m,fo⟩:=aj;obtain⟨bj,L⟩:=ai;have U:=PK L n0 n1;have d:=GF L n0 n1 U;have hp:=v.1;rw[E6]at hp;have C:=XX p0.length o;generalize bd:Ed p0 n=b at *;refine Kt [0,1,2,3,4,6,7,8,10,18,49,50,51,52] [] [] Tryz.func137 Tryz.ntmps137 AH ?_;intro w0 K O0 ρ0 f be bf;simp only[uO,Ao];repeat'(first|exact trivial|refine eS rfl ?_|refine rX f ?_ ?_)
 refine cP 2 f ?_ ?_
 ·trivial
 ·refine rM f (dJ h ty ar m fo n0 (by rw[<-F.1];exact n1)) [(1,.nm 101),(2,.nm 102),(3,.nm 103),(4,.nm 104)] [102,103,104] ?_ ?_ ?_
  ·exact eN
  ·simp only[Zs];exact eN
  ·rintro _ _ ⟨u,bi,rfl,rfl,M,bc,ba⟩;have aa:=F.trans bc;have e:=((F.2 n b n0 n1).1 U).det ba;subst e;refine⟨[(101,.nm 1),(102,.nm 2),(103,.nm 3),(104,.nm 4)],.p T3 b,[(101,.box 111 true [.p ER h,.sr 102 T3 0 u.length,.sr 103 T3 0 ty.length,.sr 104 DN 0 ar.length]),(102,.arr 3 T3 u),(103,.arr 3 T3 ty),(104,.arr 91 DN ar)],rfl,rfl,?_,?_,rfl,rfl,?_⟩
   ·simp only[Zs];exact eN
   ·exact eN
   ·refine rL f ?_ ?_
    ·trivial
    ·repeat'(first|exact trivial|refine eS rfl ?_|refine rX f ?_ ?_|refine rC ?_ ?_<;>intro l<;>try(cases l;done))
     ·exact⟨d.1,by rw[C];exact d.2⟩
     ·exact⟨d.1,by rw[C];exact d.2⟩
     ·rw[XY d.1 d.2]at l;have B:b∈o:=Do λe=>by rw[An e]at l;omega
      have W:Ab (quo p0 ty ar) k o (0,b)=o:=BY B;have A:B2 o b=(LI p0.length o).getD b.toNat 0:=by
       rw[XY d.1 d.2,BY B];unfold B2;rw[BY B]
      refine Ev.ent (σ':=⟨[(6,.p T3 (B2 o b))],uO h u ty ar (LI p0.length o) out⟩) ?_ (AC [(101,.nm 101),(102,.nm 102),(103,.nm 103),(104,.nm 104),(105,.nm 105),(106,.nm 106),(107,.nm 107),(108,.nm 108),(109,.nm 109),(110,.nm 110)] rfl rfl ?_ ?_)
      ·refine fM f [.tmp 6] (.p T3 (B2 o b)) eT ⟨u,⟨m,M⟩,aa,by rw[W],?_⟩;rw[W,Zw,Rq];rfl
      ·unfold uO;exact eN
      ·refine eM ?_;exact A.symm
     ·exact⟨d.1,by rw[C];exact d.2⟩
     ·refine⟨⟨d.1,by rw[aw];exact d.2⟩,?_⟩;have:=O.len;rw[E6]at this;simp only[AP];omega
     ·exact⟨d.1,by rw[ae];exact d.2⟩
     ·rw[XY d.1 d.2]at l;have w:b∉o:=λe=>by rw[BY e]at l;omega
      have N:=O.snoc d.1 (by rw[E6];exact d.2) w;have an:=N.len;rw[E6,IF,RW]at an;obtain⟨j,rfl⟩:∃j,k=j+1:=⟨k-1,by omega⟩;have am:=ay j rfl;have x:=NY (p:=p0) (ty:=ty) (ar:=ar) d.1 d.2;have ax:=λa (ha:a∈ar.getD b.toNat [])=>ag b.toNat a ha;have bg:(ar.getD b.toNat []).length<=100000:=by
       have:=(v.2 _ (AE (quo p0 ty ar) (0,[]) (k:=b.toNat) (by rw[E6];omega))).1;rw[x,RU]at this;exact this
      have ad:∀a∈((ar.getD b.toNat []).map λa=>(a.1,Ed p0 a.2)),0<=a.2/\a.2<((quo p0 ty ar).length:Int):=λa ha=>by
       refine A6 v (n:=b) ?_;rw[x];exact ha
      obtain⟨c,g⟩:∃c,ADd (quo p0 ty ar) (o++[b]) ((ar.getD b.toNat []).map λa=>(a.1,Ed p0 a.2)) j c:=⟨_,A7K v (j:=j) ad N (by rw[E6,IF,RW];omega)⟩;have G:Ab (quo p0 ty ar) (j+1) o (0,b)=((ar.getD b.toNat []).map λa=>(a.1,Ed p0 a.2)).foldl (Ab (quo p0 ty ar) j) (o++[b]):=by
       unfold Ab;rw[An w];show Cz (quo p0 ty ar) (j+1) o b=_;rw[CJ,x];rfl
      rw[<-g.last,RU]at G;have ap:=λ(i:Nat) (hi:i<(ar.getD b.toNat []).length)=>show (((ar.getD b.toNat []).map λa=>(a.1,Ed p0 a.2)).getD i (0,0))=(((ar.getD b.toNat []).getD i (0,0)).1,Ed p0 ((ar.getD b.toNat []).getD i (0,0)).2) by
       exact Sq (λa:Int×Int=>(a.1,Ed p0 a.2)) (0,0) (0,0) hi
      rw[y,A41 d.1 d.2 w];generalize bh:ar.getD b.toNat []=xs at *;refine AK (ι:={s:Nat×List Int//s.1<=xs.length/\(∃m,Fo s.2 m)/\Eu p0 s.2}) (λs=>⟨[(0,.p T3 b),(1,.bp 105 [] 0),(2,.bp 106 [] 0),(3,.bp 108 [] 0),(4,.bp 110 [] 0),(7,.p (.int .i64) (o.length:Int)),(8,.sr 64 AW 0 ((xs.take s.1.1).map λa=>(a.1,B2 (c s.1.1) (Ed p0 a.2))).length),(49,.p DN xs),(50,.p (.int .i64) (xs.length:Int)),(51,.p (.int .i64) (s.1.1:Int))],uO h s.1.2 ty ar (LI p0.length (c s.1.1)) (out++[(ty.getD b.toNat 0,[])]++HN (quo p0 ty ar) (o++[b]) (c s.1.1))++[(64,.arr 106 AW ((xs.take s.1.1).map λa=>(a.1,B2 (c s.1.1) (Ed p0 a.2))))]⟩) (λs=>xs.length-s.1.1) ⟨(0,u),IN _,⟨m,M⟩,aa⟩ (AC [(101,.nm 101),(102,.nm 102),(103,.nm 103),(104,.nm 104),(105,.nm 105),(106,.nm 106),(107,.nm 107),(108,.nm 108),(109,.nm 109),(110,.nm 110),(64,.nil)] rfl rfl ?_ ?_) (λs=>?_)
      ·unfold uO;simp only[g.zero,Zw,Rq];refine eM ?_;exact⟨by rw[XX,XX],y.symm⟩
      ·exact eN
      ·obtain⟨⟨i,q⟩,hi,⟨Z,P⟩,V⟩:=s;have E:=g.pre i;have z:=g.dok i;have au:=E.length_le;have ah:=z.len;rw[IF,RW]at au;rw[E6]at ah;have R:(out++[(ty.getD b.toNat 0,[])]++HN (quo p0 ty ar) (o++[b]) (c i)).length=(c i).length:=by
        unfold HN;simp only[IF,RW,RU,TE];omega
       have S:out.length+1+(HN (quo p0 ty ar) (o++[b]) (c i)).length=(c i).length:=by
        rw[<-R,IF,IF,RW]
       simp only[uO];repeat'(first|exact trivial|refine eS rfl ?_|refine rX f ?_ ?_|refine rC ?_ ?_<;>intro l<;>try(cases l;done))
       ·exact l
       ·have r:i<xs.length:=IS.1 l;have Y:=ax _ (AE xs (0,0) r);have X:=g.succ i (by rw[RU];exact r);rw[ap i r]at X;have af:=A42 E (g.nxt i) (g.cls i) z.nd;have av:=g.pre (i+1);have T:out.length+1+(HN (quo p0 ty ar) (o++[b]) (c (i+1))).length=(c (i+1)).length:=by
         have h1:=av.length_le;rw[IF,RW]at h1;unfold HN;simp only[IF,RW,RU,TE];omega
        have J:((xs.take i).map λa=>(a.1,B2 (c i) (Ed p0 a.2)))++[((xs.getD i (0,0)).1,B2 (c (i+1)) (Ed p0 (xs.getD i (0,0)).2))]=(xs.take (i+1)).map λa=>(a.1,B2 (c (i+1)) (Ed p0 a.2)):=by
         rw[EL _ xs (0,0) r]
         congr 1
         refine Rf λa ha=>?_;obtain⟨t,H⟩:=g.nxt i;rw[<-H,Xa (g.tgt i (a.1,Ed p0 a.2) (by rw[<-List.map_take];exact GO.2 ⟨a,ha,rfl⟩))]
        rw[S];refine Cf drawsAny f 10 [([3,4,5],6),([1,2],7),([],8),([0],9)] [] (by kernel_rfl) (Ni ?_ ?_)
        ·trivial
        ·refine mxC f (am q (c i) (out++[(ty.getD b.toNat 0,[])]++HN (quo p0 ty ar) (o++[b]) (c i)) (xs.getD i (0,0)).2 ⟨Z,P⟩ V z R Y.1 Y.2 (by omega)) [(101,.nm 101),(102,.nm 102),(103,.nm 103),(104,.nm 104),(105,.nm 105),(106,.nm 106),(107,.nm 107),(108,.nm 108),(109,.nm 109),(110,.nm 110)] [102,103,104,107,109] ?_ ?_ ?_
         ·exact eN
         ·simp only[uO];refine eM ?_;exact S.symm
         ·rintro _ _ ⟨I,⟨az,ab⟩,bb,rfl,rfl⟩;rw[<-X,Rl _ _ (HN _ (c i) _),af];refine⟨[(101,.nm 101),(102,.nm 102),(103,.nm 103),(104,.nm 104),(105,.nm 105),(106,.nm 106),(107,.nm 107),(108,.nm 108),(109,.nm 109),(110,.nm 110)],.p T3 (B2 (c (i+1)) (Ed p0 (xs.getD i (0,0)).2)),[(101,.box 111 true [.p ER h,.sr 102 T3 0 I.length,.sr 103 T3 0 ty.length,.sr 104 DN 0 ar.length]),(102,.arr 3 T3 I),(103,.arr 3 T3 ty),(104,.arr 91 DN ar),(105,.box 108 false [.bp 101 [] 0]),(106,.box 61 false [.sr 107 T3 0 (LI p0.length (c (i+1))).length]),(107,.arr 3 T3 (LI p0.length (c (i+1)))),(108,.box 25 true [.sr 109 NJ 0 (c (i+1)).length]),(109,.arr 93 NJ (out++[(ty.getD b.toNat 0,[])]++HN (quo p0 ty ar) (o++[b]) (c (i+1)))),(110,.box 174 false [.clo 137 [105,106,108,110]])],rfl,rfl,?_,?_,rfl,rfl,rfl,?_⟩
          ·simp only[uO];refine eM ?_;exact T
          ·exact eN
          ·refine Ni ?_ ?_
           ·trivial
           ·refine Pa f [] ?_ ?_
            ·trivial
            ·refine Ni ?_ ?_
             ·trivial
             ·refine Pa f [] ?_ ?_
              ·trivial
              ·refine Ni ?_ ?_
               ·trivial
               ·refine Pa f [64] ?_ ?_
                ·rw[RU,OR];simp only[AP];omega
                ·refine UY f ?_ ?_ ?_
                 ·trivial
                 ·trivial
                 ·repeat'(first|refine eS rfl ?_|refine AB ?_|refine rX f ?_ ?_)
                  ·exact eV
                  ·refine⟨⟨(i+1,I),r,⟨az,ab⟩,bb⟩,by simp only;omega,AC [(101,.nm 101),(102,.nm 102),(103,.nm 103),(104,.nm 104),(105,.nm 105),(106,.nm 106),(107,.nm 107),(108,.nm 108),(109,.nm 109),(110,.nm 110),(64,.nm 64)] rfl rfl ?_ ?_⟩
                   ·simp only[uO,<-J];refine eM ?_;exact T.symm
                   ·simp only[<-J];exact eN
       ·exact IS.2 (by omega)
       ·have al:i=xs.length:=by
         have:=RY.1 l;omega
        subst al;obtain⟨t,H⟩:=E;have A:B2 (c xs.length) b=(o.length:Int):=by
         rw[<-H,Xa (by simp)];unfold B2;rw[BY (by simp),XZ w]
        have aq:Dd (quo p0 ty ar) (c xs.length) b=(ty.getD b.toNat 0,xs.map λa=>(a.1,B2 (c xs.length) (Ed p0 a.2))):=by
         unfold Dd;rw[x];simp only[AAd];rfl
        have ak:(out++[(ty.getD b.toNat 0,([]:List (Int×Int)))]++HN (quo p0 ty ar) (o++[b]) (c xs.length)).getD o.length (0,[])=(ty.getD b.toNat 0,[]):=by
         rw[<-y];simp[AS]
        have D:=A0T (Q:=quo p0 ty ar) (g.pre xs.length);rw[aq]at D;rw[Re,ak,A7L out _ _ _ y.symm,<-D];have ao:out.length+1+(HN (quo p0 ty ar) (o++[b]) (c xs.length)).length=(out++HN (quo p0 ty ar) o (c xs.length)).length:=by
         rw[D];simp only[IF,OS];omega
        rw[ao];refine Ev.ent (σ':=⟨[(6,.p T3 (B2 (c xs.length) b))],uO h q ty ar (LI p0.length (c xs.length)) (out++HN (quo p0 ty ar) o (c xs.length))⟩) ?_ (AC [(101,.nm 101),(102,.nm 102),(103,.nm 103),(104,.nm 104),(105,.nm 105),(106,.nm 106),(107,.nm 107),(108,.nm 108),(109,.nm 109),(110,.nm 110)] rfl rfl ?_ ?_)
        ·exact fM f [.tmp 6] (.p T3 (B2 (c xs.length) b)) eT ⟨q,⟨Z,P⟩,V,by rw[G],by rw[G];rfl⟩
        ·unfold uO;exact eN
        ·refine eM ?_;exact A.symm
theorem A43 (h:AG) {p0 ty:List Int} {ar:List (List (Int×Int))} (f:∃i,Fo p0 i) (b:AU (quo p0 ty ar)) (g:ty.length=p0.length) (c:ar.length=p0.length) (d:∀k,∀a∈ar.getD k [],0<=a.2/\a.2<(p0.length:Int)):∀k,A9G h p0 ty ar k
 | 0=>j7 h f b g c d 0 (λj e=>by cases e)
 | k+1=>j7 h f b g c d (k+1) (λj e=>by cases e;exact A43 h f b g c d k)
theorem A44 (len:Nat):LI len []=List.replicate len (-1):=by
 unfold LI;apply TF
 ·simp
 ·intro i h1 a;simp
theorem A45 {α:Type} (x y:α) {n i:Nat} (h:i<n):(List.replicate i x++List.replicate (n-i) y).set i x=List.replicate (i+1) x++List.replicate (n-(i+1)) y:=by
 obtain⟨m,a⟩:∃m,n-i=m+1:=⟨n-i-1,by omega⟩;have b:n-(i+1)=m:=by omega
 rw[a,b,AEn _ _ (by simp),AEB,ADX,AEM,AEP,AEH,Rl];rfl
theorem A46 (h:AG) {p ty:List Int} {ar:List (List (Int×Int))} (g:∃y,Fo p y) (f:AU (quo p ty ar)) (t:ty.length=p.length) (m:ar.length=p.length) (n:∀k,∀a∈ar.getD k [],0<=a.2/\a.2<(p.length:Int)) {r:Int} (v:0<=r) (w:r<(p.length:Int)) :
  BJ Tryz.prog 87 [.bp 101 [] 0,.p T3 r] (xZ h p ty ar) [101]
  (λres _=>res=.p DR (AN (quo p ty ar) (Ed p r))):=by
 have d:=A43 h g f t m n p.length p [] [] r g (Eu.refl p) ⟨by simp,λx u=>by cases u⟩ rfl v w (by simp);have o:HN (quo p ty ar) [] (Ab (quo p ty ar) p.length [] (0,Ed p r))=AN (quo p ty ar) (Ed p r):=by
  have e:Ab (quo p ty ar) p.length [] (0,Ed p r)=Cz (quo p ty ar) p.length [] (Ed p r):=An (by simp);rw[e];unfold HN AN;rw[E6];rfl
 rw[AE7,o,A44]at d;have s:=f.1;rw[E6]at s;generalize AN (quo p ty ar) (Ed p r)=G at *;generalize B2 _ _=z at d;generalize LI _ _=M at d;refine Kt [0,1,2,4,5,6,7,8,16,17,18] [] [] Tryz.func87 Tryz.ntmps87 AH ?_;intro w0 K O0 ρ0 b B C;simp only[xZ,Ao];repeat'(first|exact trivial|refine eS rfl ?_|refine rX b ?_ ?_)
 ·simp only[AP];omega
 ·refine AK (ι:={i:Nat//i<=p.length}) (λi=>⟨[(0,.bp 101 [] 0),(1,.p T3 r),(2,.bp 2 [] 0),(4,.bp 4 [] 0),(5,.bp 5 [] 0),(16,.p (.int .i64) (p.length:Int)),(17,.p (.int .i64) (i.1:Int))],[(5,.box 61 false [.sr 14 T3 0 p.length]),(14,.arr 3 T3 (List.replicate i.1 (-1)++List.replicate (p.length-i.1) 0)),(4,.box 25 true [.raw (.slice none 0 0)]),(2,.box 108 false [.bp 101 [] 0]),(101,.box 111 true [.p ER h,.sr 102 T3 0 p.length,.sr 103 T3 0 ty.length,.sr 104 DN 0 ar.length]),(102,.arr 3 T3 p),(103,.arr 3 T3 ty),(104,.arr 91 DN ar)]⟩) (λi=>p.length-i.1) ⟨0,by omega⟩ (AC [(5,.nm 5),(14,.nm 14),(4,.nm 4),(2,.nm 2),(101,.nm 101),(102,.nm 102),(103,.nm 103),(104,.nm 104)] rfl rfl ?_ ?_) (λi=>?_)
  ·refine eM ?_;rfl
  ·exact eN
  ·obtain⟨i,hi⟩:=i;simp only;repeat'(first|exact trivial|refine eS rfl ?_|refine AB ?_|refine rX b ?_ ?_|refine rC ?_ ?_<;>intro c<;>try(cases c;done))
   ·exact c
   ·exact eV
   ·have j:i<p.length:=IS.1 c;refine⟨⟨i+1,j⟩,by simp only;omega,AC [(5,.nm 5),(14,.nm 14),(4,.nm 4),(2,.nm 2),(101,.nm 101),(102,.nm 102),(103,.nm 103),(104,.nm 104)] rfl rfl ?_ ?_⟩
    ·refine eM ?_;exact A45 _ _ j
    ·exact eN
   ·have q:i=p.length:=by
     have:=RY.1 c;omega
    subst q;rw[ADX,List.replicate_zero,Rq];refine cP 2 b ?_ ?_
    ·trivial
    ·refine rM b (d) [(101,.nm 101),(102,.nm 102),(103,.nm 103),(104,.nm 104),(105,.nm 2),(106,.nm 5),(107,.nm 14),(108,.nm 7),(109,.nil),(110,.nm 8)] [102,103,104,14] ?_ ?_ ?_
     ·exact eN
     ·simp only[uO];refine eM ?_;exact AEB.symm
     ·rintro _ _ ⟨l,A,D,rfl,rfl⟩;refine⟨[(101,.nm 101),(102,.nm 102),(103,.nm 103),(104,.nm 104),(2,.nm 105),(5,.nm 106),(14,.nm 107),(7,.nm 108),(120,.nm 109),(8,.nm 110)],.p T3 z,[(101,.box 111 true [.p ER h,.sr 102 T3 0 l.length,.sr 103 T3 0 ty.length,.sr 104 DN 0 ar.length]),(102,.arr 3 T3 l),(103,.arr 3 T3 ty),(104,.arr 91 DN ar),(2,.box 108 false [.bp 101 [] 0]),(5,.box 61 false [.sr 14 T3 0 M.length]),(14,.arr 3 T3 M),(7,.box 25 true [.sr 120 NJ 0 G.length]),(120,.arr 93 NJ G),(8,.box 174 false [.clo 137 [2,5,7,8]])],rfl,rfl,?_,?_,rfl,rfl,CP ?_⟩
      ·simp only[uO];exact eN
      ·exact eN
      ·refine FQ [120] ?_;repeat'(first|exact trivial|refine eS rfl ?_|refine rX b ?_ ?_)
       exact fM b [.cell 4 25] (.p DR G) eT rfl
structure ADe (f:List AD) (r:Int) (o:List Int):Prop where
 ok:KP f o
 zero:o.getD 0 0=r/\0<o.length
 cl:∀n∈o,∀a∈AQ f n,a.2∈o
theorem Hc {f:List AD} (hf:AU f) {r:Int} (b:0<=r) (c:r<(f.length:Int)):ADe f r (Cz f f.length [] r):=by
 have h1:=EA hf f.length [] r (GD f) b c (by simp);have d:=IX hf f.length [] r (GD f) b c (by simp) (by simp);have e:[r] <+: Cz f f.length [] r:=by
  obtain⟨k,hk⟩:∃k,f.length=k+1:=⟨f.length-1,by omega⟩;rw[hk,CJ];exact(Es (EA hf k) _ _ (λa ha=>A6 hf ha) ((GD f).snoc b c (by simp))).2
 refine⟨h1.1,?_,λn hn a ha=>?_⟩
 ·obtain⟨t,g⟩:=e;rw[<-g];exact⟨rfl,by simp⟩
 ·rcases d.2 n hn with h|h
  ·cases h
  ·exact h a ha
theorem KK {f:List AD} {r:Int} {i:Nat} (hi:i<(Cz f f.length [] r).length):(AN f r).getD i (0,[])=Dd f (Cz f f.length [] r) ((Cz f f.length [] r).getD i 0):=by
 unfold AN;simp[AS,hi]
theorem Ib (f:List AD) (r:Int):(AN f r).length=(Cz f f.length [] r).length:=by simp[AN]
def Cb (f g:List AD):List AD:=f++g.map λx=>(x.1,A4 f.length x.2)
theorem E7 (f g:List AD):(Cb f g).length=f.length+g.length:=by simp[Cb]
theorem PM {f g:List AD} {x:Int} (a:0<=x) (b:x<(f.length:Int)):(Cb f g).getD x.toNat (0,[])=f.getD x.toNat (0,[]):=by
 unfold Cb;rw[AS,AS,Rn (by omega)]
theorem Mk {f g:List AD} {y:Int} (a:0<=y) (b:y<(g.length:Int)):(Cb f g).getD ((f.length:Int)+y).toNat (0,[])=((g.getD y.toNat (0,[])).1,A4 f.length (g.getD y.toNat (0,[])).2):=by
 unfold Cb;have e:((f.length:Int)+y).toNat=f.length+y.toNat:=by omega
 rw[e,AS,Rr (by omega),AEO];rw[<-AS];exact Sq (λx:AD=>(x.1,A4 f.length x.2)) (0,[]) (0,[]) (by omega)
theorem x5 {n:Nat} {p:List Int} {x y:Int} (h:EG n p [] x y):Ed p x=Ed p y:=by
 induction h with
 | cls _ _ _ _ h g=>rw[dP h,dP g]
 | wt h=>cases h
 | symm _ a=>exact a.symm
 | trans _ _ b c=>exact b.trans c
noncomputable abbrev Sr (p ty:List Int) (ar:List (List (Int×Int))):List Int:=Cz (quo p ty ar) (quo p ty ar).length [] (Ed p 0)
structure A8H (h:AG) (N:List AD) (P:List (Int×Int)) (U:List AD) (v:Int->Int):Prop where
 good:AU U
 pos:0<U.length
 str:∀x∈U,NX x.2
 feat:∀x∈U,∀a∈x.2,a.1∈Cw N
 ty:De h U
 ro:RO U
 zero:v 0=0
 proj:Zt h N P U v
 least:∀X w,De h X->Zt h N P X w->w 0=0->∃m,Ln h U X m
 len:U.length<=N.length
section
variable {h:AG} {N:List AD} {P:List (Int×Int)} {p ty:List Int} {ar:List (List (Int×Int))}
theorem Ss (a:JI h N P p ty ar []) (b:AU (quo p ty ar)) (c:0<N.length):ADe (quo p ty ar) (Ed p 0) (Sr p ty ar):=by
 obtain⟨d,fo⟩:=a.fo;have lp:=a.lp;have:=GF fo (x:=0) (by omega) (by omega) (PK fo (by omega) (by omega));exact Hc b this.1 (by rw[E6];exact this.2)
theorem Xb (d:JI h N P p ty ar []) (c:AU (quo p ty ar)) (b:0<N.length):Ed p 0∈Sr p ty ar:=by
 have a:=Ss d c b;have:=AE (Sr p ty ar) 0 a.zero.2;rw[a.zero.1]at this;exact this
theorem A47 (a:JI h N P p ty ar []) {x y:Int} (b:(x,y)∈P) (c:Ed p x∈Sr p ty ar):Ed p y∈Sr p ty ar:=by
 rw[<-x5 (a.sp (x,y) b)];exact c
theorem oU (b:JI h N P p ty ar []) (f:AU (quo p ty ar)) (e:0<N.length) {x:Int} (c:0<=x) (k:x<(N.length:Int)) (j:Ed p x∈Sr p ty ar) {a:Int×Int} (ha:a∈AQ N x):Ed p a.2∈Sr p ty ar:=by
 obtain⟨l,fo⟩:=b.fo;have lp:=b.lp;obtain⟨t,i,g⟩:=b.sa x _ c k (PK fo c (by omega)) a ha;rw[x5 g];have d:=GF fo c (by omega) (PK fo c (by omega));refine(Ss b f e).cl _ j (a.1,Ed p t) ?_;rw[AQ,NY d.1 d.2];exact GO.2 ⟨(a.1,t),i,rfl⟩
def A0U (N:List AD) (k:Nat) (g:List AD):Prop:=∀i:Int,0<=i->i<(g.length:Int)->(k:Int)+i<(N.length:Int)/\N.getD ((k:Int)+i).toNat (0,[])=((g.getD i.toNat (0,[])).1,A4 k (g.getD i.toNat (0,[])).2)
theorem Xc (m:JI h N P p ty ar []) (f:AU (quo p ty ar)) (e:0<N.length) {k:Nat} {g:List AD} (l:A0U N k g) (r:RO g) (hk:Ed p (k:Int)∈Sr p ty ar):∀(n:Nat) (i:Int),i.toNat<=n->0<=i->i<(g.length:Int)->Ed p ((k:Int)+i)∈Sr p ty ar:=by
 intro n;induction n with
 | zero =>
  intro i hn o c;have:i=0:=by omega
  subst this;rw[AF1];exact hk
 | succ n q =>
  intro i hn o c;by_cases hi:i=0
  ·subst hi;rw[AF1];exact hk
  ·obtain⟨j,d,s,a,ha,rfl⟩:=r i (by omega) c;have b:=l j d (by omega);have:=oU m f e (x:=(k:Int)+j) (by omega) b.1 (q j (by omega) d (by omega)) (a:=(a.1,a.2+(k:Int))) (by
    rw[AQ,b.2];exact GO.2 ⟨a,ha,rfl⟩)
   rw[Int.add_comm];exact this
end
theorem j8 {h:AG} {N:List AD} {P:List (Int×Int)} {f:List AD} {v:Int->Int} (e:Zt h N P f v) {k:Nat} {g:List AD} (d:A0U N k g) (j:v (k:Int)=0):Ln h g f λi=>v ((k:Int)+i):=by
 refine⟨by show v ((k:Int)+0)=0;rw[AF1];exact j,λi b c=>?_,λi b c=>?_,λi b c a ha=>?_⟩
 ·exact e.rng _ (by omega) (d i b c).1
 ·have:=e.ty _ (by omega) (d i b c).1;rw[(d i b c).2]at this;exact this
 ·have:=e.arc _ (by omega) (d i b c).1 (a.1,a.2+(k:Int)) (by
   rw[AQ,(d i b c).2];exact GO.2 ⟨a,ha,rfl⟩)
  rw[Int.add_comm (k:Int) a.2];exact this
theorem NZ {h:AG} {g X:List AD} {m:Int->Int} (a:Ln h g X m):Zt h g [] X m:=⟨a.rng,a.ty,a.arc,λq b=>by cases b⟩
theorem Xd {h:AG} {f g X:List AD} (hf:AU f) (m:AU g) {v w:Int->Int} (h1:Zt h f [] X v) (i:Zt h g [] X w):Zt h (Cb f g) [] X (λx=>if x<(f.length:Int) then v x else w (x-(f.length:Int))):=by
 have j:=E7 f g;refine⟨λx d e=>?_,λx d e=>?_,λx d e a ha=>?_,λq n=>by cases n⟩
 ·rw[j]at e;show _/\_;try simp only
  split
  ·exact h1.rng x d (by assumption)
  ·exact i.rng _ (by omega) (by omega)
 ·rw[j]at e;try simp only
  by_cases c:x<(f.length:Int)
  ·rw[BY c,PM d c];exact h1.ty x d c
  ·rw[An c];have:=Mk (f:=f) (g:=g) (y:=x-(f.length:Int)) (by omega) (by omega);rw[show (f.length:Int)+(x-(f.length:Int))=x by omega]at this;rw[this];exact i.ty _ (by omega) (by omega)
 ·rw[j]at e;try simp only
  by_cases c:x<(f.length:Int)
  ·rw[BY c];rw[AQ,PM d c]at ha;have l:=A6 hf ha;rw[BY l.2];exact h1.arc x d c a ha
  ·rw[An c];have:=Mk (f:=f) (g:=g) (y:=x-(f.length:Int)) (by omega) (by omega);rw[show (f.length:Int)+(x-(f.length:Int))=x by omega]at this;rw[AQ,this]at ha;obtain⟨b,k,rfl⟩:=GO.1 ha;have l:=A6 m k;rw[An (by simp only;omega)];try simp only
   rw[show b.2+(f.length:Int)-(f.length:Int)=b.2 by omega];exact i.arc _ (by omega) (by omega) b k
theorem oV {h:AG} {N X:List AD} {P:List (Int×Int)} {v:Int->Int} (h1:Zt h N [] X v) (a:∀q∈P,v q.1=v q.2):Zt h N P X v:=⟨h1.rng,h1.ty,h1.arc,a⟩
theorem Zx {N f g:List AD} {k:Nat} (h:A0U f k N):A0U (Cb f g) k N:=by
 intro i a b;have:=h i a b;rw[E7,PM (by omega) this.1];exact⟨by omega,this.2⟩
theorem Zy {f:List AD}:A0U f 0 f:=by
 intro i c b;rw[show ((0:Nat):Int)+i=i by omega];refine⟨b,?_⟩;have:A4 0 (f.getD i.toNat (0,[])).2=(f.getD i.toNat (0,[])).2:=by
  unfold A4;rw[Rf (g:=id) (λa _=>by show (a.1,a.2+((0:Nat):Int))=a;rw[Int.natCast_zero,AF1]),AFE]
 rw[this]
theorem Xe {f g:List AD}:A0U (Cb f g) f.length g:=by
 intro i a b;rw[E7,Mk a b];exact⟨by omega,rfl⟩
set_option maxHeartbeats 1000000 in
theorem A9H {h:AG} {N:List AD} {P:List (Int×Int)} {p ty:List Int} {ar:List (List (Int×Int))} (L:JI h N P p ty ar []) (E:AU (quo p ty ar)) (O:0<N.length) (H:∀x,0<=x->x<(N.length:Int)->Ed p x∈Sr p ty ar) :
  A8H h N P (AN (quo p ty ar) (Ed p 0)) (λx=>B2 (Sr p ty ar) (Ed p x)):=by
 have s:=Ss L E O
 have af:=Xb L E O
 obtain⟨nty,⟨av,fo⟩,lp,lt,la,wr,tyr,arr,srt,sp,st,sa,co⟩:=L
 have aj:=E6 p ty ar
 have w:=λ{x:Int} (C:0<=x) (D:x<(N.length:Int))=>PK fo C (by rw[lp];exact D)
 have J:=λ{x:Int} (C:0<=x) (D:x<(N.length:Int))=>GF fo C (by rw[lp];exact D) (w C D)
 have K:=Ib (quo p ty ar) (Ed p 0)
 have aa:=λi=>KK (f:=quo p ty ar) (r:=Ed p 0) (i:=i)
 have M:∀x:Int,0<=x->x<(N.length:Int)->AQ (quo p ty ar) x=(ar.getD x.toNat []).map λa=>(a.1,Ed p a.2):=λx C D=>by
  rw[AQ,NY C (by rw[lp];exact D)]
 have u:∀x∈Sr p ty ar,(0<=x/\x<(N.length:Int))/\EO p x=x:=by
  have ag:Iso (quo p ty ar) (quo p ty ar) id (λx=>(0<=x/\x<(N.length:Int))/\EO p x=x):=by
   refine⟨λi _=>by simp,λi hi a ha=>?_,λi j _ _ e=>e⟩
   rw[M i hi.1.1 hi.1.2]at ha
   obtain⟨b,m,rfl⟩:=List.mem_map.1 ha
   have c:=(arr _ b m).1
   have:=J c.1 c.2
   rw[lp]at this
   exact⟨this,(w c.1 c.2).root⟩
  have R:=J (x:=0) (by omega) (by omega)
  rw[lp]at R
  exact(Q1 ag _ [] _ (λx d=>by cases d) ⟨R,(w (x:=0) (by omega) (by omega)).root⟩).2
 have ah:=λ(q:Nat)=>Q3 E (quo p ty ar).length [] (Ed p 0) (GD _) (J (x:=0) (by omega) (by omega)).1 (by rw[aj];exact(J (x:=0) (by omega) (by omega)).2) (by simp) q
 unfold Sr at s af H u ⊢
 generalize ao:AN (quo p ty ar) (Ed p 0)=F at *
 generalize aq:Cz (quo p ty ar) (quo p ty ar).length [] (Ed p 0)=o at *
 have z:∀i:Int,0<=i->i<(o.length:Int)->o.getD i.toNat 0∈o/\B2 o (o.getD i.toNat 0)=i:=λi g l=>by
  refine⟨AE o 0 (by omega),?_⟩
  rw[HD s.ok.nd (by omega)]
  omega
 have A:∀x∈o,F.getD (B2 o x).toNat (0,[])=(ty.getD x.toNat 0,(ar.getD x.toNat []).map λa=>(a.1,B2 o (Ed p a.2))):=λx d=>by
  have am:=Et d
  have c:=(u x d).1
  rw[aa _ (by omega),am.2.2]
  unfold Dd
  rw[NY c.1 (by rw[lp];exact c.2),List.map_map]
  rfl
 have Q:∀x∈o,∀a∈ar.getD x.toNat [],Ed p a.2∈o:=λx d a ha=>by
  have c:=(u x d).1
  exact s.cl x d (a.1,Ed p a.2) (by rw[M x c.1 c.2];exact List.mem_map.2 ⟨a,ha,rfl⟩)
 have S:∀k,NX ((ar.getD k []).map λa=>(a.1,B2 o (Ed p a.2))):=λk=>by
  unfold NX
  rw[List.pairwise_map]
  exact srt k
 have G:∀x∈F,∃y∈o,x=(ty.getD y.toNat 0,(ar.getD y.toNat []).map λa=>(a.1,B2 o (Ed p a.2))):=λx d=>by
  obtain⟨i,hi,rfl⟩:=CG (0,[]) d
  have h1:=z (i:Int) (by omega) (by omega)
  refine⟨_,h1.1,?_⟩
  rw[<-A _ h1.1,h1.2]
  rw[Int.toNat_natCast]
 have ae:B2 o (Ed p 0)=0:=by
  have:=HD s.ok.nd s.zero.2
  rw[s.zero.1]at this
  exact this
 have ap:=s.ok.len
 have an:=E.1
 refine⟨⟨by omega,λx d=>?_⟩,by rw[K];exact s.zero.2,λx d=>?_,λx d a ha=>?_,λx d=>?_,λi g l=>?_,ae,⟨λi g l=>?_,λi g l=>?_,λi g l a ha=>?_,λq ai=>?_⟩,λX v ab T al=>?_,by omega⟩
 ·obtain⟨y,B,rfl⟩:=G x d
  have c:=(u y B).1
  refine⟨?_,λa ha=>?_⟩
  ·have:=(E.2 _ (AE (quo p ty ar) (0,[]) (k:=y.toNat) (by omega))).1
   rw[NY c.1 (by rw[lp];exact c.2),List.length_map]at this
   simp only[List.length_map]
   exact this
  ·obtain⟨b,m,rfl⟩:=List.mem_map.1 ha
   have:=Et (Q y B b m)
   rw[K]
   exact⟨this.1,this.2.1⟩
 ·obtain⟨y,B,rfl⟩:=G x d
  exact S _
 ·obtain⟨y,B,rfl⟩:=G x d
  obtain⟨b,m,rfl⟩:=List.mem_map.1 ha
  exact(arr _ b m).2
 ·obtain⟨y,B,rfl⟩:=G x d
  have c:=(u y B).1
  exact tyr y c.1 c.2
 · -- in order
  obtain⟨j,au,a,ha,e⟩:=ah i.toNat (by simp only[List.length_nil];omega) (by omega)
  have h1:=z (j:Int) (by omega) (by omega)
  have W:=z i (by omega) (by omega)
  rw[Int.toNat_natCast]at h1
  have c:=(u _ h1.1).1
  rw[M _ c.1 c.2]at ha
  obtain⟨b,m,rfl⟩:=List.mem_map.1 ha
  refine⟨(j:Int),by omega,by omega,(b.1,B2 o (Ed p b.2)),?_,?_⟩
  ·have:=A _ h1.1
   rw[h1.2]at this
   rw[AQ,this]
   exact List.mem_map.2 ⟨b,m,rfl⟩
  ·show B2 o (Ed p b.2)=i
   simp only at e
   rw[e,W.2]
 ·have:=Et (H i g l)
  rw[K]
  exact⟨this.1,this.2.1⟩
 ·show A7 h _ (F.getD (B2 o (Ed p i)).toNat (0,[])).1=true
  rw[A _ (H i g l)]
  exact st i _ g l (w g l)
 ·obtain⟨t,ak,ad⟩:=sa i _ g l (w g l) a ha
  have e:=x5 ad
  show DH (AQ F (B2 o (Ed p i))) a.1=B2 o (Ed p a.2)
  rw[e,AQ,A _ (H i g l)]
  exact Ia (S _) (a:=(a.1,B2 o (Ed p t))) (List.mem_map.2 ⟨(a.1,t),ak,rfl⟩)
 ·show B2 o (Ed p q.1)=B2 o (Ed p q.2)
  rw[x5 (sp q ai)]
 ·obtain⟨c1,c2,U,V⟩:=co X v ab T
  refine⟨λi=>v (o.getD i.toNat 0),?_,λi g l=>?_,λi g l=>?_,λi g l a ha=>?_⟩
  ·show v (o.getD 0 0)=0
   rw[s.zero.1,<-c1 0 _ (by omega) (by omega) (w (by omega) (by omega))]
   exact al
  ·have n:=z i g (by omega)
   have c:=(u _ n.1).1
   exact T.rng _ c.1 c.2
  ·have n:=z i g (by omega)
   have c:=u _ n.1
   have hn:=A _ n.1
   rw[n.2]at hn
   rw[hn]
   exact U _ c.1.1 c.1.2 c.2
  ·have n:=z i g (by omega)
   have c:=u _ n.1
   have hn:=A _ n.1
   rw[n.2]at hn
   rw[AQ,hn]at ha
   obtain⟨b,m,rfl⟩:=List.mem_map.1 ha
   have Y:=V _ c.1.1 c.1.2 c.2 b m
   have I:=(arr _ b m).1
   have Z:=Et (Q _ n.1 b m)
   simp only
   rw[Z.2.2,<-c1 b.2 _ I.1 I.2 (w I.1 I.2)]
   exact Y
structure VF (h:AG) (f:List AD):Prop where
 good:AU f
 pos:0<f.length
 ty:De h f
 str:∀x∈f,NX x.2
 ft:∀x∈f,∀a∈x.2,0<=a.1/\a.1<(h.2.length:Int)
 can:AN f 0=f
 ro:RO f
structure HU (h:AG):Prop where
 ok:GH h
 inj:Lm h
 ft:h.2.length<=64
def j9 (U:List AD):Prop:=(Cz U U.length [] 0).length=U.length/\∀k,(hk:k<(Cz U U.length [] 0).length)->(Cz U U.length [] 0)[k]=(k:Int)
theorem dQ {Q:List AD} (m:AU Q) {r:Int} (L:0<=r) (M:r<(Q.length:Int)):AU (AN Q r)/\j9 (AN Q r):=by
 have d:=Hc m L M;have D:=Ib Q r;have C:=λi=>KK (f:=Q) (r:=r) (i:=i);generalize O:AN Q r=c at *;generalize H:Cz Q Q.length [] r=o at *;have R:=d.ok.len;have N:=m.1;have g:∀i:Int,0<=i->i<(o.length:Int)->o.getD i.toNat 0∈o/\B2 o (o.getD i.toNat 0)=i:=λi J K=>by
  refine⟨AE o 0 (by omega),?_⟩;rw[HD d.ok.nd (by omega)];omega
 have p:∀i:Int,0<=i->i<(o.length:Int)->AQ c i=(AQ Q (o.getD i.toNat 0)).map (LG o):=λi J K=>by
  rw[AQ,C i.toNat (by omega)];rfl
 have F:Iso c Q (λi=>o.getD i.toNat 0) (λi=>0<=i/\i<(o.length:Int)):=by
  refine⟨λi hi=>?_,λi hi a ha=>?_,λi j hi B e=>?_⟩
  ·rw[p i hi.1 hi.2,AAd];have:∀a∈AQ Q (o.getD i.toNat 0),((λa:Int×Int=>(a.1,o.getD a.2.toNat 0))∘LG o) a=a:=λa ha=>by
    show (a.1,o.getD (B2 o a.2).toNat 0)=a;rw[(Et (d.cl _ (g i hi.1 hi.2).1 a ha)).2.2]
   rw[Rf this,List.map_id']
  ·rw[p i hi.1 hi.2]at ha;obtain⟨b,q,rfl⟩:=GO.1 ha;have:=Et (d.cl _ (g i hi.1 hi.2).1 b q);exact⟨this.1,this.2.1⟩
  ·have h1:=(g i hi.1 hi.2).2;have h:=(g j B.1 B.2).2;have e:o.getD i.toNat 0=o.getD j.toNat 0:=e;rw[<-h1,<-h,e]
 have h0:(0:Int)<(o.length:Int):=by have:=d.zero.2;omega
 have v:AU c:=by
  refine⟨by omega,λx u=>?_⟩;obtain⟨i,hi,rfl⟩:=CG (0,[]) u;have h1:=p (i:Int) (by omega) (by omega);rw[AQ,Rb]at h1;rw[h1];have t:=g (i:Int) (by omega) (by omega);rw[Rb]at t;have S:=d.ok.rng _ t.1;refine⟨?_,λa ha=>?_⟩
  ·rw[RU];exact(m.2 _ (AE Q (0,[]) (k:=(o.getD i 0).toNat) (by omega))).1
  ·obtain⟨b,q,rfl⟩:=GO.1 ha;have:=Et (d.cl _ t.1 b q);rw[D];exact⟨this.1,this.2.1⟩
 have s:=Q1 F Q.length [] 0 (λx u=>by cases u) ⟨by omega,h0⟩;have I:o.getD (0:Int).toNat 0=r:=d.zero.1;rw[AEY,I,H]at s;have A:=Q0 v (n:=0) (by omega) (by omega) (Q.length-c.length);rw[show c.length+(Q.length-c.length)=Q.length by omega]at A;rw[A]at s;unfold j9;refine⟨v,?_⟩;generalize Cz c c.length [] 0=l at *;obtain⟨y,E⟩:=s;have P:l.length=o.length:=by
  have:=ADB List.length y;rw[RU]at this;exact this.symm
 have G:∀k,(hk:k<l.length)->l[k]=(k:Int):=λk hk=>by
  have w:=E l[k] (oF hk);have h1:=(g l[k] w.1 w.2).2;have h:=(g (k:Int) (by omega) (by omega)).2;have e:o.getD k 0=o.getD (l[k]).toNat 0:=by
   exact(ADB (λz:List Int=>z.getD k 0) y).trans (by simp[AS,hk])
  rw[Rb,e]at h;rw[<-h1,h]
 exact⟨by omega,G⟩
theorem Xf {b:List AD} (g:AU b) (k:j9 b):AN b 0=b:=by
 unfold AN;obtain⟨q,c⟩:=k;generalize Cz b b.length [] 0=l at *;have o:l.Nodup:=by
  unfold List.Nodup;rw[Rh];intro i j hi n p e;rw[c i hi,c j n]at e;omega
 have m:∀x,0<=x->x<(l.length:Int)->B2 l x=x:=λx r s=>by
  have:=HD o (i:=x.toNat) (by omega);have e:l.getD x.toNat 0=x:=by
   rw[AS,At (by omega)];show l[x.toNat]=x;rw[c _ (by omega)];omega
  rw[e]at this;rw[this];omega
 apply TF
 ·rw[RU];omega
 ·intro i h1 d;rw[AEl,c i (by simpa using h1)];have f:b.getD (i:Int).toNat (0,[])=b[i]:=by simp[AS,d]
  unfold Dd;rw[f];have:∀a∈b[i].2,LG l a=a:=λa ha=>by
   have h:=(g.2 _ (oF d)).2 a ha;unfold LG;rw[m a.2 h.1 (by omega)]
  rw[Rf this,List.map_id']
theorem kA {Q:List AD} (a:AU Q) {r:Int} (b:0<=r) (c:r<(Q.length:Int)):AN (AN Q r) 0=AN Q r :=
 Xf (dQ a b c).1 (dQ a b c).2
theorem Xg {h:AG} {a X:List AD} (g:RO a) {m f:Int->Int} (h1:Ln h a X m) (b:Ln h a X f):∀(k:Nat) (i:Int),i.toNat<=k->0<=i->i<(a.length:Int)->m i=f i:=by
 intro k;induction k with
 | zero =>
  intro i hk l e;have:i=0:=by omega
  subst this;rw[h1.zero,b.zero]
 | succ k n =>
  intro i hk l e;by_cases hi:i=0
  ·subst hi;rw[h1.zero,b.zero]
  ·obtain⟨j,c,o,x,d,rfl⟩:=g i (by omega) e;rw[<-h1.arc j c (by omega) x d,<-b.arc j c (by omega) x d,n j (by omega) c (by omega)]
theorem Ml {h:AG} (hk:GH h) {a b c:List AD} (w:AU a) (ta:De h a) (tb:De h b) (A:De h c) {m n:Int->Int} (h1:Ln h a b m) (j:Ln h b c n):Ln h a c λi=>n (m i):=by
 refine⟨by show n (m 0)=0;rw[h1.zero,j.zero],λi f g=>?_,λi f g=>?_,λi f g x p=>?_⟩
 ·have:=h1.rng i f g;exact j.rng _ this.1 this.2
 ·have d:=h1.rng i f g;have B:=j.rng _ d.1 d.2;have r:=ta _ (AE a (0,[]) (k:=i.toNat) (by omega));have s:=tb _ (AE b (0,[]) (k:=(m i).toNat) (by omega));have t:=A _ (AE c (0,[]) (k:=(n (m i)).toNat) (by omega));exact PJ hk r.1 r.2 s.1 s.2 t.1 t.2 (h1.ty i f g) (j.ty _ d.1 d.2)
 ·have d:=h1.rng i f g;have q:=A6 w p;have o:=h1.arc i f g x p;obtain⟨y,z,u,v⟩:=Q2 (l:=AQ b (m i)) (e:=x.1) (by rw[o];exact(h1.rng _ q.1 q.2).1);have:=j.arc (m i) d.1 d.2 y z;rw[u,v,o]at this;exact this
theorem Ic {a:List AD} (hs:∀x∈a,NX x.2) (n:Int):NX (AQ a n):=by
 unfold AQ;by_cases h:n.toNat<a.length
 ·exact hs _ (AE a (0,[]) h)
 ·rw[AS,Rj (by omega)];exact .nil
theorem Xh {h:AG} {a:List AD} (hs:∀x∈a,NX x.2):Ln h a a id :=
 ⟨rfl,λi c d=>⟨c,d⟩,λi _ _=>NV h _,λi _ _ x b=>Ia (Ic hs i) b⟩
theorem x6:∀ {l m:List (Int×Int)},NX l->NX m->(∀x,x∈l↔x∈m)->l=m
 | [],[],_,_,_=>rfl
 | [],b :: m,_,_,h=>by have:=(h b).2 (by simp);cases this
 | a :: l,[],_,_,h=>by have:=(h a).1 (by simp);cases this
 | a :: l,b :: m,h1,i,h=>by
  obtain⟨f,g⟩:=TA.1 h1;obtain⟨b1,b2⟩:=TA.1 i;have e:a=b:=by
   rcases DO.1 ((h a).1 (by simp)) with e|e
   ·exact e
   ·rcases DO.1 ((h b).2 (by simp)) with d|d
    ·exact d.symm
    ·have:=f b d;have:=b1 a e;omega
  subst e;refine ADB _ (x6 g b2 λx=>⟨λc=>?_,λc=>?_⟩)
  ·rcases DO.1 ((h x).1 (by simp[c])) with e|e
   ·subst e;have:=f x c;omega
   ·exact e
  ·rcases DO.1 ((h x).2 (by simp[c])) with e|e
   ·subst e;have:=b1 x c;omega
   ·exact e
theorem A8I {h:AG} (hu:HU h) {c V:List AD} (b:VF h c) (d:VF h V) {m p:Int->Int} (h1:Ln h c V m) (n:Ln h V c p):c=V:=by
 have key:∀ {c V:List AD},VF h c->VF h V->∀ {m p:Int->Int},Ln h c V m->Ln h V c p->c.length<=V.length->c=V:=by
  clear b d h1 n;intro c V b d m p h1 n L;have c1:=Ml hu.ok b.good b.ty d.ty b.ty h1 n;have c2:=Ml hu.ok d.good d.ty b.ty d.ty n h1;have u:∀i,0<=i->i<(c.length:Int)->p (m i)=i:=λi s t=>Xg b.ro c1 (Xh b.str) i.toNat i (NO _) s t;have I:∀i,0<=i->i<(V.length:Int)->m (p i)=i:=λi s t=>Xg d.ro c2 (Xh d.str) i.toNat i (NO _) s t;have D:∀ {A B:List AD} {f:Int->Int},AU A->Ln h A B f->∀i,0<=i->i<(A.length:Int)->∀x∈AQ A i,(x.1,f x.2)∈AQ B (f i):=λ{A B f} J hf i s t x o=>by
   have r:=A6 J o;have F:=hf.arc i s t x o;obtain⟨y,C,w,v⟩:=Q2 (l:=AQ B (f i)) (e:=x.1) (by rw[F];exact(hf.rng _ r.1 r.2).1);rw[<-w,<-F,<-v];exact C
  have K:Iso c V m (λi=>0<=i/\i<(c.length:Int)):=by
   refine⟨λi hi=>?_,λi hi a ha=>A6 b.good ha,λi j hi E e=>?_⟩
   ·have q:=h1.rng i hi.1 hi.2;refine x6 (Ic d.str _) ?_ λx=>⟨λo=>?_,λo=>?_⟩
    ·unfold NX;rw[ADz];exact Ic b.str i
    ·have g:=D d.good n (m i) q.1 q.2 x o;rw[u i hi.1 hi.2]at g;refine GO.2 ⟨_,g,?_⟩;have r:=A6 d.good o;show (x.1,m (p x.2))=x;rw[I x.2 r.1 r.2]
    ·obtain⟨y,C,rfl⟩:=GO.1 o;exact D b.good h1 i hi.1 hi.2 y C
   ·rw[<-u i hi.1 hi.2,<-u j E.1 E.2,e]
  have M:=b.pos;have:=Yc K b.good ⟨by omega,by omega⟩ h1.zero b.pos L λi hi=>by
   have q:=h1.rng i hi.1 hi.2;have w:=h1.ty i hi.1 hi.2;have v:=n.ty (m i) q.1 q.2;rw[u i hi.1 hi.2]at v;have G:=b.ty _ (AE c (0,[]) (k:=i.toNat) (by omega));have H:=d.ty _ (AE V (0,[]) (k:=(m i).toNat) (by omega));exact hu.inj _ _ H.1 H.2 G.1 G.2 v w
  rw[d.can,b.can]at this;exact this.symm
 rcases Nat.le_total c.length V.length with z|z
 ·exact key b d h1 n z
 ·exact(key d b n h1 z).symm
structure Xi (h:AG) (a b U:List AD):Prop where
 vf:VF h U
 left:∃m,Ln h a U m
 right:∃m,Ln h b U m
 least:∀X,De h X->∀m1,Ln h a X m1->∀m2,Ln h b X m2->∃m,Ln h U X m
 len:U.length<=a.length+b.length
theorem A7M {h:AG} (hu:HU h) {a b d V:List AD} (h1:Xi h a b d) (c:Xi h a b V):d=V:=by
 obtain⟨l,e⟩:=c.left;obtain⟨n,f⟩:=c.right;obtain⟨o,g⟩:=h1.left;obtain⟨p,i⟩:=h1.right;obtain⟨m,j⟩:=h1.least V c.vf.ty l e n f;obtain⟨q,k⟩:=c.least d h1.vf.ty o g p i;exact A8I hu h1.vf c.vf j k
open Classical in
noncomputable def EV (h:AG) (a b:List AD):List AD×Bool:=if H:∃U,Xi h a b U then (H.choose,true) else ([],false)
theorem UG {h:AG} (hu:HU h) {a b U:List AD} (h1:Xi h a b U):EV h a b=(U,true):=by
 unfold EV;have H:∃U,Xi h a b U:=⟨U,h1⟩;rw[dif_pos H,A7M hu H.choose_spec h1]
theorem kB {h:AG} {a b:List AD} (h1:∀X,De h X->∀d,Ln h a X d->∀e,¬Ln h b X e):EV h a b=([],false):=by
 unfold EV;rw[dif_neg];rintro⟨f,c⟩;obtain⟨d,g⟩:=c.left;obtain⟨e,i⟩:=c.right;exact h1 f c.vf.ty d g e i
theorem UH {h:AG} {a b:List AD} (h1:(EV h a b).2=true):Xi h a b (EV h a b).1:=by
 unfold EV at h1 ⊢;split at h1
 ·rename_i H;rw[dif_pos H];exact H.choose_spec
 ·cases h1
theorem Xj {f:List AD} {e:Int} (h:e∈Cw f):∃x∈f,∃a∈x.2,a.1=e:=by
 unfold Cw at h;obtain⟨x,c,b⟩:=List.mem_flatMap.1 h;obtain⟨a,ha,e⟩:=GO.1 b;exact⟨x,c,a,ha,e⟩
theorem A9I {h:AG} {N:List AD} {P:List (Int×Int)} {p ty:List Int} {ar:List (List (Int×Int))} (d:JI h N P p ty ar []) (g:AU (quo p ty ar)) (m:0<N.length) (j:∀x∈N,∀a∈x.2,0<=a.1/\a.1<(h.2.length:Int)) {v:Int->Int} (c:A8H h N P (AN (quo p ty ar) (Ed p 0)) v):VF h (AN (quo p ty ar) (Ed p 0)):=by
 have f:0<=Ed p 0/\Ed p 0<((quo p ty ar).length:Int):=by
  obtain⟨n,fo⟩:=d.fo;have:=d.lp;have:=GF fo (x:=0) (by omega) (by omega) (PK fo (by omega) (by omega));rw[E6];exact this
 refine⟨c.good,c.pos,c.ty,c.str,λx k a ha=>?_,kA g f.1 f.2,c.ro⟩;obtain⟨y,l,b,i,e⟩:=Xj (c.feat x k a ha);rw[<-e];exact j y l b i
theorem A0V {h:AG} {f g:List AD} (hf:VF h f) (e:VF h g):∀x∈Cb f g,∀a∈x.2,0<=a.1/\a.1<(h.2.length:Int):=by
 intro x c;unfold Cb at c;rcases No.1 c with c|c
 ·exact hf.ft x c
 ·obtain⟨y,i,rfl⟩:=GO.1 c;intro a ha;obtain⟨b,d,rfl⟩:=GO.1 ha;exact e.ft y i b d
theorem dS {h:AG} {f g:List AD} (hf:VF h f) (i:VF h g) {p ty:List Int} {ar:List (List (Int×Int))} (b:JI h (Cb f g) [(0,(f.length:Int))] p ty ar []) (d:AU (quo p ty ar)):Xi h f g (AN (quo p ty ar) (Ed p 0)):=by
 have v:=hf.pos;have u:=E7 f g;have c:0<(Cb f g).length:=by omega
 have h0:=Xb b d c;have l:=Xc b d c (Zx (g:=g) Zy) hf.ro h0;have n:=Xc b d c (Xe (f:=f)) i.ro (A47 b (by simp) h0);have a:=A9H b d c λx t w=>by
  by_cases o:x<(f.length:Int)
  ·have:=l x.toNat x (NO _) t o
   rwa [show ((0:Nat):Int)+x=x by omega]at this
  ·have:=n _ (x-(f.length:Int)) (NO _) (by omega) (by omega)
   rwa [show (f.length:Int)+(x-(f.length:Int))=x by omega]at this
 refine⟨A9I b d c (A0V hf i) a,⟨_,j8 a.proj (Zx (g:=g) Zy) a.zero⟩,⟨_,j8 a.proj (Xe (f:=f)) (by rw[<-a.proj.eq (0,(f.length:Int)) (by simp)];exact a.zero)⟩,λX k r h1 s j=>?_,by have:=a.len;omega⟩;refine a.least X _ k (oV (Xd hf.good i.good (NZ h1) (NZ j)) λq m=>?_) ?_
 ·have e:q=(0,(f.length:Int)):=by simpa using m
  subst e;try simp only
  rw[BY (by omega),An (by omega),AFA,h1.zero,j.zero]
 ·show (if (0:Int)<(f.length:Int) then r 0 else s (0-(f.length:Int)))=0;rw[BY (by omega)];exact h1.zero
theorem Zz {h:AG} {f g:List AD} (hf:VF h f) (c:VF h g) (d:∀X v,De h X->¬Zt h (Cb f g) [(0,(f.length:Int))] X v):EV h f g=([],false):=by
 have j:=hf.pos;refine kB λX b k h1 l a=>d X _ b (oV (Xd hf.good c.good (NZ h1) (NZ a)) λq i=>?_);have e:q=(0,(f.length:Int)):=by simpa using i
 subst e;try simp only
 rw[BY (by omega),An (by omega),AFA,h1.zero,a.zero]
theorem kC (l:List (Int×Int)):A4 0 l=l:=by
 unfold A4;rw[Rf (g:=id) (λa _=>by show (a.1,a.2+((0:Nat):Int))=a;rw[Int.natCast_zero,AF1]),AFE]
theorem A0W (a b:Nat):Co 0 a++Co a b=Co 0 (a+b):=by
 unfold Co;rw[List.range_add,iN,AAd]
 congr 1
 ·refine Rf λi _=>?_;show ((a+i:Nat):Int)=((0+(a+i):Nat):Int);rw[ADG]
theorem A0X {n k:Nat} (h:k<n):(Co 0 n).getD k 0=(k:Int):=by
 unfold Co;rw[AS,aT,ADS h];show ((0+k:Nat):Int)=k;rw[ADG]
theorem Mm {n:Nat} {x:Int} (a:0<=x) (b:x<(n:Int)):EO (Co 0 n) x=x:=by
 unfold EO;rw[A0X (by omega)];omega
def Mn (N:List AD):List Int:=N.map (·.1)
def UI (N:List AD):List (List (Int×Int)):=N.map (·.2)
theorem PN (N:List AD) (k:Nat):(Mn N).getD k 0=(N.getD k (0,[])).1:=by
 unfold Mn;rw[AS,aT,AS];cases N[k]?<;>rfl
theorem Na (N:List AD) (k:Nat):(UI N).getD k []=(N.getD k (0,[])).2:=by
 unfold UI;rw[AS,aT,AS];cases N[k]?<;>rfl
theorem oW (f g:List AD):DI f f.length++DI g g.length=Mn (Cb f g):=by
 unfold DI Mn Cb;rw[Re,Re,iN,AAd];rfl
theorem A0Y (f g:List AD):Fu 0 f f.length++Fu f.length g g.length=UI (Cb f g):=by
 unfold Fu UI Cb;rw[Re,Re,iN,AAd]
 congr 1
 exact Rf λx _=>kC x.2
theorem dT {n:Nat} {x r:Int} (a:0<=x) (b:x<(n:Int)) (h:Rt (Co 0 n) x r):r=x:=h.det (.base (Mm a b))
theorem dU {h:AG} {N:List AD} (l:AU N) (m:De h N) (hs:∀x∈N,NX x.2):JI h N [] (Co 0 N.length) (Mn N) (UI N) []:=by
 have f:(Co 0 N.length).length=N.length:=KJ 0 N.length;refine⟨m,⟨λ_=>0,λn n0 n1=>?_,λn n0 n1 hn=>?_⟩,f,by simp[Mn],by simp[UI],λw g=>(by cases g),λx c d=>?_,λk a ha=>?_,λk=>?_,λq p=>(by cases p),λx r c d e=>?_,λx r c d e a ha=>?_,λX v s o=>?_⟩
 ·rw[f]at n1 ⊢;rw[Mm n0 n1];exact⟨n0,n1⟩
 ·rw[f]at n1;exact absurd (Mm n0 n1) hn
 ·rw[PN];exact m _ (AE N (0,[]) (by omega))
 ·rw[Na]at ha;refine⟨XU l k a ha,?_⟩;by_cases hk:k<N.length
  ·exact List.mem_flatMap.2 ⟨_,AE N (0,[]) hk,GO.2 ⟨a,ha,rfl⟩⟩
  ·rw[AS,Rj (by omega)]at ha;cases ha
 ·rw[Na];have:=Ic hs (k:Int)
  rwa [AQ,Rb]at this
 ·rw[dT c d e,PN];exact NV h _
 ·rw[dT c d e,Na];have b:=A6 l ha;exact⟨a.2,ha,.cls b.1 b.2 b.1 b.2 (.base (Mm b.1 b.2)) (.base (Mm b.1 b.2))⟩
 ·refine⟨λx r c d e=>by rw[dT c d e],λw g=>(by cases g),λr i j _=>?_,λr i j _ a ha=>?_⟩
  ·rw[PN];exact o.ty r i j
  ·rw[Na]at ha;exact o.arc r i j a ha
theorem PO {f g:List AD} (hf:AU f) (d:AU g) (j:f.length+g.length<=100000):AU (Cb f g):=by
 have i:=E7 f g;refine⟨by omega,λx c=>?_⟩;unfold Cb at c;rcases No.1 c with c|c
 ·refine⟨(hf.2 x c).1,λa ha=>?_⟩;have:=(hf.2 x c).2 a ha;omega
 ·obtain⟨y,e,rfl⟩:=GO.1 c;refine⟨by simp only[A4,RU];exact(d.2 y e).1,λa ha=>?_⟩;obtain⟨b,h,rfl⟩:=GO.1 ha;have:=(d.2 y e).2 b h;simp only;omega
theorem Nb {f g:List AD} (hf:∀x∈f,NX x.2) (b:∀x∈g,NX x.2):∀x∈Cb f g,NX x.2:=by
 intro x a;unfold Cb at a;rcases No.1 a with a|a
 ·exact hf x a
 ·obtain⟨y,c,rfl⟩:=GO.1 a;unfold NX A4;rw[ADz];exact b y c
theorem Xk {h:AG} {f g:List AD} (hf:De h f) (b:De h g):De h (Cb f g):=by
 intro x a;unfold Cb at a;rcases No.1 a with a|a
 ·exact hf x a
 ·obtain⟨y,c,rfl⟩:=GO.1 a;exact b y c
def A0Z (N:List AD):Prop:=∀x∈N,∀a∈x.2,0<=a.1/\a.1<64
theorem Xl {f g:List AD} (hf:A0Z f) (e:A0Z g):A0Z (Cb f g):=by
 intro x c;unfold Cb at c;rcases No.1 c with c|c
 ·exact hf x c
 ·obtain⟨y,h,rfl⟩:=GO.1 c;intro a ha;obtain⟨b,d,rfl⟩:=GO.1 ha;exact e y h b d
theorem dV {l:List (Int×Int)} (h:NX l) (hf:∀a∈l,0<=a.1/\a.1<64):l.length<=64:=by
 have:=dL h (S:=(List.range 64).map λ(i:Nat)=>(i:Int)) (λa ha=>GO.2 ⟨a.1.toNat,Ri.2 (by have:=hf a ha;omega),by have:=hf a ha;omega⟩)
 rwa [RU,AEF]at this
theorem oX {N:List AD} (h:∀x∈N,x.2.length<=64):(Cw N).length<=64*N.length:=by
 induction N with
 | nil=>simp[Cw]
 | cons x N b =>
  have h1:=h x (by simp);have c:=b λy a=>h y (by simp[a]);have e:Cw (x :: N)=x.2.map (·.1)++Cw N:=rfl;rw[e,IF,RU,OS];omega
theorem A10 {N:List AD} (h:A0Z N) {e:Int} (b:e∈Cw N):0<=e/\e<64:=by
 obtain⟨x,c,a,ha,rfl⟩:=Xj b;exact h x c a ha
theorem Xm {h:AG} {N:List AD} {P:List (Int×Int)} {p ty:List Int} {ar:List (List (Int×Int))} (c:JI h N P p ty ar []) (k:N.length<=100000) (hf:A0Z N):AU (quo p ty ar):=by
 have g:=E6 p ty ar;obtain⟨l,fo⟩:=c.fo;have lp:=c.lp;refine⟨by omega,λx j=>?_⟩;obtain⟨i,hi,rfl⟩:=CG (0,[]) j;have e:=NY (p:=p) (ty:=ty) (ar:=ar) (n:=(i:Int)) (by omega) (by omega);rw[Rb]at e;rw[e];refine⟨?_,λa ha=>?_⟩
 ·simp only[RU];have:=dV (c.srt i) (λa ha=>A10 hf (c.arr i a ha).2);omega
 ·obtain⟨b,f,rfl⟩:=GO.1 ha;have d:=(c.arr i b f).1;have:=GF fo (x:=b.2) d.1 (by omega) (PK fo d.1 (by omega));rw[g];exact this
theorem VF.ft64 {h:AG} {f:List AD} (b:VF h f) (hu:HU h):A0Z f:=λx c a ha=>by
 have h1:=b.ft x c a ha;have d:=hu.ft;omega
def ADf (d:List AI) (o:List ByteArray) (i:Nat):Prop:=∀j,j<i->∀x∈d,AZ x.2.1 (o.getD j ByteArray.empty)=true->AZ o x.1=true
theorem A48 {c:ByteArray} {o:List ByteArray} {x:AI} (h:AZ x.2.1 c=true):AZ (Y1 c o x) x.1=true:=by grind [Y1,Ot,Ct]
theorem Z0 {c:ByteArray} {x:AI} (h:AZ x.2.1 c=true):∀ {l:List AI} {o:List ByteArray},x∈l->AZ (l.foldl (Y1 c) o) x.1=true
 | [],_,a=>by cases a
 | y :: l,o,a=>by
  rw[ON];rcases DO.1 a with rfl|a
  ·grind [J9,NN,A48]
  ·exact Z0 h a
theorem Xn {d:List AI}:∀ {n i:Nat} {o:List ByteArray},cH d o->d.length<=n+i->ADf d o i->i<=o.length->∃m,ADf d (Cl d n i o) m/\(Cl d n i o).length<=m
 | 0,i,o,ha,f,a,hi=>⟨i,a,by
  have:=ha.len;show o.length<=i;omega⟩
 | n+1,i,o,ha,f,a,hi=>by
  unfold Cl;split
  ·rename_i q;obtain⟨c,k⟩:=WU (o.getD i ByteArray.empty) (l:=d) (o:=o) (λ_ h=>h) ha;refine Xn c (by omega) (λj p x b hs=>?_) (by omega);rw[ST _ (by omega)]at hs;by_cases e:j=i
   ·subst e;exact Z0 hs b
   ·exact J9 (λz g=>NN g) (a j (by omega) x b hs)
  ·exact⟨i,a,by omega⟩
theorem Su {α:Type} {p:α->Bool}:∀ {l:List α},l.countP p=1->∀x∈l,p x=true->∀y∈l,p y=true->x=y
 | [],h,x,a,_,_,_,_=>by cases a
 | z :: l,h,x,a,d,y,b,e=>by
  rw[AEm]at h;by_cases c:p z=true
  ·rw[BY c]at h;grind
  ·rw[An c]at h;have a:x∈l:=by grind
   have b:y∈l:=by grind
   exact Su (by omega) x a d y b e
theorem Xo (s:ByteArray):∀(l:List AI) (k:Nat),0<=Cs s k l->∃x∈l,AY x.1 s=true
 | [],k,h=>by
  simp only[Cs]at h;omega
 | y :: l,k,h=>by
  simp only[Cs]at h;split at h
  ·rename_i e;exact⟨y,by simp,e⟩
  ·obtain⟨x,a,e⟩:=Xo s l (k+1) h;exact⟨x,by simp[a],e⟩
theorem oY {d:List AI} (t:A5 d=0):∃r∈d,∀x∈d,AZ (Cm d r.1) x.1=true:=by
 obtain⟨hs,I,h1,hn,l⟩:=Ay t;have C:0<d.countP λx=>x.2.1.length==0:=by grind [ID]
 obtain⟨r,c,q⟩:=List.countP_pos_iff.1 C;refine⟨r,c,?_⟩;have D:=DX c;have u:cH d [r.1]:=⟨λs hs=>by
  have:s=r.1:=by simpa using hs
  rw[this];exact D,by simp⟩
 obtain⟨m,B,J⟩:=Xn (d:=d) (n:=d.length) (i:=0) u (by omega) (λj A=>by omega) (by omega);have p:r.1∈Cl d d.length 0 [r.1]:=K0 (by simp);have v:Cm d r.1=J8 (Cl d d.length 0 [r.1]):=by unfold Cm;rw[An (by omega)]
 rw[v];generalize Cl d d.length 0 [r.1]=o at *;have key:∀(k:Nat) (x:AI),x∈d->GM d x.1<=k->AZ o x.1=true:=by
  intro k;induction k with
  | zero =>
   intro x a hk;by_cases g:x.2.1.length=0
   ·have e:=Su h1 x a (by simpa using g) r c q;rw[e];exact Fq p
   ·obtain⟨s,b⟩:∃s,s∈x.2.1:=AF4 (by omega);have:=Kz hn l a (Fq b);omega
  | succ k H =>
   intro x a hk;by_cases g:x.2.1.length=0
   ·have e:=Su h1 x a (by simpa using g) r c q;rw[e];exact Fq p
   ·obtain⟨s,b⟩:∃s,s∈x.2.1:=AF4 (by omega);have E:=Kz hn l a (Fq b);obtain⟨y,G,e⟩:=Xo s d 0 (hs x a s b);rw[<-IK d e]at E;obtain⟨z,h,f⟩:=Rd.1 (H y G (by omega));obtain⟨j,A,rfl⟩:=CG ByteArray.empty h;refine B j (by omega) x a ?_;exact Rd.2 ⟨s,b,D5 (BX f e)⟩
 intro x a;obtain⟨z,h,e⟩:=Rd.1 (key _ x a (NO _));obtain⟨w,F,f⟩:=Rd.1 (Qf (o:=[]) h);exact Rd.2 ⟨w,F,BX f e⟩
abbrev cnt (c:List Int):Nat:=(IA c).length
theorem A49 {w:Int} (a:U64 w) {r:Nat} (d:r<64):A2L w (r:Int)=w.toNat.testBit r:=by
 have h0:=a.1;have h1:=a.2;have b:w.toNat / 2 ^ r<=w.toNat:=Nat.div_le_self _ _;have e:YP .u64 w (r:Int)=((w.toNat / 2 ^ r:Nat):Int):=by
  unfold YP;have c:min ((r:Int)).toNat IntKind.u64.bits=r:=by
   show min ((r:Int)).toNat 64=r;omega
  grind
 unfold A2L;rw[Nat.testBit_eq_decide_div_mod_eq,e];generalize w.toNat / 2 ^ r=z at *;rw[II ⟨by omega,by omega⟩ ⟨by decide,by decide⟩,Rb,show (1:Int).toNat=1 from rfl,Nat.and_one_is_mod,AE9,TC,Ff];omega
theorem VH {b:List Int} (d:IJ b) (i:Nat):Ua b (i:Int)=BF b i:=by
 have a:Int.tdiv (i:Int) 64=((i / 64:Nat):Int):=by rw[oR (by omega)];omega
 have c:Int.tmod (i:Int) 64=((i % 64:Nat):Int):=by rw[AEk (by omega)];omega
 unfold Ua BF;rw[a,c,Rb];by_cases hk:i / 64<b.length
 ·rw[An (by rw[S8,Ff,Ff];omega),A49 (BK d _) (by omega)]
 ·rw[BY (by rw[S8,Ff,Ff];omega),HA hk];simp
theorem kD (c:List Int):(IA c).Nodup:=by
 unfold IA Nz List.Nodup;rw[ADz];refine List.Pairwise.imp (λh e=>h ?_) (List.Pairwise.filter _ List.nodup_range);exact AFq e
theorem Z1 {c:List Int} (b:IJ c) {x:Int}:x∈IA c↔∃i:Nat,x=(i:Int)/\BF c i=true:=by
 unfold IA Nz;rw[GO];constructor
 ·grind [VH]
 ·rintro⟨i,rfl,a⟩;refine⟨i,ADj.2 ⟨Ri.2 ?_,by rw[VH b];exact a⟩,rfl⟩;refine Do λd=>?_;unfold BF at a;rw[HA (by omega)]at a;simp at a
theorem A9J {a b:List Int} (ha:IJ a) (d:IJ b) (h:∀i,BF a i=true->BF b i=true) (e:cnt b<=cnt a) (i:Nat) (hi:BF b i=true):BF a i=true:=by
 refine Do λhn=>?_;have c:(i:Int)∉IA a:=λf=>by grind [Z1]
 have:=Sp (l:=(i:Int) :: IA a) (l':=IA b) (TO.2 ⟨c,kD a⟩) λx c=>by grind [Z1]
 grind
theorem Xp (x:AR) (out:List AR):∀n,(Fs x out n=0->n=0\/F9 x (out.getD 0 c0)=true)/\∀k,Fs x out n=k+1->F9 x (out.getD k c0)=false
 | 0=>⟨λ_=>.inl rfl,λk h=>by simp[Fs]at h⟩
 | n+1=>by
  obtain⟨h1,a⟩:=Xp x out n;grind [Fs]
theorem kE {a b:AR} (h:F9 a b=true):cnt b.2<=cnt a.2:=by
 unfold F9 at h;grind
theorem dX {a b:AR} (h:F9 a b=false):cnt a.2<=cnt b.2:=by
 unfold F9 at h;grind
def HM (out:List AR):Prop:=∀y∈out,cnt y.2<=cnt (out.getD 0 c0).2
theorem A7N {out:List AR} (h:HM out) (x:AR):HM (cQ out x):=by
 obtain⟨s1,s2⟩:=Xp x out out.length;have c:=iK x out out.length;intro y a;rw[iP]at a;unfold cQ;cases hk:Fs x out out.length with
 | zero =>
  rw[ADy,TG,AE7];have e:([x]++out).getD 0 c0=x:=rfl;rw[e];rcases a with rfl|a
  ·exact NO _
  ·have h1:=h y a;rcases s1 hk with e|e
   ·grind
   ·exact Rc h1 (kE e)
 | succ k =>
  have b:=dX (s2 k hk);rw[hk]at c;have e:(out.take (k+1)++[x]++out.drop (k+1)).getD 0 c0=out.getD 0 c0:=by grind
  rw[e];rcases a with rfl|a
  ·exact Rc b (h _ (BE (by omega)))
  ·exact h y a
theorem kF {d:List AI}:∀ {l:List (List Int)} {o:List AR},HM o->HM (l.foldl (SY d) o)
 | [],_,h=>h
 | b :: l,o,h=>by
  rw[ON];exact kF (A7N h _)
def In (n:Nat) (c:List Int):Prop:=IJ c/\∀i,BF c i=true->i<n
theorem A9K (n:Nat):In n []:=⟨λx a=>(by cases a),λi hi=>by unfold BF at hi;simp at hi⟩
theorem A9L {n:Nat} {a b:List Int} (ha:In n a) (c:In n b):In n (Ec a b) :=
 ⟨Qr ha.1 c.1,λi hi=>by
  rw[Qq ha.1 c.1,AT]at hi;exact ha.2 i hi.1⟩
theorem A7O {n:Nat} {l:List (List Int)} (h:∀c∈l,In n c) (k:Nat):In n (l.getD k []):=by grind [BE,Sf,A9K]
theorem A7P {n:Nat} {l:List (List Int)} (h:∀c∈l,In n c) (i k:Nat):∀c∈Ga l i k,In n c:=by grind [Ga,Ec,A9L,A7O]
theorem x7 {q i:Nat}:∀ {n k:Nat} {l:List (List Int)},(∀c∈l,In q c)->∀c∈Gb i n k l,In q c
 | 0,_,_,h=>h
 | n+1,k,l,h=>by
  unfold Gb;split
  ·exact x7 (A7P h i k)
  ·exact h
theorem dY {q:Nat}:∀ {n i:Nat} {l:List (List Int)},(∀c∈l,In q c)->∀c∈IG n i l,In q c
 | 0,_,_,h=>h
 | n+1,i,l,h=>by
  unfold IG;split
  ·exact dY (x7 h)
  ·exact h
def Xq (h:AG):Prop:=∀t,0<=t->t<(h.1.length:Int)->A7 h 0 t=true
theorem Mo (d:List AI):Xq (Au d).1:=by
 have hk:=JJ d;unfold Au at hk ⊢;split
 ·intro t h0 h1;simp at h1;omega
 ·rename_i g;rw[An g]at hk;have g:(BC d).2=0:=Do g;have A:Ax d=0:=by grind [BC]
  obtain⟨L,-,-⟩:=CC A;obtain⟨j,P,-⟩:=BZ L;obtain⟨-,z,-,hn,O⟩:=Ay j;have G:=D0 d d.length;rw[Re]at G;have k:(AO d).length<=4096:=by omega
  obtain⟨r,H,N⟩:=oY j;have a:∀c∈Av (AX d),In (AO d).length c:=dY λc f=>by
   obtain⟨s,hs,rfl⟩:=GO.1 f;exact⟨(B5 (d:=d) k s 0).2.1,λi hi=>((B5 (d:=d) k s i).1.1 hi).1⟩
  obtain⟨s,hs,M⟩:=Rd.1 (Oz H);have I:s=r.1:=by grind [DY,Qc]
  subst I;have n:Er d (AO d) r.1∈Av (AX d):=by
   have hp:AX d <+: Av (AX d):=Qo 257 0 (AX d);exact hp.subset (GO.2 ⟨_,hs,rfl⟩)
  have l:∀i,i<(AO d).length->BF (Er d (AO d) r.1) i=true:=λi hi=>by grind [B5,DY,BE]
  have B:HM (AL d):=kF λy K=>by cases K
  have q:=DZ.2 ⟨_,n,rfl⟩;have u:0<(AL d).length:=AEQ q;have p:=B _ q;obtain⟨b,m,h⟩:=DZ.1 (BE (d:=c0) u);rw[h]at p;have E:=A9J (a b m).1 (a _ n).1 (λi hi=>l i ((a b m).2 i hi)) p;have D:Bb (Bq d) 0=b:=by
   show ((EZ (AL d) _ _).getD 0 Tz).2.1=b;have:(EZ (AL d) (BC d).1 (AL d).length).getD 0 Tz=(((AL d).getD 0 c0).1,((AL d).getD 0 c0).2,ZP (AL d) ((0:Nat):Int),(BC d).1.getD 0 []):=by
    unfold EZ;rw[AS,aT,ADS u];rfl
   rw[this,h]
  have Q:(Bq d).1.length=(AL d).length:=KD _ _ _;intro t v w;refine(Bx hk (by omega) (by show (0:Int)<((Bq d).1.length:Int);omega) v w).2 λi hi=>?_;show BF (Bb (Bq d) 0) i=true;rw[D];refine E i (l i ?_);have C:=CV v w;have F:Bb (Bq d) t∈Av (AX d):=by
   have e:((Bq d).1.map λt=>t.2.1)=(AL d).map λx=>x.2:=by
    show ((EZ _ _ _).map λt=>t.2.1)=_;unfold EZ;rw[AAd];apply TF
    ·simp
    ·intro i h1 z;simp[AS,show i<(AL d).length by simpa using h1]
   have o:Bb (Bq d) t∈(Bq d).1.map λt=>t.2.1:=C;rw[e]at o;obtain⟨x,J,ex⟩:=GO.1 o;obtain⟨c,f,rfl⟩:=DZ.1 J;rw[<-ex];exact f
  exact(a _ F).2 i hi
theorem Xr (d:List AI):Nd ((Au d).1.1.map λt=>t.2.1):=by
 unfold Au;split
 ·exact⟨.nil,λc h=>(by cases h)⟩
 ·rename_i a;have a:(BC d).2=0:=Do a;have g:Ax d=0:=by
   unfold BC at a;split at a
   ·rename_i h;exact absurd a h
   ·rename_i h;exact Do h
  obtain⟨m,-,-⟩:=CC g;obtain⟨f,o,-⟩:=BZ m;have hf:Nd (Av (AX d)):=VA (Sg f);have e:((Bq d).1.map λt=>t.2.1)=(AL d).map λx=>x.2:=by
   show ((EZ _ _ _).map λt=>t.2.1)=_;unfold EZ;rw[AAd];apply TF
   ·simp
   ·intro i h1 n;simp[AS,show i<(AL d).length by simpa using h1]
  show Nd ((Bq d).1.map λt=>t.2.1);rw[e];refine⟨Ma (by simpa using hf.nd),λc k=>?_⟩;obtain⟨x,l,rfl⟩:=GO.1 k;obtain⟨b,j,rfl⟩:=DZ.1 l;exact hf.nrm b j
def Yd (l:List (Int×Int)) (e:Int):Int×Bool:=match l with
 | []=>(0,false)
 | a :: r=>if a.1=e then (a.2,true) else Yd r e
structure CI (n:Nat) (o:List Int) (ar:List (List (Int×Int))) (W:List (Int×Int)):Prop where
 lo:o.length=n
 la:ar.length=n
 rep:∀k:Nat,k<n->0<=o.getD k 0/\o.getD k 0<=(k:Int)/\o.getD (o.getD k 0).toNat 0=o.getD k 0
 wr:∀w∈W,(0<=w.1/\w.1<(n:Int))/\(0<=w.2/\w.2<(n:Int))
 ta:∀k,∀a∈ar.getD k [],0<=a.2/\a.2<(n:Int)
theorem CI.rng {n:Nat} {o:List Int} {ar:List (List (Int×Int))} {W:List (Int×Int)} (h:CI n o ar W) {x:Int} (c:0<=x) (d:x<(n:Int)):0<=o.getD x.toNat 0/\o.getD x.toNat 0<(n:Int)/\o.getD (o.getD x.toNat 0).toNat 0=o.getD x.toNat 0:=by
 obtain⟨h1,b,a⟩:=h.rep x.toNat (by omega);exact⟨h1,by omega,a⟩
section
variable {n:Nat} {o:List Int} {ar:List (List (Int×Int))} {W:List (Int×Int)} {x y:Int}
end
section
attribute [local go_sem] WR A2O
def Xs:Aa:={ ins:=[DR,T3,T3],pre:=λ(f,n,_,_)=>(0:Int)<=n/\n<(List.length f:Int),out:=λ(f,n,e,_)=>[.p T3 (Yd (List.getD (f:List AD) (Int.toNat n) (0,[])).2 e).1,.p .bool (Yd (List.getD (f:List AD) (Int.toNat n) (0,[])).2 e).2],lend:=true }
attribute [local go_sem] Xs
theorem A4a:Ad Tryz.prog 125 Xs:=by
 refine fK [0,1,2,3,6,7,8,9,19,28] Tryz.func125 Tryz.ntmps125 AH ?_;rintro w0 O0 ⟨f,n,e,u⟩ b ⟨⟨m,hf⟩,-⟩ hn;simp only[Xs,AM];repeat'(first|exact trivial|refine eS rfl ?_|refine rX b ?_ ?_)
 ·exact hn
 ·have i:List.length (List.getD (f:List AD) (Int.toNat n) (0,[])).2<=AP:=by
   have h1:Int.toNat n<List.length f:=(AF0 hn.1).2 hn.2;have:=hf _ (AE (f:List AD) (0,[]) h1);exact this.2.1
  simp only[AP]at i;generalize (List.getD (f:List AD) (Int.toNat n) (0,[])).2=l at *;refine AK (ι:={k:Nat//k<=l.length/\Yd (l.drop k) e=Yd l e}) (λk=>⟨[(2,.p T3 e),(8,.p DN l),(9,.p (.int .i64) (k.1:Int))],[]⟩) (λk=>l.length-k.1) ⟨0,by simp⟩ (eW []) (λk=>?_)
  ·obtain⟨k,hk,a⟩:=k;have j:k<l.length->l.drop k=l.getD k (0,0) :: l.drop (k+1):=λh=>by
    rw[On h,AS,At h];rfl
   have g:k<l.length->(if (l.getD k (0,0)).1=e then ((l.getD k (0,0)).2,true) else Yd (l.drop (k+1)) e)=Yd l e:=λh=>by
    rw[j h]at a;exact a
   repeat'(first|exact trivial|refine eS rfl ?_|refine AB ?_|refine rX b ?_ ?_|refine rC ?_ ?_<;>intro c<;>try(cases c;done))
   ·exact eV
   ·exact eV
   ·have d:k<l.length:=by exact eV
    have a:=g d;rw[BY c]at a;exact fI b [.tmp 6,.tmp 7] (by rw[<-a];exact eR)
   ·exact eV
   ·have d:k<l.length:=by exact eV
    have a:=g d;rw[An c]at a;exact⟨⟨k+1,by omega,a⟩,by simp only;omega,eW []⟩
   ·have hk:l.drop k=[]:=By (by exact eV);rw[hk]at a;have a:(0,false)=Yd l e:=a;exact fI b [.tmp 6,.tmp 7] (by rw[<-a];exact eR)
def A8K (b:List Int):List G2->Nat->Int×Bool
 | [],_=>(0,false)
 | t :: r,k=>if t.2.1=b then ((k:Int),true) else A8K b r (k+1)
def A4b (h:AG) (a b:Int):Int×Bool:=A8K (Ec (Bb h a) (Bb h b)) h.1 0
end
section
def ADg (h:AG) (l:List AD) (c:List Int):Nat->Option (List Int)
 | 0=>some (List.replicate l.length 0)
 | i+1=>match ADg h l c i with
  | none=>none
  | some o=>if (A4b h (o.getD (c.getD i 0).toNat 0) (l.getD i (0,[])).1).2=true then some (o.set (c.getD i 0).toNat (A4b h (o.getD (c.getD i 0).toNat 0) (l.getD i (0,[])).1).1) else none
def A4c (h:AG) (l:List AD) (c:List Int):List Int×Bool:=match ADg h l c l.length with
 | none=>([],false)
 | some o=>((List.range l.length).map λ(k:Nat)=>o.getD (c.getD k 0).toNat 0,true)
def ADW (n:Nat) (c:List Int):Prop:=c.length=n/\∀k:Nat,k<n->0<=c.getD k 0/\c.getD k 0<=(k:Int)/\c.getD (c.getD k 0).toNat 0=c.getD k 0
def A4d:Aa:={ ins:=[ER,FY,Fv],pre:=λ(h,l,c,_)=>ADW (List.length l) c/\De h l/\0<List.length (h:AG).1/\List.length l<=100000/\(∀x∈(h:AG).1,x.2.1.length<=100000),out:=λ(h,l,c,_)=>[.p Fv (A4c h l c).1,.p .bool (A4c h l c).2] }
attribute [local go_sem] A4d
end
section
attribute [local go_sem] Xs ZZ
attribute [local go_sem] qP A9o ne_eq not_false_eq_true
end
inductive EQ (n:Nat) (o:List Int) (W:List (Int×Int)):Int->Int->Prop
 | cls {x y:Int} (x0:0<=x) (x1:x<(n:Int)) (y0:0<=y) (y1:y<(n:Int)) (h:o.getD x.toNat 0=o.getD y.toNat 0):EQ n o W x y
 | wt {x y:Int} (h:(x,y)∈W):EQ n o W x y
 | symm {x y:Int} (h:EQ n o W x y):EQ n o W y x
 | trans {x y z:Int} (h:EQ n o W x y) (g:EQ n o W y z):EQ n o W x z
theorem EQ.mono {n:Nat} {o b:List Int} {W a:List (Int×Int)} (h1:∀x y,0<=x->x<(n:Int)->0<=y->y<(n:Int)->o.getD x.toNat 0=o.getD y.toNat 0->EQ n b a x y) (c:∀x y,(x,y)∈W->EQ n b a x y) {x y:Int} (h:EQ n o W x y):EQ n b a x y:=by
 induction h with
 | cls g i j k h=>exact h1 _ _ g i j k h
 | wt h=>exact c _ _ h
 | symm _ d=>exact .symm d
 | trans _ _ e f=>exact .trans e f
theorem EQ.nil {n:Nat} {o:List Int} {x y:Int} (h:EQ n o [] x y):o.getD x.toNat 0=o.getD y.toNat 0:=by
 induction h with
 | cls _ _ _ _ h=>exact h
 | wt h=>cases h
 | symm _ a=>exact a.symm
 | trans _ _ b c=>exact b.trans c
section
variable {h:AG} {N:List AD} {P:List (Int×Int)} {o:List Int} {ar:List (List (Int×Int))} {W:List (Int×Int)} {w:Int×Int}
end
def A9M (h:AG):Prop:=∀t∈h.1,Nrm t.2.1
section
variable {h:AG} {N:List AD} {c:List Int}
end
section
variable {d:List AI}
theorem KL (d:List AI):((Bq d).1.map λt=>t.2.1)=(AL d).map λx=>x.2:=by
 show ((EZ _ _ _).map λt=>t.2.1)=_;unfold EZ;rw[AAd];apply TF
 ·simp
 ·intro i h1 a;simp[AS,show i<(AL d).length by simpa using h1]
theorem dZ (d:List AI):(Bq d).1.length=(AL d).length:=KD _ _ _
theorem A4e (d:List AI) {k:Nat} (hk:k<(AL d).length):(Bq d).1.getD k Tz=(((AL d).getD k c0).1,((AL d).getD k c0).2,ZP (AL d) (k:Int),(BC d).1.getD k []):=by
 unfold Bq EZ;simp[AS,hk]
theorem Nc (d:List AI) {t:Int} (a:0<=t) (b:t<((AL d).length:Int)):Bb (Bq d) t=((AL d).getD t.toNat c0).2:=by
 unfold Bb;rw[A4e d (by omega)]
theorem kG (a:Ax d=0):(BC d).2=0/\(BC d).1=KB d (AL d) (BO d) (AL d).length:=by
 unfold BC;rw[An (by rw[a];simp)];exact⟨rfl,rfl⟩
theorem VI (a:Ax d=0):(Au d).1=Bq d:=by
 unfold Au;rw[An (by rw[(kG a).1];simp)]
theorem A8L (b:Ax d=0):GH (Bq d)/\Nd ((Bq d).1.map λt=>t.2.1):=by
 have h1:=JJ d;have a:=Xr d;rw[VI b]at h1 a;exact⟨h1,a⟩
theorem Xt (a:Ax d=0):(Bq d).2=(BO d).map (Qk d):=by
 unfold Bq EK;rw[An (by rw[a];simp)]
theorem A4f (a:Ax d=0) {t:Int} (b:0<=t) (c:t<((AL d).length:Int)):c9 (Bq d) t=Uc d (AL d) (BO d) t.toNat (BO d).length:=by
 unfold c9;rw[A4e d (by omega)];show (BC d).1.getD t.toNat []=_;rw[(kG a).2];unfold KB;simp[AS,show t.toNat<(AL d).length by omega]
theorem oZ (a:Ax d=0):A5 d=0/\(B6 d).1=AL d/\LB d=0/\(∀s∈BO d,(Da d s).2=true)/\X1 d (AL d) (BO d) (AL d).length=false:=by
 obtain⟨b,-,f⟩:=CC a;obtain⟨e,-,c⟩:=BZ b;refine⟨e,c,f,?_,?_⟩
 ·unfold Ax at a;split at a
  ·rename_i h;exact absurd b h
  ·split at a
   ·cases a
   ·split at a
    ·rename_i h;exact absurd a h
    ·split at a
     ·cases a
     ·rename_i h;exact If.1 (by simpa using h)
 ·unfold Ax at a;split at a
  ·rename_i h;exact absurd b h
  ·split at a
   ·cases a
   ·split at a
    ·rename_i h;exact absurd a h
    ·split at a
     ·cases a
     ·split at a
      ·cases a
      ·rename_i h;rw[c]at h;simpa using h
def Cd (l:List (List Int)) (c:List Int):Prop:=c=[]\/c∈l
theorem A4g {l:List (List Int)} (hk:JH l) {c:List Int} (h:Cd l c):IJ c:=by
 rcases h with rfl|h
 ·exact λx a=>by cases a
 ·exact hk.wds c h
theorem A9N {l:List (List Int)} (hk:JH l) (hn:Nd l) {a b:List Int} (ha:Cd l a) (j:b∈l):Cd l (Ec a b):=by
 have f:=A4g hk ha;have g:=hk.wds b j;have m:Nrm (Ec a b):=by unfold Ec;exact O8 _
 have k:=λi=>Qq f g i;by_cases hi:∃i,BF a i=true/\BF b i=true
 ·rcases ha with rfl|ha
  ·obtain⟨i,h1,-⟩:=hi;unfold BF at h1;simp at h1
  ·obtain⟨t,d,e⟩:=hk.meet a ha b j hi;right;rw[nY (Qr f g) (hk.wds t d) m (hn.nrm t d) λi=>by rw[k,e]];exact d
 ·left;refine Do λn=>?_;unfold Ec at n;have o:IJ (Ec a b):=Qr f g;have:∃i,BF (Ec a b) i=true:=by
   have c:=m;rcases c with c|c
   ·exact absurd (Rk c) n
   ·exact i7 o c
  obtain⟨i,h⟩:=this;rw[k,AT]at h;exact hi ⟨i,h⟩
def UsD (d:List AI) (t:Int) (s:ByteArray) (x:AI):Prop:=(DE x s).2=true/\A7 (Bq d) (BN (AL d) x.1) t=true
def vcD (d:List AI) (s:ByteArray) (x:AI):List Int:=((AL d).getD (BN (AL d) (DE x s).1).toNat c0).2
theorem VJ (hn:nG d (AL d)) {x:AI} (a:x∈d):0<=BN (AL d) x.1/\BN (AL d) x.1<((AL d).length:Int):=⟨hn.1 x a,IM _ _⟩
theorem A4h (hn:nG d (AL d)) {x:AI} (b:x∈d) {s:ByteArray} (a:(DE x s).2=true):0<=BN (AL d) (DE x s).1/\BN (AL d) (DE x s).1<((AL d).length:Int):=⟨hn.value b a,IM _ _⟩
theorem x8 (d:List AI) {k:Int} (a:0<=k) (b:k<((AL d).length:Int)):((AL d).getD k.toNat c0).2∈(AL d).map λx=>x.2:=GO.2 ⟨_,BE (by omega),rfl⟩
theorem A11 (hk:GH (Bq d)) {a t:Int} (b:0<=a) (g:a<((AL d).length:Int)) (c:0<=t) (h:t<((AL d).length:Int)):LV (AL d) a t=A7 (Bq d) a t:=by
 have j:=dZ d;have e:a<((Bq d).1.length:Int):=by omega
 have f:t<((Bq d).1.length:Int):=by omega
 have i:=hk.1.wds _ (CV b e);have wt:=hk.1.wds _ (CV c f);rw[AE9];unfold LV;rw[<-Nc d b g,<-Nc d c h,Fc wt i];exact(Bx hk b e c f).symm
theorem d5 (hk:GH (Bq d)) (h:Nd ((Bq d).1.map λt=>t.2.1)) (hn:nG d (AL d)) {t:Int} (p:0<=t) (q:t<((AL d).length:Int)) (s:ByteArray):∀(r:List AI) (o:List Int×Bool),(∀x∈r,x∈d)->Cd ((AL d).map λx=>x.2) o.1 ->
  Cd ((AL d).map λx=>x.2) (r.foldl (KA (AL d) t s) o).1/\((r.foldl (KA (AL d) t s) o).2=true↔o.2=true\/∃x∈r,UsD d t s x)/\∀i,BF (r.foldl (KA (AL d) t s) o).1 i=true↔BF o.1 i=true/\∀x∈r,UsD d t s x->BF (vcD d s x) i=true
 | [],o,_,g=>⟨g,by simp,λi=>by simp⟩
 | x :: r,o,n,g=>by
  rw[KL]at h;have m:JH ((AL d).map λx=>x.2):=by have:=hk.1;rwa [KL]at this
  have w:=n x (by simp);obtain⟨n0,n1⟩:=VJ hn w;have u:=A11 hk n0 n1 p q;rw[ON];by_cases hu:UsD d t s x
  ·obtain⟨v0,v1⟩:=A4h hn w hu.1;have e:KA (AL d) t s o x=(Ec o.1 (vcD d s x),true):=by
    unfold KA;rw[An]
    ·rfl
    ·rw[hu.1,u,hu.2];simp
   have v:vcD d s x∈(AL d).map λx=>x.2:=x8 d v0 v1;obtain⟨h1,k,l⟩:=d5 hk (by rw[KL];exact h) hn p q s r (KA (AL d) t s o x) (λy f=>n y (by simp[f])) (by rw[e];exact A9N m h g v);refine⟨h1,?_,λi=>?_⟩
   ·rw[k,e];exact⟨λ_=>.inr ⟨x,by simp,hu⟩,λ_=>.inl rfl⟩
   ·rw[l,e];simp only;rw[Qq (A4g m g) (m.wds _ v),AT];constructor
    ·rintro⟨⟨a,b⟩,c⟩;refine⟨a,λy f j=>?_⟩;rcases DO.1 f with rfl|f
     ·exact b
     ·exact c y f j
    ·rintro⟨a,b⟩;exact⟨⟨a,b x (by simp) hu⟩,λy f=>b y (by simp[f])⟩
  ·have e:KA (AL d) t s o x=o:=by
    unfold KA;rw[BY];rw[u];unfold UsD at hu;cases h1:(DE x s).2 with
    | false=>simp
    | true =>
     rw[h1]at hu;have:A7 (Bq d) (BN (AL d) x.1) t=false:=by simpa using hu
     rw[this];simp
   obtain⟨h1,k,l⟩:=d5 hk (by rw[KL];exact h) hn p q s r (KA (AL d) t s o x) (λy f=>n y (by simp[f])) (by rw[e];exact g);refine⟨h1,?_,λi=>?_⟩
   ·rw[k,e];constructor
    ·rintro (a|⟨y,f,a⟩)
     ·exact .inl a
     ·exact .inr ⟨y,by simp[f],a⟩
    ·rintro (a|⟨y,f,a⟩)
     ·exact .inl a
     ·rcases DO.1 f with rfl|f
      ·exact absurd a hu
      ·exact .inr ⟨y,f,a⟩
   ·rw[l,e];constructor
    ·rintro⟨a,b⟩;refine⟨a,λy f j=>?_⟩;rcases DO.1 f with rfl|f
     ·exact absurd j hu
     ·exact b y f j
    ·rintro⟨a,b⟩;exact⟨a,λy f=>b y (by simp[f])⟩
theorem Xu {b:List Int}:∀ {l:List AR} {k:Nat},(∃x∈l,x.2=b)->∃j:Nat,j<l.length/\QW b k l=((k+j:Nat):Int)/\(l.getD j c0).2=b
 | [],k,⟨x,a,_⟩=>by cases a
 | y :: l,k,⟨x,a,e⟩=>by
  unfold QW;by_cases h:HS y.2 b=true
  ·rw[BY h];exact⟨0,by simp,rfl,by simpa[HS] using h⟩
  ·rw[An h];rcases DO.1 a with rfl|a
   ·exact absurd (by simpa[HS] using e) h
   ·obtain⟨j,h1,c,d⟩:=Xu (k:=k+1) ⟨x,a,e⟩;exact⟨j+1,by simp only[OS];omega,by rw[c];congr 1;omega,by simpa using d⟩
theorem o0 {b:List Int} (h:Nrm b):BM b=b:=by
 unfold BM;have:Ci b b.length=b.length:=by
  rcases h with h|h
  ·rw[h];rfl
  ·cases e:b.length with
   | zero=>rfl
   | succ m =>
    rw[e]at h;show (if b.getD m 0=0 then Ci b m else m+1)=m+1;rw[An (by simpa using h)]
 rw[this,Re]
theorem Q8 (b:Ax d=0) {t:Int} (z:0<=t) (J:t<((AL d).length:Int)) {s:ByteArray} (hs:s∈BO d) :
  ((Fa d (AL d) t s).2=true↔∃x∈d,UsD d t s x)/\((Fa d (AL d) t s).2=true->(0<=HK (AL d) (Fa d (AL d) t s).1/\HK (AL d) (Fa d (AL d) t s).1<((AL d).length:Int)) /\
   ∀i,BF (Bb (Bq d) (HK (AL d) (Fa d (AL d) t s).1)) i=true↔∀x∈d,UsD d t s x->BF (vcD d s x) i=true):=by
 obtain⟨n,-,D,-,u⟩:=oZ b;obtain⟨hk,p⟩:=A8L b;have hn:=Qj n D;have L:=w9 n;have r:=Mo d;rw[VI b]at r;have K:JH ((AL d).map λx=>x.2):=by have:=hk.1;rwa [KL]at this
 have q:=p;rw[KL]at q;have A:=x8 d (AEj 0) (by omega:(0:Int)<((AL d).length:Int));obtain⟨g,a,m⟩:=d5 hk p hn z J s d (((AL d).getD 0 c0).2,false) (λx f=>f) (.inr A);have e:Fa d (AL d) t s=d.foldl (KA (AL d) t s) (((AL d).getD 0 c0).2,false):=rfl;rw[<-e]at g a m;refine⟨by rw[a];simp,λhu=>?_⟩;have E:(Fa d (AL d) t s).1≠[]:=by
  intro G;have h1:LD d (AL d) t.toNat s=true:=by
   unfold LD;rw[AA7 z,hu,G];rfl
  have B:X1 d (AL d) (BO d) (AL d).length=true:=by
   unfold X1;refine Rd.2 ⟨t.toNat,Ri.2 (by omega),?_⟩;unfold cU;exact Rd.2 ⟨s,hs,h1⟩
  rw[B]at u;cases u
 have o:(Fa d (AL d) t s).1∈(AL d).map λx=>x.2:=g.resolve_left E;obtain⟨x,f,ex⟩:=GO.1 o;obtain⟨j,M,H,I⟩:=Xu (l:=AL d) (k:=0) ⟨x,f,ex⟩;have hf:HK (AL d) (Fa d (AL d) t s).1=(j:Int):=by
  unfold HK;rw[o0 (q.nrm _ o),H];simp
 rw[hf];refine⟨⟨bY _,by omega⟩,λi=>?_⟩;rw[Nc d (bY _) (by omega),Rb,I,m];constructor
 ·exact λh=>h.2
 ·intro h;refine⟨?_,h⟩;obtain⟨y,v,w⟩:=(a.1 hu).resolve_left (by simp);obtain⟨v0,v1⟩:=A4h hn v w.1;have C:=h y v w;have c:=dZ d;have F:=r _ v0 (by rw[c];exact v1);have:=(Bx hk (AEj 0) (by rw[c];omega) v0 (by rw[c];exact v1)).1 F i;unfold Tb2 at this;rw[Nc d (AEj 0) (by omega),Nc d v0 v1]at this;exact this C
theorem Sv {s:ByteArray}:∀ {r:List AI} {o:List ByteArray} {y:ByteArray},y∈r.foldl (HT s) o->y∈o\/∃x∈r,x.1=y/\(DE x s).2=true
 | [],_,_,h=>.inl h
 | x :: r,o,y,h=>by
  rw[ON]at h;rcases Sv h with h|⟨z,b,h⟩
  ·unfold HT at h;split at h
   ·rename_i a;rcases Gy h with h|h
    ·exact .inl h
    ·exact .inr ⟨x,by simp,h.symm,a⟩
   ·exact .inl h
  ·exact .inr ⟨z,by simp[b],h⟩
theorem Xv {s:ByteArray} (h:(Da d s).2=true):∃x∈d,x.1=(Da d s).1/\(DE x s).2=true:=by
 unfold Da at h ⊢;split
 ·rename_i h1;have a:(A3 d (FZ d s)).getD 0 ByteArray.empty∈A3 d (FZ d s):=BE (by omega);exact(Sv (HZ a)).resolve_left (by simp)
 ·rename_i h1;rw[An h1]at h;cases h
theorem o4 (d:List AI):eO (Au d).1:=by
 by_cases a:Ax d=0
 ·rw[VI a];obtain⟨j,-,l,m,-⟩:=oZ a;have hn:=Qj j l;have g:=dZ d;refine⟨λx b=>?_,λt f p hp=>?_⟩
  ·rw[Xt a]at b;obtain⟨s,hs,rfl⟩:=GO.1 b;obtain⟨y,n,e,-⟩:=Xv (m s hs);rw[g];show 0<=BN (AL d) (Da d s).1/\BN (AL d) (Da d s).1<((AL d).length:Int);rw[<-e];exact VJ hn n
  ·obtain⟨k,hk,e⟩:=CG Tz f;rw[g]at hk ⊢;have c:=A4f a (t:=(k:Int)) (bY _) (by omega);unfold c9 at c;rw[Rb,e]at c;rw[c]at hp;unfold Uc at hp;obtain⟨i,hi,rfl⟩:=GO.1 hp;obtain⟨h1,h⟩:=ADj.1 hi;have h1:=Ri.1 h1;exact((Q8 a (t:=(k:Int)) (bY _) (by omega) (BE h1)).2 h).1
 ·have:(Au d).1=([],[]):=by
   unfold Au BC;rw[BY a,BY a]
  rw[this];exact⟨λx b=>(by cases b),λt f=>(by cases f)⟩
end
structure HAp (h:AG):Prop where
 iff:∀t f,0<=t->t<(h.1.length:Int)->0<=f->f<(h.2.length:Int)->((B7 h t f).2=true↔A7 h (Ld h f) t=true)
 mono:∀t t' f,0<=t->t<(h.1.length:Int)->0<=t'->t'<(h.1.length:Int)->0<=f->f<(h.2.length:Int)->A7 h t t'=true->(B7 h t f).2=true->A7 h (B7 h t f).1 (B7 h t' f).1=true
def VK (h:AG) (m:Nat) (u:List Int):Prop:=u.length=m/\∀t∈u,0<=t/\t<(h.1.length:Int)
theorem VK.get {h:AG} {m:Nat} {u:List Int} (hu:VK h m u) {n:Nat} (n1:n<m):0<=u.getD n 0/\u.getD n 0<(h.1.length:Int):=by
 have a:n<u.length:=by rw[hu.1];exact n1
 rw[AS,At a];exact hu.2 _ (oF a)
theorem Nk.tyl {h:AG} {m:Nat} {s:EU} (hs:Nk h m s):VK h m s.1:=⟨hs.len,hs.ty⟩
def Rw (h:AG) (m:Nat) (u v:List Int):Prop:=∀i,i<m->A7 h (u.getD i 0) (v.getD i 0)=true
def o5 (h:AG) (u:List Int) (n:Int) (l:List (Int×Int)):Prop:=∀a∈l,(B7 h (u.getD n.toNat 0) a.1).2=true/\A7 h (B7 h (u.getD n.toNat 0) a.1).1 (u.getD a.2.toNat 0)=true
def WTy (h:AG) (f:List AD) (u:List Int):Prop:=∀i,i<f.length->o5 h u (i:Int) (f.getD i (0,[])).2
theorem Rw.refl {h:AG} (hk:GH h) {m:Nat} {u:List Int} (hu:VK h m u):Rw h m u u:=λi hi=>VC hk (hu.get hi).1 (hu.get hi).2
theorem Rw.trans {h:AG} (hk:GH h) {m:Nat} {u v w:List Int} (hu:VK h m u) (a:VK h m v) (b:VK h m w) (h1:Rw h m u v) (c:Rw h m v w):Rw h m u w:=λi hi =>
 Hb hk (hu.get hi).1 (hu.get hi).2 (a.get hi).1 (a.get hi).2 (b.get hi).1 (b.get hi).2 (h1 i hi) (c i hi)
theorem Rw.anti {h:AG} (hi:Lm h) {m:Nat} {u v:List Int} (hu:VK h m u) (b:VK h m v) (h1:Rw h m u v) (d:Rw h m v u):u=v:=by
 refine TF (by rw[hu.1,b.1]) λi c e=>?_;have a:i<m:=by rw[<-hu.1];exact c
 have:=hi _ _ (hu.get a).1 (hu.get a).2 (b.get a).1 (b.get a).2 (h1 i a) (d i a)
 rwa [AS,At c,AS,At e]at this
structure x9 (h:AG) (m:Nat) (s s':EU):Prop where
 up:Rw h m s.1 s'.1
 pre:s.2 <+: s'.2
 ch:∀k:Nat,k<m->s'.1.getD k 0=s.1.getD k 0\/(k:Int)∈s'.2.drop s.2.length
theorem x9.refl {h:AG} (hk:GH h) {m:Nat} {s:EU} (hs:Nk h m s):x9 h m s s:=⟨Rw.refl hk hs.tyl,AAg _,λ_ _=>.inl rfl⟩
theorem Sw {l l':List Int} (hp:l <+: l') {n:Nat} {x:Int} (h:x∈l.drop n):x∈l'.drop n:=by
 obtain⟨r,rfl⟩:=hp;rw[AFx];exact TB _ h
theorem Q9 {l:List Int} {a b:Nat} (c:a<=b) {x:Int} (h:x∈l.drop b):x∈l.drop a:=by
 have:l.drop b=(l.drop a).drop (b-a):=by rw[AEJ];congr 1;omega
 rw[this]at h;exact AEb h
theorem x9.trans {h:AG} (hk:GH h) {m:Nat} {a b c:EU} (ha:Nk h m a) (i:Nk h m b) (j:Nk h m c) (h1:x9 h m a b) (d:x9 h m b c):x9 h m a c:=by
 refine⟨h1.up.trans hk ha.tyl i.tyl j.tyl d.up,h1.pre.trans d.pre,λk g=>?_⟩;rcases d.ch k g with f|f
 ·rcases h1.ch k g with e|e
  ·exact .inl (f.trans e)
  ·exact .inr (Sw d.pre e)
 ·exact .inr (Q9 h1.pre.length_le f)
theorem Sx {h:AG} (hk:GH h) (hi:Lm h) {m:Nat} {s c:EU} (hs:Nk h m s) {n t:Int} (n0:0<=n) (n1:n<(m:Int)) (f:0<=t) (g:t<(h.1.length:Int)) (e:DG h s n t=some c) :
  x9 h m s c/\A7 h t (c.1.getD n.toNat 0)=true:=by
 have r:=(E5 hk hi hs n0 n1 f g e).1;obtain⟨i,j⟩:=hs.get n0 n1;unfold DG at e;split at e
 ·rename_i o;obtain⟨u,w,q,d⟩:=(MY hk i j f g).1 o;generalize (Bm h (s.1.getD n.toNat 0) t).1=v at *;injection e with e
  split at e
  ·rename_i p;subst e;exact⟨x9.refl hk hs,by rw[<-p];exact d⟩
  ·subst e;have l:n.toNat<s.1.length:=by rw[hs.len];omega
   have a:∀k:Nat,(s.1.set n.toNat v).getD k 0=if k=n.toNat then v else s.1.getD k 0:=λk=>NU _ _ _ l k
   refine⟨⟨λk b=>?_,AFf _ _,λk b=>?_⟩,?_⟩
   ·simp only;rw[a];split
    ·rename_i e;rw[e];exact q
    ·exact VC hk (hs.tyl.get b).1 (hs.tyl.get b).2
   ·simp only;rw[a];split
    ·rename_i e;right;rw[AFx,ADX,TG];exact AE8 _ (by simp;omega)
    ·exact .inl rfl
   ·simp only;rw[a,BY rfl];exact d
 ·cases e
theorem Z2 {h:AG} (hk:GH h) (hi:Lm h) {m:Nat} {s:EU} (hs:Nk h m s) {n t:Int} (n0:0<=n) (n1:n<(m:Int)) (p:0<=t) (q:t<(h.1.length:Int)) {u:List Int} (hu:VK h m u) (a:Rw h m s.1 u) (j:A7 h t (u.getD n.toNat 0)=true) :
  ∃c,DG h s n t=some c/\Rw h m c.1 u:=by
 obtain⟨d,f⟩:=hs.get n0 n1;have b:n.toNat<m:=by omega
 obtain⟨r,v⟩:=hu.get b;obtain⟨l,o⟩:=(MY hk d f p q).2 _ r v (a _ b) j;unfold DG;rw[BY l];refine⟨_,rfl,?_⟩;split
 ·exact a
 ·intro k g;have i:n.toNat<s.1.length:=by rw[hs.len];omega
  simp only;rw[NU _ _ _ i k];split
  ·rename_i e;rw[e];exact o
  ·exact a k g
section
variable {h:AG} (hk:GH h) (hi:Lm h) (hf:eO h) (hap:HAp h) {m:Nat} {n:Int} (n0:0<=n) (n1:n<(m:Int))
include hk hi hf n0 n1
theorem d6:∀ {l:List (Int×Int)} {s c:EU},(∀a∈l,Lf h m a)->Nk h m s->Me h n l s=some c->x9 h m s c/\∀a∈l,A7 h (Ld h a.1) (c.1.getD n.toNat 0)=true
 | [],s,c,_,hs,e=>by
  injection e with e
  subst e;exact⟨x9.refl hk hs,λa ha=>by cases ha⟩
 | a :: l,s,c,o,hs,e=>by
  unfold Me at e;cases g:DG h s n (Ld h a.1) with
  | none=>rw[g]at e;cases e
  | some s1 =>
   rw[g]at e;obtain⟨⟨r,t⟩,-⟩:=o a (by simp);obtain⟨j,k⟩:=Mf hf r t;obtain⟨d,-,-⟩:=E5 hk hi hs n0 n1 j k g;obtain⟨v,w⟩:=Sx hk hi hs n0 n1 j k g;have p:∀b∈l,Lf h m b:=λb f=>o b (OF _ f);have e:Me h n l s1=some c:=e;obtain⟨q,u⟩:=d6 p d e;have i:=(Qx hk hi hf n0 n1 p d e).1;refine⟨v.trans hk hs d i q,λb f=>?_⟩;rcases DO.1 f with rfl|f
   ·exact Hb hk j k (d.get n0 n1).1 (d.get n0 n1).2 (i.get n0 n1).1 (i.get n0 n1).2 w (q.up _ (by omega))
   ·exact u b f
theorem yA:∀ {l:List (Int×Int)} {s c:EU},(∀a∈l,Lf h m a)->Nk h m s->Nj h n l s=some c->x9 h m s c/\(n∈c.2.drop s.2.length\/(c.1.getD n.toNat 0=s.1.getD n.toNat 0/\∀a∈l,(B7 h (s.1.getD n.toNat 0) a.1).2=true/\A7 h (B7 h (s.1.getD n.toNat 0) a.1).1 (c.1.getD a.2.toNat 0)=true))
 | [],s,c,_,hs,e=>by
  injection e with e
  subst e;exact⟨x9.refl hk hs,.inr ⟨rfl,λa ha=>by cases ha⟩⟩
 | a :: l,s,c,t,hs,e=>by
  unfold Nj at e;split at e
  ·rename_i v;obtain⟨w,x⟩:=hs.get n0 n1;obtain⟨o,p⟩:=HC hf w x v;cases j:DG h s a.2 (B7 h (s.1.getD n.toNat 0) a.1).1 with
   | none=>rw[j]at e;cases e
   | some s1 =>
    rw[j]at e;obtain⟨-,d,b1⟩:=t a (by simp);obtain⟨g,-,-⟩:=E5 hk hi hs d b1 o p j;obtain⟨r,A⟩:=Sx hk hi hs d b1 o p j;have u:∀b∈l,Lf h m b:=λb f=>t b (OF _ f);have e:Nj h n l s1=some c:=e;obtain⟨q,i⟩:=yA u g e;have k:=(VD hk hi hf n0 n1 u g e).1;refine⟨r.trans hk hs g k q,?_⟩;have y:((n.toNat:Nat):Int)=n:=AA7 n0;rcases r.ch n.toNat (by omega) with c1|c1
    ·rcases i with i|⟨i,z⟩
     ·exact .inl (Q9 r.pre.length_le i)
     ·refine .inr ⟨i.trans c1,λb f=>?_⟩;rcases DO.1 f with rfl|f
      ·exact⟨v,Hb hk o p (g.get d b1).1 (g.get d b1).2 (k.get d b1).1 (k.get d b1).2 A (q.up _ (by omega))⟩
      ·have:=z b f
       rwa [c1]at this
    ·rw[y]at c1;exact .inl (Sw q.pre c1)
  ·cases e
include hap
theorem yB {u:List Int} (hu:VK h m u):∀ {l:List (Int×Int)} {s:EU},(∀a∈l,Lf h m a)->Nk h m s->Rw h m s.1 u->(∀a∈l,(B7 h (u.getD n.toNat 0) a.1).2=true)->∃c,Me h n l s=some c/\Rw h m c.1 u
 | [],s,_,_,e,_=>⟨s,rfl,e⟩
 | a :: l,s,j,hs,e,k=>by
  obtain⟨⟨f,g⟩,-⟩:=j a (by simp);obtain⟨o,p⟩:=Mf hf f g;obtain⟨v,w⟩:=hu.get (show n.toNat<m by omega);obtain⟨s1,i,h1⟩:=Z2 hk hi hs n0 n1 o p hu e ((hap.iff _ _ v w f g).1 (k a (by simp)));obtain⟨r,-,-⟩:=E5 hk hi hs n0 n1 o p i;obtain⟨c,q,t⟩:=yB hu (λb d=>j b (OF _ d)) r h1 λb d=>k b (OF _ d);exact⟨c,by unfold Me;rw[i];exact q,t⟩
theorem yC {u:List Int} (hu:VK h m u):∀ {l:List (Int×Int)} {s:EU},(∀a∈l,Lf h m a)->Nk h m s->Rw h m s.1 u->(∀a∈l,A7 h (Ld h a.1) (s.1.getD n.toNat 0)=true)->o5 h u n l->∃j,Nj h n l s=some j/\Rw h m j.1 u
 | [],s,_,_,f,_,_=>⟨s,rfl,f⟩
 | a :: l,s,p,hs,f,y,z=>by
  obtain⟨⟨v,w⟩,k,b1⟩:=p a (by simp);obtain⟨d,e⟩:=hs.get n0 n1;have q:n.toNat<m:=by omega
  have x:a.2.toNat<m:=by omega
  obtain⟨A,B⟩:=hu.get q;have r:=(hap.iff _ _ d e v w).2 (y a (by simp));obtain⟨g,i⟩:=HC hf d e r;obtain⟨I,J⟩:=z a (by simp);obtain⟨v0,v1⟩:=HC hf A B I;have E:=hap.mono _ _ a.1 d e A B v w (f _ q) r;obtain⟨s1,o,h1⟩:=Z2 hk hi hs k b1 g i hu f (Hb hk g i v0 v1 (hu.get x).1 (hu.get x).2 E J);obtain⟨t,-,-⟩:=E5 hk hi hs k b1 g i o;obtain⟨H,-⟩:=Sx hk hi hs k b1 g i o;obtain⟨j,C,D⟩:=yC hu (λb c=>p b (OF _ c)) t h1 (λb c=>by
   obtain⟨⟨c0,c1⟩,-⟩:=p b (OF _ c);obtain⟨F,G⟩:=Mf hf c0 c1;exact Hb hk F G d e (t.get n0 n1).1 (t.get n0 n1).2 (y b (OF _ c)) (H.up _ q)) λb c=>z b (OF _ c)
  exact⟨j,by unfold Nj;rw[BY r,o];exact C,D⟩
end
section
variable {h:AG} (hk:GH h) (hi:Lm h) (hf:eO h) (hap:HAp h) {f:List AD} (ha:PI h f)
include hk hi hf hap ha
theorem A4i {n:Int} (n0:0<=n) (n1:n<(f.length:Int)) {s c:EU} (hs:Nk h f.length s) (e:Le h f n s=some c):x9 h f.length s c/\(n∈c.2.drop s.2.length\/o5 h c.1 n (f.getD n.toNat (0,[])).2):=by
 have _:=hap;have g:=Mg ha n0 n1;unfold Le at e;cases d:Me h n (f.getD n.toNat (0,[])).2 s with
 | none=>rw[d]at e;cases e
 | some s1 =>
  rw[d]at e;have i:=(Qx hk hi hf n0 n1 g hs d).1;obtain⟨j,-⟩:=d6 hk hi hf n0 n1 g hs d;have e:Nj h n (f.getD n.toNat (0,[])).2 s1=some c:=e;have k:=(VD hk hi hf n0 n1 g i e).1;obtain⟨l,b⟩:=yA hk hi hf n0 n1 g i e;refine⟨j.trans hk hs i k l,?_⟩;rcases b with b|⟨b,m⟩
  ·exact .inl (Q9 j.pre.length_le b)
  ·refine .inr λa ha=>?_;rw[b];exact m a ha
theorem A4j {n:Int} (n0:0<=n) (n1:n<(f.length:Int)) {s:EU} (hs:Nk h f.length s) {u:List Int} (hu:VK h f.length u) (d:o5 h u n (f.getD n.toNat (0,[])).2) (j:Rw h f.length s.1 u):∃e,Le h f n s=some e/\Rw h f.length e.1 u:=by
 have b:=Mg ha n0 n1;obtain⟨s1,c,h1⟩:=yB hk hi hf hap n0 n1 hu b hs j λa ha=>(d a ha).1;have k:=(Qx hk hi hf n0 n1 b hs c).1;obtain⟨-,l⟩:=d6 hk hi hf n0 n1 b hs c;obtain⟨s2,g,i⟩:=yC hk hi hf hap n0 n1 hu b k h1 l d;exact⟨s2,by unfold Le;rw[c];exact g,i⟩
def ADh (h:AG) (f:List AD) (i:Nat) (s:EU):Prop:=∀n:Nat,n<f.length->o5 h s.1 (n:Int) (f.getD n (0,[])).2\/(n:Int)∈s.2.drop i
theorem A7Q {n:Nat} (hn:n<f.length) {s d:EU} (hs:Nk h f.length s) (i:Nk h f.length d) (j:x9 h f.length s d) (p:o5 h s.1 (n:Int) (f.getD n (0,[])).2):o5 h d.1 (n:Int) (f.getD n (0,[])).2\/(n:Int)∈d.2.drop s.2.length:=by
 have _:=hap;have _:=hi;have o:∀a∈(f.getD n (0,[])).2,Lf h f.length a:=ha _ (AE f (0,[]) hn);rcases j.ch n hn with c|c
 ·left;intro a g;obtain⟨e,k⟩:=p a g;obtain⟨-,b,b1⟩:=o a g;rw[Rb]at e k ⊢;rw[c];obtain⟨l,m⟩:=hs.tyl.get hn;obtain⟨q,r⟩:=HC hf l m e;exact⟨e,Hb hk q r (hs.get b b1).1 (hs.get b b1).2 (i.get b b1).1 (i.get b b1).2 k (j.up _ (by omega))⟩
 ·exact .inr c
theorem yD:∀ {k i:Nat} {s:EU} {ty:List Int},Nk h f.length s->ADh h f i s->wlF h f k i s=some ty->WTy h f ty/\Rw h f.length s.1 ty/\VK h f.length ty
 | 0,_,_,_,_,_,e=>by cases e
 | k+1,i,s,ty,hs,hp,e=>by
  unfold wlF at e;split at e
  ·rename_i d;have p:=AE s.2 (0:Int) d;obtain⟨n0,n1⟩:=hs.wt _ p;generalize hn:s.2.getD i 0=n at *;cases c:Le h f n s with
   | none=>rw[c]at e;cases e
   | some s1 =>
    rw[c]at e;have g:=(XN hk hi hf ha n0 n1 hs c).1;obtain⟨j,b⟩:=A4i hk hi hf hap ha n0 n1 hs c;have r:ADh h f (i+1) s1:=by
     intro m l;rcases hp m l with q|a
     ·rcases A7Q hk hi hf hap ha l hs g j q with h1|h1
      ·exact .inl h1
      ·exact .inr (Q9 (by omega) h1)
     ·have t:s.2.drop i=n :: s.2.drop (i+1):=by
       rw[On d,<-hn,AS,At d];rfl
      rw[t]at a;rcases DO.1 a with a|a
      ·rcases b with b|b
       ·exact .inr (by rw[a];exact Q9 (by omega) b)
       ·left;rw[a];have:n.toNat=m:=by omega
        rw[this]at b;exact b
      ·exact .inr (Sw j.pre a)
    have e:wlF h f k (i+1) s1=some ty:=e;obtain⟨u,v,o⟩:=yD g r e;exact⟨u,j.up.trans hk hs.tyl g.tyl o v,o⟩
  ·rename_i d;injection e with e
   subst e;refine⟨λn hn=>?_,Rw.refl hk hs.tyl,hs.tyl⟩;rcases hp n hn with h1|h1
   ·exact h1
   ·rw[By (by omega)]at h1;cases h1
theorem A4k {u:List Int} (hu:VK h f.length u) (d:WTy h f u):∀ {k i:Nat} {s:EU},Nk h f.length s->i<=s.2.length->Zi h s.1+s.2.length+1<=k+i->Rw h f.length s.1 u->∃ty,wlF h f k i s=some ty/\Rw h f.length ty u
 | 0,i,s,hs,j,l,b=>by omega
 | k+1,i,s,hs,j,l,b=>by
  unfold wlF;by_cases a:i<s.2.length
  ·rw[BY a];obtain⟨n0,n1⟩:=hs.wt _ (AE s.2 (0:Int) a);have e:=d (s.2.getD i 0).toNat (by omega);rw[AA7 n0]at e;obtain⟨s1,c,h1⟩:=A4j hk hi hf hap ha n0 n1 hs hu e b;obtain⟨g,m,n⟩:=XN hk hi hf ha n0 n1 hs c;rw[c];exact A4k hu d g (by omega) (by omega) h1
  ·rw[An a];exact⟨s.1,rfl,b⟩
theorem o6 (a:∀x∈f,0<=x.1/\x.1<(h.1.length:Int)) {ty:List Int} (e:IZ h f=some ty):WTy h f ty/\Rw h f.length (Bd f) ty/\VK h f.length ty:=by
 have e:wlF h f (OD h f) 0 (Bd f,Eb f)=some ty:=e;refine yD hk hi hf hap ha (k:=OD h f) (i:=0) (s:=(Bd f,Eb f)) (A3I a) (λn hn=>.inr ?_) e;rw[TG];exact GO.2 ⟨n,Ri.2 hn,rfl⟩
theorem kH (b:∀x∈f,0<=x.1/\x.1<(h.1.length:Int)) {u:List Int} (hu:VK h f.length u) (c:WTy h f u) (a:Rw h f.length (Bd f) u):∃ty,IZ h f=some ty/\Rw h f.length ty u :=
 A4k hk hi hf hap ha hu c (k:=OD h f) (i:=0) (s:=(Bd f,Eb f)) (A3I b) (IN _) (A3J h f) a
end
inductive Up (d:List AI) (m:ByteArray):ByteArray->Prop
 | base {x:ByteArray}:AY m x=true->Up d m x
 | step {x s:ByteArray} {y:AI}:y∈d->AY y.1 x=true->AZ y.2.1 s=true->Up d m s->Up d m x
section
variable {d:List AI}
theorem Xw {m x y:ByteArray} (h:Up d m x) (e:AY x y=true):Up d m y:=by
 cases h with
 | base h=>exact .base (BX h e)
 | step h1 a b c=>exact .step h1 (BX a e) b c
theorem A9P {c x s:ByteArray} (h:Up d c x) {y:AI} (f:y∈d) (e:AY y.1 c=true) (hs:AZ y.2.1 s=true):Up d s x:=by
 induction h with
 | base h=>exact .step f (BX e h) hs (.base (Ct s))
 | step h1 a b i g=>exact .step h1 a b g
theorem RB {a b c:ByteArray} (h1:Up d a b) (i:Up d b c):Up d a c:=by
 induction i with
 | base h=>exact Xw h1 h
 | step e f g k j=>exact .step e f g j
theorem A7R {m a x:ByteArray} (e:AY a m=true) (h:Up d m x):Up d a x:=RB (.base e) h
theorem A7S (hn:Ck d=0) (f:d.length<=(Bj d).length) {m x:ByteArray} (h:Up d m x):AY m x=true\/GM d m<GM d x:=by
 induction h with
 | base h=>exact .inl h
 | step h1 c e g a =>
  right;have b:=Kz hn f h1 e;rw[IK d c]at b;rcases a with a|a
  ·rw[IK d a];exact b
  ·omega
theorem A4l {o:List ByteArray} {s t:ByteArray} (h:t∈J7 o s):t∈o\/t=s:=by
 unfold J7 at h;split at h
 ·exact .inl h
 ·rcases No.1 h with h|h
  ·exact .inl h
  ·exact .inr (by simpa using h)
theorem Z3:∀ {l o:List ByteArray} {t:ByteArray},t∈l.foldl J7 o->t∈o\/t∈l
 | [],_,_,h=>.inl h
 | s :: l,o,t,h=>by
  rw[ON]at h;rcases Z3 h with h|h
  ·rcases A4l h with h|h
   ·exact .inl h
   ·exact .inr (by simp[h])
  ·exact .inr (by simp[h])
theorem A12 {s:ByteArray} (h:0<=Ap d s):d.getD (Ap d s).toNat d0∈d/\AY (d.getD (Ap d s).toNat d0).1 s=true:=by
 rcases DQ d s with g|⟨b,c,a⟩
 ·omega
 ·exact⟨BE (by omega),a⟩
theorem Z4 (hs:QQ d) {x:ByteArray}:∀ {n i:Nat} {o:List ByteArray},(∀t∈o,0<=Ap d t/\Up d t x)->∀t∈IE d n i o,0<=Ap d t/\Up d t x
 | 0,_,_,b=>b
 | n+1,i,o,b=>by
  unfold IE;split
  ·rename_i hi;refine Z4 hs λt a=>?_;rcases Z3 a with a|a
   ·exact b t a
   ·obtain⟨c1,c2⟩:=b _ (BE (d:=ByteArray.empty) hi);obtain⟨c,e⟩:=A12 c1;exact⟨hs _ c t a,A9P c2 c e (Fq a)⟩
  ·exact b
theorem Z5 {l:List ByteArray} {t:ByteArray} (h:t∈J8 l):t∈l:=(Wb (o:=[]) h).resolve_left (by simp)
theorem A4m (hs:QQ d) {x t:ByteArray} (b:0<=Ap d x) (h:AZ (Kx d x) t=true):Up d t x:=by
 obtain⟨u,hu,e⟩:=Rd.1 h;unfold Kx at hu;rw[An (by omega)]at hu;have:=(Z4 hs (x:=x) (n:=d.length) (i:=0) (o:=[x]) (λt a=>by
  have:t=x:=by simpa using a
  subst this;exact⟨b,.base (Ct _)⟩) u (Z5 hu)).2
 exact A7R (D5 e) this
theorem Z6 {m:ByteArray}:∀ {n i:Nat} {o:List ByteArray},(∀t∈o,Up d m t)->∀t∈Cl d n i o,Up d m t
 | 0,_,_,a=>a
 | n+1,i,o,a=>by
  unfold Cl;split
  ·rename_i hi;have f:=a _ (BE (d:=ByteArray.empty) hi);generalize o.getD i ByteArray.empty=c at *;have key:∀(l:List AI) (o:List ByteArray),(∀y∈l,y∈d)->(∀t∈o,Up d m t)->∀t∈l.foldl (Y1 c) o,Up d m t:=by
    intro l;induction l with
    | nil=>exact λo _ a=>a
    | cons y l j =>
     intro o e a;rw[ON];refine j _ (λz g=>e z (by simp[g])) λt b=>?_;unfold Y1 at b;split at b
     ·rename_i h;rw[AT]at h;rcases No.1 b with b|b
      ·exact a t b
      ·have:t=y.1:=by simpa using b
       subst this;exact .step (e y (by simp)) (Ct _) h.1 f
     ·exact a t b
   exact Z6 (key d o (λ_ h=>h) a)
  ·exact a
theorem Xx {m x:ByteArray} (h:AZ (Cm d m) x=true):Up d m x:=by
 obtain⟨u,hu,e⟩:=Rd.1 h;unfold Cm at hu;split at hu
 ·cases hu
 ·exact Xw (Z6 (m:=m) (n:=d.length) (i:=0) (o:=[m]) (λt a=>by
   have:t=m:=by simpa using a
   subst this;exact .base (Ct _)) u (Z5 hu)) e
theorem Xy {m x:ByteArray} (u:0<=Ap d m) (h:Up d m x):AZ (Cm d m) x=true:=by
 have q:cH d [m]:=⟨λs hs=>by
  have:s=m:=by simpa using hs
  rw[this];exact u,by simp⟩
 obtain⟨k,v,D⟩:=Xn (d:=d) (n:=d.length) (i:=0) q (by omega) (λj t=>by omega) (by omega);have A:m∈Cl d d.length 0 [m]:=K0 (by simp);have r:Cm d m=J8 (Cl d d.length 0 [m]):=by unfold Cm;rw[An (by omega)]
 rw[r];generalize Cl d d.length 0 [m]=o at *;have key:AZ o x=true:=by
  induction h with
  | base h=>exact Rd.2 ⟨m,A,h⟩
  | step h1 l p C B =>
   obtain⟨z,c,a⟩:=Rd.1 B;obtain⟨j,t,rfl⟩:=CG ByteArray.empty c;obtain⟨s,y,f⟩:=Rd.1 p;obtain⟨w,b,g⟩:=Rd.1 (v j (by omega) _ h1 (Rd.2 ⟨s,y,BX f (D5 a)⟩));exact Rd.2 ⟨w,b,BX g l⟩
 obtain⟨z,c,e⟩:=Rd.1 key;obtain⟨w,b,a⟩:=Rd.1 (Qf (o:=[]) c);exact Rd.2 ⟨w,b,BX a e⟩
theorem Z7:∀ {l o:List ByteArray} {x:ByteArray},AZ o x=true->AZ (l.foldl (FT d) o) x=true
 | [],_,_,h=>h
 | s :: l,o,x,h=>by
  rw[ON];refine Z7 ?_;unfold FT;split
  ·exact J9 (λz a=>NP a) h
  ·exact h
theorem RC:∀ {l o:List ByteArray} {x:ByteArray},x∈l->0<=Ap d x->AZ (l.foldl (FT d) o) x=true
 | s :: l,o,x,h,a=>by
  rw[ON];rcases DO.1 h with rfl|h
  ·refine Z7 ?_;unfold FT;rw[BY a];exact Qd
  ·exact RC h a
theorem OH:∀ {l o:List ByteArray},(∀x∈o,0<=Ap d x)->∀x∈l.foldl (FT d) o,0<=Ap d x
 | [],_,b=>b
 | s :: l,o,b=>by
  rw[ON];refine OH λx a=>?_;unfold FT at a;split at a
  ·rcases Gy a with a|rfl
   ·exact b x a
   ·assumption
  ·exact b x a
theorem A9Q {l:List ByteArray} (h:xL l) {i j:Nat} (hi:i<l.length) (a:j<l.length) (d:i≠j):AY (l.getD i ByteArray.empty) (l.getD j ByteArray.empty)=false:=by
 have c:∀k (h:k<l.length),l.getD k ByteArray.empty=l[k]:=λk h=>by rw[AS,At h];rfl
 rw[c i hi,c j a];rcases Nat.lt_or_gt_of_ne d with b|b
 ·exact(Rh.1 h) i j hi a b
 ·exact MZ ((Rh.1 h) j i a hi b)
theorem RD:∀ {l o:List ByteArray},xL o->(∀s∈l,∀x∈o,AY x s=false)->xL l->xL (l.foldl (FT d) o)
 | [],_,h,_,_=>h
 | s :: l,o,h,b,f=>by
  rw[ON];have e:=TA.1 f;refine RD ?_ (λy c x a=>?_) e.2
  ·unfold FT;split
   ·exact XD h (b s (by simp))
   ·exact h
  ·unfold FT at a;split at a
   ·rcases Gy a with a|rfl
    ·exact b y (by simp[c]) x a
    ·exact e.1 y c
   ·exact b y (by simp[c]) x a
theorem A13 (hn:Ck d=0) (s:ByteArray):xL (FZ d s):=by
 have key:∀(r:List AI) (o:List ByteArray),xL o->(∀y∈r,∀x∈o,AY x y.1=false)->r.Pairwise (λa b=>AY a.1 b.1=false)->xL (r.foldl (HT s) o):=by
  intro r;induction r with
  | nil=>exact λo h _ _=>h
  | cons y r q =>
   intro o h f hp;rw[ON];have l:=TA.1 hp;refine q _ ?_ (λz g x c=>?_) l.2
   ·unfold HT;split
    ·exact XD h (f y (by simp))
    ·exact h
   ·unfold HT at c;split at c
    ·rcases Gy c with c|rfl
     ·exact f z (by simp[g]) x c
     ·exact l.1 z g
    ·exact f z (by simp[g]) x c
 refine key d [] .nil (λy _ x c=>by cases c) (Rh.2 λi j hi k t=>?_);cases e:AY d[i].1 d[j].1 with
 | false=>rfl
 | true =>
  have h1:=MT hn hi;have p:=MT hn k;have m:d.getD i d0=d[i]:=by rw[AS,At hi];rfl
  have n:d.getD j d0=d[j]:=by rw[AS,At k];rfl
  rw[m,JC d e]at h1;rw[n]at p;omega
theorem Sy (r:A5 d=0) {l:List ByteArray} (t:xL l) {x:ByteArray} (g:x∈l) (w:0<=Ap d x):∃m∈A3 d l,Up d m x:=by
 obtain⟨hs,C,-,hn,A⟩:=Ay r;have z:∀y∈Bc d l,0<=Ap d y:=OH λy c=>by cases c
 obtain⟨q,n,ex⟩:=Rd.1 (RC (d:=d) (o:=[]) g w);have n:q∈Bc d l:=n;have v:xL (Bc d l):=RD .nil (λs _ x g=>by cases g) t;have u:A3 d l=QU d (Bc d l) (Bc d l).length:=rfl;rw[u];generalize Bc d l=all at *;have key:∀(k:Nat) (y:ByteArray),GM d y<k->y∈all->Up d y x->∃m∈QU d all all.length,Up d m x:=by
  intro k;induction k with
  | zero=>exact λy h=>by omega
  | succ k B =>
   intro y D c hu;obtain⟨i,hi,rfl⟩:=CG ByteArray.empty c;by_cases a:QT d all i all.length=true
   ·exact⟨_,GO.2 ⟨i,ADj.2 ⟨Ri.2 hi,a⟩,rfl⟩,hu⟩
   ·have a:QT d all i all.length=false:=by simpa using a
    unfold QT at a;obtain⟨j,b,hf⟩:=ADY.1 a;have b:=Ri.1 b;unfold wZ at hf;simp only[S8,TC,RZ,not_or,Bool.not_eq_false]at hf;obtain⟨f,ha⟩:=hf;have f:j≠i:=λe=>f (by rw[e]);have p:=A4m hs (z _ c) ha;rcases A7S hn A p with e|e
    ·exact absurd e (by rw[A9Q v b hi f];simp)
    ·exact B _ (by omega) (BE b) (RB p hu)
 exact key _ q (AF3 _) n (.base ex)
theorem LJ {s:ByteArray} (hs:s∈AO d):0<=Ap d s:=by
 obtain⟨x,a,rfl⟩:=DY hs;exact DX a
theorem RE {x:AI} (a:x∈d) (hn:Ck d=0):x.1∈AO d:=by
 obtain⟨s,hs,e⟩:=Rd.1 (Oz a);obtain⟨y,b,rfl⟩:=DY hs;rw[<-Qc hn b a e];exact hs
theorem A7T (b:A5 d=0) {m x:ByteArray} (c:0<=Ap d m) (h:Up d m x) {i:Nat} (hi:BF (Er d (AO d) x) i=true):BF (Er d (AO d) m) i=true:=by
 obtain⟨-,j,-,hn,k⟩:=Ay b;have e:=D0 d d.length;rw[Re]at e;have a:(AO d).length<=4096:=by omega
 obtain⟨f,g⟩:=(B5 (d:=d) a x i).1.1 hi;exact(B5 (d:=d) a m i).1.2 ⟨f,Xy c (RB h (Xx g))⟩
end
section
variable {d:List AI}
def Dc (d:List AI) (c:List Int):Prop:=IJ c/\∀i j,BF c i=true->j<(AO d).length->Up d ((AO d).getD i ByteArray.empty) ((AO d).getD j ByteArray.empty)->BF c j=true
theorem A9R:Dc d []:=⟨λx a=>(by cases a),λi j hi=>by unfold BF at hi;simp at hi⟩
theorem A9S {a b:List Int} (ha:Dc d a) (c:Dc d b):Dc d (Ec a b) :=
 ⟨Qr ha.1 c.1,λi j hi e hu=>by
  rw[Qq ha.1 c.1,AT]at hi ⊢;exact⟨ha.2 i j hi.1 e hu,c.2 i j hi.2 e hu⟩⟩
theorem A7U {l:List (List Int)} (h:∀c∈l,Dc d c) (k:Nat):Dc d (l.getD k []):=by grind [BE,Sf,A9R]
theorem A7V {l:List (List Int)} (h:∀c∈l,Dc d c) (i k:Nat):∀c∈Ga l i k,Dc d c:=by grind [Ga,Ec,A9S,A7U]
theorem yE {i:Nat}:∀ {n k:Nat} {l:List (List Int)},(∀c∈l,Dc d c)->∀c∈Gb i n k l,Dc d c
 | 0,_,_,h=>h
 | n+1,k,l,h=>by
  unfold Gb;split
  ·exact yE (A7V h i k)
  ·exact h
theorem yF:∀ {n i:Nat} {l:List (List Int)},(∀c∈l,Dc d c)->∀c∈IG n i l,Dc d c
 | 0,_,_,h=>h
 | n+1,i,l,h=>by
  unfold IG;split
  ·exact yF (yE h)
  ·exact h
theorem UJ (a:A5 d=0):(AO d).length<=4096:=by
 obtain⟨-,c,-⟩:=Ay a;have b:=D0 d d.length;rw[Re]at b;omega
theorem A7W (a:A5 d=0) {s:ByteArray} (hs:0<=Ap d s):Dc d (Er d (AO d) s):=by
 have b:=UJ a;refine⟨(B5 (d:=d) b s 0).2.1,λi j hi c hu=>?_⟩;grind [B5,Xy,RB,Xx]
theorem A9T (a:A5 d=0):∀c∈Av (AX d),Dc d c:=yF λc b=>by
 obtain⟨s,hs,rfl⟩:=GO.1 b;exact A7W a (LJ hs)
theorem yG {all:List ByteArray} {codes:List (List Int)} {b:List Int} {u:ByteArray}:∀ {m i:Nat} {l:List ByteArray},w5 d all codes b m i l=.inl u->∃j,i<=j/\j<i+m/\DP (codes.getD j []) b=true/\u=all.getD j ByteArray.empty
 | 0,_,_,h=>by cases h
 | m+1,i,l,h=>by
  unfold w5 at h;split at h
  ·grind
  ·obtain⟨j,e,f,a,c⟩:=yG h;exact⟨j,by omega,by omega,a,c⟩
theorem yH {all:List ByteArray} {codes:List (List Int)} {b:List Int} {r:List ByteArray}:∀ {m i:Nat} {l:List ByteArray},w5 d all codes b m i l=.inr r->(∀j,i<=j->j<i+m->DP (codes.getD j []) b=false)/\r=l++((List.range' i m).filter λj:Nat=>Ua b (j:Int)).map λj=>all.getD j ByteArray.empty
 | 0,i,l,h=>by grind [w5]
 | m+1,i,l,h=>by
  unfold w5 at h;split at h
  ·cases h
  ·rename_i f;obtain⟨c,a⟩:=yH h;refine⟨λj h1 e=>?_,?_⟩
   ·grind
   ·rw[a,AFv,f5];grind
theorem yI {a b:ByteArray} {x:UInt8}:x∈(a++b).toList↔x∈a.toList\/x∈b.toList:=by
 rw[ByteArray.toList_eq,ByteArray.toList_eq,ByteArray.toList_eq];simp
theorem A14 {l:List ByteArray}:∀ {n:Nat},2<=n->(38:UInt8)∈(Qg l n).toList
 | n+1,hn=>by
  rw[O2];unfold ZN;rw[BY (by omega)];rw[yI,yI]
  simp_all
theorem o7 (hn:Ck d=0) {s:ByteArray} (hs:s∈AO d):(38:UInt8)∉s.toList:=by
 obtain⟨x,g,rfl⟩:=DY hs;obtain⟨j,c,e⟩:=CG d0 g;have h1:=(JD (d:=d) (r:=d) (k:=0) hn j c).2;rw[e]at h1;intro a;unfold Ep at h1;rw[AT,If]at h1;rw[ByteArray.toList_eq]at a;obtain⟨k,hk,h⟩:=AAe.1 a;have f:k<x.1.data.size:=by simpa using hk
 have:=h1.2 k (Ri.2 f);unfold chr at this;have b:x.1.data.getD k 0=38:=by simp_all
 rw[b]at this;revert this;decide
theorem A15 (h:A5 d=0) {y:AR} (V:y∈AL d) (hf:JH (Av (AX d))) {s:ByteArray} (hs:s∈AO d) (e:AY y.1 s=true):y.2=Er d (AO d) s:=by
 obtain⟨ah,ab,-,hn,af⟩:=Ay h;have o:=UJ h;have L:Nd (Av (AX d)):=VA (Sg h);have ae:(AX d).length=(AO d).length:=by simp[AX]
 have M:AX d <+: Av (AX d):=Qo 257 0 (AX d);have U:∀ {t:ByteArray},t∈AO d->AY t s=true->t=s:=λ{t} x e=>by grind [DY,Qc]
 have heq:∀j,j<(AO d).length->∀b∈Av (AX d),DP ((AX d).getD j []) b=true->b=Er d (AO d) ((AO d).getD j ByteArray.empty):=λj R b f p=>by
  have g:(AX d).getD j []∈Av (AX d):=M.subset (BE (by omega));unfold DP at p;rw[AT,Fc (hf.wds _ g) (hf.wds b f),Fc (hf.wds b f) (hf.wds _ g)]at p;rw[<-JE d R];refine nY (hf.wds b f) (hf.wds _ g) (L.nrm b f) (L.nrm _ g) λi=>?_;rw[AE9];exact⟨p.2 i,p.1 i⟩
 obtain⟨b,f,rfl⟩:=DZ.1 V;show b=_;have e:AY (Gz d (AO d) (AX d) b) s=true:=e;unfold Gz at e;cases w:w5 d (AO d) (AX d) b (AO d).length 0 [] with
 | inl u =>
  rw[w]at e;obtain⟨j,-,C,X,rfl⟩:=yG w;rw[ADG]at C;rw[<-U (BE C) e];exact heq j C b f X
 | inr l =>
  exfalso;rw[w]at e;have e:AY (iJ (A3 d l)) s=true:=e;obtain⟨O,D⟩:=yH w;rw[AE7]at D;have N:=hf.wds b f;have v:∀i,i<(AO d).length->BF b i=true->(AO d).getD i ByteArray.empty∈l:=λi hi ad=>by grind [VH]
  have K:∀t∈l,∃i,i<(AO d).length/\t=(AO d).getD i ByteArray.empty/\BF b i=true:=λt x=>by grind [VH]
  have T:(List.range' 0 (AO d).length).map (λj=>(AO d).getD j ByteArray.empty)=AO d:=by
   apply TF
   ·simp
   ·intro i ai W;simp[AS,W]
  have E:xL l:=by
   rw[D];have:=XE hn;rw[<-T]at this;exact this.sublist (List.filter_sublist.map _)
  obtain⟨z,r⟩:=hf.some b f;have B:∀i,BF b i=true->i<(AO d).length:=by
   have:=dY (q:=(AO d).length) (n:=257) (i:=0) (l:=AX d) (λc Q=>by
    obtain⟨t,x,rfl⟩:=GO.1 Q;exact⟨(B5 (d:=d) o t 0).2.1,λi hi=>((B5 (d:=d) o t i).1.1 hi).1⟩) b f
   exact this.2
  have F:∀t∈l,0<=Ap d t:=λt x=>by
   obtain⟨i,hi,rfl,-⟩:=K t x;exact LJ (BE hi)
  obtain⟨m,g,-⟩:=Sy h E (v z (B z r) r) (F _ (v z (B z r) r));have ag:0<(A3 d l).length:=AEQ g;have S:iJ (A3 d l)=Qg (A3 d l) (A3 d l).length:=rfl;rw[S]at e;by_cases h1:(A3 d l).length=1
  ·obtain⟨k,H,rfl,P⟩:=K m (HZ g);have G:DP ((AX d).getD k []) b=true:=by
    have J:(AX d).getD k []∈Av (AX d):=M.subset (BE (by omega));unfold DP;rw[AT,Fc (hf.wds _ J) N,Fc N (hf.wds _ J),JE d H];refine⟨λi hi=>?_,λi hi=>?_⟩
    ·obtain⟨Z,aa⟩:=(B5 (d:=d) o _ i).1.1 hi;exact(A9T h b f).2 k i P Z (Xx aa)
    ·have A:=B i hi;obtain⟨Y,I,hu⟩:=Sy h E (v i A hi) (F _ (v i A hi));have:Y=(AO d).getD k ByteArray.empty:=by
      obtain⟨a,ha⟩:=ADO.1 h1;rw[ha]at g I;rw[Rm.1 I,Rm.1 g]
     rw[this]at hu;exact(B5 (d:=d) o _ i).1.2 ⟨A,Xy (LJ (BE H)) hu⟩
   rw[O k (IN _) (by omega)]at G;cases G
  ·grind [A14,A3,Hi,o7]
theorem Z8 (s:ByteArray):∀(l:List AR) (k:Nat),0<=MQ s k l->∃j,j<l.length/\MQ s k l=((k+j:Nat):Int)/\AY (l.getD j c0).1 s=true
 | [],k,h=>by simp only[MQ]at h;omega
 | x :: l,k,h=>by
  simp only[MQ]at h ⊢;split
  ·grind
  ·rename_i e;rw[An e]at h;obtain⟨j,c,a,b⟩:=Z8 s l (k+1) h;exact⟨j+1,by simp only[OS];omega,by rw[a];congr 1;omega,by simpa using b⟩
theorem A4n (a:A5 d=0) (hf:JH (Av (AX d))) {s:ByteArray} (hs:s∈AO d):((AL d).getD (BN (AL d) s).toNat c0).2=Er d (AO d) s:=by
 have h0:0<=BN (AL d) s:=G0 a (Fq hs);grind [Z8,AL,BN,A15,BE]
theorem Z9 {s:ByteArray} (hn:Ck d=0):∀ {r:List AI} {o:List ByteArray} {x:AI},(∀y∈r,y∈d)->x∈d->((∃z∈o,AY z x.1=true)\/(x∈r/\(DE x s).2=true))->∃z∈r.foldl (HT s) o,AY z x.1=true
 | [],o,x,_,_,h=>h.resolve_right λg=>by cases g.1
 | y :: r,o,x,f,i,h=>by
  rw[ON];refine Z9 hn (λz c=>f z (by simp[c])) i ?_;rcases h with ⟨z,c,e⟩|⟨a,b⟩
  ·grind [HT,NP]
  ·rcases DO.1 a with rfl|a
   ·left;unfold HT;rw[BY b];exact Rd.1 (Qd (l:=o) (s:=x.1))
   ·exact .inr ⟨a,b⟩
theorem aA (f:Int):∀(a b:List (Int×Int)),EH f (a++b)=if (EH f a).2=true then EH f a else EH f b
 | [],_=>rfl
 | x :: a,b=>by
  have h1:EH f (x :: a++b)=if x.1=f then (x.2,true) else EH f (a++b):=rfl
  have c:EH f (x :: a)=if x.1=f then (x.2,true) else EH f a:=rfl
  rw[h1,c];split
  ·rfl
  ·exact aA f a b
theorem yJ (l:List AR) (fs:List ByteArray) (t:Nat) (f:Int):∀n,EH f (Uc d l fs t n)=if 0<=f/\f<(n:Int)/\(Fa d l (t:Int) (fs.getD f.toNat ByteArray.empty)).2=true then (HK l (Fa d l (t:Int) (fs.getD f.toNat ByteArray.empty)).1,true) else (0,false)
 | 0=>by
  rw[An (by omega)];rfl
 | n+1=>by
  rw[ZT,aA,yJ l fs t f n];grind [Fa,EH]
theorem Xz (c:Ax d=0) {t f:Int} (e:0<=t) (g:t<((AL d).length:Int)) (a:0<=f) (b:f<((BO d).length:Int)):B7 (Bq d) t f=if (Fa d (AL d) t ((BO d).getD f.toNat ByteArray.empty)).2=true then (HK (AL d) (Fa d (AL d) t ((BO d).getD f.toNat ByteArray.empty)).1,true) else (0,false):=by
 unfold B7;grind [A4f,yJ,Fa,AL,BO]
theorem A7X (c:Ax d=0) {f:Int} (a:0<=f) (b:f<((BO d).length:Int)):Ld (Bq d) f=BN (AL d) (Da d ((BO d).getD f.toNat ByteArray.empty)).1:=by grind [Ld,Xt,BO,Qk]
theorem ADi (b:Ax d=0):HAp (Bq d):=by
 obtain⟨j,-,T,F,-⟩:=oZ b;obtain⟨u,-,-⟩:=CC b;obtain⟨-,U,-⟩:=BZ u;have al:=XA j U;obtain⟨ao,ak,-,hn,am⟩:=Ay j;obtain⟨hk,an⟩:=A8L b;have I:=Qj j T;have n:=dZ d;have hF:(Bq d).2.length=(BO d).length:=by rw[Xt b,RU]
 have E:∀s∈AO d,Bb (Bq d) (BN (AL d) s)=Er d (AO d) s:=λs hs=>by grind [Nc,G0,Fq,IM,A4n]
 refine⟨λt f g l k c=>?_,λt w f g l A ai k c X q=>?_⟩
 ·rw[n]at l;rw[hF]at c;have hs:=BE (d:=ByteArray.empty) (show f.toNat<(BO d).length by omega);rw[Xz b g l k c,A7X b k c];generalize (BO d).getD f.toNat ByteArray.empty=s at *;obtain⟨v,-⟩:=Q8 b g l hs;obtain⟨aj,aa,S,Y⟩:=Xv (F s hs);have hi:(if (Fa d (AL d) t s).2=true then (HK (AL d) (Fa d (AL d) t s).1,true) else ((0:Int),false)).2=true↔(Fa d (AL d) t s).2=true:=by
   split<;>simp[*]
  rw[hi,v];constructor
  ·rintro⟨x,a,Z,W⟩;have hint:=F s hs;unfold Da at hint ⊢;split at hint
   ·rename_i h1;rw[BY h1];obtain⟨ap,V⟩:=ADO.1 h1;obtain⟨z,u,C⟩:=Z9 (d:=d) (s:=s) hn (r:=d) (o:=[]) (λy ad=>ad) a (.inr ⟨a,Z⟩);have ae:0<=Ap d z:=by rw[JC d C];exact DX a
    obtain⟨m,p,hu⟩:=Sy j (A13 hn s) u ae;have hu:=Xw hu C;have e:(A3 d (FZ d s)).getD 0 ByteArray.empty=m:=by
     rw[V]at p ⊢;rw[Rm.1 p];rfl
    rw[show ((A3 d (FZ d s)).getD 0 ByteArray.empty,true).1=m from e];obtain⟨ar,K,B,-⟩:=(Sv (HZ p)).resolve_left (by simp);have H:m∈AO d:=by rw[<-B];exact RE K hn
    have ab:=RE a hn;obtain⟨n0,n1⟩:=VJ I a;have L:0<=BN (AL d) m:=G0 j (Fq H);have aq:=IM (AL d) m;refine Hb hk L (by omega) n0 (by omega) g (by omega) ((Bx hk L (by omega) n0 (by omega)).2 λi hi=>?_) W;unfold Tb2 at hi ⊢;rw[E x.1 ab]at hi;rw[E m H];exact A7T j (by rw[<-B];exact DX K) hu hi
   ·cases hint
  ·intro h;rw[<-S]at h;exact⟨aj,aa,Y,h⟩
 ·have M:t<((AL d).length:Int):=by omega
  have N:w<((AL d).length:Int):=by omega
  rw[hF]at c;have hs:=BE (d:=ByteArray.empty) (show f.toNat<(BO d).length by omega);rw[Xz b g M k c]at q ⊢;rw[Xz b A N k c];generalize (BO d).getD f.toNat ByteArray.empty=s at *;obtain⟨v,af⟩:=Q8 b g M hs;obtain⟨ag,ah⟩:=Q8 b A N hs;have hi:(Fa d (AL d) t s).2=true:=by
   split at q
   ·assumption
   ·cases q
  have J:∀x∈d,UsD d t s x->UsD d w s x:=λx a hu=>by
   obtain⟨n0,n1⟩:=VJ I a;exact⟨hu.1,Hb hk n0 (by omega) g l A ai hu.2 X⟩
  have G:(Fa d (AL d) w s).2=true:=by
   obtain⟨x,a,hu⟩:=v.1 hi;exact ag.2 ⟨x,a,J x a hu⟩
  rw[BY hi,BY G];obtain⟨⟨O,P⟩,Q⟩:=af hi;obtain⟨⟨R,b1⟩,b2⟩:=ah G;refine(Bx hk O (by rw[n];exact P) R (by rw[n];exact b1)).2 λi D=>?_;unfold Tb2 at D ⊢;exact(Q i).2 λx a hu=>(b2 i).1 D x a (J x a hu)
theorem o8 (d:List AI):HAp (Au d).1:=by
 by_cases a:Ax d=0
 ·rw[VI a];exact ADi a
 ·have:(Au d).1=([],[]):=by
   unfold Au BC;rw[BY a,BY a]
  rw[this];exact⟨λt f c b=>by simp at b;omega,λt e f c b=>by simp at b;omega⟩
end
theorem Mp (d:List AI):(Au d).1.1.length<=256/\(Au d).1.2.length<=64:=by
 unfold Au;split
 ·exact⟨by simp,by simp⟩
 ·rename_i a;have a:(BC d).2=0:=Do a;have b:Ax d=0:=by
   unfold BC at a;split at a
   ·rename_i h;exact absurd a h
   ·rename_i h;exact Do h
  obtain⟨f,c,-⟩:=CC b;obtain⟨-,e,-⟩:=BZ f;refine⟨?_,?_⟩
  ·show (EZ _ _ _).length<=256;rw[KD,IL];exact e
  ·show (EK d).1.length<=64;unfold EK;rw[An (by rw[b];simp)];show ((BO d).map (Qk d)).length<=64;rw[RU];exact c
theorem kI {H:AG} (q:H.1.length<=256) (r:H.2.length<=64) {f:List AD} (h:cZ H f=true):AU f/\LH f/\0<f.length/\De H f/\D7 f=true/\f.length<=12/\∀x∈f,∀a∈x.2,0<=a.1/\a.1<(H.2.length:Int):=by
 unfold cZ at h;rw[AT,TC]at h;obtain⟨l,c⟩:=h;unfold BP at c;split at c
 ·rename_i h1;exact absurd c h1
 ·rename_i h1;split at c
  ·cases c
  ·rename_i e;split at c
   ·cases c
   ·rename_i i;have h1:(BG f).2=0:=Do h1;have e:f.all (U0 H)=true:=by simpa using e
    have i:Cj f (BG f).1=0:=by simpa using i
    have k:D7 f=true:=by
     unfold D7;simp only[AT,TC];refine⟨⟨l,?_⟩,h1,?_⟩
     ·rw[If]at e ⊢;intro x d;have:=e x d;unfold U0 at this;rw[AT,Ff,If]at this;unfold ndB;rw[AT,Ff,If];refine⟨by omega,λa ha=>?_⟩;have:=this.2 a ha;unfold xE at this;rw[Ff]at this;unfold ftB;rw[Ff];omega
     ·rw[<-JL i];exact Gk f
    obtain⟨n,o,p,-⟩:=Mh k;have g:CH f=0:=by
     unfold BG at h1;split at h1
     ·rename_i hh;exact hh
     ·exact h1
    have m:G8 (f.length:Int) f=0:=by
     unfold CH at g;split at g
     ·cases g
     ·split at g
      ·cases g
      ·exact g
    refine⟨n,o,p,λx d=>?_,k,(JG l).1,λx d a ha=>?_⟩
    ·have b:=If.1 e x d;unfold U0 at b;rw[AT,Ff]at b;exact⟨(IV m x d).1,b.1⟩
    ·have b:=If.1 e x d;unfold U0 at b;rw[AT,If]at b;have j:=b.2 a ha;unfold xE at j;rw[Ff]at j;exact⟨((IV m x d).2 a ha).1,j⟩
theorem o9 {f:List AD} (hf:AU f):DF f:=⟨hf.1,λx a=>(hf.2 x a).1⟩
structure d7 (h:AG):Prop where
 ok:GH h
 inj:Lm h
 ft:eO h
 nrm:A9M h
 ap:HAp h
 b1:h.1.length<=256
 b2:h.2.length<=64
theorem RF (d:List AI):d7 (Au d).1:=⟨JJ d,i9 d,o4 d,λt a=>(Xr d).nrm _ (GO.2 ⟨t,a,rfl⟩),o8 d,(Mp d).1,(Mp d).2⟩
theorem h14 (d:List AI):d7 (xF d):=by
 unfold xF;split
 ·exact RF d
 ·exact RF Cu
theorem Sz {f:List AD} {ty:List Int} {x:AD} (b:x∈E9 f ty):∃i,i<f.length/\x=(ty.getD i 0,(f.getD i (0,[])).2):=by
 obtain⟨i,hi,rfl⟩:=List.getElem_of_mem b;have a:i<f.length:=by rw[Dq]at hi;exact hi
 refine⟨i,a,?_⟩;rw[<-Hk f ty a,AS,At hi];rfl
theorem KM {α:Type} {f:List α} {i:Nat} (h:i<f.length) (d:α):f.getD i d∈f:=by
 rw[AS,At h];exact oF _
def GG (p:List Int) (n:Nat):List AD:=(List.range n).map λ(i:Nat)=>((0:Int),[(p.getD i 0,(i:Int)+1)])
def Aq (p:List Int) (g:List AD):List AD:=GG p p.length++g.map λx=>(x.1,A4 p.length x.2)
abbrev OI (p:List Int):List AD:=Aq p [((0:Int),[])]
theorem kJ (p:List Int) (n:Nat):GG p (n+1)=GG p n++[((0:Int),[(p.getD n 0,(n:Int)+1)])]:=by simp[GG,TD]
theorem Ew (p:List Int) (n:Nat):(GG p n).length=n:=by simp[GG]
theorem aB (p:List Int):(OI p).length=p.length+1:=by simp[Aq,GG]
theorem X0 (p:List Int) {i:Int} (a:0<=i) (b:i<(p.length:Int)):(OI p).getD i.toNat (0,[])=(0,[(p.getD i.toNat 0,i+1)]):=by
 unfold OI Aq;rw[AS,Rn (by rw[Ew];omega)];unfold GG;rw[aT,ADS (by omega)];show ((0:Int),[(p.getD i.toNat 0,((i.toNat:Nat):Int)+1)])=_;rw[AA7 a]
theorem pA (p:List Int):(OI p).getD p.length (0,[])=(0,[]):=by
 unfold OI Aq;rw[AS,Rr (by rw[Ew];omega),Ew,ADX];rfl
theorem X2 (p:List Int) {i:Int} (a:0<=i) (b:i<((OI p).length:Int)):(i<(p.length:Int)/\(OI p).getD i.toNat (0,[])=(0,[(p.getD i.toNat 0,i+1)]))\/(i=(p.length:Int)/\(OI p).getD i.toNat (0,[])=(0,[])):=by
 rw[aB]at b;by_cases h:i<(p.length:Int)
 ·exact .inl ⟨h,X0 p a h⟩
 ·have e:i=(p.length:Int):=by omega
  subst e;right;rw[Rb];exact⟨rfl,pA p⟩
def FtP (h:AG) (p:List Int):Prop:=∀e∈p,0<=e/\e<(h.2.length:Int)
theorem A9U {l:List (Int×Int)} (h:NX l) {e:Int} (c:0<=DH l e):YN l e=DH l e:=by
 obtain⟨a,ha,b,d⟩:=Q2 c;rw[<-b,xV h ha,Ia h ha]
theorem X3 {f:List AD} (hf:AU f) (h0:0<f.length) (p:List Int):∀n,B3 f 0 p=some n->0<=n/\n<(f.length:Int):=by
 induction p using EM with
 | h0 =>
  intro n h;simp only[B3,ADx]at h;omega
 | h1 p e g =>
  intro n h;obtain⟨x,d,a,ha,c,b⟩:=Zq h;rw[<-b];exact A6 hf ha
theorem A4o {f:List AD} {p:List Int} {n:Int} (h:B3 f 0 p=some n) (k:Nat):∃m,B3 f 0 (p.take k)=some m:=by
 cases hh:B3 f 0 (p.take k) with
 | none =>
  have:=Sm (p.take k) 0 (p.drop k) hh;rw[AE6,h]at this;cases this
 | some m=>exact⟨m,rfl⟩
theorem kK {h:AG} (w:Xq h) {X:List AD} (t:AU X) (C:0<X.length) (B:De h X) (A:∀x∈X,NX x.2) {p:List Int} {n:Int} (l:B3 X 0 p=some n):∃m,Ln h (OI p) X m/\m (p.length:Int)=n:=by
 have g:∀k,B3 X 0 (p.take k)=some ((B3 X 0 (p.take k)).getD 0):=λk=>by
  obtain⟨m,v⟩:=A4o l k;rw[v];rfl
 have j:=λk=>X3 t C (p.take k) _ (g k);refine⟨λi=>(B3 X 0 (p.take i.toNat)).getD 0,⟨rfl,λi d f=>j i.toNat,λi d f=>?_,λi d f a ha=>?_⟩,?_⟩
 ·have e:((OI p).getD i.toNat (0,[])).1=0:=by
   rcases X2 p d f with ⟨-,c⟩|⟨-,c⟩<;>rw[c]
  rw[e];have D:=j i.toNat;have:=B _ (AE X (0,[]) (k:=((B3 X 0 (p.take i.toNat)).getD 0).toNat) (by omega));exact w _ this.1 this.2
 ·rcases X2 p d f with ⟨h1,c⟩|⟨-,c⟩
  ·rw[AQ,c]at ha;have e:a=(p.getD i.toNat 0,i+1):=by simpa using ha
   subst e;have hs:=A0 p 0 (k:=i.toNat) (by omega);have o:=g (i.toNat+1);rw[hs]at o;obtain⟨x,q,b,u,r,s⟩:=Zq o;have y:=g i.toNat;rw[q]at y;have z:x=(B3 X 0 (p.take i.toNat)).getD 0:=by rw[q];rfl
   show DH (AQ X ((B3 X 0 (p.take i.toNat)).getD 0)) (p.getD i.toNat 0)=(B3 X 0 (p.take (i+1).toNat)).getD 0;rw[<-z,show (i+1).toNat=i.toNat+1 by omega,hs,<-s,<-r];exact Ia (Ic A x) u
  ·rw[AQ,c]at ha;cases ha
 ·show (B3 X 0 (p.take ((p.length:Nat):Int).toNat)).getD 0=n;rw[Rb,Re,l];rfl
theorem A9V {f:List AD} (hf:AU f) (hs:LH f) (h0:0<f.length) (a:D7 f=true):RO f:=by
 have h1:=A7E hf hs h0 (λ_ _=>true)
 rwa [oM a λ_ _ _ _=>rfl]at h1
theorem A4p {h:AG} (j:h.1.length<=256) (k:h.2.length<=64) {f:List AD} (l:cZ h f=true):VF h f/\f.length<=12:=by
 obtain⟨a,b,c,e,d,g,i⟩:=kI j k l;exact⟨⟨a,c,e,λx m=>(KH _).1 (b x m).1,i,OG d,A9V a b c d⟩,g⟩
theorem VF.srt {h:AG} (hu:HU h) {f:List AD} (a:VF h f):LH f:=λx b=>by
 have:=dV (a.str x b) (a.ft64 hu x b);exact⟨(KH _).2 (a.str x b),by omega⟩
theorem VF.small {h:AG} {f:List AD} (a:VF h f):DF f:=o9 a.good
theorem d8 {h:AG} (a b:List AD):(∃c,Xi h a b c/\EV h a b=(c,true))\/(EV h a b=([],false)/\∀c,¬Xi h a b c):=by
 unfold EV;by_cases H:∃c,Xi h a b c
 ·left;rw[dif_pos H];exact⟨_,H.choose_spec,rfl⟩
 ·right;rw[dif_neg H];exact⟨rfl,λc d=>H ⟨c,d⟩⟩
theorem Id (f:List AD) (ty:List Int) (n:Nat):((E9 f ty).getD n (0,[])).2=(f.getD n (0,[])).2:=by
 by_cases h:n<f.length
 ·rw[Hk f ty h]
 ·rw[AS,Rj (by rw[Dq];omega),AS,Rj (by omega)]
theorem kL {f g:List AD} (h:∀n:Nat,(f.getD n (0,[])).2=(g.getD n (0,[])).2):∀(k:Nat) (o:List Int) (n:Int),Cz f k o n=Cz g k o n
 | 0,_,_=>rfl
 | k+1,o,n=>by
  have e:Ab f k=Ab g k:=by
   funext o a;unfold Ab;rw[kL h k o a.2]
  rw[CJ,CJ,h,e]
theorem pB {f:List AD} (hf:AU f) (h0:0<f.length) (a:AN f 0=f):j9 f:=by
 have:=(dQ hf (r:=0) (by omega) (by omega)).2
 rwa [a]at this
theorem A4q {h:AG} {f:List AD} (b:VF h f) {ty:List Int} (k:VK h f.length ty):VF h (E9 f ty):=by
 have c:=Dq f ty;have g:AU (E9 f ty):=by
  refine⟨by rw[c];exact b.good.1,λx a=>?_⟩;obtain⟨i,hi,rfl⟩:=Sz a;rw[c];exact b.good.2 (f.getD i (0,[])) (KM hi (0,[]))
 have hp:∀x∈E9 f ty,∃y∈f,x.2=y.2:=λx a=>by
  obtain⟨i,hi,rfl⟩:=Sz a;exact⟨_,KM hi (0,[]),rfl⟩
 refine⟨g,by rw[c];exact b.pos,λx a=>?_,λx a=>?_,λx a=>?_,Xf g ?_,λi l m=>?_⟩
 ·obtain⟨i,hi,rfl⟩:=Sz a;exact k.get hi
 ·obtain⟨y,d,e⟩:=hp x a;rw[e];exact b.str y d
 ·obtain⟨y,d,e⟩:=hp x a;rw[e];exact b.ft y d
 ·have:=pB b.good b.pos b.can;unfold j9 at this ⊢;rw[c,kL (Id f ty)];exact this
 ·obtain⟨j,n,o,x,a,e⟩:=b.ro i l (by rw[<-c];exact m);exact⟨j,n,o,x,by show x∈((E9 f ty).getD j.toNat (0,[])).2;rw[Id];exact a,e⟩
theorem EB (f:List AD) (i:Nat):(Bd f).getD i 0=(f.getD i (0,[])).1:=by
 unfold Bd;rw[AS,aT,AS];cases f[i]?<;>rfl
theorem pC {f:List AD} {ty:List Int} (a:ty.length=f.length):Bd (E9 f ty)=ty:=by
 refine TF (by simp[Bd,Dq,a]) λi b c=>?_;have:=EB (E9 f ty) i;rw[Hk f ty (by omega)]at this;simpa[AS,b,c] using this
theorem UK {h:AG} {f:List AD} {t:Int}:∀ {l:List (Int×Int)},FH h f t l=0↔∀a∈l,(B7 h t a.1).2=true/\A7 h (B7 h t a.1).1 (f.getD a.2.toNat (0,[])).1=true
 | []=>⟨λ_ a ha=>(by cases ha),λ_=>rfl⟩
 | a :: l=>by
  unfold FH;rw[List.forall_mem_cons,<-UK (l:=l)];cases h1:(B7 h t a.1).2
  ·simp
  ·cases b:A7 h (B7 h t a.1).1 (f.getD a.2.toNat (0,[])).1<;>simp
theorem OJ {h:AG} {f:List AD}:∀ {l:List AD},Dp h f l=0↔∀x∈l,∀a∈x.2,(B7 h x.1 a.1).2=true/\A7 h (B7 h x.1 a.1).1 (f.getD a.2.toNat (0,[])).1=true
 | []=>⟨λ_ a ha=>(by cases ha),λ_=>rfl⟩
 | x :: l=>by
  unfold Dp;rw[List.forall_mem_cons,<-OJ (l:=l),<-UK];by_cases h1:FH h f x.1 x.2=0
  ·simp[h1]
  ·simp[h1]
theorem A7Y {h:AG} {f:List AD}:Dp h f f=0↔WTy h f (Bd f):=by
 rw[OJ];constructor
 ·intro h1 i hi a ha;have:=h1 _ (KM hi (0,[])) a ha
  rwa [EB,EB,Rb]
 ·intro h1 x b a ha;obtain⟨i,hi,rfl⟩:=CG (0,[]) b;have:=h1 i hi a ha
  rwa [EB,EB,Rb]at this
section
variable {h:AG} (hh:d7 h)
include hh
theorem d7.hu:HU h:=⟨hh.ok,hh.inj,hh.b2⟩
omit hh in
theorem d9 {f:List AD} (b:VF h f):PI h f:=λx c a ha=>⟨b.ft x c a ha,(b.good.2 x c).2 a ha⟩
theorem kM {f:List AD} (a:VF h f) {ty:List Int} (e:IZ h f=some ty):VF h (E9 f ty)/\WTy h f ty/\VK h f.length ty/\Ln h f (E9 f ty) id:=by
 obtain⟨h1,g,d⟩:=o6 hh.ok hh.inj hh.ft hh.ap (d9 a) a.ty e;refine⟨A4q a d,h1,d,rfl,λi b c=>⟨b,by rw[Dq];exact c⟩,λi b c=>?_,λi b c x j=>?_⟩
 ·have:=g i.toNat (by omega);rw[EB]at this;show A7 h _ ((E9 f ty).getD i.toNat (0,[])).1=true
  rwa [Hk f ty (by omega)]
 ·show DH ((E9 f ty).getD i.toNat (0,[])).2 x.1=x.2;rw[Id];exact A9C (a.srt hh.hu) j
theorem yK {f g:List AD} (n:VF h f) (p:VF h g) (E:WTy h g (Bd g)) {m:Int->Int} (c:Ln h f g m):∃ty,IZ h f=some ty/\Ln h (E9 f ty) g m:=by
 have H:=p.pos
 let u:List Int:=(List.range f.length).map λi:Nat=>(g.getD (m (i:Int)).toNat (0,[])).1
 have k:∀i:Nat,i<f.length->u.getD i 0=(g.getD (m (i:Int)).toNat (0,[])).1:=λi hi=>by
  simp[u,AS,hi]
 have q:∀i:Nat,i<f.length->(m (i:Int)).toNat<g.length/\0<=m (i:Int):=λi hi=>by
  have:=c.rng (i:Int) (by omega) (by omega);omega
 have D:VK h f.length u:=⟨by simp[u],λt C=>by
  obtain⟨i,hi,rfl⟩:=GO.1 C;exact p.ty _ (KM (q i (Ri.1 hi)).1 (0,[]))⟩
 have F:WTy h f u:=λi hi a ha=>by
  have z:a∈AQ f (i:Int):=by show a∈(f.getD (i:Int).toNat (0,[])).2;rwa [Rb]
  have h1:=c.arc (i:Int) (by omega) (by omega) a z;obtain⟨s,G⟩:=(n.good.2 _ (KM hi (0,[]))).2 a ha;have y:=c.rng a.2 s G;obtain⟨b,A,v,w⟩:=Q2 (l:=AQ g (m (i:Int))) (e:=a.1) (by rw[h1];exact y.1);have o:=E _ (q i hi).1 b (by exact A);rw[EB,EB,v,w,h1,Rb]at o;rw[Rb,k i hi,k a.2.toNat (by omega),AA7 s];exact o
 obtain⟨ty,e,B⟩:=kH hh.ok hh.inj hh.ft hh.ap (d9 n) n.ty D F λi hi=>by
  rw[EB,k i hi];have:=c.ty (i:Int) (by omega) (by omega)
  rwa [Rb]at this
 refine⟨ty,e,c.zero,λi j d=>c.rng i j (by rw[Dq]at d;exact d),λi j d=>?_,λi j d x r=>?_⟩
 ·rw[Dq]at d;have:=B i.toNat (by omega);rw[k _ (by omega),AA7 j]at this
  rwa [Hk f ty (by omega)]
 ·rw[Dq]at d;exact c.arc i j d x (by rw[AQ,Id]at r;exact r)
omit hh in
theorem A16 {f:List AD} (e:Ag h f=0):WTy h f (Bd f):=by
 unfold Ag at e
 split at e
 ·exact A7Y.1 e
 ·rename_i hn;exact absurd e hn
end
theorem UL {h:AG} {f:List AD} {ty:List Int} (e:IZ h f=some ty):Ge h f=(E9 f ty,true):=by unfold Ge;rw[e]
theorem UM {h:AG} {f:List AD} (e:IZ h f=none):Ge h f=([],false):=by unfold Ge;rw[e]
theorem VK.set {h:AG} {m:Nat} {u:List Int} (hu:VK h m u) {t:Int} (b:0<=t) (c:t<(h.1.length:Int)) (i:Nat):VK h m (u.set i t):=⟨by rw[TH];exact hu.1,λx a=>by
 rcases AE4 a with a|rfl
 ·exact hu.2 x a
 ·exact⟨b,c⟩⟩
theorem Rw.set {h:AG} (hk:GH h) {m:Nat} {u:List Int} (hu:VK h m u) {t:Int} {i:Nat} (hi:i<m) (hs:A7 h (u.getD i 0) t=true):Rw h m u (u.set i t):=λk a=>by
 rw[NU _ _ _ (by rw[hu.1];exact hi) k];split
 ·rename_i e;rw[e];exact hs
 ·exact VC hk (hu.get a).1 (hu.get a).2
section
variable {h:AG} (hk:GH h) (hn:A9M h) (hi:Lm h) (hf:eO h) (hap:HAp h) {m:Nat}
include hk hn hi hf hap
end
section
variable {h:AG} (hk:GH h) (hn:A9M h) (hi:Lm h) (hf:eO h) (hap:HAp h) {f:List AD} (ha:PI h f)
include hk hn hi hf hap ha
end
section
attribute [local go_sem] OB
end
section
open Go
end
section
noncomputable def S0:Aa:={ ins:=[ER,DR,DR],pre:=λ(h,a,b,_)=>HU h/\VF h a/\VF h b/\List.length a+List.length b<=10000,out:=λ(h,a,b,_)=>[.p DR (EV h a b).1,.p .bool (EV h a b).2] }
attribute [local go_sem] S0
theorem A4r:Ad Tryz.prog 35 S0:=by
 refine fK [0,1,2,3,4,5,6,7,8,25] Tryz.func35 Tryz.ntmps35 AH ?_;rintro w0 O0 ⟨h,a,b,u⟩ c-⟨hu,va,e,G⟩;simp only[S0,AM];repeat'(first|exact trivial|refine eS rfl ?_|refine rX c ?_ ?_)
 refine cP 3 c ?_ ?_
 ·trivial
 ·refine rM c (A3Y h [] [] [] a va.good (by simp) rfl rfl) [(1,.nm 11),(2,.nil),(3,.nil),(4,.nil)] [] ?_ ?_ ?_
  ·exact eN
  ·simp only[Zs];exact eN
  ·rintro _ _ ⟨rfl,rfl⟩;refine⟨[(11,.nm 1),(102,.nm 2),(103,.nm 3),(104,.nm 4)],.raw (.tuple #[]),[(11,.box 111 true [.p ER h,.sr 102 T3 0 (Co 0 a.length).length,.sr 103 T3 0 (DI a a.length).length,.sr 104 DN 0 (Fu 0 a a.length).length]),(102,.arr 3 T3 (Co 0 a.length)),(103,.arr 3 T3 (DI a a.length)),(104,.arr 91 DN (Fu 0 a a.length))],rfl,rfl,?_,?_,rfl,rfl,CP ?_⟩
   ·simp only[Zs];exact eN
   ·exact eN
   ·have la:(Co 0 a.length).length=a.length:=KJ 0 a.length;have lt:(DI a a.length).length=a.length:=by unfold DI;rw[RU,Re]
    have J:(Fu 0 a a.length).length=a.length:=by unfold Fu;rw[RU,Re]
    repeat' refine eS rfl ?_
    refine cP 3 c ?_ ?_
    ·trivial
    ·refine rM c (A3Y h (Co 0 a.length) (DI a a.length) (Fu 0 a a.length) b e.good (by omega) (by omega) (by omega)) [(1,.nm 11),(2,.nm 102),(3,.nm 103),(4,.nm 104)] [102,103,104] ?_ ?_ ?_
     ·exact eN
     ·simp only[Zs];exact eN
     ·rintro _ _ ⟨rfl,rfl⟩;rw[la,A0W,oW,A0Y];rw[show a.length+b.length=(Cb a b).length from (E7 a b).symm];have F:=E7 a b;have w:=PO va.good e.good (by omega);have z:=dU w (Xk va.ty e.ty) (Nb va.str e.str);have o:=Xl (va.ft64 hu) (e.ft64 hu);have I:=oX (N:=Cb a b) λx l=>dV (Nb va.str e.str x l) (o x l);have hap:=va.pos;have H:=e.pos;have C:=λp ty ar y j=>dS va e (p:=p) (ty:=ty) (ar:=ar) y j;have A:=Zz va e;generalize Co 0 (Cb a b).length=p0 at *;generalize Mn (Cb a b)=s at *;generalize UI (Cb a b)=q at *;refine⟨[(11,.nm 1),(102,.nm 2),(103,.nm 3),(104,.nm 4)],.raw (.tuple #[]),[(11,.box 111 true [.p ER h,.sr 102 T3 0 p0.length,.sr 103 T3 0 s.length,.sr 104 DN 0 q.length]),(102,.arr 3 T3 p0),(103,.arr 3 T3 s),(104,.arr 91 DN q)],rfl,rfl,?_,?_,rfl,rfl,CP ?_⟩
      ·simp only[Zs];exact eN
      ·exact eN
      ·repeat' refine eS rfl ?_
       refine cP 4 c ?_ ?_
       ·trivial
       ·refine rM c (A7J h hu.ok z (a:=0) (b:=(a.length:Int)) (by omega) (by omega) (by omega) (by omega)) [(101,.nm 11),(102,.nm 102),(103,.nm 103),(104,.nm 104)] [102,103,104] ?_ ?_ ?_
        ·exact eN
        ·simp only[xZ];exact eN
        ·rintro res E (⟨rfl,f,i,g,rfl,d⟩|⟨rfl,⟨f,i,g,rfl⟩,B⟩)
         ·have j:=Xm d (by omega) o;have n:=UG hu (C f i g d j);refine⟨[(11,.nm 101),(102,.nm 102),(103,.nm 103),(104,.nm 104)],.p .bool true,[(11,.box 111 true [.p ER h,.sr 102 T3 0 f.length,.sr 103 T3 0 i.length,.sr 104 DN 0 g.length]),(102,.arr 3 T3 f),(103,.arr 3 T3 i),(104,.arr 91 DN g)],rfl,rfl,?_,?_,rfl,rfl,?_⟩
          ·simp only[xZ];exact eN
          ·exact eN
          ·refine rL c ?_ ?_
           ·trivial
           ·repeat'(first|refine eS rfl ?_|refine rC ?_ ?_<;>intro m<;>try(cases m;done))
            refine cP 1 c ?_ ?_
            ·trivial
            ·refine rM c (A46 h d.fo j (by rw[d.lt,d.lp]) (by rw[d.la,d.lp]) (λk x l=>by rw[d.lp];exact(d.arr k x l).1) (r:=0) (by omega) (by rw[d.lp];omega)) [(101,.nm 11),(102,.nm 102),(103,.nm 103),(104,.nm 104)] [11,102,103,104] ?_ ?_ ?_
             ·exact eN
             ·simp only[xZ];exact eN
             ·rintro _ E rfl;refine⟨[],.p DR (AN (quo f i g) (Ed f 0)),[],rfl,rfl,?_,?_,rfl,rfl,?_⟩
              ·exact eN
              ·exact eN
              ·refine rL c ?_ ?_
               ·trivial
               ·repeat' refine eS rfl ?_
                exact fI c [.cell 6 25,.tmp 7] (by rw[n];exact eR)
         ·have n:=A (λX v t D=>B X v t D);refine⟨[(11,.nm 101),(102,.nm 102),(103,.nm 103),(104,.nm 104)],.p .bool false,[(11,.box 111 true [.p ER h,.sr 102 T3 0 f.length,.sr 103 T3 0 i.length,.sr 104 DN 0 g.length]),(102,.arr 3 T3 f),(103,.arr 3 T3 i),(104,.arr 91 DN g)],rfl,rfl,?_,?_,rfl,rfl,?_⟩
          ·simp only[xZ];exact eN
          ·exact eN
          ·refine rL c ?_ ?_
           ·trivial
           ·repeat'(first|exact trivial|refine eS rfl ?_|refine rX c ?_ ?_|refine rC ?_ ?_<;>intro m<;>try(cases m;done))
            exact fI c [.cell 6 25,.tmp 7] (by rw[n];exact eR)
end
section
open Go
end
section
open Go
end
section
variable {h:AG} {N:List AD} {P:List (Int×Int)} {c p:List Int} {g:List AD}
end
section
variable {h:AG} {a b:List AD}
end
section
open Go
end
section
attribute [local go_sem] A4d
end
section
attribute [local go_sem] S0 Sl
theorem A9W {h:AG} (hh:d7 h) {f:List AD} (a:VF h f):A9B h f:=⟨hh.ok,hh.inj,hh.ft,Rc hh.b2 (by decide),a.good,d9 a,a.ty⟩
noncomputable def HO (h:AG) (a b:List AD):List AD×Bool:=if (EV h a b).2=true then Ge h (EV h a b).1 else ([],false)
end
theorem A4s {h:AG} (hk:GH h) {N:List AD} {P:List (Int×Int)}:∀(k:Nat) (p ty:List Int) (ar:List (List (Int×Int))) (W:List (Int×Int)),JI h N P p ty ar W->nR p*((Cw N).length+1)+W.length<=k ->
  (∃E G o,JI h N P E G o [])\/(∀X v,De h X->¬Zt h N P X v):=by
 intro k;induction k with
 | zero =>
  intro p ty ar W c g;have:W=[]:=Rk (by omega);subst this;exact .inl ⟨p,ty,ar,c⟩
 | succ k l =>
  intro p ty ar W c g;cases j:W.getLast? with
  | none =>
   have:W=[]:=List.getLast?_eq_none_iff.1 j;subst this;exact .inl ⟨p,ty,ar,c⟩
  | some w =>
   have r:W=W.dropLast++[w]:=by
    obtain⟨K,e⟩:=List.getLast?_eq_some_iff.1 j;rw[e];simp
   obtain⟨s,t⟩:=w;rw[r]at c g;rw[IF,RW]at g;generalize W.dropLast=V at *;obtain⟨⟨m,s1⟩,n,F⟩:=c.wr (s,t) (by simp);simp only at m s1 n F;obtain⟨M,fo⟩:=c.fo;have lp:=c.lp;obtain⟨a,ha,H,I⟩:=fo.root m (by omega);obtain⟨b,d,q,b1⟩:=fo.root n (by omega);by_cases f:a=b
   ·subst f;exact l p ty ar V (dK c ha d) (by omega)
   ·cases i:(Bm h (ty.getD a.toNat 0) (ty.getD b.toNat 0)).2 with
    | false =>
     right;intro X v u C;have:=(VG hk c ha d u C).2.1;rw[i]at this;cases this
    | true =>
     have z:=XV hk c ha d f i;refine l _ _ _ _ z ?_;have B:=xY (a:=a) q b1 d.root f;have A:=dL (c.srt a.toNat) (λx D=>(c.arr a.toNat x D).2);have L:=Rc (Q6 (x:=ar.getD a.toNat []) (y:=ar.getD b.toNat [])) A;have J:nR p*((Cw N).length+1)=nR (p.set b.toNat a)*((Cw N).length+1)+((Cw N).length+1):=by rw[<-B,AEU,Nat.one_mul]
     rw[IF];omega
theorem aC {h:AG} (hk:GH h) {N:List AD}:∀(R P:List (Int×Int)) (p ty:List Int) (ar:List (List (Int×Int))),(∀q∈R,(0<=q.1/\q.1<(N.length:Int))/\(0<=q.2/\q.2<(N.length:Int)))->JI h N P p ty ar [] ->
  (∃l r g,JI h N (P++R) l r g [])\/(∀X v,De h X->¬Zt h N (P++R) X v)
 | [],P,p,ty,ar,f,e=>.inl ⟨p,ty,ar,by rw[Rq];exact e⟩
 | q :: R,P,p,ty,ar,f,e=>by
  obtain⟨a,b⟩:=q;have c:=f (a,b) (by simp);have i:P++(a,b) :: R=P++[(a,b)]++R:=by simp
  rw[i];rcases A4s hk _ _ _ _ _ (XW e c.1 c.2) (NO _) with ⟨m,o,n,h1⟩|k
  ·exact aC hk R (P++[(a,b)]) m o n (λq c=>f q (by simp[c])) h1
  ·exact .inr λX v j d=>k X v j ⟨d.rng,d.ty,d.arc,λq c=>d.eq q (TB _ c)⟩
theorem A7Z {h:AG} (hu:HU h) {a b X:List AD} (va:VF h a) (c:VF h b) (l:a.length+b.length<=100000) (j:De h X) {n o:Int->Int} (h1:Ln h a X n) (f:Ln h b X o):∃i,Xi h a b i:=by
 have r:=E7 a b;have hap:=va.pos;have s:=c.pos;have k:=PO va.good c.good l;rcases aC hu.ok (N:=Cb a b) [(0,(a.length:Int))] [] _ _ _ (λq d=>by
  have e:q=(0,(a.length:Int)):=by simpa using d
  subst e;simp only;omega) (dU k (Xk va.ty c.ty) (Nb va.str c.str)) with ⟨p,ty,ar,g⟩|m
 ·exact⟨_,dS va c g (Xm g (by omega) (Xl (va.ft64 hu) (c.ft64 hu)))⟩
 ·exfalso;refine m X _ j (oV (Xd va.good c.good (NZ h1) (NZ f)) λq d=>?_);have e:q=(0,(a.length:Int)):=by simpa using d
  subst e;try simp only
  rw[BY (by omega),An (by omega),AFA,h1.zero,f.zero]
section
attribute [local go_sem] S0 KE cs1 cs3
end
section
attribute [local go_sem] Wu
end
instance baDec:DecidableEq ByteArray:=λa b =>
 if h:a.data.toList=b.data.toList then isTrue (by
  cases a
  cases b
  exact ADB ByteArray.mk (Array.toList_inj.1 h))
 else isFalse λe=>h (by rw[e])
section
attribute [local go_sem] Sl Qz Wu IR
end
section
attribute [local go_sem] IR
end
abbrev Wt (h:AG) (f:List AD):Prop:=VF h f/\WTy h f (Bd f)
def yL (h:AG) (l:List (List AD)) (X:List AD):Prop:=∀x∈l,∃m,Ln h x X m
structure TU (h:AG) (l:List (List AD)) (U:List AD):Prop where
 wt:Wt h U
 hom:yL h l U
 least:∀X,Wt h X->yL h l X->∃m,Ln h U X m
def Ji (h:AG) (l:List (List AD)) (r:List AD×Bool):Prop:=(r.2=true/\TU h l r.1)\/(r=([],false)/\∀X,Wt h X->¬yL h l X)
theorem Ji.congr {h:AG} {l l':List (List AD)} {r:List AD×Bool} (H:Ji h l r) (d:∀X,Wt h X->(yL h l X↔yL h l' X)):Ji h l' r:=by
 rcases H with ⟨h1,a⟩|⟨h1,a⟩
 ·exact .inl ⟨h1,a.wt,(d _ a.wt).1 a.hom,λX b c=>a.least X b ((d X b).2 c)⟩
 ·exact .inr ⟨h1,λX b c=>a X b ((d X b).2 c)⟩
theorem Ji.uniq {h:AG} (hu:HU h) {l:List (List AD)} {r d:List AD×Bool} (H:Ji h l r) (e:Ji h l d):r=d:=by
 rcases H with ⟨h1,b⟩|⟨h1,b⟩<;>rcases e with ⟨c,a⟩|⟨c,a⟩
 ·obtain⟨i,f⟩:=b.least _ a.wt a.hom;obtain⟨j,g⟩:=a.least _ b.wt b.hom;exact AFC (A8I hu b.wt.1 a.wt.1 f g) (h1.trans c.symm)
 ·exact(a _ b.wt b.hom).elim
 ·exact(b _ a.wt a.hom).elim
 ·rw[h1,c]
theorem A4t {h:AG} (hk:GH h) {l:List (List AD)} (c:∀x∈l,VF h x) {a X:List AD} (d:VF h a) (e:VF h X) (f:yL h l a) {m:Int->Int} (g:Ln h a X m):yL h l X:=λx b=>by
 obtain⟨k,q⟩:=f x b;exact⟨_,Ml hk (c x b).good (c x b).ty d.ty e.ty q g⟩
theorem Hd {h:AG} {x X:List AD}:yL h [x] X↔∃m,Ln h x X m:=by simp[yL]
theorem X4 {h:AG} {x X:List AD} {l:List (List AD)}:yL h (x :: l) X↔(∃m,Ln h x X m)/\yL h l X:=by simp[yL]
section
variable {h:AG} (hh:d7 h)
include hh
theorem A9X {f:List AD} (c:VF h f) {ty:List Int} (e:IZ h f=some ty):Wt h (E9 f ty):=by
 obtain⟨h1,a,b,-⟩:=kM hh c e;refine⟨h1,?_⟩;rw[pC b.1];intro i hi;rw[Id];exact a i (by rw[<-Dq f ty];exact hi)
theorem A80 {f:List AD} (c:VF h f):Ji h [f] (Ge h f):=by
 cases e:IZ h f with
 | some ty =>
  rw[UL e];refine .inl ⟨rfl,A9X hh c e,Hd.2 ⟨_,(kM hh c e).2.2.2⟩,λX b d=>?_⟩;obtain⟨m,g⟩:=Hd.1 d;obtain⟨i,a,q⟩:=yK hh c b.1 b.2 g;rw[e]at a;cases a;exact⟨m,q⟩
 | none =>
  rw[UM e];refine .inr ⟨rfl,λX b d=>?_⟩;obtain⟨m,g⟩:=Hd.1 d;obtain⟨i,a,q⟩:=yK hh c b.1 b.2 g;rw[e]at a;cases a
theorem yM {a b:List AD} (va:VF h a) (k:VF h b) (q:a.length+b.length<=10000):Ji h [a,b] (HO h a b):=by
 unfold HO;rcases d8 (h:=h) a b with ⟨l,c,e⟩|⟨e,p⟩
 ·rw[e,BY rfl];refine(A80 hh c.vf).congr λX g=>?_;rw[Hd,X4,Hd];constructor
  ·rintro⟨m,o⟩;obtain⟨i,d⟩:=c.left;obtain⟨j,f⟩:=c.right;exact⟨⟨_,Ml hh.ok va.good va.ty c.vf.ty g.1.ty d o⟩,_,Ml hh.ok k.good k.ty c.vf.ty g.1.ty f o⟩
  ·rintro⟨⟨i,d⟩,j,f⟩;exact c.least X g.1.ty i d j f
 ·rw[e,An Bool.false_ne_true];refine .inr ⟨rfl,λX g n=>?_⟩;rw[X4,Hd]at n;obtain⟨⟨i,d⟩,j,f⟩:=n;obtain⟨l,c⟩:=A7Z hh.hu va k (by omega) g.1.ty d f;exact p l c
omit hh in
theorem A4u {l l':List (List AD)} (hp:∀x,x∈l↔x∈l') (X:List AD):yL h l X↔yL h l' X:=⟨λa x b=>a x ((hp x).2 b),λa x b=>a x ((hp x).1 b)⟩
omit hh in
theorem Ji.perm {l l':List (List AD)} {r:List AD×Bool} (H:Ji h l r) (hp:∀x,x∈l↔x∈l'):Ji h l' r:=H.congr λX _=>A4u hp X
omit hh in
theorem eB {a b:List AD}:(HO h a b).1.length<=a.length+b.length:=by
 unfold HO
 split
 ·rename_i e
  have:=(UH e).len
  cases c:IZ h (EV h a b).1 with
  | none=>rw[UM c];simp
  | some ty=>rw[UL c,Dq];exact this
 ·simp
omit hh in
theorem Ji.vf {l:List (List AD)} {r:List AD×Bool} (H:Ji h l r) (e:r.2=true):TU h l r.1:=by
 rcases H with ⟨-,b⟩|⟨a,-⟩
 ·exact b
 ·rw[a]at e;cases e
end
theorem Fe (p:List Int) (g:List AD):(Aq p g).length=p.length+g.length:=by simp[Aq,GG]
theorem Mq {p:List Int} {g:List AD} {i:Int} (a:0<=i) (b:i<(p.length:Int)):(Aq p g).getD i.toNat (0,[])=(0,[(p.getD i.toNat 0,i+1)]):=by grind [Aq,Ew,GG]
theorem LK {p:List Int} {g:List AD} {y:Int} (a:0<=y) (b:y<(g.length:Int)):(Aq p g).getD ((p.length:Int)+y).toNat (0,[])=((g.getD y.toNat (0,[])).1,A4 p.length (g.getD y.toNat (0,[])).2):=by
 unfold Aq;have e:((p.length:Int)+y).toNat=p.length+y.toNat:=by omega
 rw[e,AS,Rr (by rw[Ew];omega),Ew,AEO];rw[<-AS];exact Sq (λx:AD=>(x.1,A4 p.length x.2)) (0,[]) (0,[]) (by omega)
theorem LL {p:List Int} {g:List AD} {x:AD} (a:x∈Aq p g):(∃i,i<p.length/\x=(0,[(p.getD i 0,(i:Int)+1)]))\/∃y∈g,x=(y.1,A4 p.length y.2):=by
 rcases No.1 a with h|h
 ·obtain⟨i,hi,rfl⟩:=GO.1 h;exact .inl ⟨i,by simpa using hi,rfl⟩
 ·obtain⟨y,b,rfl⟩:=GO.1 h;exact .inr ⟨y,b,rfl⟩
theorem PP {b:Nat} {l:List (Int×Int)} (h:NX l):NX (A4 b l):=by
 unfold A4 NX;rw[ADz];exact h
theorem UN {p:List Int} {g:List AD} (hp:p.length<=1000) (c:AU g) (j:0<g.length) (k:g.length<=10000):AU (Aq p g):=by
 have d:=Fe p g;refine⟨by omega,λx h=>?_⟩;rcases LL h with ⟨i,hi,rfl⟩|⟨y,e,rfl⟩
 ·refine⟨by simp,λa ha=>?_⟩;have:a=(p.getD i 0,(i:Int)+1):=by simpa using ha
  subst this;rw[d];simp only;omega
 ·refine⟨by unfold A4;rw[RU];exact(c.2 y e).1,λa ha=>?_⟩;obtain⟨b,f,rfl⟩:=GO.1 ha;have:=(c.2 y e).2 b f;rw[d];simp only;omega
theorem A17 {h:AG} {f:List AD} (vf:VF h f):Cz f f.length [] 0=(List.range f.length).map λ(i:Nat)=>(i:Int):=by
 have q:=vf.pos;have d:=Hc vf.good (r:=0) (by omega) (by omega);have l:=Ib f 0;have c:=λi=>KK (f:=f) (r:=0) (i:=i);rw[vf.can]at l;simp only[vf.can]at c;generalize p:Cz f f.length [] 0=o at *;have m:Ln h f f (λi=>o.getD i.toNat 0):=by
  refine⟨d.zero.1,λi g j=>d.ok.rng _ (AE o 0 (by omega)),λi g j=>?_,λi g j a ha=>?_⟩
  ·rw[c i.toNat (by omega)];exact NV h _
  ·rw[AQ,c i.toNat (by omega)]at ha;obtain⟨b,e,rfl⟩:=GO.1 ha;have k:=d.cl _ (AE o 0 (by omega)) b e;show DH (AQ f (o.getD i.toNat 0)) b.1=o.getD (B2 o b.2).toNat 0;rw[(Et k).2.2];exact Ia (Ic vf.str _) e
 have hu:=Xg vf.ro m (Xh vf.str);apply TF
 ·rw[RU,AEF];omega
 ·intro i h1 n;rw[AEl,AEo];have:=hu i (i:Int) (by omega) (by omega) (by omega);simp only[Rb,id]at this;rw[<-this,AS,At h1];rfl
theorem A18 {f:List AD} (hf:AU f) (h:Cz f f.length [] 0=(List.range f.length).map λ(i:Nat)=>(i:Int)):AN f 0=f:=by
 unfold AN;generalize q:Cz f f.length [] 0=l at *;have r:l.length=f.length:=by rw[h];simp
 have b:∀k,(hk:k<l.length)->l[k]=(k:Int):=λk hk=>by subst h;simp
 clear h;have o:l.Nodup:=by
  unfold List.Nodup;rw[Rh];intro i j hi n p e;rw[b i hi,b j n]at e;omega
 have m:∀x,0<=x->x<(l.length:Int)->B2 l x=x:=λx s t=>by
  have:=HD o (i:=x.toNat) (by omega);have e:l.getD x.toNat 0=x:=by
   rw[AS,At (by omega)];show l[x.toNat]=x;rw[b _ (by omega)];omega
  rw[e]at this;rw[this];omega
 apply TF
 ·rw[RU];omega
 ·intro i h1 c;rw[AEl,b i (by simpa using h1)];have d:f.getD (i:Int).toNat (0,[])=f[i]:=by simp[AS,c]
  unfold Dd;rw[d];have:∀a∈f[i].2,LG l a=a:=λa ha=>by
   have g:=(hf.2 _ (oF c)).2 a ha;unfold LG;rw[m a.2 g.1 (by omega)]
  rw[Rf this,List.map_id']
theorem yN {Q R:List AD} {c:Int->Int} {d:Int->Prop} (h:Iso Q R c d) {pre:List Int} (hp:∀i,d i->c i∉pre):∀(k:Nat) (t:List Int) (i:Int),(∀x∈t,d x)->d i->Cz R k (pre++t.map c) (c i)=pre++(Cz Q k t i).map c/\∀x∈Cz Q k t i,d x
 | 0,t,i,f,hi=>⟨rfl,f⟩
 | k+1,t,i,f,hi=>by
  have key:∀(l:List (Int×Int)) (t:List Int),(∀a∈l,d a.2)->(∀x∈t,d x) ->
    (l.map λa=>(a.1,c a.2)).foldl (Ab R k) (pre++t.map c)=pre++(l.foldl (Ab Q k) t).map c/\∀x∈l.foldl (Ab Q k) t,d x:=by
   intro l;induction l with
   | nil=>intro t _ f;exact⟨rfl,f⟩
   | cons a l q =>
    intro t m f;have ha:=m a (by simp);have hs:Ab R k (pre++t.map c) (a.1,c a.2)=pre++(Ab Q k t a).map c/\∀x∈Ab Q k t a,d x:=by
     unfold Ab;by_cases j:a.2∈t
     ·rw[BY j,BY (No.2 (.inr (GO.2 ⟨_,j,rfl⟩)))];exact⟨rfl,f⟩
     ·have p:¬c a.2∈pre++t.map c:=by
       intro hh;rcases No.1 hh with hh|hh
       ·exact hp _ ha hh
       ·obtain⟨x,g,e⟩:=GO.1 hh;exact j (h.inj x a.2 (f x g) ha e▸g)
      rw[An j];simp only[An p];exact yN h hp k t a.2 f ha
    rw[Rp,ON,ON,hs.1];exact q _ (λb o=>m b (by simp[o])) hs.2
  rw[CJ,CJ];have e:pre++t.map c++[c i]=pre++(t++[i]).map c:=by simp
  have n:(R.getD (c i).toNat (0,[])).2=(AQ Q i).map λa=>(a.1,c a.2):=h.arc i hi;rw[n,e];refine key _ _ (h.cl i hi) λx g=>?_;rcases No.1 g with g|g
  ·exact f x g
  ·have:x=i:=by simpa using g
   rw[this];exact hi
abbrev eC (n:Nat):List Int:=(List.range n).map λ(i:Nat)=>(i:Int)
theorem kN {n:Nat} {x:Int} (h:x∈eC n):0<=x/\x<(n:Int):=by grind
theorem A19 (n:Nat):eC (n+1)=eC n++[(n:Int)]:=by unfold eC;rw[TD,iN];rfl
theorem X5 {p:List Int} {g:List AD}:∀(r j:Nat) (k:Nat),j+r=p.length->Cz (Aq p g) (r+k) (eC j) (j:Int)=Cz (Aq p g) k (eC p.length) (p.length:Int)
 | 0,j,k,h=>by rw[show j=p.length by omega,ADG]
 | r+1,j,k,h=>by
  rw[show r+1+k=(r+k)+1 by omega,CJ,Mq (by omega) (by omega),Rb];show Ab (Aq p g) (r+k) (eC j++[(j:Int)]) (p.getD j 0,(j:Int)+1)=_;rw[<-A19];unfold Ab;rw[An (λa=>by have:=kN a;simp only at this;omega)];have e:((j:Int)+1)=((j+1:Nat):Int):=by omega
  simp only[e];exact X5 r (j+1) k (by omega)
theorem A1a {h:AG} {p:List Int} {g:List AD} (b:VF h g) (hp:p.length<=1000) (l:g.length<=10000):AN (Aq p g) 0=Aq p g:=by
 have f:=b.pos;refine A18 (UN hp b.good f l) ?_;rw[Fe];have d:=X5 (p:=p) (g:=g) p.length 0 g.length (by omega);rw[show eC 0=[] from rfl,show ((0:Nat):Int)=0 from rfl]at d;rw[d];have k:Iso g (Aq p g) (λi=>(p.length:Int)+i) (λi=>0<=i/\i<(g.length:Int)):=by
  refine⟨λi hi=>?_,λi hi a ha=>A6 b.good ha,λi j hi o e=>by have e:(p.length:Int)+i=(p.length:Int)+j:=e;omega⟩;rw[AQ,LK hi.1 hi.2];show A4 p.length (AQ g i)=_;unfold A4;refine Rf λa _=>?_;show (a.1,a.2+(p.length:Int))=(a.1,(p.length:Int)+a.2);rw[Int.add_comm]
 have c:=(yN k (pre:=eC p.length) (λi hi m=>by have:=kN m;omega) g.length [] 0 (λx n=>by cases n) ⟨by omega,by omega⟩).1;rw[AEY,Rq,AF1,A17 b]at c;rw[c];rw[List.range_add,iN,AAd,AAd];refine ADB _ (Rf λi _=>?_);show (p.length:Int)+(i:Int)=((p.length+i:Nat):Int);omega
theorem X6 {h:AG} (h0:0<h.1.length) {p:List Int} {g:List AD} (d:VF h g) (l:FtP h p) (hp:p.length<=1000) (k:g.length<=10000):VF h (Aq p g):=by
 have n:=d.pos;have q:=Fe p g;refine⟨UN hp d.good n k,by omega,λx c=>?_,λx c=>?_,λx c a ha=>?_,A1a d hp k,λi r s=>?_⟩
 ·rcases LL c with ⟨i,hi,rfl⟩|⟨y,f,rfl⟩
  ·exact⟨by simp,by simp only;omega⟩
  ·exact d.ty y f
 ·rcases LL c with ⟨i,hi,rfl⟩|⟨y,f,rfl⟩
  ·exact List.pairwise_singleton _ _
  ·exact PP (d.str y f)
 ·rcases LL c with ⟨i,hi,rfl⟩|⟨y,f,rfl⟩
  ·have:a=(p.getD i 0,(i:Int)+1):=by simpa using ha
   rw[this];exact l _ (BE hi)
  ·obtain⟨b,m,rfl⟩:=GO.1 ha;exact d.ft y f b m
 ·by_cases hi:i<=(p.length:Int)
  ·refine⟨i-1,by omega,by omega,(p.getD (i-1).toNat 0,i-1+1),?_,by simp only;omega⟩;rw[AQ,Mq (by omega) (by omega)];exact Rm.2 rfl
  ·obtain⟨j,o,t,x,c,e⟩:=d.ro (i-p.length) (by omega) (by omega);refine⟨(p.length:Int)+j,by omega,by omega,(x.1,x.2+(p.length:Int)),?_,by simp only;omega⟩;rw[AQ,LK o (by omega)];exact GO.2 ⟨x,c,rfl⟩
theorem A1b {f:List AD} (hf:AU f) {r:Int} (l:0<=r) (m:r<(f.length:Int)):AU (AN f r)/\0<(AN f r).length:=by
 have c:=Hc hf l m;have h:=Ib f r;have g:=λi=>KK (f:=f) (r:=r) (i:=i);generalize p:Cz f f.length [] r=o at *;have q:=c.ok.len;have n:=hf.1;have t:=c.zero.2;refine⟨⟨by omega,λx j=>?_⟩,by omega⟩;obtain⟨i,hi,rfl⟩:=CG (0,[]) j;rw[g i (by omega)];have d:o.getD i 0∈o:=AE o 0 (by omega);have s:=c.ok.rng _ d;refine⟨?_,λa ha=>?_⟩
 ·show (List.map (LG o) _).length<=_;rw[RU];exact(hf.2 _ (AE f (0,[]) (k:=(o.getD i 0).toNat) (by omega))).1
 ·obtain⟨b,e,rfl⟩:=GO.1 ha;have:=Et (c.cl _ d b e);rw[h];exact⟨this.1,this.2.1⟩
theorem A81 {h:AG} {f:List AD} (hf:AU f) (b:De h f) {r:Int} (d:0<=r) (e:r<(f.length:Int)):De h (AN f r):=by
 have a:=Hc hf d e;intro x c;obtain⟨n,hn,rfl⟩:=GO.1 c;have g:=a.ok.rng n hn;exact b (f.getD n.toNat (0,[])) (AE f (0,[]) (k:=n.toNat) (by omega))
structure PF (h:AG) (S:List AD):Prop where
 good:AU S
 pos:0<S.length
 ty:De h S
 str:∀x∈S,NX x.2
 ft:∀x∈S,∀a∈x.2,0<=a.1/\a.1<(h.2.length:Int)
theorem VF.pf {h:AG} {f:List AD} (v:VF h f):PF h f:=⟨v.good,v.pos,v.ty,v.str,v.ft⟩
theorem kO {S:List AD} (a:AU S) {r:Int} (c:0<=r) (d:r<(S.length:Int)):∀x∈AN S r,∃n∈Cz S S.length [] r,(0<=n/\n<(S.length:Int))/\x=Dd S (Cz S S.length [] r) n:=λx b=>by
 obtain⟨n,hn,rfl⟩:=GO.1 b;exact⟨n,hn,(Hc a c d).ok.rng n hn,rfl⟩
theorem A82 {S:List AD} (b:AU S) {r:Int} (c:0<=r) (d:r<(S.length:Int)):RO (AN S r):=by
 have k:=Hc b c d;have h:=Q3 b S.length [] r (GD _) c d (by simp);have p:=Ib S r;have g:=λi=>KK (f:=S) (r:=r) (i:=i);generalize AN S r=l at *;generalize Cz S S.length [] r=o at *;intro i m n;obtain⟨j,q,a,ha,e⟩:=h i.toNat (by simp only[ADk];omega) (by omega);refine⟨(j:Int),by omega,by omega,LG o a,?_,?_⟩
 ·rw[AQ,Rb,g j (by omega)];exact GO.2 ⟨a,ha,rfl⟩
 ·show B2 o a.2=i;rw[e,HD k.ok.nd (by omega)];omega
theorem A4v {h:AG} {S:List AD} (p:PF h S) {r:Int} (c:0<=r) (d:r<(S.length:Int)):VF h (AN S r):=by
 have f:=A1b p.good c d;refine⟨f.1,f.2,A81 p.good p.ty c d,λx e=>?_,λx e a ha=>?_,kA p.good c d,A82 p.good c d⟩
 ·obtain⟨n,-,hn,rfl⟩:=kO p.good c d x e;show List.Pairwise _ (List.map _ _);rw[ADz];exact(Ic p.str n).imp λh=>h
 ·obtain⟨n,-,hn,rfl⟩:=kO p.good c d x e;obtain⟨b,g,rfl⟩:=GO.1 ha;exact p.ft _ (AE S (0,[]) (by omega)) b g
theorem A4w {h:AG} {f:List AD} (hf:PF h f) {r:Int} (l:0<=r) (m:r<(f.length:Int)):Zt h (AN f r) [] f (λi=>(Cz f f.length [] r).getD i.toNat 0)/\(Cz f f.length [] r).getD 0 0=r:=by
 have a:=Hc hf.good l m;have p:=Ib f r;have d:=λi=>KK (f:=f) (r:=r) (i:=i);generalize AN f r=n at *;generalize Cz f f.length [] r=o at *;refine⟨⟨λi g j=>a.ok.rng _ (AE o 0 (by omega)),λi g j=>?_,λi g j x e=>?_,λq k=>by cases k⟩,a.zero.1⟩
 ·rw[d _ (by omega)];exact NV h _
 ·rw[AQ,d _ (by omega)]at e;obtain⟨b,c,rfl⟩:=GO.1 e;show DH _ b.1=o.getD (B2 o b.2).toNat 0;rw[(Et (a.cl _ (AE o 0 (by omega)) b c)).2.2];exact Ia (Ic hf.str _) c
theorem X7 {Q R:List AD} {b:Int->Int} {c:Int->Prop} (h:Iso Q R b c) (l:AU Q) {r:Int} (k:c r) (s:0<=r) (t:r<(Q.length:Int)) (u:Q.length<=R.length)
  (m:∀i,c i->(R.getD (b i).toNat (0,[])).1=(Q.getD i.toNat (0,[])).1):AN R (b r)=AN Q r:=by
 have f:Cz R R.length [] (b r)=(Cz Q Q.length [] r).map b/\∀x∈Cz Q Q.length [] r,c x:=by
  have h1:=Q1 h R.length [] r (λx p=>by cases p) k;have g:=Q0 l (n:=r) s t (R.length-Q.length);rw[show Q.length+(R.length-Q.length)=R.length by omega]at g;rw[g]at h1;exact h1
 unfold AN;rw[f.1];generalize Cz Q Q.length [] r=o at *;rw[AAd];refine Rf λi hi=>?_;have d:=f.2 i hi;show Dd R (o.map b) (b i)=Dd Q o i;unfold Dd;have j:(R.getD (b i).toNat (0,[])).2=(AQ Q i).map λa=>(a.1,b a.2):=h.arc i d;rw[m i d,j,AAd];refine ADB _ (Rf λa ha=>?_);show (a.1,B2 (o.map b) (b a.2))=(a.1,B2 o a.2);rw[jY λy q e=>h.inj y a.2 (f.2 y q) (h.cl i d a ha) e]
def UO (f:List AD) (e:Int):List (Int×Int):=(f.getD 0 (0,[])).2.filter λa=>a.1 != e
def RG (f:List AD) (e:Int):List AD:=((f.getD 0 (0,[])).1,A4 1 (UO f e)) :: f.map λx=>(x.1,A4 1 x.2)
def Ie (f:List AD) (e:Int):List AD:=AN (RG f e) 0
def Mr (f:List AD) (e:Int):List AD:=f++[((f.getD 0 (0,[])).1,UO f e)]
theorem S1 (f:List AD) (e:Int):(RG f e).length=f.length+1:=by simp[RG]
theorem A83 {f:List AD} {e i:Int} (c:0<=i) (d:i<(f.length:Int)):(RG f e).getD (i+1).toNat (0,[])=((f.getD i.toNat (0,[])).1,A4 1 (f.getD i.toNat (0,[])).2):=by
 have a:(i+1).toNat=i.toNat+1:=by omega
 have b:i.toNat<f.length:=by omega
 rw[a];simp[RG,AS,b]
theorem X8 {f:List AD} {e:Int} {a:Int×Int} (h:a∈UO f e):a∈AQ f 0:=(ADj.1 h).1
theorem PQ {b:Nat} {l:List (Int×Int)} {a:Int×Int}:a∈A4 b l↔∃x∈l,a=(x.1,x.2+(b:Int)):=by
 unfold A4;rw[GO];exact⟨λ⟨x,h1,c⟩=>⟨x,h1,c.symm⟩,λ⟨x,h1,c⟩=>⟨x,h1,c.symm⟩⟩
theorem kP {f:List AD} (hs:∀x∈f,NX x.2) (e:Int):NX (UO f e):=(Ic hs 0).filter _
theorem X9 {h:AG} {f:List AD} (v:PF h f) (p:f.length<=10000) (e:Int):PF h (RG f e):=by
 have hp:=v.pos;have h0:f.getD 0 (0,[])∈f:=AE f (0,[]) hp;have k:∀x∈RG f e,x=((f.getD 0 (0,[])).1,A4 1 (UO f e))\/∃y∈f,x=(y.1,A4 1 y.2):=λx c=>by
  rcases DO.1 c with rfl|c
  ·exact .inl rfl
  ·obtain⟨y,d,rfl⟩:=GO.1 c;exact .inr ⟨y,d,rfl⟩
 have o:=S1 f e;have j:∀x∈RG f e,∃y∈f,x.1=y.1/\x.2.length<=y.2.length/\∀a∈x.2,∃b∈y.2,a=(b.1,b.2+1):=λx c=>by
  rcases k x c with rfl|⟨y,d,rfl⟩
  ·refine⟨_,h0,rfl,?_,λa ha=>?_⟩
   ·show (List.map _ _).length<=_;rw[RU];exact aS _ _
   ·obtain⟨b,g,rfl⟩:=PQ.1 ha;exact⟨b,X8 g,rfl⟩
  ·refine⟨y,d,rfl,?_,λa ha=>?_⟩
   ·show (List.map _ _).length<=_;rw[RU];exact NO _
   ·obtain⟨b,g,rfl⟩:=PQ.1 ha;exact⟨b,g,rfl⟩
 refine⟨⟨by omega,λx c=>?_⟩,by omega,λx c=>?_,λx c=>?_,λx c a ha=>?_⟩
 ·obtain⟨y,d,-,n,i⟩:=j x c;have m:=v.good.2 y d;refine⟨by omega,λa ha=>?_⟩;obtain⟨b,g,rfl⟩:=i a ha;have:=m.2 b g;try simp only
  omega
 ·obtain⟨y,d,l,-,-⟩:=j x c;rw[l];exact v.ty y d
 ·rcases k x c with rfl|⟨y,d,rfl⟩
  ·exact PP (kP v.str e)
  ·exact PP (v.str y d)
 ·obtain⟨y,d,-,-,i⟩:=j x c;obtain⟨b,g,rfl⟩:=i a ha;exact v.ft y d b g
theorem A84 {h:AG} {f:List AD} (v:PF h f) (a:f.length<=10000) (e:Int):VF h (Ie f e):=A4v (X9 v a e) (AEj _) (by rw[S1];omega)
theorem A9Y {h:AG} {f:List AD} (v:PF h f) (k:f.length<=10000) (e:Int):AN (Mr f e) (f.length:Int)=Ie f e:=by
 have n:=S1 f e;have hp:=v.pos;have g:=λi b c=>A83 (f:=f) (e:=e) (i:=i) b c;have hn:(Mr f e).getD f.length (0,[])=((f.getD 0 (0,[])).1,UO f e):=by simp[Mr,AS]
 have hi:∀i:Int,0<=i->i<(f.length:Int)->(Mr f e).getD i.toNat (0,[])=f.getD i.toNat (0,[]):=λi b c=>by
  have:i.toNat<f.length:=by omega
  simp[Mr,AS,Rn this]
 have m:∀l:List (Int×Int),(∀a∈l,0<=a.2)->l=(A4 1 l).map λa=>(a.1,if a.2=0 then (f.length:Int) else a.2-1):=λl h1=>by
  unfold A4;rw[AAd];refine(AFE l).symm.trans (Rf λa ha=>?_);have:=h1 a ha;show a=(a.1,if a.2+((1:Nat):Int)=0 then _ else a.2+((1:Nat):Int)-1);rw[An (by omega)];exact AFC rfl (by simp only;omega)
 have o:Iso (RG f e) (Mr f e) (λi=>if i=0 then (f.length:Int) else i-1) (λi=>0<=i/\i<(f.length:Int)+1):=by
  refine⟨λi ⟨b,c⟩=>?_,λi ⟨b,c⟩ a ha=>?_,λi j ⟨b,c⟩ ⟨p,q⟩ d=>?_⟩
  ·by_cases h0:i=0
   ·subst h0;simp only[AAv];rw[AQ,Rb,hn];exact m _ λa ha=>(A6 v.good (X8 ha)).1
   ·simp only[An h0];rw[AQ,hi _ (by omega) (by omega),AQ,show i=(i-1)+1 by omega,g _ (by omega) (by omega),show i-1+1-1=i-1 by omega];exact m _ λa ha=>(A6 v.good ha).1
  ·have:=A6 (X9 v k e).good ha;omega
  ·try simp only at d
   split at d<;>split at d<;>omega
 have:=X7 o (X9 v k e).good (r:=0) ⟨by omega,by omega⟩ (by omega) (by omega) (by rw[n];simp[Mr]) λi ⟨b,c⟩=>by
  by_cases h0:i=0
  ·subst h0;simp only[AAv];rw[Rb,hn];rfl
  ·simp only[An h0];rw[hi _ (by omega) (by omega),show i=(i-1)+1 by omega,g _ (by omega) (by omega),show i-1+1-1=i-1 by omega]
 simp only[AAv]at this;exact this
def yO (s:ByteArray):Nat->List G2->Int
 | _,[]=>-1
 | k,x :: l=>if AY x.1 s=true then (k:Int) else yO s (k+1) l
def He (h:AG) (s:ByteArray):Int:=yO s 0 h.1
def ftG (s:ByteArray):Nat->List ZS->Int
 | _,[]=>-1
 | k,x :: l=>if AY x.1 s=true then (k:Int) else ftG s (k+1) l
def YO (h:AG) (s:ByteArray):Int:=ftG s 0 h.2
theorem yP (s:ByteArray):∀(l:List G2) (k:Nat),yO s k l=-1\/((k:Int)<=yO s k l/\yO s k l<((k+l.length:Nat):Int))
 | [],_=>.inl rfl
 | x :: l,k=>by
  unfold yO;split
  ·exact .inr ⟨AEj _,by simp only[OS];omega⟩
  ·have:=yP s l (k+1);simp only[OS];omega
theorem yQ (s:ByteArray):∀(l:List ZS) (k:Nat),ftG s k l=-1\/((k:Int)<=ftG s k l/\ftG s k l<((k+l.length:Nat):Int))
 | [],_=>.inl rfl
 | x :: l,k=>by
  unfold ftG;split
  ·exact .inr ⟨AEj _,by simp only[OS];omega⟩
  ·have:=yQ s l (k+1);simp only[OS];omega
theorem HE (h:AG) (s:ByteArray):-1<=He h s/\He h s<(h.1.length:Int):=by
 have:=yP s h.1 0;unfold He;omega
theorem eD (h:AG) (s:ByteArray):-1<=YO h s/\YO h s<(h.2.length:Int):=by
 have:=yQ s h.2 0;unfold YO;omega
structure LW where
 list:Int
 cons:Int
 null:Int
 dlist:Int
 first:Int
 rest:Int
 head:Int
 last:Int
def sb (l:List UInt8):ByteArray:=⟨l.toArray⟩
def BH (h:AG):LW:=⟨He h (sb [108,105,115,116]),He h (sb [99,111,110,115]),He h (sb [110,117,108,108]),He h (sb [100,108,105,115,116]),YO h (sb [70,73,82,83,84]),YO h (sb [82,69,83,84]),YO h (sb [76,73,83,84]),YO h (sb [76,65,83,84])⟩
def PR (h:AG):Bool:=decide (0<=(BH h).list/\0<=(BH h).cons/\0<=(BH h).null/\0<=(BH h).dlist/\0<=(BH h).first/\0<=(BH h).rest/\0<=(BH h).head/\0<=(BH h).last)&&A7 h (BH h).list (BH h).cons&&A7 h (BH h).list (BH h).null
def RH (w:LW) (row:List (Int×Int)):Bool:=decide (DH row w.first<0)&&decide (DH row w.rest<0)
def UP (w:LW) (row:List (Int×Int)):Bool:=decide (0<=DH row w.first)&&decide (0<=DH row w.rest)
def Uf (h:AG) (w:LW) (x:AD):Bool:=A7 h w.null x.1&&RH w x.2
def Lh (h:AG) (w:LW) (x:AD):Bool:=A7 h w.cons x.1&&UP w x.2
def OK (h:AG) (w:LW) (x:AD):Bool:=A7 h x.1 w.cons&&RH w x.2
def BQ (h:AG) (w:LW) (x:AD):Int:=if Uf h w x=true then 1 else if Lh h w x=true then 2 else if OK h w x=true then 3 else 0
def RI (h:AG) (w:LW) (f:List AD):Nat->List Int->List Int->Int->List Int×Bool×Int
 | 0,_,_,_=>([],false,6)
 | k+1,a,out,n=>if n∈a then ([],false,6) else
  if BQ h w (f.getD n.toNat (0,[]))=1 then (out,true,0) else if BQ h w (f.getD n.toNat (0,[]))=3 then (out,false,0) else if BQ h w (f.getD n.toNat (0,[]))=0 then ([],false,13)
  else RI h w f k (a++[n]) (out++[DH (f.getD n.toNat (0,[])).2 w.first]) (DH (f.getD n.toNat (0,[])).2 w.rest)
def Ak (h:AG) (f:List AD) (n:Int):List Int×Bool×Int:=if PR h=true then RI h (BH h) f (f.length+1) [] [] n else ([],false,5)
theorem aD {h:AG} {w:LW} {x:AD} (e:BQ h w x=2):0<=DH x.2 w.first/\0<=DH x.2 w.rest:=by
 unfold BQ at e;split at e
 ·cases e
 ·split at e
  ·rename_i a;unfold Lh UP at a;simp only[AT,Ff]at a;exact a.2
  ·split at e<;>cases e
theorem kQ {h:AG} (e:PR h=true):(0<=(BH h).first/\0<=(BH h).rest)/\0<=(BH h).cons/\0<=(BH h).null/\0<=(BH h).list/\0<=(BH h).dlist/\0<=(BH h).head/\0<=(BH h).last:=by
 unfold PR at e;rw[AT,AT,Ff]at e;obtain⟨⟨⟨h1,a,b,c,d,f,g,i⟩,-⟩,-⟩:=e;exact⟨⟨d,f⟩,a,b,h1,c,g,i⟩
def shN (b:Nat) (g:List AD) (i:Nat):List AD:=(g.take i).map λx:AD=>(x.1,A4 b x.2)
theorem A4x (b:Nat) (g:List AD) {i:Nat} (h:i<g.length):shN b g (i+1)=shN b g i++[((g.getD i (0,[])).1,A4 b (g.getD i (0,[])).2)]:=by
 unfold shN;rw[A0 g (0,[]) h,iN];rfl
theorem A85 (b:Nat) (g:List AD):shN b g g.length=g.map λx:AD=>(x.1,A4 b x.2):=by
 unfold shN;rw[Re]
theorem A86 (b:Nat) (g:List AD) {i:Nat} (h:i<=g.length):(shN b g i).length=i:=by
 unfold shN;rw[RU,OR];omega
def pD:Aa:={ ins:=[Fv,DR],pre:=λ(p,g,_)=>List.length p<=1000/\AU g,out:=λ(p,g,_)=>[.p DR (Aq p g)] }
theorem A4y:Ad Tryz.prog 141 pD:=by
 refine z2 [0,1,3,4,5,6,7,9,10,12,13,14,15,16,33,34,35,36,43,44,45,46] [26] [] Tryz.func141 Tryz.ntmps141 AH ?_;rintro w0 O0 ⟨p,g,u⟩ e-⟨hp,f⟩;have I:=f.1;simp only[pD,AM];repeat'(first|exact trivial|refine eS rfl ?_|refine AB ?_|refine rX e ?_ ?_|refine rC ?_ ?_<;>intro b<;>try(cases b;done))
 refine AK (ι:={k:Nat//k<=p.length}) (λk=>⟨[(0,.p Fv p),(3,.bp 3 [] 0),(4,.bp 4 [] 0),(5,.bp 5 [] 0),(13,.p Fv p),(14,.p (.int .i64) (p.length:Int)),(15,.p (.int .i64) (k.1:Int))],[(3,.box 25 true [.p FY g]),(4,.box 25 true [.raw (.slice none 0 0)]),(5,.box 25 true [.sr 29 NJ 0 (GG p k.1).length]),(29,.arr 93 NJ (GG p k.1))]⟩) (λk=>p.length-k.1) ⟨0,IN _⟩ (AC [(3,.nm 3),(4,.nm 4),(5,.nm 5),(29,.nil)] rfl rfl ?_ ?_) (λk=>?_)
 ·first|exact eN|refine eM ?_
  exact⟨rfl,rfl⟩
 ·first|exact eN|refine eM ?_
 ·obtain⟨k,hk⟩:=k;have B:=Ew p k;repeat'(first|exact trivial|refine eS rfl ?_|refine AB ?_|refine rX e ?_ ?_|refine rC ?_ ?_<;>intro b<;>try(cases b;done))
  ·exact b
  ·have n:k<p.length:=IS.1 b;refine⟨⟨by omega,by omega⟩,?_⟩;rw[B];simp only[AP];omega
  ·omega
  ·have n:k<p.length:=IS.1 b;have hs:=kJ p k;refine⟨⟨k+1,n⟩,by simp only;omega,AC [(3,.nm 3),(4,.nm 4),(5,.nm 5),(29,.nm 29)] rfl rfl ?_ ?_⟩
   ·simp only[hs];first|exact eN|refine eM ?_
   ·first|exact eN|refine eM ?_
  ·have D:k=p.length:=by
    have:=RY.1 b;omega
   subst D;obtain⟨t,m⟩:∃c,GG p p.length=c:=⟨_,rfl⟩;have A:=Ew p p.length;have s:t++g.map (λx:AD=>(x.1,A4 p.length x.2))=Aq p g:=by rw[<-m];rfl
   generalize GG p p.length=ch at *;subst m;refine AK (ι:={i:Nat//i<=g.length}) (λi=>⟨[(0,.p Fv p),(3,.bp 3 [] 0),(4,.bp 4 [] 0),(5,.bp 5 [] 0),(33,.p FY g),(34,.p (.int .i64) (g.length:Int)),(35,.p (.int .i64) (i.1:Int))],[(3,.box 25 true [.p FY g]),(4,.box 25 true [.raw (.slice none 0 0)]),(5,.box 25 true [.sr 29 NJ 0 (ch++shN p.length g i.1).length]),(29,.arr 93 NJ (ch++shN p.length g i.1))]⟩) (λi=>g.length-i.1) ⟨0,IN _⟩ (AC [(3,.nm 3),(4,.nm 4),(5,.nm 5),(29,.nm 29)] rfl rfl ?_ ?_) (λi=>?_)
   ·have v:ch++shN p.length g 0=ch:=by simp[shN]
    simp only[v];first|exact eN|refine eM ?_
   ·first|exact eN|refine eM ?_
   ·obtain⟨i,hi⟩:=i;have E:=A86 p.length g hi;have r:=λh:i<g.length=>A4x p.length g h;simp only;generalize o:shN p.length g i=os at *;repeat'(first|exact trivial|refine eS rfl ?_|refine AB ?_|refine rX e ?_ ?_|refine rC ?_ ?_<;>intro b<;>try(cases b;done))
    ·exact b
    ·have l:i<g.length:=IS.1 b;have q:=XU f i;have G:(g.getD i (0,[])).2.length<=100000:=(f.2 _ (AE g (0,[]) l)).1;generalize L:g.getD i (0,[])=x at *;obtain⟨H,xs⟩:=x;simp only at q G r ⊢;refine AK (ι:={j:Nat//j<=xs.length}) (λj=>⟨[(0,.p Fv p),(3,.bp 3 [] 0),(4,.bp 4 [] 0),(5,.bp 5 [] 0),(10,.bp 10 [] 0),(33,.p FY g),(34,.p (.int .i64) (g.length:Int)),(35,.p (.int .i64) (i:Int)),(43,.p DN xs),(44,.p (.int .i64) (xs.length:Int)),(45,.p (.int .i64) (j.1:Int))],[(3,.box 25 true [.p FY g]),(4,.box 25 true [.raw (.slice none 0 0)]),(5,.box 25 true [.sr 29 NJ 0 (ch++os).length]),(29,.arr 93 NJ (ch++os)),(10,.box 93 true [.p T3 H,.sr 60 AW 0 (A4 p.length (xs.take j.1)).length]),(60,.arr 106 AW (A4 p.length (xs.take j.1)))]⟩) (λj=>xs.length-j.1) ⟨0,IN _⟩ (AC [(3,.nm 3),(4,.nm 4),(5,.nm 5),(29,.nm 29),(10,.nm 10),(60,.nil)] rfl rfl ?_ ?_) (λj=>?_)
     ·first|exact eN|refine eM ?_
      exact⟨rfl,rfl⟩
     ·first|exact eN|refine eM ?_
     ·obtain⟨j,J⟩:=j;have w:(A4 p.length (xs.take j)).length=j:=by unfold A4;rw[RU,OR];omega
      have y:=λh:j<xs.length=>EL (λa:Int×Int=>(a.1,a.2+(p.length:Int))) xs (0,0) h;simp only;repeat'(first|exact trivial|refine eS rfl ?_|refine AB ?_|refine rX e ?_ ?_|refine rC ?_ ?_<;>intro b<;>try(cases b;done))
      ·exact b
      ·have d:j<xs.length:=IS.1 b;have K:=q _ (AE xs (0,0) d);refine⟨⟨by omega,by omega⟩,?_⟩;rw[w];simp only[AP];omega
      ·omega
      ·have d:j<xs.length:=IS.1 b;have z:A4 p.length (xs.take (j+1))=A4 p.length (xs.take j)++[((xs.getD j (0,0)).1,(xs.getD j (0,0)).2+(p.length:Int))]:=y d;refine⟨⟨j+1,d⟩,by simp only;omega,AC [(3,.nm 3),(4,.nm 4),(5,.nm 5),(29,.nm 29),(10,.nm 10),(60,.nm 60)] rfl rfl ?_ ?_⟩
       ·simp only[z];first|exact eN|refine eM ?_
       ·first|exact eN|refine eM ?_
      ·rw[A,E];simp only[AP];omega
      ·omega
      ·have d:xs.take j=xs:=As (RY.1 b);have F:=r l;rw[d];refine⟨⟨i+1,l⟩,by simp only;omega,AC [(3,.nm 3),(4,.nm 4),(5,.nm 5),(29,.nm 29)] rfl rfl ?_ ?_⟩
       ·simp only[F,<-Rl];first|exact eN|refine eM ?_
       ·first|exact eN|refine eM ?_
    ·have C:i=g.length:=by
      have:=RY.1 b;omega
     subst C;rw[A85]at o;rw[o]at s;exact fI e [.cell 4 25] (by rw[<-s];exact eR)
def Ex (l:List (Int×Int)) (e:Int):Int×Bool:=match l with
 | []=>(0,false)
 | a :: l=>if a.1=e then (a.2,true) else Ex l e
theorem YA (e:Int) (l:List (Int×Int)) {k:Nat} (h:k<l.length):Ex (l.drop k) e=if (l.getD k (0,0)).1=e then ((l.getD k (0,0)).2,true) else Ex (l.drop (k+1)) e:=by
 rw[On h];have e:l.getD k (0,0)=l[k]:=by simp[AS,h]
 rw[e];rfl
def A4z:Aa:={ ins:=[DR,T3,T3],pre:=λ(f,n,_,_)=>DF f/\0<=n/\n<(List.length f:Int),out:=λ(f,n,e,_)=>[.p T3 (Ex (List.getD f n.toNat (0,[])).2 e).1,.p .bool (Ex (List.getD f n.toNat (0,[])).2 e).2] }
theorem A87:Ad Tryz.prog 123 A4z:=by
 refine fK [0,1,2,3,6,7,9,15,16,17,18,24] Tryz.func123 Tryz.ntmps123 AH ?_;rintro w0 O0 ⟨f,n,e,u⟩ c-⟨hf,h0,h1⟩;simp only[A4z,AM];repeat'(first|exact trivial|refine eS rfl ?_|refine AB ?_|refine rX c ?_ ?_|refine rC ?_ ?_<;>intro a<;>try(cases a;done))
 ·exact⟨h0,h1⟩
 ·generalize g:(f.getD n.toNat (0,[])).2=xs at *;have i:xs.length<=100000:=by
   rw[<-g];have hn:n.toNat<f.length:=by
    have h0:(0:Int)<=n:=h0;have h1:(n:Int)<(List.length f:Int):=h1;exact(AF0 h0).2 h1
   exact hf.2 _ (AE f (0,[]) hn)
  refine AK (ι:={k:Nat//k<=xs.length/\Ex xs e=Ex (xs.drop k) e}) (λk=>⟨[(2,.p T3 e),(15,.p DN xs),(16,.p (.int .i64) (xs.length:Int)),(17,.p (.int .i64) (k.1:Int))],[]⟩) (λk=>xs.length-k.1) ⟨0,IN _,rfl⟩ (AC [] rfl rfl ?_ ?_) (λk=>?_)
  ·first|exact eN|refine eM ?_
  ·first|exact eN|refine eM ?_
  ·obtain⟨k,hk,d⟩:=k;repeat'(first|exact trivial|refine eS rfl ?_|refine AB ?_|refine rX c ?_ ?_|refine rC ?_ ?_<;>intro a<;>try(cases a;done))
   ·exact a
   ·have b:k<xs.length:=IS.1 (by assumption);have h:=YA e xs b;rw[BY a]at h;rw[d,h];exact fI c [.tmp 6,.tmp 7]
   ·omega
   ·have b:k<xs.length:=IS.1 (by assumption);have h:=YA e xs b;rw[An a]at h;refine⟨⟨k+1,b,d.trans h⟩,by simp only;omega,AC [] rfl rfl ?_ ?_⟩
    ·first|exact eN|refine eM ?_
    ·first|exact eN|refine eM ?_
   ·have b:xs.drop k=[]:=By (RY.1 a);rw[b]at d;rw[d];exact fI c [.tmp 6,.tmp 7] (by first|exact eR|refine WL ?_;exact⟨rfl,rfl⟩)
section
attribute [local go_sem] A4z
def CR (f:List AD):Int->List Int->Int×Bool
 | n,[]=>(n,true)
 | n,e :: p=>if (Ex (AQ f n) e).2=true then CR f (Ex (AQ f n) e).1 p else (0,false)
theorem KN {p:List Int} {k:Nat} (h:k<p.length):p.drop k=p.getD k 0 :: p.drop (k+1):=by
 rw[On h];simp[AS,h]
theorem YB {l:List (Int×Int)} {e:Int} (h:(Ex l e).2=true):∃a∈l,a.1=e/\a.2=(Ex l e).1:=by
 induction l with
 | nil=>simp[Ex]at h
 | cons a l g =>
  simp only[Ex]at h ⊢;split
  ·rename_i c;exact⟨a,by simp,c,rfl⟩
  ·rename_i c;rw[An c]at h;obtain⟨b,f,h1,d⟩:=g h;exact⟨b,by simp[f],h1,d⟩
theorem A1c {l:List (Int×Int)} (hs:NX l) (hn:∀a∈l,0<=a.2) (e:Int):Ex l e=if YN l e<0 then (0,false) else (YN l e,true):=by
 cases h:(Ex l e).2 with
 | true =>
  obtain⟨a,ha,g,i⟩:=YB h;have d:=xV hs ha;rw[g]at d;have:=hn a ha;rw[An (by omega),d,i,<-h]
 | false =>
  have c:∀a∈l,a.1≠e:=by
   intro a ha g;clear hs hn;induction l with
   | nil=>cases ha
   | cons b l f =>
    simp only[Ex]at h;split at h
    ·cases h
    ·rename_i j;rcases DO.1 ha with rfl|ha
     ·exact j g
     ·exact f h ha
  have d:YN l e=-1:=by
   unfold YN;clear hs hn h;generalize (-1:Int)=t;induction l with
   | nil=>rfl
   | cons b l f =>
    rw[ON,An (c b (by simp))];exact f (λa ha=>c a (by simp[ha]))
  have h0:(Ex l e).1=0:=by
   clear hs hn d;induction l with
   | nil=>rfl
   | cons b l f =>
    simp only[Ex];rw[An (c b (by simp))];refine f ?_ (λa ha=>c a (by simp[ha]));simp only[Ex]at h
    rwa [An (c b (by simp))]at h
  rw[d,BY (by decide),<-h0,<-h]
theorem RJ {f:List AD} (hf:AU f) (hs:∀x∈f,NX x.2):∀(p:List Int) (n:Int),CR f n p=match B3 f n p with|some m=>(m,true)|none=>(0,false)
 | [],n=>rfl
 | e :: p,n=>by
  have h:=A1c (Ic hs n) (λa ha=>(A6 hf ha).1) e;simp only[CR,B3];rw[h];by_cases b:YN (AQ f n) e<0
  ·rw[BY b,BY b];rfl
  ·rw[An b,An b];exact RJ hf hs p _
def atS:Aa:={ ins:=[DR,Fv],pre:=λ(f,_,_)=>AU f/\0<List.length f,out:=λ(f,p,_)=>[.p T3 (CR f 0 p).1,.p .bool (CR f 0 p).2] }
attribute [local go_sem] atS
theorem A8N:Ad Tryz.prog 68 atS:=by
 refine fK [0,1,2,4,5,6,8,9,10,11,12,13,14,25] Tryz.func68 Tryz.ntmps68 (AF A87 AH) ?_;rintro w0 O0 ⟨f,p,u⟩ e ⟨-,⟨i,-⟩,-⟩ ⟨hf,h0⟩;simp only[AP]at i;simp only[atS,AM];have j:DF f:=⟨hf.1,λx l=>(hf.2 x l).1⟩;have h0:0<f.length:=h0;repeat'(first|exact trivial|refine eS rfl ?_|refine AB ?_|refine rX e ?_ ?_|refine rC ?_ ?_<;>intro b<;>try(cases b;done))
 refine AK (ι:={s:Nat×Int//s.1<=p.length/\(0<=s.2/\s.2<(f.length:Int))/\CR f 0 p=CR f s.2 (p.drop s.1)}) (λs=>⟨[(2,.bp 2 [] 0),(6,.p T3 s.1.2),(11,.p Fv p),(12,.p (.int .i64) (p.length:Int)),(13,.p (.int .i64) (s.1.1:Int))],[(2,.box 25 true [.p FY f])]⟩) (λs=>p.length-s.1.1) ⟨(0,0),IN _,⟨AEj 0,by show (0:Int)<_;omega⟩,rfl⟩ (AC [(2,.nm 2)] rfl rfl ?_ ?_) (λs=>?_)
 ·first|exact eN|refine eM ?_
 ·first|exact eN|refine eM ?_
 ·obtain⟨⟨k,n⟩,hk,hn,d⟩:=s;simp only at hk hn d ⊢;repeat'(first|exact trivial|refine eS rfl ?_|refine AB ?_|refine rX e ?_ ?_|refine rC ?_ ?_<;>intro b<;>try(cases b;done))
  ·exact b
  ·exact⟨j,hn⟩
  ·have c:k<p.length:=IS.1 (by assumption);have h1:CR f 0 p=(0,false):=by
    rw[d,KN c];simp only[CR];rw[An (by rw[b];simp)]
   exact fI e [.tmp 4,.tmp 5] (by rw[h1];exact eR)
  ·omega
  ·have c:k<p.length:=IS.1 (by assumption);have h1:=d;rw[KN c]at h1;simp only[CR]at h1;rw[BY b]at h1;obtain⟨a,ha,-,h⟩:=YB b;have g:=A6 hf ha;rw[h]at g;refine⟨⟨(k+1,(Ex (f.getD n.toNat (0,[])).2 (p.getD k 0)).1),c,g,h1⟩,by simp only;omega,AC [(2,.nm 2)] rfl rfl ?_ ?_⟩
   ·first|exact eN|refine eM ?_
   ·first|exact eN|refine eM ?_
  ·have c:p.drop k=[]:=By (RY.1 b);rw[c]at d;exact fI e [.tmp 4,.tmp 5] (by rw[d];first|exact eR|refine WL ?_;exact⟨rfl,rfl⟩)
end
def A8 (h:AG):Int:=YO h (sb [65,82,71,83])
def Gf (h:AG) (i:Nat):List Int:=A8 h :: (List.replicate i (BH h).rest++[(BH h).first])
theorem yR (h:AG) (i:Nat):(Gf h i).length=i+2:=by simp[Gf]
def HP (pl:Nat->List Int):Nat->List (List AD)->List (List AD)
 | _,[]=>[]
 | i,k :: l=>Aq (pl i) k :: HP pl (i+1) l
noncomputable def CX (h:AG) (pl:Nat->List Int):Nat->List AD->List (List AD)->List AD×Bool
 | _,f,[]=>(f,true)
 | i,f,k :: l=>if (HO h f (Aq (pl i) k)).2=true then CX h pl (i+1) (HO h f (Aq (pl i) k)).1 l else ([],false)
theorem PT {pl:Nat->List Int} {x:List AD}:∀ {l:List (List AD)} {i:Nat},x∈HP pl i l->∃j,j<l.length/\x=Aq (pl (i+j)) (l.getD j [])
 | k :: l,i,h=>by
  rcases DO.1 h with rfl|h
  ·exact⟨0,by simp,rfl⟩
  ·obtain⟨j,a,rfl⟩:=PT h;exact⟨j+1,by simpa using a,by rw[show i+(j+1)=i+1+j by omega];rfl⟩
theorem YC {h:AG} {pl:Nat->List Int}:∀ {l:List (List AD)} {i:Nat} {f:List AD},(∀x∈HP pl i l,x.length<=100)->(CX h pl i f l).1.length<=f.length+100*l.length
 | [],i,f,_=>NO _
 | k :: l,i,f,c=>by
  unfold CX;split
  ·have h1:=eB (h:=h) (a:=f) (b:=Aq (pl i) k);have e:=c _ (ADH (a:=Aq (pl i) k) (l:=HP pl (i+1) l));have g:=YC (h:=h) (pl:=pl) (l:=l) (i:=i+1) (f:=(HO h f (Aq (pl i) k)).1) λx d=>c x (OF _ d);simp only[OS];omega
  ·simp
section
variable {h:AG} (hh:d7 h)
include hh
theorem YD {pl:Nat->List Int}:∀(l:List (List AD)) (i:Nat) (f:List AD) (L:List (List AD)),Ji h L (f,true)->(∀x∈L,VF h x)->(∀x∈HP pl i l,VF h x/\x.length<=100)->f.length+100*l.length<=10000->Ji h (L++HP pl i l) (CX h pl i f l)
 | [],i,f,L,H,o,q,r=>by
  show Ji h (L++[]) (f,true);rw[Rq];exact H
 | k :: l,i,f,L,H,o,q,r=>by
  have hu:=q _ (ADH (a:=Aq (pl i) k) (l:=HP pl (i+1) l));have g:=H.vf rfl;simp only[OS]at r;have v:=eB (h:=h) (a:=f) (b:=Aq (pl i) k);have hs:Ji h (L++[Aq (pl i) k]) (HO h f (Aq (pl i) k)):=by
   refine(yM hh g.wt.1 hu.1 (by have:=hu.2;show f.length+_<=10000;omega)).congr λX j=>?_;rw[X4,Hd];constructor
   ·rintro⟨⟨m,d⟩,s⟩ x t;rcases No.1 t with c|c
    ·exact A4t hh.ok o g.wt.1 j.1 g.hom d x c
    ·rw[Rm.1 c];exact s
   ·intro n;exact⟨g.least X j λx d=>n x (TB _ d),n _ (AE8 _ (Rm.2 rfl))⟩
  show Ji h (L++Aq (pl i) k :: HP pl (i+1) l) (CX h pl i f (k :: l));unfold CX;split
  ·rename_i p;have:=YD l (i+1) (HO h f (Aq (pl i) k)).1 (L++[Aq (pl i) k]) (by rw[<-p];exact hs) (λx d=>by
    rcases No.1 d with c|c
    ·exact o x c
    ·rw[Rm.1 c];exact hu.1) (λx d=>q x (OF _ d)) (by omega)
   rwa [Rl,List.singleton_append]at this
  ·rename_i p;refine .inr ⟨rfl,λX j n=>?_⟩;rcases hs with ⟨e,-⟩|⟨-,u⟩
   ·exact p e
   ·refine u X j λx d=>n x ?_;rcases No.1 d with c|c
    ·exact TB _ c
    ·exact AE8 _ (by rw[Rm.1 c];exact ADH)
omit hh in
theorem A1d {f:List AD} (a:Wt h f):Ji h [f] (f,true):=.inl ⟨rfl,a,Hd.2 ⟨id,Xh a.1.str⟩,λ_ _ b=>Hd.1 b⟩
end
theorem pE {h:AG} (s:Xq h) {X g:List AD} (j:VF h X) (q:VF h g) {p:List Int} {n:Int} (t:B3 X 0 p=some n) {v:Int->Int} (k:Zt h g [] X v) (v0:v 0=n):∃m,Ln h (Aq p g) X m:=by
 obtain⟨m,c,e⟩:=kK s j.good j.pos j.ty j.str t;have C:=Fe p g;have A:=aB p;have z:=q.pos;have l:=λi b f=>Mq (p:=p) (g:=g) (i:=i) b f;have o:=λy u w=>LK (p:=p) (g:=g) (y:=y) u w;refine⟨λi=>if i<(p.length:Int) then m i else v (i-p.length),?_,λi b f=>?_,λi b f=>?_,λi b f x d=>?_⟩
 ·try simp only
  split
  ·exact c.zero
  ·have r:(p.length:Int)=0:=by omega
   rw[r]at e ⊢;rw[Int.sub_zero,v0,<-e];exact c.zero
 ·try simp only
  split
  ·exact c.rng i b (by omega)
  ·exact k.rng _ (by omega) (by omega)
 ·try simp only
  split
  ·rename_i hi;have:=c.ty i b (by omega);rw[X0 p b hi]at this;rw[l i b hi];exact this
  ·have:=k.ty (i-p.length) (by omega) (by omega);rw[show i.toNat=((p.length:Int)+(i-p.length)).toNat by omega,o _ (by omega) (by omega)];exact this
 ·try simp only
  split
  ·rename_i hi;rw[AQ,l i b hi]at d;have:=c.arc i b (by omega) x (by rw[AQ,X0 p b hi];exact d);rw[this];rw[Rm.1 d];try simp only
   split
   ·rfl
   ·rw[show i+1=(p.length:Int) by omega,AFA,v0,e]
  ·rename_i hi;rw[AQ,show i.toNat=((p.length:Int)+(i-p.length)).toNat by omega,o _ (by omega) (by omega)]at d;obtain⟨a,ha,rfl⟩:=PQ.1 d;have B:=A6 q.good ha;try simp only
   rw[An (by omega),show a.2+(p.length:Int)-p.length=a.2 by omega];exact k.arc _ (by omega) (by omega) a ha
theorem kR {h:AG} {f:List AD} (vf:VF h f) {n e:Int} (h0:0<=DH (AQ f n) e) (p:List Int):B3 f n (e :: p)=B3 f (DH (AQ f n) e) p:=by
 show (if YN (AQ f n) e<0 then none else B3 f (YN (AQ f n) e) p)=_;rw[A9U (Ic vf.str n) h0,An (by omega)]
theorem YE {h:AG} {w:LW} {f:List AD} (vf:VF h f):∀(k:Nat) (a out:List Int) (n:Int) (l:List Int) (b:Bool),RI h w f k a out n=(l,b,0)->∃t,l=out++t/\∀i,i<t.length->B3 f n (List.replicate i w.rest++[w.first])=some (t.getD i 0)
 | 0,a,out,n,l,b,e=>by
  simp[RI]at e
 | k+1,a,out,n,l,b,e=>by
  unfold RI at e;split at e
  ·simp at e
  ·split at e
   ·have:=ADB (λx=>x.1) e;exact⟨[],by rw[Rq];exact this.symm,λi hi=>by simp at hi⟩
   ·split at e
    ·have:=ADB (λx=>x.1) e;exact⟨[],by rw[Rq];exact this.symm,λi hi=>by simp at hi⟩
    ·split at e
     ·simp at e
     ·rename_i h1 d h0;have c:BQ h w (f.getD n.toNat (0,[]))=2:=by
       unfold BQ at h1 d h0 ⊢;grind
      obtain⟨c1,c2⟩:=aD c;obtain⟨t,rfl,g⟩:=YE vf k _ _ _ _ _ e;refine⟨DH (f.getD n.toNat (0,[])).2 w.first :: t,by simp,λi hi=>?_⟩;cases i with
      | zero=>exact kR vf c1 []
      | succ i =>
       rw[AEM,ADQ,kR vf c2];exact g i (by simpa using hi)
theorem kS {h:AG} {f:List AD} {n:Int} {l:List Int} {b:Bool} (e:Ak h f n=(l,b,0)):PR h=true:=by
 unfold Ak at e;split at e
 ·assumption
 ·simp at e
theorem pF {h:AG} {f:List AD} (vf:VF h f) {n:Int} {l:List Int} {b:Bool} (a:B3 f 0 [A8 h]=some n) (e:Ak h f n=(l,b,0)) {i:Nat} (hi:i<l.length):B3 f 0 (Gf h i)=some (l.getD i 0):=by
 unfold Ak at e;rw[BY (kS e)]at e;obtain⟨t,rfl,d⟩:=YE vf _ _ _ _ _ _ e;have h1:=d i hi;have a:(if YN (AQ f 0) (A8 h)<0 then none else some (YN (AQ f 0) (A8 h)))=some n:=a;split at a
 ·cases a
 ·rename_i c;injection a with a
  show (if YN (AQ f 0) (A8 h)<0 then none else B3 f (YN (AQ f 0) (A8 h)) _)=_;rw[An c,a];exact h1
theorem A4A {h:AG} (e:PR h=true) (ha:0<=A8 h) (i:Nat):FtP h (Gf h i):=by
 obtain⟨⟨h1,b⟩,-⟩:=kQ e;have c:=eD h (sb [70,73,82,83,84]);have d:=eD h (sb [82,69,83,84]);have f:=eD h (sb [65,82,71,83]);intro x a;rcases DO.1 a with rfl|a
 ·exact⟨ha,f.2⟩
 ·rcases No.1 a with a|a
  ·rw[(AFg.1 a).2];exact⟨b,d.2⟩
  ·rw[Rm.1 a];exact⟨h1,c.2⟩
def CF (h:AG) (ar:Int) (f:List AD):Int :=
 if ar<1\/2<ar then 2 else if Ag h f≠0 then Ag h f else if A8 h<0 then 13 else if (CR f 0 [A8 h]).2=false then 13
 else if (Ak h f (CR f 0 [A8 h]).1).2.2≠0\/(Ak h f (CR f 0 [A8 h]).1).2.1=false\/((Ak h f (CR f 0 [A8 h]).1).1.length:Int)≠ar then 13 else 0
structure PU (h:AG) (ar:Int) (f:List AD):Prop where
 arb:1<=ar/\ar<=2
 chk:Ag h f=0
 args:0<=A8 h
 lw:PR h=true
 walk:∀i:Nat,(i:Int)<ar->∃n,B3 f 0 (Gf h i)=some n
theorem yS {h:AG} {ar:Int} {f:List AD} (vf:Ag h f=0->VF h f) (e:CF h ar f=0):PU h ar f:=by
 unfold CF at e;split at e
 ·cases e
 ·rename_i h1;split at e
  ·rename_i a;exact absurd e a
  ·rename_i a;have a:Ag h f=0:=by simpa using a
   have v:=vf a;split at e
   ·cases e
   ·rename_i j;split at e
    ·cases e
    ·rename_i d;split at e
     ·cases e
     ·rename_i b;have hp:=RJ v.good v.str [A8 h] 0;cases c:B3 f 0 [A8 h] with
      | none =>
       rw[c]at hp;rw[hp]at d;exact absurd rfl d
      | some n =>
       rw[c]at hp;have hp:CR f 0 [A8 h]=(n,true):=hp;rw[hp]at b;have b:(Ak h f n).2.2=0/\(Ak h f n).2.1=true/\((Ak h f n).1.length:Int)=ar:=by
        refine⟨?_,?_,?_⟩<;>grind
       have g:Ak h f n=((Ak h f n).1,true,0):=AFC rfl (AFC b.2.1 b.1);exact⟨by omega,a,by omega,kS g,λi hi=>⟨_,pF v c g (by omega)⟩⟩
section
open Go
end
section
attribute [local go_sem] pD S0 atS Db
theorem VF.h0 {h:AG} {f:List AD} (vf:VF h f):0<h.1.length:=by
 have hp:=vf.pos;have:=vf.ty _ (AE f (0,[]) (k:=0) (by omega));omega
noncomputable def A1e (h:AG) (f:List AD) (p:List Int) (g:List AD):List AD×Bool:=EV h f (Aq p g)
noncomputable def A9Z:Aa:={ ins:=[ER,DR,Fv,DR],pre:=λ(h,f,p,g,_)=>HU h/\VF h f/\VF h g/\FtP h p/\List.length p<=20/\List.length f<=60/\List.length g<=20,out:=λ(h,f,p,g,_)=>[.p DR (A1e h f p g).1,.p .bool (A1e h f p g).2] }
theorem AA0:Ad Tryz.prog 126 A9Z:=by
 refine fK [0,1,2,3,4,5,7,8,9] Tryz.func126 Tryz.ntmps126 (AF A4y (AF A4r AH)) ?_;rintro w0 O0 ⟨⟨i,hf⟩,f,p,g,u⟩ a-⟨hu,vf,b,d,lp,lf,j⟩;have e:=X6 vf.h0 b d (by omega) (by omega);have h:=Fe p g;simp only[A9Z,AM];repeat'(first|exact trivial|refine eS rfl ?_|refine AB ?_|refine rX a ?_ ?_|refine rC ?_ ?_<;>intro c<;>try(cases c;done))
 ·exact⟨⟨by omega,b.good⟩,hu,vf,e,by omega⟩
 ·exact fI a [.cell 8 25,.tmp 9] (by unfold A1e;exact eR)
def RK (f:List AD) (p:List Int):List AD:=if (CR f 0 p).2=true then AN f (CR f 0 p).1 else []
def AA1:Aa:={ ins:=[DR,Fv],pre:=λ(f,p,_)=>AU f/\LH f/\0<List.length f/\((CR f 0 p).2=true->0<=(CR f 0 p).1/\(CR f 0 p).1<(List.length f:Int)),out:=λ(f,p,_)=>[.p DR (RK f p),.p .bool (CR f 0 p).2] }
theorem AA2:Ad Tryz.prog 79 AA1:=by
 refine fK [0,1,2,4,5,6,7,15] Tryz.func79 Tryz.ntmps79 (AF A8N (AF A3F AH)) ?_;rintro w0 O0 ⟨f,p,u⟩ b-⟨hf,hs,h0,c⟩;simp only[AA1,AM];repeat'(first|exact trivial|refine eS rfl ?_|refine AB ?_|refine rX b ?_ ?_|refine rC ?_ ?_<;>intro a<;>try(cases a;done))
 ·exact⟨hf,h0⟩
 ·exact fI b [.cell 4 25,.tmp 5] (by unfold RK;rw[a,An (by simp)];exact eR)
 ·exact⟨hf,hs,c a⟩
 ·exact fI b [.cell 4 25,.tmp 5] (by unfold RK;rw[a,BY rfl];exact eR)
end
noncomputable def EW (h:AG) (ar:Int) (f:List AD) (A:List (List AD)):List AD×Bool :=
 if (A.length:Int)≠ar then ([],false) else if (CX h (Gf h) 0 f A).2=true then (Ie (CX h (Gf h) 0 f A).1 (A8 h),true) else ([],false)
structure RA (h:AG) (ar:Int) (f:List AD) (A:List (List AD)):Prop where
 hh:d7 h
 top:Xq h
 vf:VF h f
 lf:f.length<=12
 ok:PU h ar f
 va:∀x∈A,VF h x/\x.length<=12
 la:A.length<=3
theorem RA.wt {h:AG} {ar:Int} {f:List AD} {A:List (List AD)} (r:RA h ar f A):Wt h f:=⟨r.vf,A16 r.ok.chk⟩
theorem RA.un {h:AG} {ar:Int} {f:List AD} {A:List (List AD)} (r:RA h ar f A):∀x∈HP (Gf h) 0 A,VF h x/\x.length<=100:=λx b=>by
 obtain⟨j,a,rfl⟩:=PT b;have hp:=yR h (0+j);have hk:=r.va _ (AE A [] a);have c:=r.la;exact⟨X6 r.vf.h0 hk.1 (A4A r.ok.lw r.ok.args _) (by omega) (by omega),by rw[Fe];omega⟩
theorem RA.all {h:AG} {ar:Int} {f:List AD} {A:List (List AD)} (r:RA h ar f A):Ji h (f :: HP (Gf h) 0 A) (CX h (Gf h) 0 f A) :=
 YD r.hh A 0 f [f] (A1d r.wt) (by simp[r.vf]) r.un (by have:=r.lf;have:=r.la;omega)
theorem RA.len {h:AG} {ar:Int} {f:List AD} {A:List (List AD)} (r:RA h ar f A):(CX h (Gf h) 0 f A).1.length<=312:=by
 have:=YC (h:=h) (pl:=Gf h) (l:=A) (i:=0) (f:=f) λx a=>(r.un x a).2;have:=r.lf;have:=r.la;omega
theorem RA.res {h:AG} {ar:Int} {f:List AD} {A:List (List AD)} (r:RA h ar f A) (a:(EW h ar f A).2=true):(A.length:Int)=ar/\TU h (f :: HP (Gf h) 0 A) (CX h (Gf h) 0 f A).1/\EW h ar f A=(Ie (CX h (Gf h) 0 f A).1 (A8 h),true):=by
 unfold EW at a ⊢;by_cases h1:(A.length:Int)≠ar
 ·rw[BY h1]at a;cases a
 ·rw[An h1]at a ⊢;by_cases b:(CX h (Gf h) 0 f A).2=true
  ·rw[BY b];exact⟨by omega,r.all.vf b,rfl⟩
  ·rw[An b]at a;cases a
theorem kT {h:AG} {f:List AD} (vf:VF h f) {p:List Int} {n:Int} (a:B3 f 0 p=some n):CR f 0 p=(n,true):=by
 rw[RJ vf.good vf.str,a]
theorem A4B {h:AG} {f:List AD} (vf:VF h f) {p:List Int} {n:Int} (a:B3 f 0 p=some n):RK f p=AN f n:=by
 unfold RK;rw[kT vf a,BY rfl]
theorem A88 {h:AG} {f:List AD} (vf:VF h f) {n:Int} (n0:0<=n) (n1:n<(f.length:Int)):(AN f n).length<=f.length:=by
 rw[Ib];exact(Hc vf.good n0 n1).ok.len
theorem A89 {h:AG} (h0:0<h.1.length):VF h [((0:Int),[])]:=by
 refine⟨⟨by decide,λx b=>?_⟩,by decide,λx b=>?_,λx b=>?_,λx b a ha=>?_,rfl,λi d c=>?_⟩
 ·rw[Rm.1 b];exact⟨by decide,λa ha=>by cases ha⟩
 ·rw[Rm.1 b];exact⟨AEj _,by omega⟩
 ·rw[Rm.1 b];exact List.Pairwise.nil
 ·rw[Rm.1 b]at ha;cases ha
 ·simp only[RW]at c;omega
theorem kU {h:AG} {ar:Int} {f:List AD} {A:List (List AD)} (r:RA h ar f A) (d:(A.length:Int)=ar) (a:∀i,i<A.length->∃m,Ln h (Aq (Gf h i) (A.getD i [])) f m):CX h (Gf h) 0 f A=(f,true)/\EW h ar f A=(Ie f (A8 h),true):=by
 have hT:Ji h (f :: HP (Gf h) 0 A) (f,true):=.inl ⟨rfl,r.wt,λx b=>by
  rcases DO.1 b with rfl|b
  ·exact⟨id,Xh r.vf.str⟩
  ·obtain⟨j,c,rfl⟩:=PT b;rw[ADG];exact a j c,λX _ a=>a f ADH⟩
 have:=r.all.uniq r.hh.hu hT;refine⟨this,?_⟩;unfold EW;rw[this,An (by omega),BY rfl]
theorem VL {h:AG} {ar:Int} {f:List AD} (hh:d7 h) (b:Xq h) (vf:VF h f) (ok:PU h ar f) {i:Nat} (hi:(i:Int)<ar):(CR f 0 (Gf h i)).2=true/\(VF h (RK f (Gf h i))/\(RK f (Gf h i)).length<=f.length)/\(∃m,Ln h (Aq (Gf h i) (RK f (Gf h i))) f m)/\∃m,Ln h (Aq (Gf h i) [((0:Int),[])]) f m:=by
 obtain⟨n,hn⟩:=ok.walk i hi;have a:=X3 vf.good vf.pos _ _ hn;rw[kT vf hn,A4B vf hn];obtain⟨h1,e⟩:=A4w vf.pf a.1 a.2;have c:=A4v vf.pf a.1 a.2;obtain⟨m,d,-⟩:=kK b vf.good vf.pos vf.ty vf.str hn;exact⟨rfl,⟨c,A88 vf a.1 a.2⟩,pE b vf c hn h1 e,m,d⟩
section
theorem kV (s:ByteArray) (l:List G2) {k:Nat} (h:k<l.length):yO s k (l.drop k)=if AY (l.getD k Tz).1 s=true then (k:Int) else yO s (k+1) (l.drop (k+1)):=by
 rw[On h];have e:l.getD k Tz=l[k]:=by simp[AS,h]
 rw[e];rfl
theorem kW (s:ByteArray) (l:List ZS) {k:Nat} (h:k<l.length):ftG s k (l.drop k)=if AY (l.getD k (ByteArray.empty,0)).1 s=true then (k:Int) else ftG s (k+1) (l.drop (k+1)):=by
 rw[On h];have e:l.getD k (ByteArray.empty,0)=l[k]:=by simp[AS,h]
 rw[e];rfl
def aE:Aa:={ ins:=[ER,T9],pre:=λ_=>True,out:=λ(h,s,_)=>[.p T3 (He h s)],lend:=true }
attribute [local go_sem] aE
theorem Nf:Ad Tryz.prog 60 aE:=by
 refine fK [0,1,2,4,5,10,20] Tryz.func60 Tryz.ntmps60 AH ?_;rintro w0 O0 ⟨⟨a,hf⟩,s,u⟩ e ⟨⟨⟨g,-⟩,-⟩,-⟩ -;simp only[AP]at g;simp only[aE,AM];repeat'(first|exact trivial|refine eS rfl ?_|refine AB ?_|refine rX e ?_ ?_|refine rC ?_ ?_<;>intro b<;>try(cases b;done))
 refine AK (ι:={k:Nat//k<=a.length/\yO s k (a.drop k)=He (a,hf) s}) (λk=>⟨[(1,.p T9 s),(2,.bp 2 [] 0),(5,.p (.int .i64) (k.1:Int))],[(2,.box 31 true [.p WN a,.p YV hf])]⟩) (λk=>a.length-k.1) ⟨0,IN _,rfl⟩ (eW [(2,.nm 2)]) (λk=>?_)
 ·obtain⟨k,hk,c⟩:=k;have f:=λh:k<a.length=>kV s a h;simp only;repeat'(first|exact trivial|refine eS rfl ?_|refine AB ?_|refine rX e ?_ ?_|refine rC ?_ ?_<;>intro b<;>try(cases b;done))
  ·exact b
  ·have d:k<a.length:=by exact eV
   rw[f d,BY b]at c;exact fI e [.tmp 4] (by rw[<-c];exact eR)
  ·omega
  ·have d:k<a.length:=by exact eV
   rw[f d,An (by rw[b];simp)]at c;exact⟨⟨k+1,by omega,c⟩,by simp only;omega,eW [(2,.nm 2)]⟩
  ·have d:a.drop k=[]:=By (by exact eV);rw[d]at c;exact fI e [.tmp 4] (by rw[<-c];first|exact eR|refine WL ?_;rfl)
def PW:Aa:={ ins:=[ER,T9],pre:=λ_=>True,out:=λ(h,s,_)=>[.p T3 (YO h s)],lend:=true }
attribute [local go_sem] PW
theorem eE:Ad Tryz.prog 70 PW:=by
 refine fK [0,1,2,4,5,10,20] Tryz.func70 Tryz.ntmps70 AH ?_;rintro w0 O0 ⟨⟨f,hf⟩,s,u⟩ d ⟨⟨-,g,-⟩,-⟩ -;simp only[AP]at g;simp only[PW,AM];repeat'(first|exact trivial|refine eS rfl ?_|refine AB ?_|refine rX d ?_ ?_|refine rC ?_ ?_<;>intro a<;>try(cases a;done))
 refine AK (ι:={k:Nat//k<=hf.length/\ftG s k (hf.drop k)=YO (f,hf) s}) (λk=>⟨[(1,.p T9 s),(2,.bp 2 [] 0),(5,.p (.int .i64) (k.1:Int))],[(2,.box 31 true [.p WN f,.p YV hf])]⟩) (λk=>hf.length-k.1) ⟨0,IN _,rfl⟩ (eW [(2,.nm 2)]) (λk=>?_)
 ·obtain⟨k,hk,b⟩:=k;have e:=λh:k<hf.length=>kW s hf h;simp only;repeat'(first|exact trivial|refine eS rfl ?_|refine AB ?_|refine rX d ?_ ?_|refine rC ?_ ?_<;>intro a<;>try(cases a;done))
  ·exact a
  ·have c:k<hf.length:=by exact eV
   rw[e c,BY a]at b;exact fI d [.tmp 4] (by rw[<-b];exact eR)
  ·omega
  ·have c:k<hf.length:=by exact eV
   rw[e c,An (by rw[a];simp)]at b;exact⟨⟨k+1,by omega,b⟩,by simp only;omega,eW [(2,.nm 2)]⟩
  ·have c:hf.drop k=[]:=By (by exact eV);rw[c]at b;exact fI d [.tmp 4] (by rw[<-b];first|exact eR|refine WL ?_;rfl)
def A4C:Aa:=PW
attribute [local go_sem] A4C
theorem YF:Ad Tryz.prog 67 PW:=by
 refine fK [0,1,2,4,5,6,8,9,10,11,20] Tryz.func67 Tryz.ntmps67 AH ?_;rintro w0 O0 ⟨⟨g,hf⟩,s,u⟩ b ⟨⟨-,f,-⟩,-⟩ -;simp only[AP]at f;simp only[PW,AM];repeat'(first|exact trivial|refine eS rfl ?_|refine AB ?_|refine rX b ?_ ?_|refine rC ?_ ?_<;>intro a<;>try(cases a;done))
 refine AK (ι:={k:Nat//k<=hf.length/\ftG s k (hf.drop k)=YO (g,hf) s}) (λk=>⟨[(1,.p T9 s),(8,.p YV hf),(9,.p (.int .i64) (hf.length:Int)),(10,.p (.int .i64) (k.1:Int))],[]⟩) (λk=>hf.length-k.1) ⟨0,IN _,rfl⟩ (eW []) (λk=>?_)
 ·obtain⟨k,hk,c⟩:=k;have e:=λh:k<hf.length=>kW s hf h;simp only;repeat'(first|exact trivial|refine eS rfl ?_|refine AB ?_|refine rX b ?_ ?_|refine rC ?_ ?_<;>intro a<;>try(cases a;done))
  ·exact a
  ·refine cP 5 b ?_ ?_
   ·trivial
   ·refine ADT (j:=.i64) b (by kernel_rfl) ?_;refine rL b ?_ ?_
    ·trivial
    ·repeat'(first|exact trivial|refine eS rfl ?_|refine AB ?_|refine rX b ?_ ?_|refine rC ?_ ?_<;>intro a<;>try(cases a;done))
     ·have d:k<hf.length:=by exact eV
      rw[e d,BY a]at c;exact fI b [.tmp 4] (by rw[<-c];exact eR)
     ·omega
     ·have d:k<hf.length:=by exact eV
      rw[e d,An (by rw[a];simp)]at c;exact⟨⟨k+1,by omega,c⟩,by simp only;omega,eW []⟩
  ·have d:hf.drop k=[]:=By (by exact eV);rw[d]at c;exact fI b [.tmp 4] (by rw[<-c];first|exact eR|refine WL ?_;rfl)
theorem A8a (s:ByteArray) (t:G2):BJ Tryz.prog 180 [.p mM t,.bp 1 [] 0] [(1,.box 9 false [.p T9 s])] [1] (λres c=>res=.p .bool (AY t.1 s)/\c=[(1,.box 9 false [.p T9 s])]):=by
 refine Kt [0,1,2,3] [] [] Tryz.func180 Tryz.ntmps180 AH ?_;intro w0 K O0 ρ0 a d e;simp only[Ao];repeat'(first|exact trivial|refine eS rfl ?_|refine AB ?_|refine rX a ?_ ?_|refine rC ?_ ?_<;>intro b<;>try(cases b;done))
 refine Ev.ent (σ':=⟨[(3,.p .bool (AY t.1 s))],[(1,.box 9 false [.p T9 s])]⟩) ?_ (AC [(1,.nm 1)] rfl rfl ?_ ?_)
 ·exact fM a [.tmp 3] (.p .bool (AY t.1 s)) eT ⟨rfl,rfl⟩
 ·exact eN
 ·exact eN
theorem A1f (l:List G2) (s:ByteArray):BJ Tryz.prog 177 [.p WN l,.clo 180 [1]] [(1,.box 9 false [.p T9 s])] [1] (λres g=>res=.p T3 (yO s 0 l)/\g=[(1,.box 9 false [.p T9 s])]):=by
 refine Kt [0,1,4,5,7,8,9,16] [] [] Tryz.func177 Tryz.ntmps177 AH ?_;intro w0 K O0 ρ0 b e j;have i:l.length<=140737488355328:=e.1.1;simp only[Ao];repeat'(first|exact trivial|refine eS rfl ?_|refine AB ?_|refine rX b ?_ ?_|refine rC ?_ ?_<;>intro a<;>try(cases a;done))
 refine AK (ι:={k:Nat//k<=l.length/\yO s k (l.drop k)=yO s 0 l}) (λk=>⟨[(0,.p WN l),(1,.clo 180 [1]),(7,.p (.int .i64) (l.length:Int)),(8,.p (.int .i64) (k.1:Int))],[(1,.box 9 false [.p T9 s])]⟩) (λk=>l.length-k.1) ⟨0,IN _,rfl⟩ (eW [(1,.nm 1)]) (λk=>?_)
 ·obtain⟨k,hk,hf⟩:=k;have f:=λh:k<l.length=>kV s l h;simp only;repeat'(first|exact trivial|refine eS rfl ?_|refine AB ?_|refine rX b ?_ ?_|refine rC ?_ ?_<;>intro a<;>try(cases a;done))
  ·have c:k<l.length:=IS.1 a;have d:=f c;refine cP 5 b ?_ ?_
   ·exact a
   ·refine rM b (A8a s (l.getD k Tz)) [(1,.nm 1)] [] ?_ ?_ ?_
    ·exact eN
    ·exact eN
    ·rintro _ _ ⟨rfl,rfl⟩;refine⟨[(1,.nm 1)],.p .bool (AY (l.getD k Tz).1 s),[(1,.box 9 false [.p T9 s])],rfl,rfl,?_,?_,rfl,rfl,CP ?_⟩
     ·exact eN
     ·exact eN
     ·repeat'(first|exact trivial|refine eS rfl ?_|refine AB ?_|refine rX b ?_ ?_|refine rC ?_ ?_<;>intro a<;>try(cases a;done))
      ·rw[BY a,hf]at d;refine Ev.ent (σ':=⟨[(4,.p (.int .i64) (k:Int))],[(1,.box 9 false [.p T9 s])]⟩) ?_ (AC [(1,.nm 1)] rfl rfl ?_ ?_)
       ·exact fM b [.tmp 4] (.p T3 (k:Int)) eT ⟨by rw[d],rfl⟩
       ·exact eN
       ·exact eN
      ·omega
      ·rw[An (by rw[a];simp)]at d;exact⟨⟨k+1,c,d.symm.trans hf⟩,by simp only;omega,eW [(1,.nm 1)]⟩
  ·have c:l.drop k=[]:=By (RY.1 a);rw[c]at hf;have hf:(-1:Int)=yO s 0 l:=hf;refine Ev.ent (σ':=⟨[(4,.p (.int .i64) (-1))],[(1,.box 9 false [.p T9 s])]⟩) ?_ (AC [(1,.nm 1)] rfl rfl ?_ ?_)
   ·exact fM b [.tmp 4] (.p T3 (-1)) eT ⟨by rw[hf],rfl⟩
   ·exact eN
   ·exact eN
def yT:Aa:={ ins:=[ER,T9],pre:=λ_=>True,out:=λ(h,s,_)=>[.p T3 (He h s)],lend:=true }
attribute [local go_sem] yT
theorem A8b:Ad Tryz.prog 138 yT:=by
 refine fK [0,1,2,3,4] Tryz.func138 Tryz.ntmps138 AH ?_;rintro w0 O0 ⟨⟨c,hf⟩,s,u⟩ a - -;simp only[yT,AM];refine Ev.ent (σ':=⟨[(0,.p ER (c,hf)),(1,.p T9 s)],[]⟩) ?_ (AC [] rfl rfl ?_ ?_)
 ·repeat'(first|exact trivial|refine eS rfl ?_|refine AB ?_|refine rX a ?_ ?_|refine rC ?_ ?_<;>intro b<;>try(cases b;done))
  refine cP 3 a ?_ ?_
  ·trivial
  ·refine rM a (A1f c s) [(1,.nm 3)] [] ?_ ?_ ?_
   ·exact eN
   ·exact eN
   ·rintro _ _ ⟨rfl,rfl⟩;refine⟨[(3,.nm 1)],.p T3 (yO s 0 c),[(3,.box 9 false [.p T9 s])],rfl,rfl,?_,?_,rfl,rfl,?_⟩
    ·exact eN
    ·exact eN
    ·refine rL a ?_ ?_
     ·trivial
     ·repeat'(first|exact trivial|refine eS rfl ?_|refine AB ?_|refine rX a ?_ ?_|refine rC ?_ ?_<;>intro b<;>try(cases b;done))
      exact fI a [.tmp 4] (by unfold He;exact eR)
 ·exact eN
 ·exact eN
theorem Ms (h:AG):He h ⟨#[108,105,115,116]⟩=(BH h).list/\He h ⟨#[99,111,110,115]⟩=(BH h).cons/\He h ⟨#[110,117,108,108]⟩=(BH h).null/\He h ⟨#[100,108,105,115,116]⟩=(BH h).dlist/\YO h ⟨#[70,73,82,83,84]⟩=(BH h).first/\YO h ⟨#[82,69,83,84]⟩=(BH h).rest/\YO h ⟨#[76,73,83,84]⟩=(BH h).head/\YO h ⟨#[76,65,83,84]⟩=(BH h).last:=⟨rfl,rfl,rfl,rfl,rfl,rfl,rfl,rfl⟩
theorem S2 (h:AG):((BH h).list<(h.1.length:Int)/\(BH h).cons<(h.1.length:Int)/\(BH h).null<(h.1.length:Int)/\(BH h).dlist<(h.1.length:Int))/\(-1<=(BH h).list/\-1<=(BH h).cons/\-1<=(BH h).null/\-1<=(BH h).dlist) :=
 ⟨⟨(HE h _).2,(HE h _).2,(HE h _).2,(HE h _).2⟩,(HE h _).1,(HE h _).1,(HE h _).1,(HE h _).1⟩
theorem S3 {α:Type} {f:List α} {n:Int} (h:0<=n/\n<(f.length:Int)):n.toNat<f.length:=by omega
end
section
attribute [local go_sem] aE PW dH cs4 cs5
def RL:Aa:={ ins:=[ER],pre:=λ(h,_)=>GH h,out:=λ(h,_)=>[.p .bool (PR h)],lend:=true }
attribute [local go_sem] RL
theorem pG:Ad Tryz.prog 47 RL:=by
 refine fK [0,1,2,3,4,5,26,44] Tryz.func47 Tryz.ntmps47 (AF Nf (AF eE (AF Mi AH))) ?_;rintro w0 O0 ⟨⟨a,hf⟩,u⟩ d-hk;have hk:GH (a,hf):=hk;obtain⟨f,g,h,i,j,k,l,m⟩:=Ms (a,hf);obtain⟨⟨r,s,t,v⟩,n,o,p,q⟩:=S2 (a,hf);simp only[RL,AM];repeat'(first|exact trivial|refine eS rfl ?_|refine AB ?_|refine rX d ?_ ?_|refine rC ?_ ?_<;>intro e<;>try(cases e;done))
 all_goals simp only[f,g,h,i,j,k,l,m]at *
 ·have c:PR (a,hf)=false:=by
   rw[AEe];intro b;unfold PR at b;simp only[AT,Ff]at b;omega
  exact fI d [.tmp 2] (by rw[c];exact eR)
 ·have c:PR (a,hf)=false:=by
   rw[AEe];intro b;unfold PR at b;simp only[AT,Ff]at b;omega
  exact fI d [.tmp 2] (by rw[c];exact eR)
 ·grind
 ·have c:PR (a,hf)=(A7 (a,hf) (BH (a,hf)).list (BH (a,hf)).cons&&A7 (a,hf) (BH (a,hf)).list (BH (a,hf)).null):=by
   unfold PR;rw[ADZ (by omega),AFs]
  exact fI d [.tmp 2] (by rw[c];exact eR)
def eF:Aa:={ ins:=[ER,DR,T3,T9],pre:=λ(_,f,n,_)=>AU f/\(0:Int)<=n/\n<(List.length f:Int),out:=λ(h,f,n,s,_)=>[.p T3 (DH (List.getD (f:List AD) n.toNat (0,[])).2 (YO h s))],lend:=true }
attribute [local go_sem] eF
theorem YG:Ad Tryz.prog 92 eF:=by
 refine fK [0,1,2,3,4,5,8,9,10,22,36] Tryz.func92 Tryz.ntmps92 (AF eE AH) ?_;rintro w0 O0 ⟨⟨l,hf⟩,f,n,s,u⟩ d-⟨g,hn⟩;have g:AU f:=g;have hn:0<=n/\n<(f.length:Int):=hn;simp only[eF,AM];repeat'(first|exact trivial|refine eS rfl ?_|refine AB ?_|refine rX d ?_ ?_|refine rC ?_ ?_<;>intro a<;>try(cases a;done))
 have o:=(g.2 _ (AE f (0,[]) (S3 hn))).1;generalize m:YO (l,hf) s=e at *;generalize j:(f.getD n.toNat (0,[])).2=L at *;refine AK (ι:={k:Nat//k<=L.length/\DH L e=DH (L.drop k) e}) (λk=>⟨[(2,.p T3 n),(5,.bp 5 [] 0),(9,.p T3 e),(10,.p (.int .i64) (k.1:Int))],[(5,.box 25 true [.p FY f])]⟩) (λk=>L.length-k.1) ⟨0,IN _,rfl⟩ (eW [(5,.nm 5)]) (λk=>?_)
 ·obtain⟨k,hk,b⟩:=k;have i:=λh:k<L.length=>Zr e L h;simp only;repeat'(first|exact trivial|refine eS rfl ?_|refine AB ?_|refine rX d ?_ ?_|refine rC ?_ ?_<;>intro a<;>try(cases a;done))
  all_goals try rw[j]at *
  ·exact hn
  ·exact⟨hn,a⟩
  ·exact⟨hn,by assumption⟩
  ·have c:k<L.length:=by exact eV
   rw[i c,BY a]at b;exact fI d [.tmp 8] (by rw[b];exact eR)
  ·omega
  ·have c:k<L.length:=by exact eV
   rw[i c,An a]at b;exact⟨⟨k+1,by omega,b⟩,by simp only;omega,eW [(5,.nm 5)]⟩
  ·have c:L.drop k=[]:=By (by exact eV);rw[c]at b;exact fI d [.tmp 8] (by rw[b];first|exact eR|refine WL ?_;rfl)
def eG:Aa:={ ins:=[ER,DR,T3],pre:=λ(_,f,n,_)=>AU f/\(0:Int)<=n/\n<(List.length f:Int),out:=λ(h,f,n,_)=>[.p .bool (RH (BH h) (List.getD (f:List AD) n.toNat (0,[])).2)],lend:=true }
attribute [local go_sem] eG
theorem aF:Ad Tryz.prog 140 eG:=by
 refine fK [0,1,2,3,4,6] Tryz.func140 Tryz.ntmps140 (AF YG AH) ?_;rintro w0 O0 ⟨⟨g,hf⟩,f,n,u⟩ b-⟨a,hn⟩;have a:AU f:=a;obtain⟨h,i,j,k,d,e,l,m⟩:=Ms (g,hf);simp only[eG,AM];repeat'(first|exact trivial|refine eS rfl ?_|refine AB ?_|refine rX b ?_ ?_|refine rC ?_ ?_<;>intro c<;>try(cases c;done))
 all_goals simp only[d,e]at *
 ·exact⟨⟨a,hn⟩,λ_=>⟨a,hn⟩⟩
 ·exact fI b [.tmp 6] (by unfold RH;exact eR)
def VM:Aa:={ ins:=[ER,DR,T3],pre:=λ(h,f,n,_)=>(PR h=true/\GH h)/\AU f/\De h f/\(0:Int)<=n/\n<(List.length f:Int),out:=λ(h,f,n,_)=>[.p .bool (Uf h (BH h) (List.getD (f:List AD) n.toNat (0,[])))],lend:=true }
attribute [local go_sem] VM
theorem aG:Ad Tryz.prog 113 VM:=by
 refine fK [0,1,2,3,4,6] Tryz.func113 Tryz.ntmps113 (AF aF (AF Nf (AF Mi AH))) ?_;rintro w0 O0 ⟨⟨a,hf⟩,f,n,u⟩ e-⟨⟨d,hk⟩,b,c,hn⟩;have d:PR (a,hf)=true:=d;have hk:GH (a,hf):=hk;have b:AU f:=b;have c:De (a,hf) f:=c;obtain⟨h,i,j,k,l,m,o,p⟩:=Ms (a,hf);have hn:0<=n/\n<(f.length:Int):=hn;have q:=c _ (AE f (0,[]) (S3 hn));obtain⟨-,t,s,-⟩:=kQ d;obtain⟨⟨-,v1,r,-⟩,-⟩:=S2 (a,hf);simp only[VM,AM];repeat'(first|exact trivial|refine eS rfl ?_|refine AB ?_|refine rX e ?_ ?_|refine rC ?_ ?_<;>intro g<;>try(cases g;done))
 all_goals simp only[h,i,j,k,l,m,o,p]at *
 ·exact⟨⟨b,hn⟩,λ_=>hn,λ_=>⟨⟨⟨s,r⟩,q⟩,hk⟩⟩
 ·exact fI e [.tmp 6] (by unfold Uf;rw[AFu];exact eR)
def VN:Aa:={ ins:=[ER,DR,T3],pre:=λ(h,f,n,_)=>(PR h=true/\GH h)/\AU f/\De h f/\(0:Int)<=n/\n<(List.length f:Int),out:=λ(h,f,n,_)=>[.p .bool (Lh h (BH h) (List.getD (f:List AD) n.toNat (0,[])))],lend:=true }
attribute [local go_sem] VN
theorem A1g:Ad Tryz.prog 94 VN:=by
 refine fK [0,1,2,3,4,6] Tryz.func94 Tryz.ntmps94 (AF YG (AF Nf (AF Mi AH))) ?_;rintro w0 O0 ⟨⟨a,hf⟩,f,n,u⟩ e-⟨⟨d,hk⟩,b,c,hn⟩;have d:PR (a,hf)=true:=d;have hk:GH (a,hf):=hk;have b:AU f:=b;have c:De (a,hf) f:=c;obtain⟨h,i,j,k,l,m,o,p⟩:=Ms (a,hf);have hn:0<=n/\n<(f.length:Int):=hn;have q:=c _ (AE f (0,[]) (S3 hn));obtain⟨-,r,t,-⟩:=kQ d;obtain⟨⟨-,v1,s,-⟩,-⟩:=S2 (a,hf);simp only[VN,AM];repeat'(first|exact trivial|refine eS rfl ?_|refine AB ?_|refine rX e ?_ ?_|refine rC ?_ ?_<;>intro g<;>try(cases g;done))
 all_goals simp only[h,i,j,k,l,m,o,p]at *
 ·exact⟨⟨b,hn⟩,λ_=>⟨b,hn⟩,λ_=>hn,λ_=>⟨⟨⟨r,v1⟩,q⟩,hk⟩⟩
 ·exact fI e [.tmp 6] (by unfold Lh UP;rw[AFu];exact eR)
def RM:Aa:={ ins:=[ER,DR,T3],pre:=λ(h,f,n,_)=>(PR h=true/\GH h)/\AU f/\De h f/\(0:Int)<=n/\n<(List.length f:Int),out:=λ(h,f,n,_)=>[.p .bool (!Uf h (BH h) (List.getD (f:List AD) n.toNat (0,[]))&&OK h (BH h) (List.getD (f:List AD) n.toNat (0,[])))],lend:=true }
attribute [local go_sem] RM
theorem pH:Ad Tryz.prog 95 RM:=by
 refine fK [0,1,2,3,4,6] Tryz.func95 Tryz.ntmps95 (AF aG (AF aF (AF Nf (AF Mi AH)))) ?_;rintro w0 O0 ⟨⟨a,hf⟩,f,n,u⟩ e-⟨⟨d,hk⟩,b,c,hn⟩;have d:PR (a,hf)=true:=d;have hk:GH (a,hf):=hk;have b:AU f:=b;have c:De (a,hf) f:=c;obtain⟨h,i,j,k,l,m,o,p⟩:=Ms (a,hf);have hn:0<=n/\n<(f.length:Int):=hn;have q:=c _ (AE f (0,[]) (S3 hn));obtain⟨-,r,t,-⟩:=kQ d;obtain⟨⟨-,v1,s,-⟩,-⟩:=S2 (a,hf);simp only[RM,AM];repeat'(first|exact trivial|refine eS rfl ?_|refine AB ?_|refine rX e ?_ ?_|refine rC ?_ ?_<;>intro g<;>try(cases g;done))
 all_goals simp only[h,i,j,k,l,m,o,p]at *
 ·exact⟨⟨⟨d,hk⟩,b,c,hn⟩,λ_=>⟨b,hn⟩,λ_=>hn,λ_=>⟨⟨q,r,v1⟩,hk⟩⟩
 ·exact fI e [.tmp 6] (by unfold OK;rw[AFu (A7 _ _ _),<-Bool.and_assoc];exact eR)
def yU:Aa:={ ins:=[Fv,T3],pre:=λ_=>True,out:=λ(l,n,_)=>[.p .bool (xC l n)],lend:=true }
attribute [local go_sem] yU
theorem A8c:Ad Tryz.prog 93 yU:=by
 refine fK [0,1,4,5,9,17] Tryz.func93 Tryz.ntmps93 AH ?_;rintro w0 O0 ⟨l,n,u⟩ d ⟨⟨g,-⟩,-⟩ -;simp only[AP]at g;simp only[yU,AM];repeat'(first|exact trivial|refine eS rfl ?_|refine AB ?_|refine rX d ?_ ?_|refine rC ?_ ?_<;>intro a<;>try(cases a;done))
 refine AK (ι:={k:Nat//k<=l.length/\xC l n=xC (l.drop k) n}) (λk=>⟨[(0,.p Fv l),(1,.p T3 n),(5,.p (.int .i64) (k.1:Int))],[]⟩) (λk=>l.length-k.1) ⟨0,IN _,rfl⟩ (eW []) (λk=>?_)
 ·obtain⟨k,hk,b⟩:=k;have e:k<l.length->xC (l.drop k) n=(l.getD k 0==n||xC (l.drop (k+1)) n):=λh=>by
   rw[KN h];rfl
  simp only;repeat'(first|exact trivial|refine eS rfl ?_|refine AB ?_|refine rX d ?_ ?_|refine rC ?_ ?_<;>intro a<;>try(cases a;done))
  ·exact a
  ·have c:k<l.length:=by exact eV
   rw[e c,a,beq_self_eq_true,Bool.true_or]at b;exact fI d [.tmp 4] (by rw[b];exact eR)
  ·omega
  ·have c:k<l.length:=by exact eV
   have f:(l.getD k 0==n)=false:=ADD.2 a;rw[e c,f,AFt]at b;exact⟨⟨k+1,by omega,b⟩,by simp only;omega,eW []⟩
  ·have c:l.drop k=[]:=By (by exact eV);rw[c]at b;exact fI d [.tmp 4] (by rw[b];first|exact eR|refine WL ?_;rfl)
end
section
attribute [local go_sem] A9Z Sl
noncomputable def A4D:Aa:={ ins:=[ER,DR,Fv,DR],pre:=λ(h,a,p,b,_)=>(d7 h/\Xq h)/\VF h a/\VF h b/\FtP h p/\List.length p<=20/\List.length a<=60/\List.length b<=20,out:=λ(h,a,p,b,_)=>[.p DR (HO h a (Aq p b)).1,.p .bool (HO h a (Aq p b)).2] }
attribute [local go_sem] A4D
theorem AA3:Ad Tryz.prog 72 A4D:=by
 refine fK [0,1,2,3,4,5,7,8,9,10,11,21] Tryz.func72 Tryz.ntmps72 (AF AA0 (AF A3O AH)) ?_;rintro w0 O0 ⟨h,a,p,b,u⟩ e-⟨⟨hh,j⟩,va,i,d,g⟩;have hh:d7 h:=hh;have j:Xq h:=j;have va:VF h a:=va;have i:VF h b:=i;have g:p.length<=20/\a.length<=60/\b.length<=20:=g;have d:FtP h p:=d;simp only[A4D,AM];have f:(h.1,h.2)=h:=rfl;repeat'(first|exact trivial|refine eS rfl ?_|refine rX e ?_ ?_|refine rC ?_ ?_<;>intro c<;>try(cases c;done))
 ·exact⟨hh.hu,va,i,d,g⟩
 ·exact fI e [.cell 8 25,.tmp 9] (by unfold HO;rw[f]at c;unfold A1e at c;rw[c,An Bool.false_ne_true];exact eR)
 ·exact A9W hh (UH c).vf
 ·exact fI e [.cell 8 25,.tmp 9] (by unfold HO;rw[f]at c;unfold A1e at c;rw[c,BY rfl,f];unfold A1e;exact eR)
end
section
attribute [local go_sem] A4C PW Db cs4 cs5
theorem Mt (h:AG):YO h ⟨#[65,82,71,83]⟩=A8 h:=rfl
def eH (h:AG) (k:Nat):List Int:=A8 h :: List.replicate k (BH h).rest
theorem A1h (h:AG) (k:Nat):eH h (k+1)=eH h k++[(BH h).rest]:=by
 unfold eH;rw[AEH];rfl
theorem A4E (h:AG) (k:Nat):(eH h k).length=k+1:=by simp[eH]
theorem A8d (h:AG) (k:Nat):Gf h k=eH h k++[(BH h).first]:=rfl
def A1i:Aa:={ ins:=[ER,T3],pre:=λ(_,i,_)=>(0:Int)<=i/\(i:Int)<=100,out:=λ(h,i,_)=>[.p Fv (Gf h i.toNat)] }
attribute [local go_sem] A1i
theorem A4F:Ad Tryz.prog 73 A1i:=by
 refine z2 [0,1,2,4,5,9,10,11] [15,21] [] Tryz.func73 Tryz.ntmps73 (AF YF AH) ?_;rintro w0 O0 ⟨h,i,u⟩ b-⟨c,d⟩;have c:(0:Int)<=(i:Int):=c;have d:(i:Int)<=100:=d;have n:(h.1,h.2)=h:=rfl;obtain⟨-,-,-,-,r,s,-,-⟩:=Ms h;have q:=Mt h;simp only[A1i,AM];obtain⟨m,rfl⟩:∃m:Nat,i=(m:Int):=⟨Int.toNat i,(AA7 c).symm⟩;have o:m<=100:=RY.1 d;repeat'(first|exact trivial|refine eS rfl ?_|refine AB ?_|refine rX b ?_ ?_|refine rC ?_ ?_<;>intro a<;>try(cases a;done))
 refine AK (ι:={k:Nat//k<=m}) (λk=>⟨[(2,.bp 2 [] 0),(5,.sr 8 T3 0 (k.1+1)),(9,.p T3 (m:Int)),(10,.p (.int .i64) (k.1:Int))],[(2,.box 31 true [.p WN h.1,.p YV h.2]),(8,.arr 3 T3 (eH h k.1))]⟩) (λk=>m-k.1) ⟨0,by omega⟩ (AC [(2,.nm 2),(8,.nm 8)] rfl rfl ?_ ?_) (λk=>?_)
 ·first|exact eN|refine eM ?_
  rfl
 ·first|exact eN|refine eM ?_
 ·obtain⟨k,hk⟩:=k;have f:=A4E h k;have g:=A1h h k;simp only;repeat'(first|exact trivial|refine eS rfl ?_|refine AB ?_|refine rX b ?_ ?_|refine rC ?_ ?_<;>intro a<;>try(cases a;done))
  ·simp only[AP];omega
  ·omega
  ·have e:k<m:=IS.1 a;refine⟨⟨k+1,e⟩,by simp only;omega,AC [(2,.nm 2),(8,.nm 8)] rfl rfl ?_ ?_⟩
   ·first|exact eN|refine eM ?_
    rw[g,As (by omega)];rfl
   ·first|exact eN|refine eM ?_
  ·simp only[AP];omega
  ·have e:k=m:=AEi hk (RY.1 a);subst e;refine FQ [8] ?_;have j:Gf h (Int.toNat (k:Int))=List.take (k+1+1) (List.take (k+1) (eH h k)++[YO (h.1,h.2) ⟨#[70,73,82,83,84]⟩]):=by
    rw[Rb,A8d,As (l:=eH h k) (by omega),As (by rw[IF,f];exact NO _)];rfl
   exact fI b [.tmp 4] (by rw[j];exact eR)
theorem A4G {h:AG} (hu:HU h) {f:List AD} (v:PF h f) (l:f.length<=10000) (e:Int):AU (Mr f e)/\LH (Mr f e):=by
 have h0:=AE f (0,[]) v.pos;have n:(Mr f e).length=f.length+1:=by simp[Mr]
 have i:∀x∈Mr f e,∃y∈f,x.2.length<=y.2.length/\NX x.2/\∀a∈x.2,a∈y.2:=λx b=>by
  rcases No.1 b with b|b
  ·exact⟨x,b,NO _,v.str x b,λa ha=>ha⟩
  ·rw[Rm.1 b];exact⟨_,h0,aS _ _,kP v.str e,λa ha=>X8 ha⟩
 refine⟨⟨by omega,λx b=>?_⟩,λx b=>?_⟩
 ·obtain⟨y,d,j,-,c⟩:=i x b;have k:=v.good.2 y d;refine⟨by omega,λa ha=>?_⟩;have:=k.2 a (c a ha);omega
 ·obtain⟨y,d,j,g,c⟩:=i x b;have m:=hu.ft;have:=dV g λa ha=>by
   have:=v.ft y d a (c a ha);omega
  exact⟨(KH _).2 g,by omega⟩
def VO:Aa:={ ins:=[DR,T3],pre:=λ(f,_,_)=>∃h,HU h/\PF h f/\List.length f<=10000,out:=λ(f,e,_)=>[.p DR (Ie f e)] }
attribute [local go_sem] VO
theorem aH:Ad Tryz.prog 74 VO:=by
 refine z2 [0,1,2,4,5,6,8,24,25,26,27,33] [37,44] [] Tryz.func74 Tryz.ntmps74 (AF A3F AH) ?_;rintro w0 O0 ⟨f,e,u⟩ d-⟨h,hu,hp,g⟩;have hp:PF h f:=hp;have g:f.length<=10000:=g;have h0:=hp.pos;simp only[VO,AM];have v:=(hp.good.2 _ (AE f (0,[]) h0)).1;repeat'(first|exact trivial|refine eS rfl ?_|refine AB ?_|refine rX d ?_ ?_|refine rC ?_ ?_<;>intro b<;>try(cases b;done))
 ·simp only[AP];omega
 ·exact IS.2 h0
 ·exact IS.2 h0
 ·have q:UO f e=(f.getD 0 (0,[])).2.filter λa=>a.1 != e:=rfl;have s:Mr f e=f++[((f.getD 0 (0,[])).1,UO f e)]:=rfl;have r:=A9Y hp g e;generalize t:(f.getD 0 (0,[])).2=L at *;generalize (f.getD 0 (0,[])).1=ty at *;refine AK (ι:={k:Nat//k<=L.length}) (λk=>⟨[(1,.p T3 e),(2,.bp 2 [] 0),(4,.bp 4 [] 0),(5,.bp 5 [] 0),(6,.bp 6 [] 0),(24,.p DN L),(25,.p (.int .i64) (L.length:Int)),(26,.p (.int .i64) (k.1:Int))],[(6,.box 93 true [.p T3 ty,.sr 38 AW 0 ((L.take k.1).filter λa=>a.1 != e).length]),(38,.arr 106 AW ((L.take k.1).filter λa=>a.1 != e)),(5,.box 25 true [.sr 9 NJ 0 f.length]),(9,.arr 93 NJ f),(4,.box 25 true [.raw (.slice none 0 0)]),(2,.box 25 true [.p FY f])]⟩) (λk=>L.length-k.1) ⟨0,by omega⟩ (AC [(6,.nm 6),(38,.nil),(5,.nm 5),(9,.nm 9),(4,.nm 4),(2,.nm 2)] rfl rfl ?_ ?_) (λk=>?_)
  ·first|exact eN|refine eM ?_
   exact⟨rfl,rfl⟩
  ·first|exact eN|refine eM ?_
  ·obtain⟨k,hk⟩:=k;have j:=λhk:k<L.length=>jU (λa:Int×Int=>a.1 != e) L hk;have o:=aS (λa:Int×Int=>a.1 != e) (L.take k);rw[OR]at o;simp only;repeat'(first|exact trivial|refine eS rfl ?_|refine AB ?_|refine rX d ?_ ?_|refine rC ?_ ?_<;>intro b<;>try(cases b;done))
   ·exact b
   ·simp only[AP];dsimp only[Ty.den]at *;omega
   ·omega
   ·have c:k<L.length:=by exact eV
    have n:((L.getD k (0,0)).1 != e)=true:=AEN.2 b;refine⟨⟨k+1,c⟩,by simp only;omega,AC [(6,.nm 6),(38,.nm 38),(5,.nm 5),(9,.nm 9),(4,.nm 4),(2,.nm 2)] rfl rfl ?_ ?_⟩
    ·simp only[j c,n,AAv];first|exact eN|refine eM ?_
    ·first|exact eN|refine eM ?_
   ·omega
   ·have c:k<L.length:=by exact eV
    refine⟨⟨k+1,c⟩,by simp only;omega,AC [(6,.nm 6),(38,.nm 38),(5,.nm 5),(9,.nm 9),(4,.nm 4),(2,.nm 2)] rfl rfl ?_ ?_⟩
    ·simp only[j c,b,ADC,AE3,Rq];first|exact eN|refine eM ?_
    ·first|exact eN|refine eM ?_
   ·simp only[AP];omega
   ·have c:L.take k=L:=As (RY.1 b);rw[c,<-q,<-s];have m:(Mr f e).length=f.length+1:=by simp[Mr]
    refine FQ [9] ?_;have l:(Mr f e).take (f.length+1)=Mr f e:=As (AEX m);have i:=A4G hu hp g e;repeat'(first|exact trivial|refine eS rfl ?_|refine AB ?_|refine rX d ?_ ?_|refine rC ?_ ?_<;>intro b<;>try(cases b;done))
    ·rw[l];exact⟨i.1,i.2,IS.2 (by rw[m];exact AF3 _)⟩
    ·exact fI d [.cell 4 25] (by rw[l,r];exact eR)
end
section
attribute [local go_sem] A4C PW A1i VO AA1 A4D cs4 cs5
def LM:Aa:={ ins:=[ER,T27],pre:=λ(h,r,_)=>HU h/\VF h r.2.2/\List.length r.2.2<=10000,out:=λ(h,r,_)=>[.p DR (Ie r.2.2 (A8 h))] }
attribute [local go_sem] LM
theorem aI:Ad Tryz.prog 28 LM:=by
 refine fK [0,1,2,3,4] Tryz.func28 Tryz.ntmps28 (AF YF (AF aH AH)) ?_;rintro w0 O0 ⟨h,⟨nm,ar,f⟩,u⟩ a-⟨hu,vf,c⟩;simp only[LM,AM];repeat'(first|exact trivial|refine eS rfl ?_|refine AB ?_|refine rX a ?_ ?_|refine rC ?_ ?_<;>intro b<;>try(cases b;done))
 ·exact⟨h,hu,vf.pf,c⟩
 ·exact fI a [.cell 4 25] (by rw[<-Mt];exact eR)
noncomputable def PX (h:AG) (ar:Int) (f:List AD) (i:Int):List AD×Bool:=if 0<=i/\i<ar then (RK f (Gf h i.toNat),(CR f 0 (Gf h i.toNat)).2) else ([],false)
theorem eI {h:AG} {f:List AD} (vf:VF h f) (p:List Int) (e:(CR f 0 p).2=true):0<=(CR f 0 p).1/\(CR f 0 p).1<(f.length:Int):=by
 have ha:=RJ vf.good vf.str p 0;cases a:B3 f 0 p with
 | none=>rw[a]at ha;rw[ha]at e;cases e
 | some n =>
  rw[a]at ha;rw[ha];exact X3 vf.good vf.pos p n a
noncomputable def S4:Aa:={ ins:=[ER,T27,T3],pre:=λ(h,r,i,_)=>(0:Int)<=i->(i:Int)<r.2.1->HU h/\VF h r.2.2/\(r.2.1:Int)<=2,out:=λ(h,r,i,_)=>[.p DR (PX h r.2.1 r.2.2 i).1,.p .bool (PX h r.2.1 r.2.2 i).2] }
attribute [local go_sem] S4
theorem A4H:Ad Tryz.prog 26 S4:=by
 refine fK [0,1,2,3,4,6,7,15] Tryz.func26 Tryz.ntmps26 (AF A4F (AF AA2 AH)) ?_;rintro w0 O0 ⟨h,⟨nm,ar,f⟩,i,u⟩ c-hp;have hp:(0:Int)<=(i:Int)->(i:Int)<(ar:Int)->HU h/\VF h f/\(ar:Int)<=2:=hp;simp only[S4,AM];repeat'(first|exact trivial|refine eS rfl ?_|refine AB ?_|refine rX c ?_ ?_|refine rC ?_ ?_<;>intro a<;>try(cases a;done))
 ·have d:PX h ar f i=([],false):=An λb=>by
   rcases a with h1|h1
   ·exact absurd b.1 (oS.2 h1)
   ·exact absurd b.2 (AAh.2 h1)
  exact fI c [.cell 6 25,.tmp 7] (by rw[d];exact eR)
 ·obtain⟨e,g⟩:=a;obtain⟨hu,vf,b⟩:=hp e g;exact⟨⟨e,ADJ (Int.le_of_lt g) (ADJ b (by decide))⟩,vf.good,vf.srt hu,vf.pos,eI vf _⟩
 ·have d:PX h ar f i=(RK f (Gf h (Int.toNat i)),(CR f 0 (Gf h (Int.toNat i))).2):=BY a;exact fI c [.cell 6 25,.tmp 7] (by rw[d];exact eR)
noncomputable def PY:Aa:={ ins:=[ER,T27,T38],pre:=λ(h,r,A,_)=>(List.length A:Int)=r.2.1->RA h r.2.1 r.2.2 A,out:=λ(h,r,A,_)=>[.p DR (EW h r.2.1 r.2.2 A).1,.p .bool (EW h r.2.1 r.2.2 A).2] }
attribute [local go_sem] PY
theorem kX:Ad Tryz.prog 23 PY:=by
 refine fK [0,1,2,3,4,6,7,8,9,10,11,12,17,21,22,23,24,39] Tryz.func23 Tryz.ntmps23 (AF A4F (AF AA3 (AF YF (AF aH AH)))) ?_;rintro w0 O0 ⟨h,⟨nm,ar,f⟩,A,u⟩ d-hp;have hp:(List.length A:Int)=(ar:Int)->RA h ar f A:=hp;have F:(h.1,h.2)=h:=rfl;simp only[PY,AM];repeat'(first|exact trivial|refine eS rfl ?_|refine AB ?_|refine rX d ?_ ?_|refine rC ?_ ?_<;>intro c<;>try(cases c;done))
 ·have j:EW h ar f A=([],false):=BY c;exact fI d [.cell 6 25,.tmp 7] (by rw[j];exact eR)
 ·have x:(A.length:Int)=ar:=by simpa using c
  have i:=hp x;have j:EW h ar f A=if (CX h (Gf h) 0 f A).2=true then (Ie (CX h (Gf h) 0 f A).1 (A8 h),true) else ([],false):=An (by omega)
  have E:=i.la;have z:=yR h;have q:=A4A i.ok.lw i.ok.args;have D:=i.va;refine AK (ι:={s:Nat×List AD//s.1<=A.length/\CX h (Gf h) 0 f A=CX h (Gf h) s.1 s.2 (A.drop s.1)/\VF h s.2/\s.2.length<=12+16*s.1}) (λs=>⟨[(3,.bp 3 [] 0),(6,.bp 6 [] 0),(8,.bp 8 [] 0),(21,.p T38 A),(22,.p (.int .i64) (A.length:Int)),(23,.p (.int .i64) (s.1.1:Int))],[(3,.box 31 true [.p WN h.1,.p YV h.2]),(6,.box 25 true [.raw (.slice none 0 0)]),(8,.box 25 true [.p FY s.1.2])]⟩) (λs=>A.length-s.1.1) ⟨(0,f),IN _,rfl,i.vf,by have:=i.lf;simp only;omega⟩ (AC [(3,.nm 3),(6,.nm 6),(8,.nm 8)] rfl rfl ?_ ?_) (λs=>?_)
  ·first|exact eN|refine eM ?_
  ·first|exact eN|refine eM ?_
  ·obtain⟨⟨k,g⟩,hk,m,n,w⟩:=s;simp only at hk m n w ⊢;have B:∀l:k<A.length,CX h (Gf h) k g (A.drop k)=if (HO h g (Aq (Gf h k) (A.getD k []))).2=true then CX h (Gf h) (k+1) (HO h g (Aq (Gf h k) (A.getD k []))).1 (A.drop (k+1)) else ([],false):=λl=>by
    rw[Md [] l];rfl
   repeat'(first|exact trivial|refine eS rfl ?_|refine AB ?_|refine rP d ?_ ?_|fail)
   refine rC (λc=>?_) λc=>?_
   ·repeat'(first|exact trivial|refine eS rfl ?_|refine AB ?_|refine rP d ?_ ?_|fail)
    ·exact c
    ·have l:k<A.length:=IS.1 c;have o:=D _ (AE A [] l);have H:=Fe (Gf h k) (A.getD k []);have y:=z k;have r:=B l;have G:=eB (h:=h) (a:=g) (b:=Aq (Gf h k) (A.getD k []));have C:=yM i.hh n (X6 n.h0 o.1 (q k) (by omega) (by omega)) (by omega);refine Cf drawsAny d 12 [([0,1,2,3,4,5,6,7,8,10],11)] [9] (by kernel_rfl) (Ni ?_ ?_)
     ·exact⟨show (k:Int)<=100 by omega,⟨i.hh,i.top⟩,n,o.1,q k,by rw[y];omega,by omega,Rc o.2 (by decide)⟩
     ·refine Pa d [] ?_ ?_
      ·trivial
      ·refine UY d ?_ ?_ ?_
       ·trivial
       ·trivial
       ·repeat'(first|exact trivial|refine eS rfl ?_|refine AB ?_|refine rX d ?_ ?_|refine rC ?_ ?_<;>intro c<;>try(cases c;done))
        ·have t:¬(HO h g (Aq (Gf h k) (A.getD k []))).2=true:=λe=>by
          have c:(HO h g (Aq (Gf h k) (A.getD k []))).2=false:=c;rw[e]at c;cases c
         rw[m,r,An t]at j;have j:EW h ar f A=([],false):=j;exact fI d [.cell 6 25,.tmp 7] (by rw[j];exact eR)
        ·omega
        ·refine⟨⟨(k+1,(HO h g (Aq (Gf h k) (A.getD k []))).1),l,m.trans (r.trans (BY c)),(C.vf c).wt.1,by simp only;omega⟩,by simp only;omega,AC [(3,.nm 3),(6,.nm 6),(8,.nm 8)] rfl rfl ?_ ?_⟩
         ·first|exact eN|refine eM ?_
         ·first|exact eN|refine eM ?_
   ·have v:A.drop k=[]:=By (RY.1 c);rw[v]at m;rw[m]at j;have j:EW h ar f A=(Ie g (A8 h),true):=j;repeat'(first|exact trivial|refine eS rfl ?_|refine AB ?_|refine rX d ?_ ?_|refine rC ?_ ?_<;>intro c<;>try(cases c;done))
    ·exact⟨h,i.hh.hu,n.pf,by omega⟩
    ·exact fI d [.cell 6 25,.tmp 7] (by rw[j,<-Mt];exact eR)
end
section
attribute [local go_sem] yT A4C PW Ww cs4 cs5
def wdF (h:AG) (w:LW):gQ.den:=(h,w.list,w.cons,w.null,w.dlist,w.first,w.rest,w.head,w.last)
def lwO (w:gQ.den):LW:=⟨w.2.1,w.2.2.1,w.2.2.2.1,w.2.2.2.2.1,w.2.2.2.2.2.1,w.2.2.2.2.2.2.1,w.2.2.2.2.2.2.2.1,w.2.2.2.2.2.2.2.2⟩
def kY:Aa:={ ins:=[DR,T3,T3],pre:=λ(f,n,_)=>AU f/\(0:Int)<=n/\n<(List.length f:Int),out:=λ(f,n,e,_)=>[.p T3 (DH (List.getD (f:List AD) n.toNat (0,[])).2 e)],lend:=true }
attribute [local go_sem] kY
theorem eJ:Ad Tryz.prog 89 kY:=by
 refine fK [0,1,2,3,6,8,14,15,16,17,23] Tryz.func89 Tryz.ntmps89 AH ?_;rintro w0 O0 ⟨f,n,e,u⟩ d-⟨g,hn⟩;have g:AU f:=g;have hn:0<=n/\n<(f.length:Int):=hn;simp only[kY,AM];repeat'(first|exact trivial|refine eS rfl ?_|refine AB ?_|refine rX d ?_ ?_|refine rC ?_ ?_<;>intro a<;>try(cases a;done))
 ·exact hn
 ·have j:=(g.2 _ (AE f (0,[]) (S3 hn))).1;generalize (f.getD n.toNat (0,[])).2=L at *;refine AK (ι:={k:Nat//k<=L.length/\DH L e=DH (L.drop k) e}) (λk=>⟨[(2,.p T3 e),(14,.p DN L),(15,.p (.int .i64) (L.length:Int)),(16,.p (.int .i64) (k.1:Int))],[]⟩) (λk=>L.length-k.1) ⟨0,IN _,rfl⟩ (eW []) (λk=>?_)
  ·obtain⟨k,hk,b⟩:=k;have i:=λh:k<L.length=>Zr e L h;simp only;repeat'(first|exact trivial|refine eS rfl ?_|refine AB ?_|refine rX d ?_ ?_|refine rC ?_ ?_<;>intro a<;>try(cases a;done))
   ·exact a
   ·have c:k<L.length:=by exact eV
    rw[i c,BY a]at b;exact fI d [.tmp 6] (by rw[b];exact eR)
   ·omega
   ·have c:k<L.length:=by exact eV
    rw[i c,An a]at b;exact⟨⟨k+1,by omega,b⟩,by simp only;omega,eW []⟩
   ·have c:L.drop k=[]:=By (by exact eV);rw[c]at b;exact fI d [.tmp 6] (by rw[b];first|exact eR|refine WL ?_;rfl)
def WOk (h:AG) (w:LW):Prop:=(0<=w.cons/\w.cons<(h.1.length:Int))/\(0<=w.null/\w.null<(h.1.length:Int))
def YH:Aa:={ ins:=[gQ,DR,T3],pre:=λ(w,f,n,_)=>WOk w.1 (lwO w)/\AU f/\De w.1 f/\(0:Int)<=n/\n<(List.length f:Int),out:=λ(w,f,n,_)=>[.p T3 (BQ w.1 (lwO w) (List.getD (f:List AD) n.toNat (0,[])))],lend:=true }
attribute [local go_sem] YH
theorem kZ:Ad Tryz.prog 91 YH:=by
 refine fK [0,1,2,3,4,6,7,8,9,28,43,56] Tryz.func91 Tryz.ntmps91 (AF eJ (AF c5 AH)) ?_;rintro w0 O0 ⟨⟨h,l,c,d,dl,a,e,b,la⟩,f,n,u⟩ i-⟨j,k,m,hn⟩;have j:WOk h ⟨l,c,d,dl,a,e,b,la⟩:=j;have k:AU f:=k;have m:De h f:=m;have hn:0<=n/\n<(f.length:Int):=hn;have o:=m _ (AE f (0,[]) (S3 hn));simp only[YH,AM];repeat'(first|exact trivial|refine eS rfl ?_|refine AB ?_|refine rX i ?_ ?_|refine rC ?_ ?_<;>intro p<;>try(cases p;done))
 ·exact hn
 ·exact⟨k,hn⟩
 ·exact⟨j.2,o⟩
 ·have g:BQ h ⟨l,c,d,dl,a,e,b,la⟩ (f.getD n.toNat (0,[]))=1:=by
   unfold BQ Uf Lh OK RH UP;simp only[AT,Ff];grind
  exact fI i [.tmp 6] (by rw[show lwO (h,l,c,d,dl,a,e,b,la)=⟨l,c,d,dl,a,e,b,la⟩ from rfl,g];exact eR)
 ·exact⟨j.1,o⟩
 ·have g:BQ h ⟨l,c,d,dl,a,e,b,la⟩ (f.getD n.toNat (0,[]))=2:=by
   unfold BQ Uf Lh OK RH UP;simp only[AT,Ff];grind
  exact fI i [.tmp 6] (by rw[show lwO (h,l,c,d,dl,a,e,b,la)=⟨l,c,d,dl,a,e,b,la⟩ from rfl,g];exact eR)
 ·exact⟨o,j.1⟩
 ·have g:BQ h ⟨l,c,d,dl,a,e,b,la⟩ (f.getD n.toNat (0,[]))=3:=by
   unfold BQ Uf Lh OK RH UP;simp only[AT,Ff];grind
  exact fI i [.tmp 6] (by rw[show lwO (h,l,c,d,dl,a,e,b,la)=⟨l,c,d,dl,a,e,b,la⟩ from rfl,g];exact eR)
 ·have g:BQ h ⟨l,c,d,dl,a,e,b,la⟩ (f.getD n.toNat (0,[]))=0:=by
   unfold BQ Uf Lh OK RH UP;simp only[AT,Ff];grind
  exact fI i [.tmp 6] (by rw[show lwO (h,l,c,d,dl,a,e,b,la)=⟨l,c,d,dl,a,e,b,la⟩ from rfl,g];exact eR)
theorem A8e {a b:Int}:(if b<a then b else a)<0↔a<0\/b<0:=by split<;>omega
theorem A8f {a b:Int}:(0<=if b<a then b else a)↔0<=a/\0<=b:=by split<;>omega
def A8O:gQ.den:=(([],[]),0,0,0,0,0,0,0,0)
def YI:Aa:={ ins:=[ER],pre:=λ_=>True,out:=λ(h,_)=>[.p gQ (if PR h=true then wdF h (BH h) else A8O),.p Lo (if PR h=true then 0 else 5)] }
attribute [local go_sem] YI
theorem A4I:Ad Tryz.prog 88 YI:=by
 refine fK [0,1,2,3,4,58] Tryz.func88 Tryz.ntmps88 (AF A8b (AF YF (AF c5 AH))) ?_;rintro w0 O0 ⟨⟨a,hf⟩,u⟩ b - -;obtain⟨f,g,i,j,k,l,m,n⟩:=Ms (a,hf);obtain⟨⟨s,t,v,w⟩,o,p,q,r⟩:=S2 (a,hf);simp only[YI,AM];repeat'(first|exact trivial|refine eS rfl ?_|refine AB ?_|refine rX b ?_ ?_|refine rC ?_ ?_<;>intro e<;>try(cases e;done))
 all_goals simp only[f,g,i,j,k,l,m,n,A8e,A8f]at *
 ·refine⟨λh=>?_,λh=>?_⟩<;>simp only[RZ,iS,Of,not_or]at h<;>grind
 ·have c:PR (a,hf)=false:=by
   rw[AEe];intro d;unfold PR at d;simp only[AT,Ff]at d;grind
  exact fI b [.cell 2 115,.tmp 3] (by simp only[c,ADC,AE3,A8O];exact eR)
 ·have c:PR (a,hf)=true:=by
   unfold PR;simp only[AT,Ff];grind
  exact fI b [.cell 2 115,.tmp 3] (by simp only[c,AAv,wdF];exact eR)
end
section
attribute [local go_sem] YI YH kY
def Dr (h:AG) (w:LW):Obj:=.box 115 true [.p ER h,.p T3 w.list,.p T3 w.cons,.p T3 w.null,.p T3 w.dlist,.p T3 w.first,.p T3 w.rest,.p T3 w.head,.p T3 w.last]
theorem A4J (h:AG) (w:LW) (f:List AD) (n:Int):BJ Tryz.prog 90 [.p gQ (wdF h w),.p DR f,.p T3 n] [] [] (λres c=>res=.clo 139 [5,3,4]/\c=[(5,.box 3 false [.p T3 n]),(4,.box 25 true [.p FY f]),(3,Dr h w)]):=by
 refine Kt [0,1,2,3,4,5,6] [] [] Tryz.func90 Tryz.ntmps90 AH ?_;intro w0 K O0 ρ0 a d e;simp only[Ao,wdF];repeat'(first|exact trivial|refine eS rfl ?_|refine AB ?_|refine rX a ?_ ?_|refine rC ?_ ?_<;>intro b<;>try(cases b;done))
 exact fM a [.tmp 6] (.clo 139 [5,3,4]) eT ⟨rfl,rfl⟩
abbrev WS:=List Int×List Int×Bool×Int
def GJ (f:List AD) (n:Int):AD:=f.getD n.toNat (0,[])
def aJ (h:AG) (w:LW) (f:List AD) (s:WS):WS:=(s.1++[s.2.2.2],if BQ h w (GJ f s.2.2.2)=2 then s.2.1++[DH (GJ f s.2.2.2).2 w.first] else s.2.1,decide (BQ h w (GJ f s.2.2.2)=1),DH (GJ f s.2.2.2).2 w.rest)
def A1 (h:AG) (w:LW) (f:List AD) (n:Int):Nat->WS
 | 0=>([],[],false,n)
 | i+1=>aJ h w f (A1 h w f n i)
def WGo (h:AG) (w:LW) (f:List AD) (n:Int) (i:Nat):Prop:=∀j,j<i->BQ h w (GJ f (A1 h w f n j).2.2.2)=2/\(A1 h w f n j).2.2.2∉(A1 h w f n j).1
theorem A1j (h:AG) (w:LW) (x:AD):BQ h w x=0\/BQ h w x=1\/BQ h w x=2\/BQ h w x=3:=by
 unfold BQ;split
 ·exact .inr (.inl rfl)
 ·split
  ·exact .inr (.inr (.inl rfl))
  ·split
   ·exact .inr (.inr (.inr rfl))
   ·exact .inl rfl
theorem RN {h:AG} {w:LW} {f:List AD} {n:Int} (hf:AU f) (n0:0<=n) (n1:n<(f.length:Int)):∀i,WGo h w f n i->KP f (A1 h w f n i).1/\(A1 h w f n i).1.length=i/\(0<=(A1 h w f n i).2.2.2/\(A1 h w f n i).2.2.2<(f.length:Int))/\(A1 h w f n i).2.1.length=i
 | 0,_=>⟨GD f,rfl,⟨n0,n1⟩,rfl⟩
 | i+1,c=>by
  obtain⟨h1,d,a,e⟩:=RN hf n0 n1 i (λj l=>c j (by omega));obtain⟨b,g⟩:=c i (by omega);have hk:=aD b;refine⟨h1.snoc a.1 a.2 g,?_,⟨hk.2,?_⟩,?_⟩
  ·show ((A1 h w f n i).1++_).length=_;rw[IF,d];rfl
  ·exact xW (by omega) _ λx k=>(A6 hf (n:=(A1 h w f n i).2.2.2) k).2
  ·show (if _ then _ else _:List Int).length=_;rw[BY b,IF,e];rfl
theorem k5 {h:AG} {w:LW} {f:List AD} {n:Int} (k:Nat):∀i,WGo h w f n i->RI h w f (k+i) [] [] n=RI h w f k (A1 h w f n i).1 (A1 h w f n i).2.1 (A1 h w f n i).2.2.2
 | 0,_=>rfl
 | i+1,b=>by
  have e:=k5 (h:=h) (w:=w) (f:=f) (n:=n) (k+1) i (λj g=>b j (by omega));obtain⟨a,d⟩:=b i (by omega);rw[show k+(i+1)=k+1+i by omega,e];have c:BQ h w (f.getD (A1 h w f n i).2.2.2.toNat (0,[]))=2:=a;show (if _ then _ else _)=_;rw[An d,c,An (by decide),An (by decide),An (by decide)];show _=RI h w f k (aJ h w f (A1 h w f n i)).1 (aJ h w f (A1 h w f n i)).2.1 (aJ h w f (A1 h w f n i)).2.2.2;unfold aJ;rw[BY a];rfl
theorem k6 {h:AG} {f:List AD} {n:Int} (hf:AU f) (j:PR h=true) (n0:0<=n) (n1:n<(f.length:Int)) {i:Nat} (c:WGo h (BH h) f n i) :
  ((A1 h (BH h) f n i).2.2.2∈(A1 h (BH h) f n i).1->Ak h f n=([],false,6)) /\
  ((A1 h (BH h) f n i).2.2.2∉(A1 h (BH h) f n i).1->BQ h (BH h) (GJ f (A1 h (BH h) f n i).2.2.2)=0->Ak h f n=([],false,13)) /\
  ((A1 h (BH h) f n i).2.2.2∉(A1 h (BH h) f n i).1->BQ h (BH h) (GJ f (A1 h (BH h) f n i).2.2.2)≠0->BQ h (BH h) (GJ f (A1 h (BH h) f n i).2.2.2)≠2->Ak h f n=((A1 h (BH h) f n (i+1)).2.1,(A1 h (BH h) f n (i+1)).2.2.1,0)):=by
 obtain⟨h1,k,l,-⟩:=RN hf n0 n1 i c;have m:=h1.len;have e:Ak h f n=RI h (BH h) f ((f.length-i)+1) (A1 h (BH h) f n i).1 (A1 h (BH h) f n i).2.1 (A1 h (BH h) f n i).2.2.2:=by
  unfold Ak;rw[BY j,<-k5 _ _ c,show f.length-i+1+i=f.length+1 by omega]
 rw[e];show (_->(if _ then _ else _)=_)/\(_->_->(if _ then _ else _)=_)/\(_->_->_->(if _ then _ else _)=_);refine⟨λq=>BY q,λb a=>?_,λb a d=>?_⟩
 ·have a:BQ h (BH h) (f.getD (A1 h (BH h) f n i).2.2.2.toNat (0,[]))=0:=a;rw[An b,a];rfl
 ·have hk:=A1j h (BH h) (GJ f (A1 h (BH h) f n i).2.2.2);have hs:(A1 h (BH h) f n (i+1)).2.1=(A1 h (BH h) f n i).2.1:=An d;have g:(A1 h (BH h) f n (i+1)).2.2.1=decide (BQ h (BH h) (GJ f (A1 h (BH h) f n i).2.2.2)=1):=rfl;rw[An b,hs,g];show (if BQ h (BH h) (GJ f (A1 h (BH h) f n i).2.2.2)=1 then _ else if BQ h (BH h) (GJ f (A1 h (BH h) f n i).2.2.2)=3 then _ else _)=_;rcases hk with hk|hk|hk|hk
  ·exact absurd hk a
  ·rw[hk];rfl
  ·exact absurd hk d
  ·rw[hk];rfl
def wE:List (Nat×AV):=[(4,.bp 4 [] 0),(6,.bp 6 [] 0),(7,.bp 7 [] 0),(8,.bp 8 [] 0),(9,.bp 9 [] 0),(11,.bp 11 [] 0),(12,.bp 12 [] 0),(13,.bp 13 [] 0)]
def wO (h:AG) (w:LW) (f:List AD) (L:Go.Loop) (a:Array Value) (s:WS) (m e:Int):List (Nat×Obj):=[(50,.box 3 false [.p T3 m]),(51,Dr h w),(52,.box 25 true [.p FY f]),(101,.loop L),(102,.frame a wE),(6,.box 61 false [.raw (.slice none 0 0)]),(7,.box 4 false [.p .bool false]),(8,.box 35 false [.p Lo e]),(9,Dr h w),(4,.box 25 true [.p FY f]),(11,.box 61 false [.sr 60 T3 0 s.2.1.length]),(60,.arr 3 T3 s.2.1),(12,.box 4 false [.p .bool s.2.2.1]),(13,.box 119 false [.mp 24]),(24,.mapo T3 .bool (Lg s.1))]
def JN (L:Go.Loop):Go.Loop:={ L with state:=.done,pending:=some .ret }
def WRd (h:AG) (w:LW) (f:List AD) (n:Int) (L:Go.Loop) (a:Array Value) (i:Nat) (b:Bool) (O:List (Nat×Obj)):Prop :=
 ((A1 h w f n i).2.2.2∈(A1 h w f n i).1/\b=false/\O=wO h w f (JN L) a (A1 h w f n i) (A1 h w f n i).2.2.2 6) \/
 ((A1 h w f n i).2.2.2∉(A1 h w f n i).1/\BQ h w (GJ f (A1 h w f n i).2.2.2)=0/\b=false/\O=wO h w f (JN L) a (A1 h w f n i) (A1 h w f n i).2.2.2 13) \/
 ((A1 h w f n i).2.2.2∉(A1 h w f n i).1/\BQ h w (GJ f (A1 h w f n i).2.2.2)≠0/\b=true/\O=wO h w f L a (A1 h w f n (i+1)) (A1 h w f n i).2.2.2 0)
theorem A1k (h:AG) (w:LW) (f:List AD) (n:Int) (E:WOk h w) (hf:AU f) (D:De h f) (n0:0<=n) (n1:n<(f.length:Int)) (L:Go.Loop) (d:Array Value)
  (m:∀i,WGo h w f n i->Y6 Tryz.prog 101 [.p T3 (A1 h w f n i).2.2.2] (wO h w f L d (A1 h w f n i) (A1 h w f n i).2.2.2 0) [50,51,52,101,102,6,7,8,9,4,11,12,13,24] (λres k=>∃b,res=.p .bool b/\WRd h w f n L d i b k)) :
  BJ Tryz.prog 139 [.yl 101,.bp 50 [] 0,.bp 51 [] 0,.bp 52 [] 0] (wO h w f L d (A1 h w f n 0) n 0) [50,51,52,101,102,6,7,8,9,4,11,12,13,24] (λres k=>res=.raw (.tuple #[])/\∃i b,WGo h w f n i/\WRd h w f n L d i b k/\(b=true->BQ h w (GJ f (A1 h w f n i).2.2.2)≠2)):=by
 refine Kt [0,1,2,3,14] [] [] Tryz.func139 Tryz.ntmps139 (AF kZ (AF eJ AH)) ?_;intro w0 K O0 ρ0 a B C;simp only[Ao,wO,Dr];have t:=m;clear m;repeat'(first|exact trivial|refine eS rfl ?_|refine AB ?_|refine rX a ?_ ?_|refine rC ?_ ?_<;>intro c<;>try(cases c;done))
 refine AK (ι:={i:Nat//WGo h w f n i}) (λi=>⟨[(0,.yl 101),(1,.bp 50 [] 0),(2,.bp 51 [] 0),(3,.bp 52 [] 0)],wO h w f L d (A1 h w f n i.1) (A1 h w f n i.1).2.2.2 0⟩) (λi=>f.length+1-i.1) ⟨0,λj o=>by omega⟩ (AC [(50,.nm 50),(51,.nm 51),(52,.nm 52),(101,.nm 101),(102,.nm 102),(6,.nm 6),(7,.nm 7),(8,.nm 8),(9,.nm 9),(4,.nm 4),(11,.nm 11),(60,.nm 60),(12,.nm 12),(13,.nm 13),(24,.nm 24)] rfl rfl ?_ ?_) (λi=>?_)
 ·simp only[wO,Dr,wE,A1];first|exact eN|refine eM ?_
 ·simp only[wO,Dr,wE,A1];first|exact eN|refine eM ?_
 ·obtain⟨i,hi⟩:=i;obtain⟨q,x,r,y⟩:=RN hf n0 n1 i hi;have u:=t i hi;have z:=q.len;have A:A1 h w f n (i+1)=aJ h w f (A1 h w f n i):=rfl;simp only[wO,Dr,wE];repeat'(first|exact trivial|refine eS rfl ?_|refine AB ?_|refine rX a ?_ ?_|refine rC ?_ ?_<;>intro c<;>try(cases c;done))
  refine cG 2 a ?_ ?_
  ·trivial
  ·refine rY 101 101 a (u) [(50,.nm 50),(51,.nm 51),(52,.nm 52),(101,.nm 101),(102,.nm 102),(6,.nm 6),(7,.nm 7),(8,.nm 8),(9,.nm 9),(4,.nm 4),(11,.nm 11),(60,.nm 60),(12,.nm 12),(13,.nm 13),(24,.nm 24)] [60] ?_ ?_ ?_
   ·first|exact eN|refine eM ?_
   ·simp only[wO,Dr,wE];first|exact eN|refine eM ?_
   ·rintro _ _ ⟨b,rfl,g⟩;have s:=g;rcases s with ⟨l,rfl,rfl⟩|⟨l,v,rfl,rfl⟩|⟨l,v,rfl,rfl⟩
    ·refine⟨[(50,.nm 50),(51,.nm 51),(52,.nm 52),(101,.nm 101),(102,.nm 102),(6,.nm 6),(7,.nm 7),(8,.nm 8),(9,.nm 9),(4,.nm 4),(11,.nm 11),(60,.nm 60),(12,.nm 12),(13,.nm 13),(24,.nm 24)],.p .bool false,wO h w f (JN L) d (A1 h w f n i) (A1 h w f n i).2.2.2 6,rfl,rfl,?_,?_,rfl,rfl,?_⟩
     ·simp only[wO,Dr,wE];first|exact eN|refine eM ?_
     ·first|exact eN|refine eM ?_
     ·simp only[wO,Dr,wE];refine rL a ?_ ?_
      ·trivial
      ·repeat'(first|exact trivial|refine eS rfl ?_|refine AB ?_|refine rX a ?_ ?_|refine rC ?_ ?_<;>intro c<;>try(cases c;done))
       refine Ev.ent (σ':=⟨[],wO h w f (JN L) d (A1 h w f n i) (A1 h w f n i).2.2.2 6⟩) ?_ (AC [(50,.nm 50),(51,.nm 51),(52,.nm 52),(101,.nm 101),(102,.nm 102),(6,.nm 6),(7,.nm 7),(8,.nm 8),(9,.nm 9),(4,.nm 4),(11,.nm 11),(60,.nm 60),(12,.nm 12),(13,.nm 13),(24,.nm 24)] rfl rfl ?_ ?_)
       ·exact fM a [] (.raw (.tuple #[])) rfl ⟨rfl,i,false,hi,g,λe=>by cases e⟩
       ·simp only[wO,Dr,wE];first|exact eN|refine eM ?_
       ·first|exact eN|refine eM ?_
    ·refine⟨[(50,.nm 50),(51,.nm 51),(52,.nm 52),(101,.nm 101),(102,.nm 102),(6,.nm 6),(7,.nm 7),(8,.nm 8),(9,.nm 9),(4,.nm 4),(11,.nm 11),(60,.nm 60),(12,.nm 12),(13,.nm 13),(24,.nm 24)],.p .bool false,wO h w f (JN L) d (A1 h w f n i) (A1 h w f n i).2.2.2 13,rfl,rfl,?_,?_,rfl,rfl,?_⟩
     ·simp only[wO,Dr,wE];first|exact eN|refine eM ?_
     ·first|exact eN|refine eM ?_
     ·simp only[wO,Dr,wE];refine rL a ?_ ?_
      ·trivial
      ·repeat'(first|exact trivial|refine eS rfl ?_|refine AB ?_|refine rX a ?_ ?_|refine rC ?_ ?_<;>intro c<;>try(cases c;done))
       refine Ev.ent (σ':=⟨[],wO h w f (JN L) d (A1 h w f n i) (A1 h w f n i).2.2.2 13⟩) ?_ (AC [(50,.nm 50),(51,.nm 51),(52,.nm 52),(101,.nm 101),(102,.nm 102),(6,.nm 6),(7,.nm 7),(8,.nm 8),(9,.nm 9),(4,.nm 4),(11,.nm 11),(60,.nm 60),(12,.nm 12),(13,.nm 13),(24,.nm 24)] rfl rfl ?_ ?_)
       ·exact fM a [] (.raw (.tuple #[])) rfl ⟨rfl,i,false,hi,g,λe=>by cases e⟩
       ·simp only[wO,Dr,wE];first|exact eN|refine eM ?_
       ·first|exact eN|refine eM ?_
    ·refine⟨[(50,.nm 50),(51,.nm 51),(52,.nm 52),(101,.nm 101),(102,.nm 102),(6,.nm 6),(7,.nm 7),(8,.nm 8),(9,.nm 9),(4,.nm 4),(11,.nm 11),(60,.nm 60),(12,.nm 12),(13,.nm 13),(24,.nm 24)],.p .bool true,wO h w f L d (A1 h w f n (i+1)) (A1 h w f n i).2.2.2 0,rfl,rfl,?_,?_,rfl,rfl,?_⟩
     ·simp only[wO,Dr,wE];first|exact eN|refine eM ?_
     ·first|exact eN|refine eM ?_
     ·simp only[wO,Dr,wE];refine rL a ?_ ?_
      ·trivial
      ·repeat'(first|exact trivial|refine eS rfl ?_|refine AB ?_|refine rX a ?_ ?_|refine rC ?_ ?_<;>intro c<;>try(cases c;done))
       ·exact⟨hf,r⟩
       ·refine⟨⟨i+1,λj o=>(Nat.lt_succ_iff_lt_or_eq.1 o).elim (hi j) λe=>by rw[e];exact⟨c,l⟩⟩,by simp only;omega,AC [(50,.nm 50),(51,.nm 51),(52,.nm 52),(101,.nm 101),(102,.nm 102),(6,.nm 6),(7,.nm 7),(8,.nm 8),(9,.nm 9),(4,.nm 4),(11,.nm 11),(60,.nm 60),(12,.nm 12),(13,.nm 13),(24,.nm 24)] rfl rfl ?_ ?_⟩
        ·simp only[wO,Dr,wE];first|exact eN|refine eM ?_
         rfl
        ·first|exact eN|refine eM ?_
       ·refine Ev.ent (σ':=⟨[],wO h w f L d (A1 h w f n (i+1)) (A1 h w f n i).2.2.2 0⟩) ?_ (AC [(50,.nm 50),(51,.nm 51),(52,.nm 52),(101,.nm 101),(102,.nm 102),(6,.nm 6),(7,.nm 7),(8,.nm 8),(9,.nm 9),(4,.nm 4),(11,.nm 11),(60,.nm 60),(12,.nm 12),(13,.nm 13),(24,.nm 24)] rfl rfl ?_ ?_)
        ·exact fM a [] (.raw (.tuple #[])) rfl ⟨rfl,i,true,hi,g,λ_=>c⟩
        ·simp only[wO,Dr,wE];first|exact eN|refine eM ?_
        ·first|exact eN|refine eM ?_
end
end Go.Proofs.YtapkhdkbkodbjaaGreat.Fw
