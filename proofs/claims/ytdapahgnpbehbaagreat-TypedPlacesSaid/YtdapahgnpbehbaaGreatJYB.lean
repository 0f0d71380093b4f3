/- Contracts of the program's and the reference's functions, and the plain laws of what they compute: G3 PS PA PB PC PD PE PF PL PG PH T1 G4 G5 G6 T2 T3 T5 P1 P9 T13 T14 T15 T6 T7 T8 T9 T10 T11 T12 T16 R08a P3 P4 P5 P2 P7 W1 W2 W3 W4 D2 D3 W5 U1 U2. -/
import Derived.Test.YtdapahgnpbehbaaGreatJYA
import Derived.Test.YtdapahgnpbehbaaGreatJZJ
import Derived.Test.YtdapahgnpbehbaaGreatJZI
set_option linter.unusedVariables false
set_option linter.unusedSimpArgs false
namespace Go.Proofs.YtdapahgnpbehbaaGreat.Fw
open Go
attribute [local irreducible] Ev
attribute [local go_sem] bL AM List.toList_toArray B0 evG evK Wp E2 Kp Gz F5 GK O7 LZ CO DY Mr CZ Cr frz gX Gv DX BB Fx Bc AV.frz AV.frzs AV.drp AV.drps AV.names AV.namess aq Gx LY Ke Sy JY Bd Bk Jy Ek I3 El I5 I4 I6 Tt Oz HJ Kh Fz Ec Tu Qr y3 Jz I7 Lw K1 Dz Jb Ki Em Sz Ck Eo FC Qs I8 Qt Lx Jc Kj DL DA Fa D0 Hw Dh FD Di Ep F1 CZ Cq Ox Qq Nx Gm Ja JZ Kg Nc O4 Lz L3 L1 Km R6 L2 Kn Yv O6 O5 AV.trn AV.trns EY Cj Obj.trn KE b9 DN Dk DM Eq Cc FE Ah lk Hb Gw Ht bin gW Ws gZ R4 uM uN pfs AV.cells CJ Jw Oy Kl O3 CX Na Ty.cell1 I2 E8 Dy GJ LX Eh Kd Lv Qp FZ HI NV Sw Ts Lu Ka Yt aN R3 Nb DE Jx RV.flat Ty.flat Ty.size St.add upd del Be Value.oneCell' Lr Ty.dflt I1 PZ H7 Pg List.take_succ_cons List.take_zero List.length_cons bT bU Pf KB MG Ho KC zY F6 M2 M3 M4 M5 Q3 Q4 Ky JG UL Option.map_some Option.map_none Option.bind_some Option.getD_some Option.getD_none Option.isNone_none Option.isNone_some Bool.and_true Bool.true_and Bool.and_false Bool.false_and Bool.not_true Bool.not_false if_true if_false List.length_cons List.length_nil and_true true_and and_self List.all_cons List.all_nil List.append_nil List.nil_append List.cons_append List.getElem?_cons_zero List.getElem?_cons_succ List.getElem?_nil List.map_cons List.map_nil List.set_cons_zero List.set_cons_succ List.isEmpty_nil List.isEmpty_cons decide_true decide_false beq_self_eq_true bne_self_eq_false Nat.zero_add Nat.add_zero Nat.sub_zero Int.toNat_natCast Int.toNat_zero Int.toNat_one List.take_length List.length_append List.length_singleton true_or or_true or_self false_or or_false Ty.agg.injEq Ty.slice.injEq Ty.prod.injEq Ty.int.injEq Option.some.injEq beq_iff_eq Ls evMG evMQ z3 H9 MD B3 KA Ga Ni J8 H8 JH Kz Le OH Nj OI S2 ME Pb Pc J9 AY Am Op.operands Call.operands List.filterMap_cons List.filterMap_nil List.append_eq Bool.cond_false_right Bool.cond_true_left cond_true cond_false implies_true decide_eq_true_eq beq_true beq_false Bool.or_true Bool.or_false Bool.true_or Bool.false_or Option.isSome_some Array.empty_append List.append_toArray Fy Ms FF Hu Yu O2 F0 GU GT I9 Hv Kk Ly Wt gY Jt inB Ko F2 Gn J0 Aj bV List.drop_zero Dp IA ZH CU K4 Ba AV.fgt AV.fgts Obj.fgt Al Ak AY DQ Iz BM G0 List.any_cons List.any_nil iW bZ ZI b4 MJ Q9 qs List.flatMap_cons List.flatMap_nil List.cons_append tn ZK IG List.take_succ_cons List.drop_succ_cons ZO IJ Bw nJ M9 CB CT Ab FI Kx Bm FH D7 H5 JF GZ H6
attribute [local go_sem] Ju nN ty3 ty4 ty5 ty9 A3I A3J A3K A3L A3M A3N A3O A3P A3Q A3R A3S A3T A3U A3V A3W A3X A3Y A3Z A40 A41 A42 A43 A44 A45 A46 A47 A48 A49 A4a A4b A4c A4d A4e A4f A4g A4h A4i A4j A4k A4l A4m A4n A4o A4p A4q A4r A4s A4t A4u A4v A4w A4x A4y A4z A4A A4B A4C A4D A4E A4F A4G A4H A4I A4J A4K A4L A4M A4N A4O A4P A4Q A4R A4S A4T nP nQ nS nT nU nV nW nX nY nZ n4 n5 n6 n7 n8 n9 oA oB oC oD oE oG oH oI oJ oK oL oM oO oP oQ oT oU oV oW oX oY oZ o4 o5 o6 o7 o8 o9 pA pB pC pD pE pF pG pH pI pJ pK pL pM pN pO pP pQ pR pS pT pU pV pW pX pY pZ p4 p5 p6 p7 p8 p9 qA qB qC qD qE qF qG qH qI qJ qK qL qM qN qO qP qQ qR qS qT qU qV qW qX qY qZ q9 rA rE rF rG rH rI rJ rK rO rQ rR rS rT rU rV rW
set_option maxRecDepth 100000
set_option maxHeartbeats 4000000
def Dq (f:List AE):Nat->List Int->Int->List Int
 | 0,o,_=>o
 | k+1,o,n=>(f.getD n.toNat (0,[])).2.foldl (λo a=>if a.2∈o then o else Dq f k o a.2) (o++[n])
def AZ (f:List AE) (k:Nat) (o:List Int) (a:Int×Int):List Int:=if a.2∈o then o else Dq f k o a.2
theorem CH (f:List AE) (k:Nat) (o:List Int) (n:Int):Dq f (k+1) o n=(f.getD n.toNat (0,[])).2.foldl (AZ f k) (o++[n]):=rfl
structure LN (f:List AE) (o:List Int):Prop where
 nd:o.Nodup
 rng:∀x∈o,0<=x/\x<(f.length:Int)
theorem LN.len {f:List AE} {o:List Int} (h:LN f o):o.length<=f.length:=by
 have h1:(o.map Int.toNat).Nodup:=by
  rw[List.Nodup,ABc];refine h.nd.imp_of_mem λ{a b} ha c g e=>g ?_;have:=h.rng a ha;have:=h.rng b c;omega
 have:=EW f.length (o.map Int.toNat) h1 (λj d=>by
  obtain⟨x,i,rfl⟩:=Do.1 d;have:=h.rng x i;omega)
 simpa using this
theorem LN.snoc {f:List AE} {o:List Int} (h:LN f o) {n:Int} (h0:0<=n) (h1:n<f.length) (hn:n∉o):LN f (o++[n]):=by
 refine⟨?_,λx c=>?_⟩
 ·rw[ABd];refine⟨h.nd,by simp,λa ha b d=>?_⟩;have:b=n:=by simpa using d
  subst this;intro e;subst e;exact hn ha
 ·rcases OF.1 c with c|c
  ·exact h.rng x c
  ·have:x=n:=by simpa using c
   subst this;exact⟨h0,h1⟩
theorem Ex {f:List AE} {k:Nat} (e:∀(o:List Int) (n:Int),LN f o->0<=n->n<f.length->n∉o->LN f (Dq f k o n)/\o <+: Dq f k o n) :
  ∀(l:List (Int×Int)) (o:List Int),(∀a∈l,0<=a.2/\a.2<(f.length:Int))->LN f o->LN f (l.foldl (AZ f k) o)/\o <+: l.foldl (AZ f k) o
 | [],o,_,h=>⟨h,AB6 _⟩
 | a :: l,o,c,h=>by
  simp only[TO];have d:LN f (AZ f k o a)/\o <+: AZ f k o a:=by
   unfold AZ;split
   ·exact⟨h,AB6 _⟩
   ·rename_i hn;exact e o a.2 h (c a (by simp)).1 (c a (by simp)).2 hn
  obtain⟨g,i⟩:=Ex e l _ (λb j=>c b (by simp[j])) d.1;exact⟨g,d.2.trans i⟩
theorem Bv {f:List AE} (hf:Ad f) {n:Int} {a:Int×Int} (ha:a∈(f.getD n.toNat (0,[])).2):0<=a.2/\a.2<f.length:=by
 by_cases h:n.toNat<f.length
 ·have b:f.getD n.toNat (0,[])∈f:=by
   rw[AS,AT h];exact AAR h
  exact(hf.2 _ b).2 a ha
 ·rw[AS,iF (by omega)]at ha;simp at ha
theorem EE {f:List AE} (hf:Ad f):∀(k:Nat) (o:List Int) (n:Int),LN f o->0<=n->n<f.length->n∉o->LN f (Dq f k o n)/\o <+: Dq f k o n
 | 0,o,n,h,_,_,_=>⟨h,AB6 _⟩
 | k+1,o,n,h,h0,h1,d=>by
  obtain⟨b,c⟩:=Ex (EE hf k) _ _ (λa ha=>Bv hf ha) (h.snoc h0 h1 d);rw[CH];exact⟨b,(AD0 o [n]).trans c⟩
theorem Ie {f:List AE} (hf:Ad f):∀(k:Nat) (o:List Int) (n:Int),LN f o->0<=n->n<f.length->n∉o->f.length-o.length<=k ->
  n∈Dq f k o n/\∀x∈Dq f k o n,x∈o\/∀a∈(f.getD x.toNat (0,[])).2,a.2∈Dq f k o n
 | 0,o,n,h,h0,h1,m,hk=>by
  have:=(h.snoc h0 h1 m).len;simp only[GO,aS]at this;omega
 | k+1,o,n,h,h0,h1,m,hk=>by
  have key:∀(l:List (Int×Int)) (t:List Int),(∀a∈l,0<=a.2/\a.2<(f.length:Int))->LN f t->f.length-t.length<=k ->
    (∀a∈l,a.2∈l.foldl (AZ f k) t)/\∀x∈l.foldl (AZ f k) t,x∈t\/∀a∈(f.getD x.toNat (0,[])).2,a.2∈l.foldl (AZ f k) t:=by
   intro l;induction l with
   | nil=>exact λt _ _ _=>⟨λa ha=>(by cases ha),λx c=>.inl c⟩
   | cons a l z =>
    intro t p r u;simp only[TO];have v:LN f (AZ f k t a)/\t <+: AZ f k t a/\a.2∈AZ f k t a/\∀x∈AZ f k t a,x∈t\/∀b∈(f.getD x.toNat (0,[])).2,b.2∈AZ f k t a:=by
     unfold AZ;split
     ·rename_i hn;exact⟨r,AB6 _,hn,λx c=>.inl c⟩
     ·rename_i hn;have q:=p a (by simp);obtain⟨e,g⟩:=EE hf k t a.2 r q.1 q.2 hn;obtain⟨i,j⟩:=Ie hf k t a.2 r q.1 q.2 hn u;exact⟨e,g,i,j⟩
    obtain⟨e,g,i,j⟩:=v;have A:=g.length_le;obtain⟨w,y⟩:=z (AZ f k t a) (λb d=>p b (by simp[d])) e (by omega);obtain⟨_,s⟩:=Ex (EE hf k) l (AZ f k t a) (λb d=>p b (by simp[d])) e;refine⟨λb d=>?_,λx c=>?_⟩
    ·rcases By.1 d with rfl|d
     ·exact s.subset i
     ·exact w b d
    ·rcases y x c with c|c
     ·rcases j x c with c|c
      ·exact .inl c
      ·exact .inr λb d=>s.subset (c b d)
     ·exact .inr c
  have hs:=h.snoc h0 h1 m;obtain⟨e,g⟩:=key (f.getD n.toNat (0,[])).2 (o++[n]) (λa ha=>Bv hf ha) hs (by simp only[GO,aS];omega);obtain⟨_,i⟩:=Ex (EE hf k) (f.getD n.toNat (0,[])).2 (o++[n]) (λa ha=>Bv hf ha) hs;rw[CH];refine⟨i.subset (by simp),λx c=>?_⟩;rcases g x c with c|c
  ·rcases OF.1 c with c|c
   ·exact .inl c
   ·have:x=n:=by simpa using c
    subst this;exact .inr e
  ·exact .inr c
def CE (o:List Int) (x:Int):Int:=if x∈o then (o.idxOf x:Int) else 0
def Mf (o:List Int) (a:Int×Int):Int×Int:=(a.1,CE o a.2)
def Ee (f:List AE) (o:List Int) (n:Int):AE:=((f.getD n.toNat (0,[])).1,(f.getD n.toNat (0,[])).2.map (Mf o))
def AP (f:List AE) (root:Int):List AE:=(Dq f f.length [] root).map (Ee f (Dq f f.length [] root))
def Og (f:List AE):Prop:=∀x∈f,kQ x.2/\x.2.length<=200
theorem kR {f:List AE} (hf:Og f) (n:Int):kQ (f.getD n.toNat (0,[])).2/\(f.getD n.toNat (0,[])).2.length<=200:=by
 by_cases h:n.toNat<f.length
 ·have a:f.getD n.toNat (0,[])∈f:=by
   rw[AS,AT h];exact AAR h
  exact hf _ a
 ·rw[AS,iF (by omega)];exact⟨λi hi=>by simp at hi,by simp⟩
theorem JT {l:List (Int×Int)} (h:kQ l):AU l=l:=by
 have key:∀i,i<=l.length->AU (l.take i)=l.take i:=by
  intro i;induction i with
  | zero=>intro _;rfl
  | succ i d =>
   intro hi;rw[AW l (0,0) (by omega),Hh,d (by omega)];have b:(l.take i).length=i:=by rw[ON];omega
   have c:Ib (l.getD i (0,0)) (l.take i) (l.take i).length=(l.take i).length:=by
    rw[b];cases i with
    | zero=>rfl
    | succ i =>
     have h1:=h i (by omega);have a:(l.take (i+1)).getD i (0,0)=l.getD i (0,0):=by
      simp only[AS];rw[AAy];simp
     simp only[Ib];rw[a,At (by omega)]
   unfold Oe;rw[c,iN,ACe,AAu]
 have:=key l.length (NO _)
 rwa [iN]at this
structure Lm (f:List AE) (num o:List Int):Prop where
 len:num.length=f.length
 get:∀j,j<f.length->num.getD j 0=if (j:Int)∈o then (o.idxOf (j:Int):Int) else -1
theorem Lm.neg {f:List AE} {num o:List Int} (h:Lm f num o) {n:Int} (h0:0<=n) (h1:n<f.length):num.getD n.toNat 0<0↔n∉o:=by
 have:=h.get n.toNat (by omega);rw[show ((n.toNat:Nat):Int)=n by omega]at this;rw[this];split
 ·rename_i a;constructor
  ·intro e;omega
  ·intro e;exact absurd a e
 ·rename_i a;exact⟨λ_=>a,λ_=>by omega⟩
theorem YE {o:List Int} {x n:Int} (h:x∈o):(o++[n]).idxOf x=o.idxOf x:=by rw[ACD,BY h]
theorem YF {o:List Int} {n:Int} (h:n∉o):(o++[n]).idxOf n=o.length:=by rw[ACD,At h];simp
theorem Lm.snoc {f:List AE} {num o:List Int} (h:Lm f num o) {n:Int} (h0:0<=n) (h1:n<f.length) (hn:n∉o):Lm f (num.set n.toNat (o.length:Int)) (o++[n]):=by
 refine⟨by simpa using h.len,λj b=>?_⟩;have d:j<num.length:=by rw[h.len];exact b
 by_cases e:j=n.toNat
 ·subst e;have en:((n.toNat:Nat):Int)=n:=by omega
  rw[en];simp only[AS];rw[ACA d,BY (by simp),YF hn];simp
 ·have en:¬(j:Int)=n:=by omega
  simp only[AS];rw[List.getElem?_set_ne (λc=>e c.symm)];have:=h.get j b;simp only[AS]at this;rw[this];by_cases a:(j:Int)∈o
  ·rw[BY a,BY (by simp[a]),YE a]
  ·rw[At a,At (by simp[a,en])]
theorem Vg {f:List AE} (hf:Ad f) (hs:Og f):∀(k:Nat) (s:List Int×List Int) (n:Int),Lm f s.1 s.2->LN f s.2->0<=n->n<f.length->n∉s.2->(Dg f k s n).2=Dq f k s.2 n/\Lm f (Dg f k s n).1 (Dg f k s n).2
 | 0,s,n,h,_,_,_,_=>⟨rfl,h⟩
 | k+1,s,n,h,w,h0,h1,m=>by
  have key:∀(l:List (Int×Int)) (t:List Int×List Int),(∀a∈l,0<=a.2/\a.2<(f.length:Int))->Lm f t.1 t.2->LN f t.2->(l.foldl (EO f k) t).2=l.foldl (AZ f k) t.2/\Lm f (l.foldl (EO f k) t).1 (l.foldl (EO f k) t).2:=by
   intro l;induction l with
   | nil=>exact λt _ d _=>⟨rfl,d⟩
   | cons a l z =>
    intro t o d j;simp only[TO];have q:=o a (by simp);have p:=d.neg q.1 q.2;have x:(EO f k t a).2=AZ f k t.2 a/\Lm f (EO f k t a).1 (EO f k t a).2/\LN f (EO f k t a).2:=by
     unfold EO AZ;by_cases c:a.2∈t.2
     ·rw[BY c,At (by rw[p];exact λe=>e c)];exact⟨rfl,d,j⟩
     ·rw[At c,BY (by rw[p];exact c)];obtain⟨g,i⟩:=Vg hf hs k t a.2 d j q.1 q.2 c;exact⟨g,i,by rw[g];exact(EE hf k t.2 a.2 j q.1 q.2 c).1⟩
    obtain⟨g,i,u⟩:=x;obtain⟨r,y⟩:=z (EO f k t a) (λb v=>o b (by simp[v])) i u;rw[g]at r;exact⟨r,y⟩
  rw[Dw,CH,JT (kR hs n).1];exact key _ (s.1.set n.toNat (s.2.length:Int),s.2++[n]) (λa ha=>Bv hf ha) (h.snoc h0 h1 m) (w.snoc h0 h1 m)
theorem Ig {f:List AE} (hf:Ad f) (hs:Og f) {root:Int} (h0:0<=root) (h1:root<f.length):Fl f root=AP f root:=by
 have l:Lm f (List.replicate f.length (-1)) []:=⟨by simp,λj k=>by simp[AS,ABp,k]⟩;have d:LN f []:=⟨by simp,λx e=>by cases e⟩;obtain⟨c,b⟩:=Vg hf hs f.length (List.replicate f.length (-1),[]) root l d h0 h1 (by simp);have c:(F9 f root).2=Dq f f.length [] root:=c;have b:Lm f (F9 f root).1 (F9 f root).2:=b;have i:=(Ie hf f.length [] root d h0 h1 (by simp) (by simp)).2;have m:=(EE hf f.length [] root d h0 h1 (by simp)).1;unfold Fl AP;rw[c]at b ⊢;generalize Dq f f.length [] root=o at *;refine oS λx e=>?_;unfold Lk Ee;rw[JT (kR hs x).1];refine ABr _ (oS λa ha=>?_);unfold W8 Mf CE;have h:a.2∈o:=by
  rcases i x e with g|g
  ·cases g
  ·exact g a ha
 have n:=Bv hf ha;have:=b.get a.2.toNat (by omega);rw[show ((a.2.toNat:Nat):Int)=a.2 by omega]at this;rw[this,BY h,BY h]
def yW (o:List Int):List (Int×Int):=(List.range o.length).map λi=>(o.getD i 0,(i:Int))
theorem d4 (o:List Int) (n:Int):yW (o++[n])=yW o++[(n,(o.length:Int))]:=by
 unfold yW;rw[GO,aS,AAq,AAs]
 congr 1
 ·refine oS λi hi=>?_;have:i<o.length:=oR.1 hi;simp only[AS];rw[AAo this]
 ·simp[AS]
theorem wN (k:Int) (a b:List (Int×Int)):A8 T3 T3 k (a++b)=(A8 T3 T3 k a).or (A8 T3 T3 k b):=by
 induction a with
 | nil=>rfl
 | cons x a c =>
  simp only[AC0,A8];split
  ·rfl
  ·exact c
theorem Gt {α:Type} {p:List α->Prop} (h0:p []) (h1:∀l a,p l->p (l++[a])) (l:List α):p l:=by
 have:∀n (l:List α),l.length=n->p l:=by
  intro n;induction n with
  | zero=>intro l b;rw[List.length_eq_zero_iff.1 b];exact h0
  | succ n d =>
   intro l b;have c:l≠[]:=by intro e;subst e;simp at b
   rw[<-List.dropLast_concat_getLast c];exact h1 _ _ (d _ (by simp[b]))
 exact this _ l rfl
theorem Rc (o:List Int) (x:Int):A8 T3 T3 x (yW o)=if x∈o then some (o.idxOf x:Int) else none:=by
 induction o using Gt with
 | h0=>rfl
 | h1 o n b =>
  rw[d4,wN,b];by_cases a:x∈o
  ·rw[BY a,BY (by simp[a]),YE a];rfl
  ·rw[At a];by_cases hn:x=n
   ·subst hn;rw[BY (by simp),YF a];simp[A8,Jt]
   ·rw[At (by simp[a,hn])];have:((x==n)=true)↔False:=by simp[hn]
    simp[A8,Jt,hn]
theorem wO (k v:Int) (l:List (Int×Int)) (h:A8 T3 T3 k l=none):Hs T3 T3 k v l=l++[(k,v)]:=by
 induction l with
 | nil=>rfl
 | cons x l b =>
  simp only[A8]at h;simp only[Hs,AC0];split at h
  ·cases h
  ·rename_i a;rw[At a,b h]
theorem A1o {o:List Int} {n:Int} (hn:n∉o):Hs T3 T3 n (o.length:Int) (yW o)=yW (o++[n]):=by
 rw[wO _ _ _ (by rw[Rc,At hn]),d4]
theorem A5l (o:List Int) (x:Int):(A8 T3 T3 x (yW o)).getD 0=CE o x:=by
 rw[Rc];unfold CE;split<;>rfl
theorem Vh (o:List Int) (x:Int):(A8 T3 T3 x (yW o)).isSome=decide (x∈o):=by
 rw[Rc];split<;>simp[*]
section
variable {α:Type}
structure SO (o:α->α->Int):Prop where
 anti:∀a b,o b a=- o a b
 trans:∀ {a b c},o a b<0->o b c<0->o a c<0
variable {o:α->α->Int} {d:α}
def CV (d:α) (l:List α) (i j:Nat):List α:=(l.set i (l.getD j d)).set j (l.getD i d)
theorem Ih {l:List α} {i j:Nat} (hi:i<l.length) (c:j<l.length) (k:Nat):(CV d l i j).getD k d=if k=j then l.getD i d else if k=i then l.getD j d else l.getD k d:=by
 unfold CV;simp only[AS,AAY,AAD];by_cases a:j=k
 ·rw[BY a,BY (by omega),BY a.symm];rfl
 ·rw[At a,At (show ¬k=j by omega)];by_cases b:i=k
  ·rw[BY b,BY (by omega),BY b.symm];rfl
  ·rw[At b,At (show ¬k=i by omega)]
theorem wP {l:List α} {i j:Nat} (hi:i<l.length) (a:j<l.length):(CV d l i j).Perm l:=by
 have b:l.getD i d=l[i]:=by rw[AS,AT hi];rfl
 have c:l.getD j d=l[j]:=by rw[AS,AT a];rfl
 unfold CV;rw[b,c];exact List.set_set_perm hi a
structure EH (d:α) (a b:Nat) (l r:List α):Prop where
 perm:r.Perm l
 out:∀k,k<a\/b<=k->r.getD k d=l.getD k d
 inn:∀i,a<=i->i<b->∃j,a<=j/\j<b/\r.getD i d=l.getD j d
theorem EH.len {a b:Nat} {l r:List α} (h:EH d a b l r):r.length=l.length:=h.perm.length_eq
theorem EH.refl (a b:Nat) (l:List α):EH d a b l l:=⟨List.Perm.refl _,λ_ _=>rfl,λi h1 c=>⟨i,h1,c,rfl⟩⟩
theorem EH.trans {a b:Nat} {l r s:List α} (h:EH d a b l r) (c:EH d a b r s):EH d a b l s:=⟨c.perm.trans h.perm,λk hk=>(c.out k hk).trans (h.out k hk),λi h1 g=>by
 obtain⟨j,m,n,e⟩:=c.inn i h1 g;obtain⟨k,o,p,f⟩:=h.inn j m n;exact⟨k,o,p,e.trans f⟩⟩
theorem EH.mono {a b c b':Nat} {l r:List α} (h:EH d a b l r) (ha:c<=a) (g:b<=b'):EH d c b' l r:=⟨h.perm,λk hk=>h.out k (by omega),λi h1 f=>by
 by_cases hi:a<=i/\i<b
 ·obtain⟨j,m,n,e⟩:=h.inn i hi.1 hi.2;exact⟨j,by omega,by omega,e⟩
 ·exact⟨i,h1,f,h.out i (by omega)⟩⟩
theorem EH.swap {a b:Nat} (l:List α) {i j:Nat} (g:a<=i) (h:i<b) (m:a<=j) (n:j<b) (q:b<=l.length):EH d a b l (CV d l i j):=by
 have f:=Ih (d:=d) (l:=l) (i:=i) (j:=j) (by omega) (by omega);refine⟨wP (by omega) (by omega),λk hk=>?_,λk o p=>?_⟩
 ·rw[f k,At (by omega),At (by omega)]
 ·rw[f k];by_cases c:k=j
  ·rw[BY c];exact⟨i,g,h,rfl⟩
  ·rw[At c];by_cases e:k=i
   ·rw[BY e];exact⟨j,m,n,rfl⟩
   ·rw[At e];exact⟨k,o,p,rfl⟩
def gV (o:α->α->Int) (d:α) (l:List α):Prop:=∀i j,i<l.length->j<l.length->i≠j->o (l.getD i d) (l.getD j d)≠0
theorem sX (g:SO o) (l:List α):gV o d l↔l.Pairwise λa b=>o a b≠0:=by
 have e:∀i (h:i<l.length),l.getD i d=l[i]:=λi h=>by rw[AS,AT h];rfl
 rw[tO];constructor
 ·intro h i j hi c f;have:=h i j hi c (by omega)
  rwa [e i hi,e j c]at this
 ·intro h i j hi c f;rw[e i hi,e j c];rcases Nat.lt_or_gt_of_ne f with h1|h1
  ·exact h i j hi c h1
  ·have k:=h j i c hi h1;rw[g.anti];omega
theorem gV.perm (c:SO o) {l r:List α} (h:gV o d l) (hp:r.Perm l):gV o d r:=by
 rw[sX c]at h ⊢;refine(hp.symm.pairwise_iff ?_).1 h;intro a b e;rw[c.anti];omega
theorem gV.lt (c:SO o) {l:List α} (h:gV o d l) {i j:Nat} (hi:i<l.length) (b:j<l.length) (a:i≠j) (hn:¬o (l.getD i d) (l.getD j d)<0):o (l.getD j d) (l.getD i d)<0:=by
 have h1:=h i j hi b a;rw[c.anti];omega
def Rd (o:α->α->Int) (d:α) (a b:Nat) (l:List α):Prop:=∀i j,a<=i->i<j->j<b->o (l.getD i d) (l.getD j d)<0
theorem Zr (a:Nat) (l:List α):Rd o d a (a+1) l:=λi j h1 b c=>by omega
theorem A1p (g:SO o) {a b:Nat} {l:List α} (h:Rd o d a b l) (m:a<b) (c:o (l.getD (b-1) d) (l.getD b d)<0):Rd o d a (b+1) l:=by
 intro i j h1 e k;by_cases f:j=b
 ·subst f;by_cases hi:i=j-1
  ·rw[hi];exact c
  ·exact g.trans (h i (j-1) h1 (by omega) (by omega)) c
 ·exact h i j h1 e (by omega)
theorem NH {a b:Nat} {l r:List α} (h:Rd o d a b l) (e:∀k,a<=k->k<b->r.getD k d=l.getD k d):Rd o d a b r:=λi j h1 f c=>by
 rw[e i h1 (by omega),e j (by omega) c];exact h i j h1 f c
def kS (o:α->α->Int) (d:α) (a i j:Nat) (m:List α):Prop:=(∀x y,a<=x->x<y->y<=i->x≠j->y≠j->o (m.getD x d) (m.getD y d)<0)/\∀y,j<y->y<=i->o (m.getD j d) (m.getD y d)<0
theorem kT {a i:Nat} {m:List α} (h:Rd o d a i m):kS o d a i i m:=⟨λx y h0 h1 b c e=>h x y h0 h1 (by omega),λy h1 b=>by omega⟩
theorem Vi (g:SO o) {a i j:Nat} {m:List α} (h:kS o d a i j m) (l:a<=j) (n:j<=i) (b:j=a\/o (m.getD (j-1) d) (m.getD j d)<0):Rd o d a (i+1) m:=by
 intro x y h0 h1 k;by_cases c:x=j
 ·subst c;exact h.2 y h1 (by omega)
 ·by_cases e:y=j
  ·subst e;rcases b with b|b
   ·omega
   ·by_cases f:x=y-1
    ·subst f;exact b
    ·exact g.trans (h.1 x (y-1) h0 (by omega) (by omega) c (by omega)) b
  ·exact h.1 x y h0 h1 (by omega) c e
theorem YG {a i j:Nat} {m:List α} (h:kS o d a i j m) (h0:a<j) (q:j<=i) (hi:i<m.length) (p:o (m.getD j d) (m.getD (j-1) d)<0):kS o d a i (j-1) (CV d m j (j-1)):=by
 have f:=Ih (d:=d) (l:=m) (i:=j) (j:=j-1) (by omega) (by omega);refine⟨λx y g h1 e k n=>?_,λy h1 e=>?_⟩
 ·rw[f x,f y,At k,At n];by_cases c:x=j
  ·subst c;rw[BY rfl,At (by omega)];exact h.1 (x-1) y (by omega) (by omega) e (by omega) (by omega)
  ·rw[At c];by_cases b:y=j
   ·rw[BY b];exact h.1 x (j-1) g (by omega) (by omega) c (by omega)
   ·rw[At b];exact h.1 x y g h1 e c b
 ·rw[f (j-1),f y,BY rfl,At (by omega)];by_cases b:y=j
  ·rw[BY b];exact p
  ·rw[At b];exact h.2 y (by omega) e
def Hp (o:α->α->Int) (d:α) (f hi lo:Nat) (m:List α):Prop:=∀k c,lo<=k->(c=2*k+1\/c=2*k+2)->c<hi->o (m.getD (f+c) d) (m.getD (f+k) d)<0
structure HpX (o:α->α->Int) (d:α) (f hi lo root:Nat) (m:List α):Prop where
 le:lo<=root
 hp:∀k c,lo<=k->k≠root->(c=2*k+1\/c=2*k+2)->c<hi->o (m.getD (f+c) d) (m.getD (f+k) d)<0
 up:∀p c,lo<=p->(root=2*p+1\/root=2*p+2)->(c=2*root+1\/c=2*root+2)->c<hi->o (m.getD (f+c) d) (m.getD (f+p) d)<0
theorem wQ {f hi lo:Nat} {m:List α} (h:Hp o d f hi (lo+1) m):HpX o d f hi lo lo m:=⟨NO _,λk c h1 a b e=>h k c (by omega) b e,λp c h1 a=>by omega⟩
theorem A1q {f hi lo root:Nat} {m:List α} (h:HpX o d f hi lo root m) (e:hi<=2*root+1):Hp o d f hi lo m:=λk c h1 a b=>h.hp k c h1 (by omega) a b
theorem d5 (i:SO o) {f hi lo root ch:Nat} {m:List α} (h:HpX o d f hi lo root m) (j:ch=2*root+1\/ch=2*root+2) (g:o (m.getD (f+ch) d) (m.getD (f+root) d)<0)
  (hs:∀c,(c=2*root+1\/c=2*root+2)->c<hi->c≠ch->o (m.getD (f+c) d) (m.getD (f+ch) d)<0):Hp o d f hi lo m:=λk c h1 a b=>by
 by_cases hk:k=root
 ·subst hk;by_cases e:c=ch
  ·rw[e];exact g
  ·exact i.trans (hs c a b e) g
 ·exact h.hp k c h1 hk a b
theorem d6 {f hi lo root ch:Nat} {m:List α} (h:HpX o d f hi lo root m) (r:ch<hi) (hf:f+hi<=m.length) (n:ch=2*root+1\/ch=2*root+2) (t:o (m.getD (f+root) d) (m.getD (f+ch) d)<0)
  (hs:∀c,(c=2*root+1\/c=2*root+2)->c<hi->c≠ch->o (m.getD (f+c) d) (m.getD (f+ch) d)<0):HpX o d f hi lo ch (CV d m (f+root) (f+ch)):=by
 have e:=Ih (d:=d) (l:=m) (i:=f+root) (j:=f+ch) (by omega) (by omega);have u:=h.le;refine⟨by omega,λk c h1 g a b=>?_,λp c h1 g a b=>?_⟩
 ·rw[e,e];by_cases hk:k=root
  ·subst hk;rw[At (show ¬f+k=f+ch by omega),BY rfl];by_cases q:c=ch
   ·rw[BY (by omega)];exact t
   ·rw[At (by omega),At (by omega)];exact hs c a b q
  ·rw[At (show ¬f+k=f+ch by omega),At (show ¬f+k=f+root by omega)];by_cases s:c=root
   ·subst s;rw[At (by omega),BY rfl];exact h.up k ch h1 a n r
   ·rw[At (by omega),At (by omega)];exact h.hp k c h1 hk a b
 ·have hp:p=root:=by omega
  subst hp;rw[e,e,At (by omega),At (by omega),At (by omega),BY rfl];exact h.hp ch c (by omega) (by omega) a b
theorem d7 (b:SO o) {f hi:Nat} {m:List α} (h:Hp o d f hi 0 m):∀(n k:Nat),k<=n->0<k->k<hi->o (m.getD (f+k) d) (m.getD f d)<0
 | 0,k,h1,c,_=>by omega
 | n+1,k,h1,c,e=>by
  have a:=h ((k-1) / 2) k (by omega) (by omega) e;by_cases g:(k-1) / 2=0
  ·rw[g]at a;exact a
  ·exact b.trans a (d7 b h n ((k-1) / 2) (by omega) (by omega) (by omega))
structure wR (o:α->α->Int) (d:α) (f n i:Nat) (m:List α):Prop where
 heap:Hp o d f i 0 m
 srt:Rd o d (f+i) (f+n) m
 big:∀x y,x<i->i<=y->y<n->o (m.getD (f+x) d) (m.getD (f+y) d)<0
theorem kU {f n:Nat} {m:List α} (h:Hp o d f n 0 m):wR o d f n n m:=⟨h,λi j h1 a b=>by omega,λx y h1 a b=>by omega⟩
theorem wS (t:SO o) {f n i:Nat} {m:List α} (h:wR o d f n (i+1) m) (hi:i<n) (v:f+n<=m.length) :
  HpX o d f i 0 0 (CV d m f (f+i))/\Rd o d (f+i) (f+n) (CV d m f (f+i))/\∀x y,x<i->i<=y->y<n->o ((CV d m f (f+i)).getD (f+x) d) ((CV d m f (f+i)).getD (f+y) d)<0:=by
 have a:=Ih (d:=d) (l:=m) (i:=f) (j:=f+i) (by omega) (by omega);have q:=d7 t h.heap i;refine⟨⟨NO _,λk c h1 e b u=>?_,λp c h1 e=>by omega⟩,λx y h1 e b=>?_,λx y h1 e b=>?_⟩
 ·rw[a,a,At (by omega),At (by omega),At (by omega),At (by omega)];exact h.heap k c h1 b (by omega)
 ·rw[a,a,At (show ¬y=f+i by omega),At (show ¬y=f by omega)];by_cases g:x=f+i
  ·rw[BY g];have:=h.big 0 (y-f) (by omega) (by omega) (by omega)
   rwa [show f+0=f by omega,show f+(y-f)=y by omega]at this
  ·rw[At g,At (by omega)];exact h.srt x y (by omega) e b
 ·have key:∀z,z<i+1->i+1<=y->o (m.getD (f+z) d) (m.getD (f+y) d)<0:=λz s r=>h.big z y s r b;rw[a,a,At (show ¬f+x=f+i by omega)];by_cases r:y=i
  ·rw[BY (show f+y=f+i by omega)];by_cases g:x=0
   ·rw[BY (show f+x=f by omega)];exact q i (by omega) (by omega) (by omega)
   ·rw[At (show ¬f+x=f by omega)];exact q x (by omega) (by omega) (by omega)
  ·rw[At (show ¬f+y=f+i by omega),At (show ¬f+y=f by omega)];by_cases g:x=0
   ·rw[BY (show f+x=f by omega)];exact key i (by omega) (by omega)
   ·rw[At (show ¬f+x=f by omega)];exact key x (by omega) (by omega)
theorem wT {f n i:Nat} {m r:List α} (hp:EH d f (f+i) m r) (hh:Hp o d f i 0 r) (hs:Rd o d (f+i) (f+n) m) (c:∀x y,x<i->i<=y->y<n->o (m.getD (f+x) d) (m.getD (f+y) d)<0):wR o d f n i r :=
 ⟨hh,NH hs λk h1 a=>hp.out k (by omega),λx y h1 a b=>by
  rw[hp.out (f+y) (by omega)];obtain⟨j,g,h,e⟩:=hp.inn (f+x) (by omega) (by omega);rw[e];have:=c (j-f) y (by omega) a b
  rwa [show f+(j-f)=j by omega]at this⟩
theorem A1r {f n:Nat} {m:List α} (h:wR o d f n 0 m):Rd o d f (f+n) m:=h.srt
structure PtI (o:α->α->Int) (d:α) (a b i j:Nat) (m:List α):Prop where
 lo:∀x,a<x->x<i->o (m.getD x d) (m.getD a d)<0
 hi:∀x,j<x->x<b->o (m.getD a d) (m.getD x d)<0
theorem d8 {a b i j:Nat} {m:List α} (h:PtI o d a b i j m) (n:a<i) (q:i<j) (r:j<b) (p:b<=m.length) (h1:o (m.getD a d) (m.getD i d)<0) (k:o (m.getD j d) (m.getD a d)<0):PtI o d a b (i+1) (j-1) (CV d m i j):=by
 have c:=Ih (d:=d) (l:=m) (i:=i) (j:=j) (by omega) (by omega);refine⟨λx f g=>?_,λx f g=>?_⟩
 ·rw[c x,c a,At (show ¬x=j by omega),At (show ¬a=j by omega),At (show ¬a=i by omega)];by_cases e:x=i
  ·rw[BY e];exact k
  ·rw[At e];exact h.lo x f (by omega)
 ·rw[c x,c a,At (show ¬a=j by omega),At (show ¬a=i by omega)];by_cases e:x=j
  ·rw[BY e];exact h1
  ·rw[At e,At (by omega)];exact h.hi x (by omega) g
structure yX (o:α->α->Int) (d:α) (a b p:Nat) (m:List α):Prop where
 l:a<=p
 r:p<b
 lo:∀x,a<=x->x<p->o (m.getD x d) (m.getD p d)<0
 hi:∀x,p<x->x<b->o (m.getD p d) (m.getD x d)<0
theorem sY {a b j:Nat} {m:List α} (h:PtI o d a b (j+1) j m) (g:a<=j) (k:j<b) (p:b<=m.length):yX o d a b j (CV d m j a):=by
 have c:=Ih (d:=d) (l:=m) (i:=j) (j:=a) (by omega) (by omega);refine⟨g,k,λx n f=>?_,λx n f=>?_⟩
 ·rw[c x,c j,At (show ¬j=a by omega),BY rfl];by_cases e:x=a
  ·rw[BY e];exact h.lo j (by omega) (by omega)
  ·rw[At e,At (by omega)];exact h.lo x (by omega) (by omega)
 ·rw[c x,c j,At (show ¬x=a by omega),At (show ¬x=j by omega)];by_cases e:j=a
  ·rw[BY e];rw[e];exact h.hi x (by omega) f
  ·rw[At e,BY rfl];exact h.hi x (by omega) f
structure wU (o:α->α->Int) (d:α) (a0 b0 a b:Nat) (m:List α):Prop where
 s1:Rd o d a0 a m
 s2:Rd o d b b0 m
 c1:∀x y,a0<=x->x<a->a<=y->y<b0->o (m.getD x d) (m.getD y d)<0
 c2:∀x y,a0<=x->x<b->b<=y->y<b0->o (m.getD x d) (m.getD y d)<0
 ab:a0<=a/\a<=b/\b<=b0
theorem wV {a b:Nat} (g:a<=b) (m:List α):wU o d a b a b m:=⟨λi j h1 c e=>by omega,λi j h1 c e=>by omega,λx y h1 c=>by omega,λx y h1 c e f=>by omega,by omega⟩
theorem wU.pin {a0 l a b:Nat} {m r:List α} (h:wU o d a0 l a b m) (hp:EH d a b m r):wU o d a0 l a b r:=by
 obtain⟨v,A,w⟩:=h.ab;have key:∀(P:α->Prop) (lo hi:Nat),lo<=a->b<=hi->(∀y,lo<=y->y<hi->P (m.getD y d))->∀y,lo<=y->y<hi->P (r.getD y d):=λP lo hi h1 n p y c f=>by
  obtain⟨j,q,s,e⟩:=(hp.mono h1 n).inn y c f;rw[e];exact p j q s
 refine⟨NH h.s1 λk t u=>hp.out k (by omega),NH h.s2 λk t u=>hp.out k (by omega),λx y g i c f=>?_,λx y g i c f=>?_,h.ab⟩
 ·rw[hp.out x (by omega)];exact key (λz=>o (m.getD x d) z<0) a l (NO _) w (λy c f=>h.c1 x y g i c f) y c f
 ·rw[hp.out y (by omega)];exact key (λz=>o z (m.getD y d)<0) a0 b v (NO _) (λx g i=>h.c2 x y g i c f) x g i
theorem wU.done {a0 g a b:Nat} {m:List α} (h:wU o d a0 g a b m) (hs:Rd o d a b m):Rd o d a0 g m:=by
 obtain⟨l,n,p⟩:=h.ab;intro i j h1 c e;by_cases hi:i<a
 ·by_cases f:j<a
  ·exact h.s1 i j h1 c f
  ·exact h.c1 i j h1 hi (by omega) e
 ·by_cases f:j<b
  ·exact hs i j (by omega) c f
  ·by_cases k:i<b
   ·exact h.c2 i j h1 k (by omega) e
   ·exact h.s2 i j (by omega) c e
theorem wU.left (t:SO o) {a0 e a b p:Nat} {m:List α} (h:wU o d a0 e a b m) (hp:yX o d a b p m) (hs:Rd o d a p m):wU o d a0 e (p+1) b m:=by
 obtain⟨z,A,B⟩:=h.ab;have v:=hp.l;have w:=hp.r;refine⟨λi j h1 f u=>?_,h.s2,λx y k C D n=>?_,h.c2,by omega⟩
 ·by_cases hi:i<a
  ·by_cases c:j<a
   ·exact h.s1 i j h1 f c
   ·exact h.c1 i j h1 hi (by omega) (by omega)
  ·by_cases c:j=p
   ·rw[c];exact hp.lo i (by omega) (by omega)
   ·exact hs i j (by omega) f (by omega)
 ·by_cases q:x<a
  ·exact h.c1 x y k q (by omega) n
  ·by_cases g:y<b
   ·by_cases s:x=p
    ·rw[s];exact hp.hi y (by omega) g
    ·exact t.trans (hp.lo x (by omega) (by omega)) (hp.hi y (by omega) g)
   ·exact h.c2 x y k (by omega) (by omega) n
theorem wU.right (w:SO o) {a0 g a b p:Nat} {m:List α} (h:wU o d a0 g a b m) (hp:yX o d a b p m) (hs:Rd o d (p+1) b m):wU o d a0 g a p m:=by
 obtain⟨B,C,D⟩:=h.ab;have z:=hp.l;have A:=hp.r;refine⟨h.s1,λi j h1 k n=>?_,λx y c e s f=>h.c1 x y c e s f,λx y c e s f=>?_,by omega⟩
 ·by_cases q:j<b
  ·by_cases hi:i=p
   ·rw[hi];exact hp.hi j (by omega) q
   ·exact hs i j (by omega) k q
  ·by_cases t:i<b
   ·exact h.c2 i j (by omega) t (by omega) n
   ·exact h.s2 i j (by omega) k n
 ·by_cases v:y<b
  ·by_cases u:x<a
   ·exact h.c1 x y c u (by omega) f
   ·by_cases hyp:y=p
    ·rw[hyp];exact hp.lo x (by omega) e
    ·exact w.trans (hp.lo x (by omega) e) (hp.hi y (by omega) v)
  ·exact h.c2 x y c (by omega) (by omega) f
theorem yX.pinL {a b p:Nat} {m r:List α} (h:yX o d a b p m) (hp:EH d a p m r):yX o d a b p r:=by
 have g:=h.l;have i:=h.r;refine⟨g,i,λx c f=>?_,λx c f=>?_⟩
 ·rw[hp.out p (by omega)];obtain⟨j,k,n,e⟩:=hp.inn x c f;rw[e];exact h.lo j k n
 ·rw[hp.out p (by omega),hp.out x (by omega)];exact h.hi x c f
theorem yX.pinR {a b p:Nat} {m r:List α} (h:yX o d a b p m) (hp:EH d (p+1) b m r):yX o d a b p r:=by
 have g:=h.l;have i:=h.r;refine⟨g,i,λx f c=>?_,λx f c=>?_⟩
 ·rw[hp.out p (by omega),hp.out x (by omega)];exact h.lo x f c
 ·rw[hp.out p (by omega)];obtain⟨j,n,k,e⟩:=hp.inn x (by omega) c;rw[e];exact h.hi j (by omega) k
def Bf (o:α->α->Int) (d:α) (a b:Nat) (m:List α):Prop:=a=0\/∀y,a<=y->y<b->o (m.getD (a-1) d) (m.getD y d)<0
theorem Bf.pin {a b:Nat} {m r:List α} (h:Bf o d a b m) (hp:EH d a b m r):Bf o d a b r:=by
 rcases h with h|h
 ·exact .inl h
 ·by_cases h0:a=0
  ·exact .inl h0
  ·right;intro y g i;rw[hp.out (a-1) (by omega)];obtain⟨j,c,f,e⟩:=hp.inn y g i;rw[e];exact h j c f
theorem Bf.sub {a b b':Nat} {m:List α} (h:Bf o d a b m) (e:b'<=b):Bf o d a b' m:=h.imp id λh y c f=>h y c (by omega)
theorem yX.bf {a b p:Nat} {m:List α} (h:yX o d a b p m):Bf o d (p+1) b m:=.inr λy e c=>by
 rw[show p+1-1=p by omega];exact h.hi y (by omega) c
end
section
attribute [local go_sem] Cy
def CF (a b:Int×Int):Int:=Fu a.1 b.1
theorem CM:SO CF:=⟨λa b=>by unfold CF Fu;(repeat' split)<;>omega,λ{a b c} h1 d=>by
 unfold CF Fu at *
 (repeat' split at h1)<;>(repeat' split at d)<;>(repeat' split)<;>omega⟩
theorem A5m (l:List (Int×Int)) (M:l.length<=100000) (w:gV CF (0,0) l) (a b:Nat) (H:a<=100000) (I:b<=l.length):BA Tryz.prog 166 [.sr 1000000 BE 0 l.length,.p T3 (a:Int),.p T3 (b:Int),.fn 116] [(1000000,.arr 53 BE l)] [1000000] (λres F=>res=.raw (.tuple #[])/\∃r,F=[(1000000,.arr 53 BE r)]/\EH (0,0) a b l r/\Rd CF (0,0) a b r):=by
 refine Jh [0,1,2,3,8,9,14,34] [] [] Tryz.func166 Tryz.ntmps166 (AF E5 AH) ?_;intro w0 K O0 ρ0 d O P;simp only[Aj];repeat'(first|exact trivial|refine eS rfl ?_|refine AB ?_|refine rX d ?_ ?_|refine rC ?_ ?_<;>intro e<;>try(cases e;done))
 ·omega
 ·refine AG (ι:={s:Nat×List (Int×Int)//a+1<=s.1/\(s.1=a+1\/s.1<=b)/\EH (0,0) a b l s.2/\Rd CF (0,0) a s.1 s.2}) (λs=>⟨[(0,.sr 1000000 BE 0 l.length),(1,.p T3 (a:Int)),(2,.p T3 (b:Int)),(3,.fn 116),(8,.p (.int .i64) (s.1.1:Int))],[(1000000,.arr 53 BE s.1.2)]⟩) (λs=>b-s.1.1) ⟨(a+1,l),NO _,.inl rfl,EH.refl a b l,Zr a l⟩ (AC [(1000000,.nm 1000000)] rfl rfl ?_ ?_) (λs=>?_)
  ·first|exact eN|refine eM ?_
  ·first|exact eN|refine eM ?_
  ·obtain⟨⟨i,m⟩,B,C,hp,hs⟩:=s;simp only at B C hp hs ⊢;have N:=hp.len;repeat'(first|exact trivial|refine eS rfl ?_|refine AB ?_|refine rX d ?_ ?_|refine rC ?_ ?_<;>intro e<;>try(cases e;done))
   ·have D:i<b:=by exact eV
    refine AG (ι:={t:Nat×List (Int×Int)//a<=t.1/\t.1<=i/\EH (0,0) a b l t.2/\kS CF (0,0) a i t.1 t.2}) (λt=>⟨[(0,.sr 1000000 BE 0 l.length),(1,.p T3 (a:Int)),(2,.p T3 (b:Int)),(3,.fn 116),(8,.p (.int .i64) (i:Int)),(9,.p (.int .i64) (t.1.1:Int))],[(1000000,.arr 53 BE t.1.2)]⟩) (λt=>t.1.1) ⟨(i,m),by omega,NO i,hp,kT hs⟩ (AC [(1000000,.nm 1000000)] rfl rfl ?_ ?_) (λt=>?_)
    ·first|exact eN|refine eM ?_
    ·first|exact eN|refine eM ?_
    ·obtain⟨⟨j,c⟩,ha,q,g,o⟩:=t;simp only at ha q g o ⊢;have J:=g.len;have z:=w.perm CM g.perm;repeat'(first|exact trivial|refine eS rfl ?_|refine AB ?_|refine rX d ?_ ?_)
     ·dsimp only[Ty.den]at *;exact⟨λ_=>by omega,λ_=>⟨by omega,by omega⟩,λ_=>⟨by omega,by omega⟩⟩
     ·have n:a<j->((j:Int)-1).toNat=j-1:=λ_=>by omega
      refine Dm (by simp only[go_sem,Nat.reduceEqDiff,reduceCtorEq,Nat.reduceAdd,Nat.reduceSub,Nat.reduceMul,Nat.reduceLeDiff,Nat.reduceLT,Int.reduceLE,Int.reduceToNat,Int.reduceNeg,↓reduceIte];rfl) ?_ ?_
      ·intro f;simp only[As,IS]at f;have k:a<j:=by omega
       have u:CF (c.getD j (0,0)) (c.getD ((j:Int)-1).toNat (0,0))<0:=f.2;rw[n k]at u;have E:CV (0,0) c j (j-1)=(c.set j (c.getD (j-1) (0,0))).set (j-1) (c.getD j (0,0)):=rfl;repeat'(first|exact trivial|refine eS rfl ?_|refine AB ?_|refine rP d ?_ ?_|fail)
       (refine B4 drawsAny d 16 [([0,1,5,6,7,8,9,10,11,12,13,14],15)] [2,3,4] (by kernel_rfl) (Lf ?_ ?_);(next=>exact CW);refine Nm d [] ?_ ?_;(next=>exact CW);refine Pm d ?_ ?_ ?_;(next=>exact CW);(next=>exact CW))
       rw[n k];repeat'(first|exact trivial|refine eS rfl ?_|refine AB ?_|refine rX d ?_ ?_|refine rC ?_ ?_<;>intro e<;>try(cases e;done))
       ·dsimp only[Ty.den]at *;omega
       ·refine⟨⟨(j-1,CV (0,0) c j (j-1)),by simp only;omega,by simp only;omega,g.trans (EH.swap c (by omega) (by omega) (by omega) (by omega) (by omega)),YG o k q (by omega) u⟩,by simp only;omega,AC [(1000000,.nm 1000000)] rfl rfl ?_ ?_⟩
        ·simp only;rw[E];first|exact eN|refine eM ?_
        ·simp only;rw[show ((j-1:Nat):Int)=(j:Int)-1 by omega];first|exact eN|refine eM ?_
      ·intro f;have A:j=a\/CF (c.getD (j-1) (0,0)) (c.getD j (0,0))<0:=by
        by_cases k:j=a
        ·exact .inl k
        ·right;simp only[ABh,To]at f;rw[n (by omega)]at f;rcases f with h|h
         ·omega
         ·exact z.lt CM (by omega) (by omega) (by omega) h
       repeat'(first|exact trivial|refine eS rfl ?_|refine AB ?_|refine rX d ?_ ?_|refine rC ?_ ?_<;>intro e<;>try(cases e;done))
       ·exact eV
       ·refine⟨⟨(i+1,c),by simp only;omega,.inr D,g,Vi CM o ha q A⟩,by simp only;omega,AC [(1000000,.nm 1000000)] rfl rfl ?_ ?_⟩
        ·first|exact eN|refine eM ?_
        ·first|exact eN|refine eM ?_
   ·have L:b<=i:=by exact eV
    exact fM d [] (.raw (.tuple #[])) rfl ⟨rfl,m,rfl,hp,λx y h1 v G=>hs x y h1 v (by omega)⟩
end
section
attribute [local go_sem] Cy
theorem A5n (l:List (Int×Int)) (o:l.length<=100000) (a b:Nat) (h:a<b) (k:b<=l.length):BA Tryz.prog 170 [.sr 1000000 BE 0 l.length,.p T3 (a:Int),.p T3 (b:Int),.fn 116] [(1000000,.arr 53 BE l)] [1000000] (λres g=>res=.raw (.tuple #[])/\∃r,g=[(1000000,.arr 53 BE r)]/\EH (0,0) a b l r):=by
 refine Jh [0,1,2,8,9,15] [] [] Tryz.func170 Tryz.ntmps170 AH ?_;intro w0 K O0 ρ0 c t u;simp only[Aj];repeat'(first|exact trivial|refine eS rfl ?_|refine AB ?_|refine rX c ?_ ?_|refine rC ?_ ?_<;>intro d<;>try(cases d;done))
 ·omega
 ·rw[show (b:Int)-1=((b-1:Nat):Int) by omega];refine AG (ι:={s:Nat×Nat×List (Int×Int)//a<=s.1/\s.2.1<b/\EH (0,0) a b l s.2.2}) (λs=>⟨[(0,.sr 1000000 BE 0 l.length),(8,.p (.int .i64) (s.1.1:Int)),(9,.p (.int .i64) (s.1.2.1:Int))],[(1000000,.arr 53 BE s.1.2.2)]⟩) (λs=>s.1.2.1-s.1.1) ⟨(a,b-1,l),NO _,by simp only;omega,EH.refl a b l⟩ (AC [(1000000,.nm 1000000)] rfl rfl ?_ ?_) (λs=>?_)
  ·first|exact eN|refine eM ?_
  ·first|exact eN|refine eM ?_
  ·obtain⟨⟨i,j,m⟩,hi,e,hp⟩:=s;simp only at hi e hp ⊢;have q:=hp.len;repeat'(first|exact trivial|refine eS rfl ?_|refine AB ?_|refine rX c ?_ ?_)
   refine rC ?_ ?_<;>intro d
   ·repeat'(first|exact trivial|refine eS rfl ?_|refine AB ?_|refine rP c ?_ ?_|fail)
    have n:i<j:=by omega
    have f:CV (0,0) m i j=(m.set i (m.getD j (0,0))).set j (m.getD i (0,0)):=rfl
    (refine B4 drawsAny c 14 [([0,1,4,5,6,7,8,9,10,11,12],13)] [2,3] (by kernel_rfl) (Lf ?_ ?_);(next=>exact CW);refine Nm c [] ?_ ?_;(next=>exact CW);refine Pm c ?_ ?_ ?_;(next=>exact CW);(next=>exact CW))
    repeat'(first|exact trivial|refine eS rfl ?_|refine AB ?_|refine rX c ?_ ?_|refine rC ?_ ?_<;>intro d<;>try(cases d;done))
    ·omega
    ·omega
    ·refine⟨⟨(i+1,j-1,CV (0,0) m i j),by simp only;omega,by simp only;omega,hp.trans (EH.swap m (by omega) (by omega) (by omega) (by omega) (by omega))⟩,by simp only;omega,AC [(1000000,.nm 1000000)] rfl rfl ?_ ?_⟩
     ·simp only;rw[f];first|exact eN|refine eM ?_
     ·simp only;rw[show ((j-1:Nat):Int)=(j:Int)-1 by omega];first|exact eN|refine eM ?_
   ·repeat'(first|exact trivial|refine eS rfl ?_|refine AB ?_|refine rX c ?_ ?_|refine rC ?_ ?_<;>intro d<;>try(cases d;done))
    exact fM c [] (.raw (.tuple #[])) rfl ⟨rfl,m,rfl,hp⟩
theorem d9 (l:List (Int×Int)) (o:l.length<=100000) (z:gV CF (0,0) l) (lo hi f:Nat) (F:lo<=100000) (hf:f+hi<=l.length) (A:HpX CF (0,0) f hi lo lo l):BA Tryz.prog 178 [.sr 1000000 BE 0 l.length,.p T3 (lo:Int),.p T3 (hi:Int),.p T3 (f:Int),.fn 116] [(1000000,.arr 53 BE l)] [1000000] (λres E=>res=.raw (.tuple #[])/\∃r,E=[(1000000,.arr 53 BE r)]/\EH (0,0) f (f+hi) l r/\Hp CF (0,0) f hi lo r):=by
 refine Jh [0,1,2,3,4,10,11,18,40,58] [] [] Tryz.func178 Tryz.ntmps178 (AF E5 AH) ?_;intro w0 K O0 ρ0 a H I;simp only[Aj];repeat'(first|exact trivial|refine eS rfl ?_|refine AB ?_|refine rX a ?_ ?_|refine rC ?_ ?_<;>intro d<;>try(cases d;done))
 refine AG (ι:={s:Nat×List (Int×Int)//s.1<=lo+hi/\EH (0,0) f (f+hi) l s.2/\HpX CF (0,0) f hi lo s.1 s.2}) (λs=>⟨[(0,.sr 1000000 BE 0 l.length),(2,.p T3 (hi:Int)),(3,.p T3 (f:Int)),(4,.fn 116),(10,.p (.int .i64) (s.1.1:Int))],[(1000000,.arr 53 BE s.1.2)]⟩) (λs=>lo+hi-s.1.1) ⟨(lo,l),by omega,EH.refl _ _ l,A⟩ (AC [(1000000,.nm 1000000)] rfl rfl ?_ ?_) (λs=>?_)
 ·first|exact eN|refine eM ?_
 ·first|exact eN|refine eM ?_
 ·obtain⟨⟨root,m⟩,D,hp,k⟩:=s;simp only at D hp k ⊢;have G:=hp.len;have t:=z.perm CM hp.perm;repeat'(first|exact trivial|refine eS rfl ?_|refine AB ?_|refine rX a ?_ ?_)
  ·omega
  ·refine rC ?_ ?_<;>intro d
   ·have o:hi<=2*root+1:=by omega
    repeat'(first|exact trivial|refine eS rfl ?_|refine AB ?_|refine rX a ?_ ?_|refine rC ?_ ?_<;>intro d<;>try(cases d;done))
    exact fM a [] (.raw (.tuple #[])) rfl ⟨rfl,m,rfl,hp,A1q k o⟩
   ·have o:2*root+1<hi:=by omega
    have n:((f:Int)+(2*(root:Int)+1)).toNat=f+(2*root+1):=by omega
    have q:((f:Int)+(2*(root:Int)+1+1)).toNat=f+(2*root+2):=by omega
    have w:((f:Int)+(2*(root:Int)+1)+1).toNat=f+(2*root+2):=by omega
    have g:((f:Int)+(root:Int)).toNat=f+root:=by omega
    repeat'(first|exact trivial|refine eS rfl ?_|refine AB ?_|refine rX a ?_ ?_)
    ·dsimp only[Ty.den];exact⟨by omega,λ_=>by omega,λ_=>by omega,λ_=>by omega,λ_=>by omega,λ_=>by omega⟩
    ·refine Dm (by simp only[go_sem,Nat.reduceEqDiff,reduceCtorEq,Nat.reduceAdd,Nat.reduceSub,Nat.reduceMul,Nat.reduceLeDiff,Nat.reduceLT,Int.reduceLE,Int.reduceToNat,Int.reduceNeg,↓reduceIte];rfl) ?_ ?_
     ·intro e;simp only[As,IS]at e;obtain⟨hh,e⟩:=e;have C:CF (m.getD (f+(2*root+1)) (0,0)) (m.getD (f+(2*root+2)) (0,0))<0:=by rw[<-n,<-w];exact e
      have B:2*root+2<hi:=by omega
      have hs:∀c,(c=2*root+1\/c=2*root+2)->c<hi->c≠2*root+2->CF (m.getD (f+c) (0,0)) (m.getD (f+(2*root+2)) (0,0))<0:=λc h1 x y=>by
       rw[show c=2*root+1 by omega];exact C
      repeat'(first|exact trivial|refine eS rfl ?_|refine AB ?_|refine rX a ?_ ?_)
      ·omega
      ·exact CW
      ·refine Dm (by simp only[go_sem,Nat.reduceEqDiff,reduceCtorEq,Nat.reduceAdd,Nat.reduceSub,Nat.reduceMul,Nat.reduceLeDiff,Nat.reduceLT,Int.reduceLE,Int.reduceToNat,Int.reduceNeg,↓reduceIte];rfl) ?_ ?_
       ·intro b;simp only[dO,To]at b;rw[g,q]at b;have u:=t.lt CM (i:=f+root) (j:=f+(2*root+2)) (by omega) (by omega) (by omega) b;repeat'(first|exact trivial|refine eS rfl ?_|refine AB ?_|refine rX a ?_ ?_|refine rC ?_ ?_<;>intro d<;>try(cases d;done))
        exact fM a [] (.raw (.tuple #[])) rfl ⟨rfl,m,rfl,hp,d5 CM k (.inr rfl) u hs⟩
       ·intro b;simp only[ABu,IS]at b;rw[g,q]at b;have v:CV (0,0) m (f+root) (f+(2*root+2))=(m.set (f+root) (m.getD (f+(2*root+2)) (0,0))).set (f+(2*root+2)) (m.getD (f+root) (0,0)):=rfl;repeat'(first|exact trivial|refine eS rfl ?_|refine AB ?_|refine rP a ?_ ?_|fail)
        (refine B4 drawsAny a 22 [([0,1,2,3,8,9,10,11,12,13,14,15,16,17,18,19,20],21)] [4,5,6,7] (by kernel_rfl) (Lf ?_ ?_);(next=>exact CW);refine Nm a [] ?_ ?_;(next=>exact CW);refine Pm a ?_ ?_ ?_;(next=>exact CW);(next=>exact CW))
        rw[g,q];repeat'(first|exact trivial|refine eS rfl ?_|refine AB ?_|refine rX a ?_ ?_|refine rC ?_ ?_<;>intro d<;>try(cases d;done))
        refine⟨⟨(2*root+2,CV (0,0) m (f+root) (f+(2*root+2))),by simp only;omega,hp.trans (EH.swap m (by omega) (by omega) (by omega) (by omega) (by omega)),d6 k B (by omega) (.inr rfl) b hs⟩,by simp only;omega,AC [(1000000,.nm 1000000)] rfl rfl ?_ ?_⟩
        ·simp only;rw[v];first|exact eN|refine eM ?_
        ·simp only;rw[show ((2*root+2:Nat):Int)=2*(root:Int)+1+1 by omega];first|exact eN|refine eM ?_
     ·intro e;have hs:∀c,(c=2*root+1\/c=2*root+2)->c<hi->c≠2*root+1->CF (m.getD (f+c) (0,0)) (m.getD (f+(2*root+1)) (0,0))<0:=λc h1 x y=>by
       simp only[ABh,To]at e;have a:c=2*root+2:=by omega
       subst a;rcases e with h|h
       ·omega
       ·rw[n,w]at h;exact t.lt CM (by omega) (by omega) (by omega) h
      repeat'(first|exact trivial|refine eS rfl ?_|refine AB ?_|refine rX a ?_ ?_)
      ·exact CW
      ·refine Dm (by simp only[go_sem,Nat.reduceEqDiff,reduceCtorEq,Nat.reduceAdd,Nat.reduceSub,Nat.reduceMul,Nat.reduceLeDiff,Nat.reduceLT,Int.reduceLE,Int.reduceToNat,Int.reduceNeg,↓reduceIte];rfl) ?_ ?_
       ·intro b;simp only[dO,To]at b;rw[g,n]at b;have u:=t.lt CM (i:=f+root) (j:=f+(2*root+1)) (by omega) (by omega) (by omega) b;repeat'(first|exact trivial|refine eS rfl ?_|refine AB ?_|refine rX a ?_ ?_|refine rC ?_ ?_<;>intro d<;>try(cases d;done))
        exact fM a [] (.raw (.tuple #[])) rfl ⟨rfl,m,rfl,hp,d5 CM k (.inl rfl) u hs⟩
       ·intro b;simp only[ABu,IS]at b;rw[g,n]at b;have v:CV (0,0) m (f+root) (f+(2*root+1))=(m.set (f+root) (m.getD (f+(2*root+1)) (0,0))).set (f+(2*root+1)) (m.getD (f+root) (0,0)):=rfl;repeat'(first|exact trivial|refine eS rfl ?_|refine AB ?_|refine rP a ?_ ?_|fail)
        (refine B4 drawsAny a 22 [([0,1,2,3,8,9,10,11,12,13,14,15,16,17,18,19,20],21)] [4,5,6,7] (by kernel_rfl) (Lf ?_ ?_);(next=>exact CW);refine Nm a [] ?_ ?_;(next=>exact CW);refine Pm a ?_ ?_ ?_;(next=>exact CW);(next=>exact CW))
        rw[g,n];repeat'(first|exact trivial|refine eS rfl ?_|refine AB ?_|refine rX a ?_ ?_|refine rC ?_ ?_<;>intro d<;>try(cases d;done))
        refine⟨⟨(2*root+1,CV (0,0) m (f+root) (f+(2*root+1))),by simp only;omega,hp.trans (EH.swap m (by omega) (by omega) (by omega) (by omega) (by omega)),d6 k o (by omega) (.inl rfl) b hs⟩,by simp only;omega,AC [(1000000,.nm 1000000)] rfl rfl ?_ ?_⟩
        ·simp only;rw[v];first|exact eN|refine eM ?_
        ·simp only;rw[show ((2*root+1:Nat):Int)=2*(root:Int)+1 by omega];first|exact eN|refine eM ?_
end
section
attribute [local go_sem] Cy
theorem A1s (l:List (Int×Int)) (L:l.length<=100000) (u:gV CF (0,0) l) (a b:Nat) (I:a<=b) (J:b<=l.length):BA Tryz.prog 167 [.sr 1000000 BE 0 l.length,.p T3 (a:Int),.p T3 (b:Int),.fn 116] [(1000000,.arr 53 BE l)] [1000000] (λres C=>res=.raw (.tuple #[])/\∃r,C=[(1000000,.arr 53 BE r)]/\EH (0,0) a b l r/\Rd CF (0,0) a b r):=by
 refine Jh [0,1,2,3,8,9,10,11,12,21,33] [] [] Tryz.func167 Tryz.ntmps167 AH ?_;intro w0 K O0 ρ0 d M N;simp only[Aj];obtain⟨n,hn⟩:∃n,b=a+n:=⟨b-a,by omega⟩;subst hn;have t:(((a+n:Nat):Int)-(a:Int)-1).tdiv 2=(((n-1) / 2+1:Nat):Int)-1:=by
  by_cases h0:n=0
  ·subst h0;rw[show ((a+0:Nat):Int)-(a:Int)-1=-1 by omega];decide
  ·rw[AB5 (by omega)];omega
 have en:((a+n:Nat):Int)-(a:Int)=(n:Int):=by omega
 repeat'(first|exact trivial|refine eS rfl ?_|refine AB ?_|refine rX d ?_ ?_|refine rC ?_ ?_<;>intro e<;>try(cases e;done))
 ·omega
 ·rw[t];exact⟨by omega,by decide,by omega⟩
 ·rw[t,en];refine AG (ι:={s:Nat×List (Int×Int)//s.1<=n+1/\EH (0,0) a (a+n) l s.2/\Hp CF (0,0) a n s.1 s.2}) (λs=>⟨[(0,.sr 1000000 BE 0 l.length),(3,.fn 116),(8,.p T3 (a:Int)),(9,.p (.int .i64) (0:Int)),(10,.p (.int .i64) (n:Int)),(11,.p (.int .i64) ((s.1.1:Int)-1))],[(1000000,.arr 53 BE s.1.2)]⟩) (λs=>s.1.1) ⟨((n-1) / 2+1,l),by simp only;omega,EH.refl _ _ l,λk c h1 G H=>by simp only at h1;omega⟩ (AC [(1000000,.nm 1000000)] rfl rfl ?_ ?_) (λs=>?_)
  ·first|exact eN|refine eM ?_
  ·first|exact eN|refine eM ?_
  ·obtain⟨⟨k,m⟩,hk,hp,q⟩:=s;simp only at hk hp q ⊢;have y:=hp.len;have x:=u.perm CM hp.perm;repeat'(first|exact trivial|refine eS rfl ?_|refine AB ?_|refine rX d ?_ ?_)
   refine rC ?_ ?_<;>intro e
   ·have f:0<k:=by omega
    have key:=d9 m (by omega) x (k-1) n a (by omega) (by omega) (wQ (by rw[show k-1+1=k by omega];exact q));rw[y,show ((k-1:Nat):Int)=(k:Int)-1 by omega]at key;repeat'(first|exact trivial|refine eS rfl ?_|refine AB ?_|refine rX d ?_ ?_)
    refine cP 5 d ?_ ?_
    ·trivial
    ·refine rM d (key) [(1000000,.nm 1000000)] [] ?_ ?_ ?_
     ·first|exact eN|refine eM ?_
     ·first|exact eN|refine eM ?_
     ·rintro _ _ ⟨rfl,r,rfl,i,j⟩;refine⟨[(1000000,.nm 1000000)],.raw (.tuple #[]),[(1000000,.arr 53 BE r)],rfl,rfl,?_,?_,rfl,rfl,CQ ?_⟩
      ·first|exact eN|refine eM ?_
      ·first|exact eN|refine eM ?_
      ·repeat'(first|exact trivial|refine eS rfl ?_|refine AB ?_|refine rX d ?_ ?_|refine rC ?_ ?_<;>intro e<;>try(cases e;done))
       ·omega
       ·refine⟨⟨(k-1,r),by simp only;omega,hp.trans i,j⟩,by simp only;omega,AC [(1000000,.nm 1000000)] rfl rfl ?_ ?_⟩
        ·simp only;first|exact eN|refine eM ?_
        ·simp only;rw[show ((k-1:Nat):Int)=(k:Int)-1 by omega];first|exact eN|refine eM ?_
   ·have f:k=0:=by omega
    subst f;repeat'(first|exact trivial|refine eS rfl ?_|refine AB ?_|refine rX d ?_ ?_)
    ·omega
    ·refine AG (ι:={s:Nat×List (Int×Int)//s.1<=n/\EH (0,0) a (a+n) l s.2/\wR CF (0,0) a n s.1 s.2}) (λs=>⟨[(0,.sr 1000000 BE 0 l.length),(3,.fn 116),(8,.p T3 (a:Int)),(9,.p (.int .i64) (0:Int)),(12,.p (.int .i64) ((s.1.1:Int)-1))],[(1000000,.arr 53 BE s.1.2)]⟩) (λs=>s.1.1) ⟨(n,m),NO _,hp,kU q⟩ (AC [(1000000,.nm 1000000)] rfl rfl ?_ ?_) (λs=>?_)
     ·first|exact eN|refine eM ?_
     ·first|exact eN|refine eM ?_
     ·obtain⟨⟨k,c⟩,hk,g,h⟩:=s;simp only at hk g h ⊢;have w:=g.len;repeat'(first|exact trivial|refine eS rfl ?_|refine AB ?_|refine rX d ?_ ?_)
      refine rC ?_ ?_<;>intro e
      ·have f:0<k:=by omega
       have h:wR CF (0,0) a n (k-1+1) c:=by rw[show k-1+1=k by omega];exact h
       obtain⟨D,E,F⟩:=wS CM h (by omega) (by omega);have o:EH (0,0) a (a+n) c (CV (0,0) c a (a+(k-1))):=EH.swap c (by omega) (by omega) (by omega) (by omega) (by omega);have A:=o.len;have z:=u.perm CM (g.trans o).perm;have v:((a:Int)+((k:Int)-1)).toNat=a+(k-1):=by omega
       have B:CV (0,0) c a (a+(k-1))=(c.set a (c.getD (a+(k-1)) (0,0))).set (a+(k-1)) (c.getD a (0,0)):=rfl;have key:=d9 (CV (0,0) c a (a+(k-1))) (by omega) z 0 (k-1) a (by omega) (by omega) D;rw[A,w,show ((k-1:Nat):Int)=(k:Int)-1 by omega]at key;repeat'(first|exact trivial|refine eS rfl ?_|refine AB ?_|refine rP d ?_ ?_|fail)
       (refine B4 drawsAny d 18 [([0,1,6,7,8,9,10,11,12,13,14,15,16],17)] [2,3,4,5] (by kernel_rfl) (Lf ?_ ?_);(next=>exact CW);refine Nm d [] ?_ ?_;(next=>exact CW);refine Pm d ?_ ?_ ?_;(next=>exact CW);(next=>exact CW))
       rw[v,<-B];repeat'(first|exact trivial|refine eS rfl ?_|refine AB ?_|refine rP d ?_ ?_|fail)
       refine cP 5 d ?_ ?_
       ·trivial
       ·refine rM d (key) [(1000000,.nm 1000000)] [] ?_ ?_ ?_
        ·first|exact eN|refine eM ?_
        ·first|exact eN|refine eM ?_
        ·rintro _ _ ⟨rfl,r,rfl,i,j⟩;refine⟨[(1000000,.nm 1000000)],.raw (.tuple #[]),[(1000000,.arr 53 BE r)],rfl,rfl,?_,?_,rfl,rfl,CQ ?_⟩
         ·first|exact eN|refine eM ?_
         ·first|exact eN|refine eM ?_
         ·repeat'(first|exact trivial|refine eS rfl ?_|refine AB ?_|refine rX d ?_ ?_|refine rC ?_ ?_<;>intro e<;>try(cases e;done))
          ·omega
          ·refine⟨⟨(k-1,r),by simp only;omega,(g.trans o).trans (i.mono (NO _) (by omega)),wT i j E F⟩,by simp only;omega,AC [(1000000,.nm 1000000)] rfl rfl ?_ ?_⟩
           ·simp only;first|exact eN|refine eM ?_
           ·simp only;rw[show ((k-1:Nat):Int)=(k:Int)-1 by omega];first|exact eN|refine eM ?_
      ·have f:k=0:=by omega
       subst f;repeat'(first|exact trivial|refine eS rfl ?_|refine AB ?_|refine rX d ?_ ?_|refine rC ?_ ?_<;>intro e<;>try(cases e;done))
       exact fM d [] (.raw (.tuple #[])) rfl ⟨rfl,c,rfl,g,A1r h⟩
end
section
attribute [local go_sem] Cy
theorem A5o (l:List (Int×Int)) (ah:l.length<=100000) (O:gV CF (0,0) l) (a b p:Nat) (hap:a<=p) (aa:p<b) (V:b<=l.length):BA Tryz.prog 173 [.sr 1000000 BE 0 l.length,.p T3 (a:Int),.p T3 (b:Int),.p T3 (p:Int),.fn 116] [(1000000,.arr 53 BE l)] [1000000] (λres ae=>∃(q:Nat) (w:Bool) (r:List (Int×Int)),res=.tup [.p T3 (q:Int),.p .bool w]/\ae=[(1000000,.arr 53 BE r)]/\EH (0,0) a b l r/\yX CF (0,0) a b q r):=by
 refine Jh [0,1,2,3,4,10,11,12,13,47,66,71,120,139,144] [] [] Tryz.func173 Tryz.ntmps173 (AF E5 AH) ?_;intro w0 K O0 ρ0 c ai aj;simp only[Aj];have g:EH (0,0) a b l (CV (0,0) l a p):=EH.swap l (NO _) (by omega) hap aa V;have n:CV (0,0) l a p=(l.set a (l.getD p (0,0))).set p (l.getD a (0,0)):=rfl;repeat'(first|exact trivial|refine eS rfl ?_|refine AB ?_|refine rP c ?_ ?_|fail)
 (refine B4 drawsAny c 14 [([0,1,4,5,6,7,8,9,10,11,12],13)] [2,3] (by kernel_rfl) (Lf ?_ ?_);(next=>exact CW);refine Nm c [] ?_ ?_;(next=>exact CW);refine Pm c ?_ ?_ ?_;(next=>exact CW);(next=>exact CW))
 rw[<-n];have y:=O.perm CM g.perm;have R:=g.len;clear n;generalize CV (0,0) l a p=m at *;repeat'(first|exact trivial|refine eS rfl ?_|refine AB ?_|refine rP c ?_ ?_|fail)
 ·exact CW
 ·rw[show (a:Int)+1=((a+1:Nat):Int) by omega,show (b:Int)-1=((b-1:Nat):Int) by omega];refine AG (ι:={i:Nat//a<i/\i<=b/\PtI CF (0,0) a b i (b-1) m}) (λs=>⟨[(0,.sr 1000000 BE 0 l.length),(1,.p T3 (a:Int)),(4,.fn 116),(12,.p (.int .i64) (s.1:Int)),(13,.p (.int .i64) ((b-1:Nat):Int))],[(1000000,.arr 53 BE m)]⟩) (λs=>b-s.1) ⟨a+1,by omega,by omega,⟨λx h1 f=>by omega,λx h1 f=>by omega⟩⟩ (AC [(1000000,.nm 1000000)] rfl rfl ?_ ?_) (λs=>?_)
  ·first|exact eN|refine eM ?_
  ·first|exact eN|refine eM ?_
  ·obtain⟨i,E,I,t⟩:=s;simp only at E I t ⊢;repeat'(first|exact trivial|refine eS rfl ?_|refine AB ?_|refine rX c ?_ ?_)
   ·dsimp only[Ty.den];exact⟨λ_=>by omega,λ_=>by omega⟩
   ·refine Dm (by simp only[go_sem,Nat.reduceEqDiff,reduceCtorEq,Nat.reduceAdd,Nat.reduceSub,Nat.reduceMul,Nat.reduceLeDiff,Nat.reduceLT,Int.reduceLE,Int.reduceToNat,Int.reduceNeg,↓reduceIte];rfl) ?_ ?_
    ·intro d;simp only[As,IS]at d;obtain⟨h1,f⟩:=d;repeat'(first|exact trivial|refine eS rfl ?_|refine AB ?_|refine rX c ?_ ?_)
     ·exact CW
     ·refine⟨⟨i+1,by omega,by omega,⟨λx G H=>?_,t.hi⟩⟩,by simp only;omega,AC [(1000000,.nm 1000000)] rfl rfl ?_ ?_⟩
      ·by_cases e:x=i
       ·rw[e];exact f
       ·exact t.lo x G (by omega)
      ·first|exact eN|refine eM ?_
      ·first|exact eN|refine eM ?_
    ·intro d;have A:i<=b-1->CF (m.getD a (0,0)) (m.getD i (0,0))<0:=λh1=>y.lt CM (by omega) (by omega) (by omega) λf=>by
      simp only[ABh,To]at d;rcases d with h|h
      ·omega
      ·exact h f
     have ag:i<=b-1+1:=by omega
     repeat'(first|exact trivial|refine eS rfl ?_|refine AB ?_|refine rX c ?_ ?_)
     refine AG (ι:={j:Nat//a<=j/\j<b/\i<=j+1/\PtI CF (0,0) a b i j m}) (λs=>⟨[(0,.sr 1000000 BE 0 l.length),(1,.p T3 (a:Int)),(4,.fn 116),(12,.p (.int .i64) (i:Int)),(13,.p (.int .i64) (s.1:Int))],[(1000000,.arr 53 BE m)]⟩) (λs=>s.1) ⟨b-1,by omega,by omega,by omega,t⟩ (AC [(1000000,.nm 1000000)] rfl rfl ?_ ?_) (λs=>?_)
     ·first|exact eN|refine eM ?_
     ·first|exact eN|refine eM ?_
     ·obtain⟨j,u,v,W,C⟩:=s;simp only at u v W C ⊢;clear d;repeat'(first|exact trivial|refine eS rfl ?_|refine AB ?_|refine rX c ?_ ?_)
      ·dsimp only[Ty.den];exact⟨λ_=>by omega,λ_=>by omega⟩
      ·refine Dm (by simp only[go_sem,Nat.reduceEqDiff,reduceCtorEq,Nat.reduceAdd,Nat.reduceSub,Nat.reduceMul,Nat.reduceLeDiff,Nat.reduceLT,Int.reduceLE,Int.reduceToNat,Int.reduceNeg,↓reduceIte];rfl) ?_ ?_
       ·intro d;simp only[As,IS,dO,To]at d;obtain⟨h1,f⟩:=d;have f:=y.lt CM (i:=j) (j:=a) (by omega) (by omega) (by omega) f;repeat'(first|exact trivial|refine eS rfl ?_|refine AB ?_|refine rX c ?_ ?_)
        ·exact CW
        ·refine⟨⟨j-1,by omega,by omega,by omega,⟨C.lo,λx G H=>?_⟩⟩,by simp only;omega,AC [(1000000,.nm 1000000)] rfl rfl ?_ ?_⟩
         ·by_cases e:x=j
          ·rw[e];exact f
          ·exact C.hi x (by omega) H
         ·first|exact eN|refine eM ?_
         ·simp only;rw[show ((j-1:Nat):Int)=(j:Int)-1 by omega];first|exact eN|refine eM ?_
       ·intro d;have B:i<=j->CF (m.getD j (0,0)) (m.getD a (0,0))<0:=λh1=>by
         simp only[ABh,To,ABu,IS]at d;rcases d with h|h
         ·omega
         ·exact h
        repeat'(first|exact trivial|refine eS rfl ?_|refine AB ?_|refine rX c ?_ ?_)
        refine rC ?_ ?_<;>intro D
        ·have Q:i=j+1:=by omega
         subst Q;have o:EH (0,0) a b m (CV (0,0) m j a):=EH.swap m u v (NO _) (by omega) (by omega);have n:CV (0,0) m j a=(m.set j (m.getD a (0,0))).set a (m.getD j (0,0)):=rfl;repeat'(first|exact trivial|refine eS rfl ?_|refine AB ?_|refine rP c ?_ ?_|fail)
         (refine B4 drawsAny c 14 [([0,1,4,5,6,7,8,9,10,11,12],13)] [2,3] (by kernel_rfl) (Lf ?_ ?_);(next=>exact CW);refine Nm c [] ?_ ?_;(next=>exact CW);refine Pm c ?_ ?_ ?_;(next=>exact CW);(next=>exact CW))
         rw[<-n];repeat'(first|exact trivial|refine eS rfl ?_|refine AB ?_|refine rX c ?_ ?_|refine rC ?_ ?_<;>intro D<;>try(cases D;done))
         exact fM c [.tmp 10,.tmp 11] (.tup [.p T3 (j:Int),.p .bool true]) eT ⟨j,true,_,rfl,rfl,g.trans o,sY C u v (by omega)⟩
        ·have Z:i≠j:=λe=>by
          have S:=A (by omega);have af:=B (by omega);rw[e,CM.anti]at S;omega
         have P:i<j:=by omega
         have o:EH (0,0) a b m (CV (0,0) m i j):=EH.swap m (by omega) (by omega) u v (by omega);have n:CV (0,0) m i j=(m.set i (m.getD j (0,0))).set j (m.getD i (0,0)):=rfl;have M:=d8 C E P v (by omega) (A (by omega)) (B (by omega));repeat'(first|exact trivial|refine eS rfl ?_|refine AB ?_|refine rP c ?_ ?_|fail)
         (refine B4 drawsAny c 14 [([0,1,4,5,6,7,8,9,10,11,12],13)] [2,3] (by kernel_rfl) (Lf ?_ ?_);(next=>exact CW);refine Nm c [] ?_ ?_;(next=>exact CW);refine Pm c ?_ ?_ ?_;(next=>exact CW);(next=>exact CW))
         rw[<-n];have J:=g.trans o;have y:=O.perm CM J.perm;have R:=J.len;clear n o C t A B d g;generalize CV (0,0) m i j=ad at *;repeat'(first|exact trivial|refine eS rfl ?_|refine AB ?_|refine rX c ?_ ?_)
         ·exact CW
         ·exact CW
         ·rw[show (i:Int)+1=((i+1:Nat):Int) by omega,show (j:Int)-1=((j-1:Nat):Int) by omega];refine AG (ι:={s:Nat×Nat×List (Int×Int)//(a<s.1/\s.1<=s.2.1+1)/\(a<=s.2.1/\s.2.1<b)/\EH (0,0) a b l s.2.2/\PtI CF (0,0) a b s.1 s.2.1 s.2.2}) (λs=>⟨[(0,.sr 1000000 BE 0 l.length),(1,.p T3 (a:Int)),(4,.fn 116),(12,.p (.int .i64) (s.1.1:Int)),(13,.p (.int .i64) (s.1.2.1:Int))],[(1000000,.arr 53 BE s.1.2.2)]⟩) (λs=>s.1.2.1+1-s.1.1) ⟨(i+1,j-1,ad),by simp only;omega,by simp only;omega,J,M⟩ (AC [(1000000,.nm 1000000)] rfl rfl ?_ ?_) (λs=>?_)
          ·first|exact eN|refine eM ?_
          ·first|exact eN|refine eM ?_
          ·clear M y R J;obtain⟨⟨i,j,m⟩,⟨E,I⟩,⟨u,v⟩,g,t⟩:=s;simp only at E I u v g t ⊢;have y:=O.perm CM g.perm;have R:=g.len;repeat'(first|exact trivial|refine eS rfl ?_|refine AB ?_|refine rX c ?_ ?_)
           refine AG (ι:={k:Nat//a<k/\i<=k/\k<=j+1/\PtI CF (0,0) a b k j m}) (λs=>⟨[(0,.sr 1000000 BE 0 l.length),(1,.p T3 (a:Int)),(4,.fn 116),(12,.p (.int .i64) (s.1:Int)),(13,.p (.int .i64) (j:Int))],[(1000000,.arr 53 BE m)]⟩) (λs=>j+1-s.1) ⟨i,E,NO _,I,t⟩ (AC [(1000000,.nm 1000000)] rfl rfl ?_ ?_) (λs=>?_)
           ·first|exact eN|refine eM ?_
           ·first|exact eN|refine eM ?_
           ·obtain⟨k,T,X,U,L⟩:=s;simp only at T U X L ⊢;repeat'(first|exact trivial|refine eS rfl ?_|refine AB ?_|refine rX c ?_ ?_)
            ·dsimp only[Ty.den];exact⟨λ_=>by omega,λ_=>by omega⟩
            ·refine Dm (by simp only[go_sem,Nat.reduceEqDiff,reduceCtorEq,Nat.reduceAdd,Nat.reduceSub,Nat.reduceMul,Nat.reduceLeDiff,Nat.reduceLT,Int.reduceLE,Int.reduceToNat,Int.reduceNeg,↓reduceIte];rfl) ?_ ?_
             ·intro d;simp only[As,IS]at d;obtain⟨h1,f⟩:=d;repeat'(first|exact trivial|refine eS rfl ?_|refine AB ?_|refine rX c ?_ ?_)
              ·exact CW
              ·refine⟨⟨k+1,by omega,by omega,by omega,⟨λx G H=>?_,L.hi⟩⟩,by simp only;omega,AC [(1000000,.nm 1000000)] rfl rfl ?_ ?_⟩
               ·by_cases e:x=k
                ·rw[e];exact f
                ·exact L.lo x G (by omega)
               ·first|exact eN|refine eM ?_
               ·first|exact eN|refine eM ?_
             ·intro d;have A:k<=j->CF (m.getD a (0,0)) (m.getD k (0,0))<0:=λh1=>y.lt CM (by omega) (by omega) (by omega) λf=>by
               simp only[ABh,To]at d;rcases d with h|h
               ·omega
               ·exact h f
              repeat'(first|exact trivial|refine eS rfl ?_|refine AB ?_|refine rX c ?_ ?_)
              refine AG (ι:={z:Nat//a<=z/\z<=j/\k<=z+1/\PtI CF (0,0) a b k z m}) (λs=>⟨[(0,.sr 1000000 BE 0 l.length),(1,.p T3 (a:Int)),(4,.fn 116),(12,.p (.int .i64) (k:Int)),(13,.p (.int .i64) (s.1:Int))],[(1000000,.arr 53 BE m)]⟩) (λs=>s.1) ⟨j,u,NO _,U,L⟩ (AC [(1000000,.nm 1000000)] rfl rfl ?_ ?_) (λs=>?_)
              ·first|exact eN|refine eM ?_
              ·first|exact eN|refine eM ?_
              ·obtain⟨z,N,ab,Y,F⟩:=s;simp only at N ab Y F ⊢;clear d;repeat'(first|exact trivial|refine eS rfl ?_|refine AB ?_|refine rX c ?_ ?_)
               ·dsimp only[Ty.den];exact⟨λ_=>by omega,λ_=>by omega⟩
               ·refine Dm (by simp only[go_sem,Nat.reduceEqDiff,reduceCtorEq,Nat.reduceAdd,Nat.reduceSub,Nat.reduceMul,Nat.reduceLeDiff,Nat.reduceLT,Int.reduceLE,Int.reduceToNat,Int.reduceNeg,↓reduceIte];rfl) ?_ ?_
                ·intro d;simp only[As,IS,dO,To]at d;obtain⟨h1,f⟩:=d;have f:=y.lt CM (i:=z) (j:=a) (by omega) (by omega) (by omega) f;repeat'(first|exact trivial|refine eS rfl ?_|refine AB ?_|refine rX c ?_ ?_)
                 ·exact CW
                 ·refine⟨⟨z-1,by omega,by omega,by omega,⟨F.lo,λx G H=>?_⟩⟩,by simp only;omega,AC [(1000000,.nm 1000000)] rfl rfl ?_ ?_⟩
                  ·by_cases e:x=z
                   ·rw[e];exact f
                   ·exact F.hi x (by omega) H
                  ·first|exact eN|refine eM ?_
                  ·simp only;rw[show ((z-1:Nat):Int)=(z:Int)-1 by omega];first|exact eN|refine eM ?_
                ·intro d;have B:k<=z->CF (m.getD z (0,0)) (m.getD a (0,0))<0:=λh1=>by
                  simp only[ABh,To,ABu,IS]at d;rcases d with h|h
                  ·omega
                  ·exact h
                 repeat'(first|exact trivial|refine eS rfl ?_|refine AB ?_|refine rX c ?_ ?_)
                 refine rC ?_ ?_<;>intro D
                 ·have Q:k=z+1:=by omega
                  subst Q;have o:EH (0,0) a b m (CV (0,0) m z a):=EH.swap m N (by omega) (NO _) (by omega) (by omega);have n:CV (0,0) m z a=(m.set z (m.getD a (0,0))).set a (m.getD z (0,0)):=rfl;repeat'(first|exact trivial|refine eS rfl ?_|refine AB ?_|refine rP c ?_ ?_|fail)
                  (refine B4 drawsAny c 14 [([0,1,4,5,6,7,8,9,10,11,12],13)] [2,3] (by kernel_rfl) (Lf ?_ ?_);(next=>exact CW);refine Nm c [] ?_ ?_;(next=>exact CW);refine Pm c ?_ ?_ ?_;(next=>exact CW);(next=>exact CW))
                  rw[<-n];repeat'(first|exact trivial|refine eS rfl ?_|refine AB ?_|refine rX c ?_ ?_|refine rC ?_ ?_<;>intro D<;>try(cases D;done))
                  exact fM c [.tmp 10,.tmp 11] (.tup [.p T3 (z:Int),.p .bool false]) eT ⟨z,false,_,rfl,rfl,g.trans o,sY F N (by omega) (by omega)⟩
                 ·have Z:k≠z:=λe=>by
                   have S:=A (by omega);have af:=B (by omega);rw[e,CM.anti]at S;omega
                  have P:k<z:=by omega
                  have o:EH (0,0) a b m (CV (0,0) m k z):=EH.swap m (by omega) (by omega) N (by omega) (by omega);have n:CV (0,0) m k z=(m.set k (m.getD z (0,0))).set z (m.getD k (0,0)):=rfl;have M:=d8 F T P (by omega) (by omega) (A (by omega)) (B (by omega));repeat'(first|exact trivial|refine eS rfl ?_|refine AB ?_|refine rP c ?_ ?_|fail)
                  (refine B4 drawsAny c 14 [([0,1,4,5,6,7,8,9,10,11,12],13)] [2,3] (by kernel_rfl) (Lf ?_ ?_);(next=>exact CW);refine Nm c [] ?_ ?_;(next=>exact CW);refine Pm c ?_ ?_ ?_;(next=>exact CW);(next=>exact CW))
                  rw[<-n];repeat'(first|exact trivial|refine eS rfl ?_|refine AB ?_|refine rX c ?_ ?_)
                  ·exact CW
                  ·exact CW
                  ·refine⟨⟨(k+1,z-1,CV (0,0) m k z),by simp only;omega,by simp only;omega,g.trans o,M⟩,by simp only;omega,AC [(1000000,.nm 1000000)] rfl rfl ?_ ?_⟩
                   ·first|exact eN|refine eM ?_
                   ·simp only;rw[show ((z-1:Nat):Int)=(z:Int)-1 by omega];first|exact eN|refine eM ?_
end
section
attribute [local go_sem] Cy
theorem A5p (l:List (Int×Int)) (am:l.length<=100000) (L:gV CF (0,0) l) (a b:Nat) (ak:a<b) (al:b<=l.length) (U:Bf CF (0,0) a b l):BA Tryz.prog 171 [.sr 1000000 BE 0 l.length,.p T3 (a:Int),.p T3 (b:Int),.fn 116] [(1000000,.arr 53 BE l)] [1000000] (λres aj=>∃(w:Bool) (r:List (Int×Int)),res=.p .bool w/\aj=[(1000000,.arr 53 BE r)]/\EH (0,0) a b l r/\(w=true->Rd CF (0,0) a b r)):=by
 refine Jh [0,1,2,3,8,9,10,11,12,16,36,41,45,65,69,84,104,109,124] [] [] Tryz.func171 Tryz.ntmps171 (AF E5 AH) ?_;intro w0 K O0 ρ0 f an ao;simp only[Aj];repeat'(first|exact trivial|refine eS rfl ?_|refine AB ?_|refine rX f ?_ ?_|refine rC ?_ ?_<;>intro q<;>try(cases q;done))
 ·exact CW
 ·refine AG (ι:={s:Nat×Nat×List (Int×Int)//(a+1<=s.1/\s.1<=b)/\s.2.1<=5/\EH (0,0) a b l s.2.2/\Rd CF (0,0) a s.1 s.2.2}) (λs=>⟨[(0,.sr 1000000 BE 0 l.length),(1,.p T3 (a:Int)),(2,.p T3 (b:Int)),(3,.fn 116),(9,.p (.int .i64) (s.1.1:Int)),(10,.p (.int .i64) (s.1.2.1:Int))],[(1000000,.arr 53 BE s.1.2.2)]⟩) (λs=>5-s.1.2.1) ⟨(a+1,0,l),by simp only;omega,Is _,EH.refl a b l,Zr a l⟩ (AC [(1000000,.nm 1000000)] rfl rfl ?_ ?_) (λs=>?_)
  ·first|exact eN|refine eM ?_
  ·first|exact eN|refine eM ?_
  ·obtain⟨⟨i,t,m⟩,⟨ab,N⟩,ai,u,Q⟩:=s;simp only at ab N ai u Q ⊢;have P:=L.perm CM u.perm;have ah:=u.len;repeat'(first|exact trivial|refine eS rfl ?_|refine AB ?_|refine rX f ?_ ?_)
   refine rC ?_ ?_<;>intro q
   ·repeat'(first|exact trivial|refine eS rfl ?_|refine AB ?_|refine rX f ?_ ?_)
    refine AG (ι:={k:Nat//i<=k/\k<=b/\Rd CF (0,0) a k m}) (λs=>⟨[(0,.sr 1000000 BE 0 l.length),(1,.p T3 (a:Int)),(2,.p T3 (b:Int)),(3,.fn 116),(9,.p (.int .i64) (s.1:Int)),(10,.p (.int .i64) (t:Int))],[(1000000,.arr 53 BE m)]⟩) (λs=>b-s.1) ⟨i,NO _,N,Q⟩ (AC [(1000000,.nm 1000000)] rfl rfl ?_ ?_) (λs=>?_)
    ·first|exact eN|refine eM ?_
    ·first|exact eN|refine eM ?_
    ·obtain⟨k,ae,af,F⟩:=s;simp only at ae af F ⊢;have J:((k:Int)-1).toNat=k-1:=by omega
     repeat'(first|exact trivial|refine eS rfl ?_|refine AB ?_|refine rX f ?_ ?_)
     ·dsimp only[Ty.den];exact⟨λ_=>by omega,λ_=>by omega,λ_=>by omega⟩
     ·refine Dm (by simp only[go_sem,Nat.reduceEqDiff,reduceCtorEq,Nat.reduceAdd,Nat.reduceSub,Nat.reduceMul,Nat.reduceLeDiff,Nat.reduceLT,Int.reduceLE,Int.reduceToNat,Int.reduceNeg,↓reduceIte];rfl) ?_ ?_
      ·intro g;simp only[As,IS,dO,To]at g;obtain⟨h1,z⟩:=g;rw[J]at z;have z:=P.lt CM (i:=k) (j:=k-1) (by omega) (by omega) (by omega) z;repeat'(first|exact trivial|refine eS rfl ?_|refine AB ?_|refine rX f ?_ ?_)
       ·exact CW
       ·refine⟨⟨k+1,by omega,by omega,A1p CM F (by omega) z⟩,by simp only;omega,AC [(1000000,.nm 1000000)] rfl rfl ?_ ?_⟩
        ·first|exact eN|refine eM ?_
        ·first|exact eN|refine eM ?_
      ·intro g;clear g;repeat'(first|exact trivial|refine eS rfl ?_|refine AB ?_|refine rX f ?_ ?_)
       refine rC (λZ=>?_) (λZ=>?_)
       ·have O:k=b:=by omega
        subst O;repeat'(first|exact trivial|refine eS rfl ?_|refine AB ?_|refine rX f ?_ ?_|refine rC ?_ ?_<;>intro q<;>try(cases q;done))
        exact fM f [.tmp 8] (.p .bool true) eT ⟨true,m,rfl,rfl,u,λ_=>F⟩
       ·have O:k<b:=by omega
        repeat'(first|exact trivial|refine eS rfl ?_|refine AB ?_|refine rX f ?_ ?_)
        ·exact CW
        ·refine rC (λaa=>?_) (λaa=>?_)
         ·repeat'(first|exact trivial|refine eS rfl ?_|refine AB ?_|refine rX f ?_ ?_|refine rC ?_ ?_<;>intro q<;>try(cases q;done))
          exact fM f [.tmp 8] (.p .bool false) eT ⟨false,m,rfl,rfl,u,λh=>by cases h⟩
         ·have v:EH (0,0) a b m (CV (0,0) m k (k-1)):=EH.swap m (by omega) (by omega) (by omega) (by omega) (by omega);have B:CV (0,0) m k (k-1)=(m.set k (m.getD (k-1) (0,0))).set (k-1) (m.getD k (0,0)):=rfl;have R:kS CF (0,0) a (k-1) (k-1) (CV (0,0) m k (k-1)):=⟨λx y h0 h1 z S T=>by
           have M:=Ih (d:=(0,0)) (l:=m) (i:=k) (j:=k-1) (by omega) (by omega);rw[M x,M y,At S,At (show ¬x=k by omega),At T,At (show ¬y=k by omega)];exact F x y h0 h1 (by omega),λy h1 z=>by omega⟩
          repeat'(first|exact trivial|refine eS rfl ?_|refine AB ?_|refine rP f ?_ ?_|fail)
          (refine B4 drawsAny f 16 [([0,1,5,6,7,8,9,10,11,12,13,14],15)] [2,3,4] (by kernel_rfl) (Lf ?_ ?_);(next=>exact CW);refine Nm f [] ?_ ?_;(next=>exact CW);refine Pm f ?_ ?_ ?_;(next=>exact CW);(next=>exact CW))
          rw[J,<-B];have I:=u.trans v;clear B v P ah;generalize CV (0,0) m k (k-1)=c0 at *;refine Hz ?_;refine PY (ι:={c:List (Int×Int)//EH (0,0) a b l c/\Rd CF (0,0) a k c}) (λs=>⟨[(0,.sr 1000000 BE 0 l.length),(1,.p T3 (a:Int)),(2,.p T3 (b:Int)),(3,.fn 116),(9,.p (.int .i64) (k:Int)),(10,.p (.int .i64) (t:Int))],[(1000000,.arr 53 BE s.1)]⟩) ?_ (λs=>?_)
          ·repeat'(first|exact trivial|refine eS rfl ?_|refine AB ?_|refine rX f ?_ ?_)
           ·exact CW
           ·refine rC (λG=>?_) (λG=>?_)
            ·repeat'(first|exact trivial|refine eS rfl ?_|refine AB ?_|refine rX f ?_ ?_)
             ·exact CW
             ·rw[show (k:Int)-1=((k-1:Nat):Int) by omega];refine AG (ι:={s:Nat×List (Int×Int)//(a<=s.1/\s.1<=k-1)/\EH (0,0) a b l s.2/\kS CF (0,0) a (k-1) s.1 s.2}) (λs=>⟨[(0,.sr 1000000 BE 0 l.length),(1,.p T3 (a:Int)),(2,.p T3 (b:Int)),(3,.fn 116),(9,.p (.int .i64) (k:Int)),(10,.p (.int .i64) (t:Int)),(11,.p (.int .i64) (s.1.1:Int))],[(1000000,.arr 53 BE s.1.2)]⟩) (λs=>s.1.1) ⟨(k-1,c0),by simp only;omega,I,R⟩ (AC [(1000000,.nm 1000000)] rfl rfl ?_ ?_) (λs=>?_)
              ·first|exact eN|refine eM ?_
              ·first|exact eN|refine eM ?_
              ·obtain⟨⟨j,c⟩,⟨D,A⟩,n,o⟩:=s;simp only at D A n o ⊢;have X:=L.perm CM n.perm;have Y:=n.len;have C:((j:Int)-1).toNat=j-1:=by omega
               have V:=U.pin n;repeat'(first|exact trivial|refine eS rfl ?_|refine AB ?_|refine rX f ?_ ?_)
               refine rC (λH=>?_) (λH=>?_)
               ·repeat'(first|exact trivial|refine eS rfl ?_|refine AB ?_|refine rX f ?_ ?_)
                ·exact CW
                ·refine Dm (by simp only[go_sem,Nat.reduceEqDiff,reduceCtorEq,Nat.reduceAdd,Nat.reduceSub,Nat.reduceMul,Nat.reduceLeDiff,Nat.reduceLT,Int.reduceLE,Int.reduceToNat,Int.reduceNeg,↓reduceIte];rfl) ?_ ?_
                 ·intro g;simp only[dO,To]at g;rw[C]at g;have g:=X.lt CM (i:=j) (j:=j-1) (by omega) (by omega) (by omega) g;have E:=Vi CM o D A (.inr g);rw[show k-1+1=k by omega]at E;repeat'(first|exact trivial|refine eS rfl ?_|refine AB ?_|refine rX f ?_ ?_)
                  refine⟨⟨c,n,E⟩,AC [(1000000,.nm 1000000)] rfl rfl ?_ ?_⟩
                  ·first|exact eN|refine eM ?_
                  ·first|exact eN|refine eM ?_
                 ·intro g;simp only[ABu,IS]at g;rw[C]at g;have g:CF (c.getD j (0,0)) (c.getD (j-1) (0,0))<0:=g;have W:a<j:=by
                   refine DO λhn=>?_;have e:j=a:=by omega
                   subst e;rcases V with h|h
                   ·omega
                   ·have:=h j (NO _) (by omega);rw[CM.anti]at this;omega
                  have v:EH (0,0) a b c (CV (0,0) c j (j-1)):=EH.swap c (by omega) (by omega) (by omega) (by omega) (by omega);have B:CV (0,0) c j (j-1)=(c.set j (c.getD (j-1) (0,0))).set (j-1) (c.getD j (0,0)):=rfl;repeat'(first|exact trivial|refine eS rfl ?_|refine AB ?_|refine rP f ?_ ?_|fail)
                  (refine B4 drawsAny f 16 [([0,1,5,6,7,8,9,10,11,12,13,14],15)] [2,3,4] (by kernel_rfl) (Lf ?_ ?_);(next=>exact CW);refine Nm f [] ?_ ?_;(next=>exact CW);refine Pm f ?_ ?_ ?_;(next=>exact CW);(next=>exact CW))
                  rw[C,<-B];repeat'(first|exact trivial|refine eS rfl ?_|refine AB ?_|refine rX f ?_ ?_)
                  ·exact CW
                  ·refine⟨⟨(j-1,CV (0,0) c j (j-1)),by simp only;omega,n.trans v,YG o W A (by omega) g⟩,by simp only;omega,AC [(1000000,.nm 1000000)] rfl rfl ?_ ?_⟩
                   ·first|exact eN|refine eM ?_
                   ·simp only;rw[show ((j-1:Nat):Int)=(j:Int)-1 by omega];first|exact eN|refine eM ?_
               ·have ad:j=a:=by omega
                have E:=Vi CM o D A (.inl ad);rw[show k-1+1=k by omega]at E;repeat'(first|exact trivial|refine eS rfl ?_|refine AB ?_|refine rX f ?_ ?_)
                refine⟨⟨c,n,E⟩,AC [(1000000,.nm 1000000)] rfl rfl ?_ ?_⟩
                ·first|exact eN|refine eM ?_
                ·first|exact eN|refine eM ?_
            ·have ag:k=a+1:=by omega
             repeat'(first|exact trivial|refine eS rfl ?_|refine AB ?_|refine rX f ?_ ?_)
             refine⟨⟨c0,I,by rw[ag];exact Zr a c0⟩,AC [(1000000,.nm 1000000)] rfl rfl ?_ ?_⟩
             ·first|exact eN|refine eM ?_
             ·first|exact eN|refine eM ?_
          ·obtain⟨c,n,o⟩:=s;simp only;clear I R;repeat'(first|exact trivial|refine eS rfl ?_|refine AB ?_|refine rX f ?_ ?_)
           ·exact CW
           ·refine rC (λG=>?_) (λG=>?_)
            ·repeat'(first|exact trivial|refine eS rfl ?_|refine AB ?_|refine rX f ?_ ?_)
             ·exact CW
             ·rw[show (k:Int)+1=((k+1:Nat):Int) by omega];refine AG (ι:={s:Nat×List (Int×Int)//(k+1<=s.1/\s.1<=b)/\EH (0,0) a b l s.2/\Rd CF (0,0) a k s.2}) (λs=>⟨[(0,.sr 1000000 BE 0 l.length),(1,.p T3 (a:Int)),(2,.p T3 (b:Int)),(3,.fn 116),(9,.p (.int .i64) (k:Int)),(10,.p (.int .i64) (t:Int)),(12,.p (.int .i64) (s.1.1:Int))],[(1000000,.arr 53 BE s.1.2)]⟩) (λs=>b-s.1.1) ⟨(k+1,c),by simp only;omega,n,o⟩ (AC [(1000000,.nm 1000000)] rfl rfl ?_ ?_) (λs=>?_)
              ·first|exact eN|refine eM ?_
              ·first|exact eN|refine eM ?_
              ·clear n o;obtain⟨⟨j,c⟩,⟨D,A⟩,n,o⟩:=s;simp only at D A n o ⊢;have Y:=n.len;have C:((j:Int)-1).toNat=j-1:=by omega
               repeat'(first|exact trivial|refine eS rfl ?_|refine AB ?_|refine rX f ?_ ?_)
               refine rC (λH=>?_) (λH=>?_)
               ·repeat'(first|exact trivial|refine eS rfl ?_|refine AB ?_|refine rX f ?_ ?_)
                ·exact CW
                ·refine Dm (by simp only[go_sem,Nat.reduceEqDiff,reduceCtorEq,Nat.reduceAdd,Nat.reduceSub,Nat.reduceMul,Nat.reduceLeDiff,Nat.reduceLT,Int.reduceLE,Int.reduceToNat,Int.reduceNeg,↓reduceIte];rfl) ?_ ?_
                 ·intro g;clear g;repeat'(first|exact trivial|refine eS rfl ?_|refine AB ?_|refine rX f ?_ ?_)
                  ·exact CW
                  ·refine⟨⟨(k,t+1,c),by simp only;omega,by simp only;omega,n,o⟩,by simp only;omega,AC [(1000000,.nm 1000000)] rfl rfl ?_ ?_⟩
                   ·first|exact eN|refine eM ?_
                   ·first|exact eN|refine eM ?_
                 ·intro g;clear g;have v:EH (0,0) k b c (CV (0,0) c j (j-1)):=EH.swap c (by omega) (by omega) (by omega) (by omega) (by omega);have B:CV (0,0) c j (j-1)=(c.set j (c.getD (j-1) (0,0))).set (j-1) (c.getD j (0,0)):=rfl;repeat'(first|exact trivial|refine eS rfl ?_|refine AB ?_|refine rP f ?_ ?_|fail)
                  (refine B4 drawsAny f 16 [([0,1,5,6,7,8,9,10,11,12,13,14],15)] [2,3,4] (by kernel_rfl) (Lf ?_ ?_);(next=>exact CW);refine Nm f [] ?_ ?_;(next=>exact CW);refine Pm f ?_ ?_ ?_;(next=>exact CW);(next=>exact CW))
                  rw[C,<-B];repeat'(first|exact trivial|refine eS rfl ?_|refine AB ?_|refine rX f ?_ ?_)
                  ·exact CW
                  ·refine⟨⟨(j+1,CV (0,0) c j (j-1)),by simp only;omega,n.trans (v.mono (by omega) (NO _)),NH o λx ap aq=>v.out x (by omega)⟩,by simp only;omega,AC [(1000000,.nm 1000000)] rfl rfl ?_ ?_⟩
                   ·first|exact eN|refine eM ?_
                   ·first|exact eN|refine eM ?_
               ·repeat'(first|exact trivial|refine eS rfl ?_|refine AB ?_|refine rX f ?_ ?_)
                ·exact CW
                ·refine⟨⟨(k,t+1,c),by simp only;omega,by simp only;omega,n,o⟩,by simp only;omega,AC [(1000000,.nm 1000000)] rfl rfl ?_ ?_⟩
                 ·first|exact eN|refine eM ?_
                 ·first|exact eN|refine eM ?_
            ·repeat'(first|exact trivial|refine eS rfl ?_|refine AB ?_|refine rX f ?_ ?_)
             ·exact CW
             ·refine⟨⟨(k,t+1,c),by simp only;omega,by simp only;omega,n,o⟩,by simp only;omega,AC [(1000000,.nm 1000000)] rfl rfl ?_ ?_⟩
              ·first|exact eN|refine eM ?_
              ·first|exact eN|refine eM ?_
   ·repeat'(first|exact trivial|refine eS rfl ?_|refine AB ?_|refine rX f ?_ ?_|refine rC ?_ ?_<;>intro q<;>try(cases q;done))
    exact fM f [.tmp 8] (.p .bool false) eT ⟨false,m,rfl,rfl,u,λh=>by cases h⟩
end
section
attribute [local go_sem] Cy
def Gj (l:List (Int×Int)) (s:Nat):List (Nat×Obj):=[(1000000,.arr 53 BE l),(70,.box 3 false [.p T3 (s:Int)])]
theorem Vj (l:List (Int×Int)) (a b s:Nat) (f:a<l.length) (g:b<l.length) (hs:s<=1000):BA Tryz.prog 185 [.sr 1000000 BE 0 l.length,.p T3 (a:Int),.p T3 (b:Int),.bp 70 [] 0,.fn 116] (Gj l s) [1000000,70] (λres e=>∃x y t:Nat,res=.tup [.p T3 (x:Int),.p T3 (y:Int)]/\e=Gj l t/\((x=a/\y=b)\/(x=b/\y=a))/\t<=s+1):=by
 refine Jh [0,1,2,3,4,10,11,22] [] [] Tryz.func185 Tryz.ntmps185 (AF E5 AH) ?_;intro w0 K O0 ρ0 c h i;simp only[Aj,Gj];repeat'(first|exact trivial|refine eS rfl ?_|refine AB ?_|refine rX c ?_ ?_|refine rC ?_ ?_<;>intro d<;>try(cases d;done))
 ·exact CW
 ·exact CW
 ·refine fM c [.tmp 10,.tmp 11] (.tup [.p T3 (b:Int),.p T3 (a:Int)]) eT ⟨b,a,s+1,rfl,?_,.inr ⟨rfl,rfl⟩,NO _⟩;rw[show ((s+1:Nat):Int)=(s:Int)+1 by omega]
 ·exact fM c [.tmp 10,.tmp 11] (.tup [.p T3 (a:Int),.p T3 (b:Int)]) eT ⟨a,b,s,rfl,rfl,.inl ⟨rfl,rfl⟩,by omega⟩
theorem Zs (l:List (Int×Int)) (a b c s:Nat) (j:a<l.length) (k:b<l.length) (cl:c<l.length) (hs:s<=900):BA Tryz.prog 182 [.sr 1000000 BE 0 l.length,.p T3 (a:Int),.p T3 (b:Int),.p T3 (c:Int),.bp 70 [] 0,.fn 116] (Gj l s) [1000000,70] (λres m=>∃x t:Nat,res=.p T3 (x:Int)/\m=Gj l t/\(x=a\/x=b\/x=c)/\t<=s+3):=by
 refine Jh [0,1,2,3,4,5,12] [] [] Tryz.func182 Tryz.ntmps182 AH ?_;intro w0 K O0 ρ0 d q r;simp only[Aj,Gj];repeat'(first|exact trivial|refine eS rfl ?_|refine AB ?_|refine rX d ?_ ?_|refine rC ?_ ?_<;>intro e<;>try(cases e;done))
 refine cP 5 d ?_ ?_
 ·trivial
 ·refine rM d (Vj l a b s j k (by omega)) [(1000000,.nm 1000000),(70,.nm 70)] [] ?_ ?_ ?_
  ·first|exact eN|refine eM ?_
  ·simp only[Gj];first|exact eN|refine eM ?_
  ·rintro _ _ ⟨g,b1,s1,rfl,rfl,h1,u⟩;refine⟨[(1000000,.nm 1000000),(70,.nm 70)],.tup [.p T3 (g:Int),.p T3 (b1:Int)],[(1000000,.arr 53 BE l),(70,.box 3 false [.p T3 (s1:Int)])],rfl,rfl,?_,?_,rfl,rfl,?_⟩
   ·simp only[Gj];first|exact eN|refine eM ?_
   ·first|exact eN|refine eM ?_
   ·refine rL d ?_ ?_
    ·trivial
    ·repeat'(first|exact trivial|refine eS rfl ?_|refine AB ?_|refine rX d ?_ ?_|refine rC ?_ ?_<;>intro e<;>try(cases e;done))
     refine cP 5 d ?_ ?_
     ·trivial
     ·refine rM d (Vj l b1 c s1 (by omega) cl (by omega)) [(1000000,.nm 1000000),(70,.nm 70)] [] ?_ ?_ ?_
      ·first|exact eN|refine eM ?_
      ·simp only[Gj];first|exact eN|refine eM ?_
      ·rintro _ _ ⟨b2,c2,s2,rfl,rfl,n,v⟩;refine⟨[(1000000,.nm 1000000),(70,.nm 70)],.tup [.p T3 (b2:Int),.p T3 (c2:Int)],[(1000000,.arr 53 BE l),(70,.box 3 false [.p T3 (s2:Int)])],rfl,rfl,?_,?_,rfl,rfl,?_⟩
       ·simp only[Gj];first|exact eN|refine eM ?_
       ·first|exact eN|refine eM ?_
       ·refine rL d ?_ ?_
        ·trivial
        ·repeat'(first|exact trivial|refine eS rfl ?_|refine AB ?_|refine rX d ?_ ?_|refine rC ?_ ?_<;>intro e<;>try(cases e;done))
         refine cP 5 d ?_ ?_
         ·trivial
         ·refine rM d (Vj l g b2 s2 (by omega) (by omega) (by omega)) [(1000000,.nm 1000000),(70,.nm 70)] [] ?_ ?_ ?_
          ·first|exact eN|refine eM ?_
          ·simp only[Gj];first|exact eN|refine eM ?_
          ·rintro _ _ ⟨i,f,h,rfl,rfl,o,w⟩;refine⟨[(1000000,.nm 1000000),(70,.nm 70)],.tup [.p T3 (i:Int),.p T3 (f:Int)],[(1000000,.arr 53 BE l),(70,.box 3 false [.p T3 (h:Int)])],rfl,rfl,?_,?_,rfl,rfl,?_⟩
           ·simp only[Gj];first|exact eN|refine eM ?_
           ·first|exact eN|refine eM ?_
           ·refine rL d ?_ ?_
            ·trivial
            ·repeat'(first|exact trivial|refine eS rfl ?_|refine AB ?_|refine rX d ?_ ?_|refine rC ?_ ?_<;>intro e<;>try(cases e;done))
             exact fM d [.tmp 12] (.p T3 (f:Int)) eT ⟨f,h,rfl,rfl,by omega,by omega⟩
theorem Zt (l:List (Int×Int)) (b s:Nat) (g:1<=b) (d:b+1<l.length) (h:l.length<=100000) (hs:s<=900):BA Tryz.prog 181 [.sr 1000000 BE 0 l.length,.p T3 (b:Int),.bp 70 [] 0,.fn 116] (Gj l s) [1000000,70] (λres f=>∃x t:Nat,res=.p T3 (x:Int)/\f=Gj l t/\(b-1<=x/\x<=b+1)/\t<=s+3):=by
 refine Jh [0,1,2,3,8] [] [] Tryz.func181 Tryz.ntmps181 AH ?_;intro w0 K O0 ρ0 a i j;simp only[Aj,Gj];have key:=Zs l (b-1) b (b+1) s (by omega) (by omega) d hs;rw[show ((b-1:Nat):Int)=(b:Int)-1 by omega,show ((b+1:Nat):Int)=(b:Int)+1 by omega]at key;repeat'(first|exact trivial|refine eS rfl ?_|refine AB ?_|refine rX a ?_ ?_|refine rC ?_ ?_<;>intro c<;>try(cases c;done))
 refine cP 8 a ?_ ?_
 ·exact CW
 ·refine rM a (key) [(1000000,.nm 1000000),(70,.nm 70)] [] ?_ ?_ ?_
  ·first|exact eN|refine eM ?_
  ·simp only[Gj];first|exact eN|refine eM ?_
  ·rintro _ _ ⟨x,t,rfl,rfl,k,e⟩;refine⟨[(1000000,.nm 1000000),(70,.nm 70)],.p T3 (x:Int),[(1000000,.arr 53 BE l),(70,.box 3 false [.p T3 (t:Int)])],rfl,rfl,?_,?_,rfl,rfl,?_⟩
   ·simp only[Gj];first|exact eN|refine eM ?_
   ·first|exact eN|refine eM ?_
   ·refine rL a ?_ ?_
    ·trivial
    ·repeat'(first|exact trivial|refine eS rfl ?_|refine AB ?_|refine rX a ?_ ?_|refine rC ?_ ?_<;>intro c<;>try(cases c;done))
     exact fM a [.tmp 8] (.p T3 (x:Int)) eT ⟨x,t,rfl,rfl,by omega,e⟩
theorem A5q (l:List (Int×Int)) (i:l.length<=100000) (a b:Nat) (z:a+13<=b) (A:b<=l.length):BA Tryz.prog 169 [.sr 1000000 BE 0 l.length,.p T3 (a:Int),.p T3 (b:Int),.fn 116] [(1000000,.arr 53 BE l)] [1000000] (λres y=>∃(j:Nat) (h:Int),res=.tup [.p T3 (j:Int),.p T3 h]/\y=[(1000000,.arr 53 BE l)]/\a<=j/\j<b):=by
 refine Jh [0,1,2,3,8,9,10,11,12,13,14,34,36,55,57,60] [] [] Tryz.func169 Tryz.ntmps169 AH ?_;intro w0 K O0 ρ0 c B C;simp only[Aj];obtain⟨t,v⟩:∃t,t=(b-a) / 4:=⟨_,rfl⟩;have et:((b:Int)-(a:Int)).tdiv 4=(t:Int):=by
  rw[AB5 (by omega)];omega
 have G:4*t<=b-a:=by omega
 have H:3<=t:=by omega
 clear v
 (refine eS rfl ?_;refine rX c ?_ ?_;(next=>first|exact trivial|exact CW))
 (refine eS rfl ?_;refine rX c ?_ ?_;(next=>first|exact trivial|exact CW))
 (refine eS rfl ?_;refine rX c ?_ ?_;(next=>first|exact trivial|exact CW))
 (refine eS rfl ?_;refine rX c ?_ ?_;(next=>first|exact trivial|exact CW|(rw[et];refine⟨⟨by decide,?_⟩,?_,?_⟩<;>omega)))
 (refine eS rfl ?_;refine rX c ?_ ?_;(next=>first|exact trivial|exact CW|(rw[et];refine⟨⟨by decide,?_⟩,?_,?_⟩<;>omega)))
 (refine eS rfl ?_;refine rX c ?_ ?_;(next=>first|exact trivial|exact CW|(rw[et];refine⟨⟨by decide,?_⟩,?_,?_⟩<;>omega)))
 rw[et,show (a:Int)+(t:Int)*1=((a+t:Nat):Int) by omega,show (a:Int)+(t:Int)*2=((a+t*2:Nat):Int) by omega,show (a:Int)+(t:Int)*3=((a+t*3:Nat):Int) by omega];refine Hz ?_;refine PY (ι:={x:Nat×Nat//a<=x.1/\x.1<b}) (λx=>⟨[(11,.bp 11 [] 0),(13,.p T3 (x.1.1:Int))],[(1000000,.arr 53 BE l),(11,.box 3 false [.p T3 (x.1.2:Int)])]⟩) ?_ (λx=>?_)
 ·repeat'(first|exact trivial|refine eS rfl ?_|refine AB ?_|refine rX c ?_ ?_)
  refine rC ?_ ?_<;>intro k
  ·repeat'(first|exact trivial|refine eS rfl ?_|refine AB ?_|refine rX c ?_ ?_)
   refine rC (λr=>?_) (λr=>?_)
   ·repeat'(first|exact trivial|refine eS rfl ?_|refine AB ?_|refine rP c ?_ ?_|fail)
    refine cP 3 c ?_ ?_
    ·trivial
    ·refine rM c (Zt l (a+t) 0 (by omega) (by omega) i (by omega)) [(1000000,.nm 1000000),(70,.nm 11)] [] ?_ ?_ ?_
     ·first|exact eN|refine eM ?_
     ·simp only[Gj];first|exact eN|refine eM ?_
     ·rintro _ _ ⟨n,s1,rfl,rfl,I,D⟩;refine⟨[(1000000,.nm 1000000),(11,.nm 70)],.p T3 (n:Int),[(1000000,.arr 53 BE l),(11,.box 3 false [.p T3 (s1:Int)])],rfl,rfl,?_,?_,rfl,rfl,?_⟩
      ·simp only[Gj];first|exact eN|refine eM ?_
      ·first|exact eN|refine eM ?_
      ·refine rL c ?_ ?_
       ·trivial
       ·repeat'(first|exact trivial|refine eS rfl ?_|refine AB ?_|refine rX c ?_ ?_)
        refine cP 3 c ?_ ?_
        ·trivial
        ·refine rM c (Zt l (a+t*2) s1 (by omega) (by omega) i (by omega)) [(1000000,.nm 1000000),(70,.nm 11)] [] ?_ ?_ ?_
         ·first|exact eN|refine eM ?_
         ·simp only[Gj];first|exact eN|refine eM ?_
         ·rintro _ _ ⟨o,s2,rfl,rfl,J,E⟩;refine⟨[(1000000,.nm 1000000),(11,.nm 70)],.p T3 (o:Int),[(1000000,.arr 53 BE l),(11,.box 3 false [.p T3 (s2:Int)])],rfl,rfl,?_,?_,rfl,rfl,?_⟩
          ·simp only[Gj];first|exact eN|refine eM ?_
          ·first|exact eN|refine eM ?_
          ·refine rL c ?_ ?_
           ·trivial
           ·repeat'(first|exact trivial|refine eS rfl ?_|refine AB ?_|refine rX c ?_ ?_)
            refine cP 3 c ?_ ?_
            ·trivial
            ·refine rM c (Zt l (a+t*3) s2 (by omega) (by omega) i (by omega)) [(1000000,.nm 1000000),(70,.nm 11)] [] ?_ ?_ ?_
             ·first|exact eN|refine eM ?_
             ·simp only[Gj];first|exact eN|refine eM ?_
             ·rintro _ _ ⟨q,m,rfl,rfl,L,F⟩;refine⟨[(1000000,.nm 1000000),(11,.nm 70)],.p T3 (q:Int),[(1000000,.arr 53 BE l),(11,.box 3 false [.p T3 (m:Int)])],rfl,rfl,?_,?_,rfl,rfl,?_⟩
              ·simp only[Gj];first|exact eN|refine eM ?_
              ·first|exact eN|refine eM ?_
              ·refine rL c ?_ ?_
               ·trivial
               ·repeat'(first|exact trivial|refine eS rfl ?_|refine AB ?_|refine rX c ?_ ?_)
                refine cP 5 c ?_ ?_
                ·trivial
                ·refine rM c (Zs l (n) (o) (q) m (by omega) (by omega) (by omega) (by omega)) [(1000000,.nm 1000000),(70,.nm 11)] [] ?_ ?_ ?_
                 ·first|exact eN|refine eM ?_
                 ·simp only[Gj];first|exact eN|refine eM ?_
                 ·rintro _ _ ⟨e,d,rfl,rfl,w,u⟩;refine⟨[(1000000,.nm 1000000),(11,.nm 70)],.p T3 (e:Int),[(1000000,.arr 53 BE l),(11,.box 3 false [.p T3 (d:Int)])],rfl,rfl,?_,?_,rfl,rfl,?_⟩
                  ·simp only[Gj];first|exact eN|refine eM ?_
                  ·first|exact eN|refine eM ?_
                  ·refine rL c ?_ ?_
                   ·trivial
                   ·repeat'(first|exact trivial|refine eS rfl ?_|refine AB ?_|refine rX c ?_ ?_)
                    refine⟨⟨(e,d),by simp only;omega,by simp only;omega⟩,AC [(1000000,.nm 1000000),(11,.nm 11)] rfl rfl ?_ ?_⟩
                    ·first|exact eN|refine eM ?_
                    ·first|exact eN|refine eM ?_
   ·repeat'(first|exact trivial|refine eS rfl ?_|refine AB ?_|refine rP c ?_ ?_|fail)
    refine cP 5 c ?_ ?_
    ·trivial
    ·refine rM c (Zs l (a+t) (a+t*2) (a+t*3) 0 (by omega) (by omega) (by omega) (by omega)) [(1000000,.nm 1000000),(70,.nm 11)] [] ?_ ?_ ?_
     ·first|exact eN|refine eM ?_
     ·simp only[Gj];first|exact eN|refine eM ?_
     ·rintro _ _ ⟨e,d,rfl,rfl,w,u⟩;refine⟨[(1000000,.nm 1000000),(11,.nm 70)],.p T3 (e:Int),[(1000000,.arr 53 BE l),(11,.box 3 false [.p T3 (d:Int)])],rfl,rfl,?_,?_,rfl,rfl,?_⟩
      ·simp only[Gj];first|exact eN|refine eM ?_
      ·first|exact eN|refine eM ?_
      ·refine rL c ?_ ?_
       ·trivial
       ·repeat'(first|exact trivial|refine eS rfl ?_|refine AB ?_|refine rX c ?_ ?_)
        refine⟨⟨(e,d),by simp only;omega,by simp only;omega⟩,AC [(1000000,.nm 1000000),(11,.nm 11)] rfl rfl ?_ ?_⟩
        ·first|exact eN|refine eM ?_
        ·first|exact eN|refine eM ?_
  ·exfalso;omega
 ·obtain⟨⟨j,s⟩,f,g⟩:=x;simp only at f g ⊢;repeat'(first|exact trivial|refine eS rfl ?_|refine AB ?_|refine rX c ?_ ?_|refine rC ?_ ?_<;>intro k<;>try(cases k;done))
  ·refine Ev.ent (σ':=⟨[(8,.p T3 (j:Int)),(9,.p T3 (1:Int))],[(1000000,.arr 53 BE l)]⟩) ?_ (AC [(1000000,.nm 1000000)] rfl rfl ?_ ?_)
   ·exact fM c [.tmp 8,.tmp 9] (.tup [.p T3 (j:Int),.p T3 (1:Int)]) eT ⟨j,1,rfl,rfl,f,g⟩
   ·first|exact eN|refine eM ?_
   ·first|exact eN|refine eM ?_
  ·refine Ev.ent (σ':=⟨[(8,.p T3 (j:Int)),(9,.p T3 (2:Int))],[(1000000,.arr 53 BE l)]⟩) ?_ (AC [(1000000,.nm 1000000)] rfl rfl ?_ ?_)
   ·exact fM c [.tmp 8,.tmp 9] (.tup [.p T3 (j:Int),.p T3 (2:Int)]) eT ⟨j,2,rfl,rfl,f,g⟩
   ·first|exact eN|refine eM ?_
   ·first|exact eN|refine eM ?_
  ·refine Ev.ent (σ':=⟨[(8,.p T3 (j:Int)),(9,.p T3 (0:Int))],[(1000000,.arr 53 BE l)]⟩) ?_ (AC [(1000000,.nm 1000000)] rfl rfl ?_ ?_)
   ·exact fM c [.tmp 8,.tmp 9] (.tup [.p T3 (j:Int),.p T3 (0:Int)]) eT ⟨j,0,rfl,rfl,f,g⟩
   ·first|exact eN|refine eM ?_
   ·first|exact eN|refine eM ?_
end
theorem A5r (x y:Int) (h0:0<=y) (h1:y<4611686018427387904):0<=CA .and .u64 x y/\CA .and .u64 x y<=y:=by
 have e:(IntKind.u64).bits=64:=rfl;have a:(BitVec.ofInt 64 y).toNat=y.toNat:=by
  rw[BitVec.toNat_ofInt];omega
 have d:(BitVec.ofInt 64 x &&& BitVec.ofInt 64 y).toNat<=y.toNat:=by
  rw[BitVec.toNat_and,a];exact Nat.and_le_right
 have b:CA .and .u64 x y=IntKind.u64.wrap (((BitVec.ofInt 64 x &&& BitVec.ofInt 64 y).toNat:Nat):Int):=rfl;rw[b];generalize (BitVec.ofInt 64 x &&& BitVec.ofInt 64 y).toNat=z at *;have c:IntKind.u64.wrap (z:Int)=(z:Int):=by
  have f:(z:Int)<18446744073709551616:=by omega
  have:IntKind.u64.wrap (z:Int)=(z:Int) % 18446744073709551616:=by
   first|rfl|(simp[IntKind.wrap];done)
  rw[this];omega
 rw[c];omega
theorem A9Z (z:Int):0<=IntKind.u64.wrap z/\IntKind.u64.wrap z<=18446744073709551615:=by
 have:IntKind.u64.wrap z=z % 18446744073709551616:=by
  first|rfl|(simp[IntKind.wrap];done)
 omega
theorem eB (x y:Int):0<=CA .xor .u64 x y/\CA .xor .u64 x y<=18446744073709551615:=A9Z _
theorem A1t {x:Int} (h0:0<=x) (h1:x<=18446744073709551615):0<=Wr .u64 x 7/\Wr .u64 x 7<=18446744073709551615:=by
 show 0<=x.fdiv 128/\x.fdiv 128<=18446744073709551615;rw[ACm _ (by decide)];omega
theorem wW (x:Int) (h0:0<=x) (h1:x<256):BA Tryz.prog 175 [.p (.int .u64) x] [] [] (λres f=>(∃n:Nat,res=.p T3 (n:Int)/\n<=8/\(1<=x.toNat->x.toNat<2 ^ n/\2 ^ n<=2*x.toNat))/\f=[]):=by
 refine Jh [0,2,4,8,14] [] [] Tryz.func175 Tryz.ntmps175 AH ?_;intro w0 K O0 ρ0 a g h;simp only[Aj];repeat'(first|exact trivial|refine eS rfl ?_|refine rX a ?_ ?_|refine rC ?_ ?_<;>intro b<;>try(cases b;done))
 all_goals first|(exfalso;omega)|skip
 refine MH [0,2] a rfl (by simp only[go_sem,Nat.reduceEqDiff,reduceCtorEq,Nat.reduceAdd,Nat.reduceSub,Nat.reduceMul,Nat.reduceLeDiff,Nat.reduceLT,Int.reduceLE,Int.reduceToNat,Int.reduceNeg,↓reduceIte,ByteArray.size,List.size_toArray,AO];rfl) ?_ ?_
 ·have hu:∀u:UInt8,((u.toNat:Nat):Int)<=255:=λu=>by have:=u.toNat_lt;omega
  have c:0<=x:=by omega
  refine⟨⟨c,by omega⟩,⟨c,?_⟩,⟨?_,?_⟩,?_,?_⟩
  ·have d:x<((256:Nat):Int):=h1;exact d
  ·exact ABJ (by decide) (AAp _)
  ·exact ABJ (hu _) (by decide)
  ·rw[Int.zero_add];exact ABJ (by decide) (AAp _)
  ·rw[Int.zero_add];exact ABJ (hu _) (by decide)
 ·repeat' refine eS rfl ?_
  refine fM a [.tmp 2] (.p T3 _) (by simp only[UU,vB,Q7,XX,Hf,Kw,Jf,go_sem,Nat.reduceEqDiff,reduceCtorEq,Nat.reduceAdd,Nat.reduceSub,Nat.reduceMul,Nat.reduceLeDiff,Nat.reduceLT,Int.reduceLE,Int.reduceToNat,Int.reduceNeg,↓reduceIte];rfl) ⟨⟨_,by rw[Int.zero_add],?_⟩,rfl⟩;have e:x.toNat<256:=by omega
  generalize x.toNat=k at *;clear b;revert e;revert k;decide
theorem sZ (x:Int) (h0:0<=x) (h1:x<256):BA Tryz.prog 164 [.p (.int .u64) x] [] [] (λres d=>(∃n:Nat,res=.p T3 (n:Int)/\n<=8/\(1<=x.toNat->x.toNat<2 ^ n/\2 ^ n<=2*x.toNat))/\d=[]):=by
 refine Jh [0,2] [] [] Tryz.func164 Tryz.ntmps164 AH ?_;intro w0 K O0 ρ0 a e f;simp only[Aj];repeat'(first|exact trivial|refine eS rfl ?_|refine rX a ?_ ?_|refine rC ?_ ?_<;>intro b<;>try(cases b;done))
 refine cP 1 a ?_ ?_
 ·trivial
 ·refine rM a (wW x h0 h1) [] [] ?_ ?_ ?_
  ·exact eN
  ·exact eN
  ·rintro _ _ ⟨⟨n,rfl,c⟩,rfl⟩;refine⟨[],.p T3 (n:Int),[],rfl,rfl,?_,?_,rfl,rfl,?_⟩
   ·exact eN
   ·exact eN
   ·refine rL a ?_ ?_
    ·trivial
    ·repeat' refine eS rfl ?_
     exact fM a [.tmp 2] (.p T3 (n:Int)) eT ⟨⟨n,rfl,c⟩,rfl⟩
theorem A5s (x:Int) (h0:1<=x) (h1:x<256):BA Tryz.prog 179 [.p T3 x] [] [] (λres f=>(∃m:Nat,res=.p (.int .u64) (m:Int)/\x.toNat<m/\m<=2*x.toNat)/\f=[]):=by
 refine Jh [0,2] [] [] Tryz.func179 Tryz.ntmps179 AH ?_;intro w0 K O0 ρ0 a h i;simp only[Aj];repeat'(first|exact trivial|refine eS rfl ?_|refine rX a ?_ ?_)
 refine cP 2 a ?_ ?_
 ·exact CW
 ·refine rM a (sZ x (by omega) h1) [] [] ?_ ?_ ?_
  ·exact eN
  ·exact eN
  ·rintro _ _ ⟨⟨n,rfl,g,d⟩,rfl⟩;obtain⟨b,c⟩:=d (by omega);refine⟨[],.p T3 (n:Int),[],rfl,rfl,?_,?_,rfl,rfl,?_⟩
   ·exact eN
   ·exact eN
   ·refine rL a ?_ ?_
    ·trivial
    ·have e:Sx .u64 1 (n:Int)=((2 ^ n:Nat):Int):=by
      clear b c;have:∀n:Fin 9,Sx .u64 1 ((n.val:Nat):Int)=((2 ^ n.val:Nat):Int):=by decide
      exact this ⟨n,by omega⟩
     rw[e];repeat' refine eS rfl ?_
     exact fM a [.tmp 2] (.p (.int .u64) ((2 ^ n:Nat):Int)) eT ⟨⟨_,rfl,b,c⟩,rfl⟩
theorem A5t (s:Int) (hs:0<=s/\s<=18446744073709551615):BA Tryz.prog 180 [.bp 70 [] 0] [(70,.box 213 false [.p (.int .u64) s])] [70] (λres b=>∃v:Int,(0<=v/\v<=18446744073709551615)/\res=.p (.int .u64) v/\b=[(70,.box 213 false [.p (.int .u64) v])]):=by
 refine Jh [0,2] [] [] Tryz.func180 Tryz.ntmps180 AH ?_;intro w0 K O0 ρ0 a c d;simp only[Aj];repeat'(first|exact trivial|refine eS rfl ?_|refine rX a ?_ ?_)
 ·have:=eB s (Sx .u64 s 13);exact A1t this.1 this.2
 ·exact fM a [.tmp 2] (.p (.int .u64) _) eT ⟨_,eB _ _,rfl,rfl⟩
section
attribute [local go_sem] Cy
theorem A5u (l:List (Int×Int)) (J:l.length<256) (a b:Nat) (F:a+8<=b) (H:b<=l.length):BA Tryz.prog 168 [.sr 1000000 BE 0 l.length,.p T3 (a:Int),.p T3 (b:Int),.fn 116] [(1000000,.arr 53 BE l)] [1000000] (λres E=>res=.raw (.tuple #[])/\∃r,E=[(1000000,.arr 53 BE r)]/\EH (0,0) a b l r):=by
 refine Jh [0,1,2,8,9,10,11,12,17,35,45] [] [] Tryz.func168 Tryz.ntmps168 AH ?_;intro w0 K O0 ρ0 d L M;simp only[Aj];obtain⟨n,hn⟩:∃n,b=a+n:=⟨b-a,by omega⟩;subst hn;have en:((a+n:Nat):Int)-(a:Int)=(n:Int):=by omega
 obtain⟨t,D⟩:∃t,t=n / 4:=⟨_,rfl⟩;have et:(n:Int).tdiv 4=(t:Int):=by
  rw[AB5 (by omega)];omega
 have N:4*t<=n:=by omega
 have O:2<=t:=by omega
 clear D
 (refine eS rfl ?_;refine rX d ?_ ?_;(next=>first|exact trivial|exact CW))
 rw[en];repeat'(first|exact trivial|refine eS rfl ?_|refine AB ?_|refine rX d ?_ ?_)
 refine rC ?_ ?_<;>intro j
 ·repeat'(first|exact trivial|refine eS rfl ?_|refine AB ?_|refine rX d ?_ ?_)
  ·exact CW
  ·refine cP 1 d ?_ ?_
   ·trivial
   ·refine rM d (A5s (n:Int) (by omega) (by omega)) [] [] ?_ ?_ ?_
    ·first|exact eN|refine eM ?_
    ·first|exact eN|refine eM ?_
    ·rintro _ _ ⟨⟨m,rfl,A,B⟩,rfl⟩;rw[gO]at A B;refine⟨[],.p (.int .u64) (m:Int),[],rfl,rfl,?_,?_,rfl,rfl,?_⟩
     ·first|exact eN|refine eM ?_
     ·first|exact eN|refine eM ?_
     ·refine rL d ?_ ?_
      ·trivial
      ·repeat'(first|exact trivial|refine eS rfl ?_|refine AB ?_|refine rX d ?_ ?_)
       ·rw[et];refine⟨⟨by decide,?_⟩,?_,?_,?_⟩<;>omega
       ·rw[et,show (a:Int)+(t:Int)*2-1=((a+t*2-1:Nat):Int) by omega];refine AG (ι:={s:Nat×Int×List (Int×Int)//(a<=s.1/\s.1<=a+t*2+2)/\(0<=s.2.1/\s.2.1<=18446744073709551615)/\EH (0,0) a (a+n) l s.2.2}) (λs=>⟨[(0,.sr 1000000 BE 0 l.length),(1,.p T3 (a:Int)),(8,.p (.int .i64) (n:Int)),(9,.bp 9 [] 0),(10,.p (.int .u64) (m:Int)),(11,.p (.int .i64) (s.1.1:Int))],[(1000000,.arr 53 BE s.1.2.2),(9,.box 213 false [.p (.int .u64) s.1.2.1])]⟩) (λs=>a+t*2+2-s.1.1) ⟨(a+t*2-1,(n:Int),l),by simp only;omega,by simp only;omega,EH.refl _ _ l⟩ (AC [(1000000,.nm 1000000),(9,.nm 9)] rfl rfl ?_ ?_) (λs=>?_)
        ·first|exact eN|refine eM ?_
        ·first|exact eN|refine eM ?_
        ·obtain⟨⟨i,x,c⟩,⟨y,z⟩,q,hp⟩:=s;simp only at y z q hp ⊢;have I:=hp.len;repeat'(first|exact trivial|refine eS rfl ?_|refine AB ?_|refine rX d ?_ ?_)
         ·rw[et];refine⟨⟨by decide,?_⟩,?_,?_,?_⟩<;>omega
         ·rw[et];refine rC (λu=>?_) (λu=>?_)
          ·refine eS rfl ?_;refine cP 0 d ?_ ?_
           ·trivial
           ·refine rM d (A5t x q) [(70,.nm 9)] [] ?_ ?_ ?_
            ·first|exact eN|refine eM ?_
            ·first|exact eN|refine eM ?_
            ·rintro _ _ ⟨v,k,rfl,rfl⟩;refine⟨[(9,.nm 70)],.p (.int .u64) v,[(9,.box 213 false [.p (.int .u64) v])],rfl,rfl,?_,?_,rfl,rfl,?_⟩
             ·first|exact eN|refine eM ?_
             ·first|exact eN|refine eM ?_
             ·have G:=A5r v ((m:Int)-1) (by omega) (by omega);refine rL d ?_ ?_
              ·exact⟨by omega,by omega⟩
              ·generalize CA .and .u64 v ((m:Int)-1)=r at *;repeat'(first|exact trivial|refine eS rfl ?_|refine AB ?_|refine rX d ?_ ?_)
               refine rC (λw=>?_) (λw=>?_)
               ·obtain⟨o,f⟩:∃o:Nat,r-(n:Int)=(o:Int):=⟨(r-(n:Int)).toNat,by omega⟩;have C:o<n:=by omega
                refine rX d ?_ ?_
                ·exact CW
                ·rw[f];have g:EH (0,0) a (a+n) c (CV (0,0) c i (a+o)):=EH.swap c (by omega) (by omega) (by omega) (by omega) (by omega);have h:CV (0,0) c i (a+o)=(c.set i (c.getD (a+o) (0,0))).set (a+o) (c.getD i (0,0)):=rfl;have e:((a:Int)+(o:Int)).toNat=a+o:=by omega
                 repeat'(first|exact trivial|refine eS rfl ?_|refine AB ?_|refine rP d ?_ ?_|fail)
                 (refine B4 drawsAny d 18 [([0,1,6,7,8,9,10,11,12,13,14,15,16],17)] [2,3,4,5] (by kernel_rfl) (Lf ?_ ?_);(next=>exact CW);refine Nm d [] ?_ ?_;(next=>exact CW);refine Pm d ?_ ?_ ?_;(next=>exact CW);(next=>exact CW))
                 rw[e,<-h];repeat'(first|exact trivial|refine eS rfl ?_|refine AB ?_|refine rX d ?_ ?_)
                 ·exact CW
                 ·refine⟨⟨(i+1,v,CV (0,0) c i (a+o)),by simp only;omega,k,hp.trans g⟩,by simp only;omega,AC [(1000000,.nm 1000000),(9,.nm 9)] rfl rfl ?_ ?_⟩
                  ·first|exact eN|refine eM ?_
                  ·first|exact eN|refine eM ?_
               ·obtain⟨o,f⟩:∃o:Nat,r=(o:Int):=⟨r.toNat,by omega⟩;subst f;have C:o<n:=by omega
                have g:EH (0,0) a (a+n) c (CV (0,0) c i (a+o)):=EH.swap c (by omega) (by omega) (by omega) (by omega) (by omega);have h:CV (0,0) c i (a+o)=(c.set i (c.getD (a+o) (0,0))).set (a+o) (c.getD i (0,0)):=rfl;have e:((a:Int)+(o:Int)).toNat=a+o:=by omega
                repeat'(first|exact trivial|refine eS rfl ?_|refine AB ?_|refine rP d ?_ ?_|fail)
                (refine B4 drawsAny d 18 [([0,1,6,7,8,9,10,11,12,13,14,15,16],17)] [2,3,4,5] (by kernel_rfl) (Lf ?_ ?_);(next=>exact CW);refine Nm d [] ?_ ?_;(next=>exact CW);refine Pm d ?_ ?_ ?_;(next=>exact CW);(next=>exact CW))
                rw[e,<-h];repeat'(first|exact trivial|refine eS rfl ?_|refine AB ?_|refine rX d ?_ ?_)
                ·exact CW
                ·refine⟨⟨(i+1,v,CV (0,0) c i (a+o)),by simp only;omega,k,hp.trans g⟩,by simp only;omega,AC [(1000000,.nm 1000000),(9,.nm 9)] rfl rfl ?_ ?_⟩
                 ·first|exact eN|refine eM ?_
                 ·first|exact eN|refine eM ?_
          ·repeat'(first|exact trivial|refine eS rfl ?_|refine AB ?_|refine rX d ?_ ?_|refine rC ?_ ?_<;>intro j<;>try(cases j;done))
           refine Ev.ent (σ':=⟨[],[(1000000,.arr 53 BE c)]⟩) ?_ (AC [(1000000,.nm 1000000)] rfl rfl ?_ ?_)
           ·exact fM d [] (.raw (.tuple #[])) rfl ⟨rfl,c,rfl,hp⟩
           ·first|exact eN|refine eM ?_
           ·first|exact eN|refine eM ?_
 ·exfalso;omega
end
section
attribute [local go_sem] Cy
def eC (l:List (Int×Int)) (a b c:Nat):Prop:=BA Tryz.prog 163 [.sr 1000000 BE 0 l.length,.p T3 (a:Int),.p T3 (b:Int),.p T3 (c:Int),.fn 116] [(1000000,.arr 53 BE l)] [1000000] (λres d=>res=.raw (.tuple #[])/\∃r,d=[(1000000,.arr 53 BE r)]/\EH (0,0) a b l r/\Rd CF (0,0) a b r)
theorem wX (l:List (Int×Int)) (az:l.length<256) (aa:gV CF (0,0) l) (a b S:Nat) (ar:a<=b) (ay:b<=l.length) (av:S<=1000) (aq:Bf CF (0,0) a b l)
  (V:∀(l':List (Int×Int)),l'.length<256->gV CF (0,0) l'->∀J b' an:Nat,b'-J<b-a->J<=b'->b'<=l'.length->an<=1000->Bf CF (0,0) J b' l'->eC l' J b' an):eC l a b S:=by
 unfold eC;refine Jh [0,1,2,3,4,10,11,12,13,14,15,16,17,18,19,20,25,32,39,56,75,80,97,125] [] [] Tryz.func163 Tryz.ntmps163 (AF E5 AH) ?_;intro w0 K O0 ρ0 c bb bc;simp only[Aj];repeat'(first|exact trivial|refine eS rfl ?_|refine AB ?_|refine rX c ?_ ?_)
 refine AG (ι:={s:(Nat×Nat×Nat)×(Bool×Bool)×List (Int×Int)//wU CF (0,0) a b s.1.1 s.1.2.1 s.2.2/\EH (0,0) a b l s.2.2/\Bf CF (0,0) s.1.1 s.1.2.1 s.2.2/\s.1.2.2<=1000}) (λs=>⟨[(0,.sr 1000000 BE 0 l.length),(1,.p T3 (s.1.1.1:Int)),(2,.p T3 (s.1.1.2.1:Int)),(3,.p T3 (s.1.1.2.2:Int)),(4,.fn 116),(10,.p .bool s.1.2.1.1),(11,.p .bool s.1.2.1.2)],[(1000000,.arr 53 BE s.1.2.2)]⟩) (λs=>s.1.1.2.1-s.1.1.1) ⟨((a,b,S),(true,true),l),wV ar l,EH.refl a b l,aq,av⟩ (AC [(1000000,.nm 1000000)] rfl rfl ?_ ?_) (λs=>?_)
 ·first|exact eN|refine eM ?_
 ·first|exact eN|refine eM ?_
 ·obtain⟨⟨⟨d,b1,H⟩,⟨T,U⟩,m⟩,t,n,Q,ag⟩:=s;simp only at t n Q ag ⊢;obtain⟨D,ax,E⟩:=t.ab;have N:=aa.perm CM n.perm;have u:=n.len;repeat'(first|exact trivial|refine eS rfl ?_|refine AB ?_|refine rX c ?_ ?_)
  ·exact CW
  ·refine rC ?_ ?_<;>intro o
   ·have key:=A5m m (by omega) N d b1 (by omega) (by omega);rw[u]at key;repeat'(first|exact trivial|refine eS rfl ?_|refine AB ?_|refine rX c ?_ ?_)
    refine cP 4 c ?_ ?_
    ·trivial
    ·refine rM c (key) [(1000000,.nm 1000000)] [] ?_ ?_ ?_
     ·first|exact eN|refine eM ?_
     ·first|exact eN|refine eM ?_
     ·rintro _ _ ⟨rfl,r,rfl,e,g⟩;refine⟨[(1000000,.nm 1000000)],.raw (.tuple #[]),[(1000000,.arr 53 BE r)],rfl,rfl,?_,?_,rfl,rfl,CQ ?_⟩
      ·first|exact eN|refine eM ?_
      ·first|exact eN|refine eM ?_
      ·repeat'(first|exact trivial|refine eS rfl ?_|refine AB ?_|refine rX c ?_ ?_|refine rC ?_ ?_<;>intro o<;>try(cases o;done))
       exact fM c [] (.raw (.tuple #[])) rfl ⟨rfl,r,rfl,n.trans (e.mono D E),(t.pin e).done g⟩
   ·have ap:d+13<=b1:=by omega
    have el:(b1:Int)-(d:Int)=((b1-d:Nat):Int):=by omega
    rw[el];repeat'(first|exact trivial|refine eS rfl ?_|refine AB ?_|refine rX c ?_ ?_)
    refine rC (λau=>?_) (λau=>?_)
    ·have key:=A1s m (by omega) N d b1 ax (by omega);rw[u]at key;repeat'(first|exact trivial|refine eS rfl ?_|refine AB ?_|refine rX c ?_ ?_)
     refine cP 4 c ?_ ?_
     ·trivial
     ·refine rM c (key) [(1000000,.nm 1000000)] [] ?_ ?_ ?_
      ·first|exact eN|refine eM ?_
      ·first|exact eN|refine eM ?_
      ·rintro _ _ ⟨rfl,r,rfl,e,g⟩;refine⟨[(1000000,.nm 1000000)],.raw (.tuple #[]),[(1000000,.arr 53 BE r)],rfl,rfl,?_,?_,rfl,rfl,CQ ?_⟩
       ·first|exact eN|refine eM ?_
       ·first|exact eN|refine eM ?_
       ·repeat'(first|exact trivial|refine eS rfl ?_|refine AB ?_|refine rX c ?_ ?_|refine rC ?_ ?_<;>intro o<;>try(cases o;done))
        exact fM c [] (.raw (.tuple #[])) rfl ⟨rfl,r,rfl,n.trans (e.mono D E),(t.pin e).done g⟩
    ·have ba:0<H:=by omega
     refine m6 ?_;refine Hz ?_;refine PY (ι:={x:Nat×List (Int×Int)//x.1<=1000/\EH (0,0) d b1 m x.2}) (λx=>⟨[(0,.sr 1000000 BE 0 l.length),(1,.p T3 (d:Int)),(2,.p T3 (b1:Int)),(3,.p T3 (x.1.1:Int)),(4,.fn 116),(10,.p .bool T),(11,.p .bool U),(12,.p (.int .i64) ((b1-d:Nat):Int))],[(1000000,.arr 53 BE x.1.2)]⟩) ?_ (λx=>?_)
     ·repeat'(first|exact trivial|refine eS rfl ?_|refine AB ?_|refine rX c ?_ ?_)
      refine rC (λk=>?_) (λk=>?_)
      ·have key:=A5u m (by omega) d b1 (by omega) (by omega);rw[u]at key;refine eS rfl ?_;refine cP 4 c ?_ ?_
       ·trivial
       ·refine rM c (key) [(1000000,.nm 1000000)] [] ?_ ?_ ?_
        ·first|exact eN|refine eM ?_
        ·first|exact eN|refine eM ?_
        ·rintro _ _ ⟨rfl,r,rfl,e⟩;refine⟨[(1000000,.nm 1000000)],.raw (.tuple #[]),[(1000000,.arr 53 BE r)],rfl,rfl,?_,?_,rfl,rfl,CQ ?_⟩
         ·first|exact eN|refine eM ?_
         ·first|exact eN|refine eM ?_
         ·repeat'(first|exact trivial|refine eS rfl ?_|refine AB ?_|refine rX c ?_ ?_)
          ·exact CW
          ·refine⟨⟨(H-1,r),by simp only;omega,e⟩,AC [(1000000,.nm 1000000)] rfl rfl ?_ ?_⟩
           ·first|exact eN|refine eM ?_
           ·simp only;rw[show ((H-1:Nat):Int)=(H:Int)-1 by omega];first|exact eN|refine eM ?_
      ·repeat'(first|exact trivial|refine eS rfl ?_|refine AB ?_|refine rX c ?_ ?_)
       refine⟨⟨(H,m),ag,EH.refl _ _ m⟩,AC [(1000000,.nm 1000000)] rfl rfl ?_ ?_⟩
       ·first|exact eN|refine eM ?_
       ·first|exact eN|refine eM ?_
     ·obtain⟨⟨C,i⟩,G,f⟩:=x;simp only at G f ⊢;have v:i.length=l.length:=f.len.trans u;have key:=A5q i (by omega) d b1 ap (by omega);rw[v]at key;refine eS rfl ?_;refine cP 4 c ?_ ?_
      ·trivial
      ·refine rM c (key) [(1000000,.nm 1000000)] [] ?_ ?_ ?_
       ·first|exact eN|refine eM ?_
       ·first|exact eN|refine eM ?_
       ·rintro _ _ ⟨j,hint,rfl,rfl,z,A⟩;refine⟨[(1000000,.nm 1000000)],.tup [.p T3 (j:Int),.p T3 hint],[(1000000,.arr 53 BE i)],rfl,rfl,?_,?_,rfl,rfl,?_⟩
        ·first|exact eN|refine eM ?_
        ·first|exact eN|refine eM ?_
        ·refine rL c ?_ ?_
         ·trivial
         ·refine Hz ?_;refine PY (ι:={x:Nat×Int×List (Int×Int)//(d<=x.1/\x.1<b1)/\EH (0,0) d b1 m x.2.2}) (λx=>⟨[(0,.sr 1000000 BE 0 l.length),(1,.p T3 (d:Int)),(2,.p T3 (b1:Int)),(3,.p T3 (C:Int)),(4,.fn 116),(10,.p .bool T),(11,.p .bool U),(12,.p (.int .i64) ((b1-d:Nat):Int)),(13,.p T3 (x.1.1:Int)),(14,.p T3 x.1.2.1)],[(1000000,.arr 53 BE x.1.2.2)]⟩) ?_ (λx=>?_)
          ·repeat'(first|exact trivial|refine eS rfl ?_|refine AB ?_|refine rX c ?_ ?_)
           refine rC (λk=>?_) (λk=>?_)
           ·have key:=A5n i (by omega) d b1 (by omega) (by omega);rw[v]at key;refine eS rfl ?_;refine cP 4 c ?_ ?_
            ·trivial
            ·refine rM c (key) [(1000000,.nm 1000000)] [] ?_ ?_ ?_
             ·first|exact eN|refine eM ?_
             ·first|exact eN|refine eM ?_
             ·rintro _ _ ⟨rfl,r,rfl,e⟩;refine⟨[(1000000,.nm 1000000)],.raw (.tuple #[]),[(1000000,.arr 53 BE r)],rfl,rfl,?_,?_,rfl,rfl,CQ ?_⟩
              ·first|exact eN|refine eM ?_
              ·first|exact eN|refine eM ?_
              ·repeat'(first|exact trivial|refine eS rfl ?_|refine AB ?_|refine rX c ?_ ?_)
               ·exact CW
               ·refine⟨⟨(b1-1-(j-d),1,r),by simp only;omega,f.trans e⟩,AC [(1000000,.nm 1000000)] rfl rfl ?_ ?_⟩
                ·first|exact eN|refine eM ?_
                ·simp only;rw[show ((b1-1-(j-d):Nat):Int)=(b1:Int)-1-((j:Int)-(d:Int)) by omega];first|exact eN|refine eM ?_
           ·repeat'(first|exact trivial|refine eS rfl ?_|refine AB ?_|refine rX c ?_ ?_)
            refine⟨⟨(j,hint,i),⟨z,A⟩,f⟩,AC [(1000000,.nm 1000000)] rfl rfl ?_ ?_⟩
            ·first|exact eN|refine eM ?_
            ·first|exact eN|refine eM ?_
          ·clear z A f v key;obtain⟨⟨j,hint,i⟩,⟨z,A⟩,f⟩:=x;simp only at z A f ⊢;have v:i.length=l.length:=f.len.trans u;have ah:=N.perm CM f.perm;have Y:=Q.pin f;refine PY (ι:={x:List (Int×Int)//EH (0,0) d b1 m x}) (λx=>⟨[(0,.sr 1000000 BE 0 l.length),(1,.p T3 (d:Int)),(2,.p T3 (b1:Int)),(3,.p T3 (C:Int)),(4,.fn 116),(10,.p .bool T),(11,.p .bool U),(12,.p (.int .i64) ((b1-d:Nat):Int)),(13,.p T3 (j:Int))],[(1000000,.arr 53 BE x.1)]⟩) ?_ (λx=>?_)
           ·repeat'(first|exact trivial|refine eS rfl ?_|refine AB ?_|refine rX c ?_ ?_)
            refine rC (λk=>?_) (λk=>?_)
            ·have key:=A5p i (by omega) ah d b1 (by omega) (by omega) Y;rw[v]at key;refine eS rfl ?_;refine cP 4 c ?_ ?_
             ·trivial
             ·refine rM c (key) [(1000000,.nm 1000000)] [] ?_ ?_ ?_
              ·first|exact eN|refine eM ?_
              ·first|exact eN|refine eM ?_
              ·rintro _ _ ⟨w,r,rfl,rfl,e,g⟩;refine⟨[(1000000,.nm 1000000)],.p .bool w,[(1000000,.arr 53 BE r)],rfl,rfl,?_,?_,rfl,rfl,CQ ?_⟩
               ·first|exact eN|refine eM ?_
               ·first|exact eN|refine eM ?_
               ·refine eS rfl ?_;refine rC (λaf=>?_) (λaf=>?_)
                ·repeat'(first|exact trivial|refine eS rfl ?_|refine AB ?_|refine rX c ?_ ?_|refine rC ?_ ?_<;>intro o<;>try(cases o;done))
                 have am:=f.trans e;exact fM c [] (.raw (.tuple #[])) rfl ⟨rfl,r,rfl,n.trans (am.mono D E),(t.pin am).done (g af)⟩
                ·repeat'(first|exact trivial|refine eS rfl ?_|refine AB ?_|refine rX c ?_ ?_)
                 refine⟨⟨r,f.trans e⟩,AC [(1000000,.nm 1000000)] rfl rfl ?_ ?_⟩
                 ·first|exact eN|refine eM ?_
                 ·first|exact eN|refine eM ?_
            ·repeat'(first|exact trivial|refine eS rfl ?_|refine AB ?_|refine rX c ?_ ?_)
             refine⟨⟨i,f⟩,AC [(1000000,.nm 1000000)] rfl rfl ?_ ?_⟩
             ·first|exact eN|refine eM ?_
             ·first|exact eN|refine eM ?_
           ·clear v ah Y f;obtain⟨ao,y⟩:=x;simp only;have ak:ao.length=l.length:=y.len.trans u;have ai:=N.perm CM y.perm;have R:=Q.pin y;have ad:=t.pin y;repeat'(first|exact trivial|refine eS rfl ?_|refine AB ?_|refine rX c ?_ ?_)
            ·dsimp only[Ty.den];exact⟨λ_=>by omega,λ_=>by omega,λ_=>by omega⟩
            ·refine Dm (by simp only[go_sem,Nat.reduceEqDiff,reduceCtorEq,Nat.reduceAdd,Nat.reduceSub,Nat.reduceMul,Nat.reduceLeDiff,Nat.reduceLT,Int.reduceLE,Int.reduceToNat,Int.reduceNeg,↓reduceIte];rfl) ?_ ?_
             ·intro L;exfalso;simp only[As,IS,dO,To]at L;obtain⟨h1,X⟩:=L;rw[show ((d:Int)-1).toNat=d-1 by omega]at X;rcases R with h|h
              ·omega
              ·exact X (h j z A)
             ·intro L;clear L;have key:=A5o ao (by omega) ai d b1 j z A (by omega);rw[ak]at key;repeat'(first|exact trivial|refine eS rfl ?_|refine AB ?_|refine rX c ?_ ?_)
              refine cP 5 c ?_ ?_
              ·trivial
              ·refine rM c (key) [(1000000,.nm 1000000)] [] ?_ ?_ ?_
               ·first|exact eN|refine eM ?_
               ·first|exact eN|refine eM ?_
               ·rintro _ _ ⟨q,w,I,rfl,rfl,P,F⟩;refine⟨[(1000000,.nm 1000000)],.tup [.p T3 (q:Int),.p .bool w],[(1000000,.arr 53 BE I)],rfl,rfl,?_,?_,rfl,rfl,?_⟩
                ·first|exact eN|refine eM ?_
                ·first|exact eN|refine eM ?_
                ·have aw:=F.l;have bd:=F.r;have O:=n.trans ((y.trans P).mono D E);have al:=O.len;have aj:=aa.perm CM O.perm;have Z:=R.pin P;have ae:=ad.pin P;clear y ak ai R ad P key;have W:(((b1-d:Nat):Int)).tdiv 8=(((b1-d) / 8:Nat):Int):=by
                  rw[AB5 (by omega)];omega
                 refine rL c ?_ ?_
                 ·trivial
                 ·repeat'(first|exact trivial|refine eS rfl ?_|refine AB ?_|refine rX c ?_ ?_)
                  ·exact CW
                  ·rw[W];exact⟨by decide,by omega,by omega⟩
                  ·rw[W];refine rC (λk=>?_) (λk=>?_)
                   ·have key:=V I (by omega) aj d q C (by omega) aw (by omega) G (Z.sub (by omega));unfold eC at key;rw[al]at key;repeat'(first|exact trivial|refine eS rfl ?_|refine AB ?_|refine rX c ?_ ?_)
                    refine cP 5 c ?_ ?_
                    ·trivial
                    ·refine rM c (key) [(1000000,.nm 1000000)] [] ?_ ?_ ?_
                     ·first|exact eN|refine eM ?_
                     ·first|exact eN|refine eM ?_
                     ·rintro _ _ ⟨rfl,r,rfl,e,g⟩;refine⟨[(1000000,.nm 1000000)],.raw (.tuple #[]),[(1000000,.arr 53 BE r)],rfl,rfl,?_,?_,rfl,rfl,CQ ?_⟩
                      ·first|exact eN|refine eM ?_
                      ·first|exact eN|refine eM ?_
                      ·have M:=F.pinL e;have B:EH (0,0) d b1 I r:=e.mono (NO _) (by omega);repeat'(first|exact trivial|refine eS rfl ?_|refine AB ?_|refine rX c ?_ ?_)
                       ·exact CW
                       ·refine⟨⟨((q+1,b1,C),(decide ((((b1-d) / 8:Nat):Int)<=(q:Int)-(d:Int)),w),r),(ae.pin B).left CM M g,O.trans (B.mono D E),M.bf,G⟩,by simp only;omega,AC [(1000000,.nm 1000000)] rfl rfl ?_ ?_⟩
                        ·first|exact eN|refine eM ?_
                        ·first|exact eN|refine eM ?_
                   ·have key:=V I (by omega) aj (q+1) b1 C (by omega) (by omega) (by omega) G F.bf;unfold eC at key;rw[al,show ((q+1:Nat):Int)=(q:Int)+1 by omega]at key;repeat'(first|exact trivial|refine eS rfl ?_|refine AB ?_|refine rX c ?_ ?_)
                    refine cP 6 c ?_ ?_
                    ·exact CW
                    ·refine rM c (key) [(1000000,.nm 1000000)] [] ?_ ?_ ?_
                     ·first|exact eN|refine eM ?_
                     ·first|exact eN|refine eM ?_
                     ·rintro _ _ ⟨rfl,r,rfl,e,g⟩;refine⟨[(1000000,.nm 1000000)],.raw (.tuple #[]),[(1000000,.arr 53 BE r)],rfl,rfl,?_,?_,rfl,rfl,CQ ?_⟩
                      ·first|exact eN|refine eM ?_
                      ·first|exact eN|refine eM ?_
                      ·have M:=F.pinR e;have B:EH (0,0) d b1 I r:=e.mono (by omega) (NO _);repeat'(first|exact trivial|refine eS rfl ?_|refine AB ?_|refine rX c ?_ ?_)
                       refine⟨⟨((d,q,C),(decide ((((b1-d) / 8:Nat):Int)<=(b1:Int)-(q:Int)),w),r),(ae.pin B).right CM M g,O.trans (B.mono D E),(Z.pin B).sub (b':=q) (by omega),G⟩,by simp only;omega,AC [(1000000,.nm 1000000)] rfl rfl ?_ ?_⟩
                       ·first|exact eN|refine eM ?_
                       ·first|exact eN|refine eM ?_
theorem A5v (l:List (Int×Int)) (i:l.length<256) (e:gV CF (0,0) l) (a b c:Nat) (f:a<=b) (g:b<=l.length) (j:c<=1000) (d:Bf CF (0,0) a b l):eC l a b c:=by
 have key:∀(n:Nat) (l:List (Int×Int)),l.length<256->gV CF (0,0) l->∀a b c:Nat,b-a<n->a<=b->b<=l.length->c<=1000->Bf CF (0,0) a b l->eC l a b c:=by
  intro n;induction n with
  | zero=>intro l _ _ a b c h;omega
  | succ n s =>
   intro l i e a b c hn f g j d;exact wX l i e a b c f g j d λl' h1 m k b' t u o p q r=>s l' h1 m k b' t (by omega) o p q r
 exact key (b-a+1) l i e a b c (by omega) f g j d
end
def NdA (l:List (Int×Int)):Prop:=l.Pairwise λa b=>a.1≠b.1
def LtA (l:List (Int×Int)):Prop:=l.Pairwise λa b=>a.1<b.1
theorem YH (x:Int×Int) (s:List (Int×Int)):∀n,(∀j,Ib x s n<=j->j<n->x.1<(s.getD j (0,0)).1)/\(Ib x s n=0\/¬x.1<(s.getD (Ib x s n-1) (0,0)).1)
 | 0=>⟨λj h1 a=>by omega,.inl rfl⟩
 | n+1=>by
  obtain⟨h1,a⟩:=YH x s n;unfold Ib;split
  ·rename_i h;refine⟨λj b c=>?_,a⟩;by_cases e:j=n
   ·rw[e];exact h
   ·exact h1 j b (by omega)
  ·rename_i h;exact⟨λj b c=>by omega,.inr (by simpa using h)⟩
theorem A5w {s:List (Int×Int)} (hs:LtA s) {x:Int×Int} (l:∀a∈s,a.1≠x.1):LtA (Oe s x):=by
 obtain⟨h1,c⟩:=YH x s s.length;have m:=TV x s s.length;unfold Oe;generalize Ib x s s.length=p at *;have hp:=hs;unfold LtA at hp;rw[<-AC1 p s,ABR]at hp;have g:∀i (h:i<s.length),s.getD i (0,0)=s[i]:=λi h=>by rw[AS,AT h];rfl
 have k:∀a∈s.take p,a.1<x.1:=by
  intro a ha;rcases c with c|c
  ·subst c;simp at ha
  ·obtain⟨i,hi,rfl⟩:=AAr.1 ha;rw[ON]at hi;rw[List.getElem_take];by_cases o:p=0
   ·omega
   have f:p-1<s.length:=by omega
   rw[g (p-1) f]at c;have n:=l s[p-1] (AAR f);by_cases e:i=p-1
   ·subst e;omega
   ·have:=(tO.1 hs) i (p-1) (by omega) f (by omega);omega
 have j:∀a∈s.drop p,x.1<a.1:=by
  intro a ha;obtain⟨i,hi,rfl⟩:=AAr.1 ha;rw[AAQ]at hi;rw[List.getElem_drop,<-g (p+i) (by omega)];exact h1 (p+i) (by omega) (by omega)
 unfold LtA;rw[oF,ABR];refine⟨hp.1,?_,λa ha b d=>?_⟩
 ·rw[List.singleton_append,AAX];exact⟨j,hp.2.1⟩
 ·rcases By.1 (by simpa using d:b∈x :: s.drop p) with rfl|d
  ·exact k a ha
  ·exact hp.2.2 a ha b d
theorem Oh {l:List (Int×Int)} (h:NdA l):LtA (AU l):=by
 induction l using Gt with
 | h0=>exact List.Pairwise.nil
 | h1 l a d =>
  unfold NdA at h;rw[ABR]at h;rw[Hh];exact A5w (d h.1) λb c=>h.2.2 b ((B6 l).mem_iff.1 c) a (by simp)
theorem wY {l r:List (Int×Int)} (hp:r.Perm l) (h1:LtA r) (c:LtA l):r=l :=
 List.Perm.eq_of_pairwise (le:=λa b:Int×Int=>a.1<b.1) (λa b _ _ d e=>by omega) h1 c hp
theorem s5 {l:List (Int×Int)} (h:LtA l):kQ l:=by
 intro i hi;have a:∀i (h:i<l.length),l.getD i (0,0)=l[i]:=λi h=>by rw[AS,AT h];rfl
 rw[a i (by omega),a (i+1) hi];exact(tO.1 h) i (i+1) (by omega) hi (by omega)
theorem A79 {l:List (Int×Int)} (h:NdA l):gV CF (0,0) l:=by
 rw[sX CM];refine h.imp λ{a b} g e=>g ?_;unfold CF Fu at e;split at e
 ·omega
 ·split at e<;>omega
theorem kV {l r:List (Int×Int)} (h:NdA l) (hp:r.Perm l) (hs:Rd CF (0,0) 0 l.length r):r=AU l:=by
 refine wY (hp.trans (B6 l).symm) (tO.2 λi j hi b c=>?_) (Oh h);have a:∀i (h:i<r.length),r.getD i (0,0)=r[i]:=λi h=>by rw[AS,AT h];rfl
 have:=hs i j (Is _) c (by rw[<-hp.length_eq];exact b);rw[a i hi,a j b]at this;unfold CF Fu at this;split at this
 ·assumption
 ·split at this<;>omega
theorem Mg {l:List (Int×Int)} (h:NdA l):AU (AU l)=AU l:=JT (s5 (Oh h))
def NdF (f:List AE):Prop:=∀x∈f,NdA x.2/\x.2.length<=200
def ER (f:List AE):List AE:=f.map λx=>(x.1,AU x.2)
theorem GB (f:List AE):(ER f).length=f.length:=On _
theorem QP (f:List AE) (n:Nat):(ER f).getD n (0,[])=((f.getD n (0,[])).1,AU (f.getD n (0,[])).2):=by
 unfold ER;simp only[AS,AA1];cases f[n]?<;>rfl
theorem Re {f:List AE} (h:Ad f):Ad (ER f):=by
 refine⟨by rw[GB];exact h.1,λx d=>?_⟩;obtain⟨y,e,rfl⟩:=Do.1 d;obtain⟨b,c⟩:=h.2 y e;refine⟨by simp only[Cp];exact b,λa ha=>?_⟩;rw[GB];exact c a ((B6 _).mem_iff.1 ha)
theorem A1v {f:List AE} (h:NdF f):Og (ER f):=by
 intro x c;obtain⟨y,d,rfl⟩:=Do.1 c;obtain⟨a,b⟩:=h y d;exact⟨s5 (Oh a),by simp only[Cp];exact b⟩
theorem s6 {f:List AE} (hf:NdF f) (n:Int):NdA (f.getD n.toNat (0,[])).2/\(f.getD n.toNat (0,[])).2.length<=200:=by
 by_cases h:n.toNat<f.length
 ·have a:f.getD n.toNat (0,[])∈f:=by
   rw[AS,AT h];exact AAR h
  exact hf _ a
 ·rw[AS,iF (by omega)];exact⟨List.Pairwise.nil,by simp⟩
theorem Sg {f:List AE} (h:NdF f):∀(k:Nat) (s:List Int×List Int) (n:Int),Dg (ER f) k s n=Dg f k s n
 | 0,_,_=>rfl
 | k+1,s,n=>by
  rw[Dw,Dw,QP];simp only;rw[Mg (s6 h n).1];refine ABr (λg=>List.foldl g _ _) ?_;funext s a;unfold EO;rw[Sg h k s a.2]
theorem wZ {f:List AE} (h:NdF f) (r:Int):Fl (ER f) r=Fl f r:=by
 have a:F9 (ER f) r=F9 f r:=by
  unfold F9;rw[GB,Sg h]
 unfold Fl;rw[a];refine oS λn _=>?_;unfold Lk;rw[QP];simp only;rw[Mg (s6 h n).1]
theorem eD {f:List AE} (hf:Ad f) (hn:NdF f) {root:Int} (h0:0<=root) (h1:root<f.length):Fl f root=AP (ER f) root:=by
 rw[<-wZ hn];exact Ig (Re hf) (A1v hn) h0 (by rw[GB];exact h1)
theorem A1w {L:Go.Loop} (h1:L.state=.ready) (a:L.pending=none):{ { L with state:=.busy } with state:=.ready,pending:=none }=L:=by
 cases L;simp_all
theorem YI (l:List (Int×Int)):BA Tryz.prog 115 [.p Ce l] [] [] (λres b=>res=.clo 149 [1]/\b=[(1,.box 47 false [.p Ce l])]):=by
 refine Jh [0,1,2] [] [] Tryz.func115 Tryz.ntmps115 AH ?_;intro w0 K O0 ρ0 a c d;simp only[Aj];repeat'(first|exact trivial|refine eS rfl ?_|refine rX a ?_ ?_)
 exact fM a [.tmp 2] (.clo 149 [1]) eT ⟨rfl,rfl⟩
def CR (l:List (Int×Int)) (L:Go.Loop) (a:Array Value) (i:Nat):List (Nat×Obj):=[(1,.box 47 false [.p Ce l]),(101,.loop L),(102,.frame a [(2,.bp 2 [] 0),(6,.clo 149 [1])]),(2,.box 47 false [.sr 7 BE 0 i]),(7,.arr 53 BE (l.take i))]
theorem kW (l:List (Int×Int)) (g:l.length<=100000) (L:Go.Loop) (b:Array Value) (f:∀i,i<l.length->cC Tryz.prog 101 [.p BE (l.getD i (0,0))] (CR l L b i) [1,101,102,2] (λres e=>res=.p .bool true/\e=CR l L b (i+1))) :
  BA Tryz.prog 149 [.yl 101,.bp 1 [] 0] (CR l L b 0) [1,101,102,2] (λres e=>res=.raw (.tuple #[])/\e=CR l L b l.length):=by
 refine Jh [0,1,4,5,6,7,8,14] [] [] Tryz.func149 Tryz.ntmps149 AH ?_;intro w0 K O0 ρ0 a h j;simp only[Aj,CR];repeat'(first|exact trivial|refine eS rfl ?_|refine rX a ?_ ?_)
 refine AG (ι:={i:Nat//i<=l.length}) (λi=>⟨[(0,.yl 101),(1,.bp 1 [] 0),(5,.p Ce l),(6,.p (.int .i64) (l.length:Int)),(7,.p (.int .i64) (i.1:Int))],CR l L b i.1⟩) (λi=>l.length-i.1) ⟨0,by omega⟩ (AC [(1,.nm 1),(101,.nm 101),(102,.nm 102),(2,.nm 2),(7,.nm 7)] rfl rfl ?_ ?_) (λi=>?_)
 ·simp only[CR];exact eN
 ·exact eN
 ·obtain⟨i,hi⟩:=i;simp only[CR];repeat'(first|exact trivial|refine eS rfl ?_|refine rX a ?_ ?_|refine rC ?_ ?_<;>intro c<;>try(cases c;done))
  ·exact eV
  ·have d:i<l.length:=by exact eV
   refine cP 2 a ?_ ?_
   ·trivial
   ·refine rY 101 101 a (f i d) [(1,.nm 1),(101,.nm 101),(102,.nm 102),(2,.nm 2),(7,.nm 7)] [7] ?_ ?_ ?_
    ·exact eN
    ·simp only[CR];exact eN
    ·rintro _ _ ⟨rfl,rfl⟩;refine⟨[(1,.nm 1),(101,.nm 101),(102,.nm 102),(2,.nm 2),(7,.nm 7)],.p .bool true,CR l L b (i+1),rfl,rfl,?_,?_,rfl,rfl,?_⟩
     ·simp only[CR];exact eN
     ·exact eN
     ·simp only[CR];refine IC [0,1,5,6,7,14] a (by simp only[go_sem,Nat.reduceEqDiff,reduceCtorEq,Nat.reduceAdd,Nat.reduceSub,Nat.reduceMul,Nat.reduceLeDiff,Nat.reduceLT,Int.reduceLE,Int.reduceToNat,Int.reduceNeg,↓reduceIte];rfl) ?_ ?_
      ·trivial
      ·repeat'(first|refine eS rfl ?_|refine AB ?_|refine rX a ?_ ?_|refine rC ?_ ?_<;>intro c<;>try(cases c;done))
       ·exact eV
       ·refine⟨⟨i+1,by omega⟩,by simp only;omega,AC [(1,.nm 1),(101,.nm 101),(102,.nm 102),(2,.nm 2),(7,.nm 7)] rfl rfl ?_ ?_⟩
        ·simp only[CR];exact eN
        ·exact eN
  ·have d:i=l.length:=by exact eV
   subst d;refine fM a [] (.raw (.tuple #[])) rfl ⟨rfl,?_⟩;simp only[CR,iN]
theorem Zu (l:List (Int×Int)) (n:l.length<=100000):BA Tryz.prog 162 [.raw (.slice none 0 0),.clo 149 [1]] [(1,.box 47 false [.p Ce l])] [] (λres q=>res=.sr 7 BE 0 l.length/\q=[(7,.arr 53 BE l)]):=by
 refine fKR [0,1,2,4,5,6,7] [] [] Tryz.func162 Tryz.ntmps162 AH ?_;intro w0 K O0 ρ0 a t u;simp only[Aj];repeat'(first|exact trivial|refine eS rfl ?_|refine rX a ?_ ?_)
 refine A0j a rfl rfl (by simp only[go_sem,Nat.reduceEqDiff,reduceCtorEq,Nat.reduceAdd,Nat.reduceSub,Nat.reduceMul,Nat.reduceLeDiff,Nat.reduceLT,Int.reduceLE,Int.reduceToNat,Int.reduceNeg,↓reduceIte];rfl) 101 103 102 rfl rfl rfl rfl ?_;intro L c d f g h j k o;refine⟨_,CR l L c 0,[1,101,102,2],_,[(1,.nm 1),(101,.nm 101),(102,.nm 102),(2,.nm 2),(7,.nil)],[],kW l n L c ?_,rfl,rfl,?_,?_,rfl,?_⟩
 ·intro i hi;refine A0i (fr:=102) rfl rfl d h j k g o rfl (by kernel_rfl) (by simp) rfl rfl (by kernel_rfl) (by kernel_rfl) (tyTab_ok [] [0,1,2,4,5,6,7]) AH ?_;intro y r s z x a v w m;simp only[CR,IJ];repeat'(first|exact trivial|refine AB ?_|refine rX a ?_ ?_)
  refine⟨rfl,?_⟩;repeat'(first|refine eS rfl ?_|refine rX a ?_ ?_)
  ·simp only[AO];omega
  ·have e:List.take i (List.take i l)++[((l.getD i (0,0)).1,(l.getD i (0,0)).2)]=l.take (i+1):=by
    rw[AW l (0,0) hi,An (ACI (by rw[ON];omega):(l.take i).length<=i)]
   refine Ev.ent (σ':=⟨[],[(1,.box 47 false [.p Ce l]),(101,.loop { L with state:=.busy }),(102,.frame c [(2,.bp 2 [] 0),(6,.clo 149 [1])]),(2,.box 47 false [.sr 7 BE 0 (i+1)]),(7,.arr 53 BE (l.take (i+1)))]⟩) ?_ (AC [(1,.nm 1),(101,.nm 101),(102,.nm 102),(2,.nm 2),(7,.nm 7)] rfl rfl ?_ ?_)
   ·refine vL a (yn:=101) rfl rfl (by simp) m ⟨rfl,?_⟩;simp only[CR,go_sem,Nat.reduceEqDiff,reduceCtorEq,Nat.reduceAdd,Nat.reduceSub,Nat.reduceMul,Nat.reduceLeDiff,Nat.reduceLT,Int.reduceLE,Int.reduceToNat,Int.reduceNeg,↓reduceIte,A1w d f]
   ·refine eM ?_;exact e
   ·exact eN
 ·simp only[Bw];exact eN
 ·simp only[Bw,CR];exact eN
 ·rintro _ _ ⟨rfl,rfl⟩;refine⟨[(1,.nm 1),(101,.nm 101),(102,.nm 102),(2,.nm 2),(7,.nm 7)],CR l L c l.length,L,rfl,rfl,?_,rfl,rfl,rfl,by rw[d];rfl,?_⟩
  ·simp only[CR];exact eN
  ·intro b;rw[f];simp only[EvJ,CR,Bw,go_sem,Nat.reduceEqDiff,reduceCtorEq,Nat.reduceAdd,Nat.reduceSub,Nat.reduceMul,Nat.reduceLeDiff,Nat.reduceLT,Int.reduceLE,Int.reduceToNat,Int.reduceNeg,↓reduceIte];replace a:=vM (dn:=103) (b:=b) a;repeat'(first|exact trivial|refine eS rfl ?_|refine rX a ?_ ?_)
   refine Ev.ent (σ':=⟨[(4,.sr 7 BE 0 l.length)],[(7,.arr 53 BE l),(103,.dfr)]⟩) ?_ (AC [(7,.nm 7),(103,.nm 103)] rfl rfl ?_ ?_)
   ·exact A0m a [.tmp 4] rfl (.inl rfl) rfl rfl (.sr 7 BE 0 l.length) eT ⟨rfl,by simp only[go_sem,Nat.reduceEqDiff,reduceCtorEq,Nat.reduceAdd,Nat.reduceSub,Nat.reduceMul,Nat.reduceLeDiff,Nat.reduceLT,Int.reduceLE,Int.reduceToNat,Int.reduceNeg,↓reduceIte]⟩
   ·exact eN
   ·exact eN
theorem kX (l:List (Int×Int)) (b:l.length<=100000):BA Tryz.prog 147 [.clo 149 [1]] [(1,.box 47 false [.p Ce l])] [] (λres c=>res=.sr 7 BE 0 l.length/\c=[(7,.arr 53 BE l)]):=by
 refine Jh [0,2] [] [] Tryz.func147 Tryz.ntmps147 AH ?_;intro w0 K O0 ρ0 a d e;simp only[Aj];repeat'(first|exact trivial|refine eS rfl ?_|refine rX a ?_ ?_)
 refine cP 1 a ?_ ?_
 ·trivial
 ·refine rM a (Zu l b) [(1,.nm 1)] [1] ?_ ?_ ?_
  ·exact eN
  ·exact eN
  ·rintro _ _ ⟨rfl,rfl⟩;refine⟨[(7,.nm 7)],.sr 7 BE 0 l.length,[(7,.arr 53 BE l)],rfl,rfl,?_,?_,rfl,rfl,?_⟩
   ·exact eN
   ·exact eN
   ·refine IC [2] a (by simp only[go_sem,Nat.reduceEqDiff,reduceCtorEq,Nat.reduceAdd,Nat.reduceSub,Nat.reduceMul,Nat.reduceLeDiff,Nat.reduceLT,Int.reduceLE,Int.reduceToNat,Int.reduceNeg,↓reduceIte];rfl) ?_ ?_
    ·trivial
    ·repeat' refine eS rfl ?_
     exact fM a [.tmp 2] (.sr 7 BE 0 l.length) eT ⟨rfl,rfl⟩
theorem eE (l:List (Int×Int)) (h:l.length<=200) (hs:NdA l):BA Tryz.prog 148 [.sr 1000000 BE 0 l.length,.fn 116] [(1000000,.arr 53 BE l)] [1000000] (λres f=>res=.raw (.tuple #[])/\f=[(1000000,.arr 53 BE (AU l))]):=by
 have d:=A79 hs;refine Jh [0,1,4] [] [] Tryz.func148 Tryz.ntmps148 AH ?_;intro w0 K O0 ρ0 a i j;simp only[Aj];repeat'(first|exact trivial|refine eS rfl ?_|refine rX a ?_ ?_)
 refine cP 4 a ?_ ?_
 ·exact eV
 ·refine rM a (sZ (l.length:Int) (by omega) (by omega)) [] [] ?_ ?_ ?_
  ·exact eN
  ·exact eN
  ·rintro _ _ ⟨⟨n,rfl,g,-⟩,rfl⟩;refine⟨[],.p T3 (n:Int),[],rfl,rfl,?_,?_,rfl,rfl,?_⟩
   ·exact eN
   ·exact eN
   ·have key:=A5v l (by omega) d 0 l.length n (Is _) (NO _) (by omega) (.inl rfl);unfold eC at key;rw[show ((0:Nat):Int)=0 from rfl]at key;refine TL a 1 (by simp only[go_sem,Nat.reduceEqDiff,reduceCtorEq,Nat.reduceAdd,Nat.reduceSub,Nat.reduceMul,Nat.reduceLeDiff,Nat.reduceLT,Int.reduceLE,Int.reduceToNat,Int.reduceNeg,↓reduceIte];rfl) ?_ ?_
    ·trivial
    ·refine rM a (key) [(1000000,.nm 1000000)] [] ?_ ?_ ?_
     ·exact eN
     ·exact eN
     ·rintro _ _ ⟨rfl,r,rfl,hp,e⟩;have c:=kV hs hp.perm e;subst c;have k:=Cp l;refine⟨[(1000000,.nm 1000000)],.raw (.tuple #[]),[(1000000,.arr 53 BE (AU l))],rfl,rfl,?_,?_,rfl,rfl,CQ ?_⟩
      ·exact eN
      ·exact eN
      ·repeat'(first|exact trivial|refine eS rfl ?_|refine AB ?_|refine rX a ?_ ?_|refine rC ?_ ?_<;>intro b<;>try(cases b;done))
       exact fM a [] (.raw (.tuple #[])) rfl ⟨rfl,rfl⟩
theorem Nt (l:List (Int×Int)) (b:l.length<=200) (hs:NdA l):BA Tryz.prog 114 [.clo 149 [1],.fn 116] [(1,.box 47 false [.p Ce l])] [] (λres c=>res=.sr 7 BE 0 l.length/\c=[(7,.arr 53 BE (AU l))]):=by
 have f:=Cp l;refine Jh [0,1,4,5] [] [] Tryz.func114 Tryz.ntmps114 AH ?_;intro w0 K O0 ρ0 a d e;simp only[Aj];repeat'(first|exact trivial|refine eS rfl ?_|refine rX a ?_ ?_)
 refine cP 1 a ?_ ?_
 ·trivial
 ·refine rM a (kX l (by omega)) [(1,.nm 1)] [1] ?_ ?_ ?_
  ·exact eN
  ·exact eN
  ·rintro _ _ ⟨rfl,rfl⟩;refine⟨[(1000000,.nm 7)],.sr 1000000 BE 0 l.length,[(1000000,.arr 53 BE l)],rfl,rfl,?_,?_,rfl,rfl,?_⟩
   ·exact eN
   ·exact eN
   ·refine IC [1,5] a (by simp only[go_sem,Nat.reduceEqDiff,reduceCtorEq,Nat.reduceAdd,Nat.reduceSub,Nat.reduceMul,Nat.reduceLeDiff,Nat.reduceLT,Int.reduceLE,Int.reduceToNat,Int.reduceNeg,↓reduceIte];rfl) ?_ ?_
    ·trivial
    ·repeat' refine eS rfl ?_
     refine cP 2 a ?_ ?_
     ·trivial
     ·refine rM a (eE l b hs) [(1000000,.nm 1000000)] [] ?_ ?_ ?_
      ·exact eN
      ·exact eN
      ·rintro _ _ ⟨rfl,rfl⟩;refine⟨[(1000000,.nm 1000000)],.raw (.tuple #[]),[(1000000,.arr 53 BE (AU l))],rfl,rfl,?_,?_,rfl,rfl,CQ ?_⟩
       ·exact eN
       ·exact eN
       ·repeat'(first|exact trivial|refine eS rfl ?_|refine rX a ?_ ?_)
        refine Ev.ent (σ':=⟨[(4,.sr 7 BE 0 l.length)],[(7,.arr 53 BE (AU l))]⟩) ?_ (AC [(7,.nm 1000000)] rfl rfl ?_ ?_)
        ·exact fM a [.tmp 4] (.sr 7 BE 0 l.length) eT ⟨rfl,rfl⟩
        ·exact eN
        ·exact eN
def Ln (f:List AE) (o:List Int):List (Nat×Obj):=[(1,.box 60 false [.sr 5 T3 0 o.length]),(2,.box 160 false [.mp 6]),(3,.box 25 true [.p Dv f]),(4,.box 124 false [.clo 113 [1,2,3,4]]),(5,.arr 3 T3 o),(6,.mapo T3 T3 (yW o))]
theorem AA0 {f:List AE} {o:List Int} (h:LN f o):LN (ER f) o:=⟨h.nd,λx a=>by rw[GB];exact h.rng x a⟩
theorem A6q {f:List AE} {o:List Int} (h:LN (ER f) o):LN f o:=⟨h.nd,λx a=>by have:=h.rng x a;rwa [GB]at this⟩
theorem w3 (f:List AE) (hf:Ad f) (hs:NdF f):∀(k:Nat) (o:List Int) (n:Int),LN f o->0<=n->n<f.length->n∉o->f.length-o.length<=k ->
  BA Tryz.prog 113 [.p T3 n,.bp 1 [] 0,.bp 2 [] 0,.bp 3 [] 0,.bp 4 [] 0] (Ln f o) [1,2,3,4,6] (λres Q=>res=.raw (.tuple #[])/\Q=Ln f (Dq (ER f) k o n)):=by
 intro k;induction k with
 | zero =>
  intro o n h0 h1 A B R;have:=(h0.snoc h1 A B).len;simp only[GO,aS]at this;omega
 | succ k P =>
  intro o n D u v w hk;have t:=D.snoc u v w;have I:=t.len;simp only[GO,aS]at I;have S:=hf.1;refine Jh [0,1,2,3,4,7,9,25,26,27,28,39] [] [] Tryz.func113 Tryz.ntmps113 AH ?_;intro w0 K O0 ρ0 b T U;simp only[Ln,Aj];repeat'(first|exact trivial|refine eS rfl ?_|refine rX b ?_ ?_)
  ·simp only[AO];omega
  ·rw[A1o w];obtain⟨O,G⟩:=s6 hs n;have s:=λa (ha:a∈AU (f.getD n.toNat (0,[])).2)=>Bv hf ((B6 _).mem_iff.1 ha);have F:Dq (ER f) (k+1) o n=(AU (f.getD n.toNat (0,[])).2).foldl (AZ (ER f) k) (o++[n]):=by rw[CH,QP]
   have E:=AA0 (f:=f) t;refine cP 6 b ?_ ?_
   ·exact⟨u,v⟩
   ·generalize (f.getD n.toNat (0,[])).2=g at *;refine rM b (YI g) [] [] ?_ ?_ ?_
    ·exact eN
    ·exact eN
    ·rintro _ _ ⟨rfl,rfl⟩;refine⟨[(50,.nm 1)],.clo 149 [50],[(50,.box 47 false [.p Ce g])],rfl,rfl,?_,?_,rfl,rfl,?_⟩
     ·exact eN
     ·exact eN
     ·refine rM b (Nt g G O) [(1,.nm 50)] [50] ?_ ?_ ?_
      ·exact eN
      ·exact eN
      ·rintro _ _ ⟨rfl,rfl⟩;have C:=Cp g;rw[<-C];generalize AU g=L at *;refine⟨[(51,.nm 7)],.sr 51 BE 0 L.length,[(51,.arr 53 BE L)],rfl,rfl,?_,?_,rfl,rfl,?_⟩
       ·exact eN
       ·exact eN
       ·refine IC [0,1,2,3,4,25,26,27] b (by simp only[go_sem,Nat.reduceEqDiff,reduceCtorEq,Nat.reduceAdd,Nat.reduceSub,Nat.reduceMul,Nat.reduceLeDiff,Nat.reduceLT,Int.reduceLE,Int.reduceToNat,Int.reduceNeg,↓reduceIte];rfl) ?_ ?_
        ·trivial
        ·have N:∀i,LN (ER f) ((L.take i).foldl (AZ (ER f) k) (o++[n]))/\o++[n] <+: (L.take i).foldl (AZ (ER f) k) (o++[n]):=λi=>Ex (EE (Re hf) k) _ _ (λa ha=>by rw[GB];exact s a (AAT ha)) E;generalize J:o++[n]=q at *;have M:q.length=o.length+1:=by rw[<-J];simp
         rw[<-M];repeat' refine eS rfl ?_
         refine AG (ι:={i:Nat//i<=L.length}) (λi=>⟨[(0,.p T3 n),(1,.bp 1 [] 0),(2,.bp 2 [] 0),(3,.bp 3 [] 0),(4,.bp 4 [] 0),(25,.p Ce L),(26,.p (.int .i64) (L.length:Int)),(27,.p (.int .i64) (i.1:Int))],Ln f ((L.take i.1).foldl (AZ (ER f) k) q)⟩) (λi=>L.length-i.1) ⟨0,by omega⟩ (A8c [51] (AC [(1,.nm 1),(2,.nm 2),(3,.nm 3),(4,.nm 4),(5,.nm 5),(6,.nm 6)] rfl rfl ?_ ?_)) (λi=>?_)
         ·simp only[Ln,ABo,AD4];exact eN
         ·exact eN
         ·obtain⟨i,hi⟩:=i;obtain⟨j,y⟩:=N i;replace j:=A6q j;have r:=λ(h:i<L.length)=>NF (AZ (ER f) k) L (0,0) q h;have H:=y.length_le;generalize x:(L.take i).foldl (AZ (ER f) k) q=c at j y r H;simp only[Ln];repeat'(first|exact trivial|refine eS rfl ?_|refine AB ?_|refine rX b ?_ ?_|refine rC ?_ ?_<;>intro d<;>try(cases d;done))
          ·exact eV
          ·have l:i<L.length:=by exact eV
           have z:=s _ (AD L (0,0) l);have m:(L.getD i (0,0)).2∉c:=by rw[Vh]at d;simpa using d
           refine cP 3 b ?_ ?_
           ·trivial
           ·refine rM b (P c (L.getD i (0,0)).2 j z.1 z.2 m (by omega)) [(1,.nm 1),(2,.nm 2),(3,.nm 3),(4,.nm 4),(5,.nm 5),(6,.nm 6)] [5] ?_ ?_ ?_
            ·exact eN
            ·simp only[Ln];exact eN
            ·rintro _ _ ⟨rfl,rfl⟩;refine⟨[(1,.nm 1),(2,.nm 2),(3,.nm 3),(4,.nm 4),(5,.nm 5),(6,.nm 6)],.raw (.tuple #[]),Ln f (Dq (ER f) k c (L.getD i (0,0)).2),rfl,rfl,?_,?_,rfl,rfl,CQ ?_⟩
             ·simp only[Ln];exact eN
             ·exact eN
             ·simp only[Ln];repeat'(first|refine eS rfl ?_|refine AB ?_|refine rX b ?_ ?_)
              ·exact eV
              ·have e:AZ (ER f) k c (L.getD i (0,0))=Dq (ER f) k c (L.getD i (0,0)).2:=At m;refine⟨⟨i+1,by omega⟩,by simp only;omega,AC [(1,.nm 1),(2,.nm 2),(3,.nm 3),(4,.nm 4),(5,.nm 5),(6,.nm 6)] rfl rfl ?_ ?_⟩
               ·simp only[r l,e];exact eN
               ·exact eN
          ·exact eV
          ·have l:i<L.length:=by exact eV
           have m:(L.getD i (0,0)).2∈c:=by rw[Vh]at d;simpa using d
           have e:AZ (ER f) k c (L.getD i (0,0))=c:=BY m;refine⟨⟨i+1,by omega⟩,by simp only;omega,AC [(1,.nm 1),(2,.nm 2),(3,.nm 3),(4,.nm 4),(5,.nm 5),(6,.nm 6)] rfl rfl ?_ ?_⟩
           ·simp only[r l,e];exact eN
           ·exact eN
          ·have hk:L.take i=L:=An (by exact eV);rw[hk]at x;rw[F,x];exact fM b [] (.raw (.tuple #[])) rfl ⟨rfl,rfl⟩
section
theorem w4 {α a:Type} (g:α->a) (o:List α) (d:α) (z:a) {i:Nat} (h:i<o.length):((o.take i).map g++List.replicate (o.length-i) z).set i (g (o.getD i d))=(o.take (i+1)).map g++List.replicate (o.length-(i+1)) z:=by
 obtain⟨m,c⟩:∃m,o.length-i=m+1:=⟨o.length-i-1,by omega⟩;have e:o.length-(i+1)=m:=by omega
 have b:((o.take i).map g).length=i:=by rw[On,ON];omega
 rw[c,e,ABg _ _ (by omega),b,AB7,ACp,ABF,AW o d h,AAs];simp
def Ta:Ae:={ ins:=[D8,T3],pre:=λ(f,n,_)=>Ad f/\NdF f/\0<=n/\n<(List.length f:Int),out:=λ(f,n,_)=>[.p D8 (AP (ER f) n)] }
attribute [local go_sem] Ta
theorem w5:Af Tryz.prog 77 Ta:=by
 refine fK [0,1,2,4,5,6,7,8,9,10,11,12,22,23,24,25,38,39,40] Tryz.func77 Tryz.ntmps77 AH ?_;rintro w0 O0 ⟨f,root,u⟩ a-⟨hf,hs,r,s⟩;simp only[Ta,AM];have z:=hf.1;have j:LN f []:=⟨by simp,λx C=>by cases C⟩;obtain⟨g,H⟩:=EE (Re hf) f.length [] root (AA0 j) r (by rw[GB];exact s) (by simp);replace g:=A6q g;have w:AP (ER f) root=(Dq (ER f) f.length [] root).map (Ee (ER f) (Dq (ER f) f.length [] root)):=by unfold AP;rw[GB]
 rw[w];repeat'(first|exact trivial|refine eS rfl ?_|refine AB ?_|refine rX a ?_ ?_|refine rC ?_ ?_<;>intro c<;>try(cases c;done))
 refine cP 2 a ?_ ?_
 ·trivial
 ·refine rM a (w3 f hf hs (List.length f) [] root j r s (by simp) (by simp)) [(1,.nm 6),(2,.nm 5),(3,.nm 2),(4,.nm 7),(5,.nil),(6,.nm 13)] [] ?_ ?_ ?_
  ·exact eN
  ·simp only[Ln];refine eM ?_;rfl
  ·rintro _ _ ⟨rfl,rfl⟩;refine⟨[(6,.nm 1),(5,.nm 2),(2,.nm 3),(7,.nm 4),(101,.nm 5),(13,.nm 6)],.raw (.tuple #[]),[(6,.box 60 false [.sr 101 T3 0 (Dq (ER f) (List.length f) [] root).length]),(5,.box 160 false [.mp 13]),(2,.box 25 true [.p Dv f]),(7,.box 124 false [.clo 113 [6,5,2,7]]),(101,.arr 3 T3 (Dq (ER f) (List.length f) [] root)),(13,.mapo T3 T3 (yW (Dq (ER f) (List.length f) [] root)))],rfl,rfl,?_,?_,rfl,rfl,CQ ?_⟩
   ·simp only[Ln];exact eN
   ·exact eN
   ·generalize Dq (ER f) (List.length f) [] root=o at *;have G:=g.len;repeat'(first|exact trivial|refine eS rfl ?_|refine AB ?_|refine rX a ?_ ?_|refine rC ?_ ?_<;>intro c<;>try(cases c;done))
    ·simp only[AO];omega
    ·refine AG (ι:={i:Nat//i<=o.length}) (λi=>⟨[(2,.bp 2 [] 0),(4,.bp 4 [] 0),(5,.bp 5 [] 0),(8,.bp 8 [] 0),(22,.sr 101 T3 0 o.length),(23,.p (.int .i64) (o.length:Int)),(24,.p (.int .i64) (i.1:Int))],[(8,.box 25 true [.sr 20 GH 0 o.length]),(20,.arr 49 GH ((o.take i.1).map (Ee (ER f) o)++List.replicate (o.length-i.1) (0,[]))),(5,.box 160 false [.mp 13]),(2,.box 25 true [.p Dv f]),(101,.arr 3 T3 o),(13,.mapo T3 T3 (yW o)),(4,.box 25 true [.raw (.slice none 0 0)])]⟩) (λi=>o.length-i.1) ⟨0,by omega⟩ (eW [(8,.nm 8),(20,.nm 20),(5,.nm 5),(2,.nm 2),(101,.nm 101),(13,.nm 13),(4,.nm 4)]) (λi=>?_)
     ·obtain⟨i,hi⟩:=i;repeat'(first|exact trivial|refine eS rfl ?_|refine AB ?_|refine rX a ?_ ?_|refine rC ?_ ?_<;>intro c<;>try(cases c;done))
      ·exact eV
      ·have l:i<o.length:=by exact eV
       have hn:=g.rng _ (AD o 0 l);have q:Ee (ER f) o (o.getD i 0)=((f.getD (o.getD i 0).toNat (0,[])).1,(AU (f.getD (o.getD i 0).toNat (0,[])).2).map (Mf o)):=by unfold Ee;rw[QP]
       obtain⟨t,m⟩:=s6 hs (o.getD i 0);refine cP 6 a ?_ ?_
       ·exact hn
       ·have F:List.length f<=100000:=z;generalize B:o.getD i 0=n at *;generalize A:f.getD n.toNat (0,[])=x at *;obtain⟨I,d⟩:=x;simp only at t m q;refine rM a (YI d) [] [] ?_ ?_ ?_
        ·exact eN
        ·exact eN
        ·rintro _ _ ⟨rfl,rfl⟩;refine⟨[(50,.nm 1)],.clo 149 [50],[(50,.box 47 false [.p Ce d])],rfl,rfl,?_,?_,rfl,rfl,?_⟩
         ·exact eN
         ·exact eN
         ·refine rM a (Nt d m t) [(1,.nm 50)] [50] ?_ ?_ ?_
          ·exact eN
          ·exact eN
          ·rintro _ _ ⟨rfl,rfl⟩;have v:=Cp d;rw[<-v];generalize E:AU d=L at *;refine⟨[(51,.nm 7)],.sr 51 BE 0 L.length,[(51,.arr 53 BE L)],rfl,rfl,?_,?_,rfl,rfl,?_⟩
           ·exact eN
           ·exact eN
           ·refine IC [2,4,5,8,9,10,11,22,23,24] a (by simp only[go_sem,Nat.reduceEqDiff,reduceCtorEq,Nat.reduceAdd,Nat.reduceSub,Nat.reduceMul,Nat.reduceLeDiff,Nat.reduceLT,Int.reduceLE,Int.reduceToNat,Int.reduceNeg,↓reduceIte];rfl) ?_ ?_
            ·trivial
            ·repeat'(first|exact trivial|refine eS rfl ?_|refine AB ?_|refine rX a ?_ ?_|refine rC ?_ ?_<;>intro c<;>try(cases c;done))
             refine AG (ι:={k:Nat//k<=L.length}) (λk=>⟨[(2,.bp 2 [] 0),(4,.bp 4 [] 0),(5,.bp 5 [] 0),(8,.bp 8 [] 0),(9,.p (.int .i64) (i:Int)),(10,.p T3 n),(11,.sr 51 BE 0 L.length),(22,.sr 101 T3 0 o.length),(23,.p (.int .i64) (o.length:Int)),(24,.p (.int .i64) (i:Int)),(38,.p (.int .i64) (L.length:Int)),(39,.p (.int .i64) (k.1:Int))],[(51,.arr 53 BE ((L.take k.1).map (Mf o)++L.drop k.1)),(8,.box 25 true [.sr 20 GH 0 o.length]),(20,.arr 49 GH ((o.take i).map (Ee (ER f) o)++List.replicate (o.length-i) (0,[]))),(5,.box 160 false [.mp 13]),(2,.box 25 true [.p Dv f]),(101,.arr 3 T3 o),(13,.mapo T3 T3 (yW o)),(4,.box 25 true [.raw (.slice none 0 0)])]⟩) (λk=>L.length-k.1) ⟨0,by omega⟩ (eW [(51,.nm 51),(8,.nm 8),(20,.nm 20),(5,.nm 5),(2,.nm 2),(101,.nm 101),(13,.nm 13),(4,.nm 4)]) (λk=>?_)
             ·obtain⟨k,hk⟩:=k;repeat'(first|exact trivial|refine eS rfl ?_|refine AB ?_|refine rX a ?_ ?_|refine rC ?_ ?_<;>intro c<;>try(cases c;done))
              ·exact eV
              ·exact eV
              ·have h:k<L.length:=by exact eV
               have e:=VR (Mf o) (λb=>b) L (0,0) h (Mf o);refine⟨⟨k+1,by omega⟩,by simp only;omega,AC [(51,.nm 51),(8,.nm 8),(20,.nm 20),(5,.nm 5),(2,.nm 2),(101,.nm 101),(13,.nm 13),(4,.nm 4)] rfl rfl ?_ ?_⟩
               ·refine eM ?_;rw[e.2];rw[<-e.1];unfold Mf;rw[<-A5l]
               ·exact eN
              ·exact⟨hn,by exact eV⟩
              ·exact eV
              ·have h:L.take k=L:=An (by exact eV);have y:L.drop k=[]:=IF (by exact eV);refine⟨⟨i+1,by omega⟩,by simp only;omega,AC [(8,.nm 8),(20,.nm 20),(5,.nm 5),(2,.nm 2),(101,.nm 101),(13,.nm 13),(4,.nm 4)] rfl rfl ?_ ?_⟩
               ·refine eM ?_;rw[h,y,AAu];have e:=w4 (Ee (ER f) o) o 0 (0,[]) l;rw[B,q]at e;rw[<-e,A,An (by simp:(L.map (Mf o)).length<=L.length)]
               ·exact eN
      ·have hk:o.take i=o:=An (by exact eV);have D:o.length-i=0:=by exact eV
       rw[hk,D];exact fI a [.cell 4 25] (by simp only[List.replicate_zero,AAu];first|exact eR|refine cG ?_;exact An (by rw[On];exact eV))
end
section
attribute [local go_sem] HG dS
theorem eF {a b:Int}:Fu a b=0↔a=b:=by
 unfold Fu;split
 ·constructor<;>intro h<;>omega
 ·split
  ·constructor<;>intro h<;>omega
  ·exact⟨λ_=>by omega,λ_=>rfl⟩
def W9:List Int->Int
 | []=>0
 | x :: l=>if x=0 then W9 l else x
theorem eG {l:List Int} {k:Nat} (h:k<l.length):W9 (l.drop k)=if l.getD k 0=0 then W9 (l.drop (k+1)) else l.getD k 0:=by
 rw[Of h];have e:l.getD k 0=l[k]:=by simp[AS,h]
 rw[e];rfl
def kY:Ae:={ ins:=[Es],pre:=λ_=>True,out:=λ(l,_)=>[.p T3 (W9 l)],lend:=true }
attribute [local go_sem] kY
theorem eH:Af Tryz.prog 158 kY:=by
 refine fK [0,2,3,5,6,7,8,9,14] Tryz.func158 Tryz.ntmps158 AH ?_;rintro w0 O0 ⟨l,u⟩ c ⟨⟨f,-⟩,-⟩ -;simp only[AO]at f;simp only[kY,AM];repeat'(first|exact trivial|refine eS rfl ?_|refine AB ?_|refine rX c ?_ ?_|refine rC ?_ ?_<;>intro b<;>try(cases b;done))
 refine AG (ι:={k:Nat//k<=List.length l/\W9 l=W9 ((l:List Int).drop k)}) (λk=>⟨[(3,.p T3 0),(6,.p Es l),(7,.p (.int .i64) (List.length l:Int)),(8,.p (.int .i64) (k.1:Int))],[]⟩) (λk=>List.length l-k.1) ⟨0,Is _,rfl⟩ (AC [] rfl rfl ?_ ?_) (λk=>?_)
 ·first|exact eN|refine eM ?_
 ·first|exact eN|refine eM ?_
 ·obtain⟨k,hk,a⟩:=k;repeat'(first|exact trivial|refine eS rfl ?_|refine AB ?_|refine rX c ?_ ?_|refine rC ?_ ?_<;>intro b<;>try(cases b;done))
  ·exact b
  ·have d:k<List.length l:=by exact eV
   rw[eG d,At b]at a;exact fI c [.tmp 2] (by rw[a];exact eR)
  ·exact eV
  ·have d:k<List.length l:=by exact eV
   rw[eG d,BY (by simpa using b)]at a;refine⟨⟨k+1,d,a⟩,by simp only;omega,AC [] rfl rfl ?_ ?_⟩
   ·first|exact eN|refine eM ?_
   ·first|exact eN|refine eM ?_
  ·have e:List.drop k (l:List Int)=[]:=IF (by exact eV);rw[e]at a;have a:W9 l=0:=a;exact fI c [.tmp 2] (by rw[a];exact eR)
def HQ {α:Type} (c:α->α->Int):List α->List α->Int
 | [],[]=>0
 | [],_ :: _=>-1
 | _ :: _,[]=>1
 | x :: p,y :: q=>if c x y=0 then HQ c p q else c x y
theorem KM {α:Type} {c:α->α->Int} (d:∀a b,c a b=0↔a=b):∀ {p q:List α},HQ c p q=0↔p=q
 | [],[]=>⟨λ_=>rfl,λ_=>rfl⟩
 | [],_ :: _=>⟨λh=>by simp[HQ]at h,λh=>by cases h⟩
 | _ :: _,[]=>⟨λh=>by simp[HQ]at h,λh=>by cases h⟩
 | x :: p,y :: q=>by
  unfold HQ;split
  ·rename_i h;rw[KM d,(d x y).1 h];exact⟨λe=>by rw[e],λe=>(List.cons.inj e).2⟩
  ·rename_i h;exact⟨λe=>absurd e h,λe=>absurd ((d x y).2 (List.cons.inj e).1) h⟩
theorem Lo {α:Type} (d:α) {l:List α} {k:Nat} (h:k<l.length):l.drop k=l.getD k d :: l.drop (k+1):=by
 rw[Of h];have e:l.getD k d=l[k]:=by simp[AS,h]
 rw[e]
theorem NI {α:Type} {c:α->α->Int} (d:α) {p q:List α} {k:Nat} (h1:k<p.length) (a:k<q.length):HQ c (p.drop k) (q.drop k)=if c (p.getD k d) (q.getD k d)=0 then HQ c (p.drop (k+1)) (q.drop (k+1)) else c (p.getD k d) (q.getD k d):=by
 rw[Lo d h1,Lo d a];rfl
def FW (a b:Int×Int):Int:=W9 [Fu a.1 b.1,Fu a.2 b.2]
theorem Sh (a b:Int×Int):FW a b=0↔a=b:=by
 unfold FW W9 W9 W9;constructor
 ·intro h;by_cases h1:Fu a.1 b.1=0
  ·rw[BY h1]at h;by_cases c:Fu a.2 b.2=0
   ·exact Prod.ext (eF.1 h1) (eF.1 c)
   ·rw[At c]at h;exact absurd h c
  ·rw[At h1]at h;exact absurd h h1
 ·rintro rfl;rw[BY (eF.2 rfl),BY (eF.2 rfl)]
def Zv:Ae:={ ins:=[BE,BE],pre:=λ_=>True,out:=λ(a,b,_)=>[.p T3 (FW a b)] }
attribute [local go_sem] Zv
theorem w7:Af Tryz.prog 160 Zv:=by
 refine fKP [0,1,2,3,4] [15] [] Tryz.func160 Tryz.ntmps160 (AF Gr (AF eH AH)) ?_;rintro w0 O0 ⟨a,b,u⟩ c - -;simp only[Zv,AM];repeat'(first|exact trivial|refine eS rfl ?_|refine AB ?_|refine rX c ?_ ?_|refine rC ?_ ?_<;>intro d<;>try(cases d;done))
 exact fI c [.tmp 4] (by unfold FW;exact eR)
theorem w8 (p q:List (Int×Int)) (hp:p.length<=100000):BA Tryz.prog 159 [.p Ce p,.p Ce q,.fn 160] [] [] (λres i=>res=.p T3 (HQ FW p q)/\i=[]):=by
 refine Jh [0,1,2,6,7,8,9,10,11,12,13,14,21,31,38] [] [] Tryz.func159 Tryz.ntmps159 (AF w7 AH) ?_;intro w0 K O0 ρ0 c m n;simp only[Aj];repeat'(first|exact trivial|refine eS rfl ?_|refine AB ?_|refine rX c ?_ ?_|refine rC ?_ ?_<;>intro a<;>try(cases a;done))
 refine AG (ι:={k:Nat//k<=p.length/\k<=q.length/\HQ FW p q=HQ FW (p.drop k) (q.drop k)}) (λk=>⟨[(0,.p Ce p),(1,.p Ce q),(2,.fn 160),(11,.p Ce p),(12,.p (.int .i64) (p.length:Int)),(13,.p (.int .i64) (k.1:Int))],[]⟩) (λk=>p.length-k.1) ⟨0,Is _,Is _,rfl⟩ (AC [] rfl rfl ?_ ?_) (λk=>?_)
 ·first|exact eN|refine eM ?_
 ·first|exact eN|refine eM ?_
 ·obtain⟨k,j,l,b⟩:=k;simp only;repeat'(first|exact trivial|refine eS rfl ?_|refine AB ?_|refine rX c ?_ ?_|refine rC ?_ ?_<;>intro a<;>try(cases a;done))
  ·exact a
  ·have d:k<p.length:=by exact eV
   have g:q.drop k=[]:=IF (by exact eV);have h1:HQ FW p q=1:=by
    rw[b,g,Lo (0,0) d];rfl
   refine Ev.ent (σ':=⟨[(6,.p T3 1)],[]⟩) (fM c [.tmp 6] (.p T3 1) eT ⟨by rw[h1],rfl⟩) (AC [] rfl rfl ?_ ?_)
   ·first|exact eN|refine eM ?_
   ·first|exact eN|refine eM ?_
  ·exact a
  ·have d:k<p.length:=by exact eV
   have e:k<q.length:=by exact eV
   rw[NI (0,0) d e,At a]at b;refine Ev.ent (σ':=⟨[(6,.p T3 (FW (p.getD k (0,0)) (q.getD k (0,0))))],[]⟩) (fM c [.tmp 6] (.p T3 (FW (p.getD k (0,0)) (q.getD k (0,0)))) eT ⟨by rw[b],rfl⟩) (AC [] rfl rfl ?_ ?_)
   ·first|exact eN|refine eM ?_
   ·first|exact eN|refine eM ?_
  ·exact eV
  ·have d:k<p.length:=by exact eV
   have e:k<q.length:=by exact eV
   rw[NI (0,0) d e,BY (by simpa using a)]at b;refine⟨⟨k+1,d,e,b⟩,by simp only;omega,AC [] rfl rfl ?_ ?_⟩
   ·first|exact eN|refine eM ?_
   ·first|exact eN|refine eM ?_
  ·have f:p.drop k=[]:=IF (by exact eV);have h1:HQ FW p q=-1:=by
    rw[b,f,Lo (0,0) (show k<q.length by exact eV)];rfl
   exact fM c [.tmp 6] (.p T3 (-1)) eT ⟨by rw[h1],rfl⟩
  ·have f:p.drop k=[]:=IF (by exact eV);have h:q.drop k=[]:=IF (by exact eV);have h1:HQ FW p q=0:=by
    rw[b,f,h];rfl
   exact fM c [.tmp 6] (.p T3 0) eT ⟨by rw[h1],rfl⟩
def Dj (a b:AE):Int:=if W9 [Fu a.1 b.1,Fu (a.2.length:Int) (b.2.length:Int)]=0 then HQ FW a.2 b.2 else W9 [Fu a.1 b.1,Fu (a.2.length:Int) (b.2.length:Int)]
theorem QQ (a b:AE):Dj a b=0↔a=b:=by
 unfold Dj;constructor
 ·intro h;split at h
  ·rename_i h1;unfold W9 W9 W9 at h1;by_cases c:Fu a.1 b.1=0
   ·exact Prod.ext (eF.1 c) ((KM Sh).1 h)
   ·rw[At c]at h1;exact absurd h1 c
  ·rename_i h1;exact absurd h h1
 ·rintro rfl;have h1:W9 [Fu a.1 a.1,Fu (a.2.length:Int) (a.2.length:Int)]=0:=by
   unfold W9 W9 W9;rw[BY (eF.2 rfl),BY (eF.2 rfl)]
  rw[BY h1];exact(KM Sh).2 rfl
def QR:Ae:={ ins:=[GH,GH],pre:=λ(a,_,_)=>List.length (Prod.snd (a:AE))<=100000,out:=λ(a,b,_)=>[.p T3 (Dj a b)] }
attribute [local go_sem] QR
theorem kZ:Af Tryz.prog 140 QR:=by
 refine fKP [0,1,2,3,4,5,21] [18] [] Tryz.func140 Tryz.ntmps140 (AF Gr (AF eH AH)) ?_;rintro w0 O0 ⟨⟨ta,la⟩,⟨tb,b⟩,u⟩ a-ha;have ha:List.length la<=100000:=ha;simp only[QR,AM];repeat'(first|exact trivial|refine eS rfl ?_|refine AB ?_|refine rX a ?_ ?_|refine rC ?_ ?_<;>intro c<;>try(cases c;done))
 ·have h1:Dj (ta,la) (tb,b)=W9 [Fu ta tb,Fu (List.length la:Int) (List.length b:Int)]:=At c;exact fI a [.tmp 4] (by rw[h1];exact eR)
 ·have h1:Dj (ta,la) (tb,b)=HQ FW la b:=BY (by simpa using c);refine cP 4 a ?_ ?_
  ·trivial
  ·refine rM a (w8 la b ha) [] [] ?_ ?_ ?_
   ·first|exact eN|refine eM ?_
   ·first|exact eN|refine eM ?_
   ·rintro _ _ ⟨rfl,rfl⟩;refine⟨[],.p T3 (HQ FW la b),[],rfl,rfl,?_,?_,rfl,rfl,?_⟩
    ·first|exact eN|refine eM ?_
    ·first|exact eN|refine eM ?_
    ·refine rL a ?_ ?_
     ·trivial
     ·repeat'(first|exact trivial|refine eS rfl ?_|refine AB ?_|refine rX a ?_ ?_|refine rC ?_ ?_<;>intro c<;>try(cases c;done))
      exact fI a [.tmp 4] (by rw[h1];exact eR)
end
section
attribute [local go_sem] HG dS QR Ta
theorem k4 (p q:List (AE)) (hp:p.length<=100000) (g:∀x∈p,x.2.length<=100000):BA Tryz.prog 139 [.p Dv p,.p Dv q,.fn 140] [] [] (λres j=>res=.p T3 (HQ Dj p q)/\j=[]):=by
 refine Jh [0,1,2,6,7,8,9,10,11,12,13,14,21,31,38] [] [] Tryz.func139 Tryz.ntmps139 (AF kZ AH) ?_;intro w0 K O0 ρ0 b n o;simp only[Aj];repeat'(first|exact trivial|refine eS rfl ?_|refine rX b ?_ ?_)
 refine AG (ι:={k:Nat//k<=p.length/\k<=q.length/\HQ Dj p q=HQ Dj (p.drop k) (q.drop k)}) (λk=>⟨[(0,.p Dv p),(1,.p Dv q),(2,.fn 140),(11,.p Dv p),(12,.p (.int .i64) (p.length:Int)),(13,.p (.int .i64) (k.1:Int))],[]⟩) (λk=>p.length-k.1) ⟨0,Is _,Is _,rfl⟩ (eW []) (λk=>?_)
 ·obtain⟨k,l,m,a⟩:=k;simp only;repeat'(first|exact trivial|refine eS rfl ?_|refine AB ?_|refine rX b ?_ ?_|refine rC ?_ ?_<;>intro d<;>try(cases d;done))
  ·exact d
  ·have c:k<p.length:=by exact eV
   have h:q.drop k=[]:=IF (by exact eV);have h1:HQ Dj p q=1:=by
    rw[a,h,Lo (0,[]) c];rfl
   exact Ev.ent (σ':=⟨[(6,.p T3 1)],[]⟩) (fM b [.tmp 6] (.p T3 1) eT ⟨by rw[h1],rfl⟩) (eW [])
  ·exact d
  ·exact g _ (AD p (0,[]) (by exact eV))
  ·have c:k<p.length:=by exact eV
   have e:k<q.length:=by exact eV
   rw[NI (0,[]) c e,At d]at a;exact Ev.ent (σ':=⟨[(6,.p T3 (Dj (p.getD k (0,[])) (q.getD k (0,[]))))],[]⟩) (fM b [.tmp 6] (.p T3 (Dj (p.getD k (0,[])) (q.getD k (0,[])))) eT ⟨by rw[a],rfl⟩) (eW [])
  ·exact eV
  ·have c:k<p.length:=by exact eV
   have e:k<q.length:=by exact eV
   rw[NI (0,[]) c e,BY (by simpa using d)]at a;exact⟨⟨k+1,c,e,a⟩,by simp only;omega,eW []⟩
  ·have f:p.drop k=[]:=IF (by exact eV);have h1:HQ Dj p q=-1:=by
    rw[a,f,Lo (0,[]) (show k<q.length by exact eV)];rfl
   exact fM b [.tmp 6] (.p T3 (-1)) eT ⟨by rw[h1],rfl⟩
  ·have f:p.drop k=[]:=IF (by exact eV);have i:q.drop k=[]:=IF (by exact eV);have h1:HQ Dj p q=0:=by
    rw[a,f,i];rfl
   exact fM b [.tmp 6] (.p T3 0) eT ⟨by rw[h1],rfl⟩
def Si (a b:List AE):Int:=if Fu (a.length:Int) (b.length:Int)=0 then HQ Dj a b else Fu (a.length:Int) (b.length:Int)
theorem k5 (a b:List AE):Si a b=0↔a=b:=by
 unfold Si;constructor
 ·intro h;split at h
  ·exact(KM QQ).1 h
  ·rename_i h1;exact absurd h h1
 ·rintro rfl;rw[BY (eF.2 rfl)];exact(KM QQ).2 rfl
def k6:Ae:={ ins:=[D8,D8],pre:=λ(a,_,_)=>Cw a,out:=λ(a,b,_)=>[.p T3 (Si a b)] }
attribute [local go_sem] k6
theorem A1x:Af Tryz.prog 106 k6:=by
 refine fK [0,1,2,3,4,5,14] Tryz.func106 Tryz.ntmps106 (AF Gr AH) ?_;rintro w0 O0 ⟨a,b,u⟩ c-⟨e,f⟩;simp only[k6,AM];repeat'(first|exact trivial|refine eS rfl ?_|refine rX c ?_ ?_|refine rC ?_ ?_<;>intro d<;>try(cases d;done))
 ·have h1:Si a b=Fu (List.length a:Int) (List.length b:Int):=At d;exact fI c [.tmp 4] (by rw[h1];exact eR)
 ·have h1:Si a b=HQ Dj a b:=BY (by simpa using d);refine cP 4 c ?_ ?_
  ·trivial
  ·refine rM c (k4 a b e f) [] [] ?_ ?_ ?_
   ·exact eN
   ·exact eN
   ·rintro _ _ ⟨rfl,rfl⟩;refine⟨[],.p T3 (HQ Dj a b),[],rfl,rfl,?_,?_,rfl,rfl,?_⟩
    ·exact eN
    ·exact eN
    ·refine rL c ?_ ?_
     ·trivial
     ·repeat' refine eS rfl ?_
      exact fI c [.tmp 4] (by rw[h1];exact eR)
def Tc:Ae:={ ins:=[D8,D8],pre:=λ(a,_,_)=>Cw a,out:=λ(a,b,_)=>[.p .bool (Si a b==0)] }
attribute [local go_sem] Tc
theorem w9:Af Tryz.prog 68 Tc:=by
 refine fK [0,1,2,3,4] Tryz.func68 Tryz.ntmps68 (AF A1x AH) ?_;rintro w0 O0 ⟨a,b,u⟩ c-ha;simp only[Tc,AM];repeat'(first|exact trivial|refine eS rfl ?_|refine rX c ?_ ?_)
 ·exact ha
 ·exact fI c [.tmp 4]
def eI (l:List (Int×Int)):List (Int×Bool):=l.foldl (λm a=>Hs T3 .bool a.1 true m) []
theorem Vk {b:Ty} (x k:Int) (v:b.den) (m:List (Int×b.den)):A8 T3 b x (Hs T3 b k v m)=if x=k then some v else A8 T3 b x m:=by
 induction m with
 | nil=>simp[Hs,A8,Jt]
 | cons y m g =>
  simp only[Hs];by_cases c:Jt T3 k y.1=true
  ·rw[BY c];have d:k=y.1:=by simpa[Jt] using c
   simp only[A8,Jt,AAN];by_cases a:x=k
   ·rw[BY a,BY a]
   ·rw[At a,At a,At (by rw[<-d];exact a)]
  ·rw[At c];have d:¬k=y.1:=by simpa[Jt] using c
   simp only[A8];by_cases a:Jt T3 x y.1=true
   ·have f:x=y.1:=by simpa[Jt] using a
    rw[BY a,BY a,At (by rw[f];exact λe=>d e.symm)]
   ·rw[At a,At a,g]
theorem xA (x:Int) (l:List (Int×Int)):(A8 T3 .bool x (eI l)).getD false=l.any λy=>y.1==x:=by
 induction l using Gt with
 | h0=>rfl
 | h1 l a c =>
  have e:eI (l++[a])=Hs T3 .bool a.1 true (eI l):=by unfold eI;rw[ABU];rfl
  rw[e,Vk,ACv,<-c];by_cases h:x=a.1
  ·rw[BY h,h];simp
  ·rw[At h];have b:¬a.1=x:=λe=>h e.symm;simp[b]
def GC (x:AE) (n:Int):Int:=if x.1<0 then 2 else IZ x.2 n
def Vl:Ae:={ ins:=[GH,T3],pre:=λ_=>True,out:=λ(x,n,_)=>[.p Wq (GC x n)] }
attribute [local go_sem] Vl
theorem k7:Af Tryz.prog 76 Vl:=by
 refine fK [0,1,2,4,5,7,10,13,14,15,16,32,36] Tryz.func76 Tryz.ntmps76 AH ?_;rintro w0 O0 ⟨⟨t,l⟩,n,u⟩ d ⟨⟨-,⟨o,-⟩⟩,-⟩ -;simp only[AO]at o;simp only[Vl,AM];repeat'(first|exact trivial|refine eS rfl ?_|refine rX d ?_ ?_|refine rC ?_ ?_<;>intro b<;>try(cases b;done))
 ·have h1:GC (t,l) n=2:=BY b;exact fI d [.tmp 4] (by rw[h1];exact eR)
 ·have h0:GC (t,l) n=HB n [] l:=At (ABC.2 b);rw[h0];refine AG (ι:={k:Nat//k<=List.length l/\HB n [] l=HB n ((l:List (Int×Int)).take k) ((l:List (Int×Int)).drop k)}) (λk=>⟨[(1,.p T3 n),(5,.mp 11),(13,.p Ce l),(14,.p (.int .i64) (List.length l:Int)),(15,.p (.int .i64) (k.1:Int))],[(11,.mapo T3 .bool (eI ((l:List (Int×Int)).take k.1)))]⟩) (λk=>List.length l-k.1) ⟨0,Is _,rfl⟩ (AC [(11,.nm 11)] rfl rfl ?_ ?_) (λk=>?_)
  ·refine eM ?_;rfl
  ·exact eN
  ·obtain⟨k,hk,f⟩:=k;have g:=λh:k<l.length=>Od n l h;have q:=λh:k<l.length=>NF (λ(m:List (Int×Bool)) (a:Int×Int)=>Hs T3 .bool a.1 true m) l (0,0) [] h;have i:=λx=>xA x (List.take k (l:List (Int×Int)));simp only;repeat'(first|exact trivial|refine eS rfl ?_|refine AB ?_|refine rX d ?_ ?_|refine rC ?_ ?_<;>intro b<;>try(cases b;done))
   ·exact b
   ·have c:k<List.length l:=by exact eV
    have e:HB n [] l=2:=by rw[f,g c,BY (by omega)]
    exact fI d [.tmp 4] (by rw[e];exact eR)
   ·have c:k<List.length l:=by exact eV
    rw[i]at b;have e:HB n [] l=4:=by rw[f,g c,At (by omega),BY b]
    exact fI d [.tmp 4] (by rw[e];exact eR)
   ·exact eV
   ·have c:k<List.length l:=by exact eV
    rw[i]at b;refine⟨⟨k+1,c,by rw[f,g c,At (by omega),At (by rw[b];simp)]⟩,by simp only;omega,AC [(11,.nm 11)] rfl rfl ?_ ?_⟩
    ·refine eM ?_;exact(q c).symm
    ·exact eN
   ·have j:List.drop k (l:List (Int×Int))=[]:=IF (by exact eV);have e:HB n [] l=0:=by rw[f,j];rfl
    exact fI d [.tmp 4] (by rw[e];exact eR)
theorem eJ {n:Int}:∀ {l seen:List (Int×Int)},HB n seen l=0->(∀a∈l,∀b∈seen,b.1≠a.1)/\NdA l
 | [],_,_=>⟨λa ha=>(by cases ha),List.Pairwise.nil⟩
 | x :: l,seen,h=>by
  simp only[HB]at h;split at h
  ·cases h
  ·split at h
   ·cases h
   ·rename_i h1 g;obtain⟨c,f⟩:=eJ h;refine⟨λa ha b d=>?_,AAX.2 ⟨λa ha e=>c a ha x (by simp) e,f⟩⟩;rcases By.1 ha with rfl|ha
    ·intro e;exact g (iS.2 ⟨b,d,by simp[e]⟩)
    ·exact c a ha b (by simp[d])
theorem eK {m:Int}:∀ {f:List AE},HC m f=0->∀x∈f,NdA x.2
 | [],_,x,b=>by cases b
 | y :: f,h,x,b=>by
  simp only[HC]at h;split at h
  ·cases h
  ·split at h
   ·rename_i h1 a;exact absurd h a
   ·rename_i h1 a;have a:IZ y.2 m=0:=DO a;rcases By.1 b with rfl|b
    ·exact(eJ a).2
    ·exact eK h x b
def QT (f:List AE):Prop:=∀x∈f,x.2.length<=200
theorem eL {f:List AE} (h:CG f=0) (hs:QT f):NdF f:=by
 unfold CG at h;split at h
 ·cases h
 ·split at h
  ·cases h
  ·exact λx a=>⟨eK h x a,hs x a⟩
def QU:Ae:={ ins:=[D8],pre:=λ(f,_)=>QT f,out:=λ(f,_)=>[.p D8 (A5 f).1,.p Wq (A5 f).2] }
attribute [local go_sem] QU
theorem YJ:Af Tryz.prog 51 QU:=by
 refine fK [0,1,2,3,5,6,10,15,18,19,20,21,30] Tryz.func51 Tryz.ntmps51 (AF k7 (AF w5 AH)) ?_;rintro w0 O0 ⟨f,u⟩ c ⟨⟨n,-⟩,-⟩ hs;simp only[AO]at n;have hs:QT f:=hs;have l:VT f:=λx o=>Qo (hs x o) (by omega);simp only[QU,AM];repeat'(first|exact trivial|refine eS rfl ?_|refine rX c ?_ ?_|refine rC ?_ ?_<;>intro a<;>try(cases a;done))
 ·have h1:CG f=1:=by
   have h:f.length=0:=by exact eV
   unfold CG;rw[BY h]
  have e:A5 f=([],1):=by unfold A5;rw[h1];rfl
  exact fI c [.cell 2 25,.tmp 3] (by rw[e];exact eR)
 ·have h1:CG f=7:=by
   have h:¬f.length=0:=by exact eV
   have i:4096<f.length:=by exact eV
   unfold CG;rw[At h,BY i]
  have e:A5 f=([],7):=by unfold A5;rw[h1];rfl
  exact fI c [.cell 2 25,.tmp 3] (by rw[e];exact eR)
 ·have h1:CG f=HC f.length f:=by
   have h:¬f.length=0:=by exact eV
   have i:¬4096<f.length:=by exact eV
   unfold CG;rw[At h,At i]
  have j:0<f.length:=by exact eV
  refine AG (ι:={k:Nat//k<=f.length/\HC f.length (f.drop k)=CG f}) (λk=>⟨[(1,.bp 1 [] 0),(2,.bp 2 [] 0),(18,.p Dv f),(19,.p (.int .i64) (f.length:Int)),(20,.p (.int .i64) (k.1:Int))],[(1,.box 25 true [.p Dv f]),(2,.box 25 true [.raw (.slice none 0 0)])]⟩) (λk=>f.length-k.1) ⟨0,by simp[h1]⟩ (eW [(1,.nm 1),(2,.nm 2)]) (λk=>?_)
  ·obtain⟨k,hk,hf⟩:=k;simp only;repeat'(first|exact trivial|refine eS rfl ?_|refine AB ?_|refine rX c ?_ ?_|refine rC ?_ ?_<;>intro a<;>try(cases a;done))
   ·exact a
   ·have g:k<f.length:=by exact eV
    have a:¬GC (f.getD k (0,[])) f.length=0:=a;have m:CG f=GC (f.getD k (0,[])) f.length:=by
     rw[<-hf,Ia _ _ g];unfold GC at a ⊢;by_cases b:(f.getD k (0,[])).1<0
     ·rw[BY b,BY b]
     ·rw[At b]at a;rw[At b,At b,BY a]
    have e:A5 f=([],GC (f.getD k (0,[])) f.length):=by unfold A5;rw[m,At a]
    exact fI c [.cell 2 25,.tmp 3] (by rw[e];exact eR)
   ·exact eV
   ·have g:k<f.length:=by exact eV
    have a:GC (f.getD k (0,[])) f.length=0:=by simpa using a
    refine⟨⟨k+1,g,?_⟩,by simp only;omega,AC [(1,.nm 1),(2,.nm 2)] rfl rfl ?_ ?_⟩
    ·rw[<-hf,Ia _ _ g];unfold GC at a;by_cases b:(f.getD k (0,[])).1<0
     ·rw[BY b]at a;cases a
     ·rw[At b]at a;rw[At b,At (by rw[a];simp)]
    ·exact eN
    ·exact eN
   ·have d:CG f=0:=by rw[<-hf,IF (by exact eV)];rfl
    exact⟨(Id d l).1,eL d hs,No.2 j⟩
   ·have d:CG f=0:=by rw[<-hf,IF (by exact eV)];rfl
    have e:A5 f=(AP (ER f) 0,0):=by unfold A5;rw[BY d,eD (Id d l).1 (eL d hs) (ACE 0) (No.2 j)]
    exact fI c [.cell 2 25,.tmp 3] (by rw[e];exact eR)
end
def KN (h:AJ) (f:Int):Int:=(h.2.getD f.toNat (ByteArray.empty,0)).2
def Mh (h:AJ) (n:Int):List (Int×Int)->EP->Option EP
 | [],s=>some s
 | a :: l,s=>(DI h s n (KN h a.1)).bind (Mh h n l)
def NZ (h:AJ) (n:Int):List (Int×Int)->EP->Option EP
 | [],s=>some s
 | a :: l,s=>if (B8 h (s.1.getD n.toNat 0) a.1).2=true then (DI h s a.2 (B8 h (s.1.getD n.toNat 0) a.1).1).bind (NZ h n l) else none
def KO (h:AJ) (f:List AE) (n:Int) (s:EP):Option EP:=(Mh h n (f.getD n.toNat (0,[])).2 s).bind (NZ h n (f.getD n.toNat (0,[])).2)
def s7 (h:AJ) (f:List AE):Nat->Nat->EP->Option (List Int)
 | 0,_,_=>none
 | k+1,i,s=>if i<s.2.length then (KO h f (s.2.getD i 0) s).bind (s7 h f k (i+1)) else some s.1
def A6 (f:List AE):List Int:=f.map λx=>x.1
def Ef (f:List AE):List Int:=(List.range f.length).map λi:Nat=>(i:Int)
def Ci (f:List AE) (ty:List Int):List AE:=(List.range f.length).map λi=>(ty.getD i 0,(f.getD i (0,[])).2)
structure XA (h:AJ):Prop where
 int:∀x∈h.2,0<=x.2/\x.2<(h.1.length:Int)
 val:∀t∈h.1,∀p∈t.2.2.2,0<=p.2/\p.2<(h.1.length:Int)
structure NJ (h:AJ) (m:Nat) (s:EP):Prop where
 len:s.1.length=m
 ty:∀t∈s.1,0<=t/\t<(h.1.length:Int)
 wt:∀n∈s.2,0<=n/\n<(m:Int)
theorem NJ.get {h:AJ} {m:Nat} {s:EP} (hs:NJ h m s) {n:Int} (n0:0<=n) (n1:n<(m:Int)):0<=s.1.getD n.toNat 0/\s.1.getD n.toNat 0<(h.1.length:Int):=by
 have a:n.toNat<s.1.length:=by rw[hs.len];omega
 rw[AS,AT a];exact hs.ty _ (AAR a)
def eO (h:AJ) (t:Int):Nat:=((List.range h.1.length).filter λi:Nat=>A7 h t (i:Int)).length
def NK (h:AJ) (ty:List Int):Nat:=(ty.map (eO h)).sum
theorem YK {α:Type} {p q:α->Bool}:∀ {l:List α},(∀x∈l,q x=true->p x=true)->(∃b∈l,p b=true/\q b=false)->(l.filter q).length<(l.filter p).length
 | [],_,⟨b,c,_⟩=>by cases c
 | x :: l,h1,⟨b,c,f,g⟩=>by
  have i:∀ {l:List α},(∀x∈l,q x=true->p x=true)->(l.filter q).length<=(l.filter p).length:=by
   intro l h;induction l with
   | nil=>exact NO _
   | cons y l j =>
    have e:=j λz d=>h z (If _ d);rw[AAE,AAE];by_cases a:q y=true
    ·rw[BY a,BY (h y (by simp) a)];simp only[OS];omega
    ·rw[At a];split
     ·simp only[OS];omega
     ·exact e
  rw[AAE,AAE];rcases By.1 c with rfl|c
  ·rw[At (by rw[g];simp),BY f];have:=i λz d=>h1 z (If _ d);simp only[OS];omega
  ·have e:=YK (λz d=>h1 z (If _ d)) ⟨b,c,f,g⟩;by_cases a:q x=true
   ·rw[BY a,BY (h1 x (by simp) a)];simp only[OS];omega
   ·rw[At a];split
    ·simp only[OS];omega
    ·exact e
theorem Td {h:AJ} (hk:HO h) {a:Int} (a0:0<=a) (b:a<(h.1.length:Int)):A7 h a a=true:=(BP hk a0 b a0 b).2 λ_ h=>h
theorem GD {h:AJ} (hk:HO h) {a b c:Int} (a0:0<=a) (d:a<(h.1.length:Int)) (e:0<=b) (b1:b<(h.1.length:Int)) (c0:0<=c) (c1:c<(h.1.length:Int)) (h1:A7 h a b=true) (f:A7 h b c=true):A7 h a c=true :=
 (BP hk a0 d c0 c1).2 λi hi=>(BP hk a0 d e b1).1 h1 i ((BP hk e b1 c0 c1).1 f i hi)
theorem s8 {h:AJ} (hk:HO h) (hi:HP h) {a m:Int} (a0:0<=a) (b:a<(h.1.length:Int)) (d:0<=m) (f:m<(h.1.length:Int)) (hs:A7 h a m=true) (g:m≠a):eO h m<eO h a:=by
 refine YK (λx c e=>?_) ⟨a.toNat,oR.2 (by omega),?_,?_⟩
 ·have c:=oR.1 c;exact GD hk a0 b d f (AAp _) (by omega) hs e
 ·rw[ABz a0];exact Td hk a0 b
 ·rw[ABz a0];cases e:A7 h m a with
  | false=>rfl
  | true=>exact absurd (hi m a d f a0 b e hs) g
theorem s9 {α:Type} (g:α->Nat) (d:α):∀ {l:List α} {i:Nat} {v:α},i<l.length->((l.set i v).map g).sum+g (l.getD i d)=(l.map g).sum+g v
 | [],i,v,h=>by simp at h
 | x :: l,0,v,h=>by simp only[ABF,AAn,ADa,List.getD_cons_zero];omega
 | x :: l,i+1,v,h=>by
  have:=s9 g d (l:=l) (i:=i) (v:=v) (by simpa using h);simp only[ACt,AAn,ADa,List.getD_cons_succ];omega
theorem E6 {h:AJ} (hk:HO h) (hi:HP h) {m:Nat} {s b:EP} (hs:NJ h m s) {n t:Int} (n0:0<=n) (n1:n<(m:Int)) (o:0<=t) (p:t<(h.1.length:Int)) (e:DI h s n t=some b) :
  NJ h m b/\NK h b.1+b.2.length<=NK h s.1+s.2.length/\s.2.length<=b.2.length:=by
 obtain⟨c,d⟩:=hs.get n0 n1;unfold DI at e;split at e
 ·rename_i j;obtain⟨f,g,l,r⟩:=(Mc hk c d o p).1 j;generalize (CD h (s.1.getD n.toNat 0) t).1=v at *;injection e with e
  split at e
  ·subst e;exact⟨hs,NO _,NO _⟩
  ·rename_i k;subst e;have q:=s8 hk hi c d f g l k;have i:n.toNat<s.1.length:=by rw[hs.len];omega
   have hp:=s9 (eO h) 0 (v:=v) i;refine⟨⟨by simp only[AAD];exact hs.len,λx a=>?_,λx a=>?_⟩,?_,by simp⟩
   ·rcases ABM a with a|rfl
    ·exact hs.ty x a
    ·exact⟨f,g⟩
   ·rcases OF.1 a with a|a
    ·exact hs.wt x a
    ·rw[ABe.1 a];exact⟨n0,n1⟩
   ·unfold NK;simp only[GO,aS];omega
 ·cases e
def FM (h:AJ) (m:Nat) (a:Int×Int):Prop:=(0<=a.1/\a.1<(h.2.length:Int))/\0<=a.2/\a.2<(m:Int)
theorem HH {h:AJ} (hf:XA h) {f:Int} (b:0<=f) (c:f<(h.2.length:Int)):0<=KN h f/\KN h f<(h.1.length:Int):=by
 have a:f.toNat<h.2.length:=by omega
 unfold KN;rw[AS,AT a];exact hf.int _ (AAR a)
theorem YL {f:Int}:∀ {l:List (Int×Int)},(Dx f l).2=true->(f,(Dx f l).1)∈l
 | [],h=>by cases h
 | x :: l,h=>by
  unfold Dx at h ⊢;split
  ·rename_i e;rw[<-e];simp
  ·rename_i e;rw[At e]at h;exact If _ (YL h)
theorem YM {h:AJ} {t:Int} (a:0<=t) (b:t<(h.1.length:Int)):h.1.getD t.toNat RY∈h.1:=AD h.1 RY (by omega)
theorem Ey {h:AJ} (hf:XA h) {t f:Int} (a:0<=t) (b:t<(h.1.length:Int)) (e:(B8 h t f).2=true):0<=(B8 h t f).1/\(B8 h t f).1<(h.1.length:Int) :=
 hf.val _ (YM a b) _ (YL e)
theorem QV {h:AJ} (hk:HO h) (hi:HP h) (hf:XA h) {m:Nat} {n:Int} (n0:0<=n) (n1:n<(m:Int)):∀ {l:List (Int×Int)} {s c:EP},(∀a∈l,FM h m a)->NJ h m s->Mh h n l s=some c ->
  NJ h m c/\NK h c.1+c.2.length<=NK h s.1+s.2.length/\s.2.length<=c.2.length
 | [],s,c,_,hs,e=>by
  injection e with e
  subst e;exact⟨hs,NO _,NO _⟩
 | a :: l,s,c,f,hs,e=>by
  unfold Mh at e;cases d:DI h s n (KN h a.1) with
  | none=>rw[d]at e;cases e
  | some s1 =>
   rw[d]at e;obtain⟨⟨a0,g⟩,-⟩:=f a (by simp);obtain⟨k,o⟩:=HH hf a0 g;obtain⟨i,q,r⟩:=E6 hk hi hs n0 n1 k o d;obtain⟨p,t,u⟩:=QV hk hi hf n0 n1 (λb j=>f b (by simp[j])) i e;exact⟨p,by omega,by omega⟩
theorem Te {h:AJ} (hk:HO h) (hi:HP h) (hf:XA h) {m:Nat} {n:Int} (n0:0<=n) (n1:n<(m:Int)):∀ {l:List (Int×Int)} {s c:EP},(∀a∈l,FM h m a)->NJ h m s->NZ h n l s=some c ->
  NJ h m c/\NK h c.1+c.2.length<=NK h s.1+s.2.length/\s.2.length<=c.2.length
 | [],s,c,_,hs,e=>by
  injection e with e
  subst e;exact⟨hs,NO _,NO _⟩
 | a :: l,s,c,g,hs,e=>by
  unfold NZ at e;split at e
  ·rename_i o;obtain⟨j,f⟩:=hs.get n0 n1;obtain⟨p,q⟩:=Ey hf j f o;cases d:DI h s a.2 (B8 h (s.1.getD n.toNat 0) a.1).1 with
   | none=>rw[d]at e;cases e
   | some s1 =>
    rw[d]at e;obtain⟨-,i,b1⟩:=g a (by simp);obtain⟨f,t,u⟩:=E6 hk hi hs i b1 p q d;obtain⟨r,v,w⟩:=Te hk hi hf n0 n1 (λb k=>g b (by simp[k])) f e;exact⟨r,by omega,by omega⟩
  ·cases e
def LO (h:AJ) (f:List AE):Prop:=∀x∈f,∀a∈x.2,FM h f.length a
theorem Mi {h:AJ} {f:List AE} (ha:LO h f) {n:Int} (n0:0<=n) (n1:n<(f.length:Int)):∀a∈(f.getD n.toNat (0,[])).2,FM h f.length a:=ha _ (AD f (0,[]) (by omega))
theorem QW {h:AJ} (hk:HO h) (hi:HP h) (hf:XA h) {f:List AE} (ha:LO h f) {n:Int} (n0:0<=n) (n1:n<(f.length:Int)) {s a:EP} (hs:NJ h f.length s) (e:KO h f n s=some a) :
  NJ h f.length a/\NK h a.1+a.2.length<=NK h s.1+s.2.length/\s.2.length<=a.2.length:=by
 unfold KO at e;cases b:Mh h n (f.getD n.toNat (0,[])).2 s with
 | none=>rw[b]at e;cases e
 | some s1 =>
  rw[b]at e;obtain⟨c,g,i⟩:=QV hk hi hf n0 n1 (Mi ha n0 n1) hs b;obtain⟨d,j,k⟩:=Te hk hi hf n0 n1 (Mi ha n0 n1) c e;exact⟨d,by omega,by omega⟩
theorem A5x (h:AJ) (t:Int):eO h t<=h.1.length:=by
 unfold eO;exact Qo (AB9 _ _) (by simp)
theorem A1y (h:AJ):∀ty:List Int,NK h ty<=ty.length*h.1.length
 | []=>by simp[NK]
 | t :: ty=>by
  have h1:=A1y h ty;have a:=A5x h t;unfold NK at h1 ⊢;simp only[AAn,ADa,OS,ACU,Nat.one_mul];omega
def Ii (h:AJ) (f:List AE):Nat:=f.length*h.1.length+f.length+1
def HR (h:AJ) (f:List AE):Option (List Int):=s7 h f (Ii h f) 0 (A6 f,Ef f)
def BW (h:AJ) (f:List AE):List AE×Bool:=match HR h f with
 | some ty=>(Ci f ty,true)
 | none=>([],false)
theorem YN {h:AJ} {f:List AE} (a:∀x∈f,0<=x.1/\x.1<(h.1.length:Int)):NJ h f.length (A6 f,Ef f):=by
 refine⟨by simp[A6],λt h1=>?_,λn hn=>?_⟩
 ·obtain⟨x,b,rfl⟩:=Do.1 h1;exact a x b
 ·obtain⟨i,hi,rfl⟩:=Do.1 hn;have:=oR.1 hi;omega
theorem Zw (h:AJ) (f:List AE):NK h (A6 f)+(Ef f).length+1<=Ii h f:=by
 have:=A1y h (A6 f);unfold Ii;rw[show (A6 f).length=f.length by simp[A6]]at this;rw[show (Ef f).length=f.length by simp[Ef]];omega
def A1z (a:Int->Int×Int->Bool) (f:List AE) (i:Nat):AE:=((f.getD i (0,[])).1,(f.getD i (0,[])).2.filter (a (i:Int)))
def GR (a:Int->Int×Int->Bool) (f:List AE) (i:Nat):List AE:=(List.range i).map (A1z a f)
def Vm (a:Int->Int×Int->Bool) (f:List AE):List AE:=AP (GR a f f.length) 0
theorem KP (a:Int->Int×Int->Bool) (f:List AE) (i:Nat):(GR a f i).length=i:=by simp[GR]
theorem Ij (l:List (Int×Int)):kQ l↔l.Pairwise (λa b=>a.1<b.1):=by
 constructor
 ·intro h;rw[tO];have key:∀d i,i+d+1<l.length->(l.getD i (0,0)).1<(l.getD (i+d+1) (0,0)).1:=by
   intro d;induction d with
   | zero=>intro i hi;exact h i hi
   | succ d e =>
    intro i hi;have h1:=e i (by omega);have f:=h (i+d+1) (by omega);have:i+(d+1)+1=i+d+1+1:=by omega
    rw[this];omega
  intro i j hi c g;have h1:=key (j-i-1) i (by omega);rw[show i+(j-i-1)+1=j by omega]at h1;simpa[AS,hi,c] using h1
 ·intro h i hi;rw[tO]at h;have:=h i (i+1) (by omega) hi (by omega);simpa[AS,hi,show i<l.length by omega] using this
theorem eQ {l:List (Int×Int)} (h:kQ l) (p:Int×Int->Bool):kQ (l.filter p):=by
 rw[Ij]at h ⊢;exact h.sublist ACV
theorem YO {f:List AE} (hf:Ad f) (hs:Og f) (d:Int->Int×Int->Bool):Ad (GR d f f.length)/\Og (GR d f f.length):=by
 have e:∀i,i<f.length->f.getD i (0,[])∈f:=λi hi=>AD f (0,[]) hi;refine⟨⟨by rw[KP];exact hf.1,λx c=>?_⟩,λx c=>?_⟩
 ·obtain⟨i,hi,rfl⟩:=Do.1 c;have hi:i<f.length:=oR.1 hi;obtain⟨h1,b⟩:=hf.2 _ (e i hi);rw[KP];exact⟨Qo (AB9 _ _) h1,λa ha=>b a (AAC.1 ha).1⟩
 ·obtain⟨i,hi,rfl⟩:=Do.1 c;have hi:i<f.length:=oR.1 hi;obtain⟨h1,b⟩:=hs _ (e i hi);exact⟨eQ h1 _,Qo (AB9 _ _) b⟩
theorem KQ {x y:Int} {xs ys:List Int} (h:LK (x :: xs) (y :: ys)=0):x=y/\LK xs ys=0:=by
 simp only[LK]at h;split at h
 ·cases h
 ·split at h
  ·cases h
  ·exact⟨by omega,h⟩
theorem Vn:∀ {l m:List (Int×Int)} {r s:List Int},l.length=m.length->LK (l.flatMap (λa=>[a.1,a.2])++r) (m.flatMap (λa=>[a.1,a.2])++s)=0->l=m/\LK r s=0
 | [],[],_,_,_,h=>⟨rfl,by simpa using h⟩
 | [],_ :: _,_,_,b,_=>by simp at b
 | _ :: _,[],_,_,b,_=>by simp at b
 | (c,d) :: l,(b1,b2) :: m,r,s,b,h=>by
  have h:LK (c :: d :: (l.flatMap (λa=>[a.1,a.2])++r)) (b1 :: b2 :: (m.flatMap (λa=>[a.1,a.2])++s))=0:=by simpa using h
  obtain⟨e,i⟩:=KQ h;obtain⟨f,j⟩:=KQ i;obtain⟨g,k⟩:=Vn (l:=l) (m:=m) (by simpa using b) j;exact⟨by rw[e,f,g],k⟩
theorem Vo:∀ {l m:List AE} {r s:List Int},l.length=m.length->LK (l.flatMap VK++r) (m.flatMap VK++s)=0->l=m/\LK r s=0
 | [],[],_,_,_,h=>⟨rfl,by simpa using h⟩
 | [],_ :: _,_,_,b,_=>by simp at b
 | _ :: _,[],_,_,b,_=>by simp at b
 | (d,c) :: l,(b1,b2) :: m,r,s,b,h=>by
  have h:LK (d :: (c.length:Int) :: (c.flatMap (λa=>[a.1,a.2])++(l.flatMap VK++r))) (b1 :: (b2.length:Int) :: (b2.flatMap (λa=>[a.1,a.2])++(m.flatMap VK++s)))=0:=by simpa[VK] using h
  obtain⟨e,i⟩:=KQ h;obtain⟨o,j⟩:=KQ i;obtain⟨f,k⟩:=Vn (l:=c) (m:=b2) (by omega) j;obtain⟨g,n⟩:=Vo (l:=l) (m:=m) (by simpa using b) k;exact⟨by rw[e,f,g],n⟩
theorem JU {a b:List AE} (h:Cv a b=0):a=b:=by
 unfold Cv Bu at h;obtain⟨h1,c⟩:=KQ h;have:=Vo (l:=a) (m:=b) (r:=[]) (s:=[]) (by omega) (by simpa using c);exact this.1
theorem YP:∀l:List Int,LK l l=0
 | []=>rfl
 | x :: l=>by simp[LK,YP l]
theorem Gu (a:List AE):Cv a a=0:=YP _
theorem Vp (x:Int×Int) (s:List (Int×Int)):∀n,(∀j,Ib x s n<=j->j<n->x.1<(s.getD j (0,0)).1)/\(0<Ib x s n->(s.getD (Ib x s n-1) (0,0)).1<=x.1)
 | 0=>⟨λj h1 b=>by omega,λh=>by simp[Ib]at h⟩
 | n+1=>by
  obtain⟨h1,b⟩:=Vp x s n;unfold Ib;split
  ·rename_i c;refine⟨λj a d=>?_,b⟩;by_cases e:j=n
   ·subst e;exact c
   ·exact h1 j a (by omega)
  ·rename_i c;exact⟨λj a d=>by omega,λ_=>by simp only[Nat.add_sub_cancel];omega⟩
theorem A7a {l:List (Int×Int)} (h:l.Pairwise (λa b=>a.1<=b.1)) {i j:Nat} (d:i<=j) (c:j<l.length):(l.getD i (0,0)).1<=(l.getD j (0,0)).1:=by
 rcases Nat.eq_or_lt_of_le d with rfl|e
 ·exact ACE _
 ·rw[tO]at h;have:=h i j (by omega) c e;simpa[AS,c,show i<l.length by omega] using this
theorem eU {s:List (Int×Int)} (h:s.Pairwise (λa b=>a.1<=b.1)) (x:Int×Int):(Oe s x).Pairwise (λa b=>a.1<=b.1):=by
 obtain⟨h1,g⟩:=Vp x s s.length;have hp:=TV x s s.length;unfold Oe;generalize Ib x s s.length=p at *;rw[ABR,ABR];have f:∀a∈s.take p,a.1<=x.1:=λa ha=>by
  obtain⟨i,hi,rfl⟩:=AAr.1 ha;rw[ON]at hi;have k:=A7a h (i:=i) (j:=p-1) (by omega) (by omega);have l:=g (by omega);have e:(s.take p)[i].1=(s.getD i (0,0)).1:=by simp[AS,show i<s.length by omega]
  rw[e];omega
 have d:∀b∈s.drop p,x.1<=b.1:=λb c=>by
  obtain⟨i,hi,rfl⟩:=AAr.1 c;rw[AAQ]at hi;have k:=h1 (p+i) (by omega) (by omega);have e:(s.drop p)[i].1=(s.getD (p+i) (0,0)).1:=by simp[AS,show p+i<s.length by omega]
  rw[e];omega
 refine⟨⟨h.sublist (List.take_sublist _ _),by simp,λa ha b c=>?_⟩,h.sublist (List.drop_sublist _ _),λa ha b c=>?_⟩
 ·have:b=x:=by simpa using c
  rw[this];exact f a ha
 ·rcases OF.1 ha with ha|ha
  ·exact ABJ (f a ha) (d b c)
  ·have:a=x:=by simpa using ha
   rw[this];exact d b c
theorem Lp (l:List (Int×Int)):(AU l).Pairwise (λa b=>a.1<=b.1):=by
 induction l using Gt with
 | h0=>exact List.Pairwise.nil
 | h1 l a c=>rw[Hh];exact eU c a
theorem Sj {n:Int}:∀ {l seen:List (Int×Int)},HB n seen l=0->(l.map (·.1)).Nodup/\∀a∈l,∀b∈seen,b.1≠a.1
 | [],_,_=>⟨by simp,λa ha=>by cases ha⟩
 | x :: l,seen,h=>by
  simp only[HB]at h;split at h
  ·cases h
  ·split at h
   ·cases h
   ·rename_i h1 d;obtain⟨g,f⟩:=Sj h;have d:∀b∈seen,b.1≠x.1:=λb c e=>d (iS.2 ⟨b,c,by simp[e]⟩);refine⟨?_,λa ha b c=>?_⟩
    ·rw[AAn,AAS];refine⟨λi=>?_,g⟩;obtain⟨a,ha,e⟩:=Do.1 i;exact f a ha x (by simp) e.symm
    ·rcases By.1 ha with rfl|ha
     ·exact d b c
     ·exact f a ha b (by simp[c])
theorem Vq {m:Int}:∀ {f:List AE},HC m f=0->∀x∈f,IZ x.2 m=0
 | [],_,x,a=>by cases a
 | y :: f,h,x,a=>by
  simp only[HC]at h;split at h
  ·cases h
  ·split at h
   ·rename_i h1 b;exact absurd h b
   ·rename_i h1 b;rcases By.1 a with rfl|a
    ·exact DO b
    ·exact Vq h x a
theorem xB {l:List (Int×Int)} (h:l.Pairwise (λa b=>a.1<=b.1)) (hn:(l.map (·.1)).Nodup):l.Pairwise (λa b=>a.1<b.1):=by
 rw[List.Nodup,ABc]at hn;refine(h.and hn).imp λ{a b} c=>?_;have h1:=c.1;have d:¬a.1=b.1:=c.2;omega
theorem Mj {f:List AE} (h:EB f=true):Ad f/\Og f/\0<f.length/\HN f=true:=by
 unfold EB at h;simp only[As,AAN]at h;obtain⟨⟨e,_⟩,c,d⟩:=h;obtain⟨t,g⟩:=Ma e;have r:VT f:=λx b=>Qo (g x b) (by omega);have a:CG f=0:=by
  unfold A5 at c;split at c
  ·assumption
  ·exact c
 obtain⟨o,h0⟩:=Id a r;have k:(A5 f).1=Fl f 0:=by unfold A5;rw[BY a]
 rw[k]at d;have l:=JU d;refine⟨o,λx b=>⟨?_,Qo (g x b) (by omega)⟩,h0,e⟩;rw[<-l]at b;obtain⟨n,_,rfl⟩:=Do.1 b;rw[Ij];have j:((f.getD n.toNat (0,[])).2.map (·.1)).Nodup:=by
  by_cases p:n.toNat<f.length
  ·have q:f.getD n.toNat (0,[])∈f:=AD f (0,[]) p;have m:HC f.length f=0:=by
    unfold CG at a;split at a
    ·cases a
    ·split at a
     ·cases a
     ·exact a
   exact(Sj (Vq m _ q)).1
  ·rw[AS,iF (by omega)];simp
 have s:=xB (Lp (f.getD n.toNat (0,[])).2) (((B6 _).map (·.1)).nodup_iff.2 j);unfold Lk;simp only;rw[ABc];exact s.imp λi=>i
section
attribute [local go_sem] QU Tc Ns YB
theorem A7b (a b:List AE):(Cv a b==0)=(Si a b==0):=by
 rw[ABX,AAN,AAN,k5];exact⟨JU,λe=>by rw[e];exact Gu b⟩
def Tf:Ae:={ ins:=[F7,D8],pre:=λ(_,f,_)=>Cw f/\QT f,out:=λ(h,f,_)=>[.p Wq (Co h f)] }
attribute [local go_sem] Tf
theorem xC:Af Tryz.prog 38 Tf:=by
 refine fK [0,1,2,3,4,5,6,8,10,17,20,21,22,23,31,33,34,35,36,44,50] Tryz.func38 Tryz.ntmps38 (AF YJ (AF w9 AH)) ?_;rintro w0 O0 ⟨⟨b,hf⟩,f,u⟩ d-⟨hs,n⟩;have hs:Cw f:=hs;have n:QT f:=n;simp only[Tf,AM];repeat'(first|exact trivial|refine eS rfl ?_|refine rX d ?_ ?_|refine rC ?_ ?_<;>intro a<;>try(cases a;done))
 ·exact n
 ·have h1:Co (b,hf) f=(A5 f).2:=by unfold Co;rw[BY a]
  exact fI d [.tmp 4] (by rw[h1];exact eR)
 ·have t:(A5 f).2=0:=by simpa using a
  have x:=Se hs.2;have w:=hs.1;have g:Co (b,hf) f=if f.all (TY (b,hf))=false then 2 else if (Si f (A5 f).1==0)=false then 3 else 0:=by unfold Co;rw[At (by rw[t];simp),A7b f (A5 f).1]
  refine AG (ι:={i:Nat//i<=f.length/\(f.take i).all (TY (b,hf))=true}) (λi=>⟨[(2,.bp 2 [] 0),(3,.bp 3 [] 0),(5,.bp 5 [] 0),(20,.p Dv f),(21,.p (.int .i64) (f.length:Int)),(22,.p (.int .i64) (i.1:Int))],[(2,.box 31 true [.p ST b,.p TQ hf]),(3,.box 25 true [.p Dv f]),(5,.box 25 true [.p Dv (A5 f).1])]⟩) (λi=>f.length-i.1) ⟨0,by simp⟩ (eW [(2,.nm 2),(3,.nm 3),(5,.nm 5)]) (λi=>?_)
  ·obtain⟨i,hi,l⟩:=i;have r:=λh:i<f.length=>Ge f (0,[]) (TY (b,hf)) h;simp only;repeat'(first|exact trivial|refine eS rfl ?_|refine rX d ?_ ?_|refine rC ?_ ?_<;>intro a<;>try(cases a;done))
   ·exact a
   ·have c:i<f.length:=No.1 (by assumption);have e:f.all (TY (b,hf))=false:=by
     rw[ABq];refine⟨_,AD f (0,[]) c,?_⟩;unfold TY;rw[ACi (ABC.2 a)];simp
    rw[BY e]at g;exact fI d [.tmp 4] (by rw[g];exact eR)
   ·have c:i<f.length:=No.1 (by assumption);have o:=AD f (0,[]) c;have q:TY (b,hf) (f.getD i (0,[]))=(f.getD i (0,[])).2.all (sO (b,hf)):=by
     unfold TY;rw[AC6 (show (f.getD i (0,[])).1<(b.length:Int) from a)];rfl
    have v:(f.getD i (0,[])).2.length<=100000:=hs.2 _ o;refine AG (ι:={k:Nat//k<=(f.getD i (0,[])).2.length/\((f.getD i (0,[])).2.take k).all (sO (b,hf))=true}) (λk=>⟨[(2,.bp 2 [] 0),(3,.bp 3 [] 0),(5,.bp 5 [] 0),(20,.p Dv f),(21,.p (.int .i64) (f.length:Int)),(22,.p (.int .i64) (i:Int)),(33,.p Ce (f.getD i (0,[])).2),(34,.p (.int .i64) ((f.getD i (0,[])).2.length:Int)),(35,.p (.int .i64) (k.1:Int))],[(2,.box 31 true [.p ST b,.p TQ hf]),(3,.box 25 true [.p Dv f]),(5,.box 25 true [.p Dv (A5 f).1])]⟩) (λk=>(f.getD i (0,[])).2.length-k.1) ⟨0,by simp⟩ (eW [(2,.nm 2),(3,.nm 3),(5,.nm 5)]) (λk=>?_)
    ·obtain⟨k,hk,m⟩:=k;have s:=λh:k<(f.getD i (0,[])).2.length=>Ge (f.getD i (0,[])).2 (0,0) (sO (b,hf)) h;simp only;repeat'(first|exact trivial|refine eS rfl ?_|refine AB ?_|refine rX d ?_ ?_|refine rC ?_ ?_<;>intro a<;>try(cases a;done))
     ·exact a
     ·have j:k<(f.getD i (0,[])).2.length:=No.1 (by assumption);have e:f.all (TY (b,hf))=false:=by
       rw[ABq];refine⟨_,o,?_⟩;rw[q,ABq.2 ⟨_,AD (f.getD i (0,[])).2 (0,0) j,by unfold sO;rw[ACi (ABC.2 a)];simp⟩];simp
      rw[BY e]at g;exact fI d [.tmp 4] (by rw[g];exact eR)
     ·exact eV
     ·have j:k<(f.getD i (0,[])).2.length:=No.1 (by assumption);refine⟨⟨k+1,j,?_⟩,by simp only;omega,AC [(2,.nm 2),(3,.nm 3),(5,.nm 5)] rfl rfl ?_ ?_⟩
      ·rw[s j,m];unfold sO;exact AC6 a
      ·exact eN
      ·exact eN
     ·exact eV
     ·have j:(f.getD i (0,[])).2.take k=(f.getD i (0,[])).2:=An (aT.1 a);rw[j]at m;refine⟨⟨i+1,c,?_⟩,by simp only;omega,AC [(2,.nm 2),(3,.nm 3),(5,.nm 5)] rfl rfl ?_ ?_⟩
      ·rw[r c,l,q,m];rfl
      ·exact eN
      ·exact eN
   ·exact hs
   ·have c:f.take i=f:=An (aT.1 (by assumption));rw[c]at l;rw[At (by rw[l];simp),BY (by simpa using a)]at g;exact fI d [.tmp 4] (by rw[g];exact eR)
   ·have c:f.take i=f:=An (aT.1 (by assumption));rw[c]at l;rw[At (by rw[l];simp),At (by rw[a];simp)]at g;exact fI d [.tmp 4] (by rw[g];exact eR)
end
section
attribute [local go_sem] Tf Ns YB
def Jp (h:AJ) (f:List AE) (t:Int):List (Int×Int)->Int
 | []=>0
 | a :: l=>if (B8 h t a.1).2=false then 10 else if A7 h (B8 h t a.1).1 (f.getD a.2.toNat (0,[])).1=false then 11 else Jp h f t l
def Ik (h:AJ) (f:List AE):List AE->Int
 | []=>0
 | x :: l=>if Jp h f x.1 x.2=0 then Ik h f l else Jp h f x.1 x.2
def Hi (h:AJ) (f:List AE):Int:=if Co h f=0 then Ik h f f else Co h f
structure Chk (h:AJ) (f:List AE):Prop where
 ty:∀x∈f,0<=x.1/\x.1<(h.1.length:Int)
 arc:∀x∈f,∀a∈x.2,FM h f.length a
theorem A7c {h:AJ} {f:List AE} (e:Co h f=0):Chk h f:=by
 have h1:(A5 f).2=0:=by
  refine DO λhn=>?_;unfold Co at e;rw[BY hn]at e;exact hn e
 have c:CG f=0:=by
  refine DO λhn=>?_;unfold A5 at h1;rw[At hn]at h1;exact hn h1
 have d:f.all (TY h)=true:=by
  cases k:f.all (TY h) with
  | true=>rfl
  | false =>
   unfold Co at e;rw[At (by rw[h1];simp),BY k]at e;cases e
 have j:HC f.length f=0:=by
  unfold CG at c;split at c
  ·cases c
  ·split at c
   ·cases c
   ·exact c
 have g:=Ic j;rw[IN]at d;have i:∀x∈f,x.1<(h.1.length:Int)/\∀a∈x.2,a.1<(h.2.length:Int):=λx b=>by
  have:=d x b;unfold TY at this;rw[As,IS,IN]at this;exact⟨this.1,λa ha=>by have:=this.2 a ha;unfold sO at this;simpa using this⟩
 exact⟨λx b=>⟨(g x b).1,(i x b).1⟩,λx b a ha=>by
  obtain⟨l,m,n⟩:=(g x b).2 a ha;exact⟨⟨l,(i x b).2 a ha⟩,m,n⟩⟩
theorem XB (h:AJ) (f l:List AE) {k:Nat} (hk:k<l.length):Ik h f (l.drop k)=if Jp h f (l.getD k (0,[])).1 (l.getD k (0,[])).2=0 then Ik h f (l.drop (k+1)) else Jp h f (l.getD k (0,[])).1 (l.getD k (0,[])).2:=by
 rw[Lo (0,[]) hk];rfl
theorem eX (h:AJ) (f:List AE) (t:Int) (l:List (Int×Int)) {k:Nat} (hk:k<l.length):Jp h f t (l.drop k)=if (B8 h t (l.getD k (0,0)).1).2=false then 10 else if A7 h (B8 h t (l.getD k (0,0)).1).1 (f.getD (l.getD k (0,0)).2.toNat (0,[])).1=false then 11 else Jp h f t (l.drop (k+1)):=by
 rw[Lo (0,0) hk];rfl
def Tg:Ae:={ ins:=[F7,D8],pre:=λ(h,f,_)=>XA h/\Cw f/\QT f,out:=λ(h,f,_)=>[.p Wq (Hi h f)] }
attribute [local go_sem] Tg
theorem xD:Af Tryz.prog 15 Tg:=by
 refine fK [0,1,2,3,4,5,7,9,10,11,16,19,20,21,22,26,27,28,29,42,53] Tryz.func15 Tryz.ntmps15 (AF xC (AF sW (AF A5d AH))) ?_;rintro w0 O0 ⟨⟨a,hf⟩,f,u⟩ e-⟨o,hs,s⟩;have o:XA (a,hf):=o;have hs:Cw f:=hs;have s:QT f:=s;have K:=hs.1;simp only[Tg,AM];repeat'(first|exact trivial|refine eS rfl ?_|refine rX e ?_ ?_|refine rC ?_ ?_<;>intro b<;>try(cases b;done))
 ·exact⟨hs,s⟩
 ·have j:Hi (a,hf) f=Co (a,hf) f:=At b;exact fI e [.tmp 4] (by rw[j];exact eR)
 ·have C:Co (a,hf) f=0:=by simpa using b
  have j:Hi (a,hf) f=Ik (a,hf) f f:=BY C;obtain⟨A,E⟩:=A7c C;refine AG (ι:={i:Nat//i<=f.length/\Ik (a,hf) f f=Ik (a,hf) f (f.drop i)}) (λi=>⟨[(2,.bp 2 [] 0),(3,.bp 3 [] 0),(19,.p Dv f),(20,.p (.int .i64) (f.length:Int)),(21,.p (.int .i64) (i.1:Int))],[(2,.box 31 true [.p ST a,.p TQ hf]),(3,.box 25 true [.p Dv f])]⟩) (λi=>f.length-i.1) ⟨0,Is _,rfl⟩ (eW [(2,.nm 2),(3,.nm 3)]) (λi=>?_)
  ·obtain⟨i,hi,g⟩:=i;have I:=λh:i<f.length=>XB (a,hf) f f h;have H:=λh:i<f.length=>AD f (0,[]) h;simp only;repeat'(first|exact trivial|refine eS rfl ?_|refine rX e ?_ ?_|refine rC ?_ ?_<;>intro b<;>try(cases b;done))
   ·exact b
   ·have q:i<f.length:=No.1 b;have m:=I q;have r:=H q;obtain⟨y,z⟩:=A _ r;have B:=E _ r;have F:=hs.2 _ r;generalize M:f.getD i (0,[])=x at *;obtain⟨t,L⟩:=x;simp only at m y z B F ⊢;refine AG (ι:={k:Nat//k<=L.length/\Jp (a,hf) f t L=Jp (a,hf) f t (L.drop k)}) (λk=>⟨[(2,.bp 2 [] 0),(3,.bp 3 [] 0),(7,.bp 7 [] 0),(19,.p Dv f),(20,.p (.int .i64) (f.length:Int)),(21,.p (.int .i64) (i:Int)),(26,.p Ce L),(27,.p (.int .i64) (L.length:Int)),(28,.p (.int .i64) (k.1:Int))],[(7,.box 49 true [.p T3 t,.p Ce L]),(2,.box 31 true [.p ST a,.p TQ hf]),(3,.box 25 true [.p Dv f])]⟩) (λk=>L.length-k.1) ⟨0,Is _,rfl⟩ (eW [(7,.nm 7),(2,.nm 2),(3,.nm 3)]) (λk=>?_)
    ·obtain⟨k,hk,c⟩:=k;have v:=λh:k<L.length=>eX (a,hf) f t L h;have G:=λh:k<L.length=>B _ (AD L (0,0) h);simp only;have J:=Ey (f:=(L.getD k (0,0)).1) o y z;repeat'(first|exact trivial|refine eS rfl ?_|refine AB ?_|refine rX e ?_ ?_|refine rC ?_ ?_<;>intro b<;>try(cases b;done))
     ·exact b
     ·exact⟨y,z⟩
     ·have d:k<L.length:=by exact eV
      rw[v d,BY b]at c;have l:Hi (a,hf) f=10:=by rw[j,g,m,At (by rw[c];simp),c]
      exact fI e [.tmp 4] (by rw[l];exact eR)
     ·have d:k<L.length:=by exact eV
      obtain⟨-,D,b1⟩:=G d;exact⟨⟨D,b1⟩,J b,A _ (AD f (0,[]) (by omega))⟩
     ·have d:k<L.length:=by exact eV
      have w:(B8 (a,hf) t (List.getD L k (0,0)).1).2=true:=by assumption
      rw[v d,At (by rw[w];simp),BY b]at c;have l:Hi (a,hf) f=11:=by rw[j,g,m,At (by rw[c];simp),c]
      exact fI e [.tmp 4] (by rw[l];exact eR)
     ·omega
     ·have d:k<L.length:=by exact eV
      have w:(B8 (a,hf) t (List.getD L k (0,0)).1).2=true:=by assumption
      rw[v d,At (by rw[w];simp),At (by rw[b];simp)]at c;exact⟨⟨k+1,d,c⟩,by simp only;omega,eW [(7,.nm 7),(2,.nm 2),(3,.nm 3)]⟩
     ·omega
     ·have n:L.drop k=[]:=IF (aT.1 b);rw[n]at c;have c:Jp (a,hf) f t L=0:=c;rw[m,BY c]at g;exact⟨⟨i+1,q,g⟩,by simp only;omega,eW [(2,.nm 2),(3,.nm 3)]⟩
   ·have n:f.drop i=[]:=IF (aT.1 b);rw[n]at g;have l:Hi (a,hf) f=0:=by rw[j,g];rfl
    exact fI e [.tmp 4] (by rw[l];exact eR)
theorem A1A:Af Tryz.prog 41 Ns:=by
 refine fK [0,1,2,3,6,7,8,9,19,28] Tryz.func41 Tryz.ntmps41 AH ?_;rintro w0 O0 ⟨⟨b,hf⟩,t,f,u⟩ d q ⟨j,m⟩;simp only[Ns,AM];refine Ev.ent (σ':=⟨[(0,.p F7 (b,hf)),(1,.p T3 t),(2,.p T3 f)],[]⟩) ?_ (AC [] rfl rfl ?_ ?_)
 ·repeat'(first|exact trivial|refine eS rfl ?_|refine rX d ?_ ?_)
  ·exact⟨j,m⟩
  ·have o:∀l,l=(List.getD b (Int.toNat t) (ByteArray.empty,[],[],[])).2.2.2->B8 (b,hf) t f=Dx f l:=λl e=>by rw[e];rfl
   have r:List.length (List.getD b (Int.toNat t) (ByteArray.empty,[],[],[])).2.2.2<=140737488355328:=(q.1.1.2 _ (AD (b:List HA) RY ((ACK j).2 m))).2.2.2.1;generalize (List.getD b (Int.toNat t) (ByteArray.empty,[],[],[])).2.2.2=l at *;rw[o l rfl];refine AG (ι:={k:Nat//k<=List.length l/\Dx f l=Dx f (l.drop k)}) (λk=>⟨[(2,.p T3 f),(8,.p cJ l),(9,.p (.int .i64) (k.1:Int))],[]⟩) (λk=>List.length l-k.1) ⟨0,Is _,rfl⟩ (eW []) (λk=>?_)
   ·obtain⟨k,hk,a⟩:=k;have i:=λh:k<List.length l=>Vf f l h;simp only;repeat'(first|exact trivial|refine eS rfl ?_|refine AB ?_|refine rX d ?_ ?_|refine rC ?_ ?_<;>intro c<;>try(cases c;done))
    ·exact c
    ·exact No.2 (by exact eV)
    ·have g:k<List.length l:=by exact eV
     rw[i g,BY c]at a;exact fI d [.tmp 6,.tmp 7] (by rw[a];exact eR)
    ·omega
    ·have g:k<List.length l:=by exact eV
     rw[i g,At c]at a;exact⟨⟨k+1,g,a⟩,by simp only;omega,eW []⟩
    ·have n:List.drop k (l:List (Int×Int))=[]:=IF (by exact eV);rw[n]at a;have a:Dx f l=(0,false):=a;exact fI d [.tmp 6,.tmp 7] (by rw[a];exact eR)
 ·exact eN
 ·exact eN
end
section
attribute [local go_sem] QL Ns Po
end
section
attribute [local go_sem] Ns
theorem k8 (h:AJ) (hk:HO h) (hi:HP h) (hf:XA h) (W:h.2.length<=100000) (f:List AE) (O:Ad f) (ha:LO h f) (s:EP) (hs:NJ h f.length s) {n:Int} (n0:0<=n) (n1:n<(f.length:Int)) (S:NK h s.1+s.2.length<=1000000000) :
  BA Tryz.prog 43 [.bp 1 [] 0,.p D8 f,.p T3 n] (ED h s) [1]
  (λres z=>(KO h f n s=none/\res=.p .bool false/\∃A,z=ED h A)\/∃A,KO h f n s=some A/\res=.p .bool true/\z=ED h A):=by
 have G:=Mi ha n0 n1;have Y:(f.getD n.toNat (0,[])).2.length<=100000:=(O.2 _ (AD f (0,[]) (by omega))).1;have N:KO h f n s=(Mh h n (f.getD n.toNat (0,[])).2 s).bind (NZ h n (f.getD n.toNat (0,[])).2):=rfl;rw[N];refine Jh [0,1,2,4,6,8,10,11,12,18,19,20,21,37,44,45,46,47,76] [] [] Tryz.func43 Tryz.ntmps43 (AF sW AH) ?_;intro w0 K O0 ρ0 a Z aa;simp only[ED,Aj];repeat'(first|exact trivial|refine eS rfl ?_|refine rX a ?_ ?_)
 ·exact⟨n0,n1⟩
 ·have X:f.getD n.toNat (0,[])=f.getD n.toNat (0,[]):=rfl;generalize J:(f.getD n.toNat (0,[])).2=L at *;refine AG (ι:={x:Nat×EP//x.1<=L.length/\NJ h f.length x.2/\NK h x.2.1+x.2.2.length<=1000000000/\Mh h n L s=Mh h n (L.drop x.1) x.2}) (λx=>⟨[(0,.bp 1 [] 0),(2,.p T3 n),(4,.bp 4 [] 0),(18,.p Ce L),(19,.p (.int .i64) (L.length:Int)),(20,.p (.int .i64) (x.1.1:Int))],[(4,.box 25 true [.p Dv f]),(1,.box 74 true [.p F7 h,.sr 2 T3 0 x.1.2.1.length,.p Es x.1.2.2]),(2,.arr 3 T3 x.1.2.1)]⟩) (λx=>L.length-x.1.1) ⟨(0,s),Is _,hs,S,rfl⟩ (eW [(4,.nm 4),(1,.nm 1),(2,.nm 2)]) (λx=>?_)
  ·obtain⟨⟨k,s1⟩,Q,r,C,i⟩:=x;simp only at Q r C i ⊢;repeat'(first|exact trivial|refine eS rfl ?_|refine rX a ?_ ?_|refine rC ?_ ?_<;>intro b<;>try(cases b;done))
   ·exact b
   ·have l:k<L.length:=No.1 b;have d:Mh h n (L.drop k) s1=(DI h s1 n (KN h (L.getD k (0,0)).1)).bind (Mh h n (L.drop (k+1))):=by rw[Lo (0,0) l];rfl
    obtain⟨⟨a0,F⟩,u,b1⟩:=G _ (AD L (0,0) l);obtain⟨o,q⟩:=HH hf a0 F;obtain⟨w,y⟩:=r.get n0 n1;refine cD 12 a ?_ ?_
    ·exact⟨a0,F⟩
    ·refine rM a (d3 h hk s1 n0 (by rw[r.len];exact n1) w y o q (by omega)) [(1,.nm 1),(2,.nm 2)] [2] ?_ ?_ ?_
     ·refine eM ?_;rfl
     ·simp only[ED];exact eN
     ·rintro res z (⟨c,rfl,rfl⟩|⟨s2,c,rfl,rfl⟩)
      ·refine⟨[(1,.nm 1),(2,.nm 2)],.p .bool false,ED h s1,rfl,rfl,?_,?_,rfl,rfl,?_⟩
       ·simp only[ED];exact eN
       ·exact eN
       ·simp only[ED];refine rL a ?_ ?_
        ·trivial
        ·repeat'(first|exact trivial|refine eS rfl ?_|refine rX a ?_ ?_|refine rC ?_ ?_<;>intro b<;>try(cases b;done))
         refine Ev.ent (σ':=⟨[(6,.p .bool false)],ED h s1⟩) ?_ (AC [(1,.nm 1),(2,.nm 2)] rfl rfl ?_ ?_)
         ·exact fM a [.tmp 6] (.p .bool false) eT (.inl ⟨by rw[i,d,c];rfl,rfl,s1,rfl⟩)
         ·unfold ED;exact eN
         ·exact eN
      ·refine⟨[(1,.nm 1),(2,.nm 2)],.p .bool true,ED h s2,rfl,rfl,?_,?_,rfl,rfl,?_⟩
       ·simp only[ED];exact eN
       ·exact eN
       ·simp only[ED];refine rL a ?_ ?_
        ·trivial
        ·obtain⟨D,E,T⟩:=E6 hk hi r n0 n1 o q c;repeat'(first|refine eS rfl ?_|refine AB ?_|refine rX a ?_ ?_|refine rC ?_ ?_<;>intro b<;>try(cases b;done))
         ·omega
         ·exact⟨⟨(k+1,s2),l,D,Qo E C,by rw[i,d,c];rfl⟩,by simp only;omega,eW [(4,.nm 4),(1,.nm 1),(2,.nm 2)]⟩
   ·exact⟨n0,n1⟩
   ·have B:L.drop k=[]:=IF (aT.1 b);rw[B]at i;have i:Mh h n L s=some s1:=i;rw[i];have M:(List.getD f n.toNat (0,[])).2=L:=J;rw[M];refine AG (ι:={x:Nat×EP//x.1<=L.length/\NJ h f.length x.2/\NK h x.2.1+x.2.2.length<=1000000000/\(some s1).bind (NZ h n L)=NZ h n (L.drop x.1) x.2}) (λx=>⟨[(0,.bp 1 [] 0),(2,.p T3 n),(44,.p Ce L),(45,.p (.int .i64) (L.length:Int)),(46,.p (.int .i64) (x.1.1:Int))],[(1,.box 74 true [.p F7 h,.sr 2 T3 0 x.1.2.1.length,.p Es x.1.2.2]),(2,.arr 3 T3 x.1.2.1)]⟩) (λx=>L.length-x.1.1) ⟨(0,s1),Is _,r,C,rfl⟩ (eW [(1,.nm 1),(2,.nm 2)]) (λx=>?_)
    ·obtain⟨⟨j,s2⟩,P,m,H,g⟩:=x;simp only at P m H g ⊢;obtain⟨w,y⟩:=m.get n0 n1;repeat'(first|exact trivial|refine eS rfl ?_|refine rX a ?_ ?_|refine rC ?_ ?_<;>intro b<;>try(cases b;done))
     ·exact b
     ·exact⟨⟨n0,by rw[m.len];exact n1⟩,w,y⟩
     ·have l:j<L.length:=No.1 b;have d:NZ h n (L.drop j) s2=if (B8 h (s2.1.getD n.toNat 0) (L.getD j (0,0)).1).2=true then (DI h s2 (L.getD j (0,0)).2 (B8 h (s2.1.getD n.toNat 0) (L.getD j (0,0)).1).1).bind (NZ h n (L.drop (j+1))) else none:=by rw[Lo (0,0) l];rfl
      obtain⟨-,u,b1⟩:=G _ (AD L (0,0) l);have R:=λe=>Ey (f:=(L.getD j (0,0)).1) hf w y e;generalize B8 h (s2.1.getD n.toNat 0) (L.getD j (0,0)).1=v at *;obtain⟨t,ok⟩:=v;refine evP a 3 ?_ ?_
      ·trivial
      ·cases ok with
       | false =>
        rw[At (by simp)]at d;refine rL a ?_ ?_
        ·trivial
        ·repeat'(first|exact trivial|refine eS rfl ?_|refine rX a ?_ ?_|refine rC ?_ ?_<;>intro b<;>try(cases b;done))
         refine Ev.ent (σ':=⟨[(6,.p .bool false)],ED h s2⟩) ?_ (AC [(1,.nm 1),(2,.nm 2)] rfl rfl ?_ ?_)
         ·exact fM a [.tmp 6] (.p .bool false) eT (.inl ⟨by rw[g,d],rfl,s2,rfl⟩)
         ·unfold ED;exact eN
         ·exact eN
       | true =>
        rw[BY rfl]at d;obtain⟨o,q⟩:=R rfl;simp only at o q d;obtain⟨U,V⟩:=m.get u b1;refine rN 4 a ?_ ?_
        ·trivial
        ·refine clG a (d3 h hk s2 u (by rw[m.len];exact b1) U V o q (by omega)) [(1,.nm 1),(2,.nm 2)] [2] ?_ ?_ ?_
         ·exact eN
         ·simp only[ED];exact eN
         ·rintro res z (⟨c,rfl,rfl⟩|⟨I,c,rfl,rfl⟩)
          ·refine⟨[(1,.nm 1),(2,.nm 2)],.p .bool false,ED h s2,rfl,rfl,?_,?_,rfl,rfl,?_⟩
           ·simp only[ED];exact eN
           ·exact eN
           ·simp only[ED];refine rL a ?_ ?_
            ·trivial
            ·repeat'(first|exact trivial|refine eS rfl ?_|refine rX a ?_ ?_|refine rC ?_ ?_<;>intro b<;>try(cases b;done))
             refine Ev.ent (σ':=⟨[(6,.p .bool false)],ED h s2⟩) ?_ (AC [(1,.nm 1),(2,.nm 2)] rfl rfl ?_ ?_)
             ·exact fM a [.tmp 6] (.p .bool false) eT (.inl ⟨by rw[g,d,c];rfl,rfl,s2,rfl⟩)
             ·unfold ED;exact eN
             ·exact eN
          ·refine⟨[(1,.nm 1),(2,.nm 2)],.p .bool true,ED h I,rfl,rfl,?_,?_,rfl,rfl,?_⟩
           ·simp only[ED];exact eN
           ·exact eN
           ·simp only[ED];refine rL a ?_ ?_
            ·trivial
            ·obtain⟨D,E,T⟩:=E6 hk hi m u b1 o q c;repeat'(first|refine eS rfl ?_|refine AB ?_|refine rX a ?_ ?_|refine rC ?_ ?_<;>intro b<;>try(cases b;done))
             ·omega
             ·exact⟨⟨(j+1,I),l,D,Qo E H,by rw[g,d,c];rfl⟩,by simp only;omega,eW [(1,.nm 1),(2,.nm 2)]⟩
     ·have B:L.drop j=[]:=IF (aT.1 b);rw[B]at g;have g:(some s1).bind (NZ h n L)=some s2:=g;refine Ev.ent (σ':=⟨[(6,.p .bool true)],ED h s2⟩) ?_ (AC [(1,.nm 1),(2,.nm 2)] rfl rfl ?_ ?_)
      ·exact fM a [.tmp 6] (.p .bool true) eT (.inr ⟨s2,g,rfl,rfl⟩)
      ·unfold ED;exact eN
      ·exact eN
end
section
def Zx:Ae:={ ins:=[Dv],pre:=λ(l,_)=>List.length l<=100000,out:=λ(l,_)=>[.own 49 GH l] }
attribute [local go_sem] Zx
theorem xE:Af Tryz.prog 44 Zx:=by
 refine fK [0,2,4] Tryz.func44 Tryz.ntmps44 AH ?_;rintro w0 O0 ⟨l,u⟩ a-d;have d:List.length l<=100000:=d;simp only[Zx,AM];repeat'(first|exact trivial|refine eS rfl ?_|refine rX a ?_ ?_)
 refine cP 1 a ?_ ?_
 ·trivial
 ·refine Xi a false rfl rfl ?_;intro b e;refine rL a ?_ ?_
  ·trivial
  ·repeat'(first|exact trivial|refine eS rfl ?_|refine rX a ?_ ?_|refine rC ?_ ?_<;>intro c<;>try(cases c;done))
   ·have f:l=[]:=e c;subst f;refine Ev.ent (σ':=⟨[(2,.sr 5 GH 0 0)],[(5,.arr 49 GH [])]⟩) ?_ (AC [(5,.nil)] rfl rfl ?_ ?_)
    ·exact GY a (.inl rfl) (rv:=.tmp 2) rfl (by simp only[H0,Hf,GL,go_sem,Nat.reduceEqDiff,reduceCtorEq,Nat.reduceAdd,Nat.reduceSub,Nat.reduceMul,Nat.reduceLeDiff,Nat.reduceLT,Int.reduceLE,Int.reduceToNat,Int.reduceNeg,↓reduceIte])
    ·exact eN
    ·exact eN
   ·simp only[AO];omega
   ·exact GY a (.inl rfl) (rv:=.tmp 2) rfl (by simp only[H0,Hf,GL,go_sem,Nat.reduceEqDiff,reduceCtorEq,Nat.reduceAdd,Nat.reduceSub,Nat.reduceMul,Nat.reduceLeDiff,Nat.reduceLT,Int.reduceLE,Int.reduceToNat,Int.reduceNeg,↓reduceIte])
structure k9 (h:AJ) (f:List AE):Prop where
 ok:HO h
 inj:HP h
 ft:XA h
 fl:h.2.length<=100000
 good:Ad f
 arcs:LO h f
 ty:∀x∈f,0<=x.1/\x.1<(h.1.length:Int)
def Rf:Ae:={ ins:=[F7,D8],pre:=λ(h,f,_)=>k9 h f,out:=λ(h,f,_)=>[.p D8 (BW h f).1,.p .bool (BW h f).2] }
theorem Fm (f:List AE) (ty:List Int):(Ci f ty).length=f.length:=by simp[Ci]
theorem KR (f:List AE) (ty:List Int) {i:Nat} (h:i<f.length):(Ci f ty).getD i (0,[])=(ty.getD i 0,(f.getD i (0,[])).2):=by
 unfold Ci;simp[AS,h]
theorem xF {α:Type} (F f:List α) (d:α) (b:F.length=f.length) {j:Nat} (h:j<f.length):(F.take j++f.drop j).set j (F.getD j d)=F.take (j+1)++f.drop (j+1)/\(F.take j++f.drop j).getD j d=f.getD j d:=by
 have h1:(F.take j).length=j:=by rw[ON];omega
 have a:f.drop j=f.getD j d :: f.drop (j+1):=by
  rw[Of h,AS,AT h];rfl
 constructor
 ·rw[AW F d (by omega),ABg _ _ (by omega),h1,AB7,a];simp
 ·rw[AS,AAl (by omega),h1,AB7,a];rfl
theorem Vr:Af Tryz.prog 18 Rf:=by
 refine fK [0,1,2,3,4,5,6,7,8,9,10,11,16,17,18,19,51,64,72,73,74] Tryz.func18 Tryz.ntmps18 (AF xE AH) ?_;rintro w0 O0 ⟨⟨a,hf⟩,f,u⟩ c-hp;have hp:k9 (a,hf) f:=hp;have D:=Zw (a,hf) f;have w:=hp.good.1;have S:Ii (a,hf) f<=30000000:=by
  have h1:a.length<=256:=hp.ok.2;have C:f.length*a.length<=100000*256:=Nat.mul_le_mul w h1;have R:f.length*(a,hf).1.length<=100000*256:=C;unfold Ii;omega
 have J:=YN hp.ty;simp only[Rf,AM];repeat'(first|exact trivial|refine eS rfl ?_|refine rX c ?_ ?_)
 refine AG (ι:={i:Nat//i<=f.length}) (λi=>⟨[(3,.bp 3 [] 0),(4,.bp 4 [] 0),(6,.bp 14 [] 0),(16,.p Dv f),(17,.p (.int .i64) (f.length:Int)),(18,.p (.int .i64) (i.1:Int))],[(3,.box 25 true [.p Dv f]),(4,.box 25 true [.raw (.slice none 0 0)]),(14,.box 74 true [.p F7 (a,hf),.sr 31 T3 0 i.1,.sr 41 T3 0 i.1]),(31,.arr 3 T3 ((A6 f).take i.1)),(41,.arr 3 T3 ((Ef f).take i.1))]⟩) (λi=>f.length-i.1) ⟨0,Is _⟩ (eW [(3,.nm 3),(4,.nm 4),(14,.nm 14),(31,.nil),(41,.nil)]) (λi=>?_)
 ·obtain⟨i,hi⟩:=i;have tl:((A6 f).take i).length=i:=by rw[ON];simp[A6];omega
  have X:((Ef f).take i).length=i:=by rw[ON];simp[Ef];omega
  have ts:i<f.length->(A6 f).take i++[(f.getD i (0,[])).1]=(A6 f).take (i+1):=λh=>by
   rw[AW (A6 f) 0 (by simpa[A6] using h)];simp[A6,AS,h]
  have P:i<f.length->(Ef f).take i++[(i:Int)]=(Ef f).take (i+1):=λh=>by
   rw[AW (Ef f) 0 (by simpa[Ef] using h)];simp[Ef,AS,h]
  repeat'(first|exact trivial|refine eS rfl ?_|refine rX c ?_ ?_|refine rC ?_ ?_<;>intro b<;>try(cases b;done))
  ·exact b
  ·have g:i<f.length:=No.1 b;have O:=ts g;have Q:=P g;refine B4 drawsAny c 9 [([1,2,3,4,5,6,7],8)] [0] (by kernel_rfl) (Lf ?_ ?_)
   ·trivial
   ·refine Nm c [31] ?_ ?_
    ·simp only[AO];omega
    ·refine Pm c ?_ ?_ ?_
     ·trivial
     ·trivial
     ·repeat'(first|refine eS rfl ?_|refine AB ?_|refine rX c ?_ ?_)
      ·simp only[AO];omega
      ·omega
      ·refine⟨⟨i+1,g⟩,by simp only;omega,AC [(3,.nm 3),(4,.nm 4),(14,.nm 14),(31,.nm 31),(41,.nm 41)] rfl rfl ?_ ?_⟩
       ·simp only[<-O,<-Q];refine eM ?_;simp only[ACf,ADh,and_self]
       ·exact eN
  ·have g:i=f.length:=by
    have:=aT.1 b;omega
   subst g;have et:(A6 f).take f.length=A6 f:=An (by simp[A6]);have v:(Ef f).take f.length=Ef f:=An (by simp[Ef]);have N:(A6 f).length=f.length:=by simp[A6]
   have Y:(Ef f).length=f.length:=by simp[Ef]
   rw[et,v];have B:(Ef f).take f.length=Ef f:=v;refine Gc [41] ?_;rw[B];refine AG (ι:={x:Nat×EP//NJ (a,hf) f.length x.2/\NK (a,hf) x.2.1+x.2.2.length+1<=Ii (a,hf) f/\x.1<=x.2.2.length/\∃k,NK (a,hf) x.2.1+x.2.2.length+1<=k+x.1/\s7 (a,hf) f k x.1 x.2=HR (a,hf) f}) (λx=>⟨[(3,.bp 3 [] 0),(4,.bp 4 [] 0),(6,.bp 14 [] 0),(9,.p (.int .i64) (x.1.1:Int))],[(3,.box 25 true [.p Dv f]),(4,.box 25 true [.raw (.slice none 0 0)]),(14,.box 74 true [.p F7 (a,hf),.sr 31 T3 0 x.1.2.1.length,.p Es x.1.2.2]),(31,.arr 3 T3 x.1.2.1)]⟩) (λx=>NK (a,hf) x.1.2.1+x.1.2.2.length-x.1.1) ⟨(0,A6 f,Ef f),J,D,Is _,Ii (a,hf) f,by simp only;omega,rfl⟩ (AC [(3,.nm 3),(4,.nm 4),(14,.nm 14),(31,.nm 31)] rfl rfl ?_ ?_) (λx=>?_)
   ·simp only[N];exact eN
   ·exact eN
   ·obtain⟨⟨i,s⟩,hs,I,hi,k,hk,e⟩:=x;simp only at hs I hi hk e ⊢;repeat'(first|exact trivial|refine eS rfl ?_|refine rX c ?_ ?_|refine rC ?_ ?_<;>intro b<;>try(cases b;done))
    ·have m:i<s.2.length:=No.1 b;obtain⟨z,A⟩:=hs.wt _ (AD s.2 (0:Int) m);obtain⟨k,rfl⟩:∃t,k=t+1:=⟨k-1,by omega⟩;have r:s7 (a,hf) f (k+1) i s=(KO (a,hf) f (s.2.getD i 0) s).bind (s7 (a,hf) f k (i+1)):=BY m;rw[r]at e;refine cD 9 c ?_ ?_
     ·exact b
     ·refine rM c (k8 (a,hf) hp.ok hp.inj hp.ft hp.fl f hp.good hp.arcs s hs z A (by omega)) [(1,.nm 14),(2,.nm 31)] [31] ?_ ?_ ?_
      ·exact eN
      ·simp only[ED];exact eN
      ·rintro res W (⟨l,rfl,d,rfl⟩|⟨d,l,rfl,rfl⟩)
       ·refine⟨[(14,.nm 1),(31,.nm 2)],.p .bool false,[(14,.box 74 true [.p F7 (a,hf),.sr 31 T3 0 d.1.length,.p Es d.2]),(31,.arr 3 T3 d.1)],rfl,rfl,?_,?_,rfl,rfl,?_⟩
        ·simp only[ED];exact eN
        ·exact eN
        ·refine rL c ?_ ?_
         ·trivial
         ·repeat'(first|exact trivial|refine eS rfl ?_|refine rX c ?_ ?_|refine rC ?_ ?_<;>intro b<;>try(cases b;done))
          have o:BW (a,hf) f=([],false):=by unfold BW;rw[<-e,l];rfl
          exact fI c [.cell 4 25,.tmp 5] (by rw[o];exact eR)
       ·obtain⟨M,U,V⟩:=QW hp.ok hp.inj hp.ft hp.arcs z A hs l;rw[l]at e;refine⟨[(14,.nm 1),(31,.nm 2)],.p .bool true,[(14,.box 74 true [.p F7 (a,hf),.sr 31 T3 0 d.1.length,.p Es d.2]),(31,.arr 3 T3 d.1)],rfl,rfl,?_,?_,rfl,rfl,?_⟩
        ·simp only[ED];exact eN
        ·exact eN
        ·refine rL c ?_ ?_
         ·trivial
         ·repeat'(first|refine eS rfl ?_|refine AB ?_|refine rX c ?_ ?_|refine rC ?_ ?_<;>intro b<;>try(cases b;done))
          ·omega
          ·exact⟨⟨(i+1,d),M,by simp only;omega,by simp only;omega,k,by simp only;omega,e⟩,by simp only;omega,eW [(3,.nm 3),(4,.nm 4),(14,.nm 14),(31,.nm 31)]⟩
    ·exact w
    ·have m:¬i<s.2.length:=λh=>by
      have:=aT.1 b;omega
     obtain⟨k,rfl⟩:∃t,k=t+1:=⟨k-1,by omega⟩;have r:s7 (a,hf) f (k+1) i s=some s.1:=At m;have o:BW (a,hf) f=(Ci f s.1,true):=by unfold BW;rw[<-e,r]
     have q:=Fm f s.1;have K:=λi h=>KR f s.1 (i:=i) h;generalize hT:Ci f s.1=F at *;have L:=hs.len;refine AG (ι:={j:Nat//j<=f.length}) (λj=>⟨[(4,.bp 4 [] 0),(6,.bp 14 [] 0),(10,.bp 10 [] 0),(72,.p (.int .i64) (f.length:Int)),(73,.p (.int .i64) (j.1:Int))],[(10,.box 25 true [.sr 68 GH 0 f.length]),(68,.arr 49 GH (F.take j.1++f.drop j.1)),(4,.box 25 true [.raw (.slice none 0 0)]),(14,.box 74 true [.p F7 (a,hf),.sr 31 T3 0 s.1.length,.p Es s.2]),(31,.arr 3 T3 s.1)]⟩) (λj=>f.length-j.1) ⟨0,Is _⟩ (eW [(10,.nm 10),(68,.nm 68),(4,.nm 4),(14,.nm 14),(31,.nm 31)]) (λj=>?_)
     ·obtain⟨j,T⟩:=j;have H:=λh:j<f.length=>xF F f (0,[]) q h;repeat'(first|exact trivial|refine eS rfl ?_|refine AB ?_|refine rX c ?_ ?_|refine rC ?_ ?_<;>intro b<;>try(cases b;done))
      ·exact⟨by rw[L];exact b,b⟩
      ·omega
      ·have n:j<f.length:=No.1 b;obtain⟨y,G⟩:=H n;rw[K j n]at y;refine⟨⟨j+1,n⟩,by simp only;omega,AC [(10,.nm 10),(68,.nm 68),(4,.nm 4),(14,.nm 14),(31,.nm 31)] rfl rfl ?_ ?_⟩
       ·simp only[<-y];refine eM ?_;rw[G]
       ·exact eN
      ·have hF:F.take j=F:=An (by rw[q];exact aT.1 b);have E:List.drop j f=[]:=IF (aT.1 b);rw[hF,E,AAu];exact fI c [.cell 4 25,.tmp 5] (by rw[o];first|exact eR|refine cG ?_;exact An (by rw[q];exact NO _))
end
def Jq {α:Type} (p:α->Bool):Nat->List α->Int
 | _,[]=>-1
 | k,a :: l=>if p a=true then (k:Int) else Jq p (k+1) l
theorem Vs {α:Type} (p:α->Bool):∀(k:Nat) (l:List α),decide (0<=Jq p k l)=l.any p
 | _,[]=>rfl
 | k,a :: l=>by
  unfold Jq;rw[List.any_cons];split
  ·rename_i h;rw[h,Bool.true_or];exact AC6 (AAp k)
  ·rename_i h;have h:p a=false:=by simpa using h
   rw[h,ADb];exact Vs p (k+1) l
theorem YQ {α:Type} (p:α->Bool) (d:α) (l:List α) {k:Nat} (h:k<l.length):Jq p k (l.drop k)=if p (l.getD k d)=true then (k:Int) else Jq p (k+1) (l.drop (k+1)):=by
 rw[Lo d h];rfl
theorem xG (m:List (Int×Bool)) (a:Int×Int):BA Tryz.prog 57 [.p T87 a,.bp 1 [] 0] [(1,.box 95 false [.mp 3]),(3,.mapo T3 .bool m)] [1,3] (λres d=>res=.p .bool ((A8 T3 .bool a.2 m).getD false)/\d=[(1,.box 95 false [.mp 3]),(3,.mapo T3 .bool m)]):=by
 refine Jh [0,1,2,3] [] [] Tryz.func57 Tryz.ntmps57 AH ?_;intro w0 K O0 ρ0 b e f;simp only[Aj];repeat'(first|exact trivial|refine eS rfl ?_|refine AB ?_|refine rX b ?_ ?_|refine rC ?_ ?_<;>intro c<;>try(cases c;done))
 refine Ev.ent (σ':=⟨[(3,.p .bool ((A8 T3 .bool a.2 m).getD false))],[(1,.box 95 false [.mp 3]),(3,.mapo T3 .bool m)]⟩) ?_ (AC [(1,.nm 1),(3,.nm 3)] rfl rfl ?_ ?_)
 ·exact fM b [.tmp 3] (.p .bool ((A8 T3 .bool a.2 m).getD false)) eT ⟨rfl,rfl⟩
 ·first|exact eN|refine eM ?_
 ·first|exact eN|refine eM ?_
theorem A1B (v:Int×Int) (a:Int×Int):BA Tryz.prog 50 [.p BE a,.bp 1 [] 0] [(1,.box 87 true [.p T3 v.1,.p T3 v.2])] [1] (λres d=>res=.p .bool (a.1==v.1)/\d=[(1,.box 87 true [.p T3 v.1,.p T3 v.2])]):=by
 refine Jh [0,1,2,3] [] [] Tryz.func50 Tryz.ntmps50 AH ?_;intro w0 K O0 ρ0 b e f;simp only[Aj];repeat'(first|exact trivial|refine eS rfl ?_|refine AB ?_|refine rX b ?_ ?_|refine rC ?_ ?_<;>intro c<;>try(cases c;done))
 refine Ev.ent (σ':=⟨[(3,.p .bool (a.1==v.1))],[(1,.box 87 true [.p T3 v.1,.p T3 v.2])]⟩) ?_ (AC [(1,.nm 1)] rfl rfl ?_ ?_)
 ·exact fM b [.tmp 3] (.p .bool (a.1==v.1)) eT ⟨rfl,rfl⟩
 ·first|exact eN|refine eM ?_
 ·first|exact eN|refine eM ?_
theorem xH (m:List (Int×Bool)) (l:List (Int×Int)) (o:l.length<=140737488355328):BA Tryz.prog 81 [.p cJ l,.clo 57 [1]] [(1,.box 95 false [.mp 3]),(3,.mapo T3 .bool m)] [1,3] (λres n=>res=.p T3 (Jq (λa=>(A8 T3 .bool (Prod.snd a) m).getD false) 0 l)/\n=[(1,.box 95 false [.mp 3]),(3,.mapo T3 .bool m)]):=by
 refine Jh [0,1,4,5,7,8,9,16] [] [] Tryz.func81 Tryz.ntmps81 AH ?_;intro w0 K O0 ρ0 d q r;simp only[Aj];repeat'(first|exact trivial|refine eS rfl ?_|refine AB ?_|refine rX d ?_ ?_|refine rC ?_ ?_<;>intro c<;>try(cases c;done))
 refine AG (ι:={k:Nat//k<=l.length/\Jq (λa=>(A8 T3 .bool (Prod.snd a) m).getD false) k (l.drop k)=Jq (λa=>(A8 T3 .bool (Prod.snd a) m).getD false) 0 l}) (λk=>⟨[(0,.p cJ l),(1,.clo 57 [1]),(7,.p (.int .i64) (l.length:Int)),(8,.p (.int .i64) (k.1:Int))],[(1,.box 95 false [.mp 3]),(3,.mapo T3 .bool m)]⟩) (λk=>l.length-k.1) ⟨0,Is _,rfl⟩ (AC [(1,.nm 1),(3,.nm 3)] rfl rfl ?_ ?_) (λk=>?_)
 ·first|exact eN|refine eM ?_
 ·first|exact eN|refine eM ?_
 ·obtain⟨k,hk,hf⟩:=k;have j:k<l.length->∀b,(λa=>(A8 T3 .bool (Prod.snd a) m).getD false) (l.getD k (0,0))=b->Jq (λa=>(A8 T3 .bool (Prod.snd a) m).getD false) k (l.drop k)=if b=true then (k:Int) else Jq (λa=>(A8 T3 .bool (Prod.snd a) m).getD false) (k+1) (l.drop (k+1)):=λh b e=>by rw[<-e];exact YQ (λa=>(A8 T3 .bool (Prod.snd a) m).getD false) (0,0) l h
  simp only;repeat'(first|exact trivial|refine eS rfl ?_|refine AB ?_|refine rX d ?_ ?_|refine rC ?_ ?_<;>intro c<;>try(cases c;done))
  ·have f:k<l.length:=No.1 c;refine cP 5 d ?_ ?_
   ·exact c
   ·have key:=xG m (l.getD k (0,0));refine rM d (key) [(1,.nm 1),(3,.nm 3)] [] ?_ ?_ ?_
    ·first|exact eN|refine eM ?_
    ·first|exact eN|refine eM ?_
    ·rintro _ _ ⟨rfl,rfl⟩;refine⟨[(1,.nm 1),(3,.nm 3)],.p .bool ((λa=>(A8 T3 .bool (Prod.snd a) m).getD false) (l.getD k (0,0))),[(1,.box 95 false [.mp 3]),(3,.mapo T3 .bool m)],rfl,rfl,?_,?_,rfl,rfl,CQ ?_⟩
     ·first|exact eN|refine eM ?_
     ·first|exact eN|refine eM ?_
     ·generalize s:(λa=>(A8 T3 .bool (Prod.snd a) m).getD false) (l.getD k (0,0))=i at *;have g:=j f i rfl;repeat'(first|exact trivial|refine eS rfl ?_|refine AB ?_|refine rX d ?_ ?_|refine rC ?_ ?_<;>intro c<;>try(cases c;done))
      ·have c:i=true:=c;rw[BY c,hf]at g;refine Ev.ent (σ':=⟨[(4,.p (.int .i64) (k:Int))],[(1,.box 95 false [.mp 3]),(3,.mapo T3 .bool m)]⟩) ?_ (AC [(1,.nm 1),(3,.nm 3)] rfl rfl ?_ ?_)
       ·exact fM d [.tmp 4] (.p T3 (k:Int)) eT ⟨by rw[g],rfl⟩
       ·first|exact eN|refine eM ?_
       ·first|exact eN|refine eM ?_
      ·omega
      ·have c:i=false:=c;rw[At (by rw[c];simp)]at g;refine⟨⟨k+1,f,g.symm.trans hf⟩,by simp only;omega,AC [(1,.nm 1),(3,.nm 3)] rfl rfl ?_ ?_⟩
       ·first|exact eN|refine eM ?_
       ·first|exact eN|refine eM ?_
  ·have f:l.drop k=[]:=IF (aT.1 c);rw[f]at hf;have hf:(-1:Int)=Jq (λa=>(A8 T3 .bool (Prod.snd a) m).getD false) 0 l:=hf;refine Ev.ent (σ':=⟨[(4,.p (.int .i64) (-1))],[(1,.box 95 false [.mp 3]),(3,.mapo T3 .bool m)]⟩) ?_ (AC [(1,.nm 1),(3,.nm 3)] rfl rfl ?_ ?_)
   ·exact fM d [.tmp 4] (.p T3 (-1)) eT ⟨by rw[hf],rfl⟩
   ·first|exact eN|refine eM ?_
   ·first|exact eN|refine eM ?_
theorem A1C (m:List (Int×Bool)) (l:List (Int×Int)) (e:l.length<=140737488355328):BA Tryz.prog 56 [.p cJ l,.clo 57 [1]] [(1,.box 95 false [.mp 3]),(3,.mapo T3 .bool m)] [1,3] (λres f=>res=.p .bool (l.any (λa=>(A8 T3 .bool (Prod.snd a) m).getD false))/\f=[(1,.box 95 false [.mp 3]),(3,.mapo T3 .bool m)]):=by
 refine Jh [0,1,4] [] [] Tryz.func56 Tryz.ntmps56 AH ?_;intro w0 K O0 ρ0 b g h;simp only[Aj];repeat'(first|exact trivial|refine eS rfl ?_|refine AB ?_|refine rX b ?_ ?_|refine rC ?_ ?_<;>intro c<;>try(cases c;done))
 refine cP 2 b ?_ ?_
 ·trivial
 ·have key:=xH m l e;refine rM b (key) [(1,.nm 1),(3,.nm 3)] [] ?_ ?_ ?_
  ·first|exact eN|refine eM ?_
  ·first|exact eN|refine eM ?_
  ·rintro _ _ ⟨rfl,rfl⟩;refine⟨[(1,.nm 1),(3,.nm 3)],.p T3 (Jq (λa=>(A8 T3 .bool (Prod.snd a) m).getD false) 0 l),[(1,.box 95 false [.mp 3]),(3,.mapo T3 .bool m)],rfl,rfl,?_,?_,rfl,rfl,?_⟩
   ·first|exact eN|refine eM ?_
   ·first|exact eN|refine eM ?_
   ·have ha:=Vs (λa=>(A8 T3 .bool (Prod.snd a) m).getD false) 0 l;generalize Jq (λa=>(A8 T3 .bool (Prod.snd a) m).getD false) 0 l=d at *;refine rL b ?_ ?_
    ·trivial
    ·repeat'(first|exact trivial|refine eS rfl ?_|refine AB ?_|refine rX b ?_ ?_|refine rC ?_ ?_<;>intro c<;>try(cases c;done))
     refine Ev.ent (σ':=⟨[(4,.p .bool (decide (0<=d)))],[(1,.box 95 false [.mp 3]),(3,.mapo T3 .bool m)]⟩) ?_ (AC [(1,.nm 1),(3,.nm 3)] rfl rfl ?_ ?_)
     ·exact fM b [.tmp 4] (.p .bool (decide (0<=d))) eT ⟨by rw[ha],rfl⟩
     ·first|exact eN|refine eM ?_
     ·first|exact eN|refine eM ?_
theorem xI (v:Int×Int) (l:List (Int×Int)) (n:l.length<=140737488355328):BA Tryz.prog 75 [.p Ce l,.clo 50 [1]] [(1,.box 87 true [.p T3 v.1,.p T3 v.2])] [1] (λres m=>res=.p T3 (Jq (λa=>(Prod.fst a==v.1)) 0 l)/\m=[(1,.box 87 true [.p T3 v.1,.p T3 v.2])]):=by
 refine Jh [0,1,4,5,7,8,9,16] [] [] Tryz.func75 Tryz.ntmps75 AH ?_;intro w0 K O0 ρ0 d o q;simp only[Aj];repeat'(first|exact trivial|refine eS rfl ?_|refine AB ?_|refine rX d ?_ ?_|refine rC ?_ ?_<;>intro c<;>try(cases c;done))
 refine AG (ι:={k:Nat//k<=l.length/\Jq (λa=>(Prod.fst a==v.1)) k (l.drop k)=Jq (λa=>(Prod.fst a==v.1)) 0 l}) (λk=>⟨[(0,.p Ce l),(1,.clo 50 [1]),(7,.p (.int .i64) (l.length:Int)),(8,.p (.int .i64) (k.1:Int))],[(1,.box 87 true [.p T3 v.1,.p T3 v.2])]⟩) (λk=>l.length-k.1) ⟨0,Is _,rfl⟩ (AC [(1,.nm 1)] rfl rfl ?_ ?_) (λk=>?_)
 ·first|exact eN|refine eM ?_
 ·first|exact eN|refine eM ?_
 ·obtain⟨k,hk,hf⟩:=k;have j:k<l.length->∀b,(λa=>(Prod.fst a==v.1)) (l.getD k (0,0))=b->Jq (λa=>(Prod.fst a==v.1)) k (l.drop k)=if b=true then (k:Int) else Jq (λa=>(Prod.fst a==v.1)) (k+1) (l.drop (k+1)):=λh b e=>by rw[<-e];exact YQ (λa=>(Prod.fst a==v.1)) (0,0) l h
  simp only;repeat'(first|exact trivial|refine eS rfl ?_|refine AB ?_|refine rX d ?_ ?_|refine rC ?_ ?_<;>intro c<;>try(cases c;done))
  ·have f:k<l.length:=No.1 c;refine cP 5 d ?_ ?_
   ·exact c
   ·have key:=A1B v (l.getD k (0,0));refine rM d (key) [(1,.nm 1)] [] ?_ ?_ ?_
    ·first|exact eN|refine eM ?_
    ·first|exact eN|refine eM ?_
    ·rintro _ _ ⟨rfl,rfl⟩;refine⟨[(1,.nm 1)],.p .bool ((λa=>(Prod.fst a==v.1)) (l.getD k (0,0))),[(1,.box 87 true [.p T3 v.1,.p T3 v.2])],rfl,rfl,?_,?_,rfl,rfl,CQ ?_⟩
     ·first|exact eN|refine eM ?_
     ·first|exact eN|refine eM ?_
     ·generalize r:(λa=>(Prod.fst a==v.1)) (l.getD k (0,0))=i at *;have g:=j f i rfl;repeat'(first|exact trivial|refine eS rfl ?_|refine AB ?_|refine rX d ?_ ?_|refine rC ?_ ?_<;>intro c<;>try(cases c;done))
      ·have c:i=true:=c;rw[BY c,hf]at g;refine Ev.ent (σ':=⟨[(4,.p (.int .i64) (k:Int))],[(1,.box 87 true [.p T3 v.1,.p T3 v.2])]⟩) ?_ (AC [(1,.nm 1)] rfl rfl ?_ ?_)
       ·exact fM d [.tmp 4] (.p T3 (k:Int)) eT ⟨by rw[g],rfl⟩
       ·first|exact eN|refine eM ?_
       ·first|exact eN|refine eM ?_
      ·omega
      ·have c:i=false:=c;rw[At (by rw[c];simp)]at g;refine⟨⟨k+1,f,g.symm.trans hf⟩,by simp only;omega,AC [(1,.nm 1)] rfl rfl ?_ ?_⟩
       ·first|exact eN|refine eM ?_
       ·first|exact eN|refine eM ?_
  ·have f:l.drop k=[]:=IF (aT.1 c);rw[f]at hf;have hf:(-1:Int)=Jq (λa=>(Prod.fst a==v.1)) 0 l:=hf;refine Ev.ent (σ':=⟨[(4,.p (.int .i64) (-1))],[(1,.box 87 true [.p T3 v.1,.p T3 v.2])]⟩) ?_ (AC [(1,.nm 1)] rfl rfl ?_ ?_)
   ·exact fM d [.tmp 4] (.p T3 (-1)) eT ⟨by rw[hf],rfl⟩
   ·first|exact eN|refine eM ?_
   ·first|exact eN|refine eM ?_
theorem A1D (v:Int×Int) (l:List (Int×Int)) (e:l.length<=140737488355328):BA Tryz.prog 49 [.p Ce l,.clo 50 [1]] [(1,.box 87 true [.p T3 v.1,.p T3 v.2])] [1] (λres f=>res=.p .bool (l.any (λa=>(Prod.fst a==v.1)))/\f=[(1,.box 87 true [.p T3 v.1,.p T3 v.2])]):=by
 refine Jh [0,1,4] [] [] Tryz.func49 Tryz.ntmps49 AH ?_;intro w0 K O0 ρ0 b g h;simp only[Aj];repeat'(first|exact trivial|refine eS rfl ?_|refine AB ?_|refine rX b ?_ ?_|refine rC ?_ ?_<;>intro c<;>try(cases c;done))
 refine cP 2 b ?_ ?_
 ·trivial
 ·have key:=xI v l e;refine rM b (key) [(1,.nm 1)] [] ?_ ?_ ?_
  ·first|exact eN|refine eM ?_
  ·first|exact eN|refine eM ?_
  ·rintro _ _ ⟨rfl,rfl⟩;refine⟨[(1,.nm 1)],.p T3 (Jq (λa=>(Prod.fst a==v.1)) 0 l),[(1,.box 87 true [.p T3 v.1,.p T3 v.2])],rfl,rfl,?_,?_,rfl,rfl,?_⟩
   ·first|exact eN|refine eM ?_
   ·first|exact eN|refine eM ?_
   ·have ha:=Vs (λa=>(Prod.fst a==v.1)) 0 l;generalize Jq (λa=>(Prod.fst a==v.1)) 0 l=d at *;refine rL b ?_ ?_
    ·trivial
    ·repeat'(first|exact trivial|refine eS rfl ?_|refine AB ?_|refine rX b ?_ ?_|refine rC ?_ ?_<;>intro c<;>try(cases c;done))
     refine Ev.ent (σ':=⟨[(4,.p .bool (decide (0<=d)))],[(1,.box 87 true [.p T3 v.1,.p T3 v.2])]⟩) ?_ (AC [(1,.nm 1)] rfl rfl ?_ ?_)
     ·exact fM b [.tmp 4] (.p .bool (decide (0<=d))) eT ⟨by rw[ha],rfl⟩
     ·first|exact eN|refine eM ?_
     ·first|exact eN|refine eM ?_
abbrev KS:=List (List (Int×Int))
def A5y (v:KS) (s:List Bool×Bool) (i:Nat):List Bool×Bool:=if (s.1.getD i false&&!((v.getD i []).any λa=>s.1.getD a.2.toNat false))=true then (s.1.set i false,true) else s
def rB (v:KS) (l:List Bool) (i:Nat):List Bool×Bool:=(List.range i).foldl (A5y v) (l,false)
def Vt (v:KS):Nat->List Bool->List Bool
 | 0,l=>l
 | k+1,l=>if (rB v l v.length).2=true then Vt v k (rB v l v.length).1 else (rB v l v.length).1
def tA (v:KS):Bool:=(Vt v (v.length+1) (List.replicate v.length true)).all (!·)
def QX (l:List Bool):Nat:=l.countP id
theorem eY:∀ {l:List Bool} {i:Nat},l.getD i false=true->QX (l.set i false)+1=QX l
 | [],i,h=>by simp at h
 | x :: l,0,h=>by
  have h:x=true:=by simpa using h
  subst h;simp[QX]
 | x :: l,i+1,h=>by
  have:=eY (l:=l) (i:=i) (by simpa using h);unfold QX at this ⊢;rw[ACt,ABI,ABI];omega
theorem A1E (n:Nat):QX (List.replicate n true)=n:=by unfold QX;rw[List.countP_eq_length.2 (λa ha=>by rw[List.eq_of_mem_replicate ha];rfl),ACk]
theorem tB (v:KS) (l:List Bool) (i:Nat):rB v l (i+1)=A5y v (rB v l i) i:=by
 unfold rB;rw[AAq,ABU];rfl
theorem A1F (v:KS) (l:List Bool):∀i,(rB v l i).1.length=l.length/\((rB v l i).2=true->QX (rB v l i).1<QX l)/\((rB v l i).2=false->(rB v l i).1=l)/\QX (rB v l i).1<=QX l
 | 0=>⟨rfl,λh=>(by cases h),λ_=>rfl,NO _⟩
 | i+1=>by
  obtain⟨h1,b,c,d⟩:=A1F v l i;rw[tB];generalize rB v l i=s at *;unfold A5y;split
  ·rename_i h;rw[As]at h;have f:=eY h.1;have a:QX (s.1.set i false)<QX l:=by omega
   exact⟨by simpa using h1,λ_=>a,λe=>(by cases e),ACj a⟩
  ·exact⟨h1,b,c,d⟩
structure MI (m:List (Int×Bool)) (l:List Bool):Prop where
 nd:(m.map (·.1)).Nodup
 get:∀k:Int,A8 T3 .bool k m=if 0<=k/\l.getD k.toNat false=true then some true else none
theorem tC (k:Int) (v:Bool):∀ {m:List (Int×Bool)},(m.map (·.1)).Nodup->((Hs T3 .bool k v m).map (·.1)).Nodup/\∀x,x∈(Hs T3 .bool k v m).map (·.1)->x=k\/x∈m.map (·.1)
 | [],_=>by simp[Hs]
 | y :: m,h=>by
  rw[AAn,AAS]at h;unfold Hs;split
  ·rename_i e;have e:k=y.1:=by simpa[Jt] using e
   refine⟨?_,λx a=>?_⟩
   ·rw[AAn,AAS,e];exact h
   ·rcases By.1 a with a|a
    ·exact .inl a
    ·exact .inr (If _ a)
  ·rename_i e;have e:¬k=y.1:=by simpa[Jt] using e
   obtain⟨c,b⟩:=tC k v h.2;refine⟨?_,λx a=>?_⟩
   ·rw[AAn,AAS];refine⟨λd=>?_,c⟩;rcases b _ d with a|a
    ·exact e a.symm
    ·exact h.1 a
   ·rcases By.1 a with a|a
    ·exact .inr (by rw[a];simp)
    ·exact(b x a).imp id λg=>If _ g
theorem eZ (k:Int):∀m:List (Int×Bool),(NY T3 .bool k m).Sublist m
 | []=>List.Sublist.refl _
 | y :: m=>by
  unfold NY;split
  ·exact List.sublist_cons_self _ _
  ·exact(eZ k m).cons_cons _
theorem YR {x:Int}:∀ {m:List (Int×Bool)},x∉m.map (·.1)->A8 T3 .bool x m=none
 | [],_=>rfl
 | y :: m,h=>by
  unfold A8;rw[At (by
   intro e;have e:x=y.1:=by simpa[Jt] using e
   exact h (by rw[e];simp))]
  exact YR λa=>h (If _ a)
theorem YS (x k:Int):∀ {m:List (Int×Bool)},(m.map (·.1)).Nodup->A8 T3 .bool x (NY T3 .bool k m)=if x=k then none else A8 T3 .bool x m
 | [],_=>by simp[NY,A8]
 | y :: m,h=>by
  rw[AAn,AAS]at h;unfold NY;split
  ·rename_i e;have e:k=y.1:=by simpa[Jt] using e
   by_cases a:x=k
   ·rw[BY a,a,e];exact YR h.1
   ·rw[At a];have c:¬x=y.1:=by rw[<-e];exact a
    simp[A8,Jt,c]
  ·rename_i e;have e:¬k=y.1:=by simpa[Jt] using e
   have f:=YS x k h.2;by_cases b:x=y.1
   ·have d:¬x=k:=by rw[b];exact λg=>e g.symm
    rw[At d];simp[A8,Jt,b]
   ·have hn:¬Jt T3 x y.1=true:=by simpa[Jt] using b
    simp only[A8];rw[At hn,At hn,f]
theorem MI.zero:MI [] (List.replicate 0 true):=⟨List.nodup_nil,λk=>by simp[A8]⟩
theorem MI.put {m:List (Int×Bool)} {i:Nat} (h:MI m (List.replicate i true)):MI (Hs T3 .bool (i:Int) true m) (List.replicate (i+1) true):=by
 refine⟨(tC _ _ h.nd).1,λ(k:Int)=>?_⟩;rw[Vk,h.get];by_cases hk:k=(i:Int)
 ·rw[BY hk,BY];subst hk;refine⟨AAp _,?_⟩;simp[AS,ABp]
 ·rw[At hk];have e:(0<=k/\(List.replicate i true).getD k.toNat false=true)↔(0<=k/\(List.replicate (i+1) true).getD k.toNat false=true):=by
   simp only[AS,ABp];constructor
   ·rintro⟨a,b⟩;refine⟨a,?_⟩;split at b
    ·rw[BY (by omega)];rfl
    ·simp at b
   ·rintro⟨a,b⟩;refine⟨a,?_⟩;split at b
    ·rw[BY (by omega)];rfl
    ·simp at b
  by_cases c:0<=k/\(List.replicate i true).getD k.toNat false=true
  ·rw[BY c,BY (e.1 c)]
  ·rw[At c,At λg=>c (e.2 g)]
theorem MI.del {m:List (Int×Bool)} {l:List Bool} (h:MI m l) (i:Nat):MI (NY T3 .bool (i:Int) m) (l.set i false):=by
 refine⟨h.nd.sublist ((eZ _ m).map _),λ(k:Int)=>?_⟩;rw[YS _ _ h.nd,h.get];by_cases hk:k=(i:Int)
 ·subst hk;rw[BY rfl,At];rintro⟨-,b⟩;rw[gO]at b;simp only[AS,AAY]at b;rw[BY trivial]at b;split at b<;>simp at b
 ·rw[At hk];by_cases a:0<=k
  ·have c:¬i=k.toNat:=by omega
   simp only[AS,AAY];rw[At c]
  ·rw[At λg=>a g.1,At λg=>a g.1]
theorem lA (y:Int×Bool) (m:List (Int×Bool)):A8 T3 .bool y.1 (y :: m)=some y.2:=by
 unfold A8;rw[BY (by simp[Jt])]
theorem MI.len0 {m:List (Int×Bool)} {l:List Bool} (h:MI m l):m.length=0↔l.all (!·)=true:=by
 constructor
 ·intro e;have e:m=[]:=oN e;subst e;refine IN.2 λb a=>?_;obtain⟨i,hi,rfl⟩:=AAr.1 a;have:=h.get (i:Int);cases a:l[i] with
  | false=>rfl
  | true =>
   rw[BY ⟨AAp _,by rw[gO,AS,AT hi,a];rfl⟩]at this;cases this
 ·intro e;cases m with
  | nil=>rfl
  | cons y m =>
   have:=h.get y.1;rw[lA]at this;split at this
   ·rename_i f;have d:y.1.toNat<l.length:=by
     refine DO λhn=>?_;have:=f.2;rw[AS,iF (by omega)]at this;cases this
    have c:=f.2;rw[AS,AT d]at c;have:=IN.1 e _ (AAR d);rw[show l[y.1.toNat]=true from c]at this;cases this
   ·cases this
theorem NL {x:Int}:∀ {m:List (Int×Bool)},x∈m.map (·.1)->A8 T3 .bool x m≠none
 | y :: m,h=>by
  unfold A8;split
  ·simp
  ·rename_i e;rcases By.1 h with h|h
   ·exact absurd (by simp[Jt,h]) e
   ·exact NL h
theorem MI.len {m:List (Int×Bool)} {l:List Bool} (h:MI m l):m.length<=l.length:=by
 have h1:((m.map (·.1)).map Int.toNat).Nodup:=by
  rw[List.Nodup,ABc];refine h.nd.imp_of_mem λ{a b:Int} ha d i e=>i ?_;have h1:=NL ha;have c:=NL d;rw[h.get]at h1 c;have a0:0<=a:=DO λg=>h1 (At λq=>g q.1);have n:0<=b:=DO λg=>c (At λq=>g q.1);omega
 have:=EW l.length _ h1 (λj f=>by
  obtain⟨x,k,rfl⟩:=Do.1 f;have h1:=NL k;rw[h.get]at h1;refine DO λhn=>h1 (At λg=>?_);have:=g.2;rw[AS,iF (by omega)]at this;cases this)
 simpa using this
theorem MI.look {m:List (Int×Bool)} {l:List Bool} (h:MI m l) {k:Int} (a:0<=k):(A8 T3 .bool k m).getD false=l.getD k.toNat false:=by
 rw[h.get];cases b:l.getD k.toNat false with
 | true=>rw[BY ⟨a,rfl⟩];rfl
 | false=>rw[At λg=>by cases g.2];rfl
section
def VOk (v:KS):Prop:=∀r∈v,∀a∈r,0<=a.2/\a.2<(v.length:Int)
theorem A1G {m:List (Int×Bool)} {l:List Bool} (h:MI m l) {r:List (Int×Int)} (c:∀a∈r,0<=a.2):(r.any λa=>(A8 T3 .bool (Prod.snd a) m).getD false)=r.any λa=>l.getD a.2.toNat false:=by
 induction r with
 | nil=>rfl
 | cons a r e =>
  rw[List.any_cons,List.any_cons,e (λb d=>c b (If _ d)),h.look (c a (by simp))]
def tD:Ae:={ ins:=[T45],pre:=λ(v,_)=>VOk v,out:=λ(v,_)=>[.p .bool (tA v)],lend:=true }
attribute [local go_sem] tD
theorem A5z:Af Tryz.prog 24 tD:=by
 refine fK [0,2,3,4,5,6,9,10,11,16,18,19,20,33] Tryz.func24 Tryz.ntmps24 AH ?_;rintro w0 O0 ⟨v,u⟩ c ⟨⟨S,Q⟩,-⟩ w;have w:VOk v:=w;simp only[AO]at S;have R:∀r∈(v:KS),List.length r<=140737488355328:=λr t=>(Q r t).1;simp only[tD,AM];repeat'(first|exact trivial|refine eS rfl ?_|refine rX c ?_ ?_)
 refine AG (ι:={x:Nat×List (Int×Bool)//x.1<=List.length v/\MI x.2 (List.replicate x.1 true)}) (λx=>⟨[(0,.p T45 v),(3,.bp 3 [] 0),(9,.p (.int .i64) (List.length v:Int)),(10,.p (.int .i64) (x.1.1:Int))],[(3,.box 95 false [.mp 7]),(7,.mapo T3 .bool x.1.2)]⟩) (λx=>List.length v-x.1.1) ⟨(0,[]),Is _,MI.zero⟩ (eW [(3,.nm 3),(7,.nm 7)]) (λx=>?_)
 ·obtain⟨⟨i,m⟩,hi,s⟩:=x;simp only at hi s ⊢;repeat'(first|exact trivial|refine eS rfl ?_|refine AB ?_|refine rX c ?_ ?_|refine rC ?_ ?_<;>intro d<;>try(cases d;done))
  ·omega
  ·have g:i<List.length v:=by exact eV
   exact⟨⟨(i+1,Hs T3 .bool (i:Int) true m),g,s.put⟩,by simp only;omega,eW [(3,.nm 3),(7,.nm 7)]⟩
  ·have g:i=List.length v:=by exact eV
   subst g;refine AG (ι:={x:Bool×List (Int×Bool)×List Bool//x.2.2.length=List.length v/\MI x.2.1 x.2.2/\(x.1=true->∃k,QX x.2.2+1<=k/\Vt v k x.2.2=Vt v (List.length v+1) (List.replicate (List.length v) true))/\(x.1=false->x.2.2=Vt v (List.length v+1) (List.replicate (List.length v) true))}) (λx=>⟨[(0,.p T45 v),(3,.bp 3 [] 0),(5,.p .bool x.1.1)],[(3,.box 95 false [.mp 7]),(7,.mapo T3 .bool x.1.2.1)]⟩) (λx=>2*QX x.1.2.2+(if x.1.1=true then 1 else 0)) ⟨(true,m,List.replicate (List.length v) true),by simp,s,λ_=>⟨_,by simp only[A1E];exact NO _,rfl⟩,λe=>by cases e⟩ (eW [(3,.nm 3),(7,.nm 7)]) (λx=>?_)
   ·obtain⟨⟨b,I,l⟩,q,n,B,C⟩:=x;simp only at q n B C ⊢;repeat'(first|exact trivial|refine eS rfl ?_|refine rX c ?_ ?_|refine rC ?_ ?_<;>intro d<;>try(cases d;done))
    ·have D:b=true:=d;obtain⟨k,hk,o⟩:=B D;obtain⟨k,rfl⟩:∃U,k=U+1:=⟨k-1,by omega⟩;refine AG (ι:={x:Nat×List (Int×Bool)//x.1<=List.length v/\MI x.2 (rB v l x.1).1}) (λx=>⟨[(0,.p T45 v),(3,.bp 3 [] 0),(5,.p .bool (rB v l x.1.1).2),(18,.p (.int .i64) (List.length v:Int)),(19,.p (.int .i64) (x.1.1:Int))],[(3,.box 95 false [.mp 7]),(7,.mapo T3 .bool x.1.2)]⟩) (λx=>List.length v-x.1.1) ⟨(0,I),Is _,n⟩ (AC [(3,.nm 3),(7,.nm 7)] rfl rfl ?_ ?_) (λx=>?_)
     ·exact eN
     ·refine eM ?_;rfl
     ·obtain⟨⟨i,h⟩,hi,j⟩:=x;simp only at hi j ⊢;have f:=tB v l i;have M:=A1F v l i;repeat'(first|exact trivial|refine eS rfl ?_|refine AB ?_|refine rX c ?_ ?_|refine rC ?_ ?_<;>intro d<;>try(cases d;done))
      ·have g:i<List.length v:=by exact eV
       have E:=j.look (k:=(i:Int)) (AAp _);rw[gO]at E;have F:List.getD v i []∈(v:KS):=AD (v:KS) [] g;have K:=A1G j (r:=List.getD v i []) λa ha=>(w _ F a ha).1;have G:A5y v (rB v l i) i=if ((rB v l i).1.getD i false&&!((List.getD v i []).any λa=>(rB v l i).1.getD a.2.toNat false))=true then ((rB v l i).1.set i false,true) else rB v l i:=rfl
       rw[<-K,<-E]at G;rw[G]at f;have L:=j.del i;refine evP c 4 ?_ ?_
       ·trivial
       ·cases A:(A8 T3 .bool (i:Int) h).getD false with
        | false =>
         rw[A,Bool.false_and,At (by simp)]at f;refine rL c ?_ ?_
         ·trivial
         ·repeat'(first|refine eS rfl ?_|refine AB ?_|refine rX c ?_ ?_|refine rC ?_ ?_<;>intro d<;>try(cases d;done))
          ·omega
          ·refine⟨⟨(i+1,h),g,by rw[f];exact j⟩,by simp only;omega,AC [(3,.nm 3),(7,.nm 7)] rfl rfl ?_ ?_⟩
           ·exact eN
           ·simp only[f];exact eN
        | true =>
         rw[A,ACx]at f;refine rN 5 c ?_ ?_
         ·exact d
         ·have key:=A1C h (List.getD v i []) (R _ F);generalize List.any (List.getD v i []) (λa=>(A8 T3 .bool (Prod.snd a) h).getD false)=y at *;refine clG c (key) [(1,.nm 3),(3,.nm 7)] [] ?_ ?_ ?_
          ·exact eN
          ·exact eN
          ·rintro _ _ ⟨rfl,rfl⟩;refine⟨[(3,.nm 1),(7,.nm 3)],.p .bool y,[(3,.box 95 false [.mp 7]),(7,.mapo T3 .bool h)],rfl,rfl,?_,?_,rfl,rfl,?_⟩
           ·exact eN
           ·exact eN
           ·refine rL c ?_ ?_
            ·trivial
            ·cases z:y with
             | true =>
              subst z;rw[ACy,At (by simp)]at f;repeat'(first|refine eS rfl ?_|refine AB ?_|refine rX c ?_ ?_|refine rC ?_ ?_<;>intro d<;>try(cases d;done))
              ·omega
              ·refine⟨⟨(i+1,h),g,by rw[f];exact j⟩,by simp only;omega,AC [(3,.nm 3),(7,.nm 7)] rfl rfl ?_ ?_⟩
               ·exact eN
               ·simp only[f];exact eN
             | false =>
              subst z;rw[ACH,BY rfl]at f;repeat'(first|refine eS rfl ?_|refine rC ?_ ?_<;>intro d<;>try(cases d;done))
              refine cP 2 c ?_ ?_
              ·trivial
              ·refine AAG c Tryz.underlying95 Tryz.underlying3 ?_;refine rL c ?_ ?_
               ·trivial
               ·repeat'(first|exact trivial|refine eS rfl ?_|refine AB ?_|refine rX c ?_ ?_)
                ·omega
                ·refine⟨⟨(i+1,NY T3 .bool (i:Int) h),g,by rw[f];exact L⟩,by simp only;omega,AC [(3,.nm 3),(7,.nm 7)] rfl rfl ?_ ?_⟩
                 ·exact eN
                 ·simp only[f];exact eN
      ·have g:i=List.length v:=by exact eV
       subst g;obtain⟨T,H,V,W⟩:=M;have J:Vt v (k+1) l=if (rB v l (List.length v)).2=true then Vt v k (rB v l (List.length v)).1 else (rB v l (List.length v)).1:=rfl
       rw[J]at o;refine⟨⟨((rB v l (List.length v)).2,h,(rB v l (List.length v)).1),T.trans q,j,λe=>⟨k,?_,?_⟩,λe=>?_⟩,?_,AC [(3,.nm 3),(7,.nm 7)] rfl rfl ?_ ?_⟩
       ·have:=H e;simp only;omega
       ·rw[<-o,BY e]
       ·rw[<-o,At (by rw[show (rB v l (List.length v)).2=false from e];simp)]
       ·simp only;rw[BY D];split
        ·rename_i e;have:=H e;omega
        ·omega
       ·exact eN
       ·exact eN
    ·have N:=C d;have O:=n.len0;have P:=n.len;rw[q]at P;have t:((I.length:Int)==0)=tA v:=by
      unfold tA;rw[<-N,ABX,AAN,<-O];omega
     refine cP 1 c ?_ ?_
     ·trivial
     ·refine AAH c Tryz.underlying95 ?_ ?_
      ·simp only[AO];omega
      ·refine rL c ?_ ?_
       ·trivial
       ·repeat' refine eS rfl ?_
        exact fI c [.tmp 2] (by rw[<-t];exact eR)
end
def Zy:Ae:={ ins:=[Ce],pre:=λ(l,_)=>List.length l<=100000,out:=λ(l,_)=>[.own 53 BE l] }
theorem xJ:Af Tryz.prog 48 Zy:=by
 refine fK [0,2,4] Tryz.func48 Tryz.ntmps48 AH ?_;rintro w0 O0 ⟨l,u⟩ a-d;have d:List.length l<=100000:=d;simp only[Zy,AM];repeat'(first|exact trivial|refine eS rfl ?_|refine rX a ?_ ?_)
 refine cP 1 a ?_ ?_
 ·trivial
 ·refine Xi a false rfl rfl ?_;intro b e;refine rL a ?_ ?_
  ·trivial
  ·repeat'(first|exact trivial|refine eS rfl ?_|refine rX a ?_ ?_|refine rC ?_ ?_<;>intro c<;>try(cases c;done))
   ·have f:l=[]:=e c;subst f;refine Ev.ent (σ':=⟨[(2,.sr 5 BE 0 0)],[(5,.arr 53 BE [])]⟩) ?_ (AC [(5,.nil)] rfl rfl ?_ ?_)
    ·exact GY a (.inl rfl) (rv:=.tmp 2) rfl (by simp only[H0,Hf,GL,go_sem,Nat.reduceEqDiff,reduceCtorEq,Nat.reduceAdd,Nat.reduceSub,Nat.reduceMul,Nat.reduceLeDiff,Nat.reduceLT,Int.reduceLE,Int.reduceToNat,Int.reduceNeg,↓reduceIte])
    ·exact eN
    ·exact eN
   ·simp only[AO];omega
   ·exact GY a (.inl rfl) (rv:=.tmp 2) rfl (by simp only[H0,Hf,GL,go_sem,Nat.reduceEqDiff,reduceCtorEq,Nat.reduceAdd,Nat.reduceSub,Nat.reduceMul,Nat.reduceLeDiff,Nat.reduceLT,Int.reduceLE,Int.reduceToNat,Int.reduceNeg,↓reduceIte])
def Il (h:AJ):KS:=h.1.map λt=>t.2.2.2
def Vu (N:List AE) (i:Nat) (v:Int×Int):List AE:=N.set i ((N.getD i (0,[])).1,(N.getD i (0,[])).2++[(v.1,(N.length:Int))])++[(v.2,[])]
def XC (i:Nat):List (Int×Int)->List AE->Option (List AE)
 | [],N=>some N
 | v :: r,N=>if ((N.getD i (0,[])).2.any λa=>a.1==v.1)=true then XC i r N else if 4096<=N.length then none else XC i r (Vu N i v)
def e5 (h:AJ):Nat->Nat->List AE->Option (List AE)
 | 0,_,_=>none
 | k+1,i,N=>if i<N.length then (XC i (Jo h (N.getD i (0,[])).1) N).bind (e5 h k (i+1)) else some N
def Im (h:AJ) (f:List AE):List AE×Int :=
 if (BW h f).2=false then ([],12) else if tA (Il h)=false then ([],6)
 else match e5 h ((BW h f).1.length+4097) 0 (BW h f).1 with
  | none=>([],7)
  | some N=>A5 N
theorem e7 (N:List AE) (i:Nat) (v:Int×Int):(Vu N i v).length=N.length+1:=by simp[Vu]
structure yY (h:AJ) (m i k:Nat) (N:List AE):Prop where
 len:N.length<=m
 ty:∀x∈N,0<=x.1/\x.1<(h.1.length:Int)
 lo:∀j,j<i->(N.getD j (0,[])).2.length<=200
 at':(N.getD i (0,[])).2.length<=100+k
 hi:∀j,i<j->(N.getD j (0,[])).2.length<=100
theorem A1H {α:Type} (l:List α) (x d:α) (j:Nat):(l++[x]).getD j d=if j<l.length then l.getD j d else if j=l.length then x else d:=by
 simp only[AS];by_cases h:j<l.length
 ·rw[BY h,AAo h]
 ·rw[At h,AAl (by omega)];by_cases e:j=l.length
  ·rw[BY e,e,AB7];rfl
  ·rw[At e,iF (by simp only[aS];omega)];rfl
theorem Gk {α:Type} (l:List α) (x d:α) {i:Nat} (h:i<l.length) (j:Nat):(l.set i x).getD j d=if j=i then x else l.getD j d:=by
 simp only[AS,AAY];by_cases e:i=j
 ·rw[BY e,BY h,BY e.symm];rfl
 ·rw[At e,At (show ¬j=i by omega)]
theorem A1I {N:List AE} {i:Nat} (h:i<N.length) (v:Int×Int) (j:Nat):(Vu N i v).getD j (0,[])=if j=i then ((N.getD i (0,[])).1,(N.getD i (0,[])).2++[(v.1,(N.length:Int))]) else if j=N.length then (v.2,[]) else N.getD j (0,[]):=by
 unfold Vu;rw[A1H,Gk _ _ _ h,AAD];by_cases a:j=i
 ·rw[BY a,BY (by omega),BY a]
 ·rw[At a,At a];by_cases c:j<N.length
  ·rw[BY c,At (by omega)]
  ·rw[At c];by_cases b:j=N.length
   ·rw[BY b,BY b]
   ·rw[At b,At b,AS,iF (by omega)];rfl
theorem yY.add {h:AJ} {m i k:Nat} {N:List AE} (b:yY h m i k N) (hi:i<N.length) (f:4096<=m) (e:N.length<4096) {v:Int×Int} (v0:0<=v.2) (v1:v.2<(h.1.length:Int)):yY h m i (k+1) (Vu N i v):=by
 have c:=λj=>A1I hi v j;refine⟨by rw[e7];omega,λx a=>?_,λj d=>?_,?_,λj d=>?_⟩
 ·unfold Vu at a;rcases OF.1 a with a|a
  ·rcases ABM a with a|rfl
   ·exact b.ty x a
   ·exact(b.ty (N.getD i (0,[])) (AD N (0,[]) hi) :)
  ·rw[ABe.1 a];exact⟨v0,v1⟩
 ·rw[c,At (by omega),At (by omega)];exact b.lo j d
 ·rw[c,BY rfl];have:=b.at';simp only[GO,aS];omega
 ·rw[c,At (by omega)];split
  ·simp
  ·exact b.hi j d
theorem yY.skip {h:AJ} {m i k:Nat} {N:List AE} (a:yY h m i k N):yY h m i (k+1) N:=⟨a.len,a.ty,a.lo,by have:=a.at';omega,a.hi⟩
theorem yY.next {h:AJ} {m i k:Nat} {N:List AE} (a:yY h m i k N) (hk:k<=100):yY h m (i+1) 0 N:=⟨a.len,a.ty,λj b=>by
 by_cases e:j=i
 ·have:=a.at';rw[e];omega
 ·exact a.lo j (by omega),a.hi (i+1) (by omega),λj b=>a.hi j (by omega)⟩
structure A1J (h:AJ) (f:List AE):Prop where
 inf:k9 h f
 fw:∀t∈h.1,t.2.2.2.length<=100
 vok:VOk (Il h)
 rw':∀x∈f,x.2.length<=100
theorem A6r {h:AJ} (hk:HO h) (hi:HP h) (hf:XA h) {f:List AE} (ha:LO h f):∀ {k i:Nat} {s:EP} {ty:List Int},NJ h f.length s->s7 h f k i s=some ty->ty.length=f.length/\∀t∈ty,0<=t/\t<(h.1.length:Int)
 | 0,_,_,_,_,e=>by cases e
 | k+1,i,s,ty,hs,e=>by
  unfold s7 at e;split at e
  ·rename_i b;obtain⟨n0,n1⟩:=hs.wt _ (AD s.2 (0:Int) b);cases a:KO h f (s.2.getD i 0) s with
   | none=>rw[a]at e;cases e
   | some s1 =>
    rw[a]at e;exact A6r hk hi hf ha (QW hk hi hf ha n0 n1 hs a).1 e
  ·injection e with e
   subst e;exact⟨hs.len,hs.ty⟩
theorem e9 {h:AJ} {f:List AE} (hp:k9 h f):∀x∈(BW h f).1,(0<=x.1/\x.1<(h.1.length:Int))/\∃y∈f,x.2=y.2:=by
 unfold BW;cases e:HR h f with
 | none=>intro x a;cases a
 | some ty =>
  obtain⟨h1,b⟩:=A6r hp.ok hp.inj hp.ft hp.arcs (YN hp.ty) e;intro x a;obtain⟨i,hi,rfl⟩:=Do.1 a;have hi:=oR.1 hi;exact⟨b _ (AD ty (0:Int) (by omega)),_,AD f (0,[]) hi,rfl⟩
theorem xK (h:AJ) (f:List AE):(BW h f).1.length<=f.length:=by
 unfold BW;split
 ·rw[Fm];exact NO _
 ·simp
theorem A1K {h:AJ} {f:List AE} (hp:A1J h f):yY h (max 4096 (BW h f).1.length) 0 0 (BW h f).1:=by
 have b:∀j,((BW h f).1.getD j (0,[])).2.length<=100:=λj=>by
  by_cases a:j<(BW h f).1.length
  ·obtain⟨-,y,d,e⟩:=e9 hp.inf _ (AD (BW h f).1 (0,[]) a);rw[e];exact hp.rw' y d
  ·rw[AS,iF (by omega)];simp
 exact⟨Nat.le_max_right _ _,λx c=>(e9 hp.inf x c).1,λj a=>by omega,b 0,λj _=>b j⟩
section
attribute [local go_sem] Rf tD Zy QU
attribute [local go_sem] Un i6 ne_eq not_false_eq_true
def Zz:Ae:={ ins:=[F7,D8],pre:=λ(h,f,_)=>A1J h f,out:=λ(h,f,_)=>[.p D8 (Im h f).1,.p Wq (Im h f).2] }
attribute [local go_sem] Zz
theorem A1L:Af Tryz.prog 21 Zz:=by
 refine fKP [0,1,2,3,4,5,6,7,8,10,11,13,14,16,24,27,28,29,30,41,44,45,46,47,63,75,76,77,78,87,90] [] [(57,53),(112,53)] Tryz.func21 Tryz.ntmps21 (AF Vr (AF A5z (AF xJ (AF YJ AH)))) ?_;rintro w0 O0 ⟨⟨b,hf⟩,f,u⟩ d-hp;have hp:A1J (b,hf) f:=hp;have ak:b.length<=256:=hp.inf.ok.2;simp only[Zz,AM];repeat'(first|exact trivial|refine eS rfl ?_|refine rX d ?_ ?_|refine rC ?_ ?_<;>intro c<;>try(cases c;done))
 ·exact hp.inf
 ·have g:Im (b,hf) f=([],12):=BY c;exact fI d [.cell 4 25,.tmp 5] (by rw[g];exact eR)
 ·have Q:¬(BW (b,hf) f).2=false:=by rw[c];simp
  have F:(Il (b,hf)).length=b.length:=by simp[Il]
  refine AG (ι:={i:Nat//i<=b.length}) (λi=>⟨[(2,.bp 2 [] 0),(4,.bp 4 [] 0),(6,.bp 6 [] 0),(8,.sr 37 cJ 0 i.1),(27,.p ST b),(28,.p (.int .i64) (b.length:Int)),(29,.p (.int .i64) (i.1:Int))],[(6,.box 25 true [.p Dv (BW (b,hf) f).1]),(4,.box 25 true [.raw (.slice none 0 0)]),(2,.box 31 true [.p ST b,.p TQ hf]),(37,.arr 82 cJ ((Il (b,hf)).take i.1))]⟩) (λi=>b.length-i.1) ⟨0,Is _⟩ (eW [(6,.nm 6),(4,.nm 4),(2,.nm 2),(37,.nil)]) (λi=>?_)
  ·obtain⟨i,hi⟩:=i;have ab:i<b.length->(Il (b,hf)).take i++[(List.getD b i (ByteArray.empty,[],[],[])).2.2.2]=(Il (b,hf)).take (i+1):=λh=>by
    rw[AW (Il (b,hf)) [] (by rw[F];exact h)];simp[Il,AS,h]
   have al:((Il (b,hf)).take i).length=i:=by rw[ON,F];omega
   have R:((Il (b,hf)).take i).take i=(Il (b,hf)).take i:=by rw[ACf,ADh]
   simp only;have E:i=b.length->List.take i (List.take i (Il (b,hf)))=Il (b,hf):=λe=>by
    rw[R];exact An (by rw[F];omega)
   repeat'(first|exact trivial|refine eS rfl ?_|refine AB ?_|refine rX d ?_ ?_|refine rC ?_ ?_<;>intro c<;>try(cases c;done))
   ·exact c
   ·simp only[AO];omega
   ·omega
   ·have K:i<b.length:=No.1 c;have aa:=ab K;refine⟨⟨i+1,K⟩,by simp only;omega,AC [(6,.nm 6),(4,.nm 4),(2,.nm 2),(37,.nm 37)] rfl rfl ?_ ?_⟩
    ·simp only[<-aa];refine eM ?_;rw[R]
    ·exact eN
   ·rw[E (by exact eV)];exact hp.vok
   ·have m:=E (by exact eV);rw[m]at c;have g:Im (b,hf) f=([],6):=by
     unfold Im;rw[At Q,BY c]
    exact fI d [.cell 4 25,.tmp 5] (by rw[g];exact eR)
   ·have m:=E (by exact eV);rw[m]at c;have D:=A1K hp;have an:=xK (b,hf) f;have aj:=hp.inf.good.1;have g:Im (b,hf) f=match e5 (b,hf) ((BW (b,hf) f).1.length+4097) 0 (BW (b,hf) f).1 with
      | none=>([],7)
      | some N=>A5 N:=by
     unfold Im;rw[At Q,At (by rw[c];simp)];all_goals rfl
    generalize (BW (b,hf) f).1=x at *;refine AG (ι:={j:Nat//j<=x.length}) (λj=>⟨[(2,.bp 2 [] 0),(4,.bp 4 [] 0),(11,.sr 58 GH 0 j.1),(44,.p Dv x),(45,.p (.int .i64) (x.length:Int)),(46,.p (.int .i64) (j.1:Int))],[(4,.box 25 true [.raw (.slice none 0 0)]),(2,.box 31 true [.p ST b,.p TQ hf]),(58,.nest 49 53 T3 BE (x.take j.1) none)]⟩) (λj=>x.length-j.1) ⟨0,Is _⟩ (eW [(4,.nm 4),(2,.nm 2),(58,.nil)]) (λj=>?_)
    ·obtain⟨j,O⟩:=j;have X:∀y∈x,y.2.length<=100:=λy G=>by
      obtain⟨k,hk,rfl⟩:=AAr.1 G;have e:x.getD k (0,[])=x[k]:=by rw[AS,AT hk];rfl
      rw[<-e];by_cases h0:k=0
      ·rw[h0];exact D.at'
      ·exact D.hi k (by omega)
     simp only;repeat'(first|exact trivial|refine eS rfl ?_|refine rX d ?_ ?_|refine rC ?_ ?_<;>intro c<;>try(cases c;done))
     ·exact c
     ·have z:j<x.length:=No.1 c;have Y:=X _ (AD x (0,[]) z);refine B4 drawsAny d 9 [([1,2,3,4,5,6],7),([0],8)] [] (by kernel_rfl) (Lf ?_ ?_)
      ·dsimp only[Ty.den]at *;omega
      ·refine AAJ d ?_ ?_
       ·rfl
       ·refine Lf ?_ ?_
        ·trivial
        ·refine Nm d [58,57] ?_ ?_
         ·have e:(List.take j x).length=j:=by rw[ON];omega
          rw[e];simp only[AO];exact⟨trivial,by omega⟩
         ·refine Pm d ?_ ?_ ?_
          ·trivial
          ·trivial
          ·repeat'(first|refine eS rfl ?_|refine AB ?_|refine rX d ?_ ?_)
           ·omega
           ·have e:=AW x (0,[]) z;refine⟨⟨j+1,z⟩,by simp only;omega,AC [(4,.nm 4),(2,.nm 2),(58,.nm 58)] rfl rfl ?_ ?_⟩
            ·simp only[e];exact eN
            ·refine eM ?_;rw[ON];omega
     ·have z:j=x.length:=by exact eV
      subst z;have ad:x.take x.length=x:=An (NO _);rw[ad];refine AG (ι:={s:Nat×List AE//s.1<=s.2.length/\yY (b,hf) (max 4096 x.length) s.1 0 s.2/\∃k,max 4096 x.length+1<=k+s.1/\e5 (b,hf) (x.length+4097) 0 x=e5 (b,hf) k s.1 s.2}) (λs=>⟨[(2,.bp 2 [] 0),(4,.bp 4 [] 0),(11,.sr 58 GH 0 s.1.2.length),(14,.p (.int .i64) (s.1.1:Int))],[(4,.box 25 true [.raw (.slice none 0 0)]),(2,.box 31 true [.p ST b,.p TQ hf]),(58,.nest 49 53 T3 BE s.1.2 none)]⟩) (λs=>max 4096 x.length+1-s.1.1) ⟨(0,x),Is _,D,x.length+4097,by omega,rfl⟩ (eW [(4,.nm 4),(2,.nm 2),(58,.nm 58)]) (λs=>?_)
      ·obtain⟨⟨i,N⟩,V,r,k,hk,m⟩:=s;simp only at V r m hk ⊢;have ai:=r.len;repeat'(first|exact trivial|refine eS rfl ?_|refine rX d ?_ ?_|refine rC ?_ ?_<;>intro c<;>try(cases c;done))
       ·have q:i<N.length:=No.1 c;exact⟨c,r.ty _ (AD N (0,[]) q)⟩
       ·have q:i<N.length:=No.1 c;obtain⟨ae,af⟩:=r.ty _ (AD N (0,[]) q);obtain⟨k,rfl⟩:∃H,k=H+1:=⟨k-1,by omega⟩;have C:e5 (b,hf) (k+1) i N=(XC i (Jo (b,hf) (N.getD i (0,[])).1) N).bind (e5 (b,hf) k (i+1)):=BY q;rw[C]at m;have P:=YM (h:=(b,hf)) ae af;have ag:(Jo (b,hf) (N.getD i (0,[])).1).length<=100:=hp.fw _ P;have T:∀a∈Jo (b,hf) (N.getD i (0,[])).1,0<=a.2/\a.2<((b,hf):AJ).1.length:=hp.inf.ft.val _ P;have J:∀l,l=Jo (b,hf) (N.getD i (0,[])).1->(List.getD b (Int.toNat (N.getD i (0,[])).1) (ByteArray.empty,[],[],[])).2.2.2=l:=λl e=>by rw[e];rfl
        generalize S:Jo (b,hf) (N.getD i (0,[])).1=L at *;rw[J L rfl];clear J S;refine AG (ι:={y:Nat×List AE//y.1<=L.length/\yY (b,hf) (max 4096 x.length) i y.1 y.2/\i<y.2.length/\XC i L N=XC i (L.drop y.1) y.2}) (λy=>⟨[(2,.bp 2 [] 0),(4,.bp 4 [] 0),(11,.sr 58 GH 0 y.1.2.length),(14,.p (.int .i64) (i:Int)),(75,.p cJ L),(76,.p (.int .i64) (L.length:Int)),(77,.p (.int .i64) (y.1.1:Int))],[(4,.box 25 true [.raw (.slice none 0 0)]),(2,.box 31 true [.p ST b,.p TQ hf]),(58,.nest 49 53 T3 BE y.1.2 none)]⟩) (λy=>L.length-y.1.1) ⟨(0,N),Is _,r,q,rfl⟩ (eW [(4,.nm 4),(2,.nm 2),(58,.nm 58)]) (λy=>?_)
        ·obtain⟨⟨j,M⟩,O,t,o,n⟩:=y;simp only at O t o n ⊢;have ah:=t.len;repeat'(first|exact trivial|refine eS rfl ?_|refine AB ?_|refine rX d ?_ ?_|refine rC ?_ ?_<;>intro c<;>try(cases c;done))
         ·exact c
         ·have B:j<L.length:=No.1 c;have w:XC i (L.drop j) M=if ((M.getD i (0,[])).2.any λa=>a.1==(L.getD j (0,0)).1)=true then XC i (L.drop (j+1)) M else if 4096<=M.length then none else XC i (L.drop (j+1)) (Vu M i (L.getD j (0,0))):=by rw[Lo (0,0) B];rfl
          obtain⟨v0,v1⟩:=T _ (AD L (0,0) B);have Y:=t.at';generalize am:L.getD j (0,0)=v at *;refine cP 6 d ?_ ?_
          ·exact No.2 o
          ·have key:=A1D v (M.getD i (0,[])).2 (by omega);generalize List.any (M.getD i (0,[])).2 (λa=>(Prod.fst a==v.1))=I at *;refine AAK d key rfl ?_;refine rL d ?_ ?_
           ·trivial
           ·repeat'(first|exact trivial|refine eS rfl ?_|refine AB ?_|refine rX d ?_ ?_|refine rC ?_ ?_<;>intro c<;>try(cases c;done))
            ·omega
            ·rename_i A;rw[BY c]at w;exact⟨⟨(j+1,M),B,t.skip,o,n.trans w⟩,by simp only;omega,eW [(4,.nm 4),(2,.nm 2),(58,.nm 58)]⟩
            ·have A:I=false:=by assumption
             rw[At (by rw[A];simp),BY (aT.1 c)]at w;rw[m,n,w]at g;have g:Im (b,hf) f=([],7):=g;exact fI d [.cell 4 25,.tmp 5] (by rw[g];exact eR)
            ·have W:M.length<4096:=No.1 c;have A:I=false:=by assumption
             rw[At (by rw[A];simp),At (by omega)]at w;refine B4 drawsAny d 14 [([2,3,4,5,6,7,8,9,10,11,12],13)] [0,1] (by kernel_rfl) (Lf ?_ ?_)
             ·exact No.2 o
             ·refine mxN d 58 ?_ ?_
              ·simp only[AO];dsimp only[Ty.den]at *;omega
              ·refine Pm d ?_ ?_ ?_
               ·trivial
               ·exact No.2 o
               ·repeat'(first|refine eS rfl ?_|refine AB ?_|refine rX d ?_ ?_)
                ·rw[AAD];simp only[AO];exact⟨trivial,by omega⟩
                ·omega
                ·refine⟨⟨(j+1,Vu M i v),B,t.add o (by omega) W v0 v1,by rw[e7];omega,n.trans w⟩,by simp only;omega,AC [(4,.nm 4),(2,.nm 2),(58,.nm 58)] rfl rfl ?_ ?_⟩
                 ·unfold Vu;exact eN
                 ·unfold Vu;exact eN
         ·omega
         ·have U:L.drop j=[]:=IF (aT.1 c);rw[U]at n;have n:XC i L N=some M:=n;rw[n]at m;exact⟨⟨(i+1,M),o,t.next (by omega),k,by simp only;omega,m⟩,by simp only;omega,eW [(4,.nm 4),(2,.nm 2),(58,.nm 58)]⟩
       ·have q:¬i<N.length:=λh=>by
         have:=aT.1 c;omega
        obtain⟨k,rfl⟩:∃H,k=H+1:=⟨k-1,by omega⟩;have C:e5 (b,hf) (k+1) i N=some N:=At q;rw[m,C]at g;have g:Im (b,hf) f=A5 N:=g;have Z:QT N:=λy G=>by
         obtain⟨k,hk,rfl⟩:=AAr.1 G;have e:N.getD k (0,[])=N[k]:=by rw[AS,AT hk];rfl
         rw[<-e];exact r.lo k (by omega)
        refine Gc [58] ?_;repeat'(first|refine eS rfl ?_|refine rX d ?_ ?_)
        ·exact Z
        ·exact fI d [.cell 4 25,.tmp 5] (by rw[g];exact eR)
end
section
attribute [local go_sem] QI QH VJ QL
def NM:Ae:={ ins:=[FP],pre:=λ_=>True,out:=λ(d,_)=>[.p F7 (Bh d)] }
attribute [local go_sem] NM
theorem YT:Af Tryz.prog 14 NM:=by
 refine fK [0,2,3,4,5,9,16] Tryz.func14 Tryz.ntmps14 (AF kD (AF kB AH)) ?_;rintro w0 O0 ⟨d,u⟩ a - -;simp only[NM,AM];repeat'(first|exact trivial|refine eS rfl ?_|refine rX a ?_ ?_|refine rC ?_ ?_<;>intro b<;>try(cases b;done))
 ·have h1:Bh d=(Az d).1:=by unfold Bh;rw[BY ⟨by exact eV,b⟩]
  exact fI a [.cell 2 31] (by rw[h1];exact eR)
 ·have h1:Bh d=(Az IY).1:=by unfold Bh;rw[At (λh=>b h.2)]
  exact fI a [.cell 2 31] (by rw[h1];exact eR)
 ·have h1:Bh d=(Az IY).1:=by
   unfold Bh;rw[At];intro h;have:=h.1;exact eV
  exact fI a [.cell 2 31] (by rw[h1];exact eR)
def QY:Ae:={ ins:=[F7,T58],pre:=λ_=>True,out:=λ(h,l,_)=>[.p .bool (YA h l)],lend:=true }
attribute [local go_sem] QY
theorem xL:Af Tryz.prog 17 QY:=by
 refine fK [0,1,2,4,6,7,8,9,10,21] Tryz.func17 Tryz.ntmps17 (AF A17 (AF wI AH)) ?_;rintro w0 O0 ⟨⟨c,hf⟩,l,u⟩ d ⟨-,⟨j,-⟩,-⟩ -;simp only[AO]at j;simp only[QY,AM];repeat'(first|exact trivial|refine eS rfl ?_|refine rX d ?_ ?_)
 refine AG (ι:={k:Nat//k<=l.length/\(l.take k).all (Jn (c,hf))=true}) (λk=>⟨[(2,.bp 2 [] 0),(7,.p T58 l),(8,.p (.int .i64) (l.length:Int)),(9,.p (.int .i64) (k.1:Int))],[(2,.box 31 true [.p ST c,.p TQ hf])]⟩) (λk=>l.length-k.1) ⟨0,by simp⟩ (eW [(2,.nm 2)]) (λk=>?_)
 ·obtain⟨k,hk,g⟩:=k;repeat'(first|exact trivial|refine eS rfl ?_|refine AB ?_|refine rX d ?_ ?_|refine rC ?_ ?_<;>intro a<;>try(cases a;done))
  ·exact a
  ·intro h;obtain⟨h1,b⟩:=Ma (f:=l.getD k []) (by simpa using h);exact⟨Qo h1 (by decide),λx m=>Qo (b x m) (by decide)⟩
  ·have e:k<l.length:=No.1 (by assumption);have h1:YA (c,hf) l=false:=by
    unfold YA;rw[ABq];refine⟨_,AD l [] e,?_⟩;unfold Jn;rw[As,AAN];rintro⟨b,i⟩;rcases a with h|h
    ·rw[b]at h;cases h
    ·exact h i
   exact fI d [.tmp 4] (by rw[h1];exact eR)
  ·omega
  ·have e:k<l.length:=No.1 (by assumption);refine⟨⟨k+1,e,?_⟩,by simp only;omega,AC [(2,.nm 2)] rfl rfl ?_ ?_⟩
   ·have h:Jn (c,hf) (l.getD k [])=true:=by
     have b:=a.2;unfold Jn;rw[a.1,ACx,AAN];simpa using b
    rw[AW l [] e,ACb,g];simpa using h
   ·exact eN
   ·exact eN
  ·have hk:l.take k=l:=An (aT.1 a);rw[hk]at g;have h1:YA (c,hf) l=true:=g;exact fI d [.tmp 4] (by rw[h1];exact eR)
def tE:Ae:={ ins:=[Dv],pre:=λ_=>True,out:=λ(l,_)=>[.p D8 l] }
attribute [local go_sem] tE
theorem A5A:Af Tryz.prog 33 tE:=by
 refine fK [0,2] Tryz.func33 Tryz.ntmps33 AH ?_;rintro w0 O0 ⟨t,u⟩ a - -;simp only[tE,AM];repeat'(first|exact trivial|refine eS rfl ?_|refine rX a ?_ ?_)
 exact fI a [.cell 2 25]
def Gl (l:List Int) (n:Nat):List (Int×Int):=(List.range n).map λi=>(l.getD (2*i) 0,l.getD (2*i+1) 0)
theorem fA (l:List Int) (n:Nat):Gl l (n+1)=Gl l n++[(l.getD (2*n) 0,l.getD (2*n+1) 0)]:=by simp[Gl,AAq]
theorem lB (l:List Int) (n:Nat):(Gl l n).length=n:=by simp[Gl]
def Th:Ae:={ ins:=[T3,Es],pre:=λ(_,l,_)=>List.length l<=1000,out:=λ(t,l,_)=>[.p GH (t,Gl l (List.length l / 2))] }
attribute [local go_sem] Th
theorem xM:Af Tryz.prog 34 Th:=by
 refine fK [0,1,4,5,6,13] Tryz.func34 Tryz.ntmps34 AH ?_;rintro w0 O0 ⟨t,l,u⟩ a-b;simp only[Th,AM];repeat'(first|exact trivial|refine eS rfl ?_|refine rX a ?_ ?_)
 have b:l.length<=1000:=b;refine AG (ι:={k:Nat//k<=l.length / 2}) (λk=>⟨[(1,.p Es l),(4,.bp 4 [] 0),(5,.bp 5 [] 0),(6,.p (.int .i64) (2*(k.1:Int)))],[(4,.box 49 true [.p T3 (0:Int),.raw (.slice none 0 0)]),(5,.box 49 true [.p T3 t,.sr 29 BE 0 (Gl l k.1).length]),(29,.arr 53 BE (Gl l k.1))]⟩) (λk=>l.length / 2-k.1) ⟨0,Is _⟩ (AC [(4,.nm 4),(5,.nm 5),(29,.nil)] rfl rfl ?_ ?_) (λk=>?_)
 ·refine eM ?_;exact⟨rfl,rfl⟩
 ·refine eM ?_;rfl
 ·obtain⟨k,hk⟩:=k;have e:=lB l k;have f:=fA l k;simp only;repeat'(first|exact trivial|refine eS rfl ?_|refine AB ?_|refine rX a ?_ ?_|refine rC ?_ ?_<;>intro c<;>try(cases c;done))
  ·omega
  ·rw[e];simp only[AO];exact eV
  ·omega
  ·refine⟨⟨k+1,by omega⟩,by simp only;omega,AC [(4,.nm 4),(5,.nm 5),(29,.nm 29)] rfl rfl ?_ ?_⟩
   ·simp only[f];refine eM ?_;rw[show (2*(k:Int)).toNat=2*k by omega,show (2*(k:Int)+1).toNat=2*k+1 by omega]
   ·refine eM ?_;show (2*(k:Int)+2)=2*((k:Int)+1);omega
  ·have d:k=l.length / 2:=by omega
   subst d;exact fI a [.cell 4 49]
end
section
open Go
end
theorem getD_set_ne {α:Type} (l:List α) (d v:α) {i j:Nat} (h:i≠j):(l.set i v).getD j d=l.getD j d:=by
 simp only[AS];rw[List.getElem?_set_ne h]
theorem Nu {α:Type} (l:List α) (d v:α) {i:Nat} (h:i<l.length):(l.set i v).getD i d=v:=by
 simp only[AS];rw[ACA h];rfl
section
open Go
end
section
open Go
end
section
open Go
end
section
attribute [local go_sem] MX sN
end
abbrev Ag (f:List AE) (n:Int):List (Int×Int):=(f.getD n.toNat (0,[])).2
theorem Nv {f:List AE} (h:EB f=true):AP f 0=f:=by
 obtain⟨d,hs,h0,_⟩:=Mj h;unfold EB at h;simp only[As,AAN]at h;obtain⟨_,a,b⟩:=h;have c:(A5 f).1=Fl f 0:=by
  unfold A5 at a ⊢;split at a
  ·rename_i hh;rw[BY hh]
  ·rename_i hh;exact absurd a hh
 rw[c]at b;rw[<-Ig d hs (by omega) (by omega)];exact JU b
theorem lC {b:Int->Int×Int->Bool} {f:List AE} (h:∀i,i<f.length->∀a∈(f.getD i (0,[])).2,b (i:Int) a=true):GR b f f.length=f:=by
 apply AAU
 ·exact KP _ _ _
 ·intro i h1 c;have e:f.getD i (0,[])=f[i]:=by simp[AS,c]
  have:=h i c;simp only[GR,ABZ,AC3,A1z];rw[List.filter_eq_self.2 this,e]
theorem lD {b:Int->Int×Int->Bool} {f:List AE} (c:EB f=true) (h:∀i,i<f.length->∀a∈(f.getD i (0,[])).2,b (i:Int) a=true):Vm b f=f:=by
 unfold Vm;rw[lC h];exact Nv c
theorem fB {f:List AE} (hf:Ad f):∀(k:Nat) (o:List Int) (n:Int),LN f o->0<=n->n<f.length->n∉o->f.length-o.length<=k->Dq f (k+1) o n=Dq f k o n
 | 0,o,n,h,h0,h1,d,hk=>by
  have:=(h.snoc h0 h1 d).len;simp only[GO,aS]at this;omega
 | k+1,o,n,h,h0,h1,d,hk=>by
  rw[CH,CH];have key:∀(l:List (Int×Int)) (t:List Int),(∀a∈l,0<=a.2/\a.2<(f.length:Int))->LN f t->f.length-t.length<=k->l.foldl (AZ f (k+1)) t=l.foldl (AZ f k) t:=by
   intro l;induction l with
   | nil=>intros;rfl
   | cons a l p =>
    intro t i e m;have c:=i a (by simp);have hs:AZ f (k+1) t a=AZ f k t a:=by
     unfold AZ;split
     ·rfl
     ·rename_i hn;exact fB hf k t a.2 e c.1 c.2 hn m
    have g:LN f (AZ f k t a)/\t <+: AZ f k t a:=by
     unfold AZ;split
     ·exact⟨e,AB6 _⟩
     ·rename_i hn;exact EE hf k t a.2 e c.1 c.2 hn
    rw[TO,TO,hs];have:=g.2.length_le;exact p _ (λb j=>i b (by simp[j])) g.1 (by omega)
  exact key _ _ (λa ha=>Bv hf ha) (h.snoc h0 h1 d) (by simp only[GO,aS];omega)
theorem Hj (f:List AE):LN f []:=⟨by simp,λx a=>by cases a⟩
theorem Vv {f:List AE} (hf:Ad f) {n:Int} (h0:0<=n) (h1:n<f.length):∀m,Dq f (f.length+m) [] n=Dq f f.length [] n
 | 0=>rfl
 | m+1=>by
  rw[<-AD9,fB hf _ [] n (Hj f) h0 h1 (by simp) (by simp only[ABn];omega)];exact Vv hf h0 h1 m
structure Iso (Q R:List AE) (ψ:Int->Int) (C:Int->Prop):Prop where
 arc:∀i,C i->Ag R (ψ i)=(Ag Q i).map λa=>(a.1,ψ a.2)
 cl:∀i,C i->∀a∈Ag Q i,C a.2
 inj:∀i j,C i->C j->ψ i=ψ j->i=j
theorem Ti {Q R:List AE} {c:Int->Int} {f:Int->Prop} (h:Iso Q R c f):∀(k:Nat) (t:List Int) (i:Int),(∀x∈t,f x)->f i->Dq R k (t.map c) (c i)=(Dq Q k t i).map c/\∀x∈Dq Q k t i,f x
 | 0,t,i,d,hi=>⟨rfl,d⟩
 | k+1,t,i,d,hi=>by
  have key:∀(l:List (Int×Int)) (t:List Int),(∀a∈l,f a.2)->(∀x∈t,f x) ->
    (l.map λa=>(a.1,c a.2)).foldl (AZ R k) (t.map c)=(l.foldl (AZ Q k) t).map c/\∀x∈l.foldl (AZ Q k) t,f x:=by
   intro l;induction l with
   | nil=>intro t _ d;exact⟨rfl,d⟩
   | cons a l q =>
    intro t m d;have ha:=m a (by simp);have hs:AZ R k (t.map c) (a.1,c a.2)=(AZ Q k t a).map c/\∀x∈AZ Q k t a,f x:=by
     unfold AZ;by_cases j:a.2∈t
     ·rw[BY j,BY (Do.2 ⟨_,j,rfl⟩)];exact⟨rfl,d⟩
     ·have p:¬c a.2∈t.map c:=by
       intro hh;obtain⟨x,g,e⟩:=Do.1 hh;exact j (h.inj x a.2 (d x g) ha e▸g)
      rw[At j];simp only[At p];exact Ti h k t a.2 d ha
    rw[AAn,TO,TO,hs.1];exact q _ (λb o=>m b (by simp[o])) hs.2
  rw[CH,CH];have e:t.map c++[c i]=(t++[i]).map c:=by simp
  have n:(R.getD (c i).toNat (0,[])).2=(Ag Q i).map λa=>(a.1,c a.2):=h.arc i hi;rw[n,e];refine key _ _ (h.cl i hi) λx g=>?_;rcases OF.1 g with g|g
  ·exact d x g
  ·have:x=i:=by simpa using g
   rw[this];exact hi
theorem A1M {o:List Int} {a:Int->Int} {x:Int} (h:∀y∈o,a y=a x->y=x):CE (o.map a) (a x)=CE o x:=by
 have hi:(o.map a).idxOf (a x)=o.idxOf x:=by
  induction o with
  | nil=>rfl
  | cons y o g =>
   rw[AAn,List.idxOf_cons,List.idxOf_cons];have c:=h y (by simp);by_cases e:y=x
   ·subst e;simp
   ·have d:¬a y=a x:=λhh=>e (c hh);have b1:(y==x)=false:=by simpa using e
    have b2:(a y==a x)=false:=by simpa using d
    rw[b1,b2,g (λz f=>h z (by simp[f]))]
 unfold CE;by_cases b:x∈o
 ·rw[BY b,BY (Do.2 ⟨x,b,rfl⟩),hi]
 ·rw[At b,At];intro hh;obtain⟨y,c,e⟩:=Do.1 hh;exact b (h y c e▸c)
theorem XD {Q R:List AE} {b:Int->Int} {c:Int->Prop} (h:Iso Q R b c) (l:Ad Q) (k:c 0) (h0:b 0=0) (r:0<Q.length) (s:Q.length<=R.length)
  (m:∀i,c i->(R.getD (b i).toNat (0,[])).1=(Q.getD i.toNat (0,[])).1):AP R 0=AP Q 0:=by
 have f:Dq R R.length [] 0=(Dq Q Q.length [] 0).map b/\∀x∈Dq Q Q.length [] 0,c x:=by
  have h1:=Ti h R.length [] 0 (λx p=>by cases p) k;rw[h0]at h1;have g:=Vv l (n:=0) (by omega) (by omega) (R.length-Q.length);rw[show Q.length+(R.length-Q.length)=R.length by omega]at g;rw[g]at h1;exact h1
 unfold AP;rw[f.1];generalize Dq Q Q.length [] 0=o at *;rw[ABm];refine oS λi hi=>?_;have d:=f.2 i hi;show Ee R (o.map b) (b i)=Ee Q o i;unfold Ee;have j:(R.getD (b i).toNat (0,[])).2=(Ag Q i).map λa=>(a.1,b a.2):=h.arc i d;rw[m i d,j,ABm];refine ABr _ (oS λa ha=>?_);show (a.1,CE (o.map b) (b a.2))=(a.1,CE o a.2);rw[A1M λy q e=>h.inj y a.2 (f.2 y q) (h.cl i d a ha) e]
structure Ord (f:List AE) (o:List Int):Prop where
 ok:LN f o
 zero:o.getD 0 0=0/\0<o.length
 cl:∀n∈o,∀a∈Ag f n,a.2∈o
theorem A1N {f:List AE} (hf:Ad f) (h0:0<f.length):[0] <+: Dq f f.length [] 0:=by
 obtain⟨k,hk⟩:∃k,f.length=k+1:=⟨f.length-1,by omega⟩;rw[hk,CH];exact(Ex (EE hf k) _ _ (λa ha=>Bv hf ha) ((Hj f).snoc (by omega) (by omega) (by simp))).2
theorem A1O {f:List AE} (hf:Ad f) (h0:0<f.length):Ord f (Dq f f.length [] 0):=by
 have h1:=EE hf f.length [] 0 (Hj f) (by omega) (by omega) (by simp);have b:=Ie hf f.length [] 0 (Hj f) (by omega) (by omega) (by simp) (by simp);have c:=A1N hf h0;refine⟨h1.1,?_,λn hn a ha=>?_⟩
 ·obtain⟨t,d⟩:=c;rw[<-d];exact⟨rfl,by simp⟩
 ·rcases b.2 n hn with h|h
  ·cases h
  ·exact h a ha
theorem Io {o:List Int} (hn:o.Nodup) {i:Nat} (hi:i<o.length):CE o (o.getD i 0)=(i:Int):=by
 have e:o.getD i 0=o[i]:=by rw[AS,AT hi];rfl
 rw[e];unfold CE;rw[BY (AAR hi),hn.idxOf_getElem i hi]
theorem GE {o:List Int} {x:Int} (h:x∈o):0<=CE o x/\CE o x<(o.length:Int)/\o.getD (CE o x).toNat 0=x:=by
 unfold CE;rw[BY h];have a:=List.idxOf_lt_length_of_mem h;refine⟨by omega,by omega,?_⟩;rw[gO,AS,AT a];show o[o.idxOf x]=x;exact List.getElem_idxOf a
theorem xN (f:List AE):(AP f 0).length=(Dq f f.length [] 0).length:=by simp[AP]
theorem xO {f:List AE} {i:Nat} (hi:i<(Dq f f.length [] 0).length):(AP f 0).getD i (0,[])=Ee f (Dq f f.length [] 0) ((Dq f f.length [] 0).getD i 0):=by
 unfold AP;simp[AS,hi]
theorem fC (a:Int->Int×Int->Bool) {f:List AE} {n:Int} (h0:0<=n) (h1:n<f.length):(GR a f f.length).getD n.toNat (0,[])=((f.getD n.toNat (0,[])).1,(Ag f n).filter (a n)):=by
 have hn:n.toNat<f.length:=by omega
 have e:((n.toNat:Nat):Int)=n:=by omega
 unfold GR;simp only[AS,AA1,AB1 hn,ABD,ABx,A1z];rw[e];rfl
theorem A1P {f:List AE} (hs:Og f) (n:Int):(Ag f n).Pairwise (λa b=>a.1<b.1):=(Ij _).1 (kR hs n).1
theorem xP {f:List AE} (hf:Ad f) (hs:Og f) (h0:0<f.length) (a:Int->Int×Int->Bool) {n:Int} (hn:n∈Dq (GR a f f.length) f.length [] 0) :
  Ag (Vm a f) (CE (Dq (GR a f f.length) f.length [] 0) n)=((Ag f n).filter (a n)).map (Mf (Dq (GR a f f.length) f.length [] 0)):=by
 obtain⟨h,l⟩:=YO hf hs a;have c:=KP a f f.length;have e:=A1O h (by omega);have d:=λi=>xO (f:=GR a f f.length) (i:=i);rw[c]at e d;obtain⟨j,k,g⟩:=GE hn;have b:=e.ok.rng n hn;rw[c]at b;show ((Vm a f).getD _ (0,[])).2=_;have:Vm a f=AP (GR a f f.length) 0:=rfl;rw[this,d _ (by omega),g];unfold Ee;rw[fC a b.1 b.2]
section
open Go
end
section
attribute [local go_sem] YB
def Oi (l:List (Int×Int)) (e:Int):Int:=match l with
 | []=>-1
 | a :: l=>if a.1=e then a.2 else Oi l e
end
section
attribute [local go_sem] YB
structure A1Q (a b:List AE) (m:List Int):Prop where
 len:m.length=a.length
 rng:∀x∈m,x<(b.length:Int)
theorem A1Q.set {a b:List AE} {m:List Int} (h:A1Q a b m) (k:Nat) {v:Int} (d:v<(b.length:Int)):A1Q a b (m.set k v):=by
 refine⟨by simp[h.len],λx c=>?_⟩;rcases ABM c with c|c
 ·exact h.rng x c
 ·rw[c];exact d
theorem A1Q.get {a b:List AE} {m:List Int} (h:A1Q a b m) (c:0<b.length) (k:Nat):m.getD k 0<(b.length:Int):=by
 rw[AS];cases hh:m[k]? with
 | none=>show (0:Int)<_;omega
 | some x=>exact h.rng x (AB2 hh)
def Ip (h:AJ) (f:List AE):Prop:=∀x∈f,0<=x.1/\x.1<(h.1.length:Int)
theorem QZ {f:List AE} (hf:Ad f) (k:Nat):∀x∈(f.getD k (0,[])).2,0<=x.2/\x.2<(f.length:Int):=by
 intro x a;by_cases h:k<f.length
 ·exact(hf.2 _ (AD f (0,[]) h)).2 x a
 ·rw[AS,iF (by omega)]at a;cases a
end
structure Vx (h:AJ) (a b:List AE) (m:Int->Int):Prop where
 zero:m 0=0
 rng:∀i,0<=i->i<(a.length:Int)->0<=m i/\m i<(b.length:Int)
 ty:∀i,0<=i->i<(a.length:Int)->A7 h (a.getD i.toNat (0,[])).1 (b.getD (m i).toNat (0,[])).1=true
 arc:∀i,0<=i->i<(a.length:Int)->∀x∈Ag a i,Oi (Ag b (m i)) x.1=m x.2
theorem Qa {l:List (Int×Int)} (h:l.Pairwise (λa b=>a.1<b.1)) {a:Int×Int} (ha:a∈l):Oi l a.1=a.2:=by
 induction l with
 | nil=>cases ha
 | cons b l d =>
  obtain⟨h1,c⟩:=AAX.1 h;simp only[Oi];rcases By.1 ha with rfl|ha
  ·rw[BY rfl]
  ·grind
theorem fD {l:List (Int×Int)} {e:Int} (h:0<=Oi l e):∃a∈l,a.1=e/\a.2=Oi l e:=by
 induction l with
 | nil=>simp only[Oi]at h;omega
 | cons b l c =>
  simp only[Oi]at h ⊢;split
  ·grind
  ·grind
theorem A7e {f:List AE} (hs:Og f) {n:Int} {a:Int×Int} (ha:a∈Ag f n):Oi (Ag f n) a.1=a.2:=Qa (A1P hs n) ha
def RO (f:List AE):Prop:=∀i:Int,0<i->i<(f.length:Int)->∃j,0<=j/\j<i/\∃x∈Ag f j,x.2=i
theorem A5B {M:List Int} {k j:Nat} {v:Int} (hk:k<M.length):(M.set k v).getD j 0=if k=j then v else M.getD j 0:=by grind
theorem Vy {f:List AE} (hf:Ad f):∀(k:Nat) (t:List Int) (n:Int),LN f t->0<=n->n<f.length->n∉t ->
  ∀q,t.length<q->q<(Dq f k t n).length->∃j,j<q/\∃a∈Ag f ((Dq f k t n).getD j 0),a.2=(Dq f k t n).getD q 0
 | 0,t,n,h,h0,h1,x,q,A,d=>by simp only[Dq]at d;omega
 | k+1,t,n,h,h0,h1,x,q,A,d=>by
  have key:∀(l:List (Int×Int)) (u:List Int),(∀a∈l,a∈Ag f n)->LN f u->t++[n] <+: u ->
    (∀q,t.length<q->q<u.length->∃j,j<q/\∃a∈Ag f (u.getD j 0),a.2=u.getD q 0) ->
    ∀q,t.length<q->q<(l.foldl (AZ f k) u).length->∃j,j<q/\∃a∈Ag f ((l.foldl (AZ f k) u).getD j 0),a.2=(l.foldl (AZ f k) u).getD q 0:=by
   intro l;induction l with
   | nil=>intro u _ _ _ hu q o c;exact hu q o c
   | cons a l G =>
    intro u y hu s E;have ha:=y a (by simp);have g:=Bv hf ha;rw[TO];by_cases p:a.2∈u
    ·grind [AZ]
    ·have hs:AZ f k u a=Dq f k u a.2:=by unfold AZ;rw[At p]
     rw[hs];obtain⟨C,w⟩:=EE hf k u a.2 hu g.1 g.2 p;have r:∀j,j<u.length->(Dq f k u a.2).getD j 0=u.getD j 0:=λj D=>by
      obtain⟨v,m⟩:=w;rw[<-m];simp only[AS];rw[AAo D]
     have F:u.getD t.length 0=n:=by
      obtain⟨v,m⟩:=s;rw[<-m];simp[AS]
     have B:t.length<u.length:=by
      have:=s.length_le;simp at this;omega
     refine G (Dq f k u a.2) (λb i=>y b (by simp[i])) C (s.trans w) (λq o c=>?_);by_cases z:q<u.length
     ·obtain⟨j,H,b,i,e⟩:=E q o z;refine⟨j,H,b,?_,?_⟩
      ·rw[r j (by omega)];exact i
      ·rw[r q z];exact e
     ·by_cases d:q=u.length
      ·subst d;refine⟨t.length,B,a,?_,?_⟩
       ·rw[r _ B,F];exact ha
       ·cases k with
        | zero=>simp only[Dq]at c;omega
        | succ k =>
         have hp:u++[a.2] <+: Dq f (k+1) u a.2:=by
          rw[CH];exact(Ex (EE hf k) _ _ (λb i=>Bv hf i) (hu.snoc g.1 g.2 p)).2
         obtain⟨v,m⟩:=hp;rw[<-m];simp[AS]
      ·exact Vy hf k u a.2 hu g.1 g.2 p q (by omega) c
  rw[CH]at d ⊢;exact key _ (t++[n]) (λa ha=>ha) (h.snoc h0 h1 x) (AB6 _) (λq o c=>by simp only[GO,aS]at c;omega) q A d
theorem A5C {f:List AE} (hf:Ad f) (hs:Og f) (h0:0<f.length) (b:Int->Int×Int->Bool):RO (Vm b f):=by
 obtain⟨g,t⟩:=YO hf hs b;have h:=KP b f f.length;have c:=A1O g (by omega);have k:=xN (GR b f f.length);have m:=Vy g (GR b f f.length).length [] 0 (Hj _) (by omega) (by omega) (by simp);have q:=λn hn=>xP hf hs h0 b (n:=n) hn;rw[h]at c k m;have r:(Vm b f).length=(Dq (GR b f f.length) f.length [] 0).length:=k;intro i s p;rw[r]at p;generalize Dq (GR b f f.length) f.length [] 0=o at *;obtain⟨j,u,a,ha,e⟩:=m i.toNat (by simp only[ABn];omega) (by omega);have l:o.getD j 0∈o:=AD _ 0 (by omega);have d:=c.ok.rng _ l;rw[h]at d;rw[Ag,fC b d.1 d.2]at ha;refine⟨(j:Int),by omega,by omega,Mf o a,?_,?_⟩
 ·have:=q _ l;rw[Io c.ok.nd (by omega)]at this;rw[this];exact Do.2 ⟨a,ha,rfl⟩
 ·show CE o a.2=i;rw[e,Io c.ok.nd (by omega)];omega
theorem lE (x:List Int):Mb x x=true:=by grind [Mb,Hr,SZ]
theorem Rg (h:AJ) (t:Int):A7 h t t=true:=lE _
abbrev Dt (p:List Int) (n:Int):Int:=p.getD n.toNat 0
structure Fo (p:List Int) (rk:Int->Nat):Prop where
 rng:∀n,0<=n->n<(p.length:Int)->0<=Dt p n/\Dt p n<(p.length:Int)
 dec:∀n,0<=n->n<(p.length:Int)->Dt p n≠n->rk (Dt p n)<rk n
inductive Rt (p:List Int):Int->Int->Prop
 | base {n:Int} (h:Dt p n=n):Rt p n n
 | step {n r:Int} (h:Dt p n≠n) (h2:Rt p (Dt p n) r):Rt p n r
theorem Rt.det {p:List Int} {n r s:Int} (h:Rt p n r) (g:Rt p n s):r=s:=by
 induction h with
 | base h =>
  cases g with
  | base g=>rfl
  | step g _=>exact absurd h g
 | step h _ b =>
  cases g with
  | base g=>exact absurd g h
  | step _ a=>exact b a
theorem Rt.root {p:List Int} {n r:Int} (h:Rt p n r):Dt p r=r:=by
 induction h with
 | base h=>exact h
 | step _ _ a=>exact a
theorem Fo.ex {p:List Int} {b:Int->Nat} (h:Fo p b):∀(k:Nat) (n:Int),b n<=k->0<=n->n<(p.length:Int)->∃r,Rt p n r/\0<=r/\r<(p.length:Int)
 | 0,n,hk,h0,h1=>by
  by_cases e:Dt p n=n
  ·exact⟨n,.base e,h0,h1⟩
  ·have:=h.dec n h0 h1 e;omega
 | k+1,n,hk,h0,h1=>by
  by_cases e:Dt p n=n
  ·exact⟨n,.base e,h0,h1⟩
  ·have g:=h.dec n h0 h1 e;have a:=h.rng n h0 h1;obtain⟨r,c,d,f⟩:=h.ex k (Dt p n) (by omega) a.1 a.2;exact⟨r,.step e c,d,f⟩
theorem Fo.root {p:List Int} {a:Int->Nat} (h:Fo p a) {n:Int} (h0:0<=n) (h1:n<(p.length:Int)):∃r,Rt p n r/\0<=r/\r<(p.length:Int):=h.ex (a n) n (NO _) h0 h1
theorem DC {p:List Int} {n v:Int} (h0:0<=n) (h1:n<(p.length:Int)) (x:Int) (a:0<=x):Dt (p.set n.toNat v) x=if x=n then v else Dt p x:=by
 unfold Dt;rw[A5B (by omega)];by_cases e:x=n
 ·subst e;rw[BY rfl,BY rfl]
 ·rw[At (by omega),At e]
def GF (p:List Int) (n:Int):List Int:=p.set n.toNat (Dt p (Dt p n))
theorem Rh (p:List Int) (n:Int):(GF p n).length=p.length:=by simp[GF]
theorem A1R {p:List Int} {f:Int->Nat} (h:Fo p f) {n:Int} (h0:0<=n) (h1:n<(p.length:Int)) (hn:Dt p n≠n):Fo (GF p n) f:=by
 have c:=h.rng n h0 h1;have g:=h.rng _ c.1 c.2;have i:=h.dec n h0 h1 hn;have j:f (Dt p (Dt p n))<=f (Dt p n):=by
  by_cases e:Dt p (Dt p n)=Dt p n
  ·rw[e];exact NO _
  ·exact ACj (h.dec _ c.1 c.2 e)
 refine⟨λx a b=>?_,λx a b d=>?_⟩
 ·rw[Rh]at b ⊢;unfold GF;rw[DC h0 h1 x a];split
  ·exact g
  ·exact h.rng x a b
 ·rw[Rh]at b;unfold GF at d ⊢;rw[DC h0 h1 x a]at d ⊢;split
  ·rename_i e;subst e;omega
  ·rename_i e;rw[At e]at d;exact h.dec x a b d
theorem fE {p:List Int} {o:Int->Nat} (h:Fo p o) {n:Int} (h0:0<=n) (h1:n<(p.length:Int)) (hn:Dt p n≠n):∀(k:Nat) (x r:Int),o x<=k->0<=x->x<(p.length:Int)->Rt p x r->Rt (GF p n) x r:=by
 intro k;induction k with
 | zero =>
  intro x r hk a j i;have e:Dt p x=x:=DO λe=>by have:=h.dec x a j e;omega
  have d:x≠n:=λb=>hn (b▸e);have:=i.det (.base e);rw[this];refine .base ?_;unfold GF;rw[DC h0 h1 x a,At d];exact e
 | succ k l =>
  intro x r hk a j i;by_cases e:Dt p x=x
  ·have d:x≠n:=λb=>hn (b▸e);have:=i.det (.base e);rw[this];refine .base ?_;unfold GF;rw[DC h0 h1 x a,At d];exact e
  ·have u:=h.dec x a j e;have c:=h.rng x a j;have f:Rt p (Dt p x) r:=by
    cases i with
    | base g=>exact absurd g e
    | step _ g=>exact g
   by_cases d:x=n
   ·subst d;by_cases b:Dt p (Dt p x)=Dt p x
    ·have:=f.det (.base b);rw[this]at f ⊢;refine .step (r:=Dt p x) ?_ ?_
     ·unfold GF;rw[DC h0 h1 x a,BY rfl,b];exact e
     ·have hp:Dt (GF p x) x=Dt p x:=by
       unfold GF;rw[DC h0 h1 x a,BY rfl,b]
      rw[hp];exact l _ _ (by omega) c.1 c.2 f
    ·have s:=h.dec _ c.1 c.2 b;have m:=h.rng _ c.1 c.2;have t:Rt p (Dt p (Dt p x)) r:=by
      cases f with
      | base g=>exact absurd g b
      | step _ g=>exact g
     have hp:Dt (GF p x) x=Dt p (Dt p x):=by
      unfold GF;rw[DC h0 h1 x a,BY rfl]
     refine .step ?_ ?_
     ·rw[hp];intro q;rw[q]at s;omega
     ·rw[hp];exact l _ _ (by omega) m.1 m.2 t
   ·have hp:Dt (GF p n) x=Dt p x:=by
     unfold GF;rw[DC h0 h1 x a,At d]
    refine .step ?_ ?_
    ·rw[hp];exact e
    ·rw[hp];exact l _ _ (by omega) c.1 c.2 f
def Ez (p q:List Int):Prop:=p.length=q.length/\∀x r,0<=x->x<(p.length:Int)->(Rt p x r↔Rt q x r)
theorem Ez.refl (p:List Int):Ez p p:=⟨rfl,λ_ _ _ _=>Iff.rfl⟩
theorem Ez.trans {p q s:List Int} (h:Ez p q) (g:Ez q s):Ez p s :=
 ⟨h.1.trans g.1,λx r a b=>(h.2 x r a b).trans (g.2 x r a (by rw[<-h.1];exact b))⟩
theorem lF {p:List Int} {d:Int->Nat} (h:Fo p d) {n:Int} (h0:0<=n) (h1:n<(p.length:Int)) (hn:Dt p n≠n):Ez p (GF p n):=by
 refine⟨(Rh p n).symm,λx r b c=>⟨λa=>fE h h0 h1 hn _ x r (NO _) b c a,λa=>?_⟩⟩;obtain⟨s,hs,-,-⟩:=h.root b c;have:=fE h h0 h1 hn _ x s (NO _) b c hs;have e:=this.det a;rw[<-e];exact hs
def YU (h:AJ) (p ty:List Int) (ar:List (List (Int×Int))):List (Nat×Obj):=[(1,.box 130 true [.p F7 h,.sr 2 T3 0 p.length,.sr 3 T3 0 ty.length,.sr 4 Ce 0 ar.length]),(2,.arr 3 T3 p),(3,.arr 3 T3 ty),(4,.arr 47 Ce ar)]
theorem Z0 (h:AJ) (ty:List Int) (ar:List (List (Int×Int))) (d:Int->Nat) {p:List Int} (hp:Fo p d) {n:Int} (h0:0<=n) (h1:n<(p.length:Int)):BA Tryz.prog 118 [.bp 1 [] 0,.p T3 n] (YU h p ty ar) [1]
  (λres A=>∃(t:List Int) (r:Int),res=.p T3 r/\A=YU h t ty ar/\Fo t d/\Ez p t/\Rt p n r):=by
 refine Jh [0,1,4,13] [] [] Tryz.func118 Tryz.ntmps118 AH ?_;intro w0 K O0 ρ0 j C D;simp only[Aj,YU];repeat'(first|exact trivial|refine eS rfl ?_|refine rX j ?_ ?_)
 refine AG (ι:={x:List Int×Int//Fo x.1 d/\Ez p x.1/\0<=x.2/\x.2<(p.length:Int)/\(∀r,Rt x.1 x.2 r->Rt p n r)}) (λx=>⟨[(0,.bp 1 [] 0),(1,.p T3 x.1.2)],[(1,.box 130 true [.p F7 h,.sr 2 T3 0 p.length,.sr 3 T3 0 ty.length,.sr 4 Ce 0 ar.length]),(2,.arr 3 T3 x.1.1),(3,.arr 3 T3 ty),(4,.arr 47 Ce ar)]⟩) (λx=>d x.1.2) ⟨(p,n),hp,Ez.refl p,h0,h1,λ_ g=>g⟩ (eW [(1,.nm 1),(2,.nm 2),(3,.nm 3),(4,.nm 4)]) (λx=>?_)
 ·obtain⟨⟨q,m⟩,b,hs,a,f,s⟩:=x;simp only at b hs a f s;have o:q.length=p.length:=hs.1.symm;have c:=b.rng m a (by omega);simp only;repeat'(first|exact trivial|refine eS rfl ?_|refine AB ?_|refine rX j ?_ ?_|refine rC ?_ ?_<;>intro i<;>try(cases i;done))
  ·exact⟨a,f⟩
  ·exact⟨⟨a,f⟩,⟨c.1,by rw[<-o];exact c.2⟩,a,f⟩
  ·exact⟨a,f⟩
  ·have k:Dt q m≠m:=i;have B:=b.dec m a (by omega) k;have u:=b.rng _ c.1 c.2;have w:d (Dt q (Dt q m))<=d (Dt q m):=by
    by_cases e:Dt q (Dt q m)=Dt q m
    ·rw[e];exact NO _
    ·exact ACj (b.dec _ c.1 c.2 e)
   have v:=lF b a (by omega) k;have l:Dt (GF q m) m=Dt q (Dt q m):=by
    unfold GF;rw[DC a (by omega) m a,BY rfl]
   refine⟨⟨(GF q m,Dt q (Dt q m)),A1R b a (by omega) k,hs.trans v,u.1,by rw[<-o];exact u.2,λr z=>s r ?_⟩,by simp only;omega,AC [(1,.nm 1),(2,.nm 2),(3,.nm 3),(4,.nm 4)] rfl rfl ?_ ?_⟩
   ·refine(v.2 m r a (by omega)).2 (.step ?_ ?_)
    ·rw[l];intro e;rw[e]at w;omega
    ·rw[l];exact z
   ·refine eM ?_;rfl
   ·refine eM ?_;exact l
  ·have y:Dt q m=m:=by simpa using i
   refine Ev.ent (σ':=⟨[(4,.p T3 m)],YU h q ty ar⟩) ?_ (AC [(1,.nm 1),(2,.nm 2),(3,.nm 3),(4,.nm 4)] rfl rfl ?_ ?_)
   ·exact fM j [.tmp 4] (.p T3 m) eT ⟨q,m,rfl,rfl,b,hs,s m (.base y)⟩
   ·unfold YU;rw[o];exact eN
   ·exact eN
end Go.Proofs.YtdapahgnpbehbaaGreat.Fw
