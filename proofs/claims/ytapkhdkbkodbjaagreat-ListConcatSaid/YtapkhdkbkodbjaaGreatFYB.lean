/- Contracts of the program's and the reference's functions, and the plain laws of what they compute: P9 R08a P3 P4 P5 P2 P7 W1 W2 W3 W4 D2 D3 W5 U1 U2 U3 U4 U5 U6 U7 U8 U9 U10 N7 U11 U12 N8 U14 W10 I1 I2 I3 C37 H1 T4 T2 T3 T5 T13 T14 T15 T6 T7 T8 T9 T10 T11 T16 N9 V1 V2 V4 V5 V6 V9 V10 T19 T20 T22 T24 W6 T26 W7 T27 T21 T23 T25 U13 V3 SN V11 V7 V8 T28 U17 H4 V14 T36 T30 J1 H2 H3 J2 I4 I6 I5 I7 V15 V16 J3 T29 K1 K2 K3 K4 O1 O2. -/
import Derived.Test.YtapkhdkbkodbjaaGreatFYA
import Derived.Test.YtapkhdkbkodbjaaGreatFZJ
import Derived.Test.YtapkhdkbkodbjaaGreatFZI
import Derived.Laws.Strings
set_option linter.unusedVariables false
set_option linter.unusedSimpArgs false
namespace Go.Proofs.YtapkhdkbkodbjaaGreat.Fw
open Go
attribute [local irreducible] Ev
attribute [local go_sem] rG AN List.toList_toArray B1 evG evK YK FF Lg It Ha Ip VQ PR DU Dj PP DM DN frz vE G8 DW BC GJ Bj AV.frz AV.frzs AV.drp AV.drps AV.names AV.namess aq G9 LU LV VL KK Bp B3 K8 Eu KN Ew KP KO KQ YI So Hz Mn GL Ej YJ Tv qUn K9 Jg OB Fi EM KR LY E4 VN Dg E5 Fj Tw Jh PN Fk PM Sq Tx Na KS LZ E6 EO H0 ER JE Dh Fl Di E7 Gi DM DA Q1 Tu Q8 HT KM KL LX Su VO PO OG OD Lc VP OE Ld eD Sw Sv AV.trn AV.trns FI DT Obj.trn LG mT EP E9 Ek E8 Ck Fm Aq lk Il HN JC bin vC aF vH VM zK zL pfs AV.cells CM K7 Q7 Lb Ss Ca PK Ty.cell1 KJ FJ EL Gg NR E3 LQ NZ Q6 Gf HS OA VJ YH NQ LP d8 lO VK Im DB Hy RV.flat Ty.flat Ty.size St.add upd del Bg Value.oneCell' LT Ty.dflt KH Ua Jm Ug List.take_succ_cons List.take_zero List.length_cons rK rO Uf Lv Py Jo M2 A4u Hb Pl Pm Pn Po Vi Vj Pp Kb bB Option.map_some Option.map_none Option.bind_some Option.getD_some Option.getD_none Option.isNone_none Option.isNone_some Bool.and_true Bool.true_and Bool.and_false Bool.false_and Bool.not_true Bool.not_false if_true if_false List.length_cons List.length_nil and_true true_and and_self List.all_cons List.all_nil List.append_nil List.nil_append List.cons_append List.getElem?_cons_zero List.getElem?_cons_succ List.getElem?_nil List.map_cons List.map_nil List.set_cons_zero List.set_cons_succ List.isEmpty_nil List.isEmpty_cons decide_true decide_false beq_self_eq_true bne_self_eq_false Nat.zero_add Nat.add_zero Nat.sub_zero Int.toNat_natCast Int.toNat_zero Int.toNat_one List.take_length List.length_append List.length_singleton true_or or_true or_self false_or or_false Ty.agg.injEq Ty.slice.injEq Ty.prod.injEq Ty.int.injEq Option.some.injEq beq_iff_eq Mz evMG evMQ opM JN Nh B8 LF Hc TC LE JM Kd My Ls RJ Pu RK Vm Pt Uc Ud Mx AU Ak Op.operands Call.operands List.filterMap_cons List.filterMap_nil List.append_eq Bool.cond_false_right Bool.cond_true_left cond_true cond_false implies_true decide_eq_true_eq beq_true beq_false Bool.or_true Bool.or_false Bool.true_or Bool.false_or Option.isSome_some Array.empty_append List.append_toArray GK PQ Fq Io eC Sr Gh Hn Hm Ji JD La OC aG vF Ii inB Le Ge HV Lf A1 rT List.drop_zero Dl Iw fR CY Lx CU AV.fgt AV.fgts Obj.fgt Ay Aj AU DZ JO BU IB List.any_cons List.any_nil lM mP fS mQ Ik P0 qs List.flatMap_cons List.flatMap_nil List.cons_append tn fY IG List.take_succ_cons List.drop_succ_cons f7 HC BG A0z RU CC CR Ad Fv Lo Bz Fu ET JK Ka HA JL
attribute [local go_sem] ty1 ty2 ty3 ty4 ty5 ty9 A79 A7a A7b A7c A7d A7e A7f A7g A7h A7i A7j A7k A7l A7m A7n A7o A7p A0I A0J A0K A0L A0M A0N A0O A0P A0Q A0R A0S A0T A0U A0V A0W A0X A0Y A0Z A10 A11 A12 A13 A14 A15 A16 A17 A18 A19 A1a A1b A1c A1d A1e A1f A1g A1h A1i A1j A1k A1l A1m A1n A1o A1p A1q
set_option maxRecDepth 100000
set_option maxHeartbeats 4000000
theorem J0 {x y:Int} {xs ys:List Int} (h:Kp (x :: xs) (y :: ys)=0):x=y/\Kp xs ys=0:=by
 simp only[Kp]at h;split at h
 .cases h
 split at h
 .cases h
 exact⟨by omega,h⟩
theorem XO:∀ {l m:List (Int×Int)} {r s:List Int},l.length=m.length->Kp (l.flatMap (λa=>[a.1,a.2])++r) (m.flatMap (λa=>[a.1,a.2])++s)=0->l=m/\Kp r s=0
 | [],[],_,_,_,h=>⟨rfl,by simpa using h⟩
 | [],_ :: _,_,_,hl,_=>by simp at hl
 | _ :: _,[],_,_,hl,_=>by simp at hl
 | (b,c) :: l,(b1,b2) :: m,r,s,hl,h=>by
  have h:Kp (b :: c :: (l.flatMap (λa=>[a.1,a.2])++r)) (b1 :: b2 :: (m.flatMap (λa=>[a.1,a.2])++s))=0:=by simpa using h
  obtain⟨e1,e⟩:=J0 h;obtain⟨e2,f⟩:=J0 e;obtain⟨d,g⟩:=XO (l:=l) (m:=m) (by simpa using hl) f;exact⟨by rw[e1,e2,d],g⟩
theorem XP:∀ {l m:List AB} {r s:List Int},l.length=m.length->Kp (l.flatMap XD++r) (m.flatMap XD++s)=0->l=m/\Kp r s=0
 | [],[],_,_,_,h=>⟨rfl,by simpa using h⟩
 | [],_ :: _,_,_,hl,_=>by simp at hl
 | _ :: _,[],_,_,hl,_=>by simp at hl
 | (c,b) :: l,(b1,b2) :: m,r,s,hl,h=>by
  have h:Kp (c :: (b.length:Int) :: (b.flatMap (λa=>[a.1,a.2])++(l.flatMap XD++r))) (b1 :: (b2.length:Int) :: (b2.flatMap (λa=>[a.1,a.2])++(m.flatMap XD++s)))=0:=by simpa[XD] using h
  obtain⟨e1,f⟩:=J0 h;obtain⟨e2,g⟩:=J0 f;obtain⟨d,i⟩:=XO (l:=b) (m:=b2) oa g;obtain⟨e,j⟩:=XP (l:=l) (m:=m) (by simpa using hl) i;exact⟨by rw[e1,d,e],j⟩
theorem MV {a b:List AB} (h:CN a b=0):a=b:=by
 unfold CN Bu at h;obtain⟨h1,c⟩:=J0 h;have:=XP (l:=a) (m:=b) (r:=[]) (s:=[]) oa (by simpa using c);exact this.1
theorem Ze:∀l:List Int,Kp l l=0
 | []=>rfl
 | x :: l=>by simp[Kp,Ze l]
theorem JY (a:List AB):CN a a=0:=Ze _
theorem XQ (x:Int×Int) (s:List (Int×Int)):∀n,(∀j,Hf x s n<=j->j<n->x.1<(s.getD j (0,0)).1)/\(0<Hf x s n->(s.getD (Hf x s n-1) (0,0)).1<=x.1)
 | 0=>⟨λj h1 b=>by omega,λh=>by simp[Hf]at h⟩
 | n+1=>by
  obtain⟨h1,b⟩:=XQ x s n;unfold Hf;split
  .rename_i c;refine⟨λj a d=>?_,b⟩;by_cases e:j=n
   .subst e;exact c
   exact h1 j a oa
  rename_i c;exact⟨λj a d=>by omega,λ_=>by simp only[Nat.add_sub_cancel];omega⟩
theorem A7A {l:List (Int×Int)} (h:l.Pairwise (λa b=>a.1<=b.1)) {i j:Nat} (d:i<=j) (c:j<l.length):(l.getD i (0,0)).1<=(l.getD j (0,0)).1:=by
 rcases Nat.eq_or_lt_of_le d with rfl|e
 .exact Sh _
 rw[Sl]at h;have:=h i j oa c e;simpa[AS,c,show i<l.length by omega] using this
theorem jE {s:List (Int×Int)} (h:s.Pairwise (λa b=>a.1<=b.1)) (x:Int×Int):(NT s x).Pairwise (λa b=>a.1<=b.1):=by
 obtain⟨h1,f⟩:=XQ x s s.length;have l:=Ur x s s.length;unfold NT;generalize Hf x s s.length=p at *;rw[AAq,AAq];have d:∀a∈s.take p,a.1<=x.1:=λa ha=>by
  obtain⟨i,hi,rfl⟩:=AAi.1 ha;rw[OS]at hi;have g:=A7A h (i:=i) (j:=p-1) oa oa;have k:=f oa;have e:(s.take p)[i].1=(s.getD i (0,0)).1:=by simp[AS,show i<s.length by omega]
  rw[e];omega
 have c:∀b∈s.drop p,x.1<=b.1:=λb hb=>by
  obtain⟨i,hi,rfl⟩:=AAi.1 hb;rw[aS]at hi;have g:=h1 (p+i) oa oa;have e:(s.drop p)[i].1=(s.getD (p+i) (0,0)).1:=by simp[AS,show p+i<s.length by omega]
  rw[e];omega
 refine⟨⟨h.sublist (List.take_sublist _ _),by simp,λa ha b hb=>?_⟩,h.sublist (List.drop_sublist _ _),λa ha b hb=>?_⟩
 .have:b=x:=by simpa using hb
  rw[this];exact d a ha
 rcases Do.1 ha with ha|ha
 .exact AAv (d a ha) (c b hb)
 have:a=x:=by simpa using ha
 rw[this];exact c b hb
theorem UF (l:List (Int×Int)):(AZ l).Pairwise (λa b=>a.1<=b.1):=by
 induction l using EE with
 | h0=>exact List.Pairwise.nil
 | h1 l a c=>rw[Hg];exact jE c a
theorem Te {n:Int}:∀ {l seen:List (Int×Int)},F2 n seen l=0->(l.map (·.1)).Nodup/\∀a∈l,∀b∈seen,b.1≠a.1
 | [],_,_=>⟨by simp,λa ha=>by cases ha⟩
 | x :: l,seen,h=>by
  simp only[F2]at h;split at h
  .cases h
  split at h
  .cases h
  rename_i h1 c;obtain⟨f,d⟩:=Te h;have c:∀b∈seen,b.1≠x.1:=λb hb e=>c (To.2 ⟨b,hb,by simp[e]⟩);refine⟨?_,λa ha b hb=>?_⟩
  .rw[Sj,UN];refine⟨λg=>?_,f⟩;obtain⟨a,ha,e⟩:=Y1.1 g;exact d a ha x sc e.symm
  rcases At.1 ha with rfl|ha
  .exact c b hb
  exact d a ha b (by simp[hb])
theorem XR {m:Int}:∀ {f:List AB},GG m f=0->∀x∈f,Gu x.2 m=0
 | [],_,x,hx=>by cases hx
 | y :: f,h,x,hx=>by
  simp only[GG]at h;split at h
  .cases h
  split at h
  .rename_i h1 a;exact absurd h a
  rename_i h1 a;rcases At.1 hx with rfl|hx
  .exact IS a
  exact XR h x hx
theorem yG {l:List (Int×Int)} (h:l.Pairwise (λa b=>a.1<=b.1)) (hn:(l.map (·.1)).Nodup):l.Pairwise (λa b=>a.1<b.1):=by
 rw[List.Nodup,iF]at hn;refine(h.and hn).imp λ{a b} c=>?_;have h1:=c.1;have d:¬a.1=b.1:=c.2;omega
theorem MW {f:List AB} (h:Du f=true):AO f/\IX f/\0<f.length/\HG f=true:=by
 unfold Du at h;simp only[An,UQ]at h;obtain⟨⟨hl,_⟩,b,c⟩:=h;obtain⟨r,d⟩:=MR hl;have p:Rv f:=λx hx=>SX (d x hx) oa;have a:CE f=0:=by
  unfold BA at b;split at b
  .assumption
  exact b
 obtain⟨l,h0⟩:=IU a p;have i:(BA f).1=I9 f 0:=by unfold BA;rw[DO a]
 rw[i]at c;have j:=MV c;refine⟨l,λx hx=>⟨?_,SX (d x hx) oa⟩,h0,hl⟩;rw[<-j]at hx;obtain⟨n,_,rfl⟩:=Y1.1 hx;rw[FD];have g:((f.getD n.toNat (0,[])).2.map (·.1)).Nodup:=by
  by_cases m:n.toNat<f.length
  .have o:f.getD n.toNat (0,[])∈f:=AE f (0,[]) m;have k:GG f.length f=0:=by
    unfold CE at a;split at a
    .cases a
    split at a
    .cases a
    exact a
   exact(Te (XR k _ o)).1
  rw[AS,Si oa];simp
 have q:=yG (UF (f.getD n.toNat (0,[])).2) (((Eq _).map (·.1)).nodup_iff.2 g);unfold MQ;simp only;rw[iF];exact q.imp λe=>e
section
open Go
end
theorem getD_set_ne {α:Type} (l:List α) (d v:α) {i j:Nat} (h:i≠j):(l.set i v).getD j d=l.getD j d:=by
 simp only[AS];rw[List.getElem?_set_ne h]
theorem YV {α:Type} (l:List α) (d v:α) {i:Nat} (h:i<l.length):(l.set i v).getD i d=v:=by
 simp only[AS];rw[List.getElem?_set_self h];rfl
section
open Go
end
section
attribute [local go_sem] CZ
end
section
attribute [local go_sem] CZ
def Q3 (l:List (Int×Int)) (x:Int):Int:=l.foldl (λt a=>if a.1=x then a.2 else t) (-1)
end
section
attribute [local go_sem] Kq i6
end
abbrev AK (f:List AB) (n:Int):List (Int×Int):=(f.getD n.toNat (0,[])).2
def AY (f:List AB):Int->List Int->Option Int
 | n,[]=>some n
 | n,x :: r=>if Q3 (AK f n) x<0 then none else AY f (Q3 (AK f n) x) r
theorem Oz (f:List AB):∀(p:List Int) (n m x:Int),AY f n p=some m->AY f n (p++[x])=if Q3 (AK f m) x<0 then none else some (Q3 (AK f m) x)
 | [],n,m,x,h=>by
  simp only[AY,AAf]at h;subst h;rfl
 | y :: p,n,m,x,h=>by
  simp only[AY,AAo]at h ⊢;split at h
  .cases h
  rename_i a;rw[BY a];exact Oz f p _ m x h
theorem tK {l:List (Int×Int)} (h:l.Pairwise (λa b=>a.1<b.1)) {a:Int×Int} (ha:a∈l):Q3 l a.1=a.2:=by
 have i:∀(l:List (Int×Int)) (t:Int),(∀b∈l,¬b.1=a.1)->l.foldl (λt b=>if b.1=a.1 then b.2 else t) t=t:=by
  intro l;induction l with
  | nil=>intro t _;rfl
  | cons b l g =>
   intro t hl;rw[SU,BY (hl b sc)];exact g t (λc f=>hl c (by simp[f]))
 obtain⟨l1,l2,rfl⟩:=List.append_of_mem ha;rw[AAq,Sm]at h;obtain⟨-,⟨d,-⟩,-⟩:=h;unfold Q3;rw[AAO,SU,DO rfl];exact i l2 _ (λb hb e=>by have:=d b hb;omega)
theorem Nu {f:List AB} (h:Du f=true):AH f 0=f:=by
 obtain⟨d,hs,h0,_⟩:=MW h;unfold Du at h;simp only[An,UQ]at h;obtain⟨_,a,b⟩:=h;have c:(BA f).1=I9 f 0:=by
  unfold BA at a ⊢;split at a
  .rename_i hh;rw[DO hh]
  rename_i hh;exact absurd a hh
 rw[c]at b;rw[<-MT d hs oa oa];exact MV b
theorem o7 {b:Int->Int×Int->Bool} {f:List AB} (h:∀i,i<f.length->∀a∈(f.getD i (0,[])).2,b (i:Int) a=true):GI b f f.length=f:=by
 apply AA6
 .exact Jz _ _ _
 intro i h1 c;have e:f.getD i (0,[])=f[i]:=by simp[AS,c]
 have:=h i c;simp only[GI,AAU,AAX,A2v];rw[List.filter_eq_self.2 this,e]
theorem o8 {b:Int->Int×Int->Bool} {f:List AB} (c:Du f=true) (h:∀i,i<f.length->∀a∈(f.getD i (0,[])).2,b (i:Int) a=true):XN b f=f:=by
 unfold XN;rw[o7 h];exact Nu c
theorem jF {f:List AB} (hf:AO f):∀(k:Nat) (o:List Int) (n:Int),JA f o->0<=n->n<f.length->n∉o->f.length-o.length<=k->Ba f (k+1) o n=Ba f k o n
 | 0,o,n,h,h0,h1,c,hk=>by
  have:=(h.snoc h0 h1 c).len;grind
 | k+1,o,n,h,h0,h1,c,hk=>by
  rw[Bv,Bv];have key:∀(l:List (Int×Int)) (t:List Int),(∀a∈l,0<=a.2/\a.2<(f.length:Int))->JA f t->f.length-t.length<=k->l.foldl (AX f (k+1)) t=l.foldl (AX f k) t:=by
   intro l;induction l with
   | nil=>intros;rfl
   | cons a l i =>
    intro t hl ht g;have e:=hl a sc;have hs:AX f (k+1) t a=AX f k t a:=by
     unfold AX;split
     .rfl
     rename_i hn;exact jF hf k t a.2 ht e.1 e.2 hn g
    have d:JA f (AX f k t a)/\t <+: AX f k t a:=by grind [AX,DR]
    rw[SU,SU,hs];have:=d.2.length_le;exact i _ (λb hb=>hl b (by simp[hb])) d.1 oa
  exact key _ _ (λa ha=>Af hf ha) (h.snoc h0 h1 c) (by simp only[As,If];omega)
theorem F4 (f:List AB):JA f []:=⟨by simp,λx hx=>by cases hx⟩
theorem J4 {f:List AB} (hf:AO f) {n:Int} (h0:0<=n) (h1:n<f.length):∀m,Ba f (f.length+m) [] n=Ba f f.length [] n
 | 0=>rfl
 | m+1=>by
  rw[<-AC3,jF hf _ [] n (F4 f) h0 h1 sc (by simp only[AA1];omega)];exact J4 hf h0 h1 m
structure o9 (Q R:List AB) (ψ:Int->Int) (C:Int->Prop):Prop where
 arc:∀i,C i->AK R (ψ i)=(AK Q i).map λa=>(a.1,ψ a.2)
 cl:∀i,C i->∀a∈AK Q i,C a.2
 inj:∀i j,C i->C j->ψ i=ψ j->i=j
theorem Qa {Q R:List AB} {ψ:Int->Int} {C:Int->Prop} (h:o9 Q R ψ C):∀(k:Nat) (t:List Int) (i:Int),(∀x∈t,C x)->C i->Ba R k (t.map ψ) (ψ i)=(Ba Q k t i).map ψ/\∀x∈Ba Q k t i,C x
 | 0,t,i,ht,hi=>⟨rfl,ht⟩
 | k+1,t,i,ht,hi=>by
  have key:∀(l:List (Int×Int)) (t:List Int),(∀a∈l,C a.2)->(∀x∈t,C x) ->
    (l.map λa=>(a.1,ψ a.2)).foldl (AX R k) (t.map ψ)=(l.foldl (AX Q k) t).map ψ/\∀x∈l.foldl (AX Q k) t,C x:=by
   intro l;induction l with
   | nil=>intro t _ ht;exact⟨rfl,ht⟩
   | cons a l g =>
    intro t hl ht;have ha:=hl a sc;have hs:AX R k (t.map ψ) (a.1,ψ a.2)=(AX Q k t a).map ψ/\∀x∈AX Q k t a,C x:=by
     unfold AX;by_cases c:a.2∈t
     .grind
     have f:¬ψ a.2∈t.map ψ:=by
      intro hh;obtain⟨x,hx,e⟩:=Y1.1 hh;exact c (h.inj x a.2 (ht x hx) ha e▸hx)
     rw[BY c];simp only[BY f];exact Qa h k t a.2 ht ha
    rw[Sj,SU,SU,hs.1];exact g _ (λb hb=>hl b (by simp[hb])) hs.2
  rw[Bv,Bv];have e:t.map ψ++[ψ i]=(t++[i]).map ψ:=by simp
  have d:(R.getD (ψ i).toNat (0,[])).2=(AK Q i).map λa=>(a.1,ψ a.2):=h.arc i hi;rw[d,e];refine key _ _ (h.cl i hi) λx hx=>?_;grind
theorem jG {o:List Int} {ψ:Int->Int} {x:Int} (h:∀y∈o,ψ y=ψ x->y=x):Ax (o.map ψ) (ψ x)=Ax o x:=by
 have hi:(o.map ψ).idxOf (ψ x)=o.idxOf x:=by
  induction o with
  | nil=>rfl
  | cons y o a =>
   rw[Sj,List.idxOf_cons,List.idxOf_cons];have hy:=h y sc;by_cases e:y=x
   .subst e;simp
   grind
 grind [Ax]
theorem YW {Q R:List AB} {ψ:Int->Int} {C:Int->Prop} (h:o9 Q R ψ C) (f:AO Q) (d:C 0) (h0:ψ 0=0) (j:0<Q.length) (k:Q.length<=R.length)
  (hty:∀i,C i->(R.getD (ψ i).toNat (0,[])).1=(Q.getD i.toNat (0,[])).1):AH R 0=AH Q 0:=by
 have hd:Ba R R.length [] 0=(Ba Q Q.length [] 0).map ψ/\∀x∈Ba Q Q.length [] 0,C x:=by
  have h1:=Qa h R.length [] 0 (λx hx=>by cases hx) d;rw[h0]at h1;have g:=J4 f (n:=0) oa oa (R.length-Q.length)
  simp_all
 unfold AH;rw[hd.1];generalize Ba Q Q.length [] 0=o at *;rw[bY];refine Of λi hi=>?_;have b:=hd.2 i hi;show CG R (o.map ψ) (ψ i)=CG Q o i;unfold CG;have c:(R.getD (ψ i).toNat (0,[])).2=(AK Q i).map λa=>(a.1,ψ a.2):=h.arc i b;rw[hty i b,c,bY];refine oN _ (Of λa ha=>?_);show (a.1,Ax (o.map ψ) (ψ a.2))=(a.1,Ax o a.2);rw[jG λy hy e=>h.inj y a.2 (hd.2 y hy) (h.cl i b a ha) e]
structure Ord (f:List AB) (o:List Int):Prop where
 ok:JA f o
 zero:o.getD 0 0=0/\0<o.length
 cl:∀n∈o,∀a∈AK f n,a.2∈o
theorem A2w {f:List AB} (hf:AO f) (h0:0<f.length):[0] <+: Ba f f.length [] 0:=by
 obtain⟨k,hk⟩:∃k,f.length=k+1:=⟨f.length-1,by omega⟩;rw[hk,Bv];exact(D8 (DR hf k) _ _ (λa ha=>Af hf ha) ((F4 f).snoc oa oa sc)).2
theorem A2x {f:List AB} (hf:AO f) (h0:0<f.length):Ord f (Ba f f.length [] 0):=by
 have h1:=DR hf f.length [] 0 (F4 f) oa oa sc;have c:=IW hf f.length [] 0 (F4 f) oa oa sc sc;have b:=A2w hf h0;refine⟨h1.1,?_,λn hn a ha=>?_⟩
 .obtain⟨t,ht⟩:=b;rw[<-ht];exact⟨rfl,by simp⟩
 grind
theorem DI {o:List Int} (hn:o.Nodup) {i:Nat} (hi:i<o.length):Ax o (o.getD i 0)=(i:Int):=by grind [Ax]
theorem A0 {o:List Int} {x:Int} (h:x∈o):0<=Ax o x/\Ax o x<(o.length:Int)/\o.getD (Ax o x).toNat 0=x:=by
 unfold Ax;rw[DO h];have hl:=List.idxOf_lt_length_of_mem h
 simp_all
theorem yH (f:List AB):(AH f 0).length=(Ba f f.length [] 0).length:=by simp[AH]
theorem yI {f:List AB} {i:Nat} (hi:i<(Ba f f.length [] 0).length):(AH f 0).getD i (0,[])=CG f (Ba f f.length [] 0) ((Ba f f.length [] 0).getD i 0):=by grind [AH]
theorem jH (a:Int->Int×Int->Bool) {f:List AB} {n:Int} (h0:0<=n) (h1:n<f.length):(GI a f f.length).getD n.toNat (0,[])=((f.getD n.toNat (0,[])).1,(AK f n).filter (a n)):=by grind [GI,A2v]
theorem A5e (l:List (Int×Int)) (x:Int):Q3 l x=-1\/∃a∈l,a.1=x/\a.2=Q3 l x:=by
 have key:∀(l:List (Int×Int)) (t:Int),l.foldl (λt a=>if a.1=x then a.2 else t) t=t\/∃a∈l,a.1=x/\a.2=l.foldl (λt a=>if a.1=x then a.2 else t) t:=by
  intro l;induction l with
  | nil=>intro t;exact .inl rfl
  | cons b l c =>
   intro t;rw[SU];by_cases h:b.1=x
   .rw[DO h];rcases c b.2 with e|⟨a,ha,e⟩
    .exact .inr ⟨b,by simp,h,e.symm⟩
    exact .inr ⟨a,by simp[ha],e⟩
   rw[BY h];rcases c t with e|⟨a,ha,e⟩
   .exact .inl e
   exact .inr ⟨a,by simp[ha],e⟩
 exact key l (-1)
theorem jI {l:List (Int×Int)} {x:Int} (h:0<=Q3 l x):∃a∈l,a.1=x/\a.2=Q3 l x:=by
 rcases A5e l x with e|h1
 .omega
 exact h1
theorem A2y {f:List AB} (hs:IX f) (n:Int):(AK f n).Pairwise (λa b=>a.1<b.1):=(FD _).1 (oY hs n).1
theorem yJ {f:List AB} (hf:AO f) (hs:IX f) (h0:0<f.length) (a:Int->Int×Int->Bool) {n:Int} (hn:n∈Ba (GI a f f.length) f.length [] 0) :
  AK (XN a f) (Ax (Ba (GI a f f.length) f.length [] 0) n)=((AK f n).filter (a n)).map (Fg (Ba (GI a f f.length) f.length [] 0)):=by
 obtain⟨h,l⟩:=Zd hf hs a;have c:=Jz a f f.length;have e:=A2x h oa;have d:=λi=>yI (f:=GI a f f.length) (i:=i);rw[c]at e d;obtain⟨j,k,g⟩:=A0 hn;have b:=e.ok.rng n hn;rw[c]at b;show ((XN a f).getD _ (0,[])).2=_;have:XN a f=AH (GI a f f.length) 0:=rfl;rw[this,d _ oa,g];unfold CG;rw[jH a b.1 b.2]
theorem R1 {f:List AB}:∀(p:List Int) (n:Int) (z:List Int),AY f n p=none->AY f n (p++z)=none
 | [],_,_,h=>by cases h
 | x :: p,n,z,h=>by
  simp only[AY,AAo]at h ⊢;split
  .rfl
  rename_i a;rw[BY a]at h;exact R1 p _ z h
theorem Zf {f:List AB} {p:List Int} {e y:Int} (h:AY f 0 (p++[e])=some y):∃x,AY f 0 p=some x/\∃a∈AK f x,a.1=e/\a.2=y:=by
 cases hh:AY f 0 p with
 | none=>rw[R1 p 0 [e] hh]at h;cases h
 | some x =>
  have b:=Oz f p 0 x e hh;rw[h]at b;split at b
  .cases b
  rename_i c;obtain⟨a,ha,e1,e2⟩:=jI (l:=AK f x) (x:=e) oa;exact⟨x,rfl,a,ha,e1,by rw[e2];exact(Option.some.inj b).symm⟩
section
attribute [local go_sem] W9
def Av (l:List (Int×Int)) (e:Int):Int:=match l with
 | []=>-1
 | a :: l=>if a.1=e then a.2 else Av l e
theorem yK (e:Int) (l:List (Int×Int)) {k:Nat} (h:k<l.length):Av (l.drop k) e=if (l.getD k (0,0)).1=e then (l.getD k (0,0)).2 else Av (l.drop (k+1)) e:=by
 rw[SR h];have e:l.getD k (0,0)=l[k]:=by simp[AS,h]
 rw[e];rfl
end
section
attribute [local go_sem] W9
structure A2z (a b:List AB) (m:List Int):Prop where
 len:m.length=a.length
 rng:∀x∈m,x<(b.length:Int)
theorem Uu {n:Int} (hn:0<=n):∀ {l:List (Int×Int)} (e:Int),(∀x∈l,x.2<n)->Av l e<n
 | [],_,_=>by simp only[Av];omega
 | x :: l,e,h=>by
  simp only[Av];split
  .exact h x sc
  exact Uu hn e (λy hy=>h y (by simp[hy]))
theorem A2z.set {a b:List AB} {m:List Int} (h:A2z a b m) (k:Nat) {v:Int} (c:v<(b.length:Int)):A2z a b (m.set k v):=by
 refine⟨by simp[h.len],λx hx=>?_⟩;rcases AAI hx with hx|hx
 .exact h.rng x hx
 rw[hx];exact c
theorem A2z.get {a b:List AB} {m:List Int} (h:A2z a b m) (hb:0<b.length) (k:Nat):m.getD k 0<(b.length:Int):=by
 rw[AS];cases hh:m[k]? with
 | none=>show (0:Int)<_;omega
 | some x=>exact h.rng x (UR hh)
def Cj (h:AG) (f:List AB):Prop:=∀x∈f,0<=x.1/\x.1<(h.1.length:Int)
theorem J5 {f:List AB} (hf:AO f) (k:Nat):∀x∈(f.getD k (0,[])).2,0<=x.2/\x.2<(f.length:Int):=by
 intro x hx;by_cases h:k<f.length
 .exact(hf.2 _ (AE f (0,[]) h)).2 x hx
 rw[AS,Si oa]at hx;cases hx
end
structure Ig (h:AG) (a b:List AB) (m:Int->Int):Prop where
 zero:m 0=0
 rng:∀i,0<=i->i<(a.length:Int)->0<=m i/\m i<(b.length:Int)
 ty:∀i,0<=i->i<(a.length:Int)->A3 h (a.getD i.toNat (0,[])).1 (b.getD (m i).toNat (0,[])).1=true
 arc:∀i,0<=i->i<(a.length:Int)->∀x∈AK a i,Av (AK b (m i)) x.1=m x.2
theorem Bi {l:List (Int×Int)} (h:l.Pairwise (λa b=>a.1<b.1)) {a:Int×Int} (ha:a∈l):Av l a.1=a.2:=by
 induction l with
 | nil=>cases ha
 | cons b l d =>
  obtain⟨h1,c⟩:=Sm.1 h;simp only[Av];rcases At.1 ha with rfl|ha
  .rw[DO rfl]
  grind
theorem FE {l:List (Int×Int)} {e:Int} (h:0<=Av l e):∃a∈l,a.1=e/\a.2=Av l e:=by
 induction l with
 | nil=>simp only[Av]at h;omega
 | cons b l c =>
  simp only[Av]at h ⊢;split
  .grind
  grind
theorem A7B {f:List AB} (hs:IX f) {n:Int} {a:Int×Int} (ha:a∈AK f n):Av (AK f n) a.1=a.2:=Bi (A2y hs n) ha
def RO (f:List AB):Prop:=∀i:Int,0<i->i<(f.length:Int)->∃j,0<=j/\j<i/\∃x∈AK f j,x.2=i
theorem A5f {M:List Int} {k j:Nat} {v:Int} (hk:k<M.length):(M.set k v).getD j 0=if k=j then v else M.getD j 0:=by grind
theorem Qb {f:List AB} (hf:AO f):∀(k:Nat) (t:List Int) (n:Int),JA f t->0<=n->n<f.length->n∉t ->
  ∀q,t.length<q->q<(Ba f k t n).length->∃j,j<q/\∃a∈AK f ((Ba f k t n).getD j 0),a.2=(Ba f k t n).getD q 0
 | 0,t,n,h,h0,h1,w,q,y,d=>by simp only[Ba]at d;omega
 | k+1,t,n,h,h0,h1,w,q,y,d=>by
  have key:∀(l:List (Int×Int)) (u:List Int),(∀a∈l,a∈AK f n)->JA f u->t++[n] <+: u ->
    (∀q,t.length<q->q<u.length->∃j,j<q/\∃a∈AK f (u.getD j 0),a.2=u.getD q 0) ->
    ∀q,t.length<q->q<(l.foldl (AX f k) u).length->∃j,j<q/\∃a∈AK f ((l.foldl (AX f k) u).getD j 0),a.2=(l.foldl (AX f k) u).getD q 0:=by
   intro l;induction l with
   | nil=>intro u _ _ _ hu q m c;exact hu q m c
   | cons a l F =>
    intro u hl hu r C;have ha:=hl a sc;have g:=Af hf ha;rw[SU];by_cases o:a.2∈u
    .grind [AX]
    have hs:AX f k u a=Ba f k u a.2:=by unfold AX;rw[BY o]
    rw[hs];obtain⟨A,s⟩:=DR hf k u a.2 hu g.1 g.2 o;have p:∀j,j<u.length->(Ba f k u a.2).getD j 0=u.getD j 0:=λj B=>by
     obtain⟨v,i⟩:=s;rw[<-i];simp only[AS];rw[Se B]
    have E:u.getD t.length 0=n:=by
     obtain⟨v,i⟩:=r;rw[<-i];simp[AS]
    have z:t.length<u.length:=by
     have:=r.length_le;simp at this;omega
    refine F (Ba f k u a.2) (λb hb=>hl b (by simp[hb])) A (r.trans s) (λq m c=>?_);by_cases x:q<u.length
    .obtain⟨j,G,b,hb,e⟩:=C q m x;refine⟨j,G,b,?_,?_⟩
     .rw[p j oa];exact hb
     rw[p q x];exact e
    by_cases d:q=u.length
    .subst d;refine⟨t.length,z,a,?_,?_⟩
     .rw[p _ z,E];exact ha
     cases k with
     | zero=>simp only[Ba]at c;omega
     | succ k =>
      have D:u++[a.2] <+: Ba f (k+1) u a.2:=by
       rw[Bv];exact(D8 (DR hf k) _ _ (λb hb=>Af hf hb) (hu.snoc g.1 g.2 o)).2
      obtain⟨v,i⟩:=D;rw[<-i];simp[AS]
    exact Qb hf k u a.2 hu g.1 g.2 o q oa c
  rw[Bv]at d ⊢;exact key _ (t++[n]) (λa ha=>ha) (h.snoc h0 h1 w) (AAn _) (λq m c=>by simp only[As,If]at c;omega) q y d
theorem A5g {f:List AB} (hf:AO f) (hs:IX f) (h0:0<f.length) (b:Int->Int×Int->Bool):RO (XN b f):=by
 obtain⟨g,t⟩:=Zd hf hs b;have h:=Jz b f f.length;have c:=A2x g oa;have k:=yH (GI b f f.length);have m:=Qb g (GI b f f.length).length [] 0 (F4 _) oa oa sc;have q:=λn hn=>yJ hf hs h0 b (n:=n) hn;rw[h]at c k m;have r:(XN b f).length=(Ba (GI b f f.length) f.length [] 0).length:=k;intro i s p;rw[r]at p;generalize Ba (GI b f f.length) f.length [] 0=o at *;obtain⟨j,u,a,ha,e⟩:=m i.toNat (by simp only[AA1];omega) oa;have l:o.getD j 0∈o:=AE _ 0 oa;have d:=c.ok.rng _ l;rw[h]at d;rw[AK,jH b d.1 d.2]at ha;refine⟨(j:Int),by omega,by omega,Fg o a,?_,?_⟩
 .have:=q _ l;rw[DI c.ok.nd oa]at this;rw[this];exact Y1.2 ⟨a,ha,rfl⟩
 show Ax o a.2=i;rw[e,DI c.ok.nd oa];omega
theorem pA (x:List Int):ML x x=true:=by grind [ML,Ht,TQ]
theorem CF (h:AG) (t:Int):A3 h t t=true:=pA _
abbrev EF (p:List Int) (n:Int):Int:=p.getD n.toNat 0
structure Fo (p:List Int) (rk:Int->Nat):Prop where
 rng:∀n,0<=n->n<(p.length:Int)->0<=EF p n/\EF p n<(p.length:Int)
 dec:∀n,0<=n->n<(p.length:Int)->EF p n≠n->rk (EF p n)<rk n
inductive Rt (p:List Int):Int->Int->Prop
 | base {n:Int} (h:EF p n=n):Rt p n n
 | step {n r:Int} (h:EF p n≠n) (h2:Rt p (EF p n) r):Rt p n r
theorem Rt.det {p:List Int} {n r s:Int} (h:Rt p n r) (g:Rt p n s):r=s:=by
 induction h with
 | base h =>
  cases g with
  | base g=>rfl
  | step g _=>exact absurd h g
 | step h _ b =>
  cases g with
  | base g=>exact absurd g h
  | step _ a=>exact b a
theorem Rt.root {p:List Int} {n r:Int} (h:Rt p n r):EF p r=r:=by
 induction h with
 | base h=>exact h
 | step _ _ a=>exact a
theorem Fo.ex {p:List Int} {b:Int->Nat} (h:Fo p b):∀(k:Nat) (n:Int),b n<=k->0<=n->n<(p.length:Int)->∃r,Rt p n r/\0<=r/\r<(p.length:Int)
 | 0,n,hk,h0,h1=>by
  by_cases e:EF p n=n
  .exact⟨n,.base e,h0,h1⟩
  have:=h.dec n h0 h1 e;omega
 | k+1,n,hk,h0,h1=>by
  by_cases e:EF p n=n
  .exact⟨n,.base e,h0,h1⟩
  have hd:=h.dec n h0 h1 e;have a:=h.rng n h0 h1;obtain⟨r,c,d,f⟩:=h.ex k (EF p n) oa a.1 a.2;exact⟨r,.step e c,d,f⟩
theorem Fo.root {p:List Int} {a:Int->Nat} (h:Fo p a) {n:Int} (h0:0<=n) (h1:n<(p.length:Int)):∃r,Rt p n r/\0<=r/\r<(p.length:Int):=h.ex (a n) n (No _) h0 h1
theorem Cv {p:List Int} {n v:Int} (h0:0<=n) (h1:n<(p.length:Int)) (x:Int) (hx:0<=x):EF (p.set n.toNat v) x=if x=n then v else EF p x:=by
 unfold EF;rw[A5f oa];by_cases e:x=n
 .subst e;rw[DO rfl,DO rfl]
 rw[BY oa,BY e]
def F5 (p:List Int) (n:Int):List Int:=p.set n.toNat (EF p (EF p n))
theorem R2 (p:List Int) (n:Int):(F5 p n).length=p.length:=by simp[F5]
theorem A2A {p:List Int} {d:Int->Nat} (h:Fo p d) {n:Int} (h0:0<=n) (h1:n<(p.length:Int)) (hn:EF p n≠n):Fo (F5 p n) d:=by
 have c:=h.rng n h0 h1;have f:=h.rng _ c.1 c.2;have hd:=h.dec n h0 h1 hn;have g:d (EF p (EF p n))<=d (EF p n):=by
  by_cases e:EF p (EF p n)=EF p n
  .rw[e];exact No _
  exact ABO (h.dec _ c.1 c.2 e)
 refine⟨λx a b=>?_,λx a b hx=>?_⟩
 .rw[R2]at b ⊢;unfold F5;rw[Cv h0 h1 x a];split
  .exact f
  exact h.rng x a b
 rw[R2]at b;unfold F5 at hx ⊢;rw[Cv h0 h1 x a]at hx ⊢;split
 .rename_i e;subst e;omega
 rename_i e;rw[BY e]at hx;exact h.dec x a b hx
theorem jJ {p:List Int} {m:Int->Nat} (h:Fo p m) {n:Int} (h0:0<=n) (h1:n<(p.length:Int)) (hn:EF p n≠n):∀(k:Nat) (x r:Int),m x<=k->0<=x->x<(p.length:Int)->Rt p x r->Rt (F5 p n) x r:=by
 intro k;induction k with
 | zero =>
  intro x r hk a i hx;have e:EF p x=x:=IS λe=>by have:=h.dec x a i e;omega
  have d:x≠n:=λe2=>hn (e2▸e);have:=hx.det (.base e);rw[this];refine .base ?_;unfold F5;rw[Cv h0 h1 x a,BY d];exact e
 | succ k j =>
  intro x r hk a i hx;by_cases e:EF p x=x
  .have d:x≠n:=λe2=>hn (e2▸e);have:=hx.det (.base e);rw[this];refine .base ?_;unfold F5;rw[Cv h0 h1 x a,BY d];exact e
  have hd:=h.dec x a i e;have b:=h.rng x a i;have f:Rt p (EF p x) r:=by
   cases hx with
   | base g=>exact absurd g e
   | step _ g=>exact g
  by_cases d:x=n
  .subst d;by_cases e2:EF p (EF p x)=EF p x
   .have:=f.det (.base e2);rw[this]at f ⊢;refine .step (r:=EF p x) ?_ ?_
    .unfold F5;rw[Cv h0 h1 x a,DO rfl,e2];exact e
    have c:EF (F5 p x) x=EF p x:=by
     unfold F5;rw[Cv h0 h1 x a,DO rfl,e2]
    rw[c];exact j _ _ oa b.1 b.2 f
   have q:=h.dec _ b.1 b.2 e2;have l:=h.rng _ b.1 b.2;have s:Rt p (EF p (EF p x)) r:=by
    cases f with
    | base g=>exact absurd g e2
    | step _ g=>exact g
   have c:EF (F5 p x) x=EF p (EF p x):=by
    unfold F5;rw[Cv h0 h1 x a,DO rfl]
   refine .step ?_ ?_
   .rw[c];intro o;rw[o]at q;omega
   rw[c];exact j _ _ oa l.1 l.2 s
  have c:EF (F5 p n) x=EF p x:=by
   unfold F5;rw[Cv h0 h1 x a,BY d]
  refine .step ?_ ?_
  .rw[c];exact e
  rw[c];exact j _ _ oa b.1 b.2 f
def Ed (p q:List Int):Prop:=p.length=q.length/\∀x r,0<=x->x<(p.length:Int)->(Rt p x r↔Rt q x r)
theorem Ed.refl (p:List Int):Ed p p:=⟨rfl,λ_ _ _ _=>Iff.rfl⟩
theorem Ed.trans {p q s:List Int} (h:Ed p q) (g:Ed q s):Ed p s :=
 ⟨h.1.trans g.1,λx r a b=>(h.2 x r a b).trans (g.2 x r a (by rw[<-h.1];exact b))⟩
theorem pB {p:List Int} {c:Int->Nat} (h:Fo p c) {n:Int} (h0:0<=n) (h1:n<(p.length:Int)) (hn:EF p n≠n):Ed p (F5 p n):=by
 refine⟨(R2 p n).symm,λx r a b=>⟨λhx=>jJ h h0 h1 hn _ x r (No _) a b hx,λhx=>?_⟩⟩;obtain⟨s,hs,-,-⟩:=h.root a b;have:=jJ h h0 h1 hn _ x s (No _) a b hs;have e:=this.det hx;rw[<-e];exact hs
def YG (h:AG) (p ty:List Int) (ar:List (List (Int×Int))):List (Nat×Obj):=[(1,.box 111 true [.p Ey h,.sr 2 T3 0 p.length,.sr 3 T3 0 ty.length,.sr 4 DK 0 ar.length]),(2,.arr 3 T3 p),(3,.arr 3 T3 ty),(4,.arr 91 DK ar)]
theorem cQ (h:AG) (ty:List Int) (ar:List (List (Int×Int))) (d:Int->Nat) {p:List Int} (z:Fo p d) {n:Int} (h0:0<=n) (h1:n<(p.length:Int)):BT Tryz.prog 136 [.bp 1 [] 0,.p T3 n] (YG h p ty ar) [1]
  (λres B=>∃(t:List Int) (r:Int),res=.p T3 r/\B=YG h t ty ar/\Fo t d/\Ed p t/\Rt p n r):=by
 refine Nk [0,1,4,13] [] [] Tryz.func136 Tryz.ntmps136 AI ?_;intro w0 K O0 ρ0 j C D;simp only[A1,YG];repeat'(first|exact trivial|apply eS rfl|refine rX j ?_ ?_)
 refine AL (ι:={x:List Int×Int//Fo x.1 d/\Ed p x.1/\0<=x.2/\x.2<(p.length:Int)/\(∀r,Rt x.1 x.2 r->Rt p n r)}) (λx=>⟨[(0,.bp 1 [] 0),(1,.p T3 x.1.2)],[(1,.box 111 true [.p Ey h,.sr 2 T3 0 p.length,.sr 3 T3 0 ty.length,.sr 4 DK 0 ar.length]),(2,.arr 3 T3 x.1.1),(3,.arr 3 T3 ty),(4,.arr 91 DK ar)]⟩) (λx=>d x.1.2) ⟨(p,n),z,Ed.refl p,h0,h1,λ_ g=>g⟩ (eW [(1,.nm 1),(2,.nm 2),(3,.nm 3),(4,.nm 4)]) (λx=>?_)
 obtain⟨⟨q,m⟩,b,hs,a,f,s⟩:=x;simp only at b hs a f s;have o:q.length=p.length:=hs.1.symm;have c:=b.rng m a oa;simp only;repeat'(first|exact trivial|apply eS rfl|apply AC|refine rX j ?_ ?_|refine rC ?_ ?_<;>intro i<;>try(cases i;done))
 .exact⟨a,f⟩
 .exact⟨⟨a,f⟩,⟨c.1,by rw[<-o];exact c.2⟩,a,f⟩
 .exact⟨a,f⟩
 .have k:EF q m≠m:=i;have hd:=b.dec m a oa k;have u:=b.rng _ c.1 c.2;have w:d (EF q (EF q m))<=d (EF q m):=by
   by_cases e:EF q (EF q m)=EF q m
   .rw[e];exact No _
   exact ABO (b.dec _ c.1 c.2 e)
  have v:=pB b a oa k;have l:EF (F5 q m) m=EF q (EF q m):=by
   unfold F5;rw[Cv a oa m a,DO rfl]
  refine⟨⟨(F5 q m,EF q (EF q m)),A2A b a oa k,hs.trans v,u.1,by rw[<-o];exact u.2,λr A=>s r ?_⟩,by simp only;omega,AD [(1,.nm 1),(2,.nm 2),(3,.nm 3),(4,.nm 4)] rfl rfl ?_ ?_⟩
  .refine(v.2 m r a oa).2 (.step ?_ ?_)
   .rw[l];intro e;rw[e]at w;omega
   rw[l];exact A
  .refine eM ?_;rfl
  refine eM ?_;exact l
 have y:EF q m=m:=by simpa using i
 refine Ev.ent (σ':=⟨[(4,.p T3 m)],YG h q ty ar⟩) ?_ (AD [(1,.nm 1),(2,.nm 2),(3,.nm 3),(4,.nm 4)] rfl rfl ?_ ?_)
 .exact fM j [.tmp 4] (.p T3 m) eT ⟨q,m,rfl,rfl,b,hs,s m (.base y)⟩
 .unfold YG;rw[o];exact eN
 exact eN
def Bd (b n:Nat):List Int:=(List.range n).map λi=>((b+i:Nat):Int)
def AR (b:Nat) (l:List (Int×Int)):List (Int×Int):=l.map λa=>(a.1,a.2+(b:Int))
def CP (l:List AB) (n:Nat):List Int:=(l.take n).map λx=>x.1
def EV (b:Nat) (l:List AB) (n:Nat):List (List (Int×Int)):=(l.take n).map λx=>AR b x.2
theorem pC (b n:Nat):Bd b (n+1)=Bd b n++[((b+n:Nat):Int)]:=by simp[Bd,oF]
theorem Hv (b n:Nat):(Bd b n).length=n:=by simp[Bd]
theorem pD (h:AG) (p ty:List Int) (ar:List (List (Int×Int))) (l:List AB) (hl:AO l) (I:p.length<=100000) (J:ty.length=p.length) (D:ar.length=p.length) :
  BT Tryz.prog 85 [.bp 1 [] 0,.p G2 l] (YG h p ty ar) [1]
  (λres C=>res=.raw (.tuple #[])/\C=YG h (p++Bd p.length l.length) (ty++CP l l.length) (ar++EV p.length l l.length)):=by
 refine Nk [0,1,4,5,6,7,9,15,16,17,18,46,47,48,49] [] [] Tryz.func85 Tryz.ntmps85 AI ?_;intro w0 K O0 ρ0 c G H;have F:=hl.1;simp only[A1,YG];repeat'(first|exact trivial|apply eS rfl|refine rX c ?_ ?_)
 refine AL (ι:={i:Nat//i<=l.length}) (λi=>⟨[(0,.bp 1 [] 0),(4,.p (.int .i64) (p.length:Int)),(15,.p G2 l),(16,.p (.int .i64) (l.length:Int)),(17,.p (.int .i64) (i.1:Int))],[(1,.box 111 true [.p Ey h,.sr 2 T3 0 (p++Bd p.length i.1).length,.sr 3 T3 0 (ty++CP l i.1).length,.sr 4 DK 0 (ar++EV p.length l i.1).length]),(2,.arr 3 T3 (p++Bd p.length i.1)),(3,.arr 3 T3 (ty++CP l i.1)),(4,.arr 91 DK (ar++EV p.length l i.1))]⟩) (λi=>l.length-i.1) ⟨0,ON _⟩ (AD [(1,.nm 1),(2,.nm 2),(3,.nm 3),(4,.nm 4)] rfl rfl ?_ ?_) (λi=>?_)
 .refine eM ?_;simp[Bd,CP,EV]
 .exact eN
 obtain⟨i,hi⟩:=i;have r:=Hv p.length i;have s:=pC p.length i;have w:(CP l i).length=i:=by unfold CP;rw[OF,OS];omega
 have m:(EV p.length l i).length=i:=by unfold EV;rw[OF,OS];omega
 have y:=λh:i<l.length=>CK (λx:AB=>x.1) l (0,[]) h;have n:=λh:i<l.length=>CK (λx:AB=>AR p.length x.2) l (0,[]) h;simp only;repeat'(first|exact trivial|apply eS rfl|refine rX c ?_ ?_|refine rC ?_ ?_<;>intro b<;>try(cases b;done))
 .exact b
 .refine⟨⟨by omega,by omega⟩,?_⟩;rw[r];simp only[AP];omega
 .have d:i<l.length:=IN.1 b;refine HB drawsAny c 9 [([1,2,3,4,5,6,7],8)] [0] (by kernel_rfl) (Uk ?_ ?_)
  .trivial
  refine WM c [3] ?_ ?_
  .rw[w];simp only[AP];omega
  refine wU c ?_ ?_ ?_
  .trivial
  .trivial
  have z:=y d;have o:=n d;have j:p++Bd p.length i++[(p.length:Int)+(i:Int)]=p++Bd p.length (i+1):=by
   rw[s,SZ];rfl
  have eT:ty++CP l i++[(l.getD i (0,[])).1]=ty++CP l (i+1):=by
   unfold CP;rw[z,SZ]
  have A:p.length+(Bd p.length i).length+1=(p++Bd p.length (i+1)).length:=by rw[As,Hv,Hv];omega
  have B:ty.length+(CP l i).length+1=(ty++CP l (i+1)).length:=by rw[<-eT,As,As,If]
  have t:=J5 hl i;have M:(l.getD i (0,[])).2.length<=100000:=(hl.2 _ (AE l (0,[]) d)).1;repeat'(first|exact trivial|apply eS rfl|refine rX c ?_ ?_)
  rw[j,eT,A,B];generalize L:(l.getD i (0,[])).2=xs at *;refine AL (ι:={k:Nat//k<=xs.length}) (λk=>⟨[(0,.bp 1 [] 0),(4,.p (.int .i64) (p.length:Int)),(7,.sr 61 A2 0 (AR p.length (xs.take k.1)).length),(15,.p G2 l),(16,.p (.int .i64) (l.length:Int)),(17,.p (.int .i64) (i:Int)),(46,.p DK xs),(47,.p (.int .i64) (xs.length:Int)),(48,.p (.int .i64) (k.1:Int))],[(1,.box 111 true [.p Ey h,.sr 2 T3 0 (p++Bd p.length (i+1)).length,.sr 3 T3 0 (ty++CP l (i+1)).length,.sr 4 DK 0 (ar++EV p.length l i).length]),(2,.arr 3 T3 (p++Bd p.length (i+1))),(3,.arr 3 T3 (ty++CP l (i+1))),(4,.arr 91 DK (ar++EV p.length l i)),(61,.arr 106 A2 (AR p.length (xs.take k.1)))]⟩) (λk=>xs.length-k.1) ⟨0,ON _⟩ (AD [(1,.nm 1),(2,.nm 2),(3,.nm 3),(4,.nm 4),(61,.nil)] rfl rfl ?_ ?_) (λk=>?_)
  .refine eM ?_;rfl
  .refine eM ?_;rfl
  obtain⟨k,hk⟩:=k;have u:(AR p.length (xs.take k)).length=k:=by unfold AR;rw[OF,OS];omega
  have v:=λh:k<xs.length=>CK (λa:Int×Int=>(a.1,a.2+(p.length:Int))) xs (0,0) h;have q:=λh:k<xs.length=>t _ (AE xs (0,0) h);simp only;repeat'(first|exact trivial|apply eS rfl|apply AC|refine rX c ?_ ?_|refine rC ?_ ?_<;>intro b<;>try(cases b;done))
  .exact b
  .have e:k<xs.length:=IN.1 b;have E:=q e;refine⟨⟨by omega,by omega⟩,?_⟩;rw[u];simp only[AP];omega
  .omega
  .have e:k<xs.length:=IN.1 b;have f:AR p.length (xs.take (k+1))=AR p.length (xs.take k)++[((xs.getD k (0,0)).1,(xs.getD k (0,0)).2+(p.length:Int))]:=v e;refine⟨⟨k+1,e⟩,by simp only;omega,AD [(1,.nm 1),(2,.nm 2),(3,.nm 3),(4,.nm 4),(61,.nm 61)] rfl rfl ?_ ?_⟩
   .simp only[f];exact eN
   simp only[f];exact eN
  .rw[m];simp only[AP];omega
  .omega
  have e:xs.take k=xs:=By (SY.1 b);rw[e];have g:ar++EV p.length l i++[AR p.length xs]=ar++EV p.length l (i+1):=by
   unfold EV;rw[o,SZ]
  refine⟨⟨i+1,d⟩,by simp only;omega,AD [(1,.nm 1),(2,.nm 2),(3,.nm 3),(4,.nm 4)] rfl rfl ?_ ?_⟩
  .simp only[<-g];exact eN
  exact eN
 have d:i=l.length:=by omega
 subst d;refine Ev.ent (σ':=⟨[],YG h (p++Bd p.length l.length) (ty++CP l l.length) (ar++EV p.length l l.length)⟩) ?_ (AD [(1,.nm 1),(2,.nm 2),(3,.nm 3),(4,.nm 4)] rfl rfl ?_ ?_)
 .exact fM c [] (.raw (.tuple #[])) rfl ⟨rfl,rfl⟩
 .unfold YG;exact eN
 exact eN
section
attribute [local go_sem] s7
def Bw:List (Int×Int)->List (Int×Int)->List (Int×Int)×List (Int×Int)
 | [],y=>(y,[])
 | a :: x,[]=>(a :: x,[])
 | a :: x,b :: y =>
  if a.1<b.1 then (a :: (Bw x (b :: y)).1,(Bw x (b :: y)).2)
  else if b.1<a.1 then (b :: (Bw (a :: x) y).1,(Bw (a :: x) y).2)
  else (a :: (Bw x y).1,(a.2,b.2) :: (Bw x y).2)
termination_by x y=>x.length+y.length
structure pE (xs ys:List (Int×Int)) (W0:List (Int×Int)) (s:(List (Int×Int)×List (Int×Int))×(List (Int×Int)×List (Int×Int)×Nat)):Prop where
 hi:s.2.2.2<=s.2.2.1.length
 both:s.2.1++(Bw s.1.1 s.1.2).1=(Bw xs ys).1
 wait:s.2.2.1.take s.2.2.2++(Bw s.1.1 s.1.2).2=W0++(Bw xs ys).2
 len:s.2.1.length+s.1.1.length+s.1.2.length<=xs.length+ys.length
 num:s.2.2.2+s.1.1.length<=W0.length+xs.length
theorem A97 {x y:List (Int×Int)} (h0:0<x.length) (h:y.length=0\/(x.getD 0 (0,0)).1<(y.getD 0 (0,0)).1):Bw x y=(x.getD 0 (0,0) :: (Bw (x.drop 1) y).1,(Bw (x.drop 1) y).2):=by
 cases x with
 | nil=>simp at h0
 | cons a x =>
  cases y with
  | nil =>
   simp only[AAF,oR];cases x<;>simp[Bw]
  | cons b y =>
   have h:a.1<b.1:=by simpa using h
   simp only[AAF,oR];rw[Bw,DO h];rfl
theorem A98 {x y:List (Int×Int)} (h0:0<y.length) (h:x.length=0\/(y.getD 0 (0,0)).1<(x.getD 0 (0,0)).1):Bw x y=(y.getD 0 (0,0) :: (Bw x (y.drop 1)).1,(Bw x (y.drop 1)).2):=by
 cases y with
 | nil=>simp at h0
 | cons b y =>
  cases x with
  | nil=>simp[Bw]
  | cons a x =>
   have h:b.1<a.1:=by simpa using h
   simp only[AAF,oR];rw[Bw,BY oa,DO h];rfl
theorem A7C {x y:List (Int×Int)} (h0:0<x.length) (h1:0<y.length) (h:(x.getD 0 (0,0)).1=(y.getD 0 (0,0)).1):Bw x y=(x.getD 0 (0,0) :: (Bw (x.drop 1) (y.drop 1)).1,((x.getD 0 (0,0)).2,(y.getD 0 (0,0)).2) :: (Bw (x.drop 1) (y.drop 1)).2):=by
 cases x with
 | nil=>simp at h0
 | cons a x =>
  cases y with
  | nil=>simp at h1
  | cons b y =>
   have h:a.1=b.1:=by simpa using h
   simp only[AAF,oR];rw[Bw,BY oa,BY oa];rfl
section
variable {xs ys W0 x y bo V:List (Int×Int)} {k:Nat}
theorem A7D (h:pE xs ys W0 ((x,y),bo,V,k)) (h0:0<x.length) (f:y.length=0\/(x.getD 0 (0,0)).1<(y.getD 0 (0,0)).1):pE xs ys W0 ((x.drop 1,y),bo++[x.getD 0 (0,0)],V,k):=by
 have e:=A97 h0 f;obtain⟨h1,a,b,c,d⟩:=h;simp only at h1 a b c d;rw[e]at a b;exact⟨h1,by rw[SZ];exact a,b,by simp only[As,If,aS];omega,by simp only[aS];omega⟩
theorem A7E (h:pE xs ys W0 ((x,y),bo,V,k)) (h0:0<y.length) (f:x.length=0\/(y.getD 0 (0,0)).1<(x.getD 0 (0,0)).1):pE xs ys W0 ((x,y.drop 1),bo++[y.getD 0 (0,0)],V,k):=by
 have e:=A98 h0 f;obtain⟨h1,a,b,d,c⟩:=h;simp only at h1 a b d c;rw[e]at a b;exact⟨h1,by rw[SZ];exact a,b,by simp only[As,If,aS];omega,c⟩
theorem A5h (h:pE xs ys W0 ((x,y),bo,V,k)) (h0:0<x.length) (h1:0<y.length) (g:(x.getD 0 (0,0)).1=(y.getD 0 (0,0)).1):pE xs ys W0 ((x.drop 1,y.drop 1),bo++[x.getD 0 (0,0)],V.take k++[((x.getD 0 (0,0)).2,(y.getD 0 (0,0)).2)],k+1):=by
 have e:=A7C h0 h1 g;obtain⟨c,a,b,d,f⟩:=h;simp only at c a b d f;rw[e]at a b;have hl:(V.take k++[((x.getD 0 (0,0)).2,(y.getD 0 (0,0)).2)]).length=k+1:=by simp only[As,If,OS];omega
 exact⟨by simp only[hl];omega,by rw[SZ];exact a,by simp only;rw[By oa,SZ];exact b,by simp only[As,If,aS];omega,by simp only[aS];omega⟩
end
def mgO (h:AG) (p ty:List Int) (ar:List (List (Int×Int))) (W:List (Int×Int)) (hi:Nat):List (Nat×Obj) :=
 [(1,.box 111 true [.p Ey h,.sr 2 T3 0 p.length,.sr 3 T3 0 ty.length,.sr 4 DK 0 ar.length]),(2,.arr 3 T3 p),(3,.arr 3 T3 ty),(4,.arr 91 DK ar),(5,.box 108 false [.bp 1 [] 0]),(6,.box 173 false [.sr 7 Ra 0 hi]),(7,.arr 172 Ra W)]
theorem A2C (h:AG) (hh:h.1.length<=100000) (G:∀x∈h.1,x.2.1.length<=100000) (p ty:List Int) (ar:List (List (Int×Int))) (W:List (Int×Int)) (hi:Nat) (H:hi<=W.length) (N:hi<=100000000000) {a b:Int} (m:0<=a) (L:a<(p.length:Int)) (o:0<=b) (b1:b<(p.length:Int)) (S:ty.length=p.length) (M:ar.length=p.length)
  (ta:0<=ty.getD a.toNat 0/\ty.getD a.toNat 0<(h.1.length:Int)) (tb:0<=ty.getD b.toNat 0/\ty.getD b.toNat 0<(h.1.length:Int)) (O:(ar.getD a.toNat []).length<=10000000) (P:(ar.getD b.toNat []).length<=10000000) :
  BT Tryz.prog 134 [.p T3 a,.p T3 b,.bp 5 [] 0,.bp 6 [] 0] (mgO h p ty ar W hi) [1,5,6]
  (λres z=>((Bt h (ty.getD a.toNat 0) (ty.getD b.toNat 0)).2=false/\res=.p .bool false/\z=mgO h p ty ar W hi) \/
   ((Bt h (ty.getD a.toNat 0) (ty.getD b.toNat 0)).2=true/\res=.p .bool true/\∃n q,q<=n.length/\n.take q=W.take hi++(Bw (ar.getD a.toNat []) (ar.getD b.toNat [])).2 /\
    z=mgO h (p.set b.toNat a) (ty.set a.toNat (Bt h (ty.getD a.toNat 0) (ty.getD b.toNat 0)).1) (ar.set a.toNat (Bw (ar.getD a.toNat []) (ar.getD b.toNat [])).1) n q)):=by
 refine Nk [0,1,2,3,6,7,8,9,10,11,35,71,94,122] [] [] Tryz.func134 Tryz.ntmps134 (AF A52 AI) ?_;intro w0 K O0 ρ0 d Q R;have u:a<(ty.length:Int):=by omega
 have B:b<(ty.length:Int):=by omega
 have r:a<(ar.length:Int):=by omega
 have A:b<(ar.length:Int):=by omega
 simp only[mgO,A1];repeat'(first|exact trivial|apply eS rfl|refine rX d ?_ ?_|refine rC ?_ ?_<;>intro c<;>try(cases c;done))
 .refine⟨⟨m,u⟩,⟨o,B⟩,ta,tb,hh,G⟩
 .refine Ev.ent (σ':=⟨[(6,.p .bool false)],mgO h p ty ar W hi⟩) ?_ (AD [(1,.nm 1),(2,.nm 2),(3,.nm 3),(4,.nm 4),(5,.nm 5),(6,.nm 6),(7,.nm 7)] rfl rfl ?_ ?_)
  .exact fM d [.tmp 6] (.p .bool false) eT (.inl ⟨c,rfl,rfl⟩)
  .unfold mgO;exact eN
  exact eN
 .exact⟨o,b1⟩
 .exact⟨m,u⟩
 .exact⟨⟨m,r⟩,o,A⟩
 generalize ht:(Bt h (ty.getD a.toNat 0) (ty.getD b.toNat 0)).1=t at *;generalize T:ar.getD a.toNat []=xs at *;generalize U:ar.getD b.toNat []=ys at *;refine AL (ι:={s:(List (Int×Int)×List (Int×Int))×(List (Int×Int)×List (Int×Int)×Nat)//pE xs ys (W.take hi) s}) (λs=>⟨[(0,.p T3 a),(1,.p T3 b),(2,.bp 5 [] 0),(3,.bp 6 [] 0),(9,.p DK s.1.1.1),(10,.p DK s.1.1.2),(11,.sr 11 A2 0 s.1.2.1.length)],[(1,.box 111 true [.p Ey h,.sr 2 T3 0 p.length,.sr 3 T3 0 ty.length,.sr 4 DK 0 ar.length]),(2,.arr 3 T3 (p.set b.toNat a)),(3,.arr 3 T3 (ty.set a.toNat t)),(4,.arr 91 DK ar),(5,.box 108 false [.bp 1 [] 0]),(6,.box 173 false [.sr 7 Ra 0 s.1.2.2.2]),(7,.arr 172 Ra s.1.2.2.1),(11,.arr 106 A2 s.1.2.1)]⟩) (λs=>s.1.1.1.length+s.1.1.2.length) ⟨((xs,ys),([],W,hi)),H,rfl,rfl,by simp,by simp only[OS];omega⟩ (eW [(1,.nm 1),(2,.nm 2),(3,.nm 3),(4,.nm 4),(5,.nm 5),(6,.nm 6),(7,.nm 7),(11,.nil)]) (λs=>?_)
 obtain⟨⟨⟨x,y⟩,bo,V,k⟩,i⟩:=s;have I:=i.len;have J:=i.num;have v:=i.hi;simp only[OS]at I J v ⊢;repeat'(first|exact trivial|apply eS rfl|refine rX d ?_ ?_|refine rC ?_ ?_<;>intro c<;>try(cases c;done))
 .refine⟨λh=>?_,λh=>?_⟩
  .rw[An,Is]at h;exact h.2
  rw[An,Sa,AAs]at h;have D:=h.1;have l:y.length≠0:=λe=>D (by rw[e];rfl);exact IN.2 (AAx l)
 .have f:0<x.length:=by
   rcases c with c|c
   .omega
   exact IN.1 c.1
  have E:y.length=0\/(x.getD 0 (0,0)).1<(y.getD 0 (0,0)).1:=by
   rcases c with c|c
   .exact .inl (ABJ c)
   exact .inr c.2
  refine HB drawsAny d 9 [([0,1,2,3,4],5),([],8)] [6,7] (by kernel_rfl) (Uk ?_ ?_)
  .exact⟨IN.2 f,SY.2 f⟩
  refine WM d [11] ?_ ?_
  .simp only[AP];omega
  refine Uk ?_ ?_
  .exact SY.2 f
  refine WM d [] ?_ ?_
  .trivial
  refine wU d ?_ ?_ ?_
  .exact SY.2 f
  .trivial
  repeat'(first|apply eS rfl|apply AC)
  exact⟨⟨((x.drop 1,y),bo++[x.getD 0 (0,0)],V,k),A7D i f E⟩,by simp only[aS];omega,eW [(1,.nm 1),(2,.nm 2),(3,.nm 3),(4,.nm 4),(5,.nm 5),(6,.nm 6),(7,.nm 7),(11,.nm 11)]⟩
 .have l:y.length≠0:=λe=>c.1 (by rw[e];rfl);have C:0<y.length:=AAx l;refine⟨λh=>IN.2 C,λh=>?_⟩
  rw[Sa,AAs]at h;have l:x.length≠0:=λe=>h (by rw[e];rfl);exact IN.2 (AAx l)
 .have g:0<y.length:=AAx λe=>(by assumption:¬_/\_).1 (by rw[e];rfl);have j:x.length=0\/(y.getD 0 (0,0)).1<(x.getD 0 (0,0)).1:=by
   rcases c with c|c
   .exact .inl (ABJ c)
   exact .inr c
  refine HB drawsAny d 9 [([0,1,2,3,4],5),([],8)] [6,7] (by kernel_rfl) (Uk ?_ ?_)
  .exact⟨IN.2 g,SY.2 g⟩
  refine WM d [11] ?_ ?_
  .simp only[AP];omega
  refine Uk ?_ ?_
  .exact SY.2 g
  refine WM d [] ?_ ?_
  .trivial
  refine wU d ?_ ?_ ?_
  .exact SY.2 g
  .trivial
  repeat'(first|apply eS rfl|apply AC)
  exact⟨⟨((x,y.drop 1),bo++[y.getD 0 (0,0)],V,k),A7E i g j⟩,by simp only[aS];omega,eW [(1,.nm 1),(2,.nm 2),(3,.nm 3),(4,.nm 4),(5,.nm 5),(6,.nm 6),(7,.nm 7),(11,.nm 11)]⟩
 .rename_i j;have f:0<x.length:=AAx λe=>c.1 (by rw[e];rfl);have g:0<y.length:=AAx λe=>j.1 (by rw[e];rfl);refine⟨IN.2 f,IN.2 g,?_⟩;simp only[AP];omega
 .rename_i j;have f:0<x.length:=AAx λe=>c.1 (by rw[e];rfl);have g:0<y.length:=AAx λe=>j.1 (by rw[e];rfl);have F:(x.getD 0 (0,0)).1=(y.getD 0 (0,0)).1:=Int.le_antisymm c.2 (j.2 (IN.2 f));refine HB drawsAny d 12 [([0,1,2,3,4],5),([],10),([6,7],11)] [8,9] (by kernel_rfl) (Uk ?_ ?_)
  .exact⟨IN.2 f,SY.2 f,SY.2 g⟩
  refine WM d [11] ?_ ?_
  .simp only[AP];omega
  refine Uk ?_ ?_
  .exact⟨SY.2 f,SY.2 g⟩
  refine WM d [] ?_ ?_
  .trivial
  refine Uk ?_ ?_
  .exact⟨SY.2 f,SY.2 g⟩
  refine WM d [] ?_ ?_
  .trivial
  refine wU d ?_ ?_ ?_
  .exact SY.2 g
  .trivial
  repeat'(first|apply eS rfl|apply AC)
  exact⟨⟨((x.drop 1,y.drop 1),bo++[x.getD 0 (0,0)],V.take k++[((x.getD 0 (0,0)).2,(y.getD 0 (0,0)).2)],k+1),A5h i f g F⟩,by simp only[aS];omega,eW [(1,.nm 1),(2,.nm 2),(3,.nm 3),(4,.nm 4),(5,.nm 5),(6,.nm 6),(7,.nm 7),(11,.nm 11)]⟩
 .exact⟨m,r⟩
 have f:x=[]:=Sk oa;have g:y=[]:=Sk oa;subst f g;have hb:=i.both;have w:=i.wait;simp only[Bw,UL]at hb w;refine Ev.ent (σ':=⟨[(6,.p .bool true)],mgO h (p.set b.toNat a) (ty.set a.toNat t) (ar.set a.toNat bo) V k⟩) ?_ (AD [(1,.nm 1),(2,.nm 2),(3,.nm 3),(4,.nm 4),(5,.nm 5),(6,.nm 6),(7,.nm 7)] rfl rfl ?_ ?_)
 .exact fM d [.tmp 6] (.p .bool true) eT (.inr ⟨by assumption,rfl,V,k,v,w,by rw[hb];rfl⟩)
 .unfold mgO;simp only[oS];exact eN
 exact eN
end
theorem Ku {h:AG} (hk:Hu h) {a b c:Int} (d:0<=a) (e:a<(h.1.length:Int)) (f:0<=b) (b1:b<(h.1.length:Int)) (c0:0<=c) (c1:c<(h.1.length:Int)) (h1:A3 h a b=true) (g:A3 h b c=true):A3 h a c=true :=
 (Cb hk d e c0 c1).2 λi hi=>(Cb hk d e f b1).1 h1 i ((Cb hk f b1 c0 c1).1 g i hi)
theorem Qc:∀ {x y:List (Int×Int)} {a:Int×Int},a∈x->a∈(Bw x y).1
 | [],_,_,h=>by cases h
 | b :: x,[],a,h=>by simpa[Bw] using h
 | b :: x,c :: y,a,h=>by
  rw[Bw];split
  .rcases At.1 h with rfl|h
   .simp
   exact GO _ (Qc h)
  split
  .exact GO _ (Qc h)
  rcases At.1 h with rfl|h
  .simp
  exact GO _ (Qc h)
termination_by x y=>x.length+y.length
theorem ND:∀ {x y:List (Int×Int)} {a:Int×Int},a∈y->a∈(Bw x y).1\/∃t,(a.1,t)∈(Bw x y).1/\(t,a.2)∈(Bw x y).2
 | [],y,a,h=>by
  left;simpa[Bw] using h
 | b :: x,[],a,h=>by cases h
 | b :: x,c :: y,a,h=>by
  rw[Bw];split
  .rcases ND (x:=x) h with g|⟨t,d,e⟩
   .exact .inl (GO _ g)
   exact .inr ⟨t,GO _ d,e⟩
  split
  .rcases At.1 h with rfl|h
   .left;simp
   rcases ND (x:=b :: x) h with g|⟨t,d,e⟩
   .exact .inl (GO _ g)
   exact .inr ⟨t,GO _ d,e⟩
  rcases At.1 h with rfl|h
  .right;exact⟨b.2,by rw[show a.1=b.1 by omega];simp,by simp⟩
  rcases ND (x:=x) h with g|⟨t,d,e⟩
  .exact .inl (GO _ g)
  exact .inr ⟨t,GO _ d,GO _ e⟩
termination_by x y=>x.length+y.length
theorem JB:∀ {x y:List (Int×Int)} {a:Int×Int},a∈(Bw x y).1->a∈x\/a∈y
 | [],y,a,h=>by
  right;simpa[Bw] using h
 | b :: x,[],a,h=>by
  left;simpa[Bw] using h
 | b :: x,c :: y,a,h=>by
  rw[Bw]at h;split at h
  .rcases At.1 h with rfl|h
   .left;simp
   rcases JB h with g|g
   .exact .inl (GO _ g)
   exact .inr g
  split at h
  .rcases At.1 h with rfl|h
   .right;simp
   rcases JB h with g|g
   .exact .inl g
   exact .inr (GO _ g)
  rcases At.1 h with rfl|h
  .left;simp
  rcases JB h with g|g
  .exact .inl (GO _ g)
  exact .inr (GO _ g)
termination_by x y=>x.length+y.length
theorem Qd:∀ {x y:List (Int×Int)} {q:Int×Int},q∈(Bw x y).2->∃e,(e,q.1)∈x/\(e,q.2)∈y
 | [],y,q,h=>by simp[Bw]at h
 | b :: x,[],q,h=>by simp[Bw]at h
 | b :: x,c :: y,q,h=>by
  rw[Bw]at h;split at h
  .obtain⟨e,h1,a⟩:=Qd h;exact⟨e,GO _ h1,a⟩
  split at h
  .obtain⟨e,h1,a⟩:=Qd h;exact⟨e,h1,GO _ a⟩
  rcases At.1 h with rfl|h
  .exact⟨b.1,by simp,by rw[show b.1=c.1 by omega];simp⟩
  obtain⟨e,h1,a⟩:=Qd h;exact⟨e,GO _ h1,GO _ a⟩
termination_by x y=>x.length+y.length
theorem Qf:∀ {x y:List (Int×Int)},(Bw x y).2.length<=x.length
 | [],y=>by simp[Bw]
 | b :: x,[]=>by simp[Bw]
 | b :: x,c :: y=>by
  rw[Bw];split
  .have:=Qf (x:=x) (y:=c :: y);simp only[IF];omega
  split
  .exact Qf (x:=b :: x) (y:=y)
  have:=Qf (x:=x) (y:=y);simp only[IF];omega
termination_by x y=>x.length+y.length
abbrev Ih (l:List (Int×Int)):Prop:=l.Pairwise (λa b=>a.1<b.1)
theorem Uv:∀ {x y:List (Int×Int)},Ih x->Ih y->Ih (Bw x y).1
 | [],y,_,h=>by simpa[Bw] using h
 | b :: x,[],h,_=>by simpa[Bw] using h
 | b :: x,c :: y,hx,hy=>by
  have d:=Sm.1 hx;have e:=Sm.1 hy;rw[Bw];split
  .rename_i f;refine Sm.2 ⟨λa ha=>?_,Uv d.2 hy⟩;rcases JB ha with g|g
   .exact d.1 a g
   rcases At.1 g with rfl|g
   .exact f
   have:=e.1 a g;omega
  split
  .rename_i f;refine Sm.2 ⟨λa ha=>?_,Uv hx e.2⟩;rcases JB ha with g|g
   .rcases At.1 g with rfl|g
    .exact f
    have:=d.1 a g;omega
   exact e.1 a g
  refine Sm.2 ⟨λa ha=>?_,Uv d.2 e.2⟩;rcases JB ha with g|g
  .exact d.1 a g
  have:=e.1 a g;omega
termination_by x y=>x.length+y.length
theorem A5i {p:List Int} {o:Int->Nat} (l:Fo p o) {a b:Int} (j:0<=a) (c:0<=b) (b1:b<(p.length:Int)) (ha:EF p a=a) (hb:EF p b=b) (f:a≠b) {x r:Int} (d:0<=x) (q:x<(p.length:Int)) (h:Rt p x r):Rt (p.set b.toNat a) x (if r=b then a else r):=by
 have k:Rt (p.set b.toNat a) a a:=.base (by rw[Cv c b1 a j,BY f];exact ha);induction h with
 | @base n hn =>
  split
  .rename_i e;rw[e];exact .step (by rw[Cv c b1 b c,DO rfl];exact f) (by rw[Cv c b1 b c,DO rfl];exact k)
  rename_i e;exact .base (by rw[Cv c b1 n d,BY e];exact hn)
 | @step n r hn _ m =>
  have g:n≠b:=λe=>hn (e▸hb);have i:=l.rng n d q;exact .step (by rw[Cv c b1 n d,BY g];exact hn) (by rw[Cv c b1 n d,BY g];exact m i.1 i.2)
theorem A5j {p:List Int} {c:Int->Nat} (h:Fo p c) {a b:Int} (i:0<=a) (j:a<(p.length:Int)) (d:0<=b) (b1:b<(p.length:Int)) (ha:EF p a=a) (hb:EF p b=b) (l:a≠b):∃m,Fo (p.set b.toNat a) m:=by
 classical
 refine⟨λx=>if Rt p x b then c x+c a+1 else c x,λn n0 n1=>?_,λn n0 n1 hn=>?_⟩
 .rw[oS]at n1 ⊢;rw[Cv d b1 n n0];split
  .exact⟨i,j⟩
  exact h.rng n n0 n1
 rw[oS]at n1;rw[Cv d b1 n n0]at hn ⊢;by_cases e:n=b
 .subst e;rw[DO rfl];have h1:¬Rt p a n:=λg=>l (g.det (.base ha)).symm;rw[BY h1,DO (.base hb)];omega
 rw[BY e]at hn ⊢;have hd:=h.dec n n0 n1 hn;have f:Rt p n b↔Rt p (EF p n) b:=by
  constructor
  .intro g;cases g with
   | base g=>exact absurd g hn
   | step _ g=>exact g
  exact λg=>.step hn g
 by_cases g:Rt p n b
 .rw[DO g,DO (f.1 g)];omega
 rw[BY g,BY (λk=>g (f.2 k))];exact hd
inductive EG (n:Nat) (p:List Int) (W:List (Int×Int)):Int->Int->Prop
 | cls {x y r:Int} (x0:0<=x) (x1:x<(n:Int)) (y0:0<=y) (y1:y<(n:Int)) (h:Rt p x r) (g:Rt p y r):EG n p W x y
 | wt {x y:Int} (h:(x,y)∈W):EG n p W x y
 | symm {x y:Int} (h:EG n p W x y):EG n p W y x
 | trans {x y z:Int} (h:EG n p W x y) (g:EG n p W y z):EG n p W x z
theorem EG.mono {n:Nat} {p q:List Int} {W V:List (Int×Int)} (h1:∀x y r,0<=x->x<(n:Int)->0<=y->y<(n:Int)->Rt p x r->Rt p y r->EG n q V x y) (a:∀x y,(x,y)∈W->EG n q V x y) {x y:Int} (h:EG n p W x y):EG n q V x y:=by
 induction h with
 | cls e f i j h g=>exact h1 _ _ _ e f i j h g
 | wt h=>exact a _ _ h
 | symm _ b=>exact .symm b
 | trans _ _ c d=>exact .trans c d
structure G7 (h:AG) (N:List AB) (P:List (Int×Int)) (X:List AB) (v:Int->Int):Prop where
 rng:∀x,0<=x->x<(N.length:Int)->0<=v x/\v x<(X.length:Int)
 ty:∀x,0<=x->x<(N.length:Int)->A3 h (N.getD x.toNat (0,[])).1 (X.getD (v x).toNat (0,[])).1=true
 arc:∀x,0<=x->x<(N.length:Int)->∀a∈AK N x,Av (AK X (v x)) a.1=v a.2
 eq:∀q∈P,v q.1=v q.2
structure JX (h:AG) (X:List AB) (v:Int->Int) (n:Nat) (p ty:List Int) (ar:List (List (Int×Int))) (W:List (Int×Int)):Prop where
 cls:∀x r,0<=x->x<(n:Int)->Rt p x r->v x=v r
 wt:∀w∈W,v w.1=v w.2
 ty:∀r,0<=r->r<(n:Int)->EF p r=r->A3 h (ty.getD r.toNat 0) (X.getD (v r).toNat (0,[])).1=true
 arc:∀r,0<=r->r<(n:Int)->EF p r=r->∀a∈ar.getD r.toNat [],Av (AK X (v r)) a.1=v a.2
def Cq (N:List AB):List Int:=N.flatMap λx=>x.2.map (·.1)
structure JI (h:AG) (N:List AB) (P:List (Int×Int)) (p ty:List Int) (ar:List (List (Int×Int))) (W:List (Int×Int)):Prop where
 nty:Cj h N
 fo:∃rk,Fo p rk
 lp:p.length=N.length
 lt:ty.length=N.length
 la:ar.length=N.length
 wr:∀w∈W,(0<=w.1/\w.1<(N.length:Int))/\(0<=w.2/\w.2<(N.length:Int))
 tyr:∀x,0<=x->x<(N.length:Int)->0<=ty.getD x.toNat 0/\ty.getD x.toNat 0<(h.1.length:Int)
 arr:∀k,∀a∈ar.getD k [],(0<=a.2/\a.2<(N.length:Int))/\a.1∈Cq N
 srt:∀k,Ih (ar.getD k [])
 sp:∀q∈P,EG N.length p W q.1 q.2
 st:∀x r,0<=x->x<(N.length:Int)->Rt p x r->A3 h (N.getD x.toNat (0,[])).1 (ty.getD r.toNat 0)=true
 sa:∀x r,0<=x->x<(N.length:Int)->Rt p x r->∀a∈AK N x,∃t,(a.1,t)∈ar.getD r.toNat []/\EG N.length p W a.2 t
 co:∀X v,Cj h X->G7 h N P X v->JX h X v N.length p ty ar W
theorem F6 {p:List Int} {b:Int->Nat} (a:Fo p b) {x r:Int} (d:0<=x) (e:x<(p.length:Int)) (h:Rt p x r):0<=r/\r<(p.length:Int):=by
 obtain⟨s,hs,c,s1⟩:=a.root d e;rw[h.det hs];exact⟨c,s1⟩
theorem R3 {p q:List Int} (h:Ed p q) {r:Int} (a:0<=r) (b:r<(p.length:Int)):EF p r=r↔EF q r=r :=
 ⟨λe=>((h.2 r r a b).1 (.base e)).root,λe=>((h.2 r r a b).2 (.base e)).root⟩
theorem A5k {h:AG} {N:List AB} {P:List (Int×Int)} {p q ty:List Int} {ar:List (List (Int×Int))} {W:List (Int×Int)} (hs:Ed p q) (j:∃z,Fo q z) (u:JI h N P p ty ar W):JI h N P q ty ar W:=by
 obtain⟨nty,fo,lp,lt,la,wr,tyr,arr,srt,sp,st,sa,co⟩:=u;have i:∀x r,0<=x->x<(N.length:Int)->(Rt p x r↔Rt q x r):=λx r b c=>hs.2 x r b (by rw[lp];exact c);have s:∀ {x y},EG N.length p W x y->EG N.length q W x y:=λ{x y} g=>g.mono (λx y r b c k l h1 o=>.cls b c k l ((i x r b c).1 h1) ((i y r k l).1 o)) (λ_ _ h=>.wt h);refine⟨nty,j,by rw[<-hs.1];exact lp,lt,la,wr,tyr,arr,srt,λq j=>s (sp q j),λx r b c d=>st x r b c ((i x r b c).2 d),λx r b c d a ha=>?_,λX v t w=>?_⟩
 .grind
 obtain⟨c1,c2,m,n⟩:=co X v t w;exact⟨λx r b c d=>c1 x r b c ((i x r b c).2 d),c2,λr e f d=>m r e f ((R3 hs e (by rw[lp];exact f)).2 d),λr e f d=>n r e f ((R3 hs e (by rw[lp];exact f)).2 d)⟩
section
variable {h:AG} {N:List AB} {P:List (Int×Int)} {p ty:List Int} {ar:List (List (Int×Int))} {W:List (Int×Int)} {s t a b:Int}
theorem cR (n:JI h N P p ty ar (W++[(s,t)])) (hs:Rt p s a) (ht:Rt p t a):JI h N P p ty ar W:=by
 obtain⟨nty,fo,lp,lt,la,wr,tyr,arr,srt,sp,st,sa,co⟩:=n;have b:=wr (s,t) sc;have l:∀ {x y},EG N.length p (W++[(s,t)]) x y->EG N.length p W x y:=λ{x y} g=>g.mono (λx y r d f z A h1 k=>.cls d f z A h1 k) (λx y c=>by
  rcases Do.1 c with c|c
  .exact .wt c
  have e:(x,y)=(s,t):=by simpa using c
  cases e;exact .cls b.1.1 b.1.2 b.2.1 b.2.2 hs ht)
 refine⟨nty,fo,lp,lt,la,λw b=>wr w (UM _ b),tyr,arr,srt,λq o=>l (sp q o),st,λx r d f B a ha=>?_,λX v m u=>?_⟩
 .grind
 obtain⟨c1,c2,i,j⟩:=co X v m u;exact⟨c1,λw b=>c2 w (UM _ b),i,j⟩
theorem Uw (hk:Hu h) (c:JI h N P p ty ar (W++[(s,t)])) (hs:Rt p s a) (ht:Rt p t b) {X:List AB} {v:Int->Int} (n:Cj h X) (o:G7 h N P X v) :
  v a=v b/\(Bt h (ty.getD a.toNat 0) (ty.getD b.toNat 0)).2=true/\A3 h (Bt h (ty.getD a.toNat 0) (ty.getD b.toNat 0)).1 (X.getD (v a).toNat (0,[])).1=true:=by
 obtain⟨z,fo⟩:=c.fo;obtain⟨⟨g,s1⟩,i,j⟩:=c.wr (s,t) sc;simp only at g s1 i j;have d:=F6 fo g (by rw[c.lp];exact s1) hs;have f:=F6 fo i (by rw[c.lp];exact j) ht;rw[c.lp]at d f;obtain⟨c1,c2,l,x⟩:=c.co X v n o;have e1:=c1 s a g s1 hs;have e2:=c1 t b i j ht;have q:v s=v t:=c2 (s,t) sc;have e:v a=v b:=by rw[<-e1,<-e2,q]
 have r:=l a d.1 d.2 hs.root;have m:=l b f.1 f.2 ht.root;rw[<-e]at m;have y:=o.rng a d.1 d.2;have hx:=n _ (AE X (0,[]) (k:=(v a).toNat) oa);have ta:=c.tyr a d.1 d.2;have tb:=c.tyr b f.1 f.2;obtain⟨u,w⟩:=(MN hk ta.1 ta.2 tb.1 tb.2).2 _ hx.1 hx.2 r m;exact⟨e,u,w⟩
theorem Zg {α:Type} {l:List α} {d v:α} {a r:Int} (b:0<=a) (c:a<(l.length:Int)) (e:0<=r):(l.set a.toNat v).getD r.toNat d=if r=a then v else l.getD r.toNat d:=by grind
theorem XS (hk:Hu h) (V:JI h N P p ty ar (W++[(s,t)])) (hs:Rt p s a) (ht:Rt p t b) (S:a≠b) (af:(Bt h (ty.getD a.toNat 0) (ty.getD b.toNat 0)).2=true) :
  JI h N P (p.set b.toNat a) (ty.set a.toNat (Bt h (ty.getD a.toNat 0) (ty.getD b.toNat 0)).1) (ar.set a.toNat (Bw (ar.getD a.toNat []) (ar.getD b.toNat [])).1) (W++(Bw (ar.getD a.toNat []) (ar.getD b.toNat [])).2):=by
 have ag:=λX v H J=>Uw (X:=X) (v:=v) hk V hs ht H J;obtain⟨nty,⟨au,fo⟩,lp,lt,la,wr,tyr,arr,srt,sp,st,sa,co⟩:=V;obtain⟨⟨K,s1⟩,L,M⟩:=wr (s,t) sc;simp only at K s1 L M;have n:=F6 fo K (by rw[lp];exact s1) hs;have A:=F6 fo L (by rw[lp];exact M) ht;have ha:=hs.root;have hb:=ht.root;have D:=λ{x r:Int} (c:0<=x) (i:x<(N.length:Int)) (hx:Rt p x r)=>A5i fo n.1 A.1 A.2 ha hb S c (by rw[lp];exact i) hx;have T:∀ {x r:Int},0<=x->x<(N.length:Int)->Rt (p.set b.toNat a) x r->∃j,Rt p x j/\r=if j=b then a else j:=λ{x r} c i hx=>by
  obtain⟨j,h1,-,-⟩:=fo.root c (by rw[lp];exact i);exact⟨j,h1,hx.det (D c i h1)⟩
 have ta:=tyr a n.1 (by rw[<-lp];exact n.2);have tb:=tyr b A.1 (by rw[<-lp];exact A.2);obtain⟨an,ao,ap,aq⟩:=(MN hk ta.1 ta.2 tb.1 tb.2).1 af;generalize ak:(Bt h (ty.getD a.toNat 0) (ty.getD b.toNat 0)).1=m at *;generalize Z:ar.getD a.toNat []=xs at *;generalize aa:ar.getD b.toNat []=ys at *;have ai:EG N.length (p.set b.toNat a) (W++(Bw xs ys).2) s t:=by
  have h1:=D K s1 hs;have G:=D L M ht;rw[BY S]at h1;rw[DO rfl]at G;exact .cls K s1 L M h1 G
 have C:∀ {x y},EG N.length p (W++[(s,t)]) x y->EG N.length (p.set b.toNat a) (W++(Bw xs ys).2) x y:=λ{x y} g=>g.mono (λx y r c i ad ae h1 G=>.cls c i ad ae (D c i h1) (D ad ae G)) (λx y E=>by
  rcases Do.1 E with E|E
  .exact .wt (UM _ E)
  have e:(x,y)=(s,t):=by simpa using E
  cases e;exact ai)
 have hty:=λ{r:Int} (B:0<=r)=>Zg (l:=ty) (d:=0) (v:=m) n.1 (by rw[lt,<-lp];exact n.2) B;have I:=λ{r:Int} (B:0<=r)=>Zg (l:=ar) (d:=[]) (v:=(Bw xs ys).1) n.1 (by rw[la,<-lp];exact n.2) B;refine⟨nty,A5j fo n.1 n.2 A.1 A.2 ha hb S,by rw[oS];exact lp,by rw[oS];exact lt,by rw[oS];exact la,λw o=>?_,λx c i=>?_,λk y hy=>?_,λk=>?_,λq ah=>C (sp q ah),λx r c i z=>?_,λx r c i z y hy=>?_,λX v H J=>?_⟩
 .rcases Do.1 o with o|o
  .exact wr w (UM _ o)
  grind [Qd]
 .grind
 .have h1:=I (r:=(k:Int)) oa;rw[Sc]at h1;rw[h1]at hy;split at hy
  .grind [JB]
  exact arr _ _ hy
 .have h1:=I (r:=(k:Int)) oa;rw[Sc]at h1;rw[h1];split
  .grind [Uv]
  exact srt k
 .obtain⟨j,h1,rfl⟩:=T c i z;have hx:=nty _ (AE N (0,[]) (k:=x.toNat) oa);have Y:=F6 fo c (by rw[lp];exact i) h1;by_cases e:j=b
  .grind [Ku]
  grind [Ku]
 .obtain⟨j,h1,rfl⟩:=T c i z;have Y:=F6 fo c (by rw[lp];exact i) h1;obtain⟨u,F,O⟩:=sa x j c i h1 y hy;by_cases e:j=b
  .rw[DO e,I n.1,DO rfl];rw[e,aa]at F;rcases ND (x:=xs) F with g|⟨w,Q,R⟩
   .exact⟨u,g,C O⟩
   exact⟨w,Q,.trans (C O) (.symm (.wt (AAu _ R)))⟩
  rw[BY e,I Y.1];split
  .rename_i e2;rw[e2,Z]at F;exact⟨u,Qc F,C O⟩
  exact⟨u,F,C O⟩
 obtain⟨c1,c2,aj,U⟩:=co X v H J;obtain⟨e,-,am⟩:=ag X v H J;have al:∀r,0<=r->r<(N.length:Int)->EF (p.set b.toNat a) r=r->r≠b/\EF p r=r:=λr B ab z=>by grind [Cv]
 refine⟨λx r c i z=>?_,λw o=>?_,λr B ab z=>?_,λr B ab z y hy=>?_⟩
 .obtain⟨j,h1,rfl⟩:=T c i z;have:=c1 x j c i h1;split
  .rename_i e2;rw[this,e2,e]
  exact this
 .rcases Do.1 o with o|o
  .exact c2 w (UM _ o)
  obtain⟨f,e1,e2⟩:=Qd o;rw[<-Z]at e1;rw[<-aa]at e2;have Q:=U a n.1 (by rw[<-lp];exact n.2) ha _ e1;have R:=U b A.1 (by rw[<-lp];exact A.2) hb _ e2;rw[<-Q,<-R,e]
 .grind
 grind [JB]
end
theorem jK {l:List Nat} {f g:Nat->Bool} {b:Nat} (hn:l.Nodup) (hb:b∈l) (h1:f b=true) (a:g b=false) (h:∀x∈l,x≠b->g x=f x):(l.filter g).length+1=(l.filter f).length:=by
 induction l with
 | nil=>cases hb
 | cons x l i =>
  obtain⟨hx,d⟩:=UN.1 hn;by_cases e:x=b
  .subst e;have:l.filter g=l.filter f:=List.filter_congr λy hy=>h y (by simp[hy]) (λe=>hx (e▸hy));rw[AA5,AA5,BY (by rw[a];simp),DO h1,this];rfl
  have c:b∈l:=by
   rcases At.1 hb with g|g
   .exact absurd g.symm e
   exact g
  have j:=i d c (λy hy=>h y (by simp[hy]));rw[AA5,AA5,h x sc e];split
  .simp only[IF];omega
  exact j
def nR (p:List Int):Nat:=((List.range p.length).filter λk=>p.getD k 0==(k:Int)).length
theorem A99 (p:List Int):nR p<=p.length:=by
 have:=AAb (λk=>p.getD k 0==(k:Int)) (List.range p.length);rw[ABm]at this;exact this
theorem tL {p q:List Int} (h:Ed p q):nR q=nR p:=by
 unfold nR;rw[<-h.1];refine oN List.length (List.filter_congr λk hk=>?_);have a:=UJ.1 hk;have:=R3 h (r:=(k:Int)) oa oa;unfold EF at this;rw[Sc]at this;rw[ABl,UQ,UQ];exact this.symm
theorem tM {p:List Int} {a b:Int} (c:0<=b) (b1:b<(p.length:Int)) (hb:EF p b=b) (d:a≠b):nR (p.set b.toNat a)+1=nR p:=by
 unfold nR;rw[oS];refine jK (b:=b.toNat) List.nodup_range (UJ.2 oa) ?_ ?_ λx _ hx=>?_
 .rw[UQ];unfold EF at hb;omega
 .rw[YV _ _ _ oa,AAs];omega
 rw[getD_set_ne _ _ _ oa]
theorem R4 {α:Type} [DecidableEq α]:∀ {l l':List α},l.Nodup->(∀x∈l,x∈l')->l.length<=l'.length
 | [],_,_,_=>by simp
 | x :: l,l',hn,h=>by
  obtain⟨hx,b⟩:=UN.1 hn;have a:=h x sc;have:=R4 (l:=l) (l':=l'.erase x) b (λy hy=>(ABH (λe:y=x=>hx (by rw[<-e];exact hy))).2 (h y (by simp[hy])));rw[List.length_erase_of_mem a]at this;have:=List.length_pos_of_mem a;simp only[IF];omega
theorem cS {l:List (Int×Int)} (h:Ih l) {S:List Int} (hs:∀a∈l,a.1∈S):l.length<=S.length:=by
 have hn:(l.map (·.1)).Nodup:=by
  unfold List.Nodup;rw[iF];exact h.imp λg=>by omega
 have:=R4 hn (l':=S) (λx hx=>by
  obtain⟨a,ha,rfl⟩:=Y1.1 hx;exact hs a ha)
 rwa [OF]at this
theorem XT {h:AG} {N:List AB} {P:List (Int×Int)} {p ty:List Int} {ar:List (List (Int×Int))} (s:JI h N P p ty ar []) {a b:Int} (ha:0<=a/\a<(N.length:Int)) (hb:0<=b/\b<(N.length:Int)):JI h N (P++[(a,b)]) p ty ar [(a,b)]:=by
 obtain⟨nty,fo,lp,lt,la,wr,tyr,arr,srt,sp,st,sa,co⟩:=s;have l:∀ {x y},EG N.length p [] x y->EG N.length p [(a,b)] x y:=λ{x y} g=>g.mono (λx y r j k A B h1 f=>.cls j k A B h1 f) (λx y z=>by cases z);refine⟨nty,fo,lp,lt,la,λw i=>?_,tyr,arr,srt,λq c=>?_,st,λx r j k t y hy=>?_,λX v o d=>?_⟩
 .have e:w=(a,b):=by simpa using i
  subst e;exact⟨ha,hb⟩
 .rcases Do.1 c with c|c
  .exact l (sp q c)
  have e:q=(a,b):=by simpa using c
  subst e;exact .wt sc
 .obtain⟨u,h1,f⟩:=sa x r j k t y hy;exact⟨u,h1,l f⟩
 obtain⟨c1,c2,m,n⟩:=co X v o ⟨d.rng,d.ty,d.arc,λq c=>d.eq q (UM _ c)⟩;refine⟨c1,λw i=>?_,m,n⟩;have e:w=(a,b):=by simpa using i
 subst e;exact d.eq _ sc
def Zh (h:AG) (p ty:List Int) (ar:List (List (Int×Int))):List (Nat×Obj):=[(101,.box 111 true [.p Ey h,.sr 102 T3 0 p.length,.sr 103 T3 0 ty.length,.sr 104 DK 0 ar.length]),(102,.arr 3 T3 p),(103,.arr 3 T3 ty),(104,.arr 91 DK ar)]
theorem cU (h:AG) (hk:Hu h) {N:List AB} {P:List (Int×Int)} {p ty:List Int} {ar:List (List (Int×Int))} (W:JI h N P p ty ar []) {a b:Int} (ha:0<=a/\a<(N.length:Int)) (hb:0<=b/\b<(N.length:Int)) (ae:N.length<=10000) (hF:(Cq N).length<=1000000) :
  BT Tryz.prog 86 [.bp 101 [] 0,.p T3 a,.p T3 b] (Zh h p ty ar) [101]
  (λres L=>(res=.p .bool true/\∃B H u,L=Zh h B H u/\JI h N (P++[(a,b)]) B H u [])\/(res=.p .bool false/\(∃B H u,L=Zh h B H u)/\∀X v,Cj h X->¬G7 h N (P++[(a,b)]) X v)):=by
 refine Nk [0,1,2,3,6,7,8,9,10,11,19,48] [] [] Tryz.func86 Tryz.ntmps86 AI ?_;intro w0 K O0 ρ0 f ax ay;have hh:h.1.length<=100000:=SX hk.2 oa;have ag:∀x∈h.1,x.2.1.length<=100000:=λx hx=>SX (hk.1.wid x.2.1 (Y1.2 ⟨x,hx,rfl⟩)) oa;have ah:=XT W ha hb;generalize aw:P++[(a,b)]=Q at *;have av:N.length*((Cq N).length+1)<=10000*1000001:=Nat.mul_le_mul ae oa;simp only[Zh,A1];repeat'(first|exact trivial|apply eS rfl|refine rX f ?_ ?_)
 refine AL (ι:={s:(List Int×List Int×List (List (Int×Int)))×(List (Int×Int)×Nat)//JI h N Q s.1.1 s.1.2.1 s.1.2.2 (s.2.1.take s.2.2)/\s.2.2<=s.2.1.length/\nR s.1.1*((Cq N).length+1)+s.2.2<=N.length*((Cq N).length+1)+1}) (λs=>⟨[(3,.bp 3 [] 0),(7,.bp 7 [] 0),(8,.clo 134 [3,7])],[(101,.box 111 true [.p Ey h,.sr 102 T3 0 s.1.1.1.length,.sr 103 T3 0 s.1.1.2.1.length,.sr 104 DK 0 s.1.1.2.2.length]),(102,.arr 3 T3 s.1.1.1),(103,.arr 3 T3 s.1.1.2.1),(104,.arr 91 DK s.1.1.2.2),(3,.box 108 false [.bp 101 [] 0]),(7,.box 173 false [.sr 15 Ra 0 s.1.2.2]),(15,.arr 172 Ra s.1.2.1)]⟩) (λs=>nR s.1.1.1*((Cq N).length+1)+s.1.2.2) ⟨((p,ty,ar),([(a,b)],1)),ah,by simp,by have:=UI ((Cq N).length+1) (A99 p);rw[W.lp]at this;simp only;omega⟩ (eW [(101,.nm 101),(102,.nm 102),(103,.nm 103),(104,.nm 104),(3,.nm 3),(7,.nm 7),(15,.nm 15)]) (λs=>?_)
 obtain⟨⟨⟨q,d,aq⟩,V,k⟩,l,ai,ad⟩:=s;simp only at l ai ad ⊢;repeat'(first|exact trivial|apply eS rfl|refine rX f ?_ ?_|refine rC ?_ ?_<;>intro j<;>try(cases j;done))
 .exact eV
 .exact eV
 .have Y:0<k:=IN.1 j;have aj:((k:Int)-1).toNat=k-1:=by omega
  have T:=Aw V (0,0) (k:=k-1) oa;rw[show k-1+1=k by omega]at T;rw[aj];generalize ba:V.getD (k-1) (0,0)=st at *;obtain⟨s,t⟩:=st;rw[T]at l;obtain⟨⟨D,s1⟩,F,G⟩:=l.wr (s,t) sc;simp only at D s1 F G;obtain⟨M,fo⟩:=l.fo;have C:=l.lp;refine HB drawsAny f 8 [([0,1,2],3),([4,5,6],7)] [] (by kernel_rfl) (Uk ?_ ?_)
  .trivial
  refine mxC f (cQ h d aq M fo D (by rw[C];exact s1)) [(1,.nm 101),(2,.nm 102),(3,.nm 103),(4,.nm 104)] [102,103,104] ?_ ?_ ?_
  .exact eN
  .simp only[YG];exact eN
  rintro _ _ ⟨aa,c,rfl,rfl,ab,E,ap⟩;refine⟨[(101,.nm 1),(102,.nm 2),(103,.nm 3),(104,.nm 4)],.p T3 c,[(101,.box 111 true [.p Ey h,.sr 102 T3 0 aa.length,.sr 103 T3 0 d.length,.sr 104 DK 0 aq.length]),(102,.arr 3 T3 aa),(103,.arr 3 T3 d),(104,.arr 91 DK aq)],rfl,rfl,?_,?_,rfl,rfl,rfl,?_⟩
  .simp only[YG];exact eN
  .exact eN
  refine Uk ?_ ?_
  .trivial
  refine mxC f (cQ h d aq M ab F (by rw[<-E.1,C];exact G)) [(1,.nm 101),(2,.nm 102),(3,.nm 103),(4,.nm 104)] [102,103,104] ?_ ?_ ?_
  .exact eN
  .simp only[YG];exact eN
  rintro _ _ ⟨g,e,rfl,rfl,I,R,au⟩;refine⟨[(101,.nm 1),(102,.nm 2),(103,.nm 3),(104,.nm 4)],.p T3 e,[(101,.box 111 true [.p Ey h,.sr 102 T3 0 g.length,.sr 103 T3 0 d.length,.sr 104 DK 0 aq.length]),(102,.arr 3 T3 g),(103,.arr 3 T3 d),(104,.arr 91 DK aq)],rfl,rfl,?_,?_,rfl,rfl,rfl,?_⟩
  .simp only[YG];exact eN
  .exact eN
  refine wU f ?_ ?_ ?_
  .trivial
  .trivial
  repeat' apply eS rfl
  have i:=A5k (E.trans R) ⟨M,I⟩ l;have O:=E.trans R;have A:=(O.2 s c D (by rw[C];exact s1)).1 ap;have o:=(R.2 t e F (by rw[<-E.1,C];exact G)).1 au;have n:=i.lp;have w:=F6 I D (by rw[n];exact s1) A;have m:=F6 I F (by rw[n];exact G) o;refine evP f 4 ?_ ?_
  .trivial
  by_cases z:c=e
  .subst z;rw[show (c != c)=false from bne_self_eq_false c];refine rL f ?_ ?_
   .trivial
   repeat'(first|apply eS rfl|apply AC|refine rC ?_ ?_<;>intro j<;>try(cases j;done))
   have y:=cR i A o;have hn:=tL O;exact⟨⟨((g,d,aq),V,k-1),y,by simp only;omega,by simp only;rw[hn];omega⟩,by simp only;rw[hn];omega,eW [(101,.nm 101),(102,.nm 102),(103,.nm 103),(104,.nm 104),(3,.nm 3),(7,.nm 7),(15,.nm 15)]⟩
  rw[show (c != e)=true by simpa using z];refine rN 3 f ?_ ?_
  .trivial
  have J:=λr:Int=>cS (i.srt r.toNat) (λa ha=>(i.arr r.toNat a ha).2);refine clG f (A2C h hh ag g d aq V (k-1) oa oa w.1 w.2 m.1 m.2 (by rw[i.lt,n]) (by rw[i.la,n]) (i.tyr c w.1 (by rw[<-n];exact w.2)) (i.tyr e m.1 (by rw[<-n];exact m.2)) (SX (J c) oa) (SX (J e) oa)) [(1,.nm 101),(2,.nm 102),(3,.nm 103),(4,.nm 104),(5,.nm 3),(6,.nm 7),(7,.nm 15)] [102,103,104,15] ?_ ?_ ?_
  .exact eN
  .simp only[mgO];exact eN
  rintro res L (⟨e1,rfl,rfl⟩|⟨e1,rfl,S,U,an,Z,rfl⟩)
  .refine⟨[(101,.nm 1),(102,.nm 2),(103,.nm 3),(104,.nm 4),(3,.nm 5),(7,.nm 6),(15,.nm 7)],.p .bool false,[(101,.box 111 true [.p Ey h,.sr 102 T3 0 g.length,.sr 103 T3 0 d.length,.sr 104 DK 0 aq.length]),(102,.arr 3 T3 g),(103,.arr 3 T3 d),(104,.arr 91 DK aq),(3,.box 108 false [.bp 101 [] 0]),(7,.box 173 false [.sr 15 Ra 0 (k-1)]),(15,.arr 172 Ra V)],rfl,rfl,?_,?_,rfl,rfl,?_⟩
   .simp only[mgO];exact eN
   .exact eN
   refine rL f ?_ ?_
   .trivial
   repeat'(first|exact trivial|apply eS rfl|refine rX f ?_ ?_|refine rC ?_ ?_<;>intro j<;>try(cases j;done))
   refine Ev.ent (σ':=⟨[(6,.p .bool false)],Zh h g d aq⟩) ?_ (AD [(101,.nm 101),(102,.nm 102),(103,.nm 103),(104,.nm 104)] rfl rfl ?_ ?_)
   .exact fM f [.tmp 6] (.p .bool false) eT (.inr ⟨rfl,⟨g,d,aq,rfl⟩,λX v af am=>by
     have:=(Uw hk i A o af am).2.1;rw[e1]at this;cases this⟩)
   .unfold Zh;exact eN
   exact eN
  refine⟨[(101,.nm 1),(102,.nm 2),(103,.nm 3),(104,.nm 4),(3,.nm 5),(7,.nm 6),(15,.nm 7)],.p .bool true,[(101,.box 111 true [.p Ey h,.sr 102 T3 0 (g.set e.toNat c).length,.sr 103 T3 0 (d.set c.toNat (Bt h (d.getD c.toNat 0) (d.getD e.toNat 0)).1).length,.sr 104 DK 0 (aq.set c.toNat (Bw (aq.getD c.toNat []) (aq.getD e.toNat [])).1).length]),(102,.arr 3 T3 (g.set e.toNat c)),(103,.arr 3 T3 (d.set c.toNat (Bt h (d.getD c.toNat 0) (d.getD e.toNat 0)).1)),(104,.arr 91 DK (aq.set c.toNat (Bw (aq.getD c.toNat []) (aq.getD e.toNat [])).1)),(3,.box 108 false [.bp 101 [] 0]),(7,.box 173 false [.sr 15 Ra 0 U]),(15,.arr 172 Ra S)],rfl,rfl,?_,?_,rfl,rfl,?_⟩
  .simp only[mgO];exact eN
  .exact eN
  refine rL f ?_ ?_
  .trivial
  repeat'(first|apply eS rfl|apply AC|refine rC ?_ ?_<;>intro j<;>try(cases j;done))
  have y:=XS hk i A o z e1;rw[<-Z]at y;have hn:=tL O;have al:=tM (a:=c) m.1 m.2 o.root z;have az:(Bw (aq.getD c.toNat []) (aq.getD e.toNat [])).2.length<=(Cq N).length:=SX Qf (J c);have ao:=oN List.length Z;rw[As,OS,OS]at ao;have ak:nR g*((Cq N).length+1)=nR (g.set e.toNat c)*((Cq N).length+1)+((Cq N).length+1):=by rw[<-al,ABz,Nat.one_mul]
  rw[hn]at ak;exact⟨⟨((g.set e.toNat c,d.set c.toNat (Bt h (d.getD c.toNat 0) (d.getD e.toNat 0)).1,aq.set c.toNat (Bw (aq.getD c.toNat []) (aq.getD e.toNat [])).1),S,U),y,an,by simp only;omega⟩,by simp only;omega,eW [(101,.nm 101),(102,.nm 102),(103,.nm 103),(104,.nm 104),(3,.nm 3),(7,.nm 7),(15,.nm 15)]⟩
 have Y:k=0:=by
  have:=SY.1 j;omega
 subst Y;rw[AAg]at l;refine Ev.ent (σ':=⟨[(6,.p .bool true)],Zh h q d aq⟩) ?_ (AD [(101,.nm 101),(102,.nm 102),(103,.nm 103),(104,.nm 104)] rfl rfl ?_ ?_)
 .exact fM f [.tmp 6] (.p .bool true) eT (.inl ⟨rfl,q,d,aq,rfl,l⟩)
 .unfold Zh;exact eN
 exact eN
open Classical in
noncomputable def D9 (p:List Int) (x:Int):Int:=if h:∃r,Rt p x r then h.choose else x
theorem cV {p:List Int} {x r:Int} (h:Rt p x r):D9 p x=r:=by
 unfold D9;rw[dif_pos ⟨r,h⟩];exact(Exists.choose_spec (p:=λr=>Rt p x r) ⟨r,h⟩).det h
theorem PB {p:List Int} {b:Int->Nat} (a:Fo p b) {x:Int} (c:0<=x) (d:x<(p.length:Int)):Rt p x (D9 p x):=by
 obtain⟨r,h,-,-⟩:=a.root c d;rw[cV h];exact h
noncomputable def quo (p ty:List Int) (ar:List (List (Int×Int))):List AB:=(List.range p.length).map λk=>(ty.getD k 0,(ar.getD k []).map λa=>(a.1,D9 p a.2))
theorem Er (p ty:List Int) (ar:List (List (Int×Int))):(quo p ty ar).length=p.length:=by simp[quo]
theorem NE {p ty:List Int} {ar:List (List (Int×Int))} {n:Int} (n0:0<=n) (n1:n<(p.length:Int)):(quo p ty ar).getD n.toNat (0,[])=(ty.getD n.toNat 0,(ar.getD n.toNat []).map λa=>(a.1,D9 p a.2)):=by
 unfold quo;rw[AS,nO,AAE oa];rfl
def Kv (len:Nat) (o:List Int):List Int:=(List.range len).map λ(k:Nat)=>if (k:Int)∈o then ((o.idxOf (k:Int):Nat):Int) else -1
theorem XU (len:Nat) (o:List Int):(Kv len o).length=len:=by simp[Kv]
theorem XV {len:Nat} {o:List Int} {n:Int} (n0:0<=n) (n1:n<(len:Int)):(Kv len o).getD n.toNat 0=if n∈o then (o.idxOf n:Int) else -1:=by
 unfold Kv;rw[AS,nO,AAE oa];simp only[AAP,ABF];rw[show ((n.toNat:Nat):Int)=n by omega]
theorem XW {o:List Int} {n:Int} (h:n∉o):(o++[n]).idxOf n=o.length:=by
 rw[AC1,BY h];simp
theorem Zi {o t:List Int} {n:Int} (h:n∈o):(o++t).idxOf n=o.idxOf n:=by
 rw[AC1,DO h]
theorem A2D {len:Nat} {o:List Int} {n:Int} (n0:0<=n) (n1:n<(len:Int)) (h:n∉o):(Kv len o).set n.toNat (o.length:Int)=Kv len (o++[n]):=by
 apply AA6
 .simp[Kv]
 intro i h1 b;rw[List.getElem_set];simp only[Kv,AAU,AAX];by_cases e:n.toNat=i
 .rw[DO e];have e2:(i:Int)=n:=by omega
  rw[e2,DO sc,XW h]
 rw[BY e];have e2:(i:Int)≠n:=by omega
 by_cases a:(i:Int)∈o
 .rw[DO a,DO (by simp[a]),Zi a]
 rw[BY a,BY (by simp[a,e2])]
theorem XX {o t:List Int} {x:Int} (h:x∈o):Ax (o++t) x=Ax o x:=by
 unfold Ax;rw[DO (UM _ h),DO h,Zi h]
theorem Qg {f:List AB} (hf:AO f) (k:Nat):∀(l:List (Int×Int)) (t:List Int),(∀a∈l,0<=a.2/\a.2<(f.length:Int))->JA f t->f.length-t.length<=k ->
  (∀a∈l,a.2∈l.foldl (AX f k) t)/\∀x∈l.foldl (AX f k) t,x∈t\/∀a∈(f.getD x.toNat (0,[])).2,a.2∈l.foldl (AX f k) t:=by
 intro l;induction l with
 | nil=>exact λt _ _ _=>⟨λa ha=>(by cases ha),λx hx=>.inl hx⟩
 | cons a l o =>
  intro t hl ht i;simp only[SU];have j:JA f (AX f k t a)/\t <+: AX f k t a/\a.2∈AX f k t a/\∀x∈AX f k t a,x∈t\/∀b∈(f.getD x.toNat (0,[])).2,b.2∈AX f k t a:=by
   unfold AX;split
   .rename_i hn;exact⟨ht,AAn _,hn,λx hx=>.inl hx⟩
   rename_i hn;have q:=hl a sc;obtain⟨c,d⟩:=DR hf k t a.2 ht q.1 q.2 hn;obtain⟨e,g⟩:=IW hf k t a.2 ht q.1 q.2 hn i;exact⟨c,d,e,g⟩
  obtain⟨c,d,e,g⟩:=j;have p:=d.length_le;obtain⟨m,n⟩:=o (AX f k t a) (λb hb=>hl b (by simp[hb])) c oa;obtain⟨_,h⟩:=D8 (DR hf k) l (AX f k t a) (λb hb=>hl b (by simp[hb])) c;refine⟨λb hb=>?_,λx hx=>?_⟩
  .rcases At.1 hb with rfl|hb
   .exact h.subset e
   exact m b hb
  rcases n x hx with hx|hx
  .rcases g x hx with hx|hx
   .exact .inl hx
   exact .inr λb hb=>h.subset (hx b hb)
  exact .inr hx
def HH (f:List AB) (o a:List Int):List AB:=(a.drop o.length).map (CG f a)
theorem yL {f:List AB} {o t:List Int} {x:Int} (h:∀a∈(f.getD x.toNat (0,[])).2,a.2∈o):CG f (o++t) x=CG f o x:=by
 unfold CG;refine oN _ (Of λa ha=>?_);unfold Fg;rw[XX (h a ha)]
theorem A2E {f:List AB} {c b d:List Int} (e:c <+: b) (g:b <+: d) (i:∀x∈b,x∈c\/∀a∈(f.getD x.toNat (0,[])).2,a.2∈b) (hn:b.Nodup):HH f c b++HH f b d=HH f c d:=by
 obtain⟨t,rfl⟩:=e;obtain⟨s,rfl⟩:=g;unfold HH;rw[ABd,ABd,SZ,ABd,<-SZ,UK]
 congr 1
 refine Of λx hx=>?_;refine(yL λa ha=>?_).symm;rcases i x (AAu _ hx) with h|h
 .exact absurd rfl ((iN.1 hn).2.2 x h x hx)
 exact h a ha
theorem Zj (f:List AB) (o:List Int):HH f o o=[]:=by
 unfold HH;rw[AAV];rfl
theorem R5 {α β:Type} (f:α->β) {l:List α} (d:α) (e:β) {i:Nat} (h:i<l.length):(l.map f).getD i e=f (l.getD i d):=by
 simp[AS,AT h]
structure A9a (Q:List AB) (o1:List Int) (L:List (Int×Int)) (j:Nat) (oo:Nat->List Int):Prop where
 zero:oo 0=o1
 succ:∀i,i<L.length->oo (i+1)=AX Q j (oo i) (0,(L.getD i (0,0)).2)
 dok:∀i,JA Q (oo i)
 pre:∀i,o1 <+: oo i
 nxt:∀i,oo i <+: oo (i+1)
 tgt:∀i,∀a∈L.take i,a.2∈oo i
 cls:∀i,∀x∈oo i,x∈o1\/∀a∈(Q.getD x.toNat (0,[])).2,a.2∈oo i
 last:oo L.length=L.foldl (AX Q j) o1
theorem A5l {Q:List AB} (c:AO Q) {b:List Int} {L:List (Int×Int)} {j:Nat} (d:∀a∈L,0<=a.2/\a.2<(Q.length:Int)) (h1:JA Q b) (f:Q.length-b.length<=j):A9a Q b L j (λi=>(L.take i).foldl (AX Q j) b):=by
 have hl:=λi=>λa (ha:a∈L.take i)=>d a (iS ha);have hs:∀i,i<L.length->(L.take (i+1)).foldl (AX Q j) b=AX Q j ((L.take i).foldl (AX Q j) b) (0,(L.getD i (0,0)).2):=λi hi=>Jy (AX Q j) L (0,0) b hi;have hd:=λi=>D8 (DR c j) (L.take i) b (hl i) h1;refine⟨rfl,hs,λi=>(hd i).1,λi=>(hd i).2,λi=>?_,λi=>(Qg c j _ b (hl i) h1 f).1,λi=>(Qg c j _ b (hl i) h1 f).2,by simp only[SW]⟩;by_cases h:i<L.length
 .show _ <+: (L.take (i+1)).foldl (AX Q j) b;rw[hs i h];have g:=d _ (AE L (0,0) h);exact(D8 (DR c j) [(0,(L.getD i (0,0)).2)] _ (λa ha=>by
   have e:a=(0,(L.getD i (0,0)).2):=by simpa using ha
   subst e;exact g) (hd i).1).2
 show (L.take i).foldl (AX Q j) b <+: (L.take (i+1)).foldl (AX Q j) b;rw[By oa,By oa];exact AAn _
theorem A5m {α:Type} (l:List α) (x y:α) (t:List α) {k:Nat} (hk:k=l.length):(l++[x]++t).set k y=l++y :: t:=by
 subst hk;rw[SZ,ABi _ _ oa,AAJ];rfl
theorem yM {Q:List AB} {o a:List Int} {n:Int} (h:o++[n] <+: a):HH Q o a=CG Q a n :: HH Q (o++[n]) a:=by
 obtain⟨t,rfl⟩:=h;unfold HH;rw[ABd,SZ,ABd];rfl
def uO (h:AG) (p ty:List Int) (ar:List (List (Int×Int))) (M:List Int) (out:List AB):List (Nat×Obj):=[(101,.box 111 true [.p Ey h,.sr 102 T3 0 p.length,.sr 103 T3 0 ty.length,.sr 104 DK 0 ar.length]),(102,.arr 3 T3 p),(103,.arr 3 T3 ty),(104,.arr 91 DK ar),(105,.box 108 false [.bp 101 [] 0]),(106,.box 61 false [.sr 107 T3 0 M.length]),(107,.arr 3 T3 M),(108,.box 25 true [.sr 109 He 0 out.length]),(109,.arr 93 He out),(110,.box 174 false [.clo 137 [105,106,108,110]])]
def A7F (h:AG) (p0 ty:List Int) (ar:List (List (Int×Int))) (k:Nat):Prop:=∀(p o:List Int) (out:List AB) (n:Int),(∃b,Fo p b)->Ed p0 p->JA (quo p0 ty ar) o->out.length=o.length->0<=n->n<(p0.length:Int)->p0.length-o.length<=k ->
 BT Tryz.prog 137 [.p T3 n,.bp 105 [] 0,.bp 106 [] 0,.bp 108 [] 0,.bp 110 [] 0] (uO h p ty ar (Kv p0.length o) out) [101,105,106,108,110]
  (λres c=>∃a,(∃b,Fo a b)/\Ed p0 a/\res=.p T3 (Ax (AX (quo p0 ty ar) k o (0,D9 p0 n)) (D9 p0 n))/\c=uO h a ty ar (Kv p0.length (AX (quo p0 ty ar) k o (0,D9 p0 n))) (out++HH (quo p0 ty ar) o (AX (quo p0 ty ar) k o (0,D9 p0 n))))
theorem jL (h:AG) {p0 ty:List Int} {ar:List (List (Int×Int))} (ah:∃m,Fo p0 m) (v:AO (quo p0 ty ar)) (aw:ty.length=p0.length) (ad:ar.length=p0.length) (af:∀k,∀a∈ar.getD k [],0<=a.2/\a.2<(p0.length:Int)) (k:Nat) (ay:∀j,k=j+1->A7F h p0 ty ar j):A7F h p0 ty ar k:=by
 intro p o out n ai F N y n0 n1 hk;obtain⟨m,fo⟩:=ai;obtain⟨bj,J⟩:=ah;have T:=PB J n0 n1;have d:=F6 J n0 n1 T;have aq:=v.1;rw[Er]at aq;have C:=XU p0.length o;generalize bd:D9 p0 n=b at *;refine Nk [0,1,2,3,4,6,7,8,10,18,49,50,51,52] [] [] Tryz.func137 Tryz.ntmps137 AI ?_;intro w0 K O0 ρ0 f be bf;simp only[uO,A1];repeat'(first|exact trivial|apply eS rfl|refine rX f ?_ ?_)
 refine cP 2 f ?_ ?_
 .trivial
 refine rM f (cQ h ty ar m fo n0 (by rw[<-F.1];exact n1)) [(1,.nm 101),(2,.nm 102),(3,.nm 103),(4,.nm 104)] [102,103,104] ?_ ?_ ?_
 .exact eN
 .simp only[YG];exact eN
 rintro _ _ ⟨u,bi,rfl,rfl,L,bc,ba⟩;have Z:=F.trans bc;have e:=((F.2 n b n0 n1).1 T).det ba;subst e;refine⟨[(101,.nm 1),(102,.nm 2),(103,.nm 3),(104,.nm 4)],.p T3 b,[(101,.box 111 true [.p Ey h,.sr 102 T3 0 u.length,.sr 103 T3 0 ty.length,.sr 104 DK 0 ar.length]),(102,.arr 3 T3 u),(103,.arr 3 T3 ty),(104,.arr 91 DK ar)],rfl,rfl,?_,?_,rfl,rfl,?_⟩
 .simp only[YG];exact eN
 .exact eN
 refine rL f ?_ ?_
 .trivial
 repeat'(first|exact trivial|apply eS rfl|refine rX f ?_ ?_|refine rC ?_ ?_<;>intro l<;>try(cases l;done))
 .exact⟨d.1,by rw[C];exact d.2⟩
 .exact⟨d.1,by rw[C];exact d.2⟩
 .rw[XV d.1 d.2]at l;have B:b∈o:=IS λe=>by rw[BY e]at l;omega
  have V:AX (quo p0 ty ar) k o (0,b)=o:=DO B;have A:Ax o b=(Kv p0.length o).getD b.toNat 0:=by
   rw[XV d.1 d.2,DO B];unfold Ax;rw[DO B]
  refine Ev.ent (σ':=⟨[(6,.p T3 (Ax o b))],uO h u ty ar (Kv p0.length o) out⟩) ?_ (AD [(101,.nm 101),(102,.nm 102),(103,.nm 103),(104,.nm 104),(105,.nm 105),(106,.nm 106),(107,.nm 107),(108,.nm 108),(109,.nm 109),(110,.nm 110)] rfl rfl ?_ ?_)
  .refine fM f [.tmp 6] (.p T3 (Ax o b)) eT ⟨u,⟨m,L⟩,Z,by rw[V],?_⟩;rw[V,Zj,UL];rfl
  .unfold uO;exact eN
  refine eM ?_;exact A.symm
 .exact⟨d.1,by rw[C];exact d.2⟩
 .refine⟨⟨d.1,by rw[aw];exact d.2⟩,?_⟩;have:=N.len;rw[Er]at this;simp only[AP];omega
 .exact⟨d.1,by rw[ad];exact d.2⟩
 rw[XV d.1 d.2]at l;have w:b∉o:=λe=>by rw[DO e]at l;omega
 have M:=N.snoc d.1 (by rw[Er];exact d.2) w;have am:=M.len;rw[Er,As,If]at am;obtain⟨j,rfl⟩:∃j,k=j+1:=⟨k-1,by omega⟩;have al:=ay j rfl;have x:=NE (p:=p0) (ty:=ty) (ar:=ar) d.1 d.2;have ax:=λa (ha:a∈ar.getD b.toNat [])=>af b.toNat a ha;have bg:(ar.getD b.toNat []).length<=100000:=by
  have:=(v.2 _ (AE (quo p0 ty ar) (0,[]) (k:=b.toNat) (by rw[Er];omega))).1;rw[x,OF]at this;exact this
 have ab:∀a∈((ar.getD b.toNat []).map λa=>(a.1,D9 p0 a.2)),0<=a.2/\a.2<((quo p0 ty ar).length:Int):=λa ha=>by
  refine Af v (n:=b) ?_;rw[x];exact ha
 obtain⟨c,g⟩:∃c,A9a (quo p0 ty ar) (o++[b]) ((ar.getD b.toNat []).map λa=>(a.1,D9 p0 a.2)) j c:=⟨_,A5l v (j:=j) ab M (by rw[Er,As,If];omega)⟩;have G:AX (quo p0 ty ar) (j+1) o (0,b)=((ar.getD b.toNat []).map λa=>(a.1,D9 p0 a.2)).foldl (AX (quo p0 ty ar) j) (o++[b]):=by
  unfold AX;rw[BY w];show Ba (quo p0 ty ar) (j+1) o b=_;rw[Bv,x];rfl
 rw[<-g.last,OF]at G;have ao:=λ(i:Nat) (hi:i<(ar.getD b.toNat []).length)=>show (((ar.getD b.toNat []).map λa=>(a.1,D9 p0 a.2)).getD i (0,0))=(((ar.getD b.toNat []).getD i (0,0)).1,D9 p0 ((ar.getD b.toNat []).getD i (0,0)).2) by
  exact R5 (λa:Int×Int=>(a.1,D9 p0 a.2)) (0,0) (0,0) hi
 rw[y,A2D d.1 d.2 w];generalize bh:ar.getD b.toNat []=xs at *;refine AL (ι:={s:Nat×List Int//s.1<=xs.length/\(∃m,Fo s.2 m)/\Ed p0 s.2}) (λs=>⟨[(0,.p T3 b),(1,.bp 105 [] 0),(2,.bp 106 [] 0),(3,.bp 108 [] 0),(4,.bp 110 [] 0),(7,.p (.int .i64) (o.length:Int)),(8,.sr 64 A2 0 ((xs.take s.1.1).map λa=>(a.1,Ax (c s.1.1) (D9 p0 a.2))).length),(49,.p DK xs),(50,.p (.int .i64) (xs.length:Int)),(51,.p (.int .i64) (s.1.1:Int))],uO h s.1.2 ty ar (Kv p0.length (c s.1.1)) (out++[(ty.getD b.toNat 0,[])]++HH (quo p0 ty ar) (o++[b]) (c s.1.1))++[(64,.arr 106 A2 ((xs.take s.1.1).map λa=>(a.1,Ax (c s.1.1) (D9 p0 a.2))))]⟩) (λs=>xs.length-s.1.1) ⟨(0,u),ON _,⟨m,L⟩,Z⟩ (AD [(101,.nm 101),(102,.nm 102),(103,.nm 103),(104,.nm 104),(105,.nm 105),(106,.nm 106),(107,.nm 107),(108,.nm 108),(109,.nm 109),(110,.nm 110),(64,.nil)] rfl rfl ?_ ?_) (λs=>?_)
 .unfold uO;simp only[g.zero,Zj,UL];refine eM ?_;exact⟨by rw[XU,XU],y.symm⟩
 .exact eN
 obtain⟨⟨i,q⟩,hi,⟨Y,O⟩,U⟩:=s;have E:=g.pre i;have z:=g.dok i;have au:=E.length_le;have ag:=z.len;rw[As,If]at au;rw[Er]at ag;have P:(out++[(ty.getD b.toNat 0,[])]++HH (quo p0 ty ar) (o++[b]) (c i)).length=(c i).length:=by
  unfold HH;simp only[As,If,OF,aS];omega
 have R:out.length+1+(HH (quo p0 ty ar) (o++[b]) (c i)).length=(c i).length:=by
  rw[<-P,As,As,If]
 simp only[uO];repeat'(first|exact trivial|apply eS rfl|refine rX f ?_ ?_|refine rC ?_ ?_<;>intro l<;>try(cases l;done))
 .exact l
 .have r:i<xs.length:=IN.1 l;have X:=ax _ (AE xs (0,0) r);have W:=g.succ i (by rw[OF];exact r);rw[ao i r]at W;have ae:=A2E E (g.nxt i) (g.cls i) z.nd;have av:=g.pre (i+1);have S:out.length+1+(HH (quo p0 ty ar) (o++[b]) (c (i+1))).length=(c (i+1)).length:=by
   have h1:=av.length_le;rw[As,If]at h1;unfold HH;simp only[As,If,OF,aS];omega
  have I:((xs.take i).map λa=>(a.1,Ax (c i) (D9 p0 a.2)))++[((xs.getD i (0,0)).1,Ax (c (i+1)) (D9 p0 (xs.getD i (0,0)).2))]=(xs.take (i+1)).map λa=>(a.1,Ax (c (i+1)) (D9 p0 a.2)):=by
   rw[CK _ xs (0,0) r]
   congr 1
   refine Of λa ha=>?_;obtain⟨t,ht⟩:=g.nxt i;rw[<-ht,XX (g.tgt i (a.1,D9 p0 a.2) (by rw[<-List.map_take];exact Y1.2 ⟨a,ha,rfl⟩))]
  rw[R];refine HB drawsAny f 10 [([3,4,5],6),([1,2],7),([],8),([0],9)] [] (by kernel_rfl) (Uk ?_ ?_)
  .trivial
  refine mxC f (al q (c i) (out++[(ty.getD b.toNat 0,[])]++HH (quo p0 ty ar) (o++[b]) (c i)) (xs.getD i (0,0)).2 ⟨Y,O⟩ U z P X.1 X.2 oa) [(101,.nm 101),(102,.nm 102),(103,.nm 103),(104,.nm 104),(105,.nm 105),(106,.nm 106),(107,.nm 107),(108,.nm 108),(109,.nm 109),(110,.nm 110)] [102,103,104,107,109] ?_ ?_ ?_
  .exact eN
  .simp only[uO];refine eM ?_;exact R.symm
  rintro _ _ ⟨H,⟨az,aa⟩,bb,rfl,rfl⟩;rw[<-W,SZ _ _ (HH _ (c i) _),ae];refine⟨[(101,.nm 101),(102,.nm 102),(103,.nm 103),(104,.nm 104),(105,.nm 105),(106,.nm 106),(107,.nm 107),(108,.nm 108),(109,.nm 109),(110,.nm 110)],.p T3 (Ax (c (i+1)) (D9 p0 (xs.getD i (0,0)).2)),[(101,.box 111 true [.p Ey h,.sr 102 T3 0 H.length,.sr 103 T3 0 ty.length,.sr 104 DK 0 ar.length]),(102,.arr 3 T3 H),(103,.arr 3 T3 ty),(104,.arr 91 DK ar),(105,.box 108 false [.bp 101 [] 0]),(106,.box 61 false [.sr 107 T3 0 (Kv p0.length (c (i+1))).length]),(107,.arr 3 T3 (Kv p0.length (c (i+1)))),(108,.box 25 true [.sr 109 He 0 (c (i+1)).length]),(109,.arr 93 He (out++[(ty.getD b.toNat 0,[])]++HH (quo p0 ty ar) (o++[b]) (c (i+1)))),(110,.box 174 false [.clo 137 [105,106,108,110]])],rfl,rfl,?_,?_,rfl,rfl,rfl,?_⟩
  .simp only[uO];refine eM ?_;exact S
  .exact eN
  refine Uk ?_ ?_
  .trivial
  refine WM f [] ?_ ?_
  .trivial
  refine Uk ?_ ?_
  .trivial
  refine WM f [] ?_ ?_
  .trivial
  refine Uk ?_ ?_
  .trivial
  refine WM f [64] ?_ ?_
  .rw[OF,OS];simp only[AP];omega
  refine wU f ?_ ?_ ?_
  .trivial
  .trivial
  repeat'(first|apply eS rfl|apply AC|refine rX f ?_ ?_)
  .exact eV
  refine⟨⟨(i+1,H),r,⟨az,aa⟩,bb⟩,by simp only;omega,AD [(101,.nm 101),(102,.nm 102),(103,.nm 103),(104,.nm 104),(105,.nm 105),(106,.nm 106),(107,.nm 107),(108,.nm 108),(109,.nm 109),(110,.nm 110),(64,.nm 64)] rfl rfl ?_ ?_⟩
  .simp only[uO,<-I];refine eM ?_;exact S.symm
  simp only[<-I];exact eN
 .exact IN.2 oa
 have ak:i=xs.length:=by
  have:=SY.1 l;omega
 subst ak;obtain⟨t,ht⟩:=E;have A:Ax (c xs.length) b=(o.length:Int):=by
  rw[<-ht,XX sc];unfold Ax;rw[DO sc,XW w]
 have ap:CG (quo p0 ty ar) (c xs.length) b=(ty.getD b.toNat 0,xs.map λa=>(a.1,Ax (c xs.length) (D9 p0 a.2))):=by
  unfold CG;rw[x];simp only[bY];rfl
 have aj:(out++[(ty.getD b.toNat 0,([]:List (Int×Int)))]++HH (quo p0 ty ar) (o++[b]) (c xs.length)).getD o.length (0,[])=(ty.getD b.toNat 0,[]):=by
  rw[<-y];simp[AS]
 have D:=yM (Q:=quo p0 ty ar) (g.pre xs.length);rw[ap]at D;rw[SW,aj,A5m out _ _ _ y.symm,<-D];have an:out.length+1+(HH (quo p0 ty ar) (o++[b]) (c xs.length)).length=(out++HH (quo p0 ty ar) o (c xs.length)).length:=by
  rw[D];simp only[As,IF];omega
 rw[an];refine Ev.ent (σ':=⟨[(6,.p T3 (Ax (c xs.length) b))],uO h q ty ar (Kv p0.length (c xs.length)) (out++HH (quo p0 ty ar) o (c xs.length))⟩) ?_ (AD [(101,.nm 101),(102,.nm 102),(103,.nm 103),(104,.nm 104),(105,.nm 105),(106,.nm 106),(107,.nm 107),(108,.nm 108),(109,.nm 109),(110,.nm 110)] rfl rfl ?_ ?_)
 .exact fM f [.tmp 6] (.p T3 (Ax (c xs.length) b)) eT ⟨q,⟨Y,O⟩,U,by rw[G],by rw[G];rfl⟩
 .unfold uO;exact eN
 refine eM ?_;exact A.symm
theorem A2F (h:AG) {p0 ty:List Int} {ar:List (List (Int×Int))} (f:∃i,Fo p0 i) (b:AO (quo p0 ty ar)) (g:ty.length=p0.length) (c:ar.length=p0.length) (d:∀k,∀a∈ar.getD k [],0<=a.2/\a.2<(p0.length:Int)):∀k,A7F h p0 ty ar k
 | 0=>jL h f b g c d 0 (λj e=>by cases e)
 | k+1=>jL h f b g c d (k+1) (λj e=>by cases e;exact A2F h f b g c d k)
theorem A2G (len:Nat):Kv len []=List.replicate len (-1):=by
 unfold Kv;apply AA6
 .simp
 intro i h1 a;simp
theorem A2H {α:Type} (x y:α) {n i:Nat} (h:i<n):(List.replicate i x++List.replicate (n-i) y).set i x=List.replicate (i+1) x++List.replicate (n-(i+1)) y:=by
 obtain⟨m,a⟩:∃m,n-i=m+1:=⟨n-i-1,by omega⟩;have b:n-(i+1)=m:=by omega
 rw[a,b,ABi _ _ sc,ABC,AAJ,AAR,ABt,List.replicate_succ',SZ];rfl
theorem A2I (h:AG) {p ty:List Int} {ar:List (List (Int×Int))} (g:∃w,Fo p w) (f:AO (quo p ty ar)) (t:ty.length=p.length) (m:ar.length=p.length) (n:∀k,∀a∈ar.getD k [],0<=a.2/\a.2<(p.length:Int)) {r:Int} (u:0<=r) (v:r<(p.length:Int)) :
  BT Tryz.prog 87 [.bp 101 [] 0,.p T3 r] (Zh h p ty ar) [101]
  (λres _=>res=.p D7 (AH (quo p ty ar) (D9 p r))):=by
 have d:=A2F h g f t m n p.length p [] [] r g (Ed.refl p) ⟨by simp,λx hx=>by cases hx⟩ rfl u v sc;have o:HH (quo p ty ar) [] (AX (quo p ty ar) p.length [] (0,D9 p r))=AH (quo p ty ar) (D9 p r):=by
  have e:AX (quo p ty ar) p.length [] (0,D9 p r)=Ba (quo p ty ar) p.length [] (D9 p r):=BY sc;rw[e];unfold HH AH;rw[Er];rfl
 rw[AAl,o,A2G]at d;have s:=f.1;rw[Er]at s;generalize AH (quo p ty ar) (D9 p r)=G at *;generalize Ax _ _=z at d;generalize Kv _ _=M at d;refine Nk [0,1,2,4,5,6,7,8,16,17,18] [] [] Tryz.func87 Tryz.ntmps87 AI ?_;intro w0 K O0 ρ0 b A B;simp only[Zh,A1];repeat'(first|exact trivial|apply eS rfl|refine rX b ?_ ?_)
 .simp only[AP];omega
 refine AL (ι:={i:Nat//i<=p.length}) (λi=>⟨[(0,.bp 101 [] 0),(1,.p T3 r),(2,.bp 2 [] 0),(4,.bp 4 [] 0),(5,.bp 5 [] 0),(16,.p (.int .i64) (p.length:Int)),(17,.p (.int .i64) (i.1:Int))],[(5,.box 61 false [.sr 14 T3 0 p.length]),(14,.arr 3 T3 (List.replicate i.1 (-1)++List.replicate (p.length-i.1) 0)),(4,.box 25 true [.raw (.slice none 0 0)]),(2,.box 108 false [.bp 101 [] 0]),(101,.box 111 true [.p Ey h,.sr 102 T3 0 p.length,.sr 103 T3 0 ty.length,.sr 104 DK 0 ar.length]),(102,.arr 3 T3 p),(103,.arr 3 T3 ty),(104,.arr 91 DK ar)]⟩) (λi=>p.length-i.1) ⟨0,by omega⟩ (AD [(5,.nm 5),(14,.nm 14),(4,.nm 4),(2,.nm 2),(101,.nm 101),(102,.nm 102),(103,.nm 103),(104,.nm 104)] rfl rfl ?_ ?_) (λi=>?_)
 .refine eM ?_;rfl
 .exact eN
 obtain⟨i,hi⟩:=i;simp only;repeat'(first|exact trivial|apply eS rfl|apply AC|refine rX b ?_ ?_|refine rC ?_ ?_<;>intro c<;>try(cases c;done))
 .exact c
 .exact eV
 .have j:i<p.length:=IN.1 c;refine⟨⟨i+1,j⟩,by simp only;omega,AD [(5,.nm 5),(14,.nm 14),(4,.nm 4),(2,.nm 2),(101,.nm 101),(102,.nm 102),(103,.nm 103),(104,.nm 104)] rfl rfl ?_ ?_⟩
  .refine eM ?_;exact A2H _ _ j
  exact eN
 have q:i=p.length:=by
  have:=SY.1 c;omega
 subst q;rw[AAJ,List.replicate_zero,UL];refine cP 2 b ?_ ?_
 .trivial
 refine rM b (d) [(101,.nm 101),(102,.nm 102),(103,.nm 103),(104,.nm 104),(105,.nm 2),(106,.nm 5),(107,.nm 14),(108,.nm 7),(109,.nil),(110,.nm 8)] [102,103,104,14] ?_ ?_ ?_
 .exact eN
 .simp only[uO];refine eM ?_;exact ABC.symm
 rintro _ _ ⟨l,y,C,rfl,rfl⟩;refine⟨[(101,.nm 101),(102,.nm 102),(103,.nm 103),(104,.nm 104),(2,.nm 105),(5,.nm 106),(14,.nm 107),(7,.nm 108),(120,.nm 109),(8,.nm 110)],.p T3 z,[(101,.box 111 true [.p Ey h,.sr 102 T3 0 l.length,.sr 103 T3 0 ty.length,.sr 104 DK 0 ar.length]),(102,.arr 3 T3 l),(103,.arr 3 T3 ty),(104,.arr 91 DK ar),(2,.box 108 false [.bp 101 [] 0]),(5,.box 61 false [.sr 14 T3 0 M.length]),(14,.arr 3 T3 M),(7,.box 25 true [.sr 120 He 0 G.length]),(120,.arr 93 He G),(8,.box 174 false [.clo 137 [2,5,7,8]])],rfl,rfl,?_,?_,rfl,rfl,Cu ?_⟩
 .simp only[uO];exact eN
 .exact eN
 refine GB [120] ?_;repeat'(first|exact trivial|apply eS rfl|refine rX b ?_ ?_)
 exact fM b [.cell 4 25] (.p D7 G) eT rfl
structure A9b (f:List AB) (r:Int) (o:List Int):Prop where
 ok:JA f o
 zero:o.getD 0 0=r/\0<o.length
 cl:∀n∈o,∀a∈AK f n,a.2∈o
theorem Cw {f:List AB} (hf:AO f) {r:Int} (b:0<=r) (c:r<(f.length:Int)):A9b f r (Ba f f.length [] r):=by
 have h1:=DR hf f.length [] r (F4 f) b c sc;have d:=IW hf f.length [] r (F4 f) b c sc sc;have e:[r] <+: Ba f f.length [] r:=by
  obtain⟨k,hk⟩:∃k,f.length=k+1:=⟨f.length-1,by omega⟩;rw[hk,Bv];exact(D8 (DR hf k) _ _ (λa ha=>Af hf ha) ((F4 f).snoc b c sc)).2
 refine⟨h1.1,?_,λn hn a ha=>?_⟩
 .obtain⟨t,ht⟩:=e;rw[<-ht];exact⟨rfl,by simp⟩
 rcases d.2 n hn with h|h
 .cases h
 exact h a ha
theorem Ee {f:List AB} {r:Int} {i:Nat} (hi:i<(Ba f f.length [] r).length):(AH f r).getD i (0,[])=CG f (Ba f f.length [] r) ((Ba f f.length [] r).getD i 0):=by
 unfold AH;simp[AS,hi]
theorem EA (f:List AB) (r:Int):(AH f r).length=(Ba f f.length [] r).length:=by simp[AH]
def Al (f g:List AB):List AB:=f++g.map λx=>(x.1,AR f.length x.2)
theorem CT (f g:List AB):(Al f g).length=f.length+g.length:=by simp[Al]
theorem PC {f g:List AB} {x:Int} (a:0<=x) (b:x<(f.length:Int)):(Al f g).getD x.toNat (0,[])=f.getD x.toNat (0,[]):=by
 unfold Al;rw[AS,AS,Se oa]
theorem MX {f g:List AB} {y:Int} (a:0<=y) (b:y<(g.length:Int)):(Al f g).getD ((f.length:Int)+y).toNat (0,[])=((g.getD y.toNat (0,[])).1,AR f.length (g.getD y.toNat (0,[])).2):=by
 unfold Al;have e:((f.length:Int)+y).toNat=f.length+y.toNat:=by omega
 rw[e,AS,Sf oa,ABb];rw[<-AS];exact R5 (λx:AB=>(x.1,AR f.length x.2)) (0,[]) (0,[]) oa
theorem tQ {n:Nat} {p:List Int} {x y:Int} (h:EG n p [] x y):D9 p x=D9 p y:=by
 induction h with
 | cls _ _ _ _ h g=>rw[cV h,cV g]
 | wt h=>cases h
 | symm _ a=>exact a.symm
 | trans _ _ b c=>exact b.trans c
noncomputable abbrev NU (p ty:List Int) (ar:List (List (Int×Int))):List Int:=Ba (quo p ty ar) (quo p ty ar).length [] (D9 p 0)
structure A6p (h:AG) (N:List AB) (P:List (Int×Int)) (U:List AB) (v:Int->Int):Prop where
 good:AO U
 pos:0<U.length
 str:∀x∈U,Ih x.2
 feat:∀x∈U,∀a∈x.2,a.1∈Cq N
 ty:Cj h U
 ro:RO U
 zero:v 0=0
 proj:G7 h N P U v
 least:∀X w,Cj h X->G7 h N P X w->w 0=0->∃m,Ig h U X m
 len:U.length<=N.length
section
variable {h:AG} {N:List AB} {P:List (Int×Int)} {p ty:List Int} {ar:List (List (Int×Int))}
theorem R6 (a:JI h N P p ty ar []) (b:AO (quo p ty ar)) (c:0<N.length):A9b (quo p ty ar) (D9 p 0) (NU p ty ar):=by
 obtain⟨d,fo⟩:=a.fo;have lp:=a.lp;have:=F6 fo (x:=0) oa oa (PB fo oa oa);exact Cw b this.1 (by rw[Er];exact this.2)
theorem PD (d:JI h N P p ty ar []) (c:AO (quo p ty ar)) (b:0<N.length):D9 p 0∈NU p ty ar:=by
 have a:=R6 d c b;have:=AE (NU p ty ar) 0 a.zero.2;rw[a.zero.1]at this;exact this
theorem XY (a:JI h N P p ty ar []) {x y:Int} (b:(x,y)∈P) (hx:D9 p x∈NU p ty ar):D9 p y∈NU p ty ar:=by
 rw[<-tQ (a.sp (x,y) b)];exact hx
theorem pF (b:JI h N P p ty ar []) (f:AO (quo p ty ar)) (e:0<N.length) {x:Int} (c:0<=x) (i:x<(N.length:Int)) (hx:D9 p x∈NU p ty ar) {a:Int×Int} (ha:a∈AK N x):D9 p a.2∈NU p ty ar:=by
 obtain⟨j,fo⟩:=b.fo;have lp:=b.lp;obtain⟨t,ht,g⟩:=b.sa x _ c i (PB fo c oa) a ha;rw[tQ g];have d:=F6 fo c oa (PB fo c oa);refine(R6 b f e).cl _ hx (a.1,D9 p t) ?_;rw[AK,NE d.1 d.2];exact Y1.2 ⟨(a.1,t),ht,rfl⟩
def cW (N:List AB) (k:Nat) (g:List AB):Prop:=∀i:Int,0<=i->i<(g.length:Int)->(k:Int)+i<(N.length:Int)/\N.getD ((k:Int)+i).toNat (0,[])=((g.getD i.toNat (0,[])).1,AR k (g.getD i.toNat (0,[])).2)
theorem IY (m:JI h N P p ty ar []) (f:AO (quo p ty ar)) (e:0<N.length) {k:Nat} {g:List AB} (l:cW N k g) (r:RO g) (hk:D9 p (k:Int)∈NU p ty ar):∀(n:Nat) (i:Int),i.toNat<=n->0<=i->i<(g.length:Int)->D9 p ((k:Int)+i)∈NU p ty ar:=by
 intro n;induction n with
 | zero =>
  intro i hn o c;have:i=0:=by omega
  subst this;rw[AAc];exact hk
 | succ n q =>
  intro i hn o c;by_cases hi:i=0
  .subst hi;rw[AAc];exact hk
  obtain⟨j,d,s,a,ha,rfl⟩:=r i oa c;have b:=l j d oa;have:=pF m f e (x:=(k:Int)+j) oa b.1 (q j oa d oa) (a:=(a.1,a.2+(k:Int))) (by
   rw[AK,b.2];exact Y1.2 ⟨a,ha,rfl⟩)
  rw[AB9];exact this
end
theorem MY {h:AG} {N:List AB} {P:List (Int×Int)} {e:List AB} {v:Int->Int} (hx:G7 h N P e v) {k:Nat} {g:List AB} (d:cW N k g) (f:v (k:Int)=0):Ig h g e λi=>v ((k:Int)+i):=by
 refine⟨by show v ((k:Int)+0)=0;rw[AAc];exact f,λi b c=>?_,λi b c=>?_,λi b c a ha=>?_⟩
 .exact hx.rng _ oa (d i b c).1
 .have:=hx.ty _ oa (d i b c).1;rw[(d i b c).2]at this;exact this
 have:=hx.arc _ oa (d i b c).1 (a.1,a.2+(k:Int)) (by
  rw[AK,(d i b c).2];exact Y1.2 ⟨a,ha,rfl⟩)
 rw[AB9 (k:Int) a.2];exact this
theorem Cy {h:AG} {g X:List AB} {m:Int->Int} (a:Ig h g X m):G7 h g [] X m:=⟨a.rng,a.ty,a.arc,λq b=>by cases b⟩
theorem Qh {h:AG} {f g X:List AB} (hf:AO f) (j:AO g) {v w:Int->Int} (h1:G7 h f [] X v) (e:G7 h g [] X w):G7 h (Al f g) [] X (λx=>if x<(f.length:Int) then v x else w (x-(f.length:Int))):=by
 have hl:=CT f g;refine⟨λx c d=>?_,λx c d=>?_,λx c d a ha=>?_,λq k=>by cases k⟩
 .rw[hl]at d;show _/\_;try simp only
  split
  .exact h1.rng x c (by assumption)
  exact e.rng _ oa oa
 .rw[hl]at d;try simp only
  by_cases hx:x<(f.length:Int)
  .rw[DO hx,PC c hx];exact h1.ty x c hx
  rw[BY hx];have:=MX (f:=f) (g:=g) (y:=x-(f.length:Int)) oa oa;rw[show (f.length:Int)+(x-(f.length:Int))=x by omega]at this;rw[this];exact e.ty _ oa oa
 rw[hl]at d;try simp only
 by_cases hx:x<(f.length:Int)
 .rw[DO hx];rw[AK,PC c hx]at ha;have i:=Af hf ha;rw[DO i.2];exact h1.arc x c hx a ha
 rw[BY hx];have:=MX (f:=f) (g:=g) (y:=x-(f.length:Int)) oa oa;rw[show (f.length:Int)+(x-(f.length:Int))=x by omega]at this;rw[AK,this]at ha;obtain⟨b,hb,rfl⟩:=Y1.1 ha;have i:=Af j hb;rw[BY (by simp only;omega)];try simp only
 rw[show b.2+(f.length:Int)-(f.length:Int)=b.2 by omega];exact e.arc _ oa oa b hb
theorem pG {h:AG} {N X:List AB} {P:List (Int×Int)} {v:Int->Int} (h1:G7 h N [] X v) (a:∀q∈P,v q.1=v q.2):G7 h N P X v:=⟨h1.rng,h1.ty,h1.arc,a⟩
theorem J6 {N f g:List AB} {k:Nat} (h:cW f k N):cW (Al f g) k N:=by
 intro i a b;have:=h i a b;rw[CT,PC oa this.1];exact⟨by omega,this.2⟩
theorem R7 {f:List AB}:cW f 0 f:=by
 intro i c b;rw[show ((0:Nat):Int)+i=i by omega];refine⟨b,?_⟩;have:AR 0 (f.getD i.toNat (0,[])).2=(f.getD i.toNat (0,[])).2:=by
  unfold AR;rw[Of (g:=id) (λa _=>by show (a.1,a.2+((0:Nat):Int))=a;rw[Int.natCast_zero,AAc]),List.map_id]
 rw[this]
theorem Kw {f g:List AB}:cW (Al f g) f.length g:=by
 intro i a b;rw[CT,MX a b];exact⟨by omega,rfl⟩
set_option maxHeartbeats 1000000 in
theorem A2J {h:AG} {N:List AB} {P:List (Int×Int)} {p ty:List Int} {ar:List (List (Int×Int))} (I:JI h N P p ty ar []) (B:AO (quo p ty ar)) (K:0<N.length) (E:∀x,0<=x->x<(N.length:Int)->D9 p x∈NU p ty ar) :
  A6p h N P (AH (quo p ty ar) (D9 p 0)) (λx=>Ax (NU p ty ar) (D9 p x)):=by
 have m:=R6 I B K
 have ab:=PD I B K
 obtain⟨nty,⟨ao,fo⟩,lp,lt,la,wr,tyr,arr,srt,sp,st,sa,co⟩:=I
 have ag:=Er p ty ar
 have s:=λ{x:Int} (z:0<=x) (A:x<(N.length:Int))=>PB fo z (by rw[lp];exact A)
 have G:=λ{x:Int} (z:0<=x) (A:x<(N.length:Int))=>F6 fo z (by rw[lp];exact A) (s z A)
 have H:=EA (quo p ty ar) (D9 p 0)
 have W:=λi=>Ee (f:=quo p ty ar) (r:=D9 p 0) (i:=i)
 have J:∀x:Int,0<=x->x<(N.length:Int)->AK (quo p ty ar) x=(ar.getD x.toNat []).map λa=>(a.1,D9 p a.2):=λx z A=>by
  rw[AK,NE z (by rw[lp];exact A)]
 have n:∀x∈NU p ty ar,(0<=x/\x<(N.length:Int))/\EF p x=x:=by
  have ad:o9 (quo p ty ar) (quo p ty ar) id (λx=>(0<=x/\x<(N.length:Int))/\EF p x=x):=by
   refine⟨λi _=>by simp,λi hi a ha=>?_,λi j _ _ e=>e⟩
   rw[J i hi.1.1 hi.1.2]at ha
   obtain⟨b,hb,rfl⟩:=List.mem_map.1 ha
   have c:=(arr _ b hb).1
   have:=G c.1 c.2
   rw[lp]at this
   exact⟨this,(s c.1 c.2).root⟩
  have M:=G (x:=0) oa oa
  rw[lp]at M
  exact(Qa ad _ [] _ (λx hx=>by cases hx) ⟨M,(s (x:=0) oa oa).root⟩).2
 have ae:=λ(q:Nat)=>Qb B (quo p ty ar).length [] (D9 p 0) (F4 _) (G (x:=0) oa oa).1 (by rw[ag];exact(G (x:=0) oa oa).2) sc q
 unfold NU at m ab E n ⊢
 generalize ak:AH (quo p ty ar) (D9 p 0)=C at *
 generalize am:Ba (quo p ty ar) (quo p ty ar).length [] (D9 p 0)=o at *
 have u:∀i:Int,0<=i->i<(o.length:Int)->o.getD i.toNat 0∈o/\Ax o (o.getD i.toNat 0)=i:=λi d g=>by
  refine⟨AE o 0 oa,?_⟩
  rw[DI m.ok.nd oa]
  omega
 have w:∀x∈o,C.getD (Ax o x).toNat (0,[])=(ty.getD x.toNat 0,(ar.getD x.toNat []).map λa=>(a.1,Ax o (D9 p a.2))):=λx hx=>by
  have ai:=A0 hx
  have c:=(n x hx).1
  rw[W _ oa,ai.2.2]
  unfold CG
  rw[NE c.1 (by rw[lp];exact c.2),List.map_map]
  rfl
 have L:∀x∈o,∀a∈ar.getD x.toNat [],D9 p a.2∈o:=λx hx a ha=>by
  have c:=(n x hx).1
  exact m.cl x hx (a.1,D9 p a.2) (by rw[J x c.1 c.2];exact List.mem_map.2 ⟨a,ha,rfl⟩)
 have O:∀k,Ih ((ar.getD k []).map λa=>(a.1,Ax o (D9 p a.2))):=λk=>by
  unfold Ih
  rw[List.pairwise_map]
  exact srt k
 have D:∀x∈C,∃y∈o,x=(ty.getD y.toNat 0,(ar.getD y.toNat []).map λa=>(a.1,Ax o (D9 p a.2))):=λx hx=>by
  obtain⟨i,hi,rfl⟩:=Co (0,[]) hx
  have h1:=u (i:Int) oa oa
  refine⟨_,h1.1,?_⟩
  rw[<-w _ h1.1,h1.2]
  rw[Int.toNat_natCast]
 have aa:Ax o (D9 p 0)=0:=by
  have:=DI m.ok.nd m.zero.2
  rw[m.zero.1]at this
  exact this
 have al:=m.ok.len
 have aj:=B.1
 refine⟨⟨by omega,λx hx=>?_⟩,by rw[H];exact m.zero.2,λx hx=>?_,λx hx a ha=>?_,λx hx=>?_,λi d g=>?_,aa,⟨λi d g=>?_,λi d g=>?_,λi d g a ha=>?_,λq af=>?_⟩,λX v Y Q ah=>?_,by omega⟩
 .obtain⟨y,hy,rfl⟩:=D x hx
  have c:=(n y hy).1
  refine⟨?_,λa ha=>?_⟩
  .have:=(B.2 _ (AE (quo p ty ar) (0,[]) (k:=y.toNat) oa)).1
   rw[NE c.1 (by rw[lp];exact c.2),List.length_map]at this
   simp only[List.length_map]
   exact this
  obtain⟨b,hb,rfl⟩:=List.mem_map.1 ha
  have:=A0 (L y hy b hb)
  rw[H]
  exact⟨this.1,this.2.1⟩
 .obtain⟨y,hy,rfl⟩:=D x hx
  exact O _
 .obtain⟨y,hy,rfl⟩:=D x hx
  obtain⟨b,hb,rfl⟩:=List.mem_map.1 ha
  exact(arr _ b hb).2
 .obtain⟨y,hy,rfl⟩:=D x hx
  have c:=(n y hy).1
  exact tyr y c.1 c.2
 . -- in order
  obtain⟨j,an,a,ha,e⟩:=ae i.toNat (by simp only[List.length_nil];omega) oa
  have h1:=u (j:Int) oa oa
  have T:=u i oa oa
  rw[Int.toNat_natCast]at h1
  have c:=(n _ h1.1).1
  rw[J _ c.1 c.2]at ha
  obtain⟨b,hb,rfl⟩:=List.mem_map.1 ha
  refine⟨(j:Int),by omega,by omega,(b.1,Ax o (D9 p b.2)),?_,?_⟩
  .have:=w _ h1.1
   rw[h1.2]at this
   rw[AK,this]
   exact List.mem_map.2 ⟨b,hb,rfl⟩
  show Ax o (D9 p b.2)=i
  simp only at e
  rw[e,T.2]
 .have:=A0 (E i d g)
  rw[H]
  exact⟨this.1,this.2.1⟩
 .show A3 h _ (C.getD (Ax o (D9 p i)).toNat (0,[])).1=true
  rw[w _ (E i d g)]
  exact st i _ d g (s d g)
 .obtain⟨t,ht,Z⟩:=sa i _ d g (s d g) a ha
  have e:=tQ Z
  show Av (AK C (Ax o (D9 p i))) a.1=Ax o (D9 p a.2)
  rw[e,AK,w _ (E i d g)]
  exact Bi (O _) (a:=(a.1,Ax o (D9 p t))) (List.mem_map.2 ⟨(a.1,t),ht,rfl⟩)
 .show Ax o (D9 p q.1)=Ax o (D9 p q.2)
  rw[tQ (sp q af)]
 obtain⟨c1,c2,R,S⟩:=co X v Y Q
 refine⟨λi=>v (o.getD i.toNat 0),?_,λi d g=>?_,λi d g=>?_,λi d g a ha=>?_⟩
 .show v (o.getD 0 0)=0
  rw[m.zero.1,<-c1 0 _ oa oa (s oa oa)]
  exact ah
 .have l:=u i d oa
  have c:=(n _ l.1).1
  exact Q.rng _ c.1 c.2
 .have l:=u i d oa
  have c:=n _ l.1
  have hn:=w _ l.1
  rw[l.2]at hn
  rw[hn]
  exact R _ c.1.1 c.1.2 c.2
 have l:=u i d oa
 have c:=n _ l.1
 have hn:=w _ l.1
 rw[l.2]at hn
 rw[AK,hn]at ha
 obtain⟨b,hb,rfl⟩:=List.mem_map.1 ha
 have U:=S _ c.1.1 c.1.2 c.2 b hb
 have F:=(arr _ b hb).1
 have V:=A0 (L _ l.1 b hb)
 simp only
 rw[V.2.2,<-c1 b.2 _ F.1 F.2 (s F.1 F.2)]
 exact U
def Nrm (c:List Int):Prop:=c.length=0\/c.getD (c.length-1) 0≠0
theorem XZ (b:List Int):Nrm (BP b):=by
 unfold Nrm BP;have hl:=WT b b.length;rw[OS,AAK hl];rcases Ro b b.length with h|h
 .exact .inl h
 by_cases h0:Cm b b.length=0
 .exact .inl h0
 right;rw[AS,List.getElem?_take_of_lt oa,<-AS];exact h
theorem A5n {a b:List Int} (ha:I8 a) (hb:I8 b) (h:∀i,Bb a i=Bb b i) (k:Nat):a.getD k 0=b.getD k 0:=by
 have d:=BI ha k;have f:=BI hb k;have j:=d.1;have l:=d.2;have m:=f.1;have o:=f.2;have e:(a.getD k 0).toNat=(b.getD k 0).toNat:=by
  refine Nat.eq_of_testBit_eq λr=>?_;by_cases g:r<64
  .have:=h (64*k+r);unfold Bb at this;rw[show (64*k+r) / 64=k by omega,show (64*k+r) % 64=r by omega]at this;exact this
  have c:∀n:Nat,n<18446744073709551616->n.testBit r=false:=λn hn=>by
   have e:(18446744073709551616:Nat)=2 ^ 64:=by decide
   rw[e]at hn;exact Nat.testBit_lt_two_pow (AAj hn (Nat.pow_le_pow_right dc oa))
  rw[c _ oa,c _ oa]
 omega
theorem tR {a b:List Int} (c:∀k,a.getD k 0=b.getD k 0) (hb:Nrm b):b.length<=a.length:=by
 rcases hb with h|h
 .omega
 refine IS λd=>h ?_;rw[<-c];exact Gr oa
theorem A7G {a b:List Int} (ha:I8 a) (hb:I8 b) (e:Nrm a) (f:Nrm b) (h:∀i,Bb a i=Bb b i):a=b:=by
 have c:=A5n ha hb h;have hl:a.length=b.length:=AAy (tR (λk=>(c k).symm) e) (tR c f);refine AA6 hl λi h1 d=>?_;have:=c i;simpa[AS,h1,d] using this
theorem jM {α:Type} (l:List α) (x:α) (n:Nat):List.Perm (l.take n++[x]++l.drop n) (x :: l):=by
 have h:l.take n++[x]++l.drop n=l.take n++x :: l.drop n:=by simp
 rw[h];refine AC6.trans ?_;rw[AAL]
def Apt (l:List ByteArray):Prop:=l.Pairwise λa b=>Ac a b=false
theorem Tf {a b:ByteArray} (h:Ac a b=false):Ac b a=false:=by
 cases hh:Ac b a with
 | false=>rfl
 | true=>rw[FO hh]at h;cases h
theorem A2K {l:List ByteArray} {s:ByteArray} (h:Apt l) (hs:∀x∈l,Ac x s=false):Apt (Dm l s):=by
 unfold Dm;split
 .exact h
 refine(List.Perm.pairwise_iff (λa=>Tf a) (jM l s _)).2 ?_;exact Sm.2 ⟨λx hx=>Tf (hs x hx),h⟩
theorem pH {d:List AJ} (hn:Dp d=0):Apt (AW d):=by
 have key:∀k,k<=d.length->Apt (AW (d.take k))/\∀s∈AW (d.take k),∃i,i<k/\(d.getD i d0).1=s:=by
  intro k;induction k with
  | zero =>
   intro _;exact⟨.nil,λs hs=>by cases hs⟩
  | succ k b =>
   intro hk;obtain⟨h1,a⟩:=b oa;have e:AW (d.take (k+1))=Dm (AW (d.take k)) (d.getD k d0).1:=by
    have:d.take (k+1)=d.take k++[d.getD k d0]:=Aw d d0 oa;rw[this];unfold AW;rw[AAO];rfl
   rw[e];refine⟨A2K h1 λx hx=>?_,λs hs=>?_⟩
   .obtain⟨i,hi,rfl⟩:=a x hx;cases hh:Ac (d.getD i d0).1 (d.getD k d0).1 with
    | false=>rfl
    | true =>
     have g:=TR d hh;rw[We hn (j:=i) oa,We hn (j:=k) oa]at g;omega
   rcases QN hs with hs|hs
   .obtain⟨i,hi,e⟩:=a s hs;exact⟨i,by omega,e⟩
   exact⟨k,by omega,hs.symm⟩
 have:=(key d.length (No _)).1
 rwa [SW]at this
structure Nd (l:List (List Int)):Prop where
 nd:l.Nodup
 nrm:∀c∈l,Nrm c
theorem A5o {l:List (List Int)} {c:List Int} (h:Nd l) (a:c∉l) (hn:Nrm c):Nd (l++[c]):=by
 refine⟨?_,λx hx=>?_⟩
 .rw[iN];refine⟨h.nd,by simp,λx hx y hy e=>a ?_⟩;have:y=c:=by simpa using hy
  rw[<-this,<-e];exact hx
 rcases Do.1 hx with hx|hx
 .exact h.nrm x hx
 have:x=c:=by simpa using hx
 rw[this];exact hn
theorem A5p {l:List (List Int)} (h:Nd l) (i k:Nat):Nd (HE l i k):=by
 unfold HE;split
 .rename_i a;rw[An,Sa]at a;refine A5o h (λb=>?_) (XZ _);have:nL l (GS (l.getD i []) (l.getD k []))=true:=To.2 ⟨_,b,by unfold Jt;exact AB0 rfl⟩;rw[this]at a;cases a.2
 exact h
theorem tS {i:Nat}:∀ {n k:Nat} {l:List (List Int)},Nd l->Nd (HF i n k l)
 | 0,_,_,h=>h
 | n+1,k,l,h=>by
  unfold HF;split
  .exact tS (A5p h i k)
  exact h
theorem tT:∀ {n i:Nat} {l:List (List Int)},Nd l->Nd (JV n i l)
 | 0,_,_,h=>h
 | n+1,i,l,h=>by
  unfold JV;split
  .exact tT (tS h)
  exact h
theorem yN {d:List AJ} (m:BW d=0):Nd (Ai d):=by
 obtain⟨-,l,-,hn,hl⟩:=BH m;have p:=FM d d.length;rw[SW]at p;have hap:=pH hn;refine⟨?_,λc n=>?_⟩
 .unfold Ai List.Nodup;rw[iF,Sl];intro i j hi a o e;have h1:=(Sl.1 hap) i j hi a o;have g:∀k,(hk:k<(AW d).length)->(AW d).getD k ByteArray.empty=(AW d)[k]:=λk hk=>by simp[AS,hk]
  have f:=(Eb (d:=d) (all:=AW d) oa (AW d)[j] 0).2.1;have b:=iD hn hl l hi a (by
   rw[g i hi,g j a,e];unfold Fy;have:=(Ww f f).2 λ_ h=>h;rw[this];rfl)
  rw[g i hi,g j a,h1]at b;cases b
 obtain⟨s,hs,rfl⟩:=Y1.1 n;unfold HP ofF;split
 .exact XZ _
 exact .inl rfl
theorem Tg {d:List AJ}:∀ {l:List (List Int)} {o:List AQ},(o.map (·.2)++l).Nodup->((l.foldl (Rm d) o).map (·.2)).Nodup
 | [],o,h=>by simpa using h
 | b :: l,o,h=>by
  rw[SU];refine Tg ?_;unfold Rm GV cB;have c:=(jM o (IP d (AW d) (Ai d) b,b) (FY (IP d (AW d) (Ai d) b,b) o o.length)).map (λx:AQ=>x.2);have e:List.Perm ((o.take (FY (IP d (AW d) (Ai d) b,b) o o.length)++[(IP d (AW d) (Ai d) b,b)]++o.drop (FY (IP d (AW d) (Ai d) b,b) o o.length)).map (λx:AQ=>x.2)++l) (o.map (·.2)++b :: l) :=
   (c.append_right l).trans (AC6 (a:=b)).symm
  exact e.nodup_iff.2 h
def NV (h:AG):Prop:=∀a b,0<=a->a<(h.1.length:Int)->0<=b->b<(h.1.length:Int)->A3 h a b=true->A3 h b a=true->a=b
theorem A7H {h:AG} (hk:Hu h) (hn:Nd (h.1.map λt=>t.2.1)):NV h:=by
 intro a b c d f b1 h1 l;have n:=hk.1.wds _ (Cp c d);have o:=hk.1.wds _ (Cp f b1);have e:Bn h a=Bn h b:=A7G n o (hn.nrm _ (Cp c d)) (hn.nrm _ (Cp f b1)) λi=>by
  rw[ABl];exact⟨(Cb hk f b1 c d).1 l i,(Cb hk c d f b1).1 h1 i⟩
 have j:=Sl.1 hn.nd;have g:∀k:Int,0<=k->(hk:k<(h.1.length:Int))->Bn h k=(h.1.map λt=>t.2.1)[k.toNat]'(by rw[OF];omega):=λk p q=>by
  unfold Bn;simp[AS,show k.toNat<h.1.length by omega]
 rw[g a c d,g b f b1]at e;rcases Int.lt_trichotomy a b with m|heq|m
 .exact absurd e (j a.toNat b.toNat (by rw[OF];omega) (by rw[OF];omega) oa)
 .exact heq
 exact absurd e.symm (j b.toNat a.toNat (by rw[OF];omega) (by rw[OF];omega) oa)
theorem jN (d:List AJ):NV (BF d).1:=by
 refine A7H (MM d) ?_;unfold BF;split
 .exact⟨.nil,λc h=>(by cases h)⟩
 rename_i a;have a:(Bm d).2=0:=IS a;have g:Bc d=0:=by
  unfold Bm at a;split at a
  .rename_i h;exact absurd a h
  rename_i h;exact IS h
 obtain⟨k,-,-⟩:=DH g;obtain⟨f,m,-⟩:=B9 k;have hf:Nd (BD (Ai d)):=tT (yN f);have e:((IR d).1.map λt=>t.2.1)=(A9 d).map λx=>x.2:=by
  show ((F0 _ _ _).map λt=>t.2.1)=_;unfold F0;rw[bY];apply AA6
  .simp
  intro i h1 l;simp[AS,show i<(A9 d).length by simpa using h1]
 show Nd ((IR d).1.map λt=>t.2.1);rw[e];refine⟨Tg (by simpa using hf.nd),λc j=>?_⟩;obtain⟨x,hx,rfl⟩:=Y1.1 j;obtain⟨b,hb,rfl⟩:=Ec.1 hx;exact hf.nrm b hb
structure VF (h:AG) (f:List AB):Prop where
 good:AO f
 pos:0<f.length
 ty:Cj h f
 str:∀x∈f,Ih x.2
 ft:∀x∈f,∀a∈x.2,0<=a.1/\a.1<(h.2.length:Int)
 can:AH f 0=f
 ro:RO f
structure HU (h:AG):Prop where
 ok:Hu h
 inj:NV h
 ft:h.2.length<=64
def jO (U:List AB):Prop:=(Ba U U.length [] 0).length=U.length/\∀k,(hk:k<(Ba U U.length [] 0).length)->(Ba U U.length [] 0)[k]=(k:Int)
theorem cX {Q:List AB} (m:AO Q) {r:Int} (I:0<=r) (J:r<(Q.length:Int)):AO (AH Q r)/\jO (AH Q r):=by
 have d:=Cw m I J;have A:=EA Q r;have y:=λi=>Ee (f:=Q) (r:=r) (i:=i);generalize L:AH Q r=c at *;generalize E:Ba Q Q.length [] r=o at *;have N:=d.ok.len;have K:=m.1;have g:∀i:Int,0<=i->i<(o.length:Int)->o.getD i.toNat 0∈o/\Ax o (o.getD i.toNat 0)=i:=λi G H=>by
  refine⟨AE o 0 oa,?_⟩;rw[DI d.ok.nd oa];omega
 have p:∀i:Int,0<=i->i<(o.length:Int)->AK c i=(AK Q (o.getD i.toNat 0)).map (Fg o):=λi G H=>by
  rw[AK,y i.toNat oa];rfl
 have C:o9 c Q (λi=>o.getD i.toNat 0) (λi=>0<=i/\i<(o.length:Int)):=by
  refine⟨λi hi=>?_,λi hi a ha=>?_,λi j hi w e=>?_⟩
  .rw[p i hi.1 hi.2,bY];have:∀a∈AK Q (o.getD i.toNat 0),((λa:Int×Int=>(a.1,o.getD a.2.toNat 0))∘Fg o) a=a:=λa ha=>by
    show (a.1,o.getD (Ax o a.2).toNat 0)=a;rw[(A0 (d.cl _ (g i hi.1 hi.2).1 a ha)).2.2]
   rw[Of this,ABT]
  .rw[p i hi.1 hi.2]at ha;obtain⟨b,hb,rfl⟩:=Y1.1 ha;have:=A0 (d.cl _ (g i hi.1 hi.2).1 b hb);exact⟨this.1,this.2.1⟩
  have h1:=(g i hi.1 hi.2).2;have h:=(g j w.1 w.2).2;have e:o.getD i.toNat 0=o.getD j.toNat 0:=e;rw[<-h1,<-h,e]
 have h0:(0:Int)<(o.length:Int):=by have:=d.zero.2;omega
 have s:AO c:=by
  refine⟨by omega,λx hx=>?_⟩;obtain⟨i,hi,rfl⟩:=Co (0,[]) hx;have h1:=p (i:Int) oa oa;rw[AK,Sc]at h1;rw[h1];have q:=g (i:Int) oa oa;rw[Sc]at q;have O:=d.ok.rng _ q.1;refine⟨?_,λa ha=>?_⟩
  .rw[OF];exact(m.2 _ (AE Q (0,[]) (k:=(o.getD i 0).toNat) oa)).1
  obtain⟨b,hb,rfl⟩:=Y1.1 ha;have:=A0 (d.cl _ q.1 b hb);rw[A];exact⟨this.1,this.2.1⟩
 have hd:=Qa C Q.length [] 0 (λx hx=>by cases hx) ⟨by omega,h0⟩;have F:o.getD (0:Int).toNat 0=r:=d.zero.1;rw[ABj,F,E]at hd;have v:=J4 s (n:=0) oa oa (Q.length-c.length);rw[show c.length+(Q.length-c.length)=Q.length by omega]at v;rw[v]at hd;unfold jO;refine⟨s,?_⟩;generalize Ba c c.length [] 0=l at *;obtain⟨u,B⟩:=hd;have M:l.length=o.length:=by
  have:=oN List.length u;rw[OF]at this;exact this.symm
 have D:∀k,(hk:k<l.length)->l[k]=(k:Int):=λk hk=>by
  have t:=B l[k] (aT hk);have h1:=(g l[k] t.1 t.2).2;have h:=(g (k:Int) oa oa).2;have e:o.getD k 0=o.getD (l[k]).toNat 0:=by
   exact(oN (λz:List Int=>z.getD k 0) u).trans (by simp[AS,hk])
  rw[Sc,e]at h;rw[<-h1,h]
 exact⟨by omega,D⟩
theorem Xa {b:List AB} (g:AO b) (k:jO b):AH b 0=b:=by
 unfold AH;obtain⟨q,c⟩:=k;generalize Ba b b.length [] 0=l at *;have o:l.Nodup:=by
  unfold List.Nodup;rw[Sl];intro i j hi n p e;rw[c i hi,c j n]at e;omega
 have m:∀x,0<=x->x<(l.length:Int)->Ax l x=x:=λx r s=>by
  have:=DI o (i:=x.toNat) oa;have e:l.getD x.toNat 0=x:=by
   rw[AS,AT oa];show l[x.toNat]=x;rw[c _ oa];omega
  rw[e]at this;rw[this];omega
 apply AA6
 .rw[OF];omega
 intro i h1 d;rw[AAU,c i (by simpa using h1)];have f:b.getD (i:Int).toNat (0,[])=b[i]:=by simp[AS,d]
 unfold CG;rw[f];have:∀a∈b[i].2,Fg l a=a:=λa ha=>by
  have h:=(g.2 _ (aT d)).2 a ha;unfold Fg;rw[m a.2 h.1 oa]
 rw[Of this,ABT]
theorem jP {Q:List AB} (a:AO Q) {r:Int} (b:0<=r) (c:r<(Q.length:Int)):AH (AH Q r) 0=AH Q r :=
 Xa (cX a b c).1 (cX a b c).2
theorem Xb {h:AG} {a X:List AB} (f:RO a) {m e:Int->Int} (h1:Ig h a X m) (b:Ig h a X e):∀(k:Nat) (i:Int),i.toNat<=k->0<=i->i<(a.length:Int)->m i=e i:=by
 intro k;induction k with
 | zero =>
  intro i hk g d;have:i=0:=by omega
  subst this;rw[h1.zero,b.zero]
 | succ k l =>
  intro i hk g d;by_cases hi:i=0
  .subst hi;rw[h1.zero,b.zero]
  obtain⟨j,c,n,x,hx,rfl⟩:=f i oa d;rw[<-h1.arc j c oa x hx,<-b.arc j c oa x hx,l j oa c oa]
theorem MZ {h:AG} (hk:Hu h) {a b c:List AB} (t:AO a) (ta:Cj h a) (tb:Cj h b) (u:Cj h c) {m n:Int->Int} (h1:Ig h a b m) (j:Ig h b c n):Ig h a c λi=>n (m i):=by
 refine⟨by show n (m 0)=0;rw[h1.zero,j.zero],λi f g=>?_,λi f g=>?_,λi f g x hx=>?_⟩
 .have:=h1.rng i f g;exact j.rng _ this.1 this.2
 .have d:=h1.rng i f g;have v:=j.rng _ d.1 d.2;have q:=ta _ (AE a (0,[]) (k:=i.toNat) oa);have r:=tb _ (AE b (0,[]) (k:=(m i).toNat) oa);have s:=u _ (AE c (0,[]) (k:=(n (m i)).toNat) oa);exact Ku hk q.1 q.2 r.1 r.2 s.1 s.2 (h1.ty i f g) (j.ty _ d.1 d.2)
 have d:=h1.rng i f g;have p:=Af t hx;have o:=h1.arc i f g x hx;obtain⟨y,hy,e1,e2⟩:=FE (l:=AK b (m i)) (e:=x.1) (by rw[o];exact(h1.rng _ p.1 p.2).1);have:=j.arc (m i) d.1 d.2 y hy;rw[e1,e2,o]at this;exact this
theorem Cd {a:List AB} (hs:∀x∈a,Ih x.2) (n:Int):Ih (AK a n):=by
 unfold AK;by_cases h:n.toNat<a.length
 .exact hs _ (AE a (0,[]) h)
 rw[AS,Si oa];exact .nil
theorem R8 {h:AG} {a:List AB} (hs:∀x∈a,Ih x.2):Ig h a a id :=
 ⟨rfl,λi b c=>⟨b,c⟩,λi _ _=>CF h _,λi _ _ x hx=>Bi (Cd hs i) hx⟩
theorem tU:∀ {l m:List (Int×Int)},Ih l->Ih m->(∀x,x∈l↔x∈m)->l=m
 | [],[],_,_,_=>rfl
 | [],b :: m,_,_,h=>by have:=(h b).2 sc;cases this
 | a :: l,[],_,_,h=>by have:=(h a).1 sc;cases this
 | a :: l,b :: m,h1,f,h=>by
  obtain⟨c,d⟩:=Sm.1 h1;obtain⟨b1,b2⟩:=Sm.1 f;have e:a=b:=by
   rcases At.1 ((h a).1 sc) with e|e
   .exact e
   rcases At.1 ((h b).2 sc) with e2|e2
   .exact e2.symm
   have:=c b e2;have:=b1 a e;omega
  subst e;refine oN _ (tU d b2 λx=>⟨λhx=>?_,λhx=>?_⟩)
  .rcases At.1 ((h x).1 (by simp[hx])) with e|e
   .subst e;have:=c x hx;omega
   exact e
  rcases At.1 ((h x).2 (by simp[hx])) with e|e
  .subst e;have:=b1 x hx;omega
  exact e
theorem A6r {h:AG} (hu:HU h) {c V:List AB} (b:VF h c) (d:VF h V) {m o:Int->Int} (h1:Ig h c V m) (n:Ig h V c o):c=V:=by
 have key:∀ {c V:List AB},VF h c->VF h V->∀ {m o:Int->Int},Ig h c V m->Ig h V c o->c.length<=V.length->c=V:=by
  clear b d h1 n;intro c V b d m o h1 n G;have c1:=MZ hu.ok b.good b.ty d.ty b.ty h1 n;have c2:=MZ hu.ok d.good d.ty b.ty d.ty n h1;have e1:∀i,0<=i->i<(c.length:Int)->o (m i)=i:=λi r s=>Xb b.ro c1 (R8 b.str) i.toNat i (No _) r s;have e2:∀i,0<=i->i<(V.length:Int)->m (o i)=i:=λi r s=>Xb d.ro c2 (R8 d.str) i.toNat i (No _) r s;have v:∀ {A B:List AB} {f:Int->Int},AO A->Ig h A B f->∀i,0<=i->i<(A.length:Int)->∀x∈AK A i,(x.1,f x.2)∈AK B (f i):=λ{A B f} E hf i r s x hx=>by
   have q:=Af E hx;have z:=hf.arc i r s x hx;obtain⟨y,hy,u,t⟩:=FE (l:=AK B (f i)) (e:=x.1) (by rw[z];exact(hf.rng _ q.1 q.2).1);rw[<-u,<-z,<-t];exact hy
  have F:o9 c V m (λi=>0<=i/\i<(c.length:Int)):=by
   refine⟨λi hi=>?_,λi hi a ha=>Af b.good ha,λi j hi w e=>?_⟩
   .have p:=h1.rng i hi.1 hi.2;refine tU (Cd d.str _) ?_ λx=>⟨λhx=>?_,λhx=>?_⟩
    .unfold Ih;rw[iF];exact Cd b.str i
    .have g:=v d.good n (m i) p.1 p.2 x hx;rw[e1 i hi.1 hi.2]at g;refine Y1.2 ⟨_,g,?_⟩;have q:=Af d.good hx;show (x.1,m (o x.2))=x;rw[e2 x.2 q.1 q.2]
    obtain⟨y,hy,rfl⟩:=Y1.1 hx;exact v b.good h1 i hi.1 hi.2 y hy
   rw[<-e1 i hi.1 hi.2,<-e1 j w.1 w.2,e]
  have H:=b.pos;have:=YW F b.good ⟨by omega,by omega⟩ h1.zero b.pos G λi hi=>by
   have p:=h1.rng i hi.1 hi.2;have u:=h1.ty i hi.1 hi.2;have t:=n.ty (m i) p.1 p.2;rw[e1 i hi.1 hi.2]at t;have C:=b.ty _ (AE c (0,[]) (k:=i.toNat) oa);have D:=d.ty _ (AE V (0,[]) (k:=(m i).toNat) oa);exact hu.inj _ _ D.1 D.2 C.1 C.2 t u
  rw[d.can,b.can]at this;exact this.symm
 rcases Nat.le_total c.length V.length with hl|hl
 .exact key b d h1 n hl
 exact(key d b n h1 hl).symm
structure cZ (h:AG) (a b U:List AB):Prop where
 vf:VF h U
 left:∃m,Ig h a U m
 right:∃m,Ig h b U m
 least:∀X,Cj h X->∀m1,Ig h a X m1->∀m2,Ig h b X m2->∃m,Ig h U X m
 len:U.length<=a.length+b.length
open Classical in
noncomputable def JZ (h:AG) (a b:List AB):List AB×Bool:=if H:∃U,cZ h a b U then (H.choose,true) else ([],false)
theorem Th {h:AG} {a b:List AB} (h1:(JZ h a b).2=true):cZ h a b (JZ h a b).1:=by
 unfold JZ at h1 ⊢;split at h1
 .rename_i H;rw[dif_pos H];exact H.choose_spec
 cases h1
theorem Xc {f:List AB} {e:Int} (h:e∈Cq f):∃x∈f,∃a∈x.2,a.1=e:=by
 unfold Cq at h;obtain⟨x,hx,b⟩:=List.mem_flatMap.1 h;obtain⟨a,ha,e⟩:=Y1.1 b;exact⟨x,hx,a,ha,e⟩
theorem A2L {h:AG} {N:List AB} {P:List (Int×Int)} {p ty:List Int} {ar:List (List (Int×Int))} (d:JI h N P p ty ar []) (g:AO (quo p ty ar)) (j:0<N.length) (i:∀x∈N,∀a∈x.2,0<=a.1/\a.1<(h.2.length:Int)) {v:Int->Int} (c:A6p h N P (AH (quo p ty ar) (D9 p 0)) v):VF h (AH (quo p ty ar) (D9 p 0)):=by
 have f:0<=D9 p 0/\D9 p 0<((quo p ty ar).length:Int):=by
  obtain⟨k,fo⟩:=d.fo;have:=d.lp;have:=F6 fo (x:=0) oa oa (PB fo oa oa);rw[Er];exact this
 refine⟨c.good,c.pos,c.ty,c.str,λx hx a ha=>?_,jP g f.1 f.2,c.ro⟩;obtain⟨y,hy,b,hb,e⟩:=Xc (c.feat x hx a ha);rw[<-e];exact i y hy b hb
theorem yO {h:AG} {f g:List AB} (hf:VF h f) (c:VF h g):∀x∈Al f g,∀a∈x.2,0<=a.1/\a.1<(h.2.length:Int):=by
 intro x hx;unfold Al at hx;rcases Do.1 hx with hx|hx
 .exact hf.ft x hx
 obtain⟨y,hy,rfl⟩:=Y1.1 hx;intro a ha;obtain⟨b,hb,rfl⟩:=Y1.1 ha;exact c.ft y hy b hb
theorem A5q {h:AG} {f g:List AB} (hf:VF h f) (i:VF h g) {p ty:List Int} {ar:List (List (Int×Int))} (b:JI h (Al f g) [(0,(f.length:Int))] p ty ar []) (d:AO (quo p ty ar)):cZ h f g (AH (quo p ty ar) (D9 p 0)):=by
 have t:=hf.pos;have hl:=CT f g;have c:0<(Al f g).length:=by omega
 have h0:=PD b d c;have l:=IY b d c (J6 (g:=g) R7) hf.ro h0;have n:=IY b d c (Kw (f:=f)) i.ro (XY b sc h0);have a:=A2J b d c λx s u=>by
  by_cases hx:x<(f.length:Int)
  .have:=l x.toNat x (No _) s hx
   rwa [show ((0:Nat):Int)+x=x by omega]at this
  have:=n _ (x-(f.length:Int)) (No _) oa oa
  rwa [show (f.length:Int)+(x-(f.length:Int))=x by omega]at this
 refine⟨A2L b d c (yO hf i) a,⟨_,MY a.proj (J6 (g:=g) R7) a.zero⟩,⟨_,MY a.proj (Kw (f:=f)) (by rw[<-a.proj.eq (0,(f.length:Int)) sc];exact a.zero)⟩,λX k o h1 r j=>?_,by have:=a.len;omega⟩;refine a.least X _ k (pG (Qh hf.good i.good (Cy h1) (Cy j)) λq m=>?_) ?_
 .have e:q=(0,(f.length:Int)):=by simpa using m
  subst e;try simp only
  rw[DO oa,BY oa,ACb,h1.zero,j.zero]
 show (if (0:Int)<(f.length:Int) then o 0 else r (0-(f.length:Int)))=0;rw[DO oa];exact h1.zero
theorem jQ (l:List (Int×Int)):AR 0 l=l:=by
 unfold AR;rw[Of (g:=id) (λa _=>by show (a.1,a.2+((0:Nat):Int))=a;rw[Int.natCast_zero,AAc]),List.map_id]
theorem Zk (a b:Nat):Bd 0 a++Bd a b=Bd 0 (a+b):=by
 unfold Bd;rw[ABY,UK,bY]
 congr 1
 refine Of λi _=>?_;show ((a+i:Nat):Int)=((0+(a+i):Nat):Int);rw[AAC]
theorem yP {n k:Nat} (h:k<n):(Bd 0 n).getD k 0=(k:Int):=by
 unfold Bd;rw[AS,nO,AAE h];show ((0+k:Nat):Int)=k;rw[AAC]
theorem Ma {n:Nat} {x:Int} (a:0<=x) (b:x<(n:Int)):EF (Bd 0 n) x=x:=by
 unfold EF;rw[yP oa];omega
def Dv (N:List AB):List Int:=N.map (·.1)
def F7 (N:List AB):List (List (Int×Int)):=N.map (·.2)
theorem PE (N:List AB) (k:Nat):(Dv N).getD k 0=(N.getD k (0,[])).1:=by
 unfold Dv;rw[AS,nO,AS];cases N[k]?<;>rfl
theorem NF (N:List AB) (k:Nat):(F7 N).getD k []=(N.getD k (0,[])).2:=by
 unfold F7;rw[AS,nO,AS];cases N[k]?<;>rfl
theorem pI (f g:List AB):CP f f.length++CP g g.length=Dv (Al f g):=by
 unfold CP Dv Al;rw[SW,SW,UK,bY];rfl
theorem yQ (f g:List AB):EV 0 f f.length++EV f.length g g.length=F7 (Al f g):=by
 unfold EV F7 Al;rw[SW,SW,UK,bY]
 congr 1
 exact Of λx _=>jQ x.2
theorem c5 {n:Nat} {x r:Int} (a:0<=x) (b:x<(n:Int)) (h:Rt (Bd 0 n) x r):r=x:=h.det (.base (Ma a b))
theorem Ux {h:AG} {N:List AB} (j:AO N) (ht:Cj h N) (hs:∀x∈N,Ih x.2):JI h N [] (Bd 0 N.length) (Dv N) (F7 N) []:=by
 have hl:(Bd 0 N.length).length=N.length:=Hv 0 N.length;refine⟨ht,⟨λ_=>0,λn n0 n1=>?_,λn n0 n1 hn=>?_⟩,hl,by simp[Dv],by simp[F7],λw f=>(by cases f),λx c d=>?_,λk a ha=>?_,λk=>?_,λq m=>(by cases m),λx r c d e=>?_,λx r c d e a ha=>?_,λX v o l=>?_⟩
 .rw[hl]at n1 ⊢;rw[Ma n0 n1];exact⟨n0,n1⟩
 .rw[hl]at n1;exact absurd (Ma n0 n1) hn
 .rw[PE];exact ht _ (AE N (0,[]) oa)
 .rw[NF]at ha;refine⟨J5 j k a ha,?_⟩;by_cases hk:k<N.length
  .exact List.mem_flatMap.2 ⟨_,AE N (0,[]) hk,Y1.2 ⟨a,ha,rfl⟩⟩
  rw[AS,Si oa]at ha;cases ha
 .rw[NF];have:=Cd hs (k:Int)
  rwa [AK,Sc]at this
 .rw[c5 c d e,PE];exact CF h _
 .rw[c5 c d e,NF];have b:=Af j ha;exact⟨a.2,ha,.cls b.1 b.2 b.1 b.2 (.base (Ma b.1 b.2)) (.base (Ma b.1 b.2))⟩
 refine⟨λx r c d e=>by rw[c5 c d e],λw f=>(by cases f),λr g i _=>?_,λr g i _ a ha=>?_⟩
 .rw[PE];exact l.ty r g i
 rw[NF]at ha;exact l.arc r g i a ha
theorem Ef {f g:List AB} (hf:AO f) (c:AO g) (hl:f.length+g.length<=100000):AO (Al f g):=by
 have d:=CT f g;refine⟨by omega,λx hx=>?_⟩;unfold Al at hx;rcases Do.1 hx with hx|hx
 .refine⟨(hf.2 x hx).1,λa ha=>?_⟩;have:=(hf.2 x hx).2 a ha;omega
 obtain⟨y,hy,rfl⟩:=Y1.1 hx;refine⟨by simp only[AR,OF];exact(c.2 y hy).1,λa ha=>?_⟩;obtain⟨b,hb,rfl⟩:=Y1.1 ha;have:=(c.2 y hy).2 b hb;simp only;omega
theorem GY {f g:List AB} (hf:∀x∈f,Ih x.2) (a:∀x∈g,Ih x.2):∀x∈Al f g,Ih x.2:=by
 intro x hx;unfold Al at hx;rcases Do.1 hx with hx|hx
 .exact hf x hx
 obtain⟨y,hy,rfl⟩:=Y1.1 hx;unfold Ih AR;rw[iF];exact a y hy
theorem IZ {h:AG} {f g:List AB} (hf:Cj h f) (a:Cj h g):Cj h (Al f g):=by
 intro x hx;unfold Al at hx;rcases Do.1 hx with hx|hx
 .exact hf x hx
 obtain⟨y,hy,rfl⟩:=Y1.1 hx;exact a y hy
def c6 (N:List AB):Prop:=∀x∈N,∀a∈x.2,0<=a.1/\a.1<64
theorem Ia {f g:List AB} (hf:c6 f) (c:c6 g):c6 (Al f g):=by
 intro x hx;unfold Al at hx;rcases Do.1 hx with hx|hx
 .exact hf x hx
 obtain⟨y,hy,rfl⟩:=Y1.1 hx;intro a ha;obtain⟨b,hb,rfl⟩:=Y1.1 ha;exact c y hy b hb
theorem pJ {l:List (Int×Int)} (h:Ih l) (hf:∀a∈l,0<=a.1/\a.1<64):l.length<=64:=by
 have:=cS h (S:=(List.range 64).map λ(i:Nat)=>(i:Int)) (λa ha=>Y1.2 ⟨a.1.toNat,UJ.2 (by have:=hf a ha;omega),by have:=hf a ha;omega⟩)
 rwa [OF,ABm]at this
theorem pK {N:List AB} (h:∀x∈N,x.2.length<=64):(Cq N).length<=64*N.length:=by
 induction N with
 | nil=>simp[Cq]
 | cons x N a =>
  have h1:=h x sc;have b:=a λy hy=>h y (by simp[hy]);have e:Cq (x :: N)=x.2.map (·.1)++Cq N:=rfl;rw[e,As,OF,IF];omega
theorem yR {N:List AB} (h:c6 N) {e:Int} (b:e∈Cq N):0<=e/\e<64:=by
 obtain⟨x,hx,a,ha,rfl⟩:=Xc b;exact h x hx a ha
theorem Qi {h:AG} {N:List AB} {P:List (Int×Int)} {p ty:List Int} {ar:List (List (Int×Int))} (c:JI h N P p ty ar []) (f:N.length<=100000) (hf:c6 N):AO (quo p ty ar):=by
 have hl:=Er p ty ar;obtain⟨g,fo⟩:=c.fo;have lp:=c.lp;refine⟨by omega,λx hx=>?_⟩;obtain⟨i,hi,rfl⟩:=Co (0,[]) hx;have e:=NE (p:=p) (ty:=ty) (ar:=ar) (n:=(i:Int)) oa oa;rw[Sc]at e;rw[e];refine⟨?_,λa ha=>?_⟩
 .simp only[OF];have:=pJ (c.srt i) (λa ha=>yR hf (c.arr i a ha).2);omega
 obtain⟨b,hb,rfl⟩:=Y1.1 ha;have d:=(c.arr i b hb).1;have:=F6 fo (x:=b.2) d.1 oa (PB fo d.1 oa);rw[hl];exact this
theorem VF.ft64 {h:AG} {f:List AB} (b:VF h f) (hu:HU h):c6 f:=λx hx a ha=>by
 have h1:=b.ft x hx a ha;have c:=hu.ft;omega
def A9c (d:List AJ) (o:List ByteArray) (i:Nat):Prop:=∀j,j<i->∀x∈d,Ae x.2.1 (o.getD j ByteArray.empty)=true->Ae o x.1=true
theorem A2M {c:ByteArray} {o:List ByteArray} {x:AJ} (h:Ae x.2.1 c=true):Ae (Ff c o x) x.1=true:=by grind [Ff,Oc,FN]
theorem Zl {c:ByteArray} {x:AJ} (h:Ae x.2.1 c=true):∀ {l:List AJ} {o:List ByteArray},x∈l->Ae (l.foldl (Ff c) o) x.1=true
 | [],_,hx=>by cases hx
 | y :: l,o,hx=>by
  rw[SU];rcases At.1 hx with rfl|hx
  .grind [NB,M9,A2M]
  exact Zl h hx
theorem jR {d:List AJ}:∀ {n i:Nat} {o:List ByteArray},d5 d o->d.length<=n+i->A9c d o i->i<=o.length->∃m,A9c d (Dq d n i o) m/\(Dq d n i o).length<=m
 | 0,i,o,ha,hd,hb,hi=>⟨i,hb,by
  have:=ha.len;show o.length<=i;omega⟩
 | n+1,i,o,ha,hd,hb,hi=>by
  unfold Dq;split
  .rename_i g;obtain⟨a,c⟩:=WY (o.getD i ByteArray.empty) (l:=d) (o:=o) (λ_ h=>h) ha;refine jR a oa (λj f x hx hs=>?_) oa;rw[Rh _ oa]at hs;by_cases e:j=i
   .subst e;exact Zl hs hx
   exact NB (λz b=>M9 b) (hb j oa x hx hs)
  exact⟨i,hb,by omega⟩
theorem R9 {α:Type} {p:α->Bool}:∀ {l:List α},l.countP p=1->∀x∈l,p x=true->∀y∈l,p y=true->x=y
 | [],h,x,hx,_,_,_,_=>by cases hx
 | z :: l,h,x,hx,b,y,hy,c=>by
  rw[AAW]at h;by_cases a:p z=true
  .rw[DO a]at h;grind
  rw[BY a]at h;have hx:x∈l:=by grind
  have hy:y∈l:=by grind
  exact R9 oa x hx b y hy c
theorem Xd (s:ByteArray):∀(l:List AJ) (k:Nat),0<=Cn s k l->∃x∈l,Ac x.1 s=true
 | [],k,h=>by
  simp only[Cn]at h;omega
 | y :: l,k,h=>by
  simp only[Cn]at h;split at h
  .rename_i e;exact⟨y,by simp,e⟩
  obtain⟨x,hx,e⟩:=Xd s l (k+1) h;exact⟨x,by simp[hx],e⟩
theorem pL {d:List AJ} (l:BW d=0):∃r∈d,∀x∈d,Ae (Dr d r.1) x.1=true:=by
 obtain⟨hs,D,h1,hn,hl⟩:=BH l;have u:0<d.countP λx=>x.2.1.length==0:=by grind [IL]
 obtain⟨r,b,h⟩:=List.countP_pos_iff.1 u;refine⟨r,b,?_⟩;have v:=FP b;have p:d5 d [r.1]:=⟨λs hs=>by
  have:s=r.1:=by simpa using hs
  rw[this];exact v,by simp⟩
 obtain⟨m,t,E⟩:=jR (d:=d) (n:=d.length) (i:=0) p oa (λj q=>by omega) oa;have g:r.1∈Dq d d.length 0 [r.1]:=Oo sc;have hb:Dr d r.1=MB (Dq d d.length 0 [r.1]):=by unfold Dr;rw[BY oa]
 rw[hb];generalize Dq d d.length 0 [r.1]=o at *;have key:∀(k:Nat) (x:AJ),x∈d->X1 d x.1<=k->Ae o x.1=true:=by
  intro k;induction k with
  | zero =>
   intro x hx hk;by_cases c:x.2.1.length=0
   .have e:=R9 h1 x hx (by simpa using c) r b h;rw[e];exact NA g
   obtain⟨s,a⟩:∃s,s∈x.2.1:=ABG oa;have:=Om hn hl hx (NA a);omega
  | succ k C =>
   intro x hx hk;by_cases c:x.2.1.length=0
   .have e:=R9 h1 x hx (by simpa using c) r b h;rw[e];exact NA g
   obtain⟨s,a⟩:∃s,s∈x.2.1:=ABG oa;have A:=Om hn hl hx (NA a);obtain⟨y,hy,e⟩:=Xd s d 0 (hs x hx s a);rw[<-Ol d e]at A;obtain⟨z,f,e2⟩:=To.1 (C y hy oa);obtain⟨j,q,rfl⟩:=Co ByteArray.empty f;refine t j oa x hx ?_;exact To.2 ⟨s,a,FO (DG e2 e)⟩
 intro x hx;obtain⟨z,f,e⟩:=To.1 (key _ x hx (No _));obtain⟨w,B,e2⟩:=To.1 (Wh (o:=[]) f);exact To.2 ⟨w,B,DG e2 e⟩
abbrev cnt (c:List Int):Nat:=(II c).length
theorem A2N {w:Int} (a:U64 w) {r:Nat} (d:r<64):A1A w (r:Int)=w.toNat.testBit r:=by
 have h0:=a.1;have h1:=a.2;have b:w.toNat / 2 ^ r<=w.toNat:=Nat.div_le_self _ _;have e:d9 .u64 w (r:Int)=((w.toNat / 2 ^ r:Nat):Int):=by
  unfold d9;have c:min ((r:Int)).toNat IntKind.u64.bits=r:=by
   show min ((r:Int)).toNat 64=r;omega
  grind
 unfold A1A;rw[Nat.testBit_eq_decide_div_mod_eq,e];generalize w.toNat / 2 ^ r=z at *;rw[IM ⟨by omega,by omega⟩ ⟨by decide,by decide⟩,Sc,show (1:Int).toNat=1 from rfl,Nat.and_one_is_mod,ABl,UQ,Is];omega
theorem tV {b:List Int} (a:I8 b) (i:Nat):WU b (i:Int)=Bb b i:=by
 have e1:Int.tdiv (i:Int) 64=((i / 64:Nat):Int):=by rw[AAD oa];omega
 have e2:Int.tmod (i:Int) 64=((i % 64:Nat):Int):=by rw[AAT oa];omega
 unfold WU Bb;rw[e1,e2,Sc];by_cases hk:i / 64<b.length
 .rw[BY (by rw[UO,Is,Is];omega),A2N (BI a _) oa]
 rw[DO (by rw[UO,Is,Is];omega),Gr hk];simp
theorem jS (c:List Int):(II c).Nodup:=by
 unfold II Nn List.Nodup;rw[iF];refine List.Pairwise.imp (λh e=>h ?_) (List.Pairwise.filter _ List.nodup_range);exact ABJ e
theorem Zm {c:List Int} (a:I8 c) {x:Int}:x∈II c↔∃i:Nat,x=(i:Int)/\Bb c i=true:=by
 unfold II Nn;rw[Y1];constructor
 .grind [tV]
 rintro⟨i,rfl,hb⟩;refine⟨i,AAe.2 ⟨UJ.2 ?_,by rw[tV a];exact hb⟩,rfl⟩;refine IS λb=>?_;unfold Bb at hb;rw[Gr oa]at hb;simp at hb
theorem A7I {a b:List Int} (ha:I8 a) (hb:I8 b) (h:∀i,Bb a i=true->Bb b i=true) (c:cnt b<=cnt a) (i:Nat) (hi:Bb b i=true):Bb a i=true:=by
 refine IS λhn=>?_;have hx:(i:Int)∉II a:=λd=>by grind [Zm]
 have:=R4 (l:=(i:Int) :: II a) (l':=II b) (UN.2 ⟨hx,jS a⟩) λx hx=>by grind [Zm]
 grind
theorem Xe (x:AQ) (out:List AQ):∀n,(FY x out n=0->n=0\/Fz x (out.getD 0 c0)=true)/\∀k,FY x out n=k+1->Fz x (out.getD k c0)=false
 | 0=>⟨λ_=>.inl rfl,λk h=>by simp[FY]at h⟩
 | n+1=>by
  obtain⟨h1,a⟩:=Xe x out n;grind [FY]
theorem jT {a b:AQ} (h:Fz a b=true):cnt b.2<=cnt a.2:=by
 unfold Fz at h;grind
theorem c7 {a b:AQ} (h:Fz a b=false):cnt a.2<=cnt b.2:=by
 unfold Fz at h;grind
def HM (out:List AQ):Prop:=∀y∈out,cnt y.2<=cnt (out.getD 0 c0).2
theorem A5r {out:List AQ} (h:HM out) (x:AQ):HM (cB out x):=by
 obtain⟨s1,s2⟩:=Xe x out out.length;have a:=iG x out out.length;intro y hy;rw[iK]at hy;unfold cB;cases hk:FY x out out.length with
 | zero =>
  rw[AAg,oR,AAl];have e:([x]++out).getD 0 c0=x:=rfl;rw[e];rcases hy with rfl|hy
  .exact No _
  have h1:=h y hy;rcases s1 hk with e|e
  .grind
  exact SX h1 (jT e)
 | succ k =>
  have hb:=c7 (s2 k hk);rw[hk]at a;have e:(out.take (k+1)++[x]++out.drop (k+1)).getD 0 c0=out.getD 0 c0:=by grind
  rw[e];rcases hy with rfl|hy
  .exact SX hb (h _ (Da oa))
  exact h y hy
theorem jU {d:List AJ}:∀ {l:List (List Int)} {o:List AQ},HM o->HM (l.foldl (Rm d) o)
 | [],_,h=>h
 | b :: l,o,h=>by
  rw[SU];exact jU (A5r h _)
def In (n:Nat) (c:List Int):Prop:=I8 c/\∀i,Bb c i=true->i<n
theorem A7J (n:Nat):In n []:=⟨λx hx=>(by cases hx),λi hi=>by unfold Bb at hi;simp at hi⟩
theorem A7K {n:Nat} {a b:List Int} (ha:In n a) (hb:In n b):In n (GS a b) :=
 ⟨sW ha.1 hb.1,λi hi=>by
  rw[sV ha.1 hb.1,An]at hi;exact ha.2 i hi.1⟩
theorem A5s {n:Nat} {l:List (List Int)} (h:∀c∈l,In n c) (k:Nat):In n (l.getD k []):=by grind [Da,ZU,A7J]
theorem A5t {n:Nat} {l:List (List Int)} (h:∀c∈l,In n c) (i k:Nat):∀c∈HE l i k,In n c:=by grind [HE,GS,A7K,A5s]
theorem tW {q i:Nat}:∀ {n k:Nat} {l:List (List Int)},(∀c∈l,In q c)->∀c∈HF i n k l,In q c
 | 0,_,_,h=>h
 | n+1,k,l,h=>by
  unfold HF;split
  .exact tW (A5t h i k)
  exact h
theorem tY {q:Nat}:∀ {n i:Nat} {l:List (List Int)},(∀c∈l,In q c)->∀c∈JV n i l,In q c
 | 0,_,_,h=>h
 | n+1,i,l,h=>by
  unfold JV;split
  .exact tY (tW h)
  exact h
def Mb (h:AG):Prop:=∀t,0<=t->t<(h.1.length:Int)->A3 h 0 t=true
theorem jV (d:List AJ):Mb (BF d).1:=by
 have hk:=MM d;unfold BF at hk ⊢;split
 .intro t h0 h1;simp at h1;omega
 rename_i g;rw[BY g]at hk;have g:(Bm d).2=0:=IS g;have z:Bc d=0:=by grind [Bm]
 obtain⟨J,-,-⟩:=DH z;obtain⟨j,M,-⟩:=B9 J;obtain⟨-,w,-,hn,hl⟩:=BH j;have F:=FM d d.length;rw[SW]at F;have k:(AW d).length<=4096:=by omega
 obtain⟨r,H,L⟩:=pL j;have a:∀c∈BD (Ai d),In (AW d).length c:=tY λc f=>by
  obtain⟨s,hs,rfl⟩:=Y1.1 f;exact⟨(Eb (d:=d) k s 0).2.1,λi hi=>((Eb (d:=d) k s i).1.1 hi).1⟩
 obtain⟨s,hs,K⟩:=To.1 (Wj H);have I:s=r.1:=by grind [GU,g9]
 subst I;have m:HP d (AW d) r.1∈BD (Ai d):=by
  have G:Ai d <+: BD (Ai d):=Ws 257 0 (Ai d);exact G.subset (Y1.2 ⟨_,hs,rfl⟩)
 have l:∀i,i<(AW d).length->Bb (HP d (AW d) r.1) i=true:=λi hi=>by grind [Eb,GU,Da]
 have A:HM (A9 d):=jU λy hy=>by cases hy
 have p:=Ec.2 ⟨_,m,rfl⟩;have q:0<(A9 d).length:=List.length_pos_of_mem p;have o:=A _ p;obtain⟨b,hb,h⟩:=Ec.1 (Da (d:=c0) q);rw[h]at o;have D:=A7I (a b hb).1 (a _ m).1 (λi hi=>l i ((a b hb).2 i hi)) o;have C:Bn (IR d) 0=b:=by
  show ((F0 (A9 d) _ _).getD 0 YF).2.1=b;have:(F0 (A9 d) (Bm d).1 (A9 d).length).getD 0 YF=(((A9 d).getD 0 c0).1,((A9 d).getD 0 c0).2,iO (A9 d) ((0:Nat):Int),(Bm d).1.getD 0 []):=by
   unfold F0;rw[AS,nO,AAE q];rfl
  rw[this,h]
 have N:(IR d).1.length=(A9 d).length:=NC _ _ _;intro t u v;refine(Cb hk oa (by show (0:Int)<((IR d).1.length:Int);omega) u v).2 λi hi=>?_;show Bb (Bn (IR d) 0) i=true;rw[C];refine D i (l i ?_);have B:=Cp u v;have E:Bn (IR d) t∈BD (Ai d):=by
  have e:((IR d).1.map λt=>t.2.1)=(A9 d).map λx=>x.2:=by
   show ((F0 _ _ _).map λt=>t.2.1)=_;unfold F0;rw[bY];apply AA6
   .simp
   intro i h1 w;simp[AS,show i<(A9 d).length by simpa using h1]
  have n:Bn (IR d) t∈(IR d).1.map λt=>t.2.1:=B;rw[e]at n;obtain⟨x,hx,ex⟩:=Y1.1 n;obtain⟨c,f,rfl⟩:=Ec.1 hx;rw[<-ex];exact f
 exact(a _ E).2 i hi
def F8 (p:List Int) (n:Nat):List AB:=(List.range n).map λ(i:Nat)=>((0:Int),[(p.getD i 0,(i:Int)+1)])
def BS (p:List Int) (g:List AB):List AB:=F8 p p.length++g.map λx=>(x.1,AR p.length x.2)
abbrev Cc (p:List Int):List AB:=BS p [((0:Int),[])]
theorem jW (p:List Int) (n:Nat):F8 p (n+1)=F8 p n++[((0:Int),[(p.getD n 0,(n:Int)+1)])]:=by simp[F8,oF]
theorem Eg (p:List Int) (n:Nat):(F8 p n).length=n:=by simp[F8]
theorem B6 (p:List Int):(Cc p).length=p.length+1:=by simp[BS,F8]
theorem Xf (p:List Int) {i:Int} (a:0<=i) (b:i<(p.length:Int)):(Cc p).getD i.toNat (0,[])=(0,[(p.getD i.toNat 0,i+1)]):=by
 unfold Cc BS;rw[AS,Se (by rw[Eg];omega)];grind [F8]
theorem pM (p:List Int):(Cc p).getD p.length (0,[])=(0,[]):=by
 unfold Cc BS;rw[AS,Sf (by rw[Eg];omega),Eg,AAJ];rfl
theorem PG (p:List Int) {i:Int} (a:0<=i) (b:i<((Cc p).length:Int)):(i<(p.length:Int)/\(Cc p).getD i.toNat (0,[])=(0,[(p.getD i.toNat 0,i+1)]))\/(i=(p.length:Int)/\(Cc p).getD i.toNat (0,[])=(0,[])):=by grind [B6,Xf,pM]
theorem NG (p:List Int) {x:AB} (hx:x∈Cc p):x=(0,[])\/∃i,i<p.length/\x=(0,[(p.getD i 0,(i:Int)+1)]):=by
 obtain⟨i,hi,rfl⟩:=Co (0,[]) hx;rcases PG p (i:=(i:Int)) oa oa with ⟨h1,a⟩|⟨h1,a⟩
 .grind
 grind
def pN (h:AG) (p:List Int):Prop:=∀e∈p,0<=e/\e<(h.2.length:Int)
theorem Gw {h:AG} {p:List Int} (b:pN h p):∀x∈Cc p,∀a∈x.2,0<=a.1/\a.1<(h.2.length:Int):=by
 intro x hx a ha;rcases NG p hx with rfl|⟨i,hi,rfl⟩
 .cases ha
 have:a=(p.getD i 0,(i:Int)+1):=by simpa using ha
 rw[this];exact b _ (Da hi)
theorem Dw {p:List Int} (a:p.length<=1000):AO (Cc p):=by
 have hl:=B6 p;refine⟨by omega,λx hx=>?_⟩;grind [NG]
theorem Hw (p:List Int):∀x∈Cc p,Ih x.2:=by
 intro x hx;rcases NG p hx with rfl|⟨i,hi,rfl⟩
 .exact .nil
 exact AA8 _ _
theorem J7 {h:AG} (h0:0<h.1.length) (p:List Int):Cj h (Cc p):=by
 intro x hx;grind [NG]
theorem jX (p:List Int):RO (Cc p):=by
 intro i b a;rw[B6]at a;refine⟨i-1,by omega,by omega,(p.getD (i-1).toNat 0,i-1+1),?_,by simp only;omega⟩;rw[AK,Xf p oa oa];exact SQ.2 rfl
theorem A2O {l:List (Int×Int)} (h:Ih l) {e:Int} (b:0<=Av l e):Q3 l e=Av l e:=by
 obtain⟨a,ha,e1,e2⟩:=FE b;grind [tK,Bi]
theorem jY {f:List AB} (hf:AO f) (h0:0<f.length) (p:List Int):∀n,AY f 0 p=some n->0<=n/\n<(f.length:Int):=by
 induction p using EE with
 | h0 =>
  intro n h;simp only[AY,AAf]at h;omega
 | h1 p e b =>
  intro n h;obtain⟨x,hx,a,ha,e1,e2⟩:=Zf h;rw[<-e2];exact Af hf ha
theorem A2P {f:List AB} {p:List Int} {n:Int} (h:AY f 0 p=some n) (k:Nat):∃m,AY f 0 (p.take k)=some m:=by
 cases hh:AY f 0 (p.take k) with
 | none =>
  have:=R1 (p.take k) 0 (p.drop k) hh;rw[AAL,h]at this;cases this
 | some m=>exact⟨m,rfl⟩
theorem jZ {h:AG} (ht:Mb h) {X:List AB} (q:AO X) (w:0<X.length) (v:Cj h X) (u:∀x∈X,Ih x.2) {p:List Int} {n:Int} (l:AY X 0 p=some n):∃m,Ig h (Cc p) X m/\m (p.length:Int)=n:=by
 have g:∀k,AY X 0 (p.take k)=some ((AY X 0 (p.take k)).getD 0):=λk=>by
  obtain⟨m,r⟩:=A2P l k;rw[r];rfl
 have j:=λk=>jY q w (p.take k) _ (g k);refine⟨λi=>(AY X 0 (p.take i.toNat)).getD 0,⟨rfl,λi d f=>j i.toNat,λi d f=>?_,λi d f a ha=>?_⟩,?_⟩
 .have e:((Cc p).getD i.toNat (0,[])).1=0:=by
   rcases PG p d f with ⟨-,c⟩|⟨-,c⟩<;>rw[c]
  rw[e];have y:=j i.toNat;have:=v _ (AE X (0,[]) (k:=((AY X 0 (p.take i.toNat)).getD 0).toNat) oa);exact ht _ this.1 this.2
 .rcases PG p d f with ⟨h1,c⟩|⟨-,c⟩
  .rw[AK,c]at ha;have e:a=(p.getD i.toNat 0,i+1):=by simpa using ha
   subst e;have hs:=Aw p 0 (k:=i.toNat) oa;have o:=g (i.toNat+1);rw[hs]at o;obtain⟨x,hx,b,hb,e1,e2⟩:=Zf o;have s:=g i.toNat;rw[hx]at s;have t:x=(AY X 0 (p.take i.toNat)).getD 0:=by rw[hx];rfl
   show Av (AK X ((AY X 0 (p.take i.toNat)).getD 0)) (p.getD i.toNat 0)=(AY X 0 (p.take (i+1).toNat)).getD 0;rw[<-t,show (i+1).toNat=i.toNat+1 by omega,hs,<-e2,<-e1];exact Bi (Cd u x) hb
  grind
 show (AY X 0 (p.take ((p.length:Nat):Int).toNat)).getD 0=n;rw[Sc,SW,l];rfl
theorem j5 {h:AG} {X:List AB} (e:AO X) (f:0<X.length) (d:∀x∈X,Ih x.2) {p:List Int} {m:Int->Int} (a:Ig h (Cc p) X m):AY X 0 p=some (m (p.length:Int)):=by
 have key:∀k,k<=p.length->AY X 0 (p.take k)=some (m (k:Int)):=by
  intro k;induction k with
  | zero =>
   intro _;rw[AAg];show some (0:Int)=some (m 0);rw[a.zero]
  | succ k c =>
   intro hk;have hi:=c oa;have hn:=Xf p (i:=(k:Int)) oa oa;have hl:=B6 p;have ha:=a.arc (k:Int) oa oa (p.getD k 0,(k:Int)+1) (by
    rw[AK,hn,Sc];exact SQ.2 rfl)
   have b:=a.rng ((k:Int)+1) oa oa;rw[Aw p 0 oa,Oz X _ 0 _ _ hi];simp only at ha;rw[A2O (Cd d _) (by rw[ha];exact b.1),ha,BY oa];rfl
 have:=key p.length (No _)
 rwa [SW]at this
structure UG (h:AG) (f:List AB) (p q:List Int) (U:List AB):Prop where
 vf:VF h U
 left:∃m,Ig h f U m
 eq:∃n,AY U 0 p=some n/\AY U 0 q=some n
 least:∀X,VF h X->∀m1,Ig h f X m1->∀n,AY X 0 p=some n->AY X 0 q=some n->∃m,Ig h U X m
 len:U.length<=f.length+p.length+q.length+2
theorem tZ {h:AG} (hu:HU h) {f b V:List AB} {p q:List Int} (h1:UG h f p q b) (a:UG h f p q V):b=V:=by
 obtain⟨k,e⟩:=a.left;obtain⟨n1,c,b1⟩:=a.eq;obtain⟨l,g⟩:=h1.left;obtain⟨n,d,b2⟩:=h1.eq;obtain⟨m,i⟩:=h1.least V a.vf k e n1 c b1;obtain⟨o,j⟩:=a.least b h1.vf l g n d b2;exact A6r hu h1.vf a.vf i j
open Classical in
noncomputable def SA (h:AG) (f:List AB) (p q:List Int):List AB×Bool:=if H:∃U,UG h f p q U then (H.choose,true) else ([],false)
theorem SB {h:AG} (hu:HU h) {f U:List AB} {p q:List Int} (h1:UG h f p q U):SA h f p q=(U,true):=by
 unfold SA;have H:∃U,UG h f p q U:=⟨U,h1⟩;grind [tZ]
theorem Zn {h:AG} {f:List AB} {p q:List Int} (h1:∀X,VF h X->∀d,Ig h f X d->∀n,AY X 0 p=some n->AY X 0 q≠some n):SA h f p q=([],false):=by
 unfold SA;rw[dif_neg];rintro⟨e,c⟩;obtain⟨d,g⟩:=c.left;obtain⟨n,a,b⟩:=c.eq;exact h1 e c.vf d g n a b
theorem Zo {h:AG} {f:List AB} {p q:List Int} (h1:(SA h f p q).2=true):UG h f p q (SA h f p q).1:=by
 unfold SA at h1 ⊢;split at h1
 .grind
 cases h1
abbrev t7 (f:List AB) (p q:List Int):List AB:=Al (Al f (Cc p)) (Cc q)
abbrev eqP (f:List AB) (p q:List Int):List (Int×Int):=[(0,(f.length:Int)),((f.length:Int),((f.length+(p.length+1):Nat):Int)),(((f.length+p.length:Nat):Int),((f.length+(p.length+1)+q.length:Nat):Int))]
theorem Uy (f:List AB) (p q:List Int):(t7 f p q).length=f.length+(p.length+1)+(q.length+1):=by grind [CT,B6]
theorem Uz {h:AG} (ht:Mb h) {f:List AB} {p q:List Int} (hf:VF h f) (e:p.length<=1000) (m:q.length<=1000) (hl:f.length<=10000) {X:List AB} (c:VF h X) {i:Int->Int} (h1:Ig h f X i) {n:Int} (k:AY X 0 p=some n) (l:AY X 0 q=some n):∃v,G7 h (t7 f p q) (eqP f p q) X v/\v 0=0:=by
 obtain⟨a,ha,o⟩:=jZ ht c.good c.pos c.ty c.str k;obtain⟨b,hb,s⟩:=jZ ht c.good c.pos c.ty c.str l;have t:=hf.pos;have d:=CT f (Cc p);rw[B6]at d;have j:=Ef hf.good (Dw e) (by rw[B6];omega);refine⟨_,pG (Qh j (Dw m) (Qh hf.good (Dw e) (Cy h1) (Cy ha)) (Cy hb)) λr g=>?_,?_⟩
 .simp only[At,TO,AAw]at g;rcases g with rfl|rfl|rfl
  .simp only;rw[d,DO oa,DO oa,DO oa,BY oa,ACb,h1.zero,ha.zero]
  .simp only;rw[d,DO oa,BY oa,BY oa,ACb,ha.zero,show ((f.length+(p.length+1):Nat):Int)-((f.length+(p.length+1):Nat):Int)=0 by omega,hb.zero]
  grind
 show (if (0:Int)<((Al f (Cc p)).length:Int) then (if (0:Int)<(f.length:Int) then i 0 else a (0-(f.length:Int))) else b (0-((Al f (Cc p)).length:Int)))=0;rw[d,DO oa,DO oa];exact h1.zero
theorem pO {h:AG} (ht:Mb h) {f:List AB} {p q:List Int} (hf:VF h f) (s:pN h p) (t:pN h q) (C:p.length<=1000) (D:q.length<=1000) (hl:f.length<=10000) {P ty:List Int} {ar:List (List (Int×Int))} (d:JI h (t7 f p q) (eqP f p q) P ty ar []) (j:AO (quo P ty ar)):UG h f p q (AH (quo P ty ar) (D9 P 0)):=by
 have M:=hf.pos;have o:=CT f (Cc p);rw[B6]at o;have Q:=Uy f p q;have i:0<(t7 f p q).length:=by omega
 have h0:=PD d j i;have c1:cW (t7 f p q) 0 f:=J6 (J6 R7);have c2:cW (t7 f p q) f.length (Cc p):=J6 Kw;have l:cW (t7 f p q) (f.length+(p.length+1)) (Cc q):=by
  have:=Kw (f:=Al f (Cc p)) (g:=Cc q);rw[o]at this;exact this
 have G:=IY d j i c1 hf.ro h0;have e1:D9 P (f.length:Int)∈NU P ty ar:=XY d (x:=0) sc h0;have H:=IY d j i c2 (jX p) e1;have e2:D9 P ((f.length+(p.length+1):Nat):Int)∈NU P ty ar:=XY d (x:=(f.length:Int)) sc e1;have I:=IY d j i l (jX q) e2;have c:=A2J d j i λx J S=>by
  by_cases hx:x<(f.length:Int)
  .have:=G x.toNat x (No _) J hx
   rwa [show ((0:Nat):Int)+x=x by omega]at this
  by_cases O:x<((f.length+(p.length+1):Nat):Int)
  .have:=H _ (x-(f.length:Int)) (No _) oa (by rw[B6];omega)
   rwa [show (f.length:Int)+(x-(f.length:Int))=x by omega]at this
  have:=I _ (x-((f.length+(p.length+1):Nat):Int)) (No _) oa (by rw[B6];omega)
  rwa [show ((f.length+(p.length+1):Nat):Int)+(x-((f.length+(p.length+1):Nat):Int))=x by omega]at this
 generalize N:(λx=>Ax (NU P ty ar) (D9 P x))=v at c;have u:∀x∈t7 f p q,∀a∈x.2,0<=a.1/\a.1<(h.2.length:Int):=by
  have key:∀ {g k:List AB},(∀x∈g,∀a∈x.2,0<=a.1/\a.1<(h.2.length:Int))->(∀x∈k,∀a∈x.2,0<=a.1/\a.1<(h.2.length:Int))->∀x∈Al g k,∀a∈x.2,0<=a.1/\a.1<(h.2.length:Int):=by
   intro g k z hk x hx;unfold Al at hx;rcases Do.1 hx with hx|hx
   .exact z x hx
   obtain⟨y,hy,rfl⟩:=Y1.1 hx;intro a ha;obtain⟨b,hb,rfl⟩:=Y1.1 ha;exact hk y hy b hb
  exact key (key hf.ft (Gw s)) (Gw t)
 have e:=A2L d j i u c;have r:v (f.length:Int)=0:=by rw[<-c.proj.eq (0,(f.length:Int)) sc];exact c.zero
 have K:v ((f.length+(p.length+1):Nat):Int)=0:=by rw[<-c.proj.eq ((f.length:Int),((f.length+(p.length+1):Nat):Int)) sc];exact r
 have L:v ((f.length+p.length:Nat):Int)=v ((f.length+(p.length+1)+q.length:Nat):Int):=c.proj.eq (((f.length+p.length:Nat):Int),((f.length+(p.length+1)+q.length:Nat):Int)) sc;refine⟨e,⟨_,MY c.proj c1 c.zero⟩,⟨v ((f.length+p.length:Nat):Int),?_,?_⟩,λX m R h1 n A B=>?_,by have:=c.len;omega⟩
 .have:=j5 e.good e.pos e.str (MY c.proj c2 r);rw[this]
  congr 2
 .have:=j5 e.good e.pos e.str (MY c.proj l K);rw[this,L]
  congr 2
 obtain⟨w,E,F⟩:=Uz ht hf C D hl m h1 A B;exact c.least X w m.ty E F
theorem Kx (p:List Int) (g:List AB):(BS p g).length=p.length+g.length:=by simp[BS,F8]
theorem Ti {p:List Int} {g:List AB} {i:Int} (a:0<=i) (b:i<(p.length:Int)):(BS p g).getD i.toNat (0,[])=(0,[(p.getD i.toNat 0,i+1)]):=by grind [BS,Eg,F8]
theorem Qj {p:List Int} {g:List AB} {y:Int} (a:0<=y) (b:y<(g.length:Int)):(BS p g).getD ((p.length:Int)+y).toNat (0,[])=((g.getD y.toNat (0,[])).1,AR p.length (g.getD y.toNat (0,[])).2):=by
 unfold BS;have e:((p.length:Int)+y).toNat=p.length+y.toNat:=by omega
 rw[e,AS,Sf (by rw[Eg];omega),Eg,ABb];rw[<-AS];exact R5 (λx:AB=>(x.1,AR p.length x.2)) (0,[]) (0,[]) oa
theorem Ky {p:List Int} {g:List AB} {x:AB} (hx:x∈BS p g):(∃i,i<p.length/\x=(0,[(p.getD i 0,(i:Int)+1)]))\/∃y∈g,x=(y.1,AR p.length y.2):=by
 rcases Do.1 hx with h|h
 .obtain⟨i,hi,rfl⟩:=Y1.1 h;exact .inl ⟨i,by simpa using hi,rfl⟩
 obtain⟨y,hy,rfl⟩:=Y1.1 h;exact .inr ⟨y,hy,rfl⟩
theorem B4 {b:Nat} {l:List (Int×Int)} (h:Ih l):Ih (AR b l):=by
 unfold AR Ih;rw[iF];exact h
theorem Tj {p:List Int} {g:List AB} (f:p.length<=1000) (c:AO g) (e:0<g.length) (hl:g.length<=10000):AO (BS p g):=by
 have d:=Kx p g;refine⟨by omega,λx hx=>?_⟩;rcases Ky hx with ⟨i,hi,rfl⟩|⟨y,hy,rfl⟩
 .refine⟨by simp,λa ha=>?_⟩;have:a=(p.getD i 0,(i:Int)+1):=by simpa using ha
  subst this;rw[d];simp only;omega
 refine⟨by unfold AR;rw[OF];exact(c.2 y hy).1,λa ha=>?_⟩;obtain⟨b,hb,rfl⟩:=Y1.1 ha;have:=(c.2 y hy).2 b hb;rw[d];simp only;omega
theorem SC {h:AG} {f:List AB} (vf:VF h f):Ba f f.length [] 0=(List.range f.length).map λ(i:Nat)=>(i:Int):=by
 have n:=vf.pos;have d:=Cw vf.good (r:=0) oa oa;have hl:=EA f 0;have c:=λi=>Ee (f:=f) (r:=0) (i:=i);rw[vf.can]at hl;simp only[vf.can]at c;generalize m:Ba f f.length [] 0=o at *;have k:Ig h f f (λi=>o.getD i.toNat 0):=by
  refine⟨d.zero.1,λi e g=>d.ok.rng _ (AE o 0 oa),λi e g=>?_,λi e g a ha=>?_⟩
  .rw[c i.toNat oa];exact CF h _
  rw[AK,c i.toNat oa]at ha;obtain⟨b,hb,rfl⟩:=Y1.1 ha;have j:=d.cl _ (AE o 0 oa) b hb;show Av (AK f (o.getD i.toNat 0)) b.1=o.getD (Ax o b.2).toNat 0;rw[(A0 j).2.2];exact Bi (Cd vf.str _) hb
 have hu:=Xb vf.ro k (R8 vf.str);apply AA6
 .rw[OF,ABm];omega
 intro i h1 l;rw[AAU,AAX];have:=hu i (i:Int) oa oa oa;simp only[Sc,id]at this;rw[<-this,AS,AT h1];rfl
theorem Zp {f:List AB} (hf:AO f) (h:Ba f f.length [] 0=(List.range f.length).map λ(i:Nat)=>(i:Int)):AH f 0=f:=by
 unfold AH;generalize hl:Ba f f.length [] 0=l at *;have q:l.length=f.length:=by rw[h];simp
 have b:∀k,(hk:k<l.length)->l[k]=(k:Int):=λk hk=>by subst h;simp
 clear h;have o:l.Nodup:=by
  unfold List.Nodup;rw[Sl];intro i j hi n p e;rw[b i hi,b j n]at e;omega
 have m:∀x,0<=x->x<(l.length:Int)->Ax l x=x:=λx r s=>by
  have:=DI o (i:=x.toNat) oa;have e:l.getD x.toNat 0=x:=by
   rw[AS,AT oa];show l[x.toNat]=x;rw[b _ oa];omega
  rw[e]at this;rw[this];omega
 apply AA6
 .rw[OF];omega
 intro i h1 c;rw[AAU,b i (by simpa using h1)];have d:f.getD (i:Int).toNat (0,[])=f[i]:=by simp[AS,c]
 unfold CG;rw[d];have:∀a∈f[i].2,Fg l a=a:=λa ha=>by
  have g:=(hf.2 _ (aT c)).2 a ha;unfold Fg;rw[m a.2 g.1 oa]
 rw[Of this,ABT]
theorem U0 {Q R:List AB} {ψ:Int->Int} {C:Int->Prop} (h:o9 Q R ψ C) {pre:List Int} (d:∀i,C i->ψ i∉pre):∀(k:Nat) (t:List Int) (i:Int),(∀x∈t,C x)->C i->Ba R k (pre++t.map ψ) (ψ i)=pre++(Ba Q k t i).map ψ/\∀x∈Ba Q k t i,C x
 | 0,t,i,ht,hi=>⟨rfl,ht⟩
 | k+1,t,i,ht,hi=>by
  have key:∀(l:List (Int×Int)) (t:List Int),(∀a∈l,C a.2)->(∀x∈t,C x) ->
    (l.map λa=>(a.1,ψ a.2)).foldl (AX R k) (pre++t.map ψ)=pre++(l.foldl (AX Q k) t).map ψ/\∀x∈l.foldl (AX Q k) t,C x:=by
   intro l;induction l with
   | nil=>intro t _ ht;exact⟨rfl,ht⟩
   | cons a l j =>
    intro t hl ht;have ha:=hl a sc;have hs:AX R k (pre++t.map ψ) (a.1,ψ a.2)=pre++(AX Q k t a).map ψ/\∀x∈AX Q k t a,C x:=by
     unfold AX;by_cases c:a.2∈t
     .rw[DO c,DO (Do.2 (.inr (Y1.2 ⟨_,c,rfl⟩)))];exact⟨rfl,ht⟩
     have g:¬ψ a.2∈pre++t.map ψ:=by
      intro hh;rcases Do.1 hh with hh|hh
      .exact d _ ha hh
      obtain⟨x,hx,e⟩:=Y1.1 hh;exact c (h.inj x a.2 (ht x hx) ha e▸hx)
     rw[BY c];simp only[BY g];exact U0 h d k t a.2 ht ha
    rw[Sj,SU,SU,hs.1];exact j _ (λb hb=>hl b (by simp[hb])) hs.2
  rw[Bv,Bv];have e:pre++t.map ψ++[ψ i]=pre++(t++[i]).map ψ:=by simp
  have f:(R.getD (ψ i).toNat (0,[])).2=(AK Q i).map λa=>(a.1,ψ a.2):=h.arc i hi;rw[f,e];refine key _ _ (h.cl i hi) λx hx=>?_;rcases Do.1 hx with hx|hx
  .exact ht x hx
  have:x=i:=by simpa using hx
  rw[this];exact hi
abbrev NW (n:Nat):List Int:=(List.range n).map λ(i:Nat)=>(i:Int)
theorem Qk {n:Nat} {x:Int} (h:x∈NW n):0<=x/\x<(n:Int):=by grind
theorem yS (n:Nat):NW (n+1)=NW n++[(n:Int)]:=by unfold NW;rw[oF,UK];rfl
theorem Xg {p:List Int} {g:List AB}:∀(r j:Nat) (k:Nat),j+r=p.length->Ba (BS p g) (r+k) (NW j) (j:Int)=Ba (BS p g) k (NW p.length) (p.length:Int)
 | 0,j,k,h=>by rw[show j=p.length by omega,AAC]
 | r+1,j,k,h=>by
  rw[show r+1+k=(r+k)+1 by omega,Bv,Ti oa oa,Sc];show AX (BS p g) (r+k) (NW j++[(j:Int)]) (p.getD j 0,(j:Int)+1)=_;rw[<-yS];unfold AX;rw[BY (λa=>by have:=Qk a;simp only at this;omega)];have e:((j:Int)+1)=((j+1:Nat):Int):=by omega
  simp only[e];exact Xg r (j+1) k oa
theorem yT {h:AG} {p:List Int} {g:List AB} (b:VF h g) (l:p.length<=1000) (hl:g.length<=10000):AH (BS p g) 0=BS p g:=by
 have d:=b.pos;refine Zp (Tj l b.good d hl) ?_;rw[Kx];have c:=Xg (p:=p) (g:=g) p.length 0 g.length oa;rw[show NW 0=[] from rfl,show ((0:Nat):Int)=0 from rfl]at c;rw[c];have f:o9 g (BS p g) (λi=>(p.length:Int)+i) (λi=>0<=i/\i<(g.length:Int)):=by
  refine⟨λi hi=>?_,λi hi a ha=>Af b.good ha,λi j hi m e=>by have e:(p.length:Int)+i=(p.length:Int)+j:=e;omega⟩;rw[AK,Qj hi.1 hi.2];show AR p.length (AK g i)=_;unfold AR;refine Of λa _=>?_;show (a.1,a.2+(p.length:Int))=(a.1,(p.length:Int)+a.2);rw[AB9]
 have hd:=(U0 f (pre:=NW p.length) (λi hi k=>by have:=Qk k;omega) g.length [] 0 (λx hx=>by cases hx) ⟨by omega,by omega⟩).1;rw[ABj,UL,AAc,SC b]at hd;rw[hd];rw[ABY,UK,bY,bY];refine oN _ (Of λi _=>?_);show (p.length:Int)+(i:Int)=((p.length+i:Nat):Int);omega
theorem A2Q {h:AG} (h0:0<h.1.length) {p:List Int} {g:List AB} (c:VF h g) (f:pN h p) (d:p.length<=1000) (hl:g.length<=10000):VF h (BS p g):=by
 have k:=c.pos;have m:=Kx p g;refine⟨Tj d c.good k hl,by omega,λx hx=>?_,λx hx=>?_,λx hx a ha=>?_,yT c d hl,λi n o=>?_⟩
 .rcases Ky hx with ⟨i,hi,rfl⟩|⟨y,hy,rfl⟩
  .exact⟨by simp,by simp only;omega⟩
  exact c.ty y hy
 .rcases Ky hx with ⟨i,hi,rfl⟩|⟨y,hy,rfl⟩
  .exact AA8 _ _
  exact B4 (c.str y hy)
 .rcases Ky hx with ⟨i,hi,rfl⟩|⟨y,hy,rfl⟩
  .have:a=(p.getD i 0,(i:Int)+1):=by simpa using ha
   rw[this];exact f _ (Da hi)
  obtain⟨b,hb,rfl⟩:=Y1.1 ha;exact c.ft y hy b hb
 by_cases hi:i<=(p.length:Int)
 .refine⟨i-1,by omega,by omega,(p.getD (i-1).toNat 0,i-1+1),?_,by simp only;omega⟩;rw[AK,Ti oa oa];exact SQ.2 rfl
 obtain⟨j,l,q,x,hx,e⟩:=c.ro (i-p.length) oa oa;refine⟨(p.length:Int)+j,by omega,by omega,(x.1,x.2+(p.length:Int)),?_,by simp only;omega⟩;rw[AK,Qj l oa];exact Y1.2 ⟨x,hx,rfl⟩
theorem yU {f:List AB} (hf:AO f) {r:Int} (g:0<=r) (h:r<(f.length:Int)):AO (AH f r)/\0<(AH f r).length:=by
 have c:=Cw hf g h;have hl:=EA f r;have e:=λi=>Ee (f:=f) (r:=r) (i:=i);generalize l:Ba f f.length [] r=o at *;have m:=c.ok.len;have j:=hf.1;have p:=c.zero.2;refine⟨⟨by omega,λx hx=>?_⟩,by omega⟩;obtain⟨i,hi,rfl⟩:=Co (0,[]) hx;rw[e i oa];have d:o.getD i 0∈o:=AE o 0 oa;have n:=c.ok.rng _ d;refine⟨?_,λa ha=>?_⟩
 .show (List.map (Fg o) _).length<=_;rw[OF];exact(hf.2 _ (AE f (0,[]) (k:=(o.getD i 0).toNat) oa)).1
 obtain⟨b,hb,rfl⟩:=Y1.1 ha;have:=A0 (c.cl _ d b hb);rw[hl];exact⟨this.1,this.2.1⟩
theorem A5u {h:AG} {f:List AB} (hf:AO f) (ht:Cj h f) {r:Int} (b:0<=r) (c:r<(f.length:Int)):Cj h (AH f r):=by
 have a:=Cw hf b c;intro x hx;obtain⟨n,hn,rfl⟩:=Y1.1 hx;have d:=a.ok.rng n hn;exact ht (f.getD n.toNat (0,[])) (AE f (0,[]) (k:=n.toNat) oa)
def d6 (s:ByteArray):Nat->List HQ->Int
 | _,[]=>-1
 | k,x :: l=>if Ac x.1 s=true then (k:Int) else d6 s (k+1) l
def J8 (h:AG) (s:ByteArray):Int:=d6 s 0 h.1
def t8 (s:ByteArray):Nat->List Wx->Int
 | _,[]=>-1
 | k,x :: l=>if Ac x.1 s=true then (k:Int) else t8 s (k+1) l
def YX (h:AG) (s:ByteArray):Int:=t8 s 0 h.2
theorem t9 (s:ByteArray):∀(l:List HQ) (k:Nat),d6 s k l=-1\/((k:Int)<=d6 s k l/\d6 s k l<((k+l.length:Nat):Int))
 | [],_=>.inl rfl
 | x :: l,k=>by
  unfold d6;split
  .exact .inr ⟨Sh _,by simp only[IF];omega⟩
  have:=t9 s l (k+1);simp only[IF];omega
theorem uA (s:ByteArray):∀(l:List Wx) (k:Nat),t8 s k l=-1\/((k:Int)<=t8 s k l/\t8 s k l<((k+l.length:Nat):Int))
 | [],_=>.inl rfl
 | x :: l,k=>by
  unfold t8;split
  .exact .inr ⟨Sh _,by simp only[IF];omega⟩
  have:=uA s l (k+1);simp only[IF];omega
theorem EB (h:AG) (s:ByteArray):-1<=J8 h s/\J8 h s<(h.1.length:Int):=by
 have:=t9 s h.1 0;unfold J8;omega
theorem F9 (h:AG) (s:ByteArray):-1<=YX h s/\YX h s<(h.2.length:Int):=by
 have:=uA s h.2 0;unfold YX;omega
structure LW where
 list:Int
 cons:Int
 null:Int
 dlist:Int
 first:Int
 rest:Int
 head:Int
 last:Int
def sb (l:List UInt8):ByteArray:=⟨l.toArray⟩
def AM (h:AG):LW:=⟨J8 h (sb [108,105,115,116]),J8 h (sb [99,111,110,115]),J8 h (sb [110,117,108,108]),J8 h (sb [100,108,105,115,116]),YX h (sb [70,73,82,83,84]),YX h (sb [82,69,83,84]),YX h (sb [76,73,83,84]),YX h (sb [76,65,83,84])⟩
def FH (h:AG):Bool:=decide (0<=(AM h).list/\0<=(AM h).cons/\0<=(AM h).null/\0<=(AM h).dlist/\0<=(AM h).first/\0<=(AM h).rest/\0<=(AM h).head/\0<=(AM h).last)&&A3 h (AM h).list (AM h).cons&&A3 h (AM h).list (AM h).null
def Nv (w:LW) (row:List (Int×Int)):Bool:=decide (Av row w.first<0)&&decide (Av row w.rest<0)
def Nw (w:LW) (row:List (Int×Int)):Bool:=decide (0<=Av row w.first)&&decide (0<=Av row w.rest)
def YY (h:AG) (w:LW) (x:AB):Bool:=A3 h w.null x.1&&Nv w x.2
def Nx (h:AG) (w:LW) (x:AB):Bool:=A3 h w.cons x.1&&Nw w x.2
def Tk (h:AG) (w:LW) (x:AB):Bool:=A3 h x.1 w.cons&&Nv w x.2
def BL (h:AG) (w:LW) (x:AB):Int:=if YY h w x=true then 1 else if Nx h w x=true then 2 else if Tk h w x=true then 3 else 0
def Zq (h:AG) (w:LW) (f:List AB):Nat->List Int->List Int->Int->List Int×Bool×Int
 | 0,_,_,_=>([],false,6)
 | k+1,a,out,n=>if n∈a then ([],false,6) else
  if BL h w (f.getD n.toNat (0,[]))=1 then (out,true,0) else if BL h w (f.getD n.toNat (0,[]))=3 then (out,false,0) else if BL h w (f.getD n.toNat (0,[]))=0 then ([],false,13)
  else Zq h w f k (a++[n]) (out++[Av (f.getD n.toNat (0,[])).2 w.first]) (Av (f.getD n.toNat (0,[])).2 w.rest)
def Dx (h:AG) (f:List AB) (n:Int):List Int×Bool×Int:=if FH h=true then Zq h (AM h) f (f.length+1) [] [] n else ([],false,5)
theorem NH {h:AG} {w:LW} {x:AB} (e:BL h w x=2):0<=Av x.2 w.first/\0<=Av x.2 w.rest:=by
 unfold BL at e;split at e
 .cases e
 split at e
 .rename_i a;unfold Nx Nw at a;simp only[An,Is]at a;exact a.2
 split at e<;>cases e
theorem Gx {h:AG} (e:FH h=true):(0<=(AM h).first/\0<=(AM h).rest)/\0<=(AM h).cons/\0<=(AM h).null/\0<=(AM h).list/\0<=(AM h).dlist/\0<=(AM h).head/\0<=(AM h).last:=by
 unfold FH at e;rw[An,An,Is]at e;obtain⟨⟨⟨h1,a,b,c,d,f,g,i⟩,-⟩,-⟩:=e;exact⟨⟨d,f⟩,a,b,h1,c,g,i⟩
section
theorem j6 (s:ByteArray) (l:List HQ) {k:Nat} (h:k<l.length):d6 s k (l.drop k)=if Ac (l.getD k YF).1 s=true then (k:Int) else d6 s (k+1) (l.drop (k+1)):=by
 rw[SR h];have e:l.getD k YF=l[k]:=by simp[AS,h]
 rw[e];rfl
theorem j7 (s:ByteArray) (l:List Wx) {k:Nat} (h:k<l.length):t8 s k (l.drop k)=if Ac (l.getD k (ByteArray.empty,0)).1 s=true then (k:Int) else t8 s (k+1) (l.drop (k+1)):=by
 rw[SR h];have e:l.getD k (ByteArray.empty,0)=l[k]:=by simp[AS,h]
 rw[e];rfl
def Xh:Ab:={ ins:=[Ey,T9],pre:=λ_=>True,out:=λ(h,s,_)=>[.p T3 (J8 h s)],lend:=true }
attribute [local go_sem] Xh
theorem A5v:Ag Tryz.prog 60 Xh:=by
 refine fK [0,1,2,4,5,10,20] Tryz.func60 Tryz.ntmps60 AI ?_;rintro w0 O0 ⟨⟨ht,hf⟩,s,u⟩ d ⟨⟨⟨hl,-⟩,-⟩,-⟩ -;simp only[AP]at hl;simp only[Xh,AN];repeat'(first|exact trivial|apply eS rfl|apply AC|refine rX d ?_ ?_|refine rC ?_ ?_<;>intro a<;>try(cases a;done))
 refine AL (ι:={k:Nat//k<=ht.length/\d6 s k (ht.drop k)=J8 (ht,hf) s}) (λk=>⟨[(1,.p T9 s),(2,.bp 2 [] 0),(5,.p (.int .i64) (k.1:Int))],[(2,.box 31 true [.p wX ht,.p T29 hf])]⟩) (λk=>ht.length-k.1) ⟨0,ON _,rfl⟩ (eW [(2,.nm 2)]) (λk=>?_)
 obtain⟨k,hk,b⟩:=k;have e:=λh:k<ht.length=>j6 s ht h;simp only;repeat'(first|exact trivial|apply eS rfl|apply AC|refine rX d ?_ ?_|refine rC ?_ ?_<;>intro a<;>try(cases a;done))
 .exact a
 .have c:k<ht.length:=by exact eV
  rw[e c,DO a]at b;exact fI d [.tmp 4] (by rw[<-b];exact eR)
 .omega
 .have c:k<ht.length:=by exact eV
  rw[e c,BY (by rw[a];simp)]at b;exact⟨⟨k+1,by omega,b⟩,by simp only;omega,eW [(2,.nm 2)]⟩
 have c:ht.drop k=[]:=SV (by exact eV);rw[c]at b;exact fI d [.tmp 4] (by rw[<-b];first|exact eR|refine Y6 ?_;rfl)
def PH:Ab:={ ins:=[Ey,T9],pre:=λ_=>True,out:=λ(h,s,_)=>[.p T3 (YX h s)],lend:=true }
attribute [local go_sem] PH
theorem A7L:Ag Tryz.prog 70 PH:=by
 refine fK [0,1,2,4,5,10,20] Tryz.func70 Tryz.ntmps70 AI ?_;rintro w0 O0 ⟨⟨ht,hf⟩,s,u⟩ d ⟨⟨-,hl,-⟩,-⟩ -;simp only[AP]at hl;simp only[PH,AN];repeat'(first|exact trivial|apply eS rfl|apply AC|refine rX d ?_ ?_|refine rC ?_ ?_<;>intro a<;>try(cases a;done))
 refine AL (ι:={k:Nat//k<=hf.length/\t8 s k (hf.drop k)=YX (ht,hf) s}) (λk=>⟨[(1,.p T9 s),(2,.bp 2 [] 0),(5,.p (.int .i64) (k.1:Int))],[(2,.box 31 true [.p wX ht,.p T29 hf])]⟩) (λk=>hf.length-k.1) ⟨0,ON _,rfl⟩ (eW [(2,.nm 2)]) (λk=>?_)
 obtain⟨k,hk,b⟩:=k;have e:=λh:k<hf.length=>j7 s hf h;simp only;repeat'(first|exact trivial|apply eS rfl|apply AC|refine rX d ?_ ?_|refine rC ?_ ?_<;>intro a<;>try(cases a;done))
 .exact a
 .have c:k<hf.length:=by exact eV
  rw[e c,DO a]at b;exact fI d [.tmp 4] (by rw[<-b];exact eR)
 .omega
 .have c:k<hf.length:=by exact eV
  rw[e c,BY (by rw[a];simp)]at b;exact⟨⟨k+1,by omega,b⟩,by simp only;omega,eW [(2,.nm 2)]⟩
 have c:hf.drop k=[]:=SV (by exact eV);rw[c]at b;exact fI d [.tmp 4] (by rw[<-b];first|exact eR|refine Y6 ?_;rfl)
def A2R:Ab:=PH
attribute [local go_sem] A2R
theorem A7M:Ag Tryz.prog 67 PH:=by
 refine fK [0,1,2,4,5,6,8,9,10,11,20] Tryz.func67 Tryz.ntmps67 AI ?_;rintro w0 O0 ⟨⟨ht,hf⟩,s,u⟩ b ⟨⟨-,hl,-⟩,-⟩ -;simp only[AP]at hl;simp only[PH,AN];repeat'(first|exact trivial|apply eS rfl|apply AC|refine rX b ?_ ?_|refine rC ?_ ?_<;>intro a<;>try(cases a;done))
 refine AL (ι:={k:Nat//k<=hf.length/\t8 s k (hf.drop k)=YX (ht,hf) s}) (λk=>⟨[(1,.p T9 s),(8,.p T29 hf),(9,.p (.int .i64) (hf.length:Int)),(10,.p (.int .i64) (k.1:Int))],[]⟩) (λk=>hf.length-k.1) ⟨0,ON _,rfl⟩ (eW []) (λk=>?_)
 obtain⟨k,hk,c⟩:=k;have e:=λh:k<hf.length=>j7 s hf h;simp only;repeat'(first|exact trivial|apply eS rfl|apply AC|refine rX b ?_ ?_|refine rC ?_ ?_<;>intro a<;>try(cases a;done))
 .exact a
 .refine cP 5 b ?_ ?_
  .trivial
  refine A9D (j:=.i64) b (by kernel_rfl) ?_;refine rL b ?_ ?_
  .trivial
  repeat'(first|exact trivial|apply eS rfl|apply AC|refine rX b ?_ ?_|refine rC ?_ ?_<;>intro a<;>try(cases a;done))
  .have d:k<hf.length:=by exact eV
   rw[e d,DO a]at c;exact fI b [.tmp 4] (by rw[<-c];exact eR)
  .omega
  have d:k<hf.length:=by exact eV
  rw[e d,BY (by rw[a];simp)]at c;exact⟨⟨k+1,by omega,c⟩,by simp only;omega,eW []⟩
 have d:hf.drop k=[]:=SV (by exact eV);rw[d]at c;exact fI b [.tmp 4] (by rw[<-c];first|exact eR|refine Y6 ?_;rfl)
theorem A5w (s:ByteArray) (t:HQ):BT Tryz.prog 180 [.p m8 t,.bp 1 [] 0] [(1,.box 9 false [.p T9 s])] [1] (λres c=>res=.p .bool (Ac t.1 s)/\c=[(1,.box 9 false [.p T9 s])]):=by
 refine Nk [0,1,2,3] [] [] Tryz.func180 Tryz.ntmps180 AI ?_;intro w0 K O0 ρ0 a d e;simp only[A1];repeat'(first|exact trivial|apply eS rfl|apply AC|refine rX a ?_ ?_|refine rC ?_ ?_<;>intro b<;>try(cases b;done))
 refine Ev.ent (σ':=⟨[(3,.p .bool (Ac t.1 s))],[(1,.box 9 false [.p T9 s])]⟩) ?_ (AD [(1,.nm 1)] rfl rfl ?_ ?_)
 .exact fM a [.tmp 3] (.p .bool (Ac t.1 s)) eT ⟨rfl,rfl⟩
 .exact eN
 exact eN
theorem yV (l:List HQ) (s:ByteArray):BT Tryz.prog 177 [.p wX l,.clo 180 [1]] [(1,.box 9 false [.p T9 s])] [1] (λres g=>res=.p T3 (d6 s 0 l)/\g=[(1,.box 9 false [.p T9 s])]):=by
 refine Nk [0,1,4,5,7,8,9,16] [] [] Tryz.func177 Tryz.ntmps177 AI ?_;intro w0 K O0 ρ0 b e i;have hl:l.length<=140737488355328:=e.1.1;simp only[A1];repeat'(first|exact trivial|apply eS rfl|apply AC|refine rX b ?_ ?_|refine rC ?_ ?_<;>intro a<;>try(cases a;done))
 refine AL (ι:={k:Nat//k<=l.length/\d6 s k (l.drop k)=d6 s 0 l}) (λk=>⟨[(0,.p wX l),(1,.clo 180 [1]),(7,.p (.int .i64) (l.length:Int)),(8,.p (.int .i64) (k.1:Int))],[(1,.box 9 false [.p T9 s])]⟩) (λk=>l.length-k.1) ⟨0,ON _,rfl⟩ (eW [(1,.nm 1)]) (λk=>?_)
 obtain⟨k,hk,hf⟩:=k;have f:=λh:k<l.length=>j6 s l h;simp only;repeat'(first|exact trivial|apply eS rfl|apply AC|refine rX b ?_ ?_|refine rC ?_ ?_<;>intro a<;>try(cases a;done))
 .have c:k<l.length:=IN.1 a;have d:=f c;refine cP 5 b ?_ ?_
  .exact a
  refine rM b (A5w s (l.getD k YF)) [(1,.nm 1)] [] ?_ ?_ ?_
  .exact eN
  .exact eN
  rintro _ _ ⟨rfl,rfl⟩;refine⟨[(1,.nm 1)],.p .bool (Ac (l.getD k YF).1 s),[(1,.box 9 false [.p T9 s])],rfl,rfl,?_,?_,rfl,rfl,Cu ?_⟩
  .exact eN
  .exact eN
  repeat'(first|exact trivial|apply eS rfl|apply AC|refine rX b ?_ ?_|refine rC ?_ ?_<;>intro a<;>try(cases a;done))
  .rw[DO a,hf]at d;refine Ev.ent (σ':=⟨[(4,.p (.int .i64) (k:Int))],[(1,.box 9 false [.p T9 s])]⟩) ?_ (AD [(1,.nm 1)] rfl rfl ?_ ?_)
   .exact fM b [.tmp 4] (.p T3 (k:Int)) eT ⟨by rw[d],rfl⟩
   .exact eN
   exact eN
  .omega
  rw[BY (by rw[a];simp)]at d;exact⟨⟨k+1,c,d.symm.trans hf⟩,by simp only;omega,eW [(1,.nm 1)]⟩
 have c:l.drop k=[]:=SV (SY.1 a);rw[c]at hf;have hf:(-1:Int)=d6 s 0 l:=hf;refine Ev.ent (σ':=⟨[(4,.p (.int .i64) (-1))],[(1,.box 9 false [.p T9 s])]⟩) ?_ (AD [(1,.nm 1)] rfl rfl ?_ ?_)
 .exact fM b [.tmp 4] (.p T3 (-1)) eT ⟨by rw[hf],rfl⟩
 .exact eN
 exact eN
def uB:Ab:={ ins:=[Ey,T9],pre:=λ_=>True,out:=λ(h,s,_)=>[.p T3 (J8 h s)],lend:=true }
attribute [local go_sem] uB
theorem A5x:Ag Tryz.prog 138 uB:=by
 refine fK [0,1,2,3,4] Tryz.func138 Tryz.ntmps138 AI ?_;rintro w0 O0 ⟨⟨ht,hf⟩,s,u⟩ a - -;simp only[uB,AN];refine Ev.ent (σ':=⟨[(0,.p Ey (ht,hf)),(1,.p T9 s)],[]⟩) ?_ (AD [] rfl rfl ?_ ?_)
 .repeat'(first|exact trivial|apply eS rfl|apply AC|refine rX a ?_ ?_|refine rC ?_ ?_<;>intro b<;>try(cases b;done))
  refine cP 3 a ?_ ?_
  .trivial
  refine rM a (yV ht s) [(1,.nm 3)] [] ?_ ?_ ?_
  .exact eN
  .exact eN
  rintro _ _ ⟨rfl,rfl⟩;refine⟨[(3,.nm 1)],.p T3 (d6 s 0 ht),[(3,.box 9 false [.p T9 s])],rfl,rfl,?_,?_,rfl,rfl,?_⟩
  .exact eN
  .exact eN
  refine rL a ?_ ?_
  .trivial
  repeat'(first|exact trivial|apply eS rfl|apply AC|refine rX a ?_ ?_|refine rC ?_ ?_<;>intro b<;>try(cases b;done))
  exact fI a [.tmp 4] (by unfold J8;exact eR)
 .exact eN
 exact eN
theorem pR (h:AG):J8 h ⟨#[108,105,115,116]⟩=(AM h).list/\J8 h ⟨#[99,111,110,115]⟩=(AM h).cons/\J8 h ⟨#[110,117,108,108]⟩=(AM h).null/\J8 h ⟨#[100,108,105,115,116]⟩=(AM h).dlist/\YX h ⟨#[70,73,82,83,84]⟩=(AM h).first/\YX h ⟨#[82,69,83,84]⟩=(AM h).rest/\YX h ⟨#[76,73,83,84]⟩=(AM h).head/\YX h ⟨#[76,65,83,84]⟩=(AM h).last:=⟨rfl,rfl,rfl,rfl,rfl,rfl,rfl,rfl⟩
theorem c8 (h:AG):((AM h).list<(h.1.length:Int)/\(AM h).cons<(h.1.length:Int)/\(AM h).null<(h.1.length:Int)/\(AM h).dlist<(h.1.length:Int))/\(-1<=(AM h).list/\-1<=(AM h).cons/\-1<=(AM h).null/\-1<=(AM h).dlist) :=
 ⟨⟨(EB h _).2,(EB h _).2,(EB h _).2,(EB h _).2⟩,(EB h _).1,(EB h _).1,(EB h _).1,(EB h _).1⟩
theorem c9 {α:Type} {f:List α} {n:Int} (h:0<=n/\n<(f.length:Int)):n.toNat<f.length:=by omega
end
section
attribute [local go_sem] uB A2R PH W9 zO zP
def zR (h:AG) (w:LW):YO.den:=(h,w.list,w.cons,w.null,w.dlist,w.first,w.rest,w.head,w.last)
def lwO (w:YO.den):LW:=⟨w.2.1,w.2.2.1,w.2.2.2.1,w.2.2.2.2.1,w.2.2.2.2.2.1,w.2.2.2.2.2.2.1,w.2.2.2.2.2.2.2.1,w.2.2.2.2.2.2.2.2⟩
def Xi:Ab:={ ins:=[D7,T3,T3],pre:=λ(f,n,_)=>AO f/\(0:Int)<=n/\n<(List.length f:Int),out:=λ(f,n,e,_)=>[.p T3 (Av (List.getD (f:List AB) n.toNat (0,[])).2 e)],lend:=true }
attribute [local go_sem] Xi
theorem Ql:Ag Tryz.prog 89 Xi:=by
 refine fK [0,1,2,3,6,8,14,15,16,17,23] Tryz.func89 Tryz.ntmps89 AI ?_;rintro w0 O0 ⟨f,n,e,u⟩ d-⟨g,hn⟩;have g:AO f:=g;have hn:0<=n/\n<(f.length:Int):=hn;simp only[Xi,AN];repeat'(first|exact trivial|apply eS rfl|apply AC|refine rX d ?_ ?_|refine rC ?_ ?_<;>intro a<;>try(cases a;done))
 .exact hn
 have j:=(g.2 _ (AE f (0,[]) (c9 hn))).1;generalize (f.getD n.toNat (0,[])).2=L at *;refine AL (ι:={k:Nat//k<=L.length/\Av L e=Av (L.drop k) e}) (λk=>⟨[(2,.p T3 e),(14,.p DK L),(15,.p (.int .i64) (L.length:Int)),(16,.p (.int .i64) (k.1:Int))],[]⟩) (λk=>L.length-k.1) ⟨0,ON _,rfl⟩ (eW []) (λk=>?_)
 obtain⟨k,hk,b⟩:=k;have i:=λh:k<L.length=>yK e L h;simp only;repeat'(first|exact trivial|apply eS rfl|apply AC|refine rX d ?_ ?_|refine rC ?_ ?_<;>intro a<;>try(cases a;done))
 .exact a
 .have c:k<L.length:=by exact eV
  rw[i c,DO a]at b;exact fI d [.tmp 6] (by rw[b];exact eR)
 .omega
 .have c:k<L.length:=by exact eV
  rw[i c,BY a]at b;exact⟨⟨k+1,by omega,b⟩,by simp only;omega,eW []⟩
 have c:L.drop k=[]:=SV (by exact eV);rw[c]at b;exact fI d [.tmp 6] (by rw[b];first|exact eR|refine Y6 ?_;rfl)
def WOk (h:AG) (w:LW):Prop:=(0<=w.cons/\w.cons<(h.1.length:Int))/\(0<=w.null/\w.null<(h.1.length:Int))
def PI:Ab:={ ins:=[YO,D7,T3],pre:=λ(w,f,n,_)=>WOk w.1 (lwO w)/\AO f/\Cj w.1 f/\(0:Int)<=n/\n<(List.length f:Int),out:=λ(w,f,n,_)=>[.p T3 (BL w.1 (lwO w) (List.getD (f:List AB) n.toNat (0,[])))],lend:=true }
attribute [local go_sem] PI
theorem Qm:Ag Tryz.prog 91 PI:=by
 refine fK [0,1,2,3,4,6,7,8,9,28,43,56] Tryz.func91 Tryz.ntmps91 (AF Ql (AF sZ AI)) ?_;rintro w0 O0 ⟨⟨h,l,c,d,dl,a,e,b,la⟩,f,n,u⟩ i-⟨j,k,ht,hn⟩;have j:WOk h ⟨l,c,d,dl,a,e,b,la⟩:=j;have k:AO f:=k;have ht:Cj h f:=ht;have hn:0<=n/\n<(f.length:Int):=hn;have hty:=ht _ (AE f (0,[]) (c9 hn));simp only[PI,AN];repeat'(first|exact trivial|apply eS rfl|apply AC|refine rX i ?_ ?_|refine rC ?_ ?_<;>intro m<;>try(cases m;done))
 .exact hn
 .exact⟨k,hn⟩
 .exact⟨j.2,hty⟩
 .have g:BL h ⟨l,c,d,dl,a,e,b,la⟩ (f.getD n.toNat (0,[]))=1:=by
   unfold BL YY Nx Tk Nv Nw;simp only[An,Is];grind
  exact fI i [.tmp 6] (by rw[show lwO (h,l,c,d,dl,a,e,b,la)=⟨l,c,d,dl,a,e,b,la⟩ from rfl,g];exact eR)
 .exact⟨j.1,hty⟩
 .have g:BL h ⟨l,c,d,dl,a,e,b,la⟩ (f.getD n.toNat (0,[]))=2:=by
   unfold BL YY Nx Tk Nv Nw;simp only[An,Is];grind
  exact fI i [.tmp 6] (by rw[show lwO (h,l,c,d,dl,a,e,b,la)=⟨l,c,d,dl,a,e,b,la⟩ from rfl,g];exact eR)
 .exact⟨hty,j.1⟩
 .have g:BL h ⟨l,c,d,dl,a,e,b,la⟩ (f.getD n.toNat (0,[]))=3:=by
   unfold BL YY Nx Tk Nv Nw;simp only[An,Is];grind
  exact fI i [.tmp 6] (by rw[show lwO (h,l,c,d,dl,a,e,b,la)=⟨l,c,d,dl,a,e,b,la⟩ from rfl,g];exact eR)
 have g:BL h ⟨l,c,d,dl,a,e,b,la⟩ (f.getD n.toNat (0,[]))=0:=by
  unfold BL YY Nx Tk Nv Nw;simp only[An,Is];grind
 exact fI i [.tmp 6] (by rw[show lwO (h,l,c,d,dl,a,e,b,la)=⟨l,c,d,dl,a,e,b,la⟩ from rfl,g];exact eR)
theorem A5y {a b:Int}:(if b<a then b else a)<0↔a<0\/b<0:=by split<;>omega
theorem A5z {a b:Int}:(0<=if b<a then b else a)↔0<=a/\0<=b:=by split<;>omega
def A6v:YO.den:=(([],[]),0,0,0,0,0,0,0,0)
def Ja:Ab:={ ins:=[Ey],pre:=λ_=>True,out:=λ(h,_)=>[.p YO (if FH h=true then zR h (AM h) else A6v),.p HD (if FH h=true then 0 else 5)] }
attribute [local go_sem] Ja
theorem Mc:Ag Tryz.prog 88 Ja:=by
 refine fK [0,1,2,3,4,58] Tryz.func88 Tryz.ntmps88 (AF A5x (AF A7M (AF sZ AI))) ?_;rintro w0 O0 ⟨⟨ht,hf⟩,u⟩ a - -;obtain⟨e1,e2,d,e,f,g,i,j⟩:=pR (ht,hf);obtain⟨⟨o,p,q,r⟩,k,l,m,n⟩:=c8 (ht,hf);simp only[Ja,AN];repeat'(first|exact trivial|apply eS rfl|apply AC|refine rX a ?_ ?_|refine rC ?_ ?_<;>intro c<;>try(cases c;done))
 all_goals simp only[e1,e2,d,e,f,g,i,j,A5y,A5z]at *
 .refine⟨λh=>?_,λh=>?_⟩<;>simp only[Sa,AA2,Sd,not_or]at h<;>grind
 .have b:FH (ht,hf)=false:=by
   rw[AAH];intro hb;unfold FH at hb;simp only[An,Is]at hb;grind
  exact fI a [.cell 2 115,.tmp 3] (by simp only[b,AA0,AAp,A6v];exact eR)
 have b:FH (ht,hf)=true:=by
  unfold FH;simp only[An,Is];grind
 exact fI a [.cell 2 115,.tmp 3] (by simp only[b,AAd,zR];exact eR)
end
section
attribute [local go_sem] Rw Kq
def ftR (h:AG) (a:Int×Int):Bool:=decide (a.1<(h.2.length:Int))
def yW (h:AG) (x:AB):Bool:=decide (x.1<(h.1.length:Int))&&x.2.all (ftR h)
def Hh (h:AG) (f:List AB):Int:=if (BA f).2≠0 then (BA f).2 else if f.all (yW h)=false then 2 else if (CN f (BA f).1==0)=false then 3 else 0
def Kz:Ab:={ ins:=[Ey,D7],pre:=λ(_,f,_)=>E1 f,out:=λ(h,f,_)=>[.p HD (Hh h f)] }
theorem yX:Ag Tryz.prog 33 Kz:=by
 refine fK [0,1,2,3,4,5,6,7,8,9,16,22,35,40,52,56] Tryz.func33 Tryz.ntmps33 (AF A2m (AF QU AI)) ?_;rintro w0 O0 ⟨⟨ht,hf⟩,f,u⟩ c-hs;have hs:E1 f:=hs;simp only[Kz,AN];repeat'(first|exact trivial|apply eS rfl|refine rX c ?_ ?_|refine rC ?_ ?_<;>intro a<;>try(cases a;done))
 .exact hs.2
 .have h1:Hh (ht,hf) f=(BA f).2:=by unfold Hh;rw[DO a]
  exact fI c [.tmp 4] (by rw[h1];exact eR)
 have s:(BA f).2=0:=by simpa using a
 have o:=i7 hs.2;have v:=hs.1;have d:Hh (ht,hf) f=if f.all (yW (ht,hf))=false then 2 else if (CN f (BA f).1==0)=false then 3 else 0:=by unfold Hh;rw[BY (by rw[s];simp)]
 refine AL (ι:={i:Nat//i<=f.length/\(f.take i).all (yW (ht,hf))=true}) (λi=>⟨[(2,.bp 2 [] 0),(3,.bp 3 [] 0),(5,.bp 5 [] 0),(7,.p (.int .i64) (i.1:Int))],[(2,.box 31 true [.p wX ht,.p T29 hf]),(3,.box 25 true [.p G2 f]),(5,.box 25 true [.p G2 (BA f).1])]⟩) (λi=>f.length-i.1) ⟨0,by simp⟩ (eW [(2,.nm 2),(3,.nm 3),(5,.nm 5)]) (λi=>?_)
 obtain⟨i,hi,j⟩:=i;have q:=λh:i<f.length=>Ju f (0,[]) (yW (ht,hf)) h;simp only;repeat'(first|exact trivial|apply eS rfl|refine rX c ?_ ?_|refine rC ?_ ?_<;>intro a<;>try(cases a;done))
 .exact a
 .have b:i<f.length:=IN.1 (by assumption);have e:f.all (yW (ht,hf))=false:=by
   rw[AB6];refine⟨_,AE f (0,[]) b,?_⟩;unfold yW;rw[ABh (AAB.2 a)];simp
  rw[DO e]at d;exact fI c [.tmp 4] (by rw[d];exact eR)
 .have b:i<f.length:=IN.1 (by assumption);have m:=AE f (0,[]) b;have n:yW (ht,hf) (f.getD i (0,[]))=(f.getD i (0,[])).2.all (ftR (ht,hf)):=by
   unfold yW;rw[AB0 (show (f.getD i (0,[])).1<(ht.length:Int) from a)];rfl
  have t:(f.getD i (0,[])).2.length<=100000:=hs.2 _ m;refine AL (ι:={k:Nat//k<=(f.getD i (0,[])).2.length/\((f.getD i (0,[])).2.take k).all (ftR (ht,hf))=true}) (λk=>⟨[(2,.bp 2 [] 0),(3,.bp 3 [] 0),(5,.bp 5 [] 0),(7,.p (.int .i64) (i:Int)),(8,.bp 8 [] 0),(9,.p (.int .i64) (k.1:Int))],[(2,.box 31 true [.p wX ht,.p T29 hf]),(3,.box 25 true [.p G2 f]),(5,.box 25 true [.p G2 (BA f).1]),(8,.box 93 true [.p T3 (f.getD i (0,[])).1,.p DK (f.getD i (0,[])).2])]⟩) (λk=>(f.getD i (0,[])).2.length-k.1) ⟨0,by simp⟩ (eW [(2,.nm 2),(3,.nm 3),(5,.nm 5),(8,.nm 8)]) (λk=>?_)
  obtain⟨k,hk,l⟩:=k;have r:=λh:k<(f.getD i (0,[])).2.length=>Ju (f.getD i (0,[])).2 (0,0) (ftR (ht,hf)) h;simp only;repeat'(first|exact trivial|apply eS rfl|apply AC|refine rX c ?_ ?_|refine rC ?_ ?_<;>intro a<;>try(cases a;done))
  .exact a
  .have g:k<(f.getD i (0,[])).2.length:=IN.1 (by assumption);have e:f.all (yW (ht,hf))=false:=by
    rw[AB6];refine⟨_,m,?_⟩;rw[n,AB6.2 ⟨_,AE (f.getD i (0,[])).2 (0,0) g,by unfold ftR;rw[ABh (AAB.2 a)];simp⟩];simp
   rw[DO e]at d;exact fI c [.tmp 4] (by rw[d];exact eR)
  .exact eV
  .have g:k<(f.getD i (0,[])).2.length:=IN.1 (by assumption);refine⟨⟨k+1,g,?_⟩,by simp only;omega,AD [(2,.nm 2),(3,.nm 3),(5,.nm 5),(8,.nm 8)] rfl rfl ?_ ?_⟩
   .rw[r g,l];unfold ftR;exact AB0 a
   .exact eN
   exact eN
  .exact eV
  have g:(f.getD i (0,[])).2.take k=(f.getD i (0,[])).2:=By (SY.1 a);rw[g]at l;refine⟨⟨i+1,b,?_⟩,by simp only;omega,AD [(2,.nm 2),(3,.nm 3),(5,.nm 5)] rfl rfl ?_ ?_⟩
  .rw[q b,j,n,l];rfl
  .exact eN
  exact eN
 .exact⟨hs,o⟩
 .have b:f.take i=f:=By (SY.1 (by assumption));rw[b]at j;rw[BY (by rw[j];simp),DO (by simpa using a)]at d;exact fI c [.tmp 4] (by rw[d];exact eR)
 have b:f.take i=f:=By (SY.1 (by assumption));rw[b]at j;rw[BY (by rw[j];simp),BY (by rw[a];simp)]at d;exact fI c [.tmp 4] (by rw[d];exact eR)
def Jb (h:AG) (f:List AB):Bool:=HG f&&Hh h f==0
end
section
attribute [local go_sem] Jx MK Rq Kz
def VA (d:List AJ):AG:=if d.length<=12/\(BF d).2=0 then (BF d).1 else (BF Jw).1
def dA:Ab:={ ins:=[T3],pre:=λ_=>True,out:=λ(t,_)=>[.p D7 [(t,[])]] }
theorem A2S:Ag Tryz.prog 142 dA:=by
 refine fK [0,2] Tryz.func142 Tryz.ntmps142 AI ?_;rintro w0 O0 ⟨t,u⟩ a - -;simp only[dA,AN];repeat'(first|exact trivial|apply eS rfl|apply AC|refine rX a ?_ ?_|refine rC ?_ ?_<;>intro b<;>try(cases b;done))
 exact fI a [.cell 2 25]
end
section
attribute [local go_sem] s7
def j8 (f:Int):List (Int×Int)->Int×Bool
 | []=>(0,false)
 | x :: l=>if x.1=f then (x.2,true) else j8 f l
def A7N (h:AG) (t:Int):List (Int×Int):=(h.1.getD t.toNat YF).2.2.2
def EW (h:AG) (t f:Int):Int×Bool:=j8 f (A7N h t)
abbrev FQ:=List Int×List Int
def HI (h:AG) (s:FQ) (n t:Int):Option FQ :=
 if (Bt h (s.1.getD n.toNat 0) t).2=true then some (if (Bt h (s.1.getD n.toNat 0) t).1=s.1.getD n.toNat 0 then s else (s.1.set n.toNat (Bt h (s.1.getD n.toNat 0) t).1,s.2++[n])) else none
end
section
attribute [local go_sem] Gv iX
end
section
attribute [local go_sem] Gv iX QZ
def j9 (l:List (Int×Int)):List (Int×Bool):=l.foldl (λm a=>Fh T3 .bool a.1 true m) []
theorem Xj {a:Ty} (x k:Int) (v:a.den) (m:List (Int×a.den)):BX T3 a x (Fh T3 a k v m)=if x=k then some v else BX T3 a x m:=by
 induction m with
 | nil=>simp[Fh,BX,Ii]
 | cons y m d =>
  simp only[Fh];by_cases hy:Ii T3 k y.1=true
  .rw[DO hy];have b:k=y.1:=by simpa[Ii] using hy
   simp only[BX,Ii,UQ];by_cases hx:x=k
   .rw[DO hx,DO hx]
   rw[BY hx,BY hx,BY (by rw[<-b];exact hx)]
  rw[BY hy];have b:¬k=y.1:=by simpa[Ii] using hy
  simp only[BX];by_cases hx:Ii T3 x y.1=true
  .have c:x=y.1:=by simpa[Ii] using hx
   rw[DO hx,DO hx,BY (by rw[c];exact λe=>b e.symm)]
  rw[BY hx,BY hx,d]
theorem yY (x:Int) (l:List (Int×Int)):(BX T3 .bool x (j9 l)).getD false=l.any λy=>y.1==x:=by
 induction l using EE with
 | h0=>rfl
 | h1 l a c =>
  have e:j9 (l++[a])=Fh T3 .bool a.1 true (j9 l):=by unfold j9;rw[AAO];rfl
  rw[e,Xj,ABk,<-c];by_cases h:x=a.1
  .rw[DO h,h];simp
  rw[BY h];have b:¬a.1=x:=λe=>h e.symm;simp[b]
def GA (x:AB) (n:Int):Int:=if x.1<0 then 2 else Gu x.2 n
def Xk:Ab:={ ins:=[He,T3],pre:=λ_=>True,out:=λ(x,n,_)=>[.p HD (GA x n)] }
attribute [local go_sem] Xk
theorem pS:Ag Tryz.prog 148 Xk:=by
 refine fK [0,1,2,4,5,7,10,13,14,15,16,32,36] Tryz.func148 Tryz.ntmps148 AI ?_;rintro w0 O0 ⟨⟨t,l⟩,n,u⟩ d ⟨⟨-,⟨hl,-⟩⟩,-⟩ -;simp only[AP]at hl;simp only[Xk,AN];repeat'(first|exact trivial|apply eS rfl|refine rX d ?_ ?_|refine rC ?_ ?_<;>intro b<;>try(cases b;done))
 .have h1:GA (t,l) n=2:=DO b;exact fI d [.tmp 4] (by rw[h1];exact eR)
 have h0:GA (t,l) n=F2 n [] l:=BY (AAB.2 b);rw[h0];refine AL (ι:={k:Nat//k<=List.length l/\F2 n [] l=F2 n ((l:List (Int×Int)).take k) ((l:List (Int×Int)).drop k)}) (λk=>⟨[(1,.p T3 n),(5,.mp 11),(13,.p DK l),(14,.p (.int .i64) (List.length l:Int)),(15,.p (.int .i64) (k.1:Int))],[(11,.mapo T3 .bool (j9 ((l:List (Int×Int)).take k.1)))]⟩) (λk=>List.length l-k.1) ⟨0,ON _,rfl⟩ (AD [(11,.nm 11)] rfl rfl ?_ ?_) (λk=>?_)
 .refine eM ?_;rfl
 .exact eN
 obtain⟨k,hk,f⟩:=k;have g:=λh:k<l.length=>Ox n l h;have j:=λh:k<l.length=>Jy (λ(m:List (Int×Bool)) (a:Int×Int)=>Fh T3 .bool a.1 true m) l (0,0) [] h;have i:=λx=>yY x (List.take k (l:List (Int×Int)));simp only;repeat'(first|exact trivial|apply eS rfl|apply AC|refine rX d ?_ ?_|refine rC ?_ ?_<;>intro b<;>try(cases b;done))
 .exact b
 .have c:k<List.length l:=by exact eV
  have e:F2 n [] l=2:=by rw[f,g c,DO oa]
  exact fI d [.tmp 4] (by rw[e];exact eR)
 .have c:k<List.length l:=by exact eV
  rw[i]at b;have e:F2 n [] l=4:=by rw[f,g c,BY oa,DO b]
  exact fI d [.tmp 4] (by rw[e];exact eR)
 .exact eV
 .have c:k<List.length l:=by exact eV
  rw[i]at b;refine⟨⟨k+1,c,by rw[f,g c,BY oa,BY (by rw[b];simp)]⟩,by simp only;omega,AD [(11,.nm 11)] rfl rfl ?_ ?_⟩
  .refine eM ?_;exact(j c).symm
  exact eN
 have hd:List.drop k (l:List (Int×Int))=[]:=SV (by exact eV);have e:F2 n [] l=0:=by rw[f,hd];rfl
 exact fI d [.tmp 4] (by rw[e];exact eR)
theorem kA {n:Int}:∀ {l seen:List (Int×Int)},F2 n seen l=0->(∀a∈l,∀b∈seen,b.1≠a.1)/\yA l
 | [],_,_=>⟨λa ha=>(by cases ha),List.Pairwise.nil⟩
 | x :: l,seen,h=>by
  simp only[F2]at h;split at h
  .cases h
  split at h
  .cases h
  rename_i h1 f;obtain⟨c,d⟩:=kA h;refine⟨λa ha b hb=>?_,Sm.2 ⟨λa ha e=>c a ha x sc e,d⟩⟩;rcases At.1 ha with rfl|ha
  .intro e;exact f (To.2 ⟨b,hb,by simp[e]⟩)
  exact c a ha b (by simp[hb])
theorem kB {m:Int}:∀ {f:List AB},GG m f=0->∀x∈f,yA x.2
 | [],_,x,hx=>by cases hx
 | y :: f,h,x,hx=>by
  simp only[GG]at h;split at h
  .cases h
  split at h
  .rename_i h1 a;exact absurd h a
  rename_i h1 a;have a:Gu y.2 m=0:=IS a;rcases At.1 hx with rfl|hx
  .exact(kA a).2
  exact kB h x hx
def Et (f:List AB):Prop:=∀x∈f,SS x.2
theorem kC {f:List AB} (h:CE f=0) (hs:Et f):NdF f:=by
 unfold CE at h;split at h
 .cases h
 split at h
 .cases h
 exact λx hx=>⟨kB h x hx,hs x hx⟩
def NI:Ab:={ ins:=[D7],pre:=λ(f,_)=>Et f,out:=λ(f,_)=>[.p D7 (BA f).1,.p HD (BA f).2] }
attribute [local go_sem] NI
theorem Zr:Ag Tryz.prog 107 NI:=by
 refine fK [0,1,2,3,5,6,10,15,18,19,20,21,30] Tryz.func107 Tryz.ntmps107 (AF pS (AF R0 AI)) ?_;rintro w0 O0 ⟨f,u⟩ c ⟨⟨n,-⟩,-⟩ hs;simp only[AP]at n;have hs:Et f:=hs;have l:Rv f:=λx hx=>SX (hs x hx).1 oa;simp only[NI,AN];repeat'(first|exact trivial|apply eS rfl|refine rX c ?_ ?_|refine rC ?_ ?_<;>intro a<;>try(cases a;done))
 .have h1:CE f=1:=by
   have h:f.length=0:=by exact eV
   unfold CE;rw[DO h]
  have e:BA f=([],1):=by unfold BA;rw[h1];rfl
  exact fI c [.cell 2 25,.tmp 3] (by rw[e];exact eR)
 .have h1:CE f=7:=by
   have h:¬f.length=0:=by exact eV
   have i:4096<f.length:=by exact eV
   unfold CE;rw[BY h,DO i]
  have e:BA f=([],7):=by unfold BA;rw[h1];rfl
  exact fI c [.cell 2 25,.tmp 3] (by rw[e];exact eR)
 have h1:CE f=GG f.length f:=by
  have h:¬f.length=0:=by exact eV
  have i:¬4096<f.length:=by exact eV
  unfold CE;rw[BY h,BY i]
 have j:0<f.length:=by exact eV
 refine AL (ι:={k:Nat//k<=f.length/\GG f.length (f.drop k)=CE f}) (λk=>⟨[(1,.bp 1 [] 0),(2,.bp 2 [] 0),(18,.p G2 f),(19,.p (.int .i64) (f.length:Int)),(20,.p (.int .i64) (k.1:Int))],[(1,.box 25 true [.p G2 f]),(2,.box 25 true [.raw (.slice none 0 0)])]⟩) (λk=>f.length-k.1) ⟨0,by simp[h1]⟩ (eW [(1,.nm 1),(2,.nm 2)]) (λk=>?_)
 obtain⟨k,hk,hf⟩:=k;simp only;repeat'(first|exact trivial|apply eS rfl|apply AC|refine rX c ?_ ?_|refine rC ?_ ?_<;>intro a<;>try(cases a;done))
 .exact a
 .have g:k<f.length:=by exact eV
  have a:¬GA (f.getD k (0,[])) f.length=0:=a;have m:CE f=GA (f.getD k (0,[])) f.length:=by
   rw[<-hf,IT _ _ g];unfold GA at a ⊢;by_cases b:(f.getD k (0,[])).1<0
   .rw[DO b,DO b]
   rw[BY b]at a;rw[BY b,BY b,DO a]
  have e:BA f=([],GA (f.getD k (0,[])) f.length):=by unfold BA;rw[m,BY a]
  exact fI c [.cell 2 25,.tmp 3] (by rw[e];exact eR)
 .exact eV
 .have g:k<f.length:=by exact eV
  have a:GA (f.getD k (0,[])) f.length=0:=by simpa using a
  refine⟨⟨k+1,g,?_⟩,by simp only;omega,AD [(1,.nm 1),(2,.nm 2)] rfl rfl ?_ ?_⟩
  .rw[<-hf,IT _ _ g];unfold GA at a;by_cases b:(f.getD k (0,[])).1<0
   .rw[DO b]at a;cases a
   rw[BY b]at a;rw[BY b,BY (by rw[a];simp)]
  .exact eN
  exact eN
 .have d:CE f=0:=by rw[<-hf,SV (by exact eV)];rfl
  exact⟨(IU d l).1,kC d hs,IN.2 j⟩
 have d:CE f=0:=by rw[<-hf,SV (by exact eV)];rfl
 have e:BA f=(AH (DS f) 0,0):=by unfold BA;rw[DO d,Td (IU d l).1 (kC d hs) (Sh 0) (IN.2 j)]
 exact fI c [.cell 2 25,.tmp 3] (by rw[e];exact eR)
end
def Qn (h:AG) (f:Int):Int:=(h.2.getD f.toNat (ByteArray.empty,0)).2
def Xl (h:AG) (n:Int):List (Int×Int)->FQ->Option FQ
 | [],s=>some s
 | a :: l,s=>(HI h s n (Qn h a.1)).bind (Xl h n l)
def YZ (h:AG) (n:Int):List (Int×Int)->FQ->Option FQ
 | [],s=>some s
 | a :: l,s=>if (EW h (s.1.getD n.toNat 0) a.1).2=true then (HI h s a.2 (EW h (s.1.getD n.toNat 0) a.1).1).bind (YZ h n l) else none
def Tl (h:AG) (f:List AB) (n:Int) (s:FQ):Option FQ:=(Xl h n (f.getD n.toNat (0,[])).2 s).bind (YZ h n (f.getD n.toNat (0,[])).2)
def wlF (h:AG) (f:List AB):Nat->Nat->FQ->Option (List Int)
 | 0,_,_=>none
 | k+1,i,s=>if i<s.2.length then (Tl h f (s.2.getD i 0) s).bind (wlF h f k (i+1)) else some s.1
def Dc (f:List AB):List Int:=f.map λx=>x.1
def Tm (f:List AB):List Int:=(List.range f.length).map λi:Nat=>(i:Int)
def Fc (f:List AB) (ty:List Int):List AB:=(List.range f.length).map λi=>(ty.getD i 0,(f.getD i (0,[])).2)
structure HFt (h:AG):Prop where
 int:∀x∈h.2,0<=x.2/\x.2<(h.1.length:Int)
 val:∀t∈h.1,∀p∈t.2.2.2,0<=p.2/\p.2<(h.1.length:Int)
structure Qo (h:AG) (m:Nat) (s:FQ):Prop where
 len:s.1.length=m
 ty:∀t∈s.1,0<=t/\t<(h.1.length:Int)
 wt:∀n∈s.2,0<=n/\n<(m:Int)
theorem Qo.get {h:AG} {m:Nat} {s:FQ} (hs:Qo h m s) {n:Int} (n0:0<=n) (n1:n<(m:Int)):0<=s.1.getD n.toNat 0/\s.1.getD n.toNat 0<(h.1.length:Int):=by
 have hl:n.toNat<s.1.length:=by rw[hs.len];omega
 rw[AS,AT hl];exact hs.ty _ (aT hl)
def yZ (h:AG) (t:Int):Nat:=((List.range h.1.length).filter λi:Nat=>A3 h t (i:Int)).length
def uC (h:AG) (ty:List Int):Nat:=(ty.map (yZ h)).sum
theorem Zs {α:Type} {p q:α->Bool}:∀ {l:List α},(∀x∈l,q x=true->p x=true)->(∃b∈l,p b=true/\q b=false)->(l.filter q).length<(l.filter p).length
 | [],_,⟨b,hb,_⟩=>by cases hb
 | x :: l,h1,⟨b,hb,e,f⟩=>by
  have g:∀ {l:List α},(∀x∈l,q x=true->p x=true)->(l.filter q).length<=(l.filter p).length:=by
   intro l hl;induction l with
   | nil=>exact No _
   | cons y l h =>
    have d:=h λz c=>hl z (GO _ c);rw[AA5,AA5];by_cases a:q y=true
    .rw[DO a,DO (hl y sc a)];simp only[IF];omega
    rw[BY a];split
    .simp only[IF];omega
    exact d
  rw[AA5,AA5];rcases At.1 hb with rfl|hb
  .rw[BY (by rw[f];simp),DO e];have:=g λz c=>h1 z (GO _ c);simp only[IF];omega
  have d:=Zs (λz c=>h1 z (GO _ c)) ⟨b,hb,e,f⟩;by_cases a:q x=true
  .rw[DO a,DO (h1 x sc a)];simp only[IF];omega
  rw[BY a];split
  .simp only[IF];omega
  exact d
theorem VB {h:AG} (hk:Hu h) {a:Int} (b:0<=a) (c:a<(h.1.length:Int)):A3 h a a=true:=(Cb hk b c b c).2 λ_ h=>h
theorem K0 {h:AG} (hk:Hu h) {a b c:Int} (d:0<=a) (e:a<(h.1.length:Int)) (f:0<=b) (b1:b<(h.1.length:Int)) (c0:0<=c) (c1:c<(h.1.length:Int)) (h1:A3 h a b=true) (g:A3 h b c=true):A3 h a c=true :=
 (Cb hk d e c0 c1).2 λi hi=>(Cb hk d e f b1).1 h1 i ((Cb hk f b1 c0 c1).1 g i hi)
theorem A5A {h:AG} (hk:Hu h) (hi:NV h) {a m:Int} (b:0<=a) (c:a<(h.1.length:Int)) (d:0<=m) (f:m<(h.1.length:Int)) (hs:A3 h a m=true) (g:m≠a):yZ h m<yZ h a:=by
 refine Zs (λx hx e=>?_) ⟨a.toNat,UJ.2 oa,?_,?_⟩
 .have hx:=UJ.1 hx;exact K0 hk b c d f (AAr _) oa hs e
 .rw[AAG b];exact VB hk b c
 rw[AAG b];cases e:A3 h m a with
 | false=>rfl
 | true=>exact absurd (hi m a d f b c e hs) g
theorem uD {α:Type} (g:α->Nat) (d:α):∀ {l:List α} {i:Nat} {v:α},i<l.length->((l.set i v).map g).sum+g (l.getD i d)=(l.map g).sum+g v
 | [],i,v,h=>by simp at h
 | x :: l,0,v,h=>by simp only[ABt,Sj,List.sum_cons,List.getD_cons_zero];omega
 | x :: l,i+1,v,h=>by
  have:=uD g d (l:=l) (i:=i) (v:=v) (by simpa using h);simp only[ABQ,Sj,List.sum_cons,List.getD_cons_succ];omega
theorem GZ {h:AG} (hk:Hu h) (hi:NV h) {m:Nat} {s a:FQ} (hs:Qo h m s) {n t:Int} (n0:0<=n) (n1:n<(m:Int)) (k:0<=t) (l:t<(h.1.length:Int)) (e:HI h s n t=some a) :
  Qo h m a/\uC h a.1+a.2.length<=uC h s.1+s.2.length/\s.2.length<=a.2.length:=by
 obtain⟨b,c⟩:=hs.get n0 n1;unfold HI at e;split at e
 .rename_i g;obtain⟨d,f,j,q⟩:=(MN hk b c k l).1 g;generalize (Bt h (s.1.getD n.toNat 0) t).1=v at *;injection e with e
  split at e
  .subst e;exact⟨hs,No _,No _⟩
  rename_i i;subst e;have p:=A5A hk hi b c d f j i;have hl:n.toNat<s.1.length:=by rw[hs.len];omega
  have o:=uD (yZ h) 0 (v:=v) hl;refine⟨⟨by simp only[oS];exact hs.len,λx hx=>?_,λx hx=>?_⟩,?_,by simp⟩
  .rcases AAI hx with hx|rfl
   .exact hs.ty x hx
   exact⟨d,f⟩
  .rcases Do.1 hx with hx|hx
   .exact hs.wt x hx
   rw[SQ.1 hx];exact⟨n0,n1⟩
  unfold uC;simp only[As,If];omega
 cases e
def Md (h:AG) (m:Nat) (a:Int×Int):Prop:=(0<=a.1/\a.1<(h.2.length:Int))/\0<=a.2/\a.2<(m:Int)
theorem Qp {h:AG} (hf:HFt h) {f:Int} (a:0<=f) (b:f<(h.2.length:Int)):0<=Qn h f/\Qn h f<(h.1.length:Int):=by
 have hl:f.toNat<h.2.length:=by omega
 unfold Qn;rw[AS,AT hl];exact hf.int _ (aT hl)
theorem Zt {f:Int}:∀ {l:List (Int×Int)},(j8 f l).2=true->(f,(j8 f l).1)∈l
 | [],h=>by cases h
 | x :: l,h=>by
  unfold j8 at h ⊢;split
  .rename_i e;rw[<-e];simp
  rename_i e;rw[BY e]at h;exact GO _ (Zt h)
theorem y3 {h:AG} {t:Int} (a:0<=t) (b:t<(h.1.length:Int)):h.1.getD t.toNat YF∈h.1:=AE h.1 YF oa
theorem Me {h:AG} (hf:HFt h) {t f:Int} (a:0<=t) (b:t<(h.1.length:Int)) (e:(EW h t f).2=true):0<=(EW h t f).1/\(EW h t f).1<(h.1.length:Int) :=
 hf.val _ (y3 a b) _ (Zt e)
theorem Qq {h:AG} (hk:Hu h) (hi:NV h) (hf:HFt h) {m:Nat} {n:Int} (n0:0<=n) (n1:n<(m:Int)):∀ {l:List (Int×Int)} {s c:FQ},(∀a∈l,Md h m a)->Qo h m s->Xl h n l s=some c ->
  Qo h m c/\uC h c.1+c.2.length<=uC h s.1+s.2.length/\s.2.length<=c.2.length
 | [],s,c,_,hs,e=>by
  injection e with e
  subst e;exact⟨hs,No _,No _⟩
 | a :: l,s,c,hl,hs,e=>by
  unfold Xl at e;cases e1:HI h s n (Qn h a.1) with
  | none=>rw[e1]at e;cases e
  | some s1 =>
   rw[e1]at e;obtain⟨⟨d,f⟩,-⟩:=hl a sc;obtain⟨i,j⟩:=Qp hf d f;obtain⟨g,o,p⟩:=GZ hk hi hs n0 n1 i j e1;obtain⟨k,q,r⟩:=Qq hk hi hf n0 n1 (λb hb=>hl b (by simp[hb])) g e;exact⟨k,by omega,by omega⟩
theorem VC {h:AG} (hk:Hu h) (hi:NV h) (hf:HFt h) {m:Nat} {n:Int} (n0:0<=n) (n1:n<(m:Int)):∀ {l:List (Int×Int)} {s c:FQ},(∀a∈l,Md h m a)->Qo h m s->YZ h n l s=some c ->
  Qo h m c/\uC h c.1+c.2.length<=uC h s.1+s.2.length/\s.2.length<=c.2.length
 | [],s,c,_,hs,e=>by
  injection e with e
  subst e;exact⟨hs,No _,No _⟩
 | a :: l,s,c,hl,hs,e=>by
  unfold YZ at e;split at e
  .rename_i i;obtain⟨g,d⟩:=hs.get n0 n1;obtain⟨j,k⟩:=Me hf g d i;cases e1:HI h s a.2 (EW h (s.1.getD n.toNat 0) a.1).1 with
   | none=>rw[e1]at e;cases e
   | some s1 =>
    rw[e1]at e;obtain⟨-,f,b1⟩:=hl a sc;obtain⟨d,p,q⟩:=GZ hk hi hs f b1 j k e1;obtain⟨o,r,t⟩:=VC hk hi hf n0 n1 (λb hb=>hl b (by simp[hb])) d e;exact⟨o,by omega,by omega⟩
  cases e
def Xm (h:AG) (f:List AB):Prop:=∀x∈f,∀a∈x.2,Md h f.length a
theorem Qr {h:AG} {f:List AB} (ha:Xm h f) {n:Int} (n0:0<=n) (n1:n<(f.length:Int)):∀a∈(f.getD n.toNat (0,[])).2,Md h f.length a:=ha _ (AE f (0,[]) oa)
theorem kD {h:AG} (hk:Hu h) (hi:NV h) (hf:HFt h) {f:List AB} (ha:Xm h f) {n:Int} (n0:0<=n) (n1:n<(f.length:Int)) {s a:FQ} (hs:Qo h f.length s) (e:Tl h f n s=some a) :
  Qo h f.length a/\uC h a.1+a.2.length<=uC h s.1+s.2.length/\s.2.length<=a.2.length:=by
 unfold Tl at e;cases e1:Xl h n (f.getD n.toNat (0,[])).2 s with
 | none=>rw[e1]at e;cases e
 | some s1 =>
  rw[e1]at e;obtain⟨b,d,g⟩:=Qq hk hi hf n0 n1 (Qr ha n0 n1) hs e1;obtain⟨c,i,j⟩:=VC hk hi hf n0 n1 (Qr ha n0 n1) b e;exact⟨c,by omega,by omega⟩
theorem A5B (h:AG) (t:Int):yZ h t<=h.1.length:=by
 unfold yZ;exact SX (AAb _ _) sc
theorem A2T (h:AG):∀ty:List Int,uC h ty<=ty.length*h.1.length
 | []=>by simp[uC]
 | t :: ty=>by
  have h1:=A2T h ty;have a:=A5B h t;unfold uC at h1 ⊢;simp only[Sj,List.sum_cons,IF,ABz,Nat.one_mul];omega
def Zu (h:AG) (f:List AB):Nat:=f.length*h.1.length+f.length+1
def Jc (h:AG) (f:List AB):Option (List Int):=wlF h f (Zu h f) 0 (Dc f,Tm f)
def SD (h:AG) (f:List AB):List AB×Bool:=match Jc h f with
 | some ty=>(Fc f ty,true)
 | none=>([],false)
theorem A6y {h:AG} {f:List AB} (ht:∀x∈f,0<=x.1/\x.1<(h.1.length:Int)):Qo h f.length (Dc f,Tm f):=by
 refine⟨by simp[Dc],λt h1=>?_,λn hn=>?_⟩
 .obtain⟨x,hx,rfl⟩:=Y1.1 h1;exact ht x hx
 obtain⟨i,hi,rfl⟩:=Y1.1 hn;have:=UJ.1 hi;omega
theorem A7O (h:AG) (f:List AB):uC h (Dc f)+(Tm f).length+1<=Zu h f:=by
 have:=A2T h (Dc f);unfold Zu;rw[show (Dc f).length=f.length by simp[Dc]]at this;rw[show (Tm f).length=f.length by simp[Tm]];omega
section
attribute [local go_sem] NI W9
end
section
attribute [local go_sem] W9
def SE (h:AG) (f:List AB) (t:Int):List (Int×Int)->Int
 | []=>0
 | a :: l=>if (EW h t a.1).2=false then 10 else if A3 h (EW h t a.1).1 (f.getD a.2.toNat (0,[])).1=false then 11 else SE h f t l
def Mf (h:AG) (f:List AB):List AB->Int
 | []=>0
 | x :: l=>if SE h f x.1 x.2=0 then Mf h f l else SE h f x.1 x.2
def dB (h:AG) (f:List AB):Int:=if Hh h f=0 then Mf h f f else Hh h f
end
section
attribute [local go_sem] Kz QF
theorem A2U {h:AG} (hk:Hu h) {a b:Int} (c:0<=a) (d:a<(h.1.length:Int)) (e:0<=b) (b1:b<(h.1.length:Int)):Eo (Bn h b) (Bn h a)=A3 h a b:=by
 have f:=hk.1.wds _ (Cp c d);have g:=hk.1.wds _ (Cp e b1);rw[ABl,Ww g f];exact(Cb hk c d e b1).symm
def dC:Ab:={ ins:=[Ey,T3,T3],pre:=λ(h,a,b,_)=>(((0:Int)<=a/\a<(List.length (h:AG).1:Int))/\((0:Int)<=b/\b<(List.length (h:AG).1:Int)))/\Hu h,out:=λ(h,a,b,_)=>[.p .bool (A3 h a b)],lend:=true }
attribute [local go_sem] dC
theorem A2V:Ag Tryz.prog 104 dC:=by
 refine fK [0,1,2,3,6] Tryz.func104 Tryz.ntmps104 (AF Rf AI) ?_;rintro w0 O0 ⟨⟨ht,hf⟩,a,b,u⟩ c-⟨⟨ha,hb⟩,hk⟩;have hk:Hu (ht,hf):=hk;have d:=A2U hk ha.1 ha.2 hb.1 hb.2;have e:(Bn (ht,hf) b).length<=100000:=SX (hk.1.wid _ (Cp hb.1 hb.2)) oa;simp only[dC,AN];repeat'(first|exact trivial|apply eS rfl|refine rX c ?_ ?_)
 .exact⟨hb,ha,e⟩
 exact fI c [.tmp 6] (by rw[<-d];unfold Bn;exact eR)
end
section
open Go
end
theorem EH (f:List AB) (ty:List Int):(Fc f ty).length=f.length:=by simp[Fc]
theorem J9 (f:List AB) (ty:List Int) {i:Nat} (h:i<f.length):(Fc f ty).getD i (0,[])=(ty.getD i 0,(f.getD i (0,[])).2):=by
 unfold Fc;simp[AS,h]
section
open Go
end
structure MI (m:List (Int×Bool)) (l:List Bool):Prop where
 nd:(m.map (·.1)).Nodup
 get:∀k:Int,BX T3 .bool k m=if 0<=k/\l.getD k.toNat false=true then some true else none
theorem uE (k:Int) (v:Bool):∀ {m:List (Int×Bool)},(m.map (·.1)).Nodup->((Fh T3 .bool k v m).map (·.1)).Nodup/\∀x,x∈(Fh T3 .bool k v m).map (·.1)->x=k\/x∈m.map (·.1)
 | [],_=>by simp[Fh]
 | y :: m,h=>by
  rw[Sj,UN]at h;unfold Fh;split
  .rename_i e;have e:k=y.1:=by simpa[Ii] using e
   refine⟨?_,λx hx=>?_⟩
   .rw[Sj,UN,e];exact h
   rcases At.1 hx with hx|hx
   .exact .inl hx
   exact .inr (GO _ hx)
  rename_i e;have e:¬k=y.1:=by simpa[Ii] using e
  obtain⟨b,a⟩:=uE k v h.2;refine⟨?_,λx hx=>?_⟩
  .rw[Sj,UN];refine⟨λc=>?_,b⟩;rcases a _ c with hx|hx
   .exact e hx.symm
   exact h.1 hx
  rcases At.1 hx with hx|hx
  .exact .inr (by rw[hx];simp)
  exact(a x hx).imp id λg=>GO _ g
theorem kE (k:Int):∀m:List (Int×Bool),(mX T3 .bool k m).Sublist m
 | []=>List.Sublist.refl _
 | y :: m=>by
  unfold mX;split
  .exact List.sublist_cons_self _ _
  exact(kE k m).cons_cons _
theorem Zv {x:Int}:∀ {m:List (Int×Bool)},x∉m.map (·.1)->BX T3 .bool x m=none
 | [],_=>rfl
 | y :: m,h=>by
  unfold BX;rw[BY (by
   intro e;have e:x=y.1:=by simpa[Ii] using e
   exact h (by rw[e];simp))]
  exact Zv λa=>h (GO _ a)
theorem Zw (x k:Int):∀ {m:List (Int×Bool)},(m.map (·.1)).Nodup->BX T3 .bool x (mX T3 .bool k m)=if x=k then none else BX T3 .bool x m
 | [],_=>by simp[mX,BX]
 | y :: m,h=>by
  rw[Sj,UN]at h;unfold mX;split
  .rename_i e;have e:k=y.1:=by simpa[Ii] using e
   by_cases hx:x=k
   .rw[DO hx,hx,e];exact Zv h.1
   rw[BY hx];have b:¬x=y.1:=by rw[<-e];exact hx
   simp[BX,Ii,b]
  rename_i e;have e:¬k=y.1:=by simpa[Ii] using e
  have d:=Zw x k h.2;by_cases a:x=y.1
  .have c:¬x=k:=by rw[a];exact λg=>e g.symm
   rw[BY c];simp[BX,Ii,a]
  have hn:¬Ii T3 x y.1=true:=by simpa[Ii] using a
  simp only[BX];rw[BY hn,BY hn,d]
theorem MI.zero:MI [] (List.replicate 0 true):=⟨List.nodup_nil,λk=>by simp[BX]⟩
theorem MI.put {m:List (Int×Bool)} {i:Nat} (h:MI m (List.replicate i true)):MI (Fh T3 .bool (i:Int) true m) (List.replicate (i+1) true):=by
 refine⟨(uE _ _ h.nd).1,λ(k:Int)=>?_⟩;rw[Xj,h.get];by_cases hk:k=(i:Int)
 .rw[DO hk,DO];subst hk;refine⟨AAr _,?_⟩;simp[AS,AAN]
 rw[BY hk];have e:(0<=k/\(List.replicate i true).getD k.toNat false=true)↔(0<=k/\(List.replicate (i+1) true).getD k.toNat false=true):=by
  simp only[AS,AAN];constructor
  .rintro⟨a,b⟩;refine⟨a,?_⟩;split at b
   .rw[DO oa];rfl
   simp at b
  rintro⟨a,b⟩;refine⟨a,?_⟩;split at b
  .rw[DO oa];rfl
  simp at b
 by_cases c:0<=k/\(List.replicate i true).getD k.toNat false=true
 .rw[DO c,DO (e.1 c)]
 rw[BY c,BY λg=>c (e.2 g)]
theorem MI.del {m:List (Int×Bool)} {l:List Bool} (h:MI m l) (i:Nat):MI (mX T3 .bool (i:Int) m) (l.set i false):=by
 refine⟨h.nd.sublist ((kE _ m).map _),λ(k:Int)=>?_⟩;rw[Zw _ _ h.nd,h.get];by_cases hk:k=(i:Int)
 .subst hk;rw[DO rfl,BY];rintro⟨-,b⟩;rw[Sc]at b;simp only[AS,AAh]at b;rw[DO trivial]at b;split at b<;>simp at b
 rw[BY hk];by_cases a:0<=k
 .have c:¬i=k.toNat:=by omega
  simp only[AS,AAh];rw[BY c]
 rw[BY λg=>a g.1,BY λg=>a g.1]
theorem NJ {x:Int}:∀ {m:List (Int×Bool)},x∈m.map (·.1)->BX T3 .bool x m≠none
 | y :: m,h=>by
  unfold BX;split
  .simp
  rename_i e;rcases At.1 h with h|h
  .exact absurd (by simp[Ii,h]) e
  exact NJ h
theorem MI.len {m:List (Int×Bool)} {l:List Bool} (h:MI m l):m.length<=l.length:=by
 have h1:((m.map (·.1)).map Int.toNat).Nodup:=by
  rw[List.Nodup,iF];refine h.nd.imp_of_mem λ{a b:Int} ha hb f e=>f ?_;have h1:=NJ ha;have c:=NJ hb;rw[h.get]at h1 c;have i:0<=a:=IS λg=>h1 (BY λq=>g q.1);have k:0<=b:=IS λg=>c (BY λq=>g q.1);omega
 have:=DY l.length _ h1 (λj d=>by
  obtain⟨x,hx,rfl⟩:=Y1.1 d;have h1:=NJ hx;rw[h.get]at h1;refine IS λhn=>h1 (BY λg=>?_);have:=g.2;rw[AS,Si oa]at this;cases this)
 simpa using this
section
open Go
end
def y4 (N:List AB) (i:Nat) (v:Int×Int):List AB:=N.set i ((N.getD i (0,[])).1,(N.getD i (0,[])).2++[(v.1,(N.length:Int))])++[(v.2,[])]
theorem A2W (N:List AB) (i:Nat) (v:Int×Int):(y4 N i v).length=N.length+1:=by simp[y4]
structure TI2 (h:AG) (m i k:Nat) (N:List AB):Prop where
 len:N.length<=m
 ty:∀x∈N,0<=x.1/\x.1<(h.1.length:Int)
 lo:∀j,j<i->(N.getD j (0,[])).2.length<=200
 at':(N.getD i (0,[])).2.length<=100+k
 hi:∀j,i<j->(N.getD j (0,[])).2.length<=100
theorem A2X {α:Type} (l:List α) (x d:α) (j:Nat):(l++[x]).getD j d=if j<l.length then l.getD j d else if j=l.length then x else d:=by
 simp only[AS];by_cases h:j<l.length
 .rw[DO h,Se h]
 rw[BY h,Sf oa];by_cases e:j=l.length
 .rw[DO e,e,AAJ];rfl
 rw[BY e,Si (by simp only[If];omega)];rfl
theorem NK {α:Type} (l:List α) (x d:α) {i:Nat} (h:i<l.length) (j:Nat):(l.set i x).getD j d=if j=i then x else l.getD j d:=by
 simp only[AS,AAh];by_cases e:i=j
 .rw[DO e,DO h,DO e.symm];rfl
 rw[BY e,BY (show ¬j=i by omega)]
theorem A2Y {N:List AB} {i:Nat} (h:i<N.length) (v:Int×Int) (j:Nat):(y4 N i v).getD j (0,[])=if j=i then ((N.getD i (0,[])).1,(N.getD i (0,[])).2++[(v.1,(N.length:Int))]) else if j=N.length then (v.2,[]) else N.getD j (0,[]):=by
 unfold y4;rw[A2X,NK _ _ _ h,oS];by_cases e1:j=i
 .rw[DO e1,DO oa,DO e1]
 rw[BY e1,BY e1];by_cases e2:j<N.length
 .rw[DO e2,BY oa]
 rw[BY e2];by_cases a:j=N.length
 .rw[DO a,DO a]
 rw[BY a,BY a,AS,Si oa];rfl
theorem TI2.add {h:AG} {m i k:Nat} {N:List AB} (a:TI2 h m i k N) (hi:i<N.length) (d:4096<=m) (hl:N.length<4096) {v:Int×Int} (v0:0<=v.2) (v1:v.2<(h.1.length:Int)):TI2 h m i (k+1) (y4 N i v):=by
 have b:=λj=>A2Y hi v j;refine⟨by rw[A2W];omega,λx hx=>?_,λj c=>?_,?_,λj c=>?_⟩
 .unfold y4 at hx;rcases Do.1 hx with hx|hx
  .rcases AAI hx with hx|rfl
   .exact a.ty x hx
   exact(a.ty (N.getD i (0,[])) (AE N (0,[]) hi) :)
  rw[SQ.1 hx];exact⟨v0,v1⟩
 .rw[b,BY oa,BY oa];exact a.lo j c
 .rw[b,DO rfl];have:=a.at';simp only[As,If];omega
 rw[b,BY oa];split
 .simp
 exact a.hi j c
theorem TI2.skip {h:AG} {m i k:Nat} {N:List AB} (a:TI2 h m i k N):TI2 h m i (k+1) N:=⟨a.len,a.ty,a.lo,by have:=a.at';omega,a.hi⟩
theorem TI2.next {h:AG} {m i k:Nat} {N:List AB} (a:TI2 h m i k N) (hk:k<=100):TI2 h m (i+1) 0 N:=⟨a.len,a.ty,λj b=>by
 by_cases e:j=i
 .have:=a.at';rw[e];omega
 exact a.lo j oa,a.hi (i+1) oa,λj b=>a.hi j oa⟩
section
attribute [local go_sem] Jx MK Rq Kz
end
section
open Go
end
section
open Go
end
structure CI (n:Nat) (o:List Int) (ar:List (List (Int×Int))) (W:List (Int×Int)):Prop where
 lo:o.length=n
 la:ar.length=n
 rep:∀k:Nat,k<n->0<=o.getD k 0/\o.getD k 0<=(k:Int)/\o.getD (o.getD k 0).toNat 0=o.getD k 0
 wr:∀w∈W,(0<=w.1/\w.1<(n:Int))/\(0<=w.2/\w.2<(n:Int))
 ta:∀k,∀a∈ar.getD k [],0<=a.2/\a.2<(n:Int)
theorem CI.rng {n:Nat} {o:List Int} {ar:List (List (Int×Int))} {W:List (Int×Int)} (h:CI n o ar W) {x:Int} (c:0<=x) (d:x<(n:Int)):0<=o.getD x.toNat 0/\o.getD x.toNat 0<(n:Int)/\o.getD (o.getD x.toNat 0).toNat 0=o.getD x.toNat 0:=by
 obtain⟨h1,b,a⟩:=h.rep x.toNat oa;exact⟨h1,by omega,a⟩
section
variable {n:Nat} {o:List Int} {ar:List (List (Int×Int))} {W:List (Int×Int)} {x y:Int}
end
section
attribute [local go_sem] WV A1D
def A6z (b:List Int):List HQ->Nat->Int×Bool
 | [],_=>(0,false)
 | t :: r,k=>if t.2.1=b then ((k:Int),true) else A6z b r (k+1)
def A2Z (h:AG) (a b:Int):Int×Bool:=A6z (GS (Bn h a) (Bn h b)) h.1 0
end
section
def A9d (h:AG) (l:List AB) (c:List Int):Nat->Option (List Int)
 | 0=>some (List.replicate l.length 0)
 | i+1=>match A9d h l c i with
  | none=>none
  | some o=>if (A2Z h (o.getD (c.getD i 0).toNat 0) (l.getD i (0,[])).1).2=true then some (o.set (c.getD i 0).toNat (A2Z h (o.getD (c.getD i 0).toNat 0) (l.getD i (0,[])).1).1) else none
def A30 (h:AG) (l:List AB) (c:List Int):List Int×Bool:=match A9d h l c l.length with
 | none=>([],false)
 | some o=>((List.range l.length).map λ(k:Nat)=>o.getD (c.getD k 0).toNat 0,true)
def A9N (n:Nat) (c:List Int):Prop:=c.length=n/\∀k:Nat,k<n->0<=c.getD k 0/\c.getD k 0<=(k:Int)/\c.getD (c.getD k 0).toNat 0=c.getD k 0
def A31:Ab:={ ins:=[Ey,G2,G0],pre:=λ(h,l,c,_)=>A9N (List.length l) c/\Cj h l/\0<List.length (h:AG).1/\List.length l<=100000/\(∀x∈(h:AG).1,x.2.1.length<=100000),out:=λ(h,l,c,_)=>[.p G0 (A30 h l c).1,.p .bool (A30 h l c).2] }
attribute [local go_sem] A31
end
section
attribute [local go_sem] ZY
attribute [local go_sem] A6i A9B ne_eq not_false_eq_true
end
inductive EQ (n:Nat) (o:List Int) (W:List (Int×Int)):Int->Int->Prop
 | cls {x y:Int} (x0:0<=x) (x1:x<(n:Int)) (y0:0<=y) (y1:y<(n:Int)) (h:o.getD x.toNat 0=o.getD y.toNat 0):EQ n o W x y
 | wt {x y:Int} (h:(x,y)∈W):EQ n o W x y
 | symm {x y:Int} (h:EQ n o W x y):EQ n o W y x
 | trans {x y z:Int} (h:EQ n o W x y) (g:EQ n o W y z):EQ n o W x z
theorem EQ.mono {n:Nat} {o b:List Int} {W a:List (Int×Int)} (h1:∀x y,0<=x->x<(n:Int)->0<=y->y<(n:Int)->o.getD x.toNat 0=o.getD y.toNat 0->EQ n b a x y) (c:∀x y,(x,y)∈W->EQ n b a x y) {x y:Int} (h:EQ n o W x y):EQ n b a x y:=by
 induction h with
 | cls g i j k h=>exact h1 _ _ g i j k h
 | wt h=>exact c _ _ h
 | symm _ d=>exact .symm d
 | trans _ _ e f=>exact .trans e f
theorem EQ.nil {n:Nat} {o:List Int} {x y:Int} (h:EQ n o [] x y):o.getD x.toNat 0=o.getD y.toNat 0:=by
 induction h with
 | cls _ _ _ _ h=>exact h
 | wt h=>cases h
 | symm _ a=>exact a.symm
 | trans _ _ b c=>exact b.trans c
section
variable {h:AG} {N:List AB} {P:List (Int×Int)} {o:List Int} {ar:List (List (Int×Int))} {W:List (Int×Int)} {w:Int×Int}
end
def A7P (h:AG):Prop:=∀t∈h.1,Nrm t.2.1
section
variable {h:AG} {N:List AB} {c:List Int}
end
section
variable {d:List AJ}
end
structure HAp (h:AG):Prop where
 iff:∀t f,0<=t->t<(h.1.length:Int)->0<=f->f<(h.2.length:Int)->((EW h t f).2=true↔A3 h (Qn h f) t=true)
 mono:∀t t' f,0<=t->t<(h.1.length:Int)->0<=t'->t'<(h.1.length:Int)->0<=f->f<(h.2.length:Int)->A3 h t t'=true->(EW h t f).2=true->A3 h (EW h t f).1 (EW h t' f).1=true
def VD (h:AG) (m:Nat) (u:List Int):Prop:=u.length=m/\∀t∈u,0<=t/\t<(h.1.length:Int)
theorem VD.get {h:AG} {m:Nat} {u:List Int} (hu:VD h m u) {n:Nat} (n1:n<m):0<=u.getD n 0/\u.getD n 0<(h.1.length:Int):=by
 have hl:n<u.length:=by rw[hu.1];exact n1
 rw[AS,AT hl];exact hu.2 _ (aT hl)
theorem Qo.tyl {h:AG} {m:Nat} {s:FQ} (hs:Qo h m s):VD h m s.1:=⟨hs.len,hs.ty⟩
def Q4 (h:AG) (m:Nat) (u v:List Int):Prop:=∀i,i<m->A3 h (u.getD i 0) (v.getD i 0)=true
def pU (h:AG) (u:List Int) (n:Int) (l:List (Int×Int)):Prop:=∀a∈l,(EW h (u.getD n.toNat 0) a.1).2=true/\A3 h (EW h (u.getD n.toNat 0) a.1).1 (u.getD a.2.toNat 0)=true
def WTy (h:AG) (f:List AB) (u:List Int):Prop:=∀i,i<f.length->pU h u (i:Int) (f.getD i (0,[])).2
theorem Q4.refl {h:AG} (hk:Hu h) {m:Nat} {u:List Int} (hu:VD h m u):Q4 h m u u:=λi hi=>VB hk (hu.get hi).1 (hu.get hi).2
theorem Q4.trans {h:AG} (hk:Hu h) {m:Nat} {u v w:List Int} (hu:VD h m u) (a:VD h m v) (b:VD h m w) (h1:Q4 h m u v) (c:Q4 h m v w):Q4 h m u w:=λi hi =>
 K0 hk (hu.get hi).1 (hu.get hi).2 (a.get hi).1 (a.get hi).2 (b.get hi).1 (b.get hi).2 (h1 i hi) (c i hi)
theorem Q4.anti {h:AG} (hi:NV h) {m:Nat} {u v:List Int} (hu:VD h m u) (b:VD h m v) (h1:Q4 h m u v) (d:Q4 h m v u):u=v:=by
 refine AA6 (by rw[hu.1,b.1]) λi c e=>?_;have a:i<m:=by rw[<-hu.1];exact c
 have:=hi _ _ (hu.get a).1 (hu.get a).2 (b.get a).1 (b.get a).2 (h1 i a) (d i a)
 rwa [AS,AT c,AS,AT e]at this
structure uF (h:AG) (m:Nat) (s s':FQ):Prop where
 up:Q4 h m s.1 s'.1
 pre:s.2 <+: s'.2
 ch:∀k:Nat,k<m->s'.1.getD k 0=s.1.getD k 0\/(k:Int)∈s'.2.drop s.2.length
theorem uF.refl {h:AG} (hk:Hu h) {m:Nat} {s:FQ} (hs:Qo h m s):uF h m s s:=⟨Q4.refl hk hs.tyl,AAn _,λ_ _=>.inl rfl⟩
theorem SF {l l':List Int} (a:l <+: l') {n:Nat} {x:Int} (h:x∈l.drop n):x∈l'.drop n:=by
 obtain⟨r,rfl⟩:=a;rw[AC7];exact UM _ h
theorem Qs {l:List Int} {a b:Nat} (c:a<=b) {x:Int} (h:x∈l.drop b):x∈l.drop a:=by
 have:l.drop b=(l.drop a).drop (b-a):=by rw[ABp];congr 1;omega
 rw[this]at h;exact AAA h
theorem uF.trans {h:AG} (hk:Hu h) {m:Nat} {a b c:FQ} (ha:Qo h m a) (hb:Qo h m b) (f:Qo h m c) (h1:uF h m a b) (d:uF h m b c):uF h m a c:=by
 refine⟨h1.up.trans hk ha.tyl hb.tyl f.tyl d.up,h1.pre.trans d.pre,λk e=>?_⟩;rcases d.ch k e with e2|e2
 .rcases h1.ch k e with e1|e1
  .exact .inl (e2.trans e1)
  exact .inr (SF d.pre e1)
 exact .inr (Qs h1.pre.length_le e2)
theorem SG {h:AG} (hk:Hu h) (hi:NV h) {m:Nat} {s c:FQ} (hs:Qo h m s) {n t:Int} (n0:0<=n) (n1:n<(m:Int)) (f:0<=t) (g:t<(h.1.length:Int)) (e:HI h s n t=some c) :
  uF h m s c/\A3 h t (c.1.getD n.toNat 0)=true:=by
 have q:=(GZ hk hi hs n0 n1 f g e).1;obtain⟨i,j⟩:=hs.get n0 n1;unfold HI at e;split at e
 .rename_i l;obtain⟨r,u,p,d⟩:=(MN hk i j f g).1 l;generalize (Bt h (s.1.getD n.toNat 0) t).1=v at *;injection e with e
  split at e
  .rename_i o;subst e;exact⟨uF.refl hk hs,by rw[<-o];exact d⟩
  subst e;have hl:n.toNat<s.1.length:=by rw[hs.len];omega
  have a:∀k:Nat,(s.1.set n.toNat v).getD k 0=if k=n.toNat then v else s.1.getD k 0:=λk=>NK _ _ _ hl k
  refine⟨⟨λk b=>?_,ABR _ _,λk b=>?_⟩,?_⟩
  .simp only;rw[a];split
   .rename_i e;rw[e];exact p
   exact VB hk (hs.tyl.get b).1 (hs.tyl.get b).2
  .simp only;rw[a];split
   .rename_i e;right;rw[AC7,AAJ,oR];exact AAu _ (by simp;omega)
   exact .inl rfl
  simp only;rw[a,DO rfl];exact d
 cases e
theorem Zx {h:AG} (hk:Hu h) (hi:NV h) {m:Nat} {s:FQ} (hs:Qo h m s) {n t:Int} (n0:0<=n) (n1:n<(m:Int)) (l:0<=t) (o:t<(h.1.length:Int)) {u:List Int} (hu:VD h m u) (a:Q4 h m s.1 u) (ht:A3 h t (u.getD n.toNat 0)=true) :
  ∃c,HI h s n t=some c/\Q4 h m c.1 u:=by
 obtain⟨d,f⟩:=hs.get n0 n1;have b:n.toNat<m:=by omega
 obtain⟨p,q⟩:=hu.get b;obtain⟨i,j⟩:=(MN hk d f l o).2 _ p q (a _ b) ht;unfold HI;rw[DO i];refine⟨_,rfl,?_⟩;split
 .exact a
 intro k g;have hl:n.toNat<s.1.length:=by rw[hs.len];omega
 simp only;rw[NK _ _ _ hl k];split
 .rename_i e;rw[e];exact j
 exact a k g
section
variable {h:AG} (hk:Hu h) (hi:NV h) (hf:HFt h) (hap:HAp h) {m:Nat} {n:Int} (n0:0<=n) (n1:n<(m:Int))
include hk hi hf n0 n1
theorem dF:∀ {l:List (Int×Int)} {s c:FQ},(∀a∈l,Md h m a)->Qo h m s->Xl h n l s=some c->uF h m s c/\∀a∈l,A3 h (Qn h a.1) (c.1.getD n.toNat 0)=true
 | [],s,c,_,hs,e=>by
  injection e with e
  subst e;exact⟨uF.refl hk hs,λa ha=>by cases ha⟩
 | a :: l,s,c,hl,hs,e=>by
  unfold Xl at e;cases e1:HI h s n (Qn h a.1) with
  | none=>rw[e1]at e;cases e
  | some s1 =>
   rw[e1]at e;obtain⟨⟨o,p⟩,-⟩:=hl a sc;obtain⟨g,i⟩:=Qp hf o p;obtain⟨d,-,-⟩:=GZ hk hi hs n0 n1 g i e1;obtain⟨r,t⟩:=SG hk hi hs n0 n1 g i e1;have j:∀b∈l,Md h m b:=λb hb=>hl b (GO _ hb);have e:Xl h n l s1=some c:=e;obtain⟨k,q⟩:=dF j d e;have f:=(Qq hk hi hf n0 n1 j d e).1;refine⟨r.trans hk hs d f k,λb hb=>?_⟩;rcases At.1 hb with rfl|hb
   .exact K0 hk g i (d.get n0 n1).1 (d.get n0 n1).2 (f.get n0 n1).1 (f.get n0 n1).2 t (k.up _ oa)
   exact q b hb
theorem uG:∀ {l:List (Int×Int)} {s c:FQ},(∀a∈l,Md h m a)->Qo h m s->YZ h n l s=some c->uF h m s c/\(n∈c.2.drop s.2.length\/(c.1.getD n.toNat 0=s.1.getD n.toNat 0/\∀a∈l,(EW h (s.1.getD n.toNat 0) a.1).2=true/\A3 h (EW h (s.1.getD n.toNat 0) a.1).1 (c.1.getD a.2.toNat 0)=true))
 | [],s,c,_,hs,e=>by
  injection e with e
  subst e;exact⟨uF.refl hk hs,.inr ⟨rfl,λa ha=>by cases ha⟩⟩
 | a :: l,s,c,hl,hs,e=>by
  unfold YZ at e;split at e
  .rename_i r;obtain⟨t,u⟩:=hs.get n0 n1;obtain⟨j,k⟩:=Me hf t u r;cases e1:HI h s a.2 (EW h (s.1.getD n.toNat 0) a.1).1 with
   | none=>rw[e1]at e;cases e
   | some s1 =>
    rw[e1]at e;obtain⟨-,d,b1⟩:=hl a sc;obtain⟨f,-,-⟩:=GZ hk hi hs d b1 j k e1;obtain⟨p,x⟩:=SG hk hi hs d b1 j k e1;have q:∀b∈l,Md h m b:=λb hb=>hl b (GO _ hb);have e:YZ h n l s1=some c:=e;obtain⟨o,g⟩:=uG q f e;have i:=(VC hk hi hf n0 n1 q f e).1;refine⟨p.trans hk hs f i o,?_⟩;have v:((n.toNat:Nat):Int)=n:=AAG n0;rcases p.ch n.toNat oa with c1|c1
    .rcases g with g|⟨g,w⟩
     .exact .inl (Qs p.pre.length_le g)
     refine .inr ⟨g.trans c1,λb hb=>?_⟩;rcases At.1 hb with rfl|hb
     .exact⟨r,K0 hk j k (f.get d b1).1 (f.get d b1).2 (i.get d b1).1 (i.get d b1).2 x (o.up _ oa)⟩
     have:=w b hb
     rwa [c1]at this
    rw[v]at c1;exact .inl (SF o.pre c1)
  cases e
include hap
theorem uH {u:List Int} (hu:VD h m u):∀ {l:List (Int×Int)} {s:FQ},(∀a∈l,Md h m a)->Qo h m s->Q4 h m s.1 u->(∀a∈l,(EW h (u.getD n.toNat 0) a.1).2=true)->∃c,Xl h n l s=some c/\Q4 h m c.1 u
 | [],s,_,_,d,_=>⟨s,rfl,d⟩
 | a :: l,s,hl,hs,d,g=>by
  obtain⟨⟨e,f⟩,-⟩:=hl a sc;obtain⟨i,j⟩:=Qp hf e f;obtain⟨p,q⟩:=hu.get (show n.toNat<m by omega);obtain⟨s1,e1,h1⟩:=Zx hk hi hs n0 n1 i j hu d ((hap.iff _ _ p q e f).1 (g a sc));obtain⟨k,-,-⟩:=GZ hk hi hs n0 n1 i j e1;obtain⟨c,e2,o⟩:=uH hu (λb hb=>hl b (GO _ hb)) k h1 λb hb=>g b (GO _ hb);exact⟨c,by unfold Xl;rw[e1];exact e2,o⟩
theorem uI {u:List Int} (hu:VD h m u):∀ {l:List (Int×Int)} {s:FQ},(∀a∈l,Md h m a)->Qo h m s->Q4 h m s.1 u->(∀a∈l,A3 h (Qn h a.1) (s.1.getD n.toNat 0)=true)->pU h u n l->∃i,YZ h n l s=some i/\Q4 h m i.1 u
 | [],s,_,_,e,_,_=>⟨s,rfl,e⟩
 | a :: l,s,hl,hs,e,v,w=>by
  obtain⟨⟨q,r⟩,j,b1⟩:=hl a sc;obtain⟨c,d⟩:=hs.get n0 n1;have k:n.toNat<m:=by omega
  have t:a.2.toNat<m:=by omega
  obtain⟨x,y⟩:=hu.get k;have o:=(hap.iff _ _ c d q r).2 (v a sc);obtain⟨f,g⟩:=Me hf c d o;obtain⟨E,F⟩:=w a sc;obtain⟨v0,v1⟩:=Me hf x y E;have A:=hap.mono _ _ a.1 c d x y q r (e _ k) o;obtain⟨s1,e1,h1⟩:=Zx hk hi hs j b1 f g hu e (K0 hk f g v0 v1 (hu.get t).1 (hu.get t).2 A F);obtain⟨p,-,-⟩:=GZ hk hi hs j b1 f g e1;obtain⟨D,-⟩:=SG hk hi hs j b1 f g e1;obtain⟨i,e2,z⟩:=uI hu (λb hb=>hl b (GO _ hb)) p h1 (λb hb=>by
   obtain⟨⟨c0,c1⟩,-⟩:=hl b (GO _ hb);obtain⟨B,C⟩:=Qp hf c0 c1;exact K0 hk B C c d (p.get n0 n1).1 (p.get n0 n1).2 (v b (GO _ hb)) (D.up _ k)) λb hb=>w b (GO _ hb)
  exact⟨i,by unfold YZ;rw[DO o,e1];exact e2,z⟩
end
section
variable {h:AG} (hk:Hu h) (hi:NV h) (hf:HFt h) (hap:HAp h) {f:List AB} (ha:Xm h f)
include hk hi hf hap ha
theorem A32 {n:Int} (n0:0<=n) (n1:n<(f.length:Int)) {s c:FQ} (hs:Qo h f.length s) (e:Tl h f n s=some c):uF h f.length s c/\(n∈c.2.drop s.2.length\/pU h c.1 n (f.getD n.toNat (0,[])).2):=by
 have _:=hap;have d:=Qr ha n0 n1;unfold Tl at e;cases e1:Xl h n (f.getD n.toNat (0,[])).2 s with
 | none=>rw[e1]at e;cases e
 | some s1 =>
  rw[e1]at e;have g:=(Qq hk hi hf n0 n1 d hs e1).1;obtain⟨i,-⟩:=dF hk hi hf n0 n1 d hs e1;have e:YZ h n (f.getD n.toNat (0,[])).2 s1=some c:=e;have j:=(VC hk hi hf n0 n1 d g e).1;obtain⟨k,b⟩:=uG hk hi hf n0 n1 d g e;refine⟨i.trans hk hs g j k,?_⟩;rcases b with b|⟨b,l⟩
  .exact .inl (Qs i.pre.length_le b)
  refine .inr λa ha=>?_;rw[b];exact l a ha
theorem A33 {n:Int} (n0:0<=n) (n1:n<(f.length:Int)) {s:FQ} (hs:Qo h f.length s) {u:List Int} (hu:VD h f.length u) (c:pU h u n (f.getD n.toNat (0,[])).2) (g:Q4 h f.length s.1 u):∃d,Tl h f n s=some d/\Q4 h f.length d.1 u:=by
 have b:=Qr ha n0 n1;obtain⟨s1,e1,h1⟩:=uH hk hi hf hap n0 n1 hu b hs g λa ha=>(c a ha).1;have i:=(Qq hk hi hf n0 n1 b hs e1).1;obtain⟨-,j⟩:=dF hk hi hf n0 n1 b hs e1;obtain⟨s2,e2,e⟩:=uI hk hi hf hap n0 n1 hu b i h1 j c;exact⟨s2,by unfold Tl;rw[e1];exact e2,e⟩
def A9f (h:AG) (f:List AB) (i:Nat) (s:FQ):Prop:=∀n:Nat,n<f.length->pU h s.1 (n:Int) (f.getD n (0,[])).2\/(n:Int)∈s.2.drop i
theorem A5D {n:Nat} (hn:n<f.length) {s d:FQ} (hs:Qo h f.length s) (i:Qo h f.length d) (j:uF h f.length s d) (p:pU h s.1 (n:Int) (f.getD n (0,[])).2):pU h d.1 (n:Int) (f.getD n (0,[])).2\/(n:Int)∈d.2.drop s.2.length:=by
 have _:=hap;have _:=hi;have o:∀a∈(f.getD n (0,[])).2,Md h f.length a:=ha _ (AE f (0,[]) hn);rcases j.ch n hn with c|c
 .left;intro a g;obtain⟨e,k⟩:=p a g;obtain⟨-,b,b1⟩:=o a g;rw[Sc]at e k ⊢;rw[c];obtain⟨l,m⟩:=hs.tyl.get hn;obtain⟨q,r⟩:=Me hf l m e;exact⟨e,K0 hk q r (hs.get b b1).1 (hs.get b b1).2 (i.get b b1).1 (i.get b b1).2 k (j.up _ oa)⟩
 exact .inr c
theorem uJ:∀ {k i:Nat} {s:FQ} {ty:List Int},Qo h f.length s->A9f h f i s->wlF h f k i s=some ty->WTy h f ty/\Q4 h f.length s.1 ty/\VD h f.length ty
 | 0,_,_,_,_,_,e=>by cases e
 | k+1,i,s,ty,hs,j,e=>by
  unfold wlF at e;split at e
  .rename_i hl;have o:=AE s.2 (0:Int) hl;obtain⟨n0,n1⟩:=hs.wt _ o;generalize hn:s.2.getD i 0=n at *;cases e1:Tl h f n s with
   | none=>rw[e1]at e;cases e
   | some s1 =>
    rw[e1]at e;have c:=(kD hk hi hf ha n0 n1 hs e1).1;obtain⟨d,b⟩:=A32 hk hi hf hap ha n0 n1 hs e1;have q:A9f h f (i+1) s1:=by
     intro l g;rcases j l g with p|a
     .rcases A5D hk hi hf hap ha g hs c d p with h1|h1
      .exact .inl h1
      exact .inr (Qs oa h1)
     have r:s.2.drop i=n :: s.2.drop (i+1):=by
      rw[SR hl,<-hn,AS,AT hl];rfl
     rw[r]at a;rcases At.1 a with a|a
     .rcases b with b|b
      .exact .inr (by rw[a];exact Qs oa b)
      left;rw[a];have:n.toNat=l:=by omega
      rw[this]at b;exact b
     exact .inr (SF d.pre a)
    have e:wlF h f k (i+1) s1=some ty:=e;obtain⟨t,u,m⟩:=uJ c q e;exact⟨t,d.up.trans hk hs.tyl c.tyl m u,m⟩
  rename_i hl;injection e with e
  subst e;refine⟨λn hn=>?_,Q4.refl hk hs.tyl,hs.tyl⟩;rcases j n hn with h1|h1
  .exact h1
  rw[SV oa]at h1;cases h1
theorem A34 {u:List Int} (hu:VD h f.length u) (b:WTy h f u):∀ {k i:Nat} {s:FQ},Qo h f.length s->i<=s.2.length->uC h s.1+s.2.length+1<=k+i->Q4 h f.length s.1 u->∃ty,wlF h f k i s=some ty/\Q4 h f.length ty u
 | 0,i,s,hs,e,g,a=>by omega
 | k+1,i,s,hs,e,g,a=>by
  unfold wlF;by_cases hl:i<s.2.length
  .rw[DO hl];obtain⟨n0,n1⟩:=hs.wt _ (AE s.2 (0:Int) hl);have c:=b (s.2.getD i 0).toNat oa;rw[AAG n0]at c;obtain⟨s1,e1,h1⟩:=A33 hk hi hf hap ha n0 n1 hs hu c a;obtain⟨d,j,l⟩:=kD hk hi hf ha n0 n1 hs e1;rw[e1];exact A34 hu b d oa oa h1
  rw[BY hl];exact⟨s.1,rfl,a⟩
theorem pV (ht:∀x∈f,0<=x.1/\x.1<(h.1.length:Int)) {ty:List Int} (e:Jc h f=some ty):WTy h f ty/\Q4 h f.length (Dc f) ty/\VD h f.length ty:=by
 have e:wlF h f (Zu h f) 0 (Dc f,Tm f)=some ty:=e;refine uJ hk hi hf hap ha (k:=Zu h f) (i:=0) (s:=(Dc f,Tm f)) (A6y ht) (λn hn=>.inr ?_) e;rw[oR];exact Y1.2 ⟨n,UJ.2 hn,rfl⟩
theorem kF (ht:∀x∈f,0<=x.1/\x.1<(h.1.length:Int)) {u:List Int} (hu:VD h f.length u) (b:WTy h f u) (a:Q4 h f.length (Dc f) u):∃ty,Jc h f=some ty/\Q4 h f.length ty u :=
 A34 hk hi hf hap ha hu b (k:=Zu h f) (i:=0) (s:=(Dc f,Tm f)) (A6y ht) (ON _) (A7O h f) a
end
section
variable {d:List AJ}
end
section
variable {d:List AJ}
end
theorem Mg (d:List AJ):(BF d).1.1.length<=256/\(BF d).1.2.length<=64:=by
 unfold BF;split
 .exact⟨by simp,by simp⟩
 rename_i a;have a:(Bm d).2=0:=IS a;have b:Bc d=0:=by
  unfold Bm at a;split at a
  .rename_i h;exact absurd a h
  rename_i h;exact IS h
 obtain⟨f,c,-⟩:=DH b;obtain⟨-,e,-⟩:=B9 f;refine⟨?_,?_⟩
 .show (F0 _ _ _).length<=256;rw[NC,IQ];exact e
 show (Db d).1.length<=64;unfold Db;rw[BY (by rw[b];simp)];show ((DQ d).map (Ta d)).length<=64;rw[OF];exact c
theorem kG {H:AG} (o:H.1.length<=256) (p:H.2.length<=64) {f:List AB} (h:Jb H f=true):AO f/\IX f/\0<f.length/\Cj H f/\Du f=true/\f.length<=12/\∀x∈f,∀a∈x.2,0<=a.1/\a.1<(H.2.length:Int):=by
 unfold Jb at h;rw[An,UQ]at h;obtain⟨hl,c⟩:=h;unfold Hh at c;split at c
 .rename_i h1;exact absurd c h1
 rename_i h1;split at c
 .cases c
 rename_i d;split at c
 .cases c
 rename_i g;have h1:(BA f).2=0:=IS h1;have d:f.all (yW H)=true:=by simpa using d
 have g:CN f (BA f).1=0:=by simpa using g
 have j:Du f=true:=by
  unfold Du;simp only[An,UQ];refine⟨⟨hl,?_⟩,h1,?_⟩
  .rw[NO]at d ⊢;intro x hx;have:=d x hx;unfold yW at this;rw[An,Is,NO]at this;unfold ndB;rw[An,Is,NO];refine⟨by omega,λa ha=>?_⟩;have:=this.2 a ha;unfold ftR at this;rw[Is]at this;unfold ftB;rw[Is];omega
  rw[<-MV g];exact JY f
 obtain⟨l,m,n,-⟩:=MW j;have e:CE f=0:=by
  unfold BA at h1;split at h1
  .rename_i hh;exact hh
  exact h1
 have k:GG (f.length:Int) f=0:=by
  unfold CE at e;split at e
  .cases e
  split at e
  .cases e
  exact e
 refine⟨l,m,n,λx hx=>?_,j,(MR hl).1,λx hx a ha=>?_⟩
 .have b:=NO.1 d x hx;unfold yW at b;rw[An,Is]at b;exact⟨(Kr k x hx).1,b.1⟩
 have b:=NO.1 d x hx;unfold yW at b;rw[An,NO]at b;have i:=b.2 a ha;unfold ftR at i;rw[Is]at i;exact⟨((Kr k x hx).2 a ha).1,i⟩
theorem Xn {f:List AB} (hf:AO f):E1 f:=⟨hf.1,λx hx=>(hf.2 x hx).1⟩
structure H14 (h:AG):Prop where
 ok:Hu h
 inj:NV h
 ft:HFt h
 nrm:A7P h
 ap:HAp h
 b1:h.1.length<=256
 b2:h.2.length<=64
theorem SH {f:List AB} {ty:List Int} {x:AB} (hx:x∈Fc f ty):∃i,i<f.length/\x=(ty.getD i 0,(f.getD i (0,[])).2):=by
 obtain⟨i,hi,rfl⟩:=List.getElem_of_mem hx;have a:i<f.length:=by rw[EH]at hi;exact hi
 refine⟨i,a,?_⟩;rw[<-J9 f ty a,AS,AT hi];rfl
theorem KA {α:Type} {f:List α} {i:Nat} (h:i<f.length) (d:α):f.getD i d∈f:=by
 rw[AS,AT h];exact aT _
theorem A7Q {f:List AB} (hf:AO f) (hs:IX f) (h0:0<f.length) (a:Du f=true):RO f:=by
 have h1:=A5g hf hs h0 (λ_ _=>true)
 rwa [o8 a λ_ _ _ _=>rfl]at h1
theorem A35 {h:AG} (j:h.1.length<=256) (k:h.2.length<=64) {f:List AB} (l:Jb h f=true):VF h f/\f.length<=12:=by
 obtain⟨a,b,c,e,d,g,i⟩:=kG j k l;exact⟨⟨a,c,e,λx hx=>(FD _).1 (b x hx).1,i,Nu d,A7Q a b c d⟩,g⟩
theorem VF.srt {h:AG} (hu:HU h) {f:List AB} (a:VF h f):IX f:=λx hx=>by
 have:=pJ (a.str x hx) (a.ft64 hu x hx);exact⟨(FD _).2 (a.str x hx),by omega⟩
theorem VF.small {h:AG} {f:List AB} (a:VF h f):E1 f:=Xn a.good
theorem dG {h:AG} (a b:List AB):(∃c,cZ h a b c/\JZ h a b=(c,true))\/(JZ h a b=([],false)/\∀c,¬cZ h a b c):=by
 unfold JZ;by_cases H:∃c,cZ h a b c
 .left;rw[dif_pos H];exact⟨_,H.choose_spec,rfl⟩
 right;rw[dif_neg H];exact⟨rfl,λc d=>H ⟨c,d⟩⟩
theorem A5E {h:AG} {a:List AB} (ha:VF h a):0<h.1.length:=by
 have:=ha.ty _ (AE a (0,[]) ha.pos);omega
theorem Ib (f:List AB) (ty:List Int) (n:Nat):((Fc f ty).getD n (0,[])).2=(f.getD n (0,[])).2:=by
 by_cases h:n<f.length
 .rw[J9 f ty h]
 rw[AS,Si (by rw[EH];omega),AS,Si oa]
theorem kH {f g:List AB} (h:∀n:Nat,(f.getD n (0,[])).2=(g.getD n (0,[])).2):∀(k:Nat) (o:List Int) (n:Int),Ba f k o n=Ba g k o n
 | 0,_,_=>rfl
 | k+1,o,n=>by
  have e:AX f k=AX g k:=by
   funext o a;unfold AX;rw[kH h k o a.2]
  rw[Bv,Bv,h,e]
theorem pW {f:List AB} (hf:AO f) (h0:0<f.length) (a:AH f 0=f):jO f:=by
 have:=(cX hf (r:=0) oa oa).2
 rwa [a]at this
theorem A36 {h:AG} {f:List AB} (a:VF h f) {ty:List Int} (ht:VD h f.length ty):VF h (Fc f ty):=by
 have hl:=EH f ty;have b:AO (Fc f ty):=by
  refine⟨by rw[hl];exact a.good.1,λx hx=>?_⟩;obtain⟨i,hi,rfl⟩:=SH hx;rw[hl];exact a.good.2 (f.getD i (0,[])) (KA hi (0,[]))
 have c:∀x∈Fc f ty,∃y∈f,x.2=y.2:=λx hx=>by
  obtain⟨i,hi,rfl⟩:=SH hx;exact⟨_,KA hi (0,[]),rfl⟩
 refine⟨b,by rw[hl];exact a.pos,λx hx=>?_,λx hx=>?_,λx hx=>?_,Xa b ?_,λi d g=>?_⟩
 .obtain⟨i,hi,rfl⟩:=SH hx;exact ht.get hi
 .obtain⟨y,hy,e⟩:=c x hx;rw[e];exact a.str y hy
 .obtain⟨y,hy,e⟩:=c x hx;rw[e];exact a.ft y hy
 .have:=pW a.good a.pos a.can;unfold jO at this ⊢;rw[hl,kH (Ib f ty)];exact this
 obtain⟨j,k,l,x,hx,e⟩:=a.ro i d (by rw[<-hl];exact g);exact⟨j,k,l,x,by show x∈((Fc f ty).getD j.toNat (0,[])).2;rw[Ib];exact hx,e⟩
theorem Dy (f:List AB) (i:Nat):(Dc f).getD i 0=(f.getD i (0,[])).1:=by
 unfold Dc;rw[AS,nO,AS];cases f[i]?<;>rfl
theorem pY {f:List AB} {ty:List Int} (hl:ty.length=f.length):Dc (Fc f ty)=ty:=by
 refine AA6 (by simp[Dc,EH,hl]) λi a b=>?_;have:=Dy (Fc f ty) i;rw[J9 f ty oa]at this;simpa[AS,a,b] using this
theorem Tn {h:AG} {f:List AB} {t:Int}:∀ {l:List (Int×Int)},SE h f t l=0↔∀a∈l,(EW h t a.1).2=true/\A3 h (EW h t a.1).1 (f.getD a.2.toNat (0,[])).1=true
 | []=>⟨λ_ a ha=>(by cases ha),λ_=>rfl⟩
 | a :: l=>by
  unfold SE;rw[List.forall_mem_cons,<-Tn (l:=l)];cases h1:(EW h t a.1).2
  .simp
  cases b:A3 h (EW h t a.1).1 (f.getD a.2.toNat (0,[])).1<;>simp
theorem Ny {h:AG} {f:List AB}:∀ {l:List AB},Mf h f l=0↔∀x∈l,∀a∈x.2,(EW h x.1 a.1).2=true/\A3 h (EW h x.1 a.1).1 (f.getD a.2.toNat (0,[])).1=true
 | []=>⟨λ_ a ha=>(by cases ha),λ_=>rfl⟩
 | x :: l=>by
  unfold Mf;rw[List.forall_mem_cons,<-Ny (l:=l),<-Tn];by_cases h1:SE h f x.1 x.2=0
  .simp[h1]
  simp[h1]
theorem A5F {h:AG} {f:List AB}:Mf h f f=0↔WTy h f (Dc f):=by
 rw[Ny];constructor
 .intro h1 i hi a ha;have:=h1 _ (KA hi (0,[])) a ha
  rwa [Dy,Dy,Sc]
 intro h1 x hx a ha;obtain⟨i,hi,rfl⟩:=Co (0,[]) hx;have:=h1 i hi a ha
 rwa [Dy,Dy,Sc]at this
theorem kI {n:Int}:∀ {l seen:List (Int×Int)},(∀a∈l,0<=a.1/\0<=a.2/\a.2<n)->(l.map (·.1)).Nodup->(∀y∈seen,∀x∈l,y.1≠x.1)->F2 n seen l=0
 | [],_,_,_,_=>rfl
 | x :: l,seen,h,b,hs=>by
  rw[Sj,UN]at b;have h1:=h x sc;have d:(seen.any λy=>y.1==x.1)=false:=by
   rw[AB5];intro y hy;have:=hs y hy x sc;simpa using this
  unfold F2;rw[BY oa,BY (by rw[d];simp)];refine kI (λa ha=>h a (by simp[ha])) b.2 λy hy z c=>?_;rcases Do.1 hy with hy|hy
  .exact hs y hy z (by simp[c])
  rw[SQ.1 hy];exact λe=>b.1 (Y1.2 ⟨z,c,e.symm⟩)
theorem A37 {m:Int} {l:List (Int×Int)} (hs:(l.map (·.1)).Nodup) (h:∀a∈l,0<=a.1/\0<=a.2/\a.2<m):Gu l m=0:=kI h hs λy hy=>by cases hy
theorem kJ {m:Int}:∀ {l:List AB},(∀x∈l,0<=x.1/\Gu x.2 m=0)->GG m l=0
 | [],_=>rfl
 | x :: l,h=>by
  have:=h x sc;unfold GG;rw[BY oa,BY (by rw[this.2];simp)];exact kJ λy hy=>h y (by simp[hy])
section
variable {h:AG} (hh:H14 h)
include hh
theorem H14.hu:HU h:=⟨hh.ok,hh.inj,hh.b2⟩
omit hh in
theorem uK {f:List AB} (b:VF h f):Xm h f:=λx hx a ha=>⟨b.ft x hx a ha,(b.good.2 x hx).2 a ha⟩
theorem kK {f:List AB} (a:VF h f) {ty:List Int} (e:Jc h f=some ty):VF h (Fc f ty)/\WTy h f ty/\VD h f.length ty/\Ig h f (Fc f ty) id:=by
 obtain⟨h1,g,d⟩:=pV hh.ok hh.inj hh.ft hh.ap (uK a) a.ty e;refine⟨A36 a d,h1,d,rfl,λi b c=>⟨b,by rw[EH];exact c⟩,λi b c=>?_,λi b c x hx=>?_⟩
 .have:=g i.toNat oa;rw[Dy]at this;show A3 h _ ((Fc f ty).getD i.toNat (0,[])).1=true
  rwa [J9 f ty oa]
 show Av ((Fc f ty).getD i.toNat (0,[])).2 x.1=x.2;rw[Ib];exact A7B (a.srt hh.hu) hx
theorem uL {f g:List AB} (n:VF h f) (p:VF h g) (z:WTy h g (Dc g)) {m:Int->Int} (c:Ig h f g m):∃ty,Jc h f=some ty/\Ig h (Fc f ty) g m:=by
 have C:=p.pos
 let u:List Int:=(List.range f.length).map λi:Nat=>(g.getD (m (i:Int)).toNat (0,[])).1
 have k:∀i:Nat,i<f.length->u.getD i 0=(g.getD (m (i:Int)).toNat (0,[])).1:=λi hi=>by
  simp[u,AS,hi]
 have q:∀i:Nat,i<f.length->(m (i:Int)).toNat<g.length/\0<=m (i:Int):=λi hi=>by
  have:=c.rng (i:Int) oa oa;omega
 have y:VD h f.length u:=⟨by simp[u],λt ht=>by
  obtain⟨i,hi,rfl⟩:=Y1.1 ht;exact p.ty _ (KA (q i (UJ.1 hi)).1 (0,[]))⟩
 have A:WTy h f u:=λi hi a ha=>by
  have v:a∈AK f (i:Int):=by show a∈(f.getD (i:Int).toNat (0,[])).2;rwa [Sc]
  have h1:=c.arc (i:Int) oa oa a v;obtain⟨r,B⟩:=(n.good.2 _ (KA hi (0,[]))).2 a ha;have s:=c.rng a.2 r B;obtain⟨b,hb,e1,e2⟩:=FE (l:=AK g (m (i:Int))) (e:=a.1) (by rw[h1];exact s.1);have o:=z _ (q i hi).1 b (by exact hb);rw[Dy,Dy,e1,e2,h1,Sc]at o;rw[Sc,k i hi,k a.2.toNat oa,AAG r];exact o
 obtain⟨ty,e,w⟩:=kF hh.ok hh.inj hh.ft hh.ap (uK n) n.ty y A λi hi=>by
  rw[Dy,k i hi];have:=c.ty (i:Int) oa oa
  rwa [Sc]at this
 refine⟨ty,e,c.zero,λi j d=>c.rng i j (by rw[EH]at d;exact d),λi j d=>?_,λi j d x hx=>?_⟩
 .rw[EH]at d;have:=w i.toNat oa;rw[k _ oa,AAG j]at this
  rwa [J9 f ty oa]
 rw[EH]at d;exact c.arc i j d x (by rw[AK,Ib]at hx;exact hx)
omit hh in
theorem y5 {f:List AB} (e:dB h f=0):WTy h f (Dc f):=by
 unfold dB at e
 split at e
 .exact A5F.1 e
 rename_i hn;exact absurd e hn
end
theorem Tp {h:AG} {f:List AB} {ty:List Int} (e:Jc h f=some ty):SD h f=(Fc f ty,true):=by unfold SD;rw[e]
theorem Tq {h:AG} {f:List AB} (e:Jc h f=none):SD h f=([],false):=by unfold SD;rw[e]
theorem VD.set {h:AG} {m:Nat} {u:List Int} (hu:VD h m u) {t:Int} (a:0<=t) (b:t<(h.1.length:Int)) (i:Nat):VD h m (u.set i t):=⟨by rw[oS];exact hu.1,λx hx=>by
 rcases AAI hx with hx|rfl
 .exact hu.2 x hx
 exact⟨a,b⟩⟩
theorem Q4.set {h:AG} (hk:Hu h) {m:Nat} {u:List Int} (hu:VD h m u) {t:Int} {i:Nat} (hi:i<m) (hs:A3 h (u.getD i 0) t=true):Q4 h m u (u.set i t):=λk a=>by
 rw[NK _ _ _ (by rw[hu.1];exact hi) k];split
 .rename_i e;rw[e];exact hs
 exact VB hk (hu.get a).1 (hu.get a).2
section
variable {h:AG} (hk:Hu h) (hn:A7P h) (hi:NV h) (hf:HFt h) (hap:HAp h) {m:Nat}
include hk hn hi hf hap
end
section
variable {h:AG} (hk:Hu h) (hn:A7P h) (hi:NV h) (hf:HFt h) (hap:HAp h) {f:List AB} (ha:Xm h f)
include hk hn hi hf hap ha
end
section
open Go
end
section
open Go
end
section
open Go
end
section
open Go
end
section
open Go
end
section
variable {h:AG} {N:List AB} {P:List (Int×Int)} {c p:List Int} {g:List AB}
end
section
variable {h:AG} {a b:List AB}
end
section
open Go
end
section
attribute [local go_sem] A31
end
noncomputable def dH (h:AG) (a b:List AB):List AB×Bool:=if (JZ h a b).2=true then SD h (JZ h a b).1 else ([],false)
theorem A38 {h:AG} (hk:Hu h) {N:List AB} {P:List (Int×Int)}:∀(k:Nat) (p ty:List Int) (ar:List (List (Int×Int))) (W:List (Int×Int)),JI h N P p ty ar W->nR p*((Cq N).length+1)+W.length<=k ->
  (∃C E n,JI h N P C E n [])\/(∀X v,Cj h X->¬G7 h N P X v):=by
 intro k;induction k with
 | zero =>
  intro p ty ar W c f;have:W=[]:=Sk oa;subst this;exact .inl ⟨p,ty,ar,c⟩
 | succ k j =>
  intro p ty ar W c f;cases i:W.getLast? with
  | none =>
   have:W=[]:=List.getLast?_eq_none_iff.1 i;subst this;exact .inl ⟨p,ty,ar,c⟩
  | some w =>
   have q:W=W.dropLast++[w]:=by
    obtain⟨I,e⟩:=List.getLast?_eq_some_iff.1 i;rw[e];simp
   obtain⟨s,t⟩:=w;rw[q]at c f;rw[As,If]at f;generalize W.dropLast=V at *;obtain⟨⟨l,s1⟩,m,D⟩:=c.wr (s,t) sc;simp only at l s1 m D;obtain⟨K,fo⟩:=c.fo;have lp:=c.lp;obtain⟨a,ha,F,G⟩:=fo.root l oa;obtain⟨b,hb,o,b1⟩:=fo.root m oa;by_cases d:a=b
   .subst d;exact j p ty ar V (cR c ha hb) oa
   cases g:(Bt h (ty.getD a.toNat 0) (ty.getD b.toNat 0)).2 with
   | false =>
    right;intro X v r B;have:=(Uw hk c ha hb r B).2.1;rw[g]at this;cases this
   | true =>
    have u:=XS hk c ha hb d g;refine j _ _ _ _ u ?_;have A:=tM (a:=a) o b1 hb.root d;have z:=cS (c.srt a.toNat) (λx hx=>(c.arr a.toNat x hx).2);have J:=SX (Qf (x:=ar.getD a.toNat []) (y:=ar.getD b.toNat [])) z;have H:nR p*((Cq N).length+1)=nR (p.set b.toNat a)*((Cq N).length+1)+((Cq N).length+1):=by rw[<-A,ABz,Nat.one_mul]
    rw[As];omega
theorem SI {h:AG} (hk:Hu h) {N:List AB}:∀(R P:List (Int×Int)) (p ty:List Int) (ar:List (List (Int×Int))),(∀q∈R,(0<=q.1/\q.1<(N.length:Int))/\(0<=q.2/\q.2<(N.length:Int)))->JI h N P p ty ar [] ->
  (∃l r g,JI h N (P++R) l r g [])\/(∀X v,Cj h X->¬G7 h N (P++R) X v)
 | [],P,p,ty,ar,f,e=>.inl ⟨p,ty,ar,by rw[UL];exact e⟩
 | q :: R,P,p,ty,ar,f,e=>by
  obtain⟨a,b⟩:=q;have c:=f (a,b) sc;have i:P++(a,b) :: R=P++[(a,b)]++R:=by simp
  rw[i];rcases A38 hk _ _ _ _ _ (XT e c.1 c.2) (No _) with ⟨m,o,n,h1⟩|k
  .exact SI hk R (P++[(a,b)]) m o n (λq c=>f q (by simp[c])) h1
  exact .inr λX v j d=>k X v j ⟨d.rng,d.ty,d.arc,λq c=>d.eq q (UM _ c)⟩
theorem A5G {h:AG} (hu:HU h) {a b X:List AB} (va:VF h a) (vb:VF h b) (hl:a.length+b.length<=100000) (i:Cj h X) {l m:Int->Int} (h1:Ig h a X l) (d:Ig h b X m):∃g,cZ h a b g:=by
 have n:=CT a b;have hap:=va.pos;have o:=vb.pos;have j:=Ef va.good vb.good hl;rcases SI hu.ok (N:=Al a b) [(0,(a.length:Int))] [] _ _ _ (λq c=>by
  have e:q=(0,(a.length:Int)):=by simpa using c
  subst e;simp only;omega) (Ux j (IZ va.ty vb.ty) (GY va.str vb.str)) with ⟨p,ty,ar,f⟩|k
 .exact⟨_,A5q va vb f (Qi f oa (Ia (va.ft64 hu) (vb.ft64 hu)))⟩
 exfalso;refine k X _ i (pG (Qh va.good vb.good (Cy h1) (Cy d)) λq c=>?_);have e:q=(0,(a.length:Int)):=by simpa using c
 subst e;try simp only
 rw[DO oa,BY oa,ACb,h1.zero,d.zero]
theorem A7R {h:AG} (hu:HU h) (ht:Mb h) {f X:List AB} {p q:List Int} (vf:VF h f) (d:pN h p) (e:pN h q) (b:p.length<=1000) (c:q.length<=1000) (hl:f.length<=1000) (k:VF h X) {C:Int->Int} (h1:Ig h f X C) {n:Int} (y:AY X 0 p=some n) (z:AY X 0 q=some n):∃o,UG h f p q o:=by
 have G:=Uy f p q;have H:=vf.pos;have I:=CT f (Cc p);have J:=B6 p;have K:=B6 q;have u:=Ef vf.good (Dw b) oa;have t:=Ef u (Dw c) oa;have i:=A5E vf;have E:=IZ (IZ vf.ty (J7 i p)) (J7 i q);have D:=GY (GY vf.str (Hw p)) (Hw q);have j:∀g:List AB,(∀x∈g,∀a∈x.2,0<=a.1/\a.1<(h.2.length:Int))->c6 g:=λg w x hx a ha=>by
  have h1:=w x hx a ha;have F:=hu.ft;omega
 have s:=Ia (Ia (vf.ft64 hu) (j _ (Gw d))) (j _ (Gw e));rcases SI hu.ok (N:=t7 f p q) (eqP f p q) [] _ _ _ (λr m=>by
  simp only[At,TO,AAw]at m;rcases m with rfl|rfl|rfl<;>simp only<;>omega) (Ux t E D) with ⟨P,ty,ar,l⟩|A
 .exact⟨_,pO ht vf d e b c oa l (Qi l oa s)⟩
 exfalso;obtain⟨v,B,-⟩:=Uz ht vf b c oa k h1 y z;exact A X v k.ty B
structure H11 (h:AG):Prop where
 hu:HU h
 top:Mb h
 b1:h.1.length<=256
theorem Tr (d:List AJ):H11 (BF d).1:=⟨⟨MM d,jN d,(Mg d).2⟩,jV d,(Mg d).1⟩
section
attribute [local go_sem] dA Jx cs1 cs3
end
section
attribute [local go_sem] i6
end
section
open Go
end
abbrev Wt (h:AG) (f:List AB):Prop:=VF h f/\WTy h f (Dc f)
def uM (h:AG) (l:List (List AB)) (X:List AB):Prop:=∀x∈l,∃m,Ig h x X m
structure TU (h:AG) (l:List (List AB)) (U:List AB):Prop where
 wt:Wt h U
 hom:uM h l U
 least:∀X,Wt h X->uM h l X->∃m,Ig h U X m
def Mh (h:AG) (l:List (List AB)) (r:List AB×Bool):Prop:=(r.2=true/\TU h l r.1)\/(r=([],false)/\∀X,Wt h X->¬uM h l X)
theorem Mh.congr {h:AG} {l l':List (List AB)} {r:List AB×Bool} (H:Mh h l r) (c:∀X,Wt h X->(uM h l X↔uM h l' X)):Mh h l' r:=by
 rcases H with ⟨h1,a⟩|⟨h1,a⟩
 .exact .inl ⟨h1,a.wt,(c _ a.wt).1 a.hom,λX b hb=>a.least X b ((c X b).2 hb)⟩
 exact .inr ⟨h1,λX b hb=>a X b ((c X b).2 hb)⟩
theorem A39 {h:AG} (hk:Hu h) {l:List (List AB)} (hl:∀x∈l,VF h x) {a X:List AB} (b:VF h a) (c:VF h X) (hb:uM h l a) {m:Int->Int} (d:Ig h a X m):uM h l X:=λx hx=>by
 obtain⟨k,q⟩:=hb x hx;exact⟨_,MZ hk (hl x hx).good (hl x hx).ty b.ty c.ty q d⟩
theorem Hi {h:AG} {x X:List AB}:uM h [x] X↔∃m,Ig h x X m:=by simp[uM]
theorem Xo {h:AG} {x X:List AB} {l:List (List AB)}:uM h (x :: l) X↔(∃m,Ig h x X m)/\uM h l X:=by simp[uM]
section
variable {h:AG} (hh:H14 h)
include hh
theorem A7S {f:List AB} (c:VF h f) {ty:List Int} (e:Jc h f=some ty):Wt h (Fc f ty):=by
 obtain⟨h1,a,b,-⟩:=kK hh c e;refine⟨h1,?_⟩;rw[pY b.1];intro i hi;rw[Ib];exact a i (by rw[<-EH f ty];exact hi)
theorem A5H {f:List AB} (c:VF h f):Mh h [f] (SD h f):=by
 cases e:Jc h f with
 | some ty =>
  rw[Tp e];refine .inl ⟨rfl,A7S hh c e,Hi.2 ⟨_,(kK hh c e).2.2.2⟩,λX b hb=>?_⟩;obtain⟨m,d⟩:=Hi.1 hb;obtain⟨g,a,q⟩:=uL hh c b.1 b.2 d;rw[e]at a;cases a;exact⟨m,q⟩
 | none =>
  rw[Tq e];refine .inr ⟨rfl,λX b hb=>?_⟩;obtain⟨m,d⟩:=Hi.1 hb;obtain⟨g,a,q⟩:=uL hh c b.1 b.2 d;rw[e]at a;cases a
theorem A5I {a b:List AB} (va:VF h a) (vb:VF h b) (hl:a.length+b.length<=10000):Mh h [a,b] (dH h a b):=by
 unfold dH;rcases dG (h:=h) a b with ⟨k,c,e⟩|⟨e,n⟩
 .rw[e,DO rfl];refine(A5H hh c.vf).congr λX g=>?_;rw[Hi,Xo,Hi];constructor
  .rintro⟨m,l⟩;obtain⟨i,d⟩:=c.left;obtain⟨j,f⟩:=c.right;exact⟨⟨_,MZ hh.ok va.good va.ty c.vf.ty g.1.ty d l⟩,_,MZ hh.ok vb.good vb.ty c.vf.ty g.1.ty f l⟩
  rintro⟨⟨i,d⟩,j,f⟩;exact c.least X g.1.ty i d j f
 rw[e,BY Bool.false_ne_true];refine .inr ⟨rfl,λX g hb=>?_⟩;rw[Xo,Hi]at hb;obtain⟨⟨i,d⟩,j,f⟩:=hb;obtain⟨k,c⟩:=A5G hh.hu va vb oa g.1.ty d f;exact n k c
omit hh in
theorem A3a {l l':List (List AB)} (a:∀x,x∈l↔x∈l') (X:List AB):uM h l X↔uM h l' X:=⟨λhb x hx=>hb x ((a x).2 hx),λhb x hx=>hb x ((a x).1 hx)⟩
omit hh in
theorem Mh.perm {l l':List (List AB)} {r:List AB×Bool} (H:Mh h l r) (a:∀x,x∈l↔x∈l'):Mh h l' r:=H.congr λX _=>A3a a X
omit hh in
theorem uN {a b:List AB}:(dH h a b).1.length<=a.length+b.length:=by
 unfold dH
 split
 .rename_i e
  have:=(Th e).len
  cases ht:Jc h (JZ h a b).1 with
  | none=>rw[Tq ht];simp
  | some ty=>rw[Tp ht,EH];exact this
 simp
omit hh in
theorem Mh.vf {l:List (List AB)} {r:List AB×Bool} (H:Mh h l r) (e:r.2=true):TU h l r.1:=by
 rcases H with ⟨-,b⟩|⟨a,-⟩
 .exact b
 rw[a]at e;cases e
end
structure PF (h:AG) (S:List AB):Prop where
 good:AO S
 pos:0<S.length
 ty:Cj h S
 str:∀x∈S,Ih x.2
 ft:∀x∈S,∀a∈x.2,0<=a.1/\a.1<(h.2.length:Int)
theorem VF.pf {h:AG} {f:List AB} (v:VF h f):PF h f:=⟨v.good,v.pos,v.ty,v.str,v.ft⟩
theorem kL {S:List AB} (a:AO S) {r:Int} (b:0<=r) (c:r<(S.length:Int)):∀x∈AH S r,∃n∈Ba S S.length [] r,(0<=n/\n<(S.length:Int))/\x=CG S (Ba S S.length [] r) n:=λx hx=>by
 obtain⟨n,hn,rfl⟩:=Y1.1 hx;exact⟨n,hn,(Cw a b c).ok.rng n hn,rfl⟩
theorem A5J {S:List AB} (b:AO S) {r:Int} (c:0<=r) (d:r<(S.length:Int)):RO (AH S r):=by
 have k:=Cw b c d;have h:=Qb b S.length [] r (F4 _) c d sc;have n:=EA S r;have g:=λi=>Ee (f:=S) (r:=r) (i:=i);generalize AH S r=C at *;generalize Ba S S.length [] r=o at *;intro i l m;obtain⟨j,p,a,ha,e⟩:=h i.toNat (by simp only[AA1];omega) oa;refine⟨(j:Int),by omega,by omega,Fg o a,?_,?_⟩
 .rw[AK,Sc,g j oa];exact Y1.2 ⟨a,ha,rfl⟩
 show Ax o a.2=i;rw[e,DI k.ok.nd oa];omega
theorem HJ {h:AG} {S:List AB} (p:PF h S) {r:Int} (c:0<=r) (d:r<(S.length:Int)):VF h (AH S r):=by
 have e:=yU p.good c d;refine⟨e.1,e.2,A5u p.good p.ty c d,λx hx=>?_,λx hx a ha=>?_,jP p.good c d,A5J p.good c d⟩
 .obtain⟨n,-,hn,rfl⟩:=kL p.good c d x hx;show List.Pairwise _ (List.map _ _);rw[iF];exact(Cd p.str n).imp λh=>h
 obtain⟨n,-,hn,rfl⟩:=kL p.good c d x hx;obtain⟨b,hb,rfl⟩:=Y1.1 ha;exact p.ft _ (AE S (0,[]) oa) b hb
theorem Xp {h:AG} {g c:List AB} (D:AO g) (G:0<g.length) (F:RO g) (w:PF h c) {v:Int->Int} (p:G7 h g [] c v):Ig h g (AH c (v 0)) λi=>Ax (Ba c c.length [] (v 0)) (v i):=by
 have s:=p.rng 0 oa oa;have m:=Cw w.good s.1 s.2;have H:=EA c (v 0);have y:=λi=>Ee (f:=c) (r:=v 0) (i:=i);have cs:=(HJ w s.1 s.2).str;generalize AH c (v 0)=C at *;generalize Ba c c.length [] (v 0)=o at *;have q:∀(n:Nat) (i:Int),i.toNat<=n->0<=i->i<(g.length:Int)->v i∈o:=by
  intro n;induction n with
  | zero =>
   intro i q k d;rw[show i=0 by omega,<-m.zero.1];exact AE o 0 m.zero.2
  | succ n A =>
   intro i q k d;by_cases I:i=0
   .exact A i oa k d
   obtain⟨j,B,J,x,hx,e⟩:=F i oa d;have E:=A j oa B oa;have ha:=p.arc j B oa x hx;have t:=p.rng i k d;obtain⟨b,hb,e1,e2⟩:=FE (l:=AK c (v j)) (e:=x.1) (by rw[ha,e];exact t.1);have:=m.cl _ E b hb;rw[e2,ha,e]at this;exact this
 refine⟨?_,λi k d=>?_,λi k d=>?_,λi k d x hx=>?_⟩
 .have:=DI m.ok.nd m.zero.2;rw[m.zero.1]at this;exact this
 .have:=A0 (q _ i (No _) k d);try simp only
  omega
 .have u:=A0 (q _ i (No _) k d);try simp only
  rw[y _ oa];show A3 h _ (c.getD (o.getD (Ax o (v i)).toNat 0).toNat (0,[])).1=true;rw[u.2.2];exact p.ty i k d
 have u:=A0 (q _ i (No _) k d);have ha:=p.arc i k d x hx;have z:=Af D hx;have t:=p.rng x.2 z.1 z.2;obtain⟨b,hb,e1,e2⟩:=FE (l:=AK c (v i)) (e:=x.1) (by rw[ha];exact t.1);try simp only
 rw[<-ha,<-e2,<-e1];refine Bi (a:=Fg o b) (Cd cs _) ?_;rw[AK,y _ oa,u.2.2];exact Y1.2 ⟨b,hb,rfl⟩
theorem KB {h:AG} {f:List AB} (hf:PF h f) {r:Int} (j:0<=r) (k:r<(f.length:Int)):G7 h (AH f r) [] f (λi=>(Ba f f.length [] r).getD i.toNat 0)/\(Ba f f.length [] r).getD 0 0=r:=by
 have a:=Cw hf.good j k;have l:=EA f r;have c:=λi=>Ee (f:=f) (r:=r) (i:=i);generalize AH f r=C at *;generalize Ba f f.length [] r=o at *;refine⟨⟨λi d e=>a.ok.rng _ (AE o 0 oa),λi d e=>?_,λi d e x hx=>?_,λq g=>by cases g⟩,a.zero.1⟩
 .rw[c _ oa];exact CF h _
 rw[AK,c _ oa]at hx;obtain⟨b,hb,rfl⟩:=Y1.1 hx;show Av _ b.1=o.getD (Ax o b.2).toNat 0;rw[(A0 (a.cl _ (AE o 0 oa) b hb)).2.2];exact Bi (Cd hf.str _) hb
theorem pZ {h:AG} {f:List AB} (ht:Cj h f) {i:Int} (a:0<=i) (b:i<(f.length:Int)):0<=(f.getD i.toNat (0,[])).1/\(f.getD i.toNat (0,[])).1<(h.1.length:Int):=ht _ (AE f (0,[]) oa)
theorem EC {h:AG} (hk:Hu h) {a b c:List AB} (r:AO a) (ta:Cj h a) (tb:Cj h b) (u:Cj h c) {v w:Int->Int} (h1:G7 h a [] b v) (j:G7 h b [] c w):G7 h a [] c λi=>w (v i):=by
 refine⟨λi f g=>?_,λi f g=>?_,λi f g x hx=>?_,λq s=>by cases s⟩
 .have:=h1.rng i f g;exact j.rng _ this.1 this.2
 .have d:=h1.rng i f g;have p:=j.rng _ d.1 d.2;have m:=pZ ta f g;have n:=pZ tb d.1 d.2;have o:=pZ u p.1 p.2;exact Ku hk m.1 m.2 n.1 n.2 o.1 o.2 (h1.ty i f g) (j.ty _ d.1 d.2)
 have d:=h1.rng i f g;have k:=Af r hx;have t:=h1.rng x.2 k.1 k.2;have ha:=h1.arc i f g x hx;obtain⟨y,hy,e1,e2⟩:=FE (l:=AK b (v i)) (e:=x.1) (by rw[ha];exact t.1);have:=j.arc _ d.1 d.2 y hy;rw[e1,e2,ha]at this;exact this
theorem Cr {Q R:List AB} {ψ:Int->Int} {C:Int->Prop} (h:o9 Q R ψ C) (g:AO Q) {r:Int} (f:C r) (j:0<=r) (k:r<(Q.length:Int)) (l:Q.length<=R.length)
  (hty:∀i,C i->(R.getD (ψ i).toNat (0,[])).1=(Q.getD i.toNat (0,[])).1):AH R (ψ r)=AH Q r:=by
 have hd:Ba R R.length [] (ψ r)=(Ba Q Q.length [] r).map ψ/\∀x∈Ba Q Q.length [] r,C x:=by
  have h1:=Qa h R.length [] r (λx hx=>by cases hx) f;have c:=J4 g (n:=r) j k (R.length-Q.length);rw[show Q.length+(R.length-Q.length)=R.length by omega]at c;rw[c]at h1;exact h1
 unfold AH;rw[hd.1];generalize Ba Q Q.length [] r=o at *;rw[bY];refine Of λi hi=>?_;have b:=hd.2 i hi;show CG R (o.map ψ) (ψ i)=CG Q o i;unfold CG;have d:(R.getD (ψ i).toNat (0,[])).2=(AK Q i).map λa=>(a.1,ψ a.2):=h.arc i b;rw[hty i b,d,bY];refine oN _ (Of λa ha=>?_);show (a.1,Ax (o.map ψ) (ψ a.2))=(a.1,Ax o a.2);rw[jG λy hy e=>h.inj y a.2 (hd.2 y hy) (h.cl i b a ha) e]
def A9h (f:List AB) (e:Int):List (Int×Int):=(f.getD 0 (0,[])).2.filter λa=>a.1 != e
def A9i (f:List AB) (e:Int):List AB:=((f.getD 0 (0,[])).1,AR 1 (A9h f e)) :: f.map λx=>(x.1,AR 1 x.2)
def A6A (f:List AB) (e:Int):List AB:=AH (A9i f e) 0
theorem A6 {b:Nat} {l:List (Int×Int)} {a:Int×Int}:a∈AR b l↔∃x∈l,a=(x.1,x.2+(b:Int)):=by
 unfold AR;rw[Y1];exact⟨λ⟨x,h1,c⟩=>⟨x,h1,c.symm⟩,λ⟨x,h1,c⟩=>⟨x,h1,c.symm⟩⟩
def NL (b:Nat) (g:List AB) (i:Nat):List AB:=(g.take i).map λx:AB=>(x.1,AR b x.2)
theorem kM (b:Nat) (g:List AB) {i:Nat} (h:i<g.length):NL b g (i+1)=NL b g i++[((g.getD i (0,[])).1,AR b (g.getD i (0,[])).2)]:=by
 unfold NL;rw[Aw g (0,[]) h,UK];rfl
theorem Hj (b:Nat) (g:List AB):NL b g g.length=g.map λx:AB=>(x.1,AR b x.2):=by
 unfold NL;rw[SW]
theorem Hk (b:Nat) (g:List AB) {i:Nat} (h:i<=g.length):(NL b g i).length=i:=by
 unfold NL;rw[OF,OS];omega
def dI:Ab:={ ins:=[G0,D7],pre:=λ(p,g,_)=>List.length p<=1000/\AO g,out:=λ(p,g,_)=>[.p D7 (BS p g)] }
theorem A3b:Ag Tryz.prog 141 dI:=by
 refine fKP [0,1,3,4,5,6,7,9,10,12,13,14,15,16,33,34,35,36,43,44,45,46] [26] [] Tryz.func141 Tryz.ntmps141 AI ?_;rintro w0 O0 ⟨p,g,u⟩ e-⟨K,f⟩;have I:=f.1;simp only[dI,AN];repeat'(first|exact trivial|apply eS rfl|apply AC|refine rX e ?_ ?_|refine rC ?_ ?_<;>intro b<;>try(cases b;done))
 refine AL (ι:={k:Nat//k<=p.length}) (λk=>⟨[(0,.p G0 p),(3,.bp 3 [] 0),(4,.bp 4 [] 0),(5,.bp 5 [] 0),(13,.p G0 p),(14,.p (.int .i64) (p.length:Int)),(15,.p (.int .i64) (k.1:Int))],[(3,.box 25 true [.p G2 g]),(4,.box 25 true [.raw (.slice none 0 0)]),(5,.box 25 true [.sr 29 He 0 (F8 p k.1).length]),(29,.arr 93 He (F8 p k.1))]⟩) (λk=>p.length-k.1) ⟨0,ON _⟩ (AD [(3,.nm 3),(4,.nm 4),(5,.nm 5),(29,.nil)] rfl rfl ?_ ?_) (λk=>?_)
 .first|exact eN|refine eM ?_
  exact⟨rfl,rfl⟩
 .first|exact eN|refine eM ?_
 obtain⟨k,hk⟩:=k;have B:=Eg p k;repeat'(first|exact trivial|apply eS rfl|apply AC|refine rX e ?_ ?_|refine rC ?_ ?_<;>intro b<;>try(cases b;done))
 .exact b
 .have n:k<p.length:=IN.1 b;refine⟨⟨by omega,by omega⟩,?_⟩;rw[B];simp only[AP];omega
 .omega
 .have n:k<p.length:=IN.1 b;have hs:=jW p k;refine⟨⟨k+1,n⟩,by simp only;omega,AD [(3,.nm 3),(4,.nm 4),(5,.nm 5),(29,.nm 29)] rfl rfl ?_ ?_⟩
  .simp only[hs];first|exact eN|refine eM ?_
  first|exact eN|refine eM ?_
 have D:k=p.length:=by
  have:=SY.1 b;omega
 subst D;obtain⟨t,m⟩:∃c,F8 p p.length=c:=⟨_,rfl⟩;have A:=Eg p p.length;have s:t++g.map (λx:AB=>(x.1,AR p.length x.2))=BS p g:=by rw[<-m];rfl
 generalize F8 p p.length=ch at *;subst m;refine AL (ι:={i:Nat//i<=g.length}) (λi=>⟨[(0,.p G0 p),(3,.bp 3 [] 0),(4,.bp 4 [] 0),(5,.bp 5 [] 0),(33,.p G2 g),(34,.p (.int .i64) (g.length:Int)),(35,.p (.int .i64) (i.1:Int))],[(3,.box 25 true [.p G2 g]),(4,.box 25 true [.raw (.slice none 0 0)]),(5,.box 25 true [.sr 29 He 0 (ch++NL p.length g i.1).length]),(29,.arr 93 He (ch++NL p.length g i.1))]⟩) (λi=>g.length-i.1) ⟨0,ON _⟩ (AD [(3,.nm 3),(4,.nm 4),(5,.nm 5),(29,.nm 29)] rfl rfl ?_ ?_) (λi=>?_)
 .have v:ch++NL p.length g 0=ch:=by simp[NL]
  simp only[v];first|exact eN|refine eM ?_
 .first|exact eN|refine eM ?_
 obtain⟨i,hi⟩:=i;have E:=Hk p.length g hi;have r:=λh:i<g.length=>kM p.length g h;simp only;generalize o:NL p.length g i=os at *;repeat'(first|exact trivial|apply eS rfl|apply AC|refine rX e ?_ ?_|refine rC ?_ ?_<;>intro b<;>try(cases b;done))
 .exact b
 .have l:i<g.length:=IN.1 b;have q:=J5 f i;have G:(g.getD i (0,[])).2.length<=100000:=(f.2 _ (AE g (0,[]) l)).1;generalize hx:g.getD i (0,[])=x at *;obtain⟨H,xs⟩:=x;simp only at q G r ⊢;refine AL (ι:={j:Nat//j<=xs.length}) (λj=>⟨[(0,.p G0 p),(3,.bp 3 [] 0),(4,.bp 4 [] 0),(5,.bp 5 [] 0),(10,.bp 10 [] 0),(33,.p G2 g),(34,.p (.int .i64) (g.length:Int)),(35,.p (.int .i64) (i:Int)),(43,.p DK xs),(44,.p (.int .i64) (xs.length:Int)),(45,.p (.int .i64) (j.1:Int))],[(3,.box 25 true [.p G2 g]),(4,.box 25 true [.raw (.slice none 0 0)]),(5,.box 25 true [.sr 29 He 0 (ch++os).length]),(29,.arr 93 He (ch++os)),(10,.box 93 true [.p T3 H,.sr 60 A2 0 (AR p.length (xs.take j.1)).length]),(60,.arr 106 A2 (AR p.length (xs.take j.1)))]⟩) (λj=>xs.length-j.1) ⟨0,ON _⟩ (AD [(3,.nm 3),(4,.nm 4),(5,.nm 5),(29,.nm 29),(10,.nm 10),(60,.nil)] rfl rfl ?_ ?_) (λj=>?_)
  .first|exact eN|refine eM ?_
   exact⟨rfl,rfl⟩
  .first|exact eN|refine eM ?_
  obtain⟨j,J⟩:=j;have w:(AR p.length (xs.take j)).length=j:=by unfold AR;rw[OF,OS];omega
  have y:=λh:j<xs.length=>CK (λa:Int×Int=>(a.1,a.2+(p.length:Int))) xs (0,0) h;simp only;repeat'(first|exact trivial|apply eS rfl|apply AC|refine rX e ?_ ?_|refine rC ?_ ?_<;>intro b<;>try(cases b;done))
  .exact b
  .have d:j<xs.length:=IN.1 b;have L:=q _ (AE xs (0,0) d);refine⟨⟨by omega,by omega⟩,?_⟩;rw[w];simp only[AP];omega
  .omega
  .have d:j<xs.length:=IN.1 b;have z:AR p.length (xs.take (j+1))=AR p.length (xs.take j)++[((xs.getD j (0,0)).1,(xs.getD j (0,0)).2+(p.length:Int))]:=y d;refine⟨⟨j+1,d⟩,by simp only;omega,AD [(3,.nm 3),(4,.nm 4),(5,.nm 5),(29,.nm 29),(10,.nm 10),(60,.nm 60)] rfl rfl ?_ ?_⟩
   .simp only[z];first|exact eN|refine eM ?_
   first|exact eN|refine eM ?_
  .rw[A,E];simp only[AP];omega
  .omega
  have d:xs.take j=xs:=By (SY.1 b);have F:=r l;rw[d];refine⟨⟨i+1,l⟩,by simp only;omega,AD [(3,.nm 3),(4,.nm 4),(5,.nm 5),(29,.nm 29)] rfl rfl ?_ ?_⟩
  .simp only[F,<-SZ];first|exact eN|refine eM ?_
  first|exact eN|refine eM ?_
 have C:i=g.length:=by
  have:=SY.1 b;omega
 subst C;rw[Hj]at o;rw[o]at s;exact fI e [.cell 4 25] (by rw[<-s];exact eR)
def Fd (l:List (Int×Int)) (e:Int):Int×Bool:=match l with
 | []=>(0,false)
 | a :: l=>if a.1=e then (a.2,true) else Fd l e
theorem Xq (e:Int) (l:List (Int×Int)) {k:Nat} (h:k<l.length):Fd (l.drop k) e=if (l.getD k (0,0)).1=e then ((l.getD k (0,0)).2,true) else Fd (l.drop (k+1)) e:=by
 rw[SR h];have e:l.getD k (0,0)=l[k]:=by simp[AS,h]
 rw[e];rfl
def A3c:Ab:={ ins:=[D7,T3,T3],pre:=λ(f,n,_,_)=>E1 f/\0<=n/\n<(List.length f:Int),out:=λ(f,n,e,_)=>[.p T3 (Fd (List.getD f n.toNat (0,[])).2 e).1,.p .bool (Fd (List.getD f n.toNat (0,[])).2 e).2] }
theorem A5K:Ag Tryz.prog 123 A3c:=by
 refine fK [0,1,2,3,6,7,9,15,16,17,18,24] Tryz.func123 Tryz.ntmps123 AI ?_;rintro w0 O0 ⟨f,n,e,u⟩ c-⟨hf,h0,h1⟩;simp only[A3c,AN];repeat'(first|exact trivial|apply eS rfl|apply AC|refine rX c ?_ ?_|refine rC ?_ ?_<;>intro a<;>try(cases a;done))
 .exact⟨h0,h1⟩
 generalize hx:(f.getD n.toNat (0,[])).2=xs at *;have g:xs.length<=100000:=by
  rw[<-hx];have hn:n.toNat<f.length:=by
   have h0:(0:Int)<=n:=h0;have h1:(n:Int)<(List.length f:Int):=h1;exact(Int.toNat_lt h0).2 h1
  exact hf.2 _ (AE f (0,[]) hn)
 refine AL (ι:={k:Nat//k<=xs.length/\Fd xs e=Fd (xs.drop k) e}) (λk=>⟨[(2,.p T3 e),(15,.p DK xs),(16,.p (.int .i64) (xs.length:Int)),(17,.p (.int .i64) (k.1:Int))],[]⟩) (λk=>xs.length-k.1) ⟨0,ON _,rfl⟩ (AD [] rfl rfl ?_ ?_) (λk=>?_)
 .first|exact eN|refine eM ?_
 .first|exact eN|refine eM ?_
 obtain⟨k,hk,d⟩:=k;repeat'(first|exact trivial|apply eS rfl|apply AC|refine rX c ?_ ?_|refine rC ?_ ?_<;>intro a<;>try(cases a;done))
 .exact a
 .have b:k<xs.length:=IN.1 (by assumption);have h:=Xq e xs b;rw[DO a]at h;rw[d,h];exact fI c [.tmp 6,.tmp 7]
 .omega
 .have b:k<xs.length:=IN.1 (by assumption);have h:=Xq e xs b;rw[BY a]at h;refine⟨⟨k+1,b,d.trans h⟩,by simp only;omega,AD [] rfl rfl ?_ ?_⟩
  .first|exact eN|refine eM ?_
  first|exact eN|refine eM ?_
 have b:xs.drop k=[]:=SV (SY.1 a);rw[b]at d;rw[d];exact fI c [.tmp 6,.tmp 7] (by first|exact eR|refine Y6 ?_;exact⟨rfl,rfl⟩)
section
attribute [local go_sem] A3c
def Ic (f:List AB):Int->List Int->Int×Bool
 | n,[]=>(n,true)
 | n,e :: p=>if (Fd (AK f n) e).2=true then Ic f (Fd (AK f n) e).1 p else (0,false)
theorem Zy {p:List Int} {k:Nat} (h:k<p.length):p.drop k=p.getD k 0 :: p.drop (k+1):=by
 rw[SR h];simp[AS,h]
theorem kN {l:List (Int×Int)} {e:Int} (h:(Fd l e).2=true):∃a∈l,a.1=e/\a.2=(Fd l e).1:=by
 induction l with
 | nil=>simp[Fd]at h
 | cons a l d =>
  simp only[Fd]at h ⊢;split
  .rename_i e1;exact⟨a,by simp,e1,rfl⟩
  rename_i e1;rw[BY e1]at h;obtain⟨b,hb,h1,c⟩:=d h;exact⟨b,by simp[hb],h1,c⟩
theorem y6 {l:List (Int×Int)} (hs:Ih l) (hn:∀a∈l,0<=a.2) (e:Int):Fd l e=if Q3 l e<0 then (0,false) else (Q3 l e,true):=by
 cases h:(Fd l e).2 with
 | true =>
  obtain⟨a,ha,e1,e2⟩:=kN h;have ht:=tK hs ha;rw[e1]at ht;have:=hn a ha;rw[BY oa,ht,e2,<-h]
 | false =>
  have c:∀a∈l,a.1≠e:=by
   intro a ha e1;clear hs hn;induction l with
   | nil=>cases ha
   | cons b l d =>
    simp only[Fd]at h;split at h
    .cases h
    rename_i hb;rcases At.1 ha with rfl|ha
    .exact hb e1
    exact d h ha
  have ht:Q3 l e=-1:=by
   unfold Q3;clear hs hn h;generalize (-1:Int)=t;induction l with
   | nil=>rfl
   | cons b l d =>
    rw[SU,BY (c b sc)];exact d (λa ha=>c a (by simp[ha]))
  have h0:(Fd l e).1=0:=by
   clear hs hn ht;induction l with
   | nil=>rfl
   | cons b l d =>
    simp only[Fd];rw[BY (c b sc)];refine d ?_ (λa ha=>c a (by simp[ha]));simp only[Fd]at h
    rwa [BY (c b sc)]at h
  rw[ht,DO dc,<-h0,<-h]
theorem Qt {f:List AB} (hf:AO f) (hs:∀x∈f,Ih x.2):∀(p:List Int) (n:Int),Ic f n p=match AY f n p with|some m=>(m,true)|none=>(0,false)
 | [],n=>rfl
 | e :: p,n=>by
  have h:=y6 (Cd hs n) (λa ha=>(Af hf ha).1) e;simp only[Ic,AY];rw[h];by_cases ht:Q3 (AK f n) e<0
  .rw[DO ht,DO ht];rfl
  rw[BY ht,BY ht];exact Qt hf hs p _
def atS:Ab:={ ins:=[D7,G0],pre:=λ(f,_,_)=>AO f/\0<List.length f,out:=λ(f,p,_)=>[.p T3 (Ic f 0 p).1,.p .bool (Ic f 0 p).2] }
attribute [local go_sem] atS
theorem A9j:Ag Tryz.prog 68 atS:=by
 refine fK [0,1,2,4,5,6,8,9,10,11,12,13,14,25] Tryz.func68 Tryz.ntmps68 (AF A5K AI) ?_;rintro w0 O0 ⟨f,p,u⟩ e ⟨-,⟨h,-⟩,-⟩ ⟨hf,h0⟩;simp only[AP]at h;simp only[atS,AN];have i:E1 f:=⟨hf.1,λx hx=>(hf.2 x hx).1⟩;have h0:0<f.length:=h0;repeat'(first|exact trivial|apply eS rfl|apply AC|refine rX e ?_ ?_|refine rC ?_ ?_<;>intro b<;>try(cases b;done))
 refine AL (ι:={s:Nat×Int//s.1<=p.length/\(0<=s.2/\s.2<(f.length:Int))/\Ic f 0 p=Ic f s.2 (p.drop s.1)}) (λs=>⟨[(2,.bp 2 [] 0),(6,.p T3 s.1.2),(11,.p G0 p),(12,.p (.int .i64) (p.length:Int)),(13,.p (.int .i64) (s.1.1:Int))],[(2,.box 25 true [.p G2 f])]⟩) (λs=>p.length-s.1.1) ⟨(0,0),ON _,⟨Sh 0,by show (0:Int)<_;omega⟩,rfl⟩ (AD [(2,.nm 2)] rfl rfl ?_ ?_) (λs=>?_)
 .first|exact eN|refine eM ?_
 .first|exact eN|refine eM ?_
 obtain⟨⟨k,n⟩,hk,hn,d⟩:=s;simp only at hk hn d ⊢;repeat'(first|exact trivial|apply eS rfl|apply AC|refine rX e ?_ ?_|refine rC ?_ ?_<;>intro b<;>try(cases b;done))
 .exact b
 .exact⟨i,hn⟩
 .have c:k<p.length:=IN.1 (by assumption);have h1:Ic f 0 p=(0,false):=by
   rw[d,Zy c];simp only[Ic];rw[BY (by rw[b];simp)]
  exact fI e [.tmp 4,.tmp 5] (by rw[h1];exact eR)
 .omega
 .have c:k<p.length:=IN.1 (by assumption);have h1:=d;rw[Zy c]at h1;simp only[Ic]at h1;rw[DO b]at h1;obtain⟨a,ha,-,e2⟩:=kN b;have g:=Af hf ha;rw[e2]at g;refine⟨⟨(k+1,(Fd (f.getD n.toNat (0,[])).2 (p.getD k 0)).1),c,g,h1⟩,by simp only;omega,AD [(2,.nm 2)] rfl rfl ?_ ?_⟩
  .first|exact eN|refine eM ?_
  first|exact eN|refine eM ?_
 have c:p.drop k=[]:=SV (SY.1 b);rw[c]at d;exact fI e [.tmp 4,.tmp 5] (by rw[d];first|exact eR|refine Y6 ?_;exact⟨rfl,rfl⟩)
end
def kO (h:AG):Int:=YX h (sb [65,82,71,83])
def p6 (h:AG) (i:Nat):List Int:=kO h :: (List.replicate i (AM h).rest++[(AM h).first])
theorem A5L (h:AG) (i:Nat):(p6 h i).length=i+2:=by simp[p6]
def Id (pl:Nat->List Int):Nat->List (List AB)->List (List AB)
 | _,[]=>[]
 | i,k :: l=>BS (pl i) k :: Id pl (i+1) l
noncomputable def Ga (h:AG) (pl:Nat->List Int):Nat->List AB->List (List AB)->List AB×Bool
 | _,f,[]=>(f,true)
 | i,f,k :: l=>if (dH h f (BS (pl i) k)).2=true then Ga h pl (i+1) (dH h f (BS (pl i) k)).1 l else ([],false)
theorem Xr {pl:Nat->List Int} {x:List AB}:∀ {l:List (List AB)} {i:Nat},x∈Id pl i l->∃j,j<l.length/\x=BS (pl (i+j)) (l.getD j [])
 | k :: l,i,h=>by
  rcases At.1 h with rfl|h
  .exact⟨0,by simp,rfl⟩
  obtain⟨j,a,rfl⟩:=Xr h;exact⟨j+1,by simpa using a,by rw[show i+(j+1)=i+1+j by omega];rfl⟩
theorem Xs {h:AG} {pl:Nat->List Int}:∀ {l:List (List AB)} {i:Nat} {f:List AB},(∀x∈Id pl i l,x.length<=100)->(Ga h pl i f l).1.length<=f.length+100*l.length
 | [],i,f,_=>No _
 | k :: l,i,f,hx=>by
  unfold Ga;split
  .have h1:=uN (h:=h) (a:=f) (b:=BS (pl i) k);have d:=hx _ (gO (a:=BS (pl i) k) (l:=Id pl (i+1) l));have e:=Xs (h:=h) (pl:=pl) (l:=l) (i:=i+1) (f:=(dH h f (BS (pl i) k)).1) λx c=>hx x (GO _ c);simp only[IF];omega
  simp
section
variable {h:AG} (hh:H14 h)
include hh
theorem Xt {pl:Nat->List Int}:∀(l:List (List AB)) (i:Nat) (f:List AB) (L:List (List AB)),Mh h L (f,true)->(∀x∈L,VF h x)->(∀x∈Id pl i l,VF h x/\x.length<=100)->f.length+100*l.length<=10000->Mh h (L++Id pl i l) (Ga h pl i f l)
 | [],i,f,L,H,n,hx,hl=>by
  show Mh h (L++[]) (f,true);rw[UL];exact H
 | k :: l,i,f,L,H,n,hx,hl=>by
  have hu:=hx _ (gO (a:=BS (pl i) k) (l:=Id pl (i+1) l));have g:=H.vf rfl;simp only[IF]at hl;have ht:=uN (h:=h) (a:=f) (b:=BS (pl i) k);have hs:Mh h (L++[BS (pl i) k]) (dH h f (BS (pl i) k)):=by
   refine(A5I hh g.wt.1 hu.1 (by have:=hu.2;show f.length+_<=10000;omega)).congr λX j=>?_;rw[Xo,Hi];constructor
   .rintro⟨⟨m,d⟩,p⟩ x q;rcases Do.1 q with c|c
    .exact A39 hh.ok n g.wt.1 j.1 g.hom d x c
    rw[SQ.1 c];exact p
   intro hb;exact⟨g.least X j λx d=>hb x (UM _ d),hb _ (AAu _ (SQ.2 rfl))⟩
  show Mh h (L++BS (pl i) k :: Id pl (i+1) l) (Ga h pl i f (k :: l));unfold Ga;split
  .rename_i o;have:=Xt l (i+1) (dH h f (BS (pl i) k)).1 (L++[BS (pl i) k]) (by rw[<-o];exact hs) (λx d=>by
    rcases Do.1 d with c|c
    .exact n x c
    rw[SQ.1 c];exact hu.1) (λx d=>hx x (GO _ d)) oa
   rwa [SZ,List.singleton_append]at this
  rename_i o;refine .inr ⟨rfl,λX j hb=>?_⟩;rcases hs with ⟨e,-⟩|⟨-,r⟩
  .exact o e
  refine r X j λx d=>hb x ?_;rcases Do.1 d with c|c
  .exact UM _ c
  exact AAu _ (by rw[SQ.1 c];exact gO)
omit hh in
theorem y7 {f:List AB} (a:Wt h f):Mh h [f] (f,true):=.inl ⟨rfl,a,Hi.2 ⟨id,R8 a.1.str⟩,λ_ _ hb=>Hi.1 hb⟩
end
theorem A7T {h:AG} (e:FH h=true) (ha:0<=kO h) (i:Nat):pN h (p6 h i):=by
 obtain⟨⟨h1,a⟩,-⟩:=Gx e;have b:=F9 h (sb [70,73,82,83,84]);have c:=F9 h (sb [82,69,83,84]);have d:=F9 h (sb [65,82,71,83]);intro x hx;rcases At.1 hx with rfl|hx
 .exact⟨ha,d.2⟩
 rcases Do.1 hx with hx|hx
 .rw[(List.mem_replicate.1 hx).2];exact⟨a,c.2⟩
 rw[SQ.1 hx];exact⟨h1,b.2⟩
structure A7U (h:AG) (ar:Int) (f:List AB):Prop where
 arb:1<=ar/\ar<=2
 chk:dB h f=0
 args:0<=kO h
 lw:FH h=true
 walk:∀i:Nat,(i:Int)<ar->∃n,AY f 0 (p6 h i)=some n
section
attribute [local go_sem] Ja PI Xi
def BJ (h:AG) (w:LW):Obj:=.box 115 true [.p Ey h,.p T3 w.list,.p T3 w.cons,.p T3 w.null,.p T3 w.dlist,.p T3 w.first,.p T3 w.rest,.p T3 w.head,.p T3 w.last]
theorem kP (h:AG) (w:LW) (f:List AB) (n:Int):BT Tryz.prog 90 [.p YO (zR h w),.p D7 f,.p T3 n] [] [] (λres c=>res=.clo 139 [5,3,4]/\c=[(5,.box 3 false [.p T3 n]),(4,.box 25 true [.p G2 f]),(3,BJ h w)]):=by
 refine Nk [0,1,2,3,4,5,6] [] [] Tryz.func90 Tryz.ntmps90 AI ?_;intro w0 K O0 ρ0 a d e;simp only[A1,zR];repeat'(first|exact trivial|apply eS rfl|apply AC|refine rX a ?_ ?_|refine rC ?_ ?_<;>intro b<;>try(cases b;done))
 exact fM a [.tmp 6] (.clo 139 [5,3,4]) eT ⟨rfl,rfl⟩
abbrev WS:=List Int×List Int×Bool×Int
def BE (f:List AB) (n:Int):AB:=f.getD n.toNat (0,[])
def Mi (h:AG) (w:LW) (f:List AB) (s:WS):WS:=(s.1++[s.2.2.2],if BL h w (BE f s.2.2.2)=2 then s.2.1++[Av (BE f s.2.2.2).2 w.first] else s.2.1,decide (BL h w (BE f s.2.2.2)=1),Av (BE f s.2.2.2).2 w.rest)
def Ao (h:AG) (w:LW) (f:List AB) (n:Int):Nat->WS
 | 0=>([],[],false,n)
 | i+1=>Mi h w f (Ao h w f n i)
def WGo (h:AG) (w:LW) (f:List AB) (n:Int) (i:Nat):Prop:=∀j,j<i->BL h w (BE f (Ao h w f n j).2.2.2)=2/\(Ao h w f n j).2.2.2∉(Ao h w f n j).1
theorem y8 (h:AG) (w:LW) (x:AB):BL h w x=0\/BL h w x=1\/BL h w x=2\/BL h w x=3:=by
 unfold BL;split
 .exact .inr (.inl rfl)
 split
 .exact .inr (.inr (.inl rfl))
 split
 .exact .inr (.inr (.inr rfl))
 exact .inl rfl
theorem K5 {h:AG} {w:LW} {f:List AB} {n:Int} (hf:AO f) (n0:0<=n) (n1:n<(f.length:Int)):∀i,WGo h w f n i->JA f (Ao h w f n i).1/\(Ao h w f n i).1.length=i/\(0<=(Ao h w f n i).2.2.2/\(Ao h w f n i).2.2.2<(f.length:Int))/\(Ao h w f n i).2.1.length=i
 | 0,_=>⟨F4 f,rfl,⟨n0,n1⟩,rfl⟩
 | i+1,c=>by
  obtain⟨h1,d,a,e⟩:=K5 hf n0 n1 i (λj k=>c j oa);obtain⟨b,g⟩:=c i oa;have hk:=NH b;refine⟨h1.snoc a.1 a.2 g,?_,⟨hk.2,?_⟩,?_⟩
  .show ((Ao h w f n i).1++_).length=_;rw[As,d];rfl
  .exact Uu oa _ λx hx=>(Af hf (n:=(Ao h w f n i).2.2.2) hx).2
  show (if _ then _ else _:List Int).length=_;rw[DO b,As,e];rfl
theorem kQ {h:AG} {w:LW} {f:List AB} {n:Int} (k:Nat):∀i,WGo h w f n i->Zq h w f (k+i) [] [] n=Zq h w f k (Ao h w f n i).1 (Ao h w f n i).2.1 (Ao h w f n i).2.2.2
 | 0,_=>rfl
 | i+1,b=>by
  have e:=kQ (h:=h) (w:=w) (f:=f) (n:=n) (k+1) i (λj g=>b j oa);obtain⟨a,d⟩:=b i oa;rw[show k+(i+1)=k+1+i by omega,e];have c:BL h w (f.getD (Ao h w f n i).2.2.2.toNat (0,[]))=2:=a;show (if _ then _ else _)=_;rw[BY d,c,BY dc,BY dc,BY dc];show _=Zq h w f k (Mi h w f (Ao h w f n i)).1 (Mi h w f (Ao h w f n i)).2.1 (Mi h w f (Ao h w f n i)).2.2.2;unfold Mi;rw[DO a];rfl
theorem A3d {h:AG} {f:List AB} {n:Int} (hf:AO f) (j:FH h=true) (n0:0<=n) (n1:n<(f.length:Int)) {i:Nat} (c:WGo h (AM h) f n i) :
  ((Ao h (AM h) f n i).2.2.2∈(Ao h (AM h) f n i).1->Dx h f n=([],false,6)) /\
  ((Ao h (AM h) f n i).2.2.2∉(Ao h (AM h) f n i).1->BL h (AM h) (BE f (Ao h (AM h) f n i).2.2.2)=0->Dx h f n=([],false,13)) /\
  ((Ao h (AM h) f n i).2.2.2∉(Ao h (AM h) f n i).1->BL h (AM h) (BE f (Ao h (AM h) f n i).2.2.2)≠0->BL h (AM h) (BE f (Ao h (AM h) f n i).2.2.2)≠2->Dx h f n=((Ao h (AM h) f n (i+1)).2.1,(Ao h (AM h) f n (i+1)).2.2.1,0)):=by
 obtain⟨h1,k,l,-⟩:=K5 hf n0 n1 i c;have hl:=h1.len;have e:Dx h f n=Zq h (AM h) f ((f.length-i)+1) (Ao h (AM h) f n i).1 (Ao h (AM h) f n i).2.1 (Ao h (AM h) f n i).2.2.2:=by
  unfold Dx;rw[DO j,<-kQ _ _ c,show f.length-i+1+i=f.length+1 by omega]
 rw[e];show (_->(if _ then _ else _)=_)/\(_->_->(if _ then _ else _)=_)/\(_->_->_->(if _ then _ else _)=_);refine⟨λq=>DO q,λb a=>?_,λb a d=>?_⟩
 .have a:BL h (AM h) (f.getD (Ao h (AM h) f n i).2.2.2.toNat (0,[]))=0:=a;rw[BY b,a];rfl
 have hk:=y8 h (AM h) (BE f (Ao h (AM h) f n i).2.2.2);have hs:(Ao h (AM h) f n (i+1)).2.1=(Ao h (AM h) f n i).2.1:=BY d;have g:(Ao h (AM h) f n (i+1)).2.2.1=decide (BL h (AM h) (BE f (Ao h (AM h) f n i).2.2.2)=1):=rfl;rw[BY b,hs,g];show (if BL h (AM h) (BE f (Ao h (AM h) f n i).2.2.2)=1 then _ else if BL h (AM h) (BE f (Ao h (AM h) f n i).2.2.2)=3 then _ else _)=_;rcases hk with hk|hk|hk|hk
 .exact absurd hk a
 .rw[hk];rfl
 .exact absurd hk d
 rw[hk];rfl
def wE:List (Nat×AV):=[(4,.bp 4 [] 0),(6,.bp 6 [] 0),(7,.bp 7 [] 0),(8,.bp 8 [] 0),(9,.bp 9 [] 0),(11,.bp 11 [] 0),(12,.bp 12 [] 0),(13,.bp 13 [] 0)]
def wO (h:AG) (w:LW) (f:List AB) (L:Go.Loop) (a:Array Value) (s:WS) (m e:Int):List (Nat×Obj):=[(50,.box 3 false [.p T3 m]),(51,BJ h w),(52,.box 25 true [.p G2 f]),(101,.loop L),(102,.frame a wE),(6,.box 61 false [.raw (.slice none 0 0)]),(7,.box 4 false [.p .bool false]),(8,.box 35 false [.p HD e]),(9,BJ h w),(4,.box 25 true [.p G2 f]),(11,.box 61 false [.sr 60 T3 0 s.2.1.length]),(60,.arr 3 T3 s.2.1),(12,.box 4 false [.p .bool s.2.2.1]),(13,.box 119 false [.mp 24]),(24,.mapo T3 .bool (Fb s.1))]
def C0 (L:Go.Loop):Go.Loop:={ L with state:=.done,pending:=some .ret }
def WRd (h:AG) (w:LW) (f:List AB) (n:Int) (L:Go.Loop) (a:Array Value) (i:Nat) (b:Bool) (O:List (Nat×Obj)):Prop :=
 ((Ao h w f n i).2.2.2∈(Ao h w f n i).1/\b=false/\O=wO h w f (C0 L) a (Ao h w f n i) (Ao h w f n i).2.2.2 6) \/
 ((Ao h w f n i).2.2.2∉(Ao h w f n i).1/\BL h w (BE f (Ao h w f n i).2.2.2)=0/\b=false/\O=wO h w f (C0 L) a (Ao h w f n i) (Ao h w f n i).2.2.2 13) \/
 ((Ao h w f n i).2.2.2∉(Ao h w f n i).1/\BL h w (BE f (Ao h w f n i).2.2.2)≠0/\b=true/\O=wO h w f L a (Ao h w f n (i+1)) (Ao h w f n i).2.2.2 0)
theorem y9 (h:AG) (w:LW) (f:List AB) (n:Int) (C:WOk h w) (hf:AO f) (ht:Cj h f) (n0:0<=n) (n1:n<(f.length:Int)) (L:Go.Loop) (d:Array Value)
  (m:∀i,WGo h w f n i->WI Tryz.prog 101 [.p T3 (Ao h w f n i).2.2.2] (wO h w f L d (Ao h w f n i) (Ao h w f n i).2.2.2 0) [50,51,52,101,102,6,7,8,9,4,11,12,13,24] (λres k=>∃b,res=.p .bool b/\WRd h w f n L d i b k)) :
  BT Tryz.prog 139 [.yl 101,.bp 50 [] 0,.bp 51 [] 0,.bp 52 [] 0] (wO h w f L d (Ao h w f n 0) n 0) [50,51,52,101,102,6,7,8,9,4,11,12,13,24] (λres k=>res=.raw (.tuple #[])/\∃i b,WGo h w f n i/\WRd h w f n L d i b k/\(b=true->BL h w (BE f (Ao h w f n i).2.2.2)≠2)):=by
 refine Nk [0,1,2,3,14] [] [] Tryz.func139 Tryz.ntmps139 (AF Qm (AF Ql AI)) ?_;intro w0 K O0 ρ0 a A B;simp only[A1,wO,BJ];have hy:=m;clear m;repeat'(first|exact trivial|apply eS rfl|apply AC|refine rX a ?_ ?_|refine rC ?_ ?_<;>intro c<;>try(cases c;done))
 refine AL (ι:={i:Nat//WGo h w f n i}) (λi=>⟨[(0,.yl 101),(1,.bp 50 [] 0),(2,.bp 51 [] 0),(3,.bp 52 [] 0)],wO h w f L d (Ao h w f n i.1) (Ao h w f n i.1).2.2.2 0⟩) (λi=>f.length+1-i.1) ⟨0,λj o=>by omega⟩ (AD [(50,.nm 50),(51,.nm 51),(52,.nm 52),(101,.nm 101),(102,.nm 102),(6,.nm 6),(7,.nm 7),(8,.nm 8),(9,.nm 9),(4,.nm 4),(11,.nm 11),(60,.nm 60),(12,.nm 12),(13,.nm 13),(24,.nm 24)] rfl rfl ?_ ?_) (λi=>?_)
 .simp only[wO,BJ,wE,Ao];first|exact eN|refine eM ?_
 .simp only[wO,BJ,wE,Ao];first|exact eN|refine eM ?_
 obtain⟨i,hi⟩:=i;obtain⟨q,v,r,x⟩:=K5 hf n0 n1 i hi;have t:=hy i hi;have y:=q.len;have z:Ao h w f n (i+1)=Mi h w f (Ao h w f n i):=rfl;simp only[wO,BJ,wE];repeat'(first|exact trivial|apply eS rfl|apply AC|refine rX a ?_ ?_|refine rC ?_ ?_<;>intro c<;>try(cases c;done))
 refine cG 2 a ?_ ?_
 .trivial
 refine rY 101 101 a (t) [(50,.nm 50),(51,.nm 51),(52,.nm 52),(101,.nm 101),(102,.nm 102),(6,.nm 6),(7,.nm 7),(8,.nm 8),(9,.nm 9),(4,.nm 4),(11,.nm 11),(60,.nm 60),(12,.nm 12),(13,.nm 13),(24,.nm 24)] [60] ?_ ?_ ?_
 .first|exact eN|refine eM ?_
 .simp only[wO,BJ,wE];first|exact eN|refine eM ?_
 rintro _ _ ⟨b,rfl,g⟩;have s:=g;rcases s with ⟨l,rfl,rfl⟩|⟨l,u,rfl,rfl⟩|⟨l,u,rfl,rfl⟩
 .refine⟨[(50,.nm 50),(51,.nm 51),(52,.nm 52),(101,.nm 101),(102,.nm 102),(6,.nm 6),(7,.nm 7),(8,.nm 8),(9,.nm 9),(4,.nm 4),(11,.nm 11),(60,.nm 60),(12,.nm 12),(13,.nm 13),(24,.nm 24)],.p .bool false,wO h w f (C0 L) d (Ao h w f n i) (Ao h w f n i).2.2.2 6,rfl,rfl,?_,?_,rfl,rfl,?_⟩
  .simp only[wO,BJ,wE];first|exact eN|refine eM ?_
  .first|exact eN|refine eM ?_
  simp only[wO,BJ,wE];refine rL a ?_ ?_
  .trivial
  repeat'(first|exact trivial|apply eS rfl|apply AC|refine rX a ?_ ?_|refine rC ?_ ?_<;>intro c<;>try(cases c;done))
  refine Ev.ent (σ':=⟨[],wO h w f (C0 L) d (Ao h w f n i) (Ao h w f n i).2.2.2 6⟩) ?_ (AD [(50,.nm 50),(51,.nm 51),(52,.nm 52),(101,.nm 101),(102,.nm 102),(6,.nm 6),(7,.nm 7),(8,.nm 8),(9,.nm 9),(4,.nm 4),(11,.nm 11),(60,.nm 60),(12,.nm 12),(13,.nm 13),(24,.nm 24)] rfl rfl ?_ ?_)
  .exact fM a [] (.raw (.tuple #[])) rfl ⟨rfl,i,false,hi,g,λe=>by cases e⟩
  .simp only[wO,BJ,wE];first|exact eN|refine eM ?_
  first|exact eN|refine eM ?_
 .refine⟨[(50,.nm 50),(51,.nm 51),(52,.nm 52),(101,.nm 101),(102,.nm 102),(6,.nm 6),(7,.nm 7),(8,.nm 8),(9,.nm 9),(4,.nm 4),(11,.nm 11),(60,.nm 60),(12,.nm 12),(13,.nm 13),(24,.nm 24)],.p .bool false,wO h w f (C0 L) d (Ao h w f n i) (Ao h w f n i).2.2.2 13,rfl,rfl,?_,?_,rfl,rfl,?_⟩
  .simp only[wO,BJ,wE];first|exact eN|refine eM ?_
  .first|exact eN|refine eM ?_
  simp only[wO,BJ,wE];refine rL a ?_ ?_
  .trivial
  repeat'(first|exact trivial|apply eS rfl|apply AC|refine rX a ?_ ?_|refine rC ?_ ?_<;>intro c<;>try(cases c;done))
  refine Ev.ent (σ':=⟨[],wO h w f (C0 L) d (Ao h w f n i) (Ao h w f n i).2.2.2 13⟩) ?_ (AD [(50,.nm 50),(51,.nm 51),(52,.nm 52),(101,.nm 101),(102,.nm 102),(6,.nm 6),(7,.nm 7),(8,.nm 8),(9,.nm 9),(4,.nm 4),(11,.nm 11),(60,.nm 60),(12,.nm 12),(13,.nm 13),(24,.nm 24)] rfl rfl ?_ ?_)
  .exact fM a [] (.raw (.tuple #[])) rfl ⟨rfl,i,false,hi,g,λe=>by cases e⟩
  .simp only[wO,BJ,wE];first|exact eN|refine eM ?_
  first|exact eN|refine eM ?_
 refine⟨[(50,.nm 50),(51,.nm 51),(52,.nm 52),(101,.nm 101),(102,.nm 102),(6,.nm 6),(7,.nm 7),(8,.nm 8),(9,.nm 9),(4,.nm 4),(11,.nm 11),(60,.nm 60),(12,.nm 12),(13,.nm 13),(24,.nm 24)],.p .bool true,wO h w f L d (Ao h w f n (i+1)) (Ao h w f n i).2.2.2 0,rfl,rfl,?_,?_,rfl,rfl,?_⟩
 .simp only[wO,BJ,wE];first|exact eN|refine eM ?_
 .first|exact eN|refine eM ?_
 simp only[wO,BJ,wE];refine rL a ?_ ?_
 .trivial
 repeat'(first|exact trivial|apply eS rfl|apply AC|refine rX a ?_ ?_|refine rC ?_ ?_<;>intro c<;>try(cases c;done))
 .exact⟨hf,r⟩
 .refine⟨⟨i+1,λj o=>(Nat.lt_succ_iff_lt_or_eq.1 o).elim (hi j) λe=>by rw[e];exact⟨c,l⟩⟩,by simp only;omega,AD [(50,.nm 50),(51,.nm 51),(52,.nm 52),(101,.nm 101),(102,.nm 102),(6,.nm 6),(7,.nm 7),(8,.nm 8),(9,.nm 9),(4,.nm 4),(11,.nm 11),(60,.nm 60),(12,.nm 12),(13,.nm 13),(24,.nm 24)] rfl rfl ?_ ?_⟩
  .simp only[wO,BJ,wE];first|exact eN|refine eM ?_
   rfl
  first|exact eN|refine eM ?_
 refine Ev.ent (σ':=⟨[],wO h w f L d (Ao h w f n (i+1)) (Ao h w f n i).2.2.2 0⟩) ?_ (AD [(50,.nm 50),(51,.nm 51),(52,.nm 52),(101,.nm 101),(102,.nm 102),(6,.nm 6),(7,.nm 7),(8,.nm 8),(9,.nm 9),(4,.nm 4),(11,.nm 11),(60,.nm 60),(12,.nm 12),(13,.nm 13),(24,.nm 24)] rfl rfl ?_ ?_)
 .exact fM a [] (.raw (.tuple #[])) rfl ⟨rfl,i,true,hi,g,λ_=>c⟩
 .simp only[wO,BJ,wE];first|exact eN|refine eM ?_
 first|exact eN|refine eM ?_
end
section
attribute [local go_sem] Ja PI Xi
theorem zA (h:AG) (f:List AB) (n:Int) (j:AO f) (ht:Cj h f) (n0:0<=n) (n1:n<(f.length:Int)):BT Tryz.prog 54 [.p Ey h,.p D7 f,.p T3 n] [] [] (λres af=>res=.tup [.p G0 (Dx h f n).1,.p .bool (Dx h f n).2.1,.p HD (Dx h f n).2.2]):=by
 refine fKR [0,1,2,3,4,6,7,8,9,10,11,12,13,14,15,22,28,29,34,38,41] [50] [] Tryz.func54 Tryz.ntmps54 (AF Mc (AF Qm (AF Ql AI))) ?_;intro w0 K O0 ρ0 a aa ab;simp only[A1];have P:(h.1,h.2)=h:=rfl;repeat'(first|exact trivial|apply eS rfl|apply AC|refine rX a ?_ ?_|refine rC ?_ ?_<;>intro c<;>try(cases c;done))
 all_goals simp only[P]at *
 .have k:FH h=false:=by
   cases hb:FH h with
   | true=>rw[hb]at c;exact absurd rfl c
   | false=>rfl
  have g:Dx h f n=([],false,5):=by unfold Dx;rw[k,BY sc]
  simp only[k,AA0,AAp,g];exact RW a [.cell 6 61,.cell 7 4,.cell 8 35] rfl (.inl rfl) (.tup [.p G0 [],.p .bool false,.p HD 5]) eT rfl
 have k:FH h=true:=by
  cases hb:FH h with
  | false=>rw[hb]at c;exact absurd c dc
  | true=>rfl
 simp only[k,AAd,zR];have B:=Gx k;have A:=c8 h;have E:WOk h (AM h):=⟨⟨B.2.1,A.1.2.1⟩,B.2.2.1,A.1.2.2.1⟩;have u:=λ(i:Nat) (hi:WGo h (AM h) f n i)=>A3d j k n0 n1 hi;have O:=λ(i:Nat) (hi:WGo h (AM h) f n i)=>K5 j n0 n1 i hi;generalize Y:AM h=w at *;refine Ev.ent (σ':=⟨[(2,.p T3 n),(4,.bp 4 [] 0),(6,.bp 6 [] 0),(7,.bp 7 [] 0),(8,.bp 8 [] 0),(9,.bp 9 [] 0),(11,.bp 11 [] 0),(12,.bp 12 [] 0),(13,.bp 13 [] 0)],[(6,.box 61 false [.raw (.slice none 0 0)]),(7,.box 4 false [.p .bool false]),(8,.box 35 false [.p HD 0]),(9,BJ h w),(4,.box 25 true [.p G2 f]),(11,.box 61 false [.raw (.slice none 0 0)]),(12,.box 4 false [.p .bool false]),(13,.box 119 false [.mp 24]),(24,.mapo T3 .bool [])]⟩) ?_ (AD [(6,.nm 6),(7,.nm 7),(8,.nm 8),(9,.nm 9),(4,.nm 4),(11,.nm 11),(12,.nm 12),(13,.nm 13),(24,.nm 24)] rfl rfl ?_ ?_)
 .simp only[BJ];refine cP 3 a ?_ ?_
  .trivial
  refine rM a (kP h w f n) [] [] ?_ ?_ ?_
  .simp only[zR];first|exact eN|refine eM ?_
  .first|exact eN|refine eM ?_
  rintro _ _ ⟨rfl,rfl⟩;refine⟨[(50,.nm 5),(52,.nm 4),(51,.nm 3)],.clo 139 [50,51,52],[(50,.box 3 false [.p T3 n]),(52,.box 25 true [.p G2 f]),(51,BJ h w)],rfl,rfl,?_,?_,rfl,rfl,Cu ?_⟩
  .simp only[BJ];first|exact eN|refine eM ?_
  .first|exact eN|refine eM ?_
  simp only[BJ];repeat'(first|exact trivial|apply eS rfl|apply AC|refine rX a ?_ ?_|refine rC ?_ ?_<;>intro c<;>try(cases c;done))
  refine WK a rfl rfl (by simp only[go_sem,Nat.reduceEqDiff,reduceCtorEq,Nat.reduceAdd,Nat.reduceSub,Nat.reduceMul,Nat.reduceLeDiff,Nat.reduceLT,Int.reduceLE,Int.reduceToNat,Int.reduceNeg,↓reduceIte];rfl) 101 103 102 rfl rfl rfl rfl ?_;intro L d q t H I J M S;refine⟨_,wO h w f L d (Ao h w f n 0) n 0,[50,51,52,101,102,6,7,8,9,4,11,12,13,24],_,[(50,.nm 50),(51,.nm 51),(52,.nm 52),(101,.nm 101),(102,.nm 102),(6,.nm 6),(7,.nm 7),(8,.nm 8),(9,.nm 9),(4,.nm 4),(11,.nm 11),(60,.nil),(12,.nm 12),(13,.nm 13),(24,.nm 24)],[60],y9 h w f n E j ht n0 n1 L d ?_,rfl,rfl,?_,?_,rfl,?_⟩
  .intro i hi;obtain⟨G,W,z,X⟩:=O i hi;have Z:=G.len;have r:=tJ (Ao h w f n i).1 (Ao h w f n i).2.2.2;have R:lwO (h,w.list,w.cons,w.null,w.dlist,w.first,w.rest,w.head,w.last)=w:=rfl;have C:Fb (Ao h w f n (i+1)).1=Fh T3 .bool (Ao h w f n i).2.2.2 true (Fb (Ao h w f n i).1):=by
    show Fb ((Ao h w f n i).1++[(Ao h w f n i).2.2.2])=_;simp[Fb]
   have D:(Ao h w f n (i+1)).2.2.1=(BL h w (f.getD (Ao h w f n i).2.2.2.toNat (0,[]))==1):=by
    show decide (BL h w (BE f (Ao h w f n i).2.2.2)=1)=_;rw[ABl];simp[BE]
   have hT:=a.T;have hF:=a.F;refine WJ (fr:=102) rfl rfl q I J M H S rfl (by kernel_rfl) sc rfl rfl (by kernel_rfl) (by kernel_rfl) hT hF ?_;intro ag U V ah lb a ad ae hb;simp only[wO,BJ,wE,HC];repeat'(first|exact trivial|apply eS rfl|apply AC|refine rX a ?_ ?_|refine rC ?_ ?_<;>intro c<;>try(cases c;done))
   refine⟨rfl,?_⟩;repeat'(first|exact trivial|apply eS rfl|apply AC|refine rX a ?_ ?_|refine rC ?_ ?_<;>intro c<;>try(cases c;done))
   all_goals try simp only[R]at *
   .exact⟨E,j,ht,z⟩
   .rw[r]at c;have Q:(Ao h w f n i).2.2.2∈(Ao h w f n i).1:=by simpa[inF] using c
    refine Ev.ent (σ':=⟨[],wO h w f { L with state:=.busy } d (Ao h w f n i) (Ao h w f n i).2.2.2 6⟩) ?_ (AD [(50,.nm 50),(51,.nm 51),(52,.nm 52),(101,.nm 101),(102,.nm 102),(6,.nm 6),(7,.nm 7),(8,.nm 8),(9,.nm 9),(4,.nm 4),(11,.nm 11),(60,.nm 60),(12,.nm 12),(13,.nm 13),(24,.nm 24)] rfl rfl ?_ ?_)
    .refine Hr a (yn:=101) rfl rfl sc hb ⟨false,rfl,.inl ⟨Q,rfl,?_⟩⟩;simp only[wO,BJ,wE,C0,go_sem,Nat.reduceEqDiff,reduceCtorEq,Nat.reduceAdd,Nat.reduceSub,Nat.reduceMul,Nat.reduceLeDiff,Nat.reduceLT,Int.reduceLE,Int.reduceToNat,Int.reduceNeg,↓reduceIte]
    .simp only[wO,BJ,wE];first|exact eN|refine eM ?_
    first|exact eN|refine eM ?_
   .have m:(Ao h w f n i).2.2.2∉(Ao h w f n i).1:=by
     have e:(BX T3 .bool (Ao h w f n i).2.2.2 (Fb (Ao h w f n i).1)).getD false=false:=by assumption
     rw[r]at e;intro l;have:=AB5.1 e _ l;simp at this
    refine Ev.ent (σ':=⟨[],wO h w f { L with state:=.busy } d (Ao h w f n i) (Ao h w f n i).2.2.2 13⟩) ?_ (AD [(50,.nm 50),(51,.nm 51),(52,.nm 52),(101,.nm 101),(102,.nm 102),(6,.nm 6),(7,.nm 7),(8,.nm 8),(9,.nm 9),(4,.nm 4),(11,.nm 11),(60,.nm 60),(12,.nm 12),(13,.nm 13),(24,.nm 24)] rfl rfl ?_ ?_)
    .refine Hr a (yn:=101) rfl rfl sc hb ⟨false,rfl,.inr (.inl ⟨m,c,rfl,?_⟩)⟩;simp only[wO,BJ,wE,C0,go_sem,Nat.reduceEqDiff,reduceCtorEq,Nat.reduceAdd,Nat.reduceSub,Nat.reduceMul,Nat.reduceLeDiff,Nat.reduceLT,Int.reduceLE,Int.reduceToNat,Int.reduceNeg,↓reduceIte]
    .simp only[wO,BJ,wE];first|exact eN|refine eM ?_
    first|exact eN|refine eM ?_
   .refine⟨⟨j,z⟩,?_⟩;have:=j.1;simp only[AP];omega
   .have v:BL h w (BE f (Ao h w f n i).2.2.2)≠0:=by assumption
    have m:(Ao h w f n i).2.2.2∉(Ao h w f n i).1:=by
     have e:(BX T3 .bool (Ao h w f n i).2.2.2 (Fb (Ao h w f n i).1)).getD false=false:=by assumption
     rw[r]at e;intro l;have:=AB5.1 e _ l;simp at this
    have x:(Ao h w f n (i+1)).2.1=(Ao h w f n i).2.1++[Av (f.getD (Ao h w f n i).2.2.2.toNat (0,[])).2 w.first]:=DO c;refine Ev.ent (σ':=⟨[],wO h w f { L with state:=.busy } d (Ao h w f n (i+1)) (Ao h w f n i).2.2.2 0⟩) ?_ (AD [(50,.nm 50),(51,.nm 51),(52,.nm 52),(101,.nm 101),(102,.nm 102),(6,.nm 6),(7,.nm 7),(8,.nm 8),(9,.nm 9),(4,.nm 4),(11,.nm 11),(60,.nm 60),(12,.nm 12),(13,.nm 13),(24,.nm 24)] rfl rfl ?_ ?_)
    .refine M5 a (yn:=101) rfl rfl sc hb ⟨true,rfl,.inr (.inr ⟨m,v,rfl,?_⟩)⟩;simp only[wO,BJ,wE,go_sem,Nat.reduceEqDiff,reduceCtorEq,Nat.reduceAdd,Nat.reduceSub,Nat.reduceMul,Nat.reduceLeDiff,Nat.reduceLT,Int.reduceLE,Int.reduceToNat,Int.reduceNeg,↓reduceIte,QY q t]
    .simp only[wO,BJ,wE,C,D,x];first|exact eN|refine eM ?_
    first|exact eN|refine eM ?_
   have v:BL h w (BE f (Ao h w f n i).2.2.2)≠0:=by assumption
   have m:(Ao h w f n i).2.2.2∉(Ao h w f n i).1:=by
    have e:(BX T3 .bool (Ao h w f n i).2.2.2 (Fb (Ao h w f n i).1)).getD false=false:=by assumption
    rw[r]at e;intro l;have:=AB5.1 e _ l;simp at this
   have x:(Ao h w f n (i+1)).2.1=(Ao h w f n i).2.1:=BY c;refine Ev.ent (σ':=⟨[],wO h w f { L with state:=.busy } d (Ao h w f n (i+1)) (Ao h w f n i).2.2.2 0⟩) ?_ (AD [(50,.nm 50),(51,.nm 51),(52,.nm 52),(101,.nm 101),(102,.nm 102),(6,.nm 6),(7,.nm 7),(8,.nm 8),(9,.nm 9),(4,.nm 4),(11,.nm 11),(60,.nm 60),(12,.nm 12),(13,.nm 13),(24,.nm 24)] rfl rfl ?_ ?_)
   .refine M5 a (yn:=101) rfl rfl sc hb ⟨true,rfl,.inr (.inr ⟨m,v,rfl,?_⟩)⟩;simp only[wO,BJ,wE,go_sem,Nat.reduceEqDiff,reduceCtorEq,Nat.reduceAdd,Nat.reduceSub,Nat.reduceMul,Nat.reduceLeDiff,Nat.reduceLT,Int.reduceLE,Int.reduceToNat,Int.reduceNeg,↓reduceIte,QY q t]
   .simp only[wO,BJ,wE,C,D,x];first|exact eN|refine eM ?_
   first|exact eN|refine eM ?_
  .simp only[BG,wO,BJ,wE,Ao];first|exact eN|refine eM ?_
  .simp only[BG,wO,BJ,wE,Ao];first|exact eN|refine eM ?_
   rfl
  rintro _ _ ⟨rfl,i,b,hi,N,hb⟩;rcases N with ⟨o,rfl,rfl⟩|⟨o,y,rfl,rfl⟩|⟨o,y,rfl,rfl⟩
  .have g:=(u i hi).1 o;refine⟨[(50,.nm 50),(51,.nm 51),(52,.nm 52),(101,.nm 101),(102,.nm 102),(6,.nm 6),(7,.nm 7),(8,.nm 8),(9,.nm 9),(4,.nm 4),(11,.nm 11),(60,.nm 60),(12,.nm 12),(13,.nm 13),(24,.nm 24)],wO h w f (C0 L) d (Ao h w f n i) (Ao h w f n i).2.2.2 6,C0 L,rfl,rfl,?_,rfl,rfl,rfl,rfl,?_⟩
   .simp only[wO,BJ,wE];first|exact eN|refine eM ?_
   intro b;simp only[C0,EvJ,wO,BJ,wE,BG,go_sem,Nat.reduceEqDiff,reduceCtorEq,Nat.reduceAdd,Nat.reduceSub,Nat.reduceMul,Nat.reduceLeDiff,Nat.reduceLT,Int.reduceLE,Int.reduceToNat,Int.reduceNeg,↓reduceIte];replace a:=Hs (dn:=103) (b:=b) a;repeat'(first|exact trivial|apply eS rfl|apply AC|refine rX a ?_ ?_|refine rC ?_ ?_<;>intro c<;>try(cases c;done))
   refine Ev.ent (σ':=⟨[(6,.bp 6 [] 0),(7,.bp 7 [] 0),(8,.bp 8 [] 0)],[(6,.box 61 false [.p G0 []]),(7,.box 4 false [.p .bool false]),(8,.box 35 false [.p HD 6]),(103,.dfr)]⟩) ?_ (AD [(6,.nm 6),(7,.nm 7),(8,.nm 8),(103,.nm 103)] rfl rfl ?_ ?_)
   .rw[g];exact Jq a [.cell 6 61,.cell 7 4,.cell 8 35] rfl (.inl rfl) rfl rfl (.tup [.p G0 [],.p .bool false,.p HD 6]) eT rfl
   .first|exact eN|refine eM ?_
   first|exact eN|refine eM ?_
  .have g:=(u i hi).2.1 o y;refine⟨[(50,.nm 50),(51,.nm 51),(52,.nm 52),(101,.nm 101),(102,.nm 102),(6,.nm 6),(7,.nm 7),(8,.nm 8),(9,.nm 9),(4,.nm 4),(11,.nm 11),(60,.nm 60),(12,.nm 12),(13,.nm 13),(24,.nm 24)],wO h w f (C0 L) d (Ao h w f n i) (Ao h w f n i).2.2.2 13,C0 L,rfl,rfl,?_,rfl,rfl,rfl,rfl,?_⟩
   .simp only[wO,BJ,wE];first|exact eN|refine eM ?_
   intro b;simp only[C0,EvJ,wO,BJ,wE,BG,go_sem,Nat.reduceEqDiff,reduceCtorEq,Nat.reduceAdd,Nat.reduceSub,Nat.reduceMul,Nat.reduceLeDiff,Nat.reduceLT,Int.reduceLE,Int.reduceToNat,Int.reduceNeg,↓reduceIte];replace a:=Hs (dn:=103) (b:=b) a;repeat'(first|exact trivial|apply eS rfl|apply AC|refine rX a ?_ ?_|refine rC ?_ ?_<;>intro c<;>try(cases c;done))
   refine Ev.ent (σ':=⟨[(6,.bp 6 [] 0),(7,.bp 7 [] 0),(8,.bp 8 [] 0)],[(6,.box 61 false [.p G0 []]),(7,.box 4 false [.p .bool false]),(8,.box 35 false [.p HD 13]),(103,.dfr)]⟩) ?_ (AD [(6,.nm 6),(7,.nm 7),(8,.nm 8),(103,.nm 103)] rfl rfl ?_ ?_)
   .rw[g];exact Jq a [.cell 6 61,.cell 7 4,.cell 8 35] rfl (.inl rfl) rfl rfl (.tup [.p G0 [],.p .bool false,.p HD 13]) eT rfl
   .first|exact eN|refine eM ?_
   first|exact eN|refine eM ?_
  have g:=(u i hi).2.2 o y (hb rfl);refine⟨[(50,.nm 50),(51,.nm 51),(52,.nm 52),(101,.nm 101),(102,.nm 102),(6,.nm 6),(7,.nm 7),(8,.nm 8),(9,.nm 9),(4,.nm 4),(11,.nm 11),(60,.nm 60),(12,.nm 12),(13,.nm 13),(24,.nm 24)],wO h w f L d (Ao h w f n (i+1)) (Ao h w f n i).2.2.2 0,L,rfl,rfl,?_,rfl,rfl,rfl,by rw[q];rfl,?_⟩
  .simp only[wO,BJ,wE];first|exact eN|refine eM ?_
  intro b;rw[t];generalize Ao h w f n (i+1)=s at *;simp only[EvJ,wO,BJ,wE,BG,go_sem,Nat.reduceEqDiff,reduceCtorEq,Nat.reduceAdd,Nat.reduceSub,Nat.reduceMul,Nat.reduceLeDiff,Nat.reduceLT,Int.reduceLE,Int.reduceToNat,Int.reduceNeg,↓reduceIte];replace a:=Hs (dn:=103) (b:=b) a;refine GB [60] ?_;repeat'(first|exact trivial|apply eS rfl|apply AC|refine rP a ?_ ?_|fail)
  refine HB drawsAny a 3 [([0],2)] [1] (by kernel_rfl) (Uk ?_ ?_)
  .trivial
  refine WM a [] ?_ ?_
  .trivial
  refine wU a ?_ ?_ ?_
  .trivial
  .trivial
  repeat'(first|exact trivial|apply eS rfl|apply AC|refine rX a ?_ ?_|refine rC ?_ ?_<;>intro c<;>try(cases c;done))
  refine Ev.ent (σ':=⟨[(6,.bp 6 [] 0),(7,.bp 7 [] 0),(8,.bp 8 [] 0)],[(6,.box 61 false [.p G0 s.2.1]),(7,.box 4 false [.p .bool s.2.2.1]),(8,.box 35 false [.p HD 0]),(103,.dfr)]⟩) ?_ (AD [(6,.nm 6),(7,.nm 7),(8,.nm 8),(103,.nm 103)] rfl rfl ?_ ?_)
  .rw[g];exact Jq a [.cell 6 61,.cell 7 4,.cell 8 35] rfl (.inl rfl) rfl rfl (.tup [.p G0 s.2.1,.p .bool s.2.2.1,.p HD 0]) eT rfl
  .first|exact eN|refine eM ?_
  first|exact eN|refine eM ?_
 .simp only[BJ];first|exact eN|refine eM ?_
 first|exact eN|refine eM ?_
end
section
attribute [local go_sem] Xh PH dC zO zP
def Gy:Ab:={ ins:=[Ey],pre:=λ(h,_)=>Hu h,out:=λ(h,_)=>[.p .bool (FH h)],lend:=true }
attribute [local go_sem] Gy
theorem p7:Ag Tryz.prog 47 Gy:=by
 refine fK [0,1,2,3,4,5,26,44] Tryz.func47 Tryz.ntmps47 (AF A5v (AF A7L (AF A2V AI))) ?_;rintro w0 O0 ⟨⟨ht,hf⟩,u⟩ b-hk;have hk:Hu (ht,hf):=hk;obtain⟨e1,e2,d,e,f,g,h,i⟩:=pR (ht,hf);obtain⟨⟨n,o,p,q⟩,j,k,l,m⟩:=c8 (ht,hf);simp only[Gy,AN];repeat'(first|exact trivial|apply eS rfl|apply AC|refine rX b ?_ ?_|refine rC ?_ ?_<;>intro c<;>try(cases c;done))
 all_goals simp only[e1,e2,d,e,f,g,h,i]at *
 .have a:FH (ht,hf)=false:=by
   rw[AAH];intro hb;unfold FH at hb;simp only[An,Is]at hb;omega
  exact fI b [.tmp 2] (by rw[a];exact eR)
 .have a:FH (ht,hf)=false:=by
   rw[AAH];intro hb;unfold FH at hb;simp only[An,Is]at hb;omega
  exact fI b [.tmp 2] (by rw[a];exact eR)
 .grind
 have a:FH (ht,hf)=(A3 (ht,hf) (AM (ht,hf)).list (AM (ht,hf)).cons&&A3 (ht,hf) (AM (ht,hf)).list (AM (ht,hf)).null):=by
  unfold FH;rw[AB0 oa,ABK]
 exact fI b [.tmp 2] (by rw[a];exact eR)
def p8:Ab:={ ins:=[Ey,D7,T3,T9],pre:=λ(_,f,n,_)=>AO f/\(0:Int)<=n/\n<(List.length f:Int),out:=λ(h,f,n,s,_)=>[.p T3 (Av (List.getD (f:List AB) n.toNat (0,[])).2 (YX h s))],lend:=true }
attribute [local go_sem] p8
def dJ:Ab:={ ins:=[Ey,D7,T3],pre:=λ(h,f,n,_)=>(FH h=true/\Hu h)/\AO f/\Cj h f/\(0:Int)<=n/\n<(List.length f:Int),out:=λ(h,f,n,_)=>[.p .bool (YY h (AM h) (List.getD (f:List AB) n.toNat (0,[])))],lend:=true }
attribute [local go_sem] dJ
def dL:Ab:={ ins:=[Ey,D7,T3],pre:=λ(h,f,n,_)=>(FH h=true/\Hu h)/\AO f/\Cj h f/\(0:Int)<=n/\n<(List.length f:Int),out:=λ(h,f,n,_)=>[.p .bool (Nx h (AM h) (List.getD (f:List AB) n.toNat (0,[])))],lend:=true }
attribute [local go_sem] dL
def Xu:Ab:={ ins:=[Ey,D7,T3],pre:=λ(h,f,n,_)=>(FH h=true/\Hu h)/\AO f/\Cj h f/\(0:Int)<=n/\n<(List.length f:Int),out:=λ(h,f,n,_)=>[.p .bool (!YY h (AM h) (List.getD (f:List AB) n.toNat (0,[]))&&Tk h (AM h) (List.getD (f:List AB) n.toNat (0,[])))],lend:=true }
attribute [local go_sem] Xu
def A3e:Ab:={ ins:=[G0,T3],pre:=λ_=>True,out:=λ(l,n,_)=>[.p .bool (inF l n)],lend:=true }
attribute [local go_sem] A3e
end
section
attribute [local go_sem] Gy p8 dJ dL Xu A3e zO zP
end
section
open Go
end
section
attribute [local go_sem] dI atS CZ
theorem VF.h0 {h:AG} {f:List AB} (vf:VF h f):0<h.1.length:=by
 have a:=vf.pos;have:=vf.ty _ (AE f (0,[]) (k:=0) oa);omega
end
noncomputable def p9 (h:AG) (ar:Int) (f:List AB) (A:List (List AB)):List AB×Bool :=
 if (A.length:Int)≠ar then ([],false) else if (Ga h (p6 h) 0 f A).2=true then (A6A (Ga h (p6 h) 0 f A).1 (kO h),true) else ([],false)
structure RA (h:AG) (ar:Int) (f:List AB) (A:List (List AB)):Prop where
 hh:H14 h
 top:Mb h
 vf:VF h f
 lf:f.length<=12
 ok:A7U h ar f
 va:∀x∈A,VF h x/\x.length<=12
 la:A.length<=3
theorem RA.wt {h:AG} {ar:Int} {f:List AB} {A:List (List AB)} (r:RA h ar f A):Wt h f:=⟨r.vf,y5 r.ok.chk⟩
theorem RA.un {h:AG} {ar:Int} {f:List AB} {A:List (List AB)} (r:RA h ar f A):∀x∈Id (p6 h) 0 A,VF h x/\x.length<=100:=λx hx=>by
 obtain⟨j,a,rfl⟩:=Xr hx;have b:=A5L h (0+j);have hk:=r.va _ (AE A [] a);have hl:=r.la;exact⟨A2Q r.vf.h0 hk.1 (A7T r.ok.lw r.ok.args _) oa oa,by rw[Kx];omega⟩
theorem RA.all {h:AG} {ar:Int} {f:List AB} {A:List (List AB)} (r:RA h ar f A):Mh h (f :: Id (p6 h) 0 A) (Ga h (p6 h) 0 f A) :=
 Xt r.hh A 0 f [f] (y7 r.wt) (by simp[r.vf]) r.un (by have:=r.lf;have:=r.la;omega)
theorem RA.len {h:AG} {ar:Int} {f:List AB} {A:List (List AB)} (r:RA h ar f A):(Ga h (p6 h) 0 f A).1.length<=312:=by
 have:=Xs (h:=h) (pl:=p6 h) (l:=A) (i:=0) (f:=f) λx hx=>(r.un x hx).2;have:=r.lf;have:=r.la;omega
theorem RA.res {h:AG} {ar:Int} {f:List AB} {A:List (List AB)} (r:RA h ar f A) (a:(p9 h ar f A).2=true):(A.length:Int)=ar/\TU h (f :: Id (p6 h) 0 A) (Ga h (p6 h) 0 f A).1/\p9 h ar f A=(A6A (Ga h (p6 h) 0 f A).1 (kO h),true):=by
 unfold p9 at a ⊢;by_cases h1:(A.length:Int)≠ar
 .rw[DO h1]at a;cases a
 rw[BY h1]at a ⊢;by_cases b:(Ga h (p6 h) 0 f A).2=true
 .rw[DO b];exact⟨by omega,r.all.vf b,rfl⟩
 rw[BY b]at a;cases a
theorem Qu {h:AG} {f:List AB} (vf:VF h f) {p:List Int} {n:Int} (a:AY f 0 p=some n):Ic f 0 p=(n,true):=by
 rw[Qt vf.good vf.str,a]
section
open Go
end
section
attribute [local go_sem] A2R PH CZ zO zP
end
section
attribute [local go_sem] A2R PH zO zP
theorem A5N {h:AG} {f:List AB} (vf:VF h f) (p:List Int) (e:(Ic f 0 p).2=true):0<=(Ic f 0 p).1/\(Ic f 0 p).1<(f.length:Int):=by
 have ha:=Qt vf.good vf.str p 0;cases a:AY f 0 p with
 | none=>rw[a]at ha;rw[ha]at e;cases e
 | some n =>
  rw[a]at ha;rw[ha];exact jY vf.good vf.pos p n a
end
section
attribute [local go_sem] A2R PH atS zO zP
end
section
attribute [local go_sem] PH Kz ZY zO zP
end
section
attribute [local go_sem] CZ ZY Kq
def Qv:Ab:={ ins:=[Ey,D7,T3],pre:=λ(h,f,n,_)=>AO f/\Cj h f/\(0:Int)<=n/\n<(List.length f:Int),out:=λ(h,f,n,_)=>[.p G0 (Dx h f n).1,.p .bool (Dx h f n).2.1,.p HD (Dx h f n).2.2] }
theorem qA:Ag Tryz.prog 54 Qv:=by
 refine Nl ⟨_,Tryz.func54,by kernel_rfl,by kernel_rfl⟩ (λds e=>?_) (λds r a=>?_)
 .obtain⟨h,f,n,u⟩:=ds;obtain⟨h1,b,c,d⟩:=e;refine⟨[.p Ey h,.p D7 f,.p T3 n],λw O q g=>?_,zA h f n h1 b c d⟩;obtain⟨v1,l1,rfl,i,l,l2,rfl,j,m,o,rfl,k,rfl⟩:=g;exact⟨v1,_,rfl,Jr i,l,_,rfl,Jr j,m,_,rfl,Jr k,rfl⟩
 simp only[Qv,At,TO,AAw]at a;rcases a with rfl|rfl|rfl
 .exact⟨_,_,rfl⟩
 .exact⟨_,_,rfl⟩
 exact⟨_,_,rfl⟩
def LO (f:List AB) (l:List Int):List (List AB):=l.map λn=>AH f n
theorem zB (f:List AB) {l:List Int} {k:Nat} (hk:k<l.length):LO f (l.take (k+1))=LO f (l.take k)++[AH f (l.getD k 0)]:=by
 unfold LO;rw[AC0,UK,AS,AT hk];rfl
theorem A3f (f:List AB) {l:List Int} {k:Nat} (hk:k<=l.length):(LO f (l.take k)).length=k:=by
 unfold LO;rw[OF,OS,AAK hk]
def SJ:Ab:={ ins:=[D7,G0],pre:=λ(f,l,_)=>AO f/\IX f/\List.length l<=200000/\∀n∈(l:List Int),0<=n/\n<(List.length f:Int),out:=λ(f,l,_)=>[.p Um (LO f l)] }
attribute [local go_sem] SJ
theorem A3g:Ag Tryz.prog 96 SJ:=by
 refine fKP [0,1,2,4,5,7,8,9,10,11] [18] [] Tryz.func96 Tryz.ntmps96 (AF A7z AI) ?_;rintro w0 O0 ⟨f,l,u⟩ d-⟨h1,c,hl,e⟩;have h1:AO f:=h1;have c:IX f:=c;simp only[SJ,AN];repeat'(first|exact trivial|apply eS rfl|apply AC|refine rX d ?_ ?_|refine rC ?_ ?_<;>intro a<;>try(cases a;done))
 refine AL (ι:={k:Nat//k<=List.length l}) (λk=>⟨[(2,.bp 2 [] 0),(5,.sr 19 D7 0 k.1),(8,.p G0 l),(9,.p (.int .i64) (List.length l:Int)),(10,.p (.int .i64) (k.1:Int))],[(2,.box 25 true [.p G2 f]),(19,.arr 25 D7 (LO f (List.take k.1 l)))]⟩) (λk=>List.length l-k.1) ⟨0,ON _⟩ (AD [(2,.nm 2),(19,.nil)] rfl rfl ?_ ?_) (λk=>?_)
 .first|exact eN|refine eM ?_
  rfl
 .first|exact eN|refine eM ?_
 obtain⟨k,hk⟩:=k;have h:=A3f f hk;have g:k<List.length l->List.getD l k 0∈(l:List Int):=λb=>by
  rw[AS,AT b];exact aT b
 simp only;repeat'(first|exact trivial|apply eS rfl|apply AC|refine rX d ?_ ?_|refine rC ?_ ?_<;>intro a<;>try(cases a;done))
 .exact a
 .exact⟨⟨h1,c,e _ (g (IN.1 a))⟩,by simp only[AP];omega⟩
 .omega
 .have b:k<List.length l:=IN.1 a;have hs:=zB f b;refine⟨⟨k+1,b⟩,by simp only;omega,AD [(2,.nm 2),(19,.nm 19)] rfl rfl ?_ ?_⟩
  .simp only[hs];first|exact eN|refine eM ?_
   rw[By (Nat.le_of_eq h)]
  first|exact eN|refine eM ?_
 have b:k=List.length l:=AAy hk (SY.1 a);subst b;refine GB [19] ?_;exact fI d [.tmp 4] (by first|exact eR|refine Y6 ?_;exact By (by unfold LO;rw[OF];exact No _))
def dM:Ab:={ ins:=[D7,G0],pre:=λ(f,l,_)=>AO f/\IX f/\List.length l<=200000/\∀n∈(l:List Int),0<=n/\n<(List.length f:Int),out:=λ(f,l,_)=>[.p Um (LO f l)] }
def UH:List (List AB)->List (List AB)->Bool
 | [],[]=>true
 | x :: l,y :: r=>(CN x y==0)&&UH l r
 | _,_=>false
theorem uP:∀ {l r:List (List AB)},UH l r=true->l.length=r.length
 | [],[],_=>rfl
 | _ :: l,_ :: r,h=>by
  have:=uP (l:=l) (r:=r) (by unfold UH at h;simp only[An]at h;exact h.2);simp[this]
 | [],_ :: _,h=>by cases h
 | _ :: _,[],h=>by cases h
theorem kR {l r:List (List AB)} {k:Nat} (h1:k<l.length) (a:k<r.length):UH (l.drop k) (r.drop k)=((CN (l.getD k []) (r.getD k [])==0)&&UH (l.drop (k+1)) (r.drop (k+1))):=by
 rw[SR h1,SR a,AS,AS,AT h1,AT a];rfl
def A3h:Ab:={ ins:=[Um,Um],pre:=λ(l,r,_)=>(∀x∈(l:List (List AB)),E1 x)/\∀x∈(r:List (List AB)),E1 x,out:=λ(l,r,_)=>[.p .bool (UH l r)],lend:=true }
attribute [local go_sem] A3h
theorem A7V:Ag Tryz.prog 43 A3h:=by
 refine fK [0,1,4,5,10,14,26] Tryz.func43 Tryz.ntmps43 (AF QU AI) ?_;rintro w0 O0 ⟨l,r,u⟩ c j ⟨h1,h⟩;have i:List.length l<=AP:=j.1.1;simp only[AP]at i;simp only[A3h,AN];repeat'(first|exact trivial|apply eS rfl|apply AC|refine rX c ?_ ?_|refine rC ?_ ?_<;>intro b<;>try(cases b;done))
 .have d:UH l r=false:=by
   rw[AAH];exact λq=>b (oN Int.ofNat (uP q))
  exact fI c [.tmp 4] (by rw[d];exact eR)
 have hl:List.length l=List.length r:=Int.ofNat_inj.1 (by simpa using b);refine AL (ι:={k:Nat//k<=List.length l/\UH l r=UH (List.drop k l) (List.drop k r)}) (λk=>⟨[(0,.p Um l),(1,.p Um r),(5,.p (.int .i64) (k.1:Int))],[]⟩) (λk=>List.length l-k.1) ⟨0,ON _,rfl⟩ (AD [] rfl rfl ?_ ?_) (λk=>?_)
 .first|exact eN|refine eM ?_
 .first|exact eN|refine eM ?_
 obtain⟨k,hk,e⟩:=k;have g:∀ {x:List (List AB)},k<List.length x->List.getD x k []∈x:=λf=>by
  rw[AS,AT f];exact aT f
 simp only;repeat'(first|exact trivial|apply eS rfl|apply AC|refine rX c ?_ ?_|refine rC ?_ ?_<;>intro b<;>try(cases b;done))
 .have a:k<List.length l:=IN.1 b;exact⟨b,IN.2 (hl▸a),h1 _ (g a),h _ (g (hl▸a))⟩
 .have a:k<List.length l:=IN.1 (by assumption);have d:UH l r=false:=by
   rw[e,kR a (hl▸a),show (CN (List.getD l k []) (List.getD r k [])==0)=false by simpa using b];rfl
  exact fI c [.tmp 4] (by rw[d];exact eR)
 .omega
 .have a:k<List.length l:=IN.1 (by assumption);refine⟨⟨k+1,a,by rw[e,kR a (hl▸a),b];rfl⟩,by simp only;omega,AD [] rfl rfl ?_ ?_⟩
  .first|exact eN|refine eM ?_
  first|exact eN|refine eM ?_
 have a:k=List.length l:=AAy hk (SY.1 b);have d:UH l r=true:=by
  rw[e,a,AAV,hl,AAV];rfl
 exact fI c [.tmp 4] (by rw[d];exact eR)
end
section
attribute [local go_sem] Qv SJ dM
end
end Go.Proofs.YtapkhdkbkodbjaaGreat.Fw
