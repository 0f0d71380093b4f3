/- Contracts of functions and plain laws. -/
import Derived.Test.YtcmadlghkcjcbaaGreatGYA
import Derived.Test.YtcmadlghkcjcbaaGreatGZJ
import Derived.Test.YtcmadlghkcjcbaaGreatGZI
import Derived.Laws.Strings
set_option linter.unusedVariables false
set_option linter.unusedSimpArgs false
namespace Go.Proofs.YtcmadlghkcjcbaaGreat.Fw
attribute [local irreducible] Ev
attribute [local go_sem] tA AM List.toList_toArray B5 evG evK YW K1 L1 I5 Ho Ga TQ Lz CY Dp Pn DL DB frz wZ HL DY BB Gh Bj AV.frz AV.frzs AV.drp AV.drps AV.names AV.namess aq HN Lo Lp Va KW Bo B9 LP E8 KZ E9 Kb Ka Kd YU TG H8 ND Gj Ey YV UW qUn LQ Jt Od F2 EY Ke Lr FE Vc C2 FF F3 UX Ju Pl F4 Pk TJ UY OB Kg Ls DZ DD F7 EZ JS Dl F5 Dm FG G7 DL C9 Rf UV Rk Hi KY KX Lq Pm TM OC Oi Og Lv Vd Oh Lw fG TP TN AV.trn AV.trns Eh C1 Obj.trn LY oD DW D7 DV FH Ct F6 Aq lk Iz Hd JQ bin wY aW w6 Vb zf1 zfs pfs AV.cells CS LO Rj Lu TL Cj Pj Ty.cell1 KV FX EX G5 N2 FD Lk OA Ri G4 Hh Oc VY YT N1 Lj fD m9 VZ I0 DA H7 RV.flat Ty.flat Ty.size St.add upd del Bh Value.oneCell' Ln Ty.dflt KT Uv Jz U1 List.take_succ_cons List.take_zero List.length_cons tE tF U0 MJ QH J1 NU A5m Hp P6 P7 P8 P9 Vx Vy QA Ko bQ Option.map_some Option.map_none Option.bind_some Option.getD_some Option.getD_none Option.isNone_none Option.isNone_some Bool.and_true Bool.true_and Bool.and_false Bool.false_and Bool.not_true Bool.not_false if_true if_false List.length_cons List.length_nil and_true true_and and_self List.all_cons List.all_nil List.append_nil List.nil_append List.cons_append List.getElem?_cons_zero List.getElem?_cons_succ List.getElem?_nil List.map_cons List.map_nil List.set_cons_zero List.set_cons_succ List.isEmpty_nil List.isEmpty_cons decide_true decide_false beq_self_eq_true bne_self_eq_false Nat.zero_add Nat.add_zero Nat.sub_zero Int.toNat_natCast Int.toNat_zero Int.toNat_one List.take_length List.length_append List.length_singleton true_or or_true or_self false_or or_false Ty.agg.injEq Ty.slice.injEq Ty.prod.injEq Ty.int.injEq Option.some.injEq beq_iff_eq NR evMG evMQ opM Jb OH CE LX HP Ti LV Ja Kp NQ MF Rv QE Rw V1 QD Ux Uy NP Ad Ap Op.operands Call.operands List.filterMap_cons List.filterMap_nil List.append_eq Bool.cond_false_right Bool.cond_true_left cond_true cond_false implies_true decide_eq_true_eq beq_true beq_false Bool.or_true Bool.or_false Bool.true_or Bool.false_or Option.isSome_some Array.empty_append List.append_toArray Gi Po F8 I1 fF TK G6 Hu Ht Jv JR Lt Oe aX w5 Iv inB Lx G2 Hj Ly Ax tJ List.drop_zero Dr I8 gK Cf ML Cc AV.fgt AV.fgts Obj.fgt Az Ao Ad Dc Jc BS IE List.any_cons List.any_nil tL n4 gL n5 N5 Ub qs List.flatMap_cons List.flatMap_nil List.cons_append tn gT II List.take_succ_cons List.drop_succ_cons gX HQ BD A1r R4 CJ Ca Ah GD MA B2 GC Ea JY Kn HO JZ
attribute [local go_sem] ty1 ty2 ty3 ty4 ty5 ty9 A82 A83 A84 A85 A86 A87 A88 A89 A8a A8b A8c A8d A8e A8f A8g A8h A8i A8j A8k A8l A8m A8n A8o A1y A1z A1A A1B A1C A1D A1E A1F A1G A1H A1I A1J A1K A1L A1M A1N A1O A1P A1Q A1R A1S A1T A1U A1V A1W A1X A1Y A1Z A20 A21
set_option maxRecDepth 100000
set_option maxHeartbeats 4000000
variable {f g U:List AC} {p q s:List Int} {n b x:Int} {l y:List (Int×Int)} {i j k:Nat} {h:AG} {Z:List (List (Int×Int))} {m w:Int->Int} {o:Int->Nat} {a:Int×Int} {Y:Type} {X:List (List Int)} {W:List (Int×Bool)} {V R:Nat->Nat} {T:Int->Int×Int->Bool} {c:ByteArray} {S:List ByteArray} {d:List AK} {Q:List Bool} {P:AC}
theorem KB {x y:Int} {xs ys:List Int} (h:K3 (x :: xs) (y :: ys)=0):x=y/\K3 xs ys=0:=by
 simp only[K3]at h;split at h
 .cases h
 split at h
 .cases h
 exact⟨by omega,h⟩
theorem XN:∀ {l m:List (Int×Int)} {r s:List Int},l.length=m.length->K3 (l.flatMap (λa=>[a.1,a.2])++r) (m.flatMap (λa=>[a.1,a.2])++s)=0->l=m/\K3 r s=0
 | [],[],_,_,_,h=>⟨rfl,by simpa using h⟩
 | [],_ :: _,_,_,hl,_=>by simp at hl
 | _ :: _,[],_,_,hl,_=>by simp at hl
 | (b,c) :: l,(b1,b2) :: m,r,s,hl,h=>by
  have h:K3 (b :: c :: (l.flatMap (λa=>[a.1,a.2])++r)) (b1 :: b2 :: (m.flatMap (λa=>[a.1,a.2])++s))=0:=by simpa using h
  obtain⟨d,g⟩:=KB h;obtain⟨e,i⟩:=KB g;obtain⟨f,j⟩:=XN (l:=l) (m:=m) (by simpa using hl) i;exact⟨by rw[d,e,f],j⟩
theorem XO:∀ {l m:List AC} {r s:List Int},l.length=m.length->K3 (l.flatMap XC++r) (m.flatMap XC++s)=0->l=m/\K3 r s=0
 | [],[],_,_,_,h=>⟨rfl,by simpa using h⟩
 | [],_ :: _,_,_,hl,_=>by simp at hl
 | _ :: _,[],_,_,hl,_=>by simp at hl
 | (c,b) :: l,(b1,b2) :: m,r,s,hl,h=>by
  have h:K3 (c :: (b.length:Int) :: (b.flatMap (λa=>[a.1,a.2])++(l.flatMap XC++r))) (b1 :: (b2.length:Int) :: (b2.flatMap (λa=>[a.1,a.2])++(m.flatMap XC++s)))=0:=by simpa[XC] using h
  obtain⟨d,g⟩:=KB h;obtain⟨n,i⟩:=KB g;obtain⟨e,j⟩:=XN (l:=b) (m:=b2) O1 i;obtain⟨f,k⟩:=XO (l:=l) (m:=m) (by simpa using hl) j;exact⟨by rw[d,e,f],k⟩
theorem Mn {a b:List AC} (h:CT a b=0):a=b:=by
 unfold CT Bw at h;obtain⟨h1,c⟩:=KB h;have:=XO (l:=a) (m:=b) (r:=[]) (s:=[]) O1 (by simpa using c);exact this.1
theorem Zo:∀l:List Int,K3 l l=0
 | []=>rfl
 | x :: l=>by simp[K3,Zo l]
theorem Jm (a:List AC):CT a a=0:=Zo _
theorem XP (x:Int×Int) (s:List (Int×Int)):∀n,(∀j,IW x s n<=j->j<n->x.1<(s.getD j (0,0)).1)/\(0<IW x s n->(s.getD (IW x s n-1) (0,0)).1<=x.1)
 | 0=>⟨λj h1 b=>by omega,λh=>by simp[IW]at h⟩
 | n+1=>by
  obtain⟨h1,b⟩:=XP x s n;unfold IW;split
  .rename_i c;refine⟨λj a d=>?_,b⟩;by_cases e:j=n
   .subst e;exact c
   exact h1 j a O1
  rename_i c;exact⟨λj a d=>by omega,λ_=>by simp only[Nat.add_sub_cancel];omega⟩
theorem A8z (h:l.Pairwise (λa b=>a.1<=b.1)) (d:i<=j) (c:j<l.length):(l.getD i (0,0)).1<=(l.getD j (0,0)).1:=by
 rcases Nat.eq_or_lt_of_le d with rfl|e
 .exact iF _
 rw[RZ]at h;have:=h i j O1 c e;simpa[AS,c,show i<l.length by omega] using this
theorem jU {s:List (Int×Int)} (h:s.Pairwise (λa b=>a.1<=b.1)) (x:Int×Int):(PP s x).Pairwise (λa b=>a.1<=b.1):=by
 obtain⟨h1,f⟩:=XP x s s.length;have l:=VB x s s.length;unfold PP;generalize IW x s s.length=p at *;rw[AB2,AB2];have d:∀a∈s.take p,a.1<=x.1:=λa ha=>by
  obtain⟨i,hi,rfl⟩:=gO.1 ha;rw[On]at hi;have g:=A8z h (i:=i) (j:=p-1) O1 O1;have k:=f O1;have e:(s.take p)[i].1=(s.getD i (0,0)).1:=by simp[AS,show i<s.length by omega]
  rw[e];omega
 have c:∀b∈s.drop p,x.1<=b.1:=λb hb=>by
  obtain⟨i,hi,rfl⟩:=gO.1 hb;rw[aS]at hi;have g:=h1 (p+i) O1 O1;have e:(s.drop p)[i].1=(s.getD (p+i) (0,0)).1:=by simp[AS,show p+i<s.length by omega]
  rw[e];omega
 refine⟨⟨h.sublist (List.take_sublist _ _),by simp,λa ha b hb=>?_⟩,h.sublist (List.drop_sublist _ _),λa ha b hb=>?_⟩
 .have:b=x:=by simpa using hb
  rw[this];exact d a ha
 rcases Fg.1 ha with ha|ha
 .exact AB5 (d a ha) (c b hb)
 have:a=x:=by simpa using ha
 rw[this];exact c b hb
theorem Lh (l:List (Int×Int)):(AY l).Pairwise (λa b=>a.1<=b.1):=by
 induction l using EJ with
 | h0=>exact List.Pairwise.nil
 | h1 l a c=>rw[Hq];exact jU c a
theorem UF {n:Int}:∀ {l seen:List (Int×Int)},HG n seen l=0->(l.map (·.1)).Nodup/\∀a∈l,∀b∈seen,b.1≠a.1
 | [],_,_=>⟨by simp,λa ha=>by cases ha⟩
 | x :: l,seen,h=>by
  simp only[HG]at h;split at h
  .cases h
  split at h
  .cases h
  rename_i h1 c;obtain⟨f,d⟩:=UF h;have c:∀b∈seen,b.1≠x.1:=λb hb e=>c (Re.2 ⟨b,hb,by simp[e]⟩);refine⟨?_,λa ha b hb=>?_⟩
  .rw[Rd,iS];refine⟨λhm=>?_,f⟩;obtain⟨a,ha,e⟩:=Do.1 hm;exact d a ha x sc e.symm
  rcases DO.1 ha with rfl|ha
  .exact c b hb
  exact d a ha b (by simp[hb])
theorem XQ {m:Int}:∀ {f:List AC},Hg m f=0->∀x∈f,IU x.2 m=0
 | [],_,x,hx=>by cases hx
 | y :: f,h,x,hx=>by
  simp only[Hg]at h;split at h
  .cases h
  split at h
  .rename_i h1 a;exact absurd h a
  rename_i h1 a;rcases DO.1 hx with rfl|hx
  .exact IS a
  exact XQ h x hx
theorem zM (h:l.Pairwise (λa b=>a.1<=b.1)) (hn:(l.map (·.1)).Nodup):l.Pairwise (λa b=>a.1<b.1):=by
 rw[List.Nodup,bY]at hn;refine(h.and hn).imp λ{a b} c=>?_;have h1:=c.1;have d:¬a.1=b.1:=c.2;omega
theorem Mo (h:Dy f=true):AN f/\Ia f/\0<f.length/\HT f=true:=by
 unfold Dy at h;simp only[An,TE]at h;obtain⟨⟨hl,_⟩,b,c⟩:=h;obtain⟨q,d⟩:=Mk hl;have o:SR f:=λx hx=>RF (d x hx) O1;have a:CU f=0:=by
  unfold BC at b;split at b
  .assumption
  exact b
 obtain⟨l,h0⟩:=IX a o;have i:(BC f).1=E7 f 0:=by unfold BC;rw[BY a]
 rw[i]at c;have j:=Mn c;refine⟨l,λx hx=>⟨?_,RF (d x hx) O1⟩,h0,hl⟩;rw[<-j]at hx;obtain⟨n,_,rfl⟩:=Do.1 hx;rw[GL];have g:((f.getD n.toNat (0,[])).2.map (·.1)).Nodup:=by
  by_cases m:n.toNat<f.length
  .have hm:f.getD n.toNat (0,[])∈f:=AE f (0,[]) m;have k:Hg f.length f=0:=by
    unfold CU at a;split at a
    .cases a
    split at a
    .cases a
    exact a
   exact(UF (XQ k _ hm)).1
  rw[AS,RP O1];simp
 have p:=zM (Lh (f.getD n.toNat (0,[])).2) (((Bb _).map (·.1)).nodup_iff.2 g);unfold Le;simp only;rw[bY];exact p.imp λe=>e
theorem getD_set_ne {α:Type} (l:List α) (d v:α) (h:i≠j):(l.set i v).getD j d=l.getD j d:=by
 simp only[AS];rw[List.getElem?_set_ne h]
theorem Yh {α:Type} (l:List α) (d v:α) (h:i<l.length):(l.set i v).getD i d=v:=by
 simp only[AS];rw[List.getElem?_set_self h];rfl
section
attribute [local go_sem] Cg
def Rg (l:List (Int×Int)) (x:Int):Int:=l.foldl (λt a=>if a.1=x then a.2 else t) (-1)
end
abbrev AL (f:List AC) (n:Int):List (Int×Int):=(f.getD n.toNat (0,[])).2
def AR (f:List AC):Int->List Int->Option Int
 | n,[]=>some n
 | n,x :: r=>if Rg (AL f n) x<0 then none else AR f (Rg (AL f n) x) r
theorem Ib (f:List AC):∀(p:List Int) (n m x:Int),AR f n p=some m->AR f n (p++[x])=if Rg (AL f m) x<0 then none else some (Rg (AL f m) x)
 | [],n,m,x,h=>by
  simp only[AR,AAJ]at h;subst h;rfl
 | y :: p,n,m,x,h=>by
  simp only[AR,AB6]at h ⊢;split at h
  .cases h
  rename_i a;rw[At a];exact Ib f p _ m x h
theorem uZ (h:l.Pairwise (λa b=>a.1<b.1)) (ha:a∈l):Rg l a.1=a.2:=by
 have i:∀(l:List (Int×Int)) (t:Int),(∀b∈l,¬b.1=a.1)->l.foldl (λt b=>if b.1=a.1 then b.2 else t) t=t:=by
  intro l;induction l with
  | nil=>intro t _;rfl
  | cons b l g =>
   intro t hl;rw[RJ,At (hl b sc)];exact g t (λc f=>hl c (by simp[f]))
 obtain⟨l1,l2,rfl⟩:=List.append_of_mem ha;rw[AB2,S8]at h;obtain⟨-,⟨d,-⟩,-⟩:=h;unfold Rg;rw[ABe,RJ,BY rfl];exact i l2 _ (λb hb e=>by have:=d b hb;omega)
theorem OW (h:Dy f=true):AH f 0=f:=by
 obtain⟨d,hs,h0,_⟩:=Mo h;unfold Dy at h;simp only[An,TE]at h;obtain⟨_,a,b⟩:=h;have c:(BC f).1=E7 f 0:=by
  unfold BC at a ⊢;split at a
  .rename_i hh;rw[BY hh]
  rename_i hh;exact absurd a hh
 rw[c]at b;rw[<-Em d hs O1 O1];exact Mn b
theorem qI {b:Int->Int×Int->Bool} (h:∀i,i<f.length->∀a∈(f.getD i (0,[])).2,b (i:Int) a=true):Gd b f f.length=f:=by
 apply oS
 .exact KA _ _ _
 intro i h1 c;have e:f.getD i (0,[])=f[i]:=by simp[AS,c]
 have:=h i c;simp only[Gd,ABA,ABE,A35];rw[List.filter_eq_self.2 this,e]
theorem qJ {b:Int->Int×Int->Bool} (c:Dy f=true) (h:∀i,i<f.length->∀a∈(f.getD i (0,[])).2,b (i:Int) a=true):XM b f=f:=by
 unfold XM;rw[qI h];exact OW c
theorem jV {f:List AC} (hf:AN f):∀(k:Nat) (o:List Int) (n:Int),JF f o->0<=n->n<f.length->n∉o->f.length-o.length<=k->Bd f (k+1) o n=Bd f k o n
 | 0,o,n,h,h0,h1,c,hk=>by
  have:=(h.snoc h0 h1 c).len;grind
 | k+1,o,n,h,h0,h1,c,hk=>by
  rw[Bx,Bx];have key:∀(l:List (Int×Int)) (t:List Int),(∀a∈l,0<=a.2/\a.2<(f.length:Int))->JF f t->f.length-t.length<=k->l.foldl (Aa f (k+1)) t=l.foldl (Aa f k) t:=by
   intro l;induction l with
   | nil=>intros;rfl
   | cons a l i =>
    intro t hl ht g;have e:=hl a sc;have hs:Aa f (k+1) t a=Aa f k t a:=by
     unfold Aa;split
     .rfl
     rename_i hn;exact jV hf k t a.2 ht e.1 e.2 hn g
    have d:JF f (Aa f k t a)/\t <+: Aa f k t a:=by grind [Aa,DS]
    rw[RJ,RJ,hs];have:=d.2.length_le;exact i _ (λb hb=>hl b (by simp[hb])) d.1 O1
  exact key _ _ (λa ha=>Am hf ha) (h.snoc h0 h1 c) (by simp only[By,GO];omega)
theorem FW (f:List AC):JF f []:=⟨by simp,λx hx=>by cases hx⟩
theorem KC {f:List AC} (hf:AN f) {n:Int} (h0:0<=n) (h1:n<f.length):∀m,Bd f (f.length+m) [] n=Bd f f.length [] n
 | 0=>rfl
 | m+1=>by
  rw[<-ACK,jV hf _ [] n (FW f) h0 h1 sc (by simp only[nO];omega)];exact KC hf h0 h1 m
structure Iso (Q R:List AC) (ψ:Int->Int) (C:Int->Prop):Prop where
 arc:∀i,C i->AL R (ψ i)=(AL Q i).map λa=>(a.1,ψ a.2)
 cl:∀i,C i->∀a∈AL Q i,C a.2
 inj:∀i j,C i->C j->ψ i=ψ j->i=j
theorem Qj {Q R:List AC} {ψ:Int->Int} {C:Int->Prop} (h:Iso Q R ψ C):∀(k:Nat) (t:List Int) (i:Int),(∀x∈t,C x)->C i->Bd R k (t.map ψ) (ψ i)=(Bd Q k t i).map ψ/\∀x∈Bd Q k t i,C x
 | 0,t,i,ht,hi=>⟨rfl,ht⟩
 | k+1,t,i,ht,hi=>by
  have key:∀(l:List (Int×Int)) (t:List Int),(∀a∈l,C a.2)->(∀x∈t,C x) ->
    (l.map λa=>(a.1,ψ a.2)).foldl (Aa R k) (t.map ψ)=(l.foldl (Aa Q k) t).map ψ/\∀x∈l.foldl (Aa Q k) t,C x:=by
   intro l;induction l with
   | nil=>intro t _ ht;exact⟨rfl,ht⟩
   | cons a l f =>
    intro t hl ht;have ha:=hl a sc;have hs:Aa R k (t.map ψ) (a.1,ψ a.2)=(Aa Q k t a).map ψ/\∀x∈Aa Q k t a,C x:=by
     unfold Aa;by_cases hm:a.2∈t
     .grind
     have d:¬ψ a.2∈t.map ψ:=by
      intro hh;obtain⟨x,hx,e⟩:=Do.1 hh;exact hm (h.inj x a.2 (ht x hx) ha e▸hx)
     rw[At hm];simp only[At d];exact Qj h k t a.2 ht ha
    rw[Rd,RJ,RJ,hs.1];exact f _ (λb hb=>hl b (by simp[hb])) hs.2
  rw[Bx,Bx];have e:t.map ψ++[ψ i]=(t++[i]).map ψ:=by simp
  have c:(R.getD (ψ i).toNat (0,[])).2=(AL Q i).map λa=>(a.1,ψ a.2):=h.arc i hi;rw[c,e];refine key _ _ (h.cl i hi) λx hx=>?_;grind
theorem jW {o:List Int} {ψ:Int->Int} {x:Int} (h:∀y∈o,ψ y=ψ x->y=x):A9 (o.map ψ) (ψ x)=A9 o x:=by
 have hi:(o.map ψ).idxOf (ψ x)=o.idxOf x:=by
  induction o with
  | nil=>rfl
  | cons y o a =>
   rw[Rd,List.idxOf_cons,List.idxOf_cons];have hy:=h y sc;by_cases e:y=x
   .subst e;simp
   grind
 grind [A9]
theorem Yi {Q R:List AC} {ψ:Int->Int} {C:Int->Prop} (h:Iso Q R ψ C) (f:AN Q) (d:C 0) (h0:ψ 0=0) (j:0<Q.length) (k:Q.length<=R.length)
  (hty:∀i,C i->(R.getD (ψ i).toNat (0,[])).1=(Q.getD i.toNat (0,[])).1):AH R 0=AH Q 0:=by
 have hd:Bd R R.length [] 0=(Bd Q Q.length [] 0).map ψ/\∀x∈Bd Q Q.length [] 0,C x:=by
  have h1:=Qj h R.length [] 0 (λx hx=>by cases hx) d;rw[h0]at h1;have g:=KC f (n:=0) O1 O1 (R.length-Q.length)
  simp_all
 unfold AH;rw[hd.1];generalize Bd Q Q.length [] 0=o at *;rw[AAb];refine RN λi hi=>?_;have b:=hd.2 i hi;show CF R (o.map ψ) (ψ i)=CF Q o i;unfold CF;have c:(R.getD (ψ i).toNat (0,[])).2=(AL Q i).map λa=>(a.1,ψ a.2):=h.arc i b;rw[hty i b,c,AAb];refine AAv _ (RN λa ha=>?_);show (a.1,A9 (o.map ψ) (ψ a.2))=(a.1,A9 o a.2);rw[jW λy hy e=>h.inj y a.2 (hd.2 y hy) (h.cl i b a ha) e]
structure Ord (f:List AC) (o:List Int):Prop where
 ok:JF f o
 zero:o.getD 0 0=0/\0<o.length
 cl:∀n∈o,∀a∈AL f n,a.2∈o
theorem A36 (hf:AN f) (h0:0<f.length):[0] <+: Bd f f.length [] 0:=by
 obtain⟨k,hk⟩:∃k,f.length=k+1:=⟨f.length-1,by omega⟩;rw[hk,Bx];exact(EB (DS hf k) _ _ (λa ha=>Am hf ha) ((FW f).snoc O1 O1 sc)).2
theorem A37 (hf:AN f) (h0:0<f.length):Ord f (Bd f f.length [] 0):=by
 have h1:=DS hf f.length [] 0 (FW f) O1 O1 sc;have c:=IZ hf f.length [] 0 (FW f) O1 O1 sc sc;have b:=A36 hf h0;refine⟨h1.1,?_,λn hn a ha=>?_⟩
 .obtain⟨t,ht⟩:=b;rw[<-ht];exact⟨rfl,by simp⟩
 grind
theorem DH {o:List Int} (hn:o.Nodup) (hi:i<o.length):A9 o (o.getD i 0)=(i:Int):=by grind [A9]
theorem BP {o:List Int} {x:Int} (h:x∈o):0<=A9 o x/\A9 o x<(o.length:Int)/\o.getD (A9 o x).toNat 0=x:=by
 unfold A9;rw[BY h];have hl:=List.idxOf_lt_length_of_mem h
 simp_all
theorem zN (f:List AC):(AH f 0).length=(Bd f f.length [] 0).length:=by simp[AH]
theorem zO (hi:i<(Bd f f.length [] 0).length):(AH f 0).getD i (0,[])=CF f (Bd f f.length [] 0) ((Bd f f.length [] 0).getD i 0):=by grind [AH]
theorem jX (a:Int->Int×Int->Bool) (h0:0<=n) (h1:n<f.length):(Gd a f f.length).getD n.toNat (0,[])=((f.getD n.toNat (0,[])).1,(AL f n).filter (a n)):=by grind [Gd,A35]
theorem A62 (l:List (Int×Int)) (x:Int):Rg l x=-1\/∃a∈l,a.1=x/\a.2=Rg l x:=by
 have key:∀(l:List (Int×Int)) (t:Int),l.foldl (λt a=>if a.1=x then a.2 else t) t=t\/∃a∈l,a.1=x/\a.2=l.foldl (λt a=>if a.1=x then a.2 else t) t:=by
  intro l;induction l with
  | nil=>intro t;exact .inl rfl
  | cons b l c =>
   intro t;rw[RJ];by_cases h:b.1=x
   .rw[BY h];rcases c b.2 with e|⟨a,ha,e⟩
    .exact .inr ⟨b,by simp,h,e.symm⟩
    exact .inr ⟨a,by simp[ha],e⟩
   rw[At h];rcases c t with e|⟨a,ha,e⟩
   .exact .inl e
   exact .inr ⟨a,by simp[ha],e⟩
 exact key l (-1)
theorem jY {x:Int} (h:0<=Rg l x):∃a∈l,a.1=x/\a.2=Rg l x:=by
 rcases A62 l x with e|h1
 .omega
 exact h1
theorem A38 (hs:Ia f) (n:Int):(AL f n).Pairwise (λa b=>a.1<b.1):=(GL _).1 (qC hs n).1
theorem zP (hf:AN f) (hs:Ia f) (h0:0<f.length) (a:Int->Int×Int->Bool) (hn:n∈Bd (Gd a f f.length) f.length [] 0) :
  AL (XM a f) (A9 (Bd (Gd a f f.length) f.length [] 0) n)=((AL f n).filter (a n)).map (FO (Bd (Gd a f f.length) f.length [] 0)):=by
 obtain⟨h,l⟩:=Zn hf hs a;have c:=KA a f f.length;have e:=A37 h O1;have d:=λi=>zO (f:=Gd a f f.length) (i:=i);rw[c]at e d;obtain⟨j,k,g⟩:=BP hn;have b:=e.ok.rng n hn;rw[c]at b;show ((XM a f).getD _ (0,[])).2=_;have:XM a f=AH (Gd a f f.length) 0:=rfl;rw[this,d _ O1,g];unfold CF;rw[jX a b.1 b.2]
theorem SY {f:List AC}:∀(p:List Int) (n:Int) (z:List Int),AR f n p=none->AR f n (p++z)=none
 | [],_,_,h=>by cases h
 | x :: p,n,z,h=>by
  simp only[AR,AB6]at h ⊢;split
  .rfl
  rename_i a;rw[At a]at h;exact SY p _ z h
theorem SZ {e y:Int} (h:AR f 0 (p++[e])=some y):∃x,AR f 0 p=some x/\∃a∈AL f x,a.1=e/\a.2=y:=by
 cases hh:AR f 0 p with
 | none=>rw[SY p 0 [e] hh]at h;cases h
 | some x =>
  have b:=Ib f p 0 x e hh;rw[h]at b;split at b
  .cases b
  rename_i g;obtain⟨a,ha,c,d⟩:=jY (l:=AL f x) (x:=e) O1;exact⟨x,rfl,a,ha,c,by rw[d];exact(ACq b).symm⟩
section
attribute [local go_sem] W8
def Av (l:List (Int×Int)) (e:Int):Int:=match l with
 | []=>-1
 | a :: l=>if a.1=e then a.2 else Av l e
theorem Zp (e:Int) (l:List (Int×Int)) {k:Nat} (h:k<l.length):Av (l.drop k) e=if (l.getD k (0,0)).1=e then (l.getD k (0,0)).2 else Av (l.drop (k+1)) e:=by
 rw[Is h];have e:l.getD k (0,0)=l[k]:=by simp[AS,h]
 rw[e];rfl
end
section
attribute [local go_sem] W8
def dF (bl:List (Int×Int)) (m:List Int) (x:Int×Int):Bool:=decide (Av bl x.1<0)||decide (0<=m.getD x.2.toNat 0)&&!(m.getD x.2.toNat 0==Av bl x.1)
def JG (bl:List (Int×Int)):List (Int×Int)->List Int->Option (List Int)
 | [],m=>some m
 | x :: l,m=>if dF bl m x=true then none else JG bl l (m.set x.2.toNat (Av bl x.1))
def Qk (h:AG) (b:List AC) (n:AC) (k:Int):Bool:=decide (k<0)||!Ar h n.1 (b.getD k.toNat (0,[])).1
def Ic (h:AG) (b:List AC):List AC->Nat->List Int->Option (List Int)
 | [],_,m=>some m
 | n :: r,i,m=>if Qk h b n (m.getD i 0)=true then none else match JG (b.getD (m.getD i 0).toNat (0,[])).2 n.2 m with
  | none=>none
  | some a=>Ic h b r (i+1) a
def A8A (h:AG) (a b:List AC):Option (List Int):=Ic h b a 0 ((List.replicate a.length (-1)).set 0 0)
theorem OX (h:AG) (b a:List AC) (m:List Int) (hi:i<a.length):Ic h b (a.drop i) i m=if Qk h b (a.getD i (0,[])) (m.getD i 0)=true then none else match JG (b.getD (m.getD i 0).toNat (0,[])).2 (a.getD i (0,[])).2 m with
  | none=>none
  | some c=>Ic h b (a.drop (i+1)) (i+1) c:=by
 rw[Is hi];have e:a.getD i (0,[])=a[i]:=by simp[AS,hi]
 rw[e];rfl
structure A39 (a b:List AC) (m:List Int):Prop where
 len:m.length=a.length
 rng:∀x∈m,x<(b.length:Int)
theorem K8 {n:Int} (hn:0<=n):∀ {l:List (Int×Int)} (e:Int),(∀x∈l,x.2<n)->Av l e<n
 | [],_,_=>by simp only[Av];omega
 | x :: l,e,h=>by
  simp only[Av];split
  .exact h x sc
  exact K8 hn e (λy hy=>h y (by simp[hy]))
theorem A39.set {a b:List AC} {m:List Int} (h:A39 a b m) (k:Nat) {v:Int} (c:v<(b.length:Int)):A39 a b (m.set k v):=by
 refine⟨by simp[h.len],λx hx=>?_⟩;rcases ABh hx with hx|hx
 .exact h.rng x hx
 rw[hx];exact c
theorem A39.get {a b:List AC} {m:List Int} (h:A39 a b m) (hb:0<b.length) (k:Nat):m.getD k 0<(b.length:Int):=by
 rw[AS];cases hh:m[k]? with
 | none=>show (0:Int)<_;omega
 | some x=>exact h.rng x (AAm hh)
def CA (h:AG) (f:List AC):Prop:=∀x∈f,0<=x.1/\x.1<(h.1.length:Int)
theorem Eo (hf:AN f) (k:Nat):∀x∈(f.getD k (0,[])).2,0<=x.2/\x.2<(f.length:Int):=by
 intro x hx;by_cases h:k<f.length
 .exact(hf.2 _ (AE f (0,[]) h)).2 x hx
 rw[AS,RP O1]at hx;cases hx
def jZ (h:AG) (a b:List AC):Bool:=(A8A h a b).isSome
end
structure Gx (h:AG) (a b:List AC) (m:Int->Int):Prop where
 zero:m 0=0
 rng:∀i,0<=i->i<(a.length:Int)->0<=m i/\m i<(b.length:Int)
 ty:∀i,0<=i->i<(a.length:Int)->Ar h (a.getD i.toNat (0,[])).1 (b.getD (m i).toNat (0,[])).1=true
 arc:∀i,0<=i->i<(a.length:Int)->∀x∈AL a i,Av (AL b (m i)) x.1=m x.2
theorem CM (h:l.Pairwise (λa b=>a.1<b.1)) (ha:a∈l):Av l a.1=a.2:=by
 induction l with
 | nil=>cases ha
 | cons b l d =>
  obtain⟨h1,c⟩:=S8.1 h;simp only[Av];rcases DO.1 ha with rfl|ha
  .rw[BY rfl]
  grind
theorem DI {e:Int} (h:0<=Av l e):∃a∈l,a.1=e/\a.2=Av l e:=by
 induction l with
 | nil=>simp only[Av]at h;omega
 | cons b l c =>
  simp only[Av]at h ⊢;split
  .grind
  grind
theorem A8B (hs:Ia f) (ha:a∈AL f n):Av (AL f n) a.1=a.2:=CM (A38 hs n) ha
def RO (f:List AC):Prop:=∀i:Int,0<i->i<(f.length:Int)->∃j,0<=j/\j<i/\∃x∈AL f j,x.2=i
structure MH (a:List AC) (m:Int->Int) (M:List Int):Prop where
 len:M.length=a.length
 val:∀k:Nat,k<a.length->M.getD k 0=-1\/M.getD k 0=m (k:Int)
theorem K9 {k:Nat} {v:Int} (hk:k<p.length):(p.set k v).getD j 0=if k=j then v else p.getD j 0:=by grind
theorem j5 {a:List AC} (ha:AN a) {m:Int->Int} {n:Int} (hm:∀i,0<=i->i<(a.length:Int)->0<=m i) {bl:List (Int×Int)}:∀ {l:List (Int×Int)} {M:List Int},(∀x∈l,x∈AL a n)->(∀x∈l,Av bl x.1=m x.2)->MH a m M ->
  ∃b,JG bl l M=some b/\MH a m b/\(∀k:Nat,k<a.length->M.getD k 0=m (k:Int)->b.getD k 0=m (k:Int))/\∀x∈l,b.getD x.2.toNat 0=m x.2
 | [],M,_,_,h=>⟨M,rfl,h,λ_ _ h=>h,λx hx=>by cases hx⟩
 | x :: l,M,hl,ht,h=>by
  have c:=Am ha (hl x sc);have hx:=ht x sc;have u:=hm x.2 c.1 c.2;have f:x.2.toNat<a.length:=by omega
  have d:((x.2.toNat:Nat):Int)=x.2:=by omega
  have p:=h.val x.2.toNat f;rw[d]at p;have s:¬dF bl M x=true:=by grind [dF]
  have o:MH a m (M.set x.2.toNat (Av bl x.1)):=by
   refine⟨by rw[TA];exact h.len,λk hk=>?_⟩;rw[K9 (by rw[h.len];exact f)];split
   .rename_i e;right;rw[hx,<-e,d]
   exact h.val k hk
  obtain⟨b,q,g,j,r⟩:=j5 ha hm (l:=l) (λy hy=>hl y (by simp[hy])) (λy hy=>ht y (by simp[hy])) o;refine⟨b,?_,g,λk hk t=>j k hk ?_,λy hy=>?_⟩
  .grind [JG]
  .grind
  grind
theorem Zq {h:AG} {a b:List AC} (ha:AN a) (o:RO a) {m:Int->Int} (hm:Gx h a b m):∀(r i:Nat) (M:List Int),r+i=a.length->MH a m M->(0<a.length->M.getD 0 0=0) ->
  (∀k:Nat,k<a.length->(∃j:Int,0<=j/\j<(i:Int)/\∃x∈AL a j,x.2=(k:Int))->M.getD k 0=m (k:Int))->∃c,Ic h b (a.drop i) i M=some c
 | 0,i,M,B,_,_,_=>by
  rw[OR O1];exact⟨M,rfl⟩
 | r+1,i,M,B,v,d,w=>by
  have hi:i<a.length:=by omega
  have A:M.getD i 0=m (i:Int):=by
   cases i with
   | zero =>
    rw[d hi];exact hm.zero.symm
   | succ i =>
    obtain⟨j,C,D,x,hx,e⟩:=o ((i+1:Nat):Int) O1 O1;exact w (i+1) hi ⟨j,C,D,x,hx,e⟩
  have G:=hm.rng (i:Int) O1 O1;have hty:=hm.ty (i:Int) O1 O1;have y:=hm.arc (i:Int) O1 O1;rw[RG]at hty;have z:¬Qk h b (a.getD i (0,[])) (M.getD i 0)=true:=by grind [Qk]
  rw[OX h b a M hi,At z,A];have f:AL a (i:Int)=(a.getD i (0,[])).2:=by rw[AL,RG]
  obtain⟨c,p,q,s,E⟩:=j5 (n:=(i:Int)) ha (λk t u=>(hm.rng k t u).1) (bl:=(b.getD (m (i:Int)).toNat (0,[])).2) (l:=(a.getD i (0,[])).2) (λx hx=>by rw[f];exact hx) (λx hx=>y x (by rw[f];exact hx)) v;rw[p];simp only;refine Zq ha o hm r (i+1) c O1 q (λg=>?_) (λk hk F=>?_)
  .have:=s 0 g (by rw[d g];exact hm.zero.symm);rw[this];exact hm.zero
  grind
theorem A63 {a b:List AC} (ha:AN a) (h0:0<a.length) (d:RO a) (hm:Gx h a b m):jZ h a b=true:=by
 have f:((List.replicate a.length (-1:Int)).set 0 0).getD 0 0=0:=by rw[K9 (by simpa using h0),BY rfl]
 obtain⟨g,e⟩:=Zq ha d hm a.length 0 ((List.replicate a.length (-1)).set 0 0) O1 ⟨by simp,λk hk=>by
  rw[K9 (by simpa using h0)];split
  .rename_i e;right;rw[<-e];exact hm.zero.symm
  .left;simp[AS,AAz,hk]⟩ (λ_=>f) (λk hk c=>by
  obtain⟨j,i,l,_⟩:=c;omega)
 grind [jZ,A8A]
theorem j6 {b:List AC} {bl:List (Int×Int)} (hb:0<b.length) (c:∀x∈bl,x.2<(b.length:Int)) {n:Nat}:∀ {l:List (Int×Int)} {M a:List Int},(∀x∈l,0<=x.2/\x.2<(n:Int))->M.length=n->(∀k,M.getD k 0<(b.length:Int))->JG bl l M=some a ->
  a.length=n/\(∀k,a.getD k 0<(b.length:Int))/\(∀k,0<=M.getD k 0->a.getD k 0=M.getD k 0)/\∀x∈l,0<=a.getD x.2.toNat 0/\Av bl x.1=a.getD x.2.toNat 0
 | [],M,a,_,hn,hk,h=>by
  have:M=a:=ACq h;grind
 | x :: l,M,a,hl,hn,hk,h=>by
  simp only[JG]at h;split at h
  .cases h
  rename_i o;have q:=hl x sc;have g:x.2.toNat<M.length:=by omega
  have f:=K8 (n:=(b.length:Int)) O1 (l:=bl) x.1 c;obtain⟨d,e,i,j⟩:=j6 hb c (l:=l) (λy hy=>hl y (by simp[hy])) (by rw[TA];exact hn) (λk=>by
   rw[K9 g];split
   .exact f
   exact hk k) h
  have m:0<=Av bl x.1/\(0<=M.getD x.2.toNat 0->M.getD x.2.toNat 0=Av bl x.1):=by grind [dF]
  refine⟨d,e,λk p=>?_,λy hy=>?_⟩
  .grind
  grind
theorem Zr {hd:AG} {a b:List AC} (ha:AN a) (hb:AN b) (e:0<b.length):∀(r i:Nat) (M c:List Int),r+i=a.length->M.length=a.length->(∀k,M.getD k 0<(b.length:Int))->Ic hd b (a.drop i) i M=some c ->
  (∀k,c.getD k 0<(b.length:Int))/\(∀k,0<=M.getD k 0->c.getD k 0=M.getD k 0)/\∀k:Nat,i<=k->k<a.length->0<=c.getD k 0/\Ar hd (a.getD k (0,[])).1 (b.getD (c.getD k 0).toNat (0,[])).1=true/\∀x∈(a.getD k (0,[])).2,0<=c.getD x.2.toNat 0/\Av (b.getD (c.getD k 0).toNat (0,[])).2 x.1=c.getD x.2.toNat 0
 | 0,i,M,c,o,_,hk,h=>by
  rw[OR O1]at h;have:M=c:=ACq h;grind
 | r+1,i,M,c,o,hn,hk,h=>by
  have hi:i<a.length:=by omega
  rw[OX hd b a M hi]at h;split at h
  .cases h
  rename_i v;have u:0<=M.getD i 0/\Ar hd (a.getD i (0,[])).1 (b.getD (M.getD i 0).toNat (0,[])).1=true:=by grind [Qk,Ar]
  cases d:JG (b.getD (M.getD i 0).toNat (0,[])).2 (a.getD i (0,[])).2 M with
  | none=>rw[d]at h;cases h
  | some f =>
   rw[d]at h;simp only at h;obtain⟨g,j,s,t⟩:=j6 e (λx hx=>(Eo hb _ x hx).2) (n:=a.length) (λx hx=>Eo ha i x hx) hn hk d;obtain⟨p,z,q⟩:=Zr ha hb e r (i+1) f c O1 g j h;have m:∀k,0<=M.getD k 0->c.getD k 0=M.getD k 0:=λk w=>by grind
   refine⟨p,m,λk h1 l=>?_⟩;by_cases y:k=i
   .grind
   exact q k O1 l
theorem A8C {a b:List AC} (ha:AN a) (j:0<a.length) (hb:AN b) (n:0<b.length) (c:jZ h a b=true):∃m,Gx h a b m:=by
 unfold jZ A8A at c;cases hm:Ic h b a 0 ((List.replicate a.length (-1)).set 0 0) with
 | none=>rw[hm]at c;cases c
 | some M =>
  have l:((List.replicate a.length (-1:Int)).set 0 0).getD 0 0=0:=by rw[K9 (by simpa using j),BY rfl]
  obtain⟨o,p,d⟩:=Zr ha hb n a.length 0 ((List.replicate a.length (-1)).set 0 0) M O1 sc (λk=>by
   rw[K9 (by simpa using j)];split
   .omega
   rw[AS,AAz];split
   .show (-1:Int)<_;omega
   show (0:Int)<_;omega) (by rw[iN];exact hm)
  have g:=p 0 (by rw[l];omega);rw[l]at g;refine⟨λi=>M.getD i.toNat 0,g,λi e f=>⟨(d i.toNat O1 O1).1,o _⟩,λi e f=>(d i.toNat O1 O1).2.1,λi e f x hx=>((d i.toNat O1 O1).2.2 x hx).2⟩
theorem Ql {f:List AC} (hf:AN f):∀(k:Nat) (t:List Int) (n:Int),JF f t->0<=n->n<f.length->n∉t ->
  ∀q,t.length<q->q<(Bd f k t n).length->∃j,j<q/\∃a∈AL f ((Bd f k t n).getD j 0),a.2=(Bd f k t n).getD q 0
 | 0,t,n,h,h0,h1,s,q,x,d=>by simp only[Bd]at d;omega
 | k+1,t,n,h,h0,h1,s,q,x,d=>by
  have key:∀(l:List (Int×Int)) (u:List Int),(∀a∈l,a∈AL f n)->JF f u->t++[n] <+: u ->
    (∀q,t.length<q->q<u.length->∃j,j<q/\∃a∈AL f (u.getD j 0),a.2=u.getD q 0) ->
    ∀q,t.length<q->q<(l.foldl (Aa f k) u).length->∃j,j<q/\∃a∈AL f ((l.foldl (Aa f k) u).getD j 0),a.2=(l.foldl (Aa f k) u).getD q 0:=by
   intro l;induction l with
   | nil=>intro u _ _ _ hu q m c;exact hu q m c
   | cons a l E =>
    intro u hl hu p B;have ha:=hl a sc;have g:=Am hf ha;rw[RJ];by_cases hm:a.2∈u
    .grind [Aa]
    have hs:Aa f k u a=Bd f k u a.2:=by unfold Aa;rw[At hm]
    rw[hs];obtain⟨z,r⟩:=DS hf k u a.2 hu g.1 g.2 hm;have o:∀j,j<u.length->(Bd f k u a.2).getD j 0=u.getD j 0:=λj A=>by
     obtain⟨v,i⟩:=r;rw[<-i];simp only[AS];rw[RU A]
    have D:u.getD t.length 0=n:=by
     obtain⟨v,i⟩:=p;rw[<-i];simp[AS]
    have y:t.length<u.length:=by
     have:=p.length_le;simp at this;omega
    refine E (Bd f k u a.2) (λb hb=>hl b (by simp[hb])) z (p.trans r) (λq m c=>?_);by_cases w:q<u.length
    .obtain⟨j,F,b,hb,e⟩:=B q m w;refine⟨j,F,b,?_,?_⟩
     .rw[o j O1];exact hb
     rw[o q w];exact e
    by_cases d:q=u.length
    .subst d;refine⟨t.length,y,a,?_,?_⟩
     .rw[o _ y,D];exact ha
     cases k with
     | zero=>simp only[Bd]at c;omega
     | succ k =>
      have C:u++[a.2] <+: Bd f (k+1) u a.2:=by
       rw[Bx];exact(EB (DS hf k) _ _ (λb hb=>Am hf hb) (hu.snoc g.1 g.2 hm)).2
      obtain⟨v,i⟩:=C;rw[<-i];simp[AS]
    exact Ql hf k u a.2 hu g.1 g.2 hm q O1 c
  rw[Bx]at d ⊢;exact key _ (t++[n]) (λa ha=>ha) (h.snoc h0 h1 s) (AB0 _) (λq m c=>by simp only[By,GO]at c;omega) q x d
theorem A64 (hf:AN f) (hs:Ia f) (h0:0<f.length) (b:Int->Int×Int->Bool):RO (XM b f):=by
 obtain⟨g,t⟩:=Zn hf hs b;have h:=KA b f f.length;have c:=A37 g O1;have k:=zN (Gd b f f.length);have m:=Ql g (Gd b f f.length).length [] 0 (FW _) O1 O1 sc;have q:=λn hn=>zP hf hs h0 b (n:=n) hn;rw[h]at c k m;have r:(XM b f).length=(Bd (Gd b f f.length) f.length [] 0).length:=k;intro i s p;rw[r]at p;generalize Bd (Gd b f f.length) f.length [] 0=o at *;obtain⟨j,u,a,ha,e⟩:=m i.toNat (by simp only[nO];omega) O1;have l:o.getD j 0∈o:=AE _ 0 O1;have d:=c.ok.rng _ l;rw[h]at d;rw[AL,jX b d.1 d.2]at ha;refine⟨(j:Int),by omega,by omega,FO o a,?_,?_⟩
 .have:=q _ l;rw[DH c.ok.nd O1]at this;rw[this];exact Do.2 ⟨a,ha,rfl⟩
 show A9 o a.2=i;rw[e,DH c.ok.nd O1];omega
theorem qK (x:List Int):Mf x x=true:=by grind [Mf,Hz,Tw]
theorem Fu (h:AG) (t:Int):Ar h t t=true:=qK _
abbrev par (p:List Int) (n:Int):Int:=p.getD n.toNat 0
structure Fo (p:List Int) (rk:Int->Nat):Prop where
 rng:∀n,0<=n->n<(p.length:Int)->0<=par p n/\par p n<(p.length:Int)
 dec:∀n,0<=n->n<(p.length:Int)->par p n≠n->rk (par p n)<rk n
inductive Rt (p:List Int):Int->Int->Prop
 | base {n:Int} (h:par p n=n):Rt p n n
 | step {n r:Int} (h:par p n≠n) (h2:Rt p (par p n) r):Rt p n r
theorem Rt.det {r s:Int} (h:Rt p n r) (g:Rt p n s):r=s:=by
 induction h with
 | base h =>
  cases g with
  | base g=>rfl
  | step g _=>exact absurd h g
 | step h _ b =>
  cases g with
  | base g=>exact absurd g h
  | step _ a=>exact b a
theorem Rt.root {r:Int} (h:Rt p n r):par p r=r:=by
 induction h with
 | base h=>exact h
 | step _ _ a=>exact a
theorem Fo.ex {b:Int->Nat} (h:Fo p b):∀(k:Nat) (n:Int),b n<=k->0<=n->n<(p.length:Int)->∃r,Rt p n r/\0<=r/\r<(p.length:Int)
 | 0,n,hk,h0,h1=>by
  by_cases e:par p n=n
  .exact⟨n,.base e,h0,h1⟩
  have:=h.dec n h0 h1 e;omega
 | k+1,n,hk,h0,h1=>by
  by_cases e:par p n=n
  .exact⟨n,.base e,h0,h1⟩
  have hd:=h.dec n h0 h1 e;have a:=h.rng n h0 h1;obtain⟨r,c,d,f⟩:=h.ex k (par p n) O1 a.1 a.2;exact⟨r,.step e c,d,f⟩
theorem Fo.root {a:Int->Nat} (h:Fo p a) (h0:0<=n) (h1:n<(p.length:Int)):∃r,Rt p n r/\0<=r/\r<(p.length:Int):=h.ex (a n) n (IN _) h0 h1
theorem C5 {v:Int} (h0:0<=n) (h1:n<(p.length:Int)) (x:Int) (hx:0<=x):par (p.set n.toNat v) x=if x=n then v else par p x:=by
 unfold par;rw[K9 O1];by_cases e:x=n
 .subst e;rw[BY rfl,BY rfl]
 rw[At O1,At e]
def GM (p:List Int) (n:Int):List Int:=p.set n.toNat (par p (par p n))
theorem Sa (p:List Int) (n:Int):(GM p n).length=p.length:=by simp[GM]
theorem A3a {d:Int->Nat} (h:Fo p d) (h0:0<=n) (h1:n<(p.length:Int)) (hn:par p n≠n):Fo (GM p n) d:=by
 have c:=h.rng n h0 h1;have f:=h.rng _ c.1 c.2;have hd:=h.dec n h0 h1 hn;have g:d (par p (par p n))<=d (par p n):=by
  by_cases e:par p (par p n)=par p n
  .rw[e];exact IN _
  exact AC6 (h.dec _ c.1 c.2 e)
 refine⟨λx a b=>?_,λx a b hx=>?_⟩
 .rw[Sa]at b ⊢;unfold GM;rw[C5 h0 h1 x a];split
  .exact f
  exact h.rng x a b
 rw[Sa]at b;unfold GM at hx ⊢;rw[C5 h0 h1 x a]at hx ⊢;split
 .rename_i e;subst e;omega
 rename_i e;rw[At e]at hx;exact h.dec x a b hx
theorem j7 (h:Fo p o) (h0:0<=n) (h1:n<(p.length:Int)) (hn:par p n≠n):∀(k:Nat) (x r:Int),o x<=k->0<=x->x<(p.length:Int)->Rt p x r->Rt (GM p n) x r:=by
 intro k;induction k with
 | zero =>
  intro x r hk a j hx;have e:par p x=x:=IS λe=>by have:=h.dec x a j e;omega
  have f:x≠n:=λb=>hn (b▸e);have:=hx.det (.base e);rw[this];refine .base ?_;unfold GM;rw[C5 h0 h1 x a,At f];exact e
 | succ k l =>
  intro x r hk a j hx;by_cases e:par p x=x
  .have f:x≠n:=λb=>hn (b▸e);have:=hx.det (.base e);rw[this];refine .base ?_;unfold GM;rw[C5 h0 h1 x a,At f];exact e
  have hd:=h.dec x a j e;have c:=h.rng x a j;have i:Rt p (par p x) r:=by
   cases hx with
   | base g=>exact absurd g e
   | step _ g=>exact g
  by_cases f:x=n
  .subst f;by_cases b:par p (par p x)=par p x
   .have:=i.det (.base b);rw[this]at i ⊢;refine .step (r:=par p x) ?_ ?_
    .unfold GM;rw[C5 h0 h1 x a,BY rfl,b];exact e
    have d:par (GM p x) x=par p x:=by
     unfold GM;rw[C5 h0 h1 x a,BY rfl,b]
    rw[d];exact l _ _ O1 c.1 c.2 i
   have s:=h.dec _ c.1 c.2 b;have m:=h.rng _ c.1 c.2;have t:Rt p (par p (par p x)) r:=by
    cases i with
    | base g=>exact absurd g b
    | step _ g=>exact g
   have d:par (GM p x) x=par p (par p x):=by
    unfold GM;rw[C5 h0 h1 x a,BY rfl]
   refine .step ?_ ?_
   .rw[d];intro q;rw[q]at s;omega
   rw[d];exact l _ _ O1 m.1 m.2 t
  have d:par (GM p n) x=par p x:=by
   unfold GM;rw[C5 h0 h1 x a,At f]
  refine .step ?_ ?_
  .rw[d];exact e
  rw[d];exact l _ _ O1 c.1 c.2 i
def Ep (p q:List Int):Prop:=p.length=q.length/\∀x r,0<=x->x<(p.length:Int)->(Rt p x r↔Rt q x r)
theorem Ep.refl (p:List Int):Ep p p:=⟨rfl,λ_ _ _ _=>Iff.rfl⟩
theorem Ep.trans (h:Ep p q) (g:Ep q s):Ep p s :=
 ⟨h.1.trans g.1,λx r a b=>(h.2 x r a b).trans (g.2 x r a (by rw[<-h.1];exact b))⟩
theorem qL {c:Int->Nat} (h:Fo p c) (h0:0<=n) (h1:n<(p.length:Int)) (hn:par p n≠n):Ep p (GM p n):=by
 refine⟨(Sa p n).symm,λx r a b=>⟨λhx=>j7 h h0 h1 hn _ x r (IN _) a b hx,λhx=>?_⟩⟩;obtain⟨s,hs,-,-⟩:=h.root a b;have:=j7 h h0 h1 hn _ x s (IN _) a b hs;have e:=this.det hx;rw[<-e];exact hs
def YR (h:AG) (p ty:List Int) (ar:List (List (Int×Int))):List (Nat×Obj):=[(1,.box 114 true [.p Ec h,.sr 2 T3 0 p.length,.sr 3 T3 0 ty.length,.sr 4 Cl 0 ar.length]),(2,.arr 3 T3 p),(3,.arr 3 T3 ty),(4,.arr 46 Cl ar)]
theorem dG (h:AG) (ty:List Int) (ar:List (List (Int×Int))) (d:Int->Nat) (z:Fo p d) (h0:0<=n) (h1:n<(p.length:Int)):BK Tryz.prog 93 [.bp 1 [] 0,.p T3 n] (YR h p ty ar) [1]
  (λres B=>∃(t:List Int) (r:Int),res=.p T3 r/\B=YR h t ty ar/\Fo t d/\Ep p t/\Rt p n r):=by
 refine NX [0,1,4,13] [] [] Tryz.func93 Tryz.ntmps93 AI ?_;intro w0 K O0 ρ0 j C D;simp only[Ax,YR];repeat'(first|exact trivial|apply eS rfl|refine rX j ?_ ?_)
 refine AJ (ι:={x:List Int×Int//Fo x.1 d/\Ep p x.1/\0<=x.2/\x.2<(p.length:Int)/\(∀r,Rt x.1 x.2 r->Rt p n r)}) (λx=>⟨[(0,.bp 1 [] 0),(1,.p T3 x.1.2)],[(1,.box 114 true [.p Ec h,.sr 2 T3 0 p.length,.sr 3 T3 0 ty.length,.sr 4 Cl 0 ar.length]),(2,.arr 3 T3 x.1.1),(3,.arr 3 T3 ty),(4,.arr 46 Cl ar)]⟩) (λx=>d x.1.2) ⟨(p,n),z,Ep.refl p,h0,h1,λ_ g=>g⟩ (eW [(1,.nm 1),(2,.nm 2),(3,.nm 3),(4,.nm 4)]) (λx=>?_)
 obtain⟨⟨q,m⟩,b,hs,a,f,s⟩:=x;simp only at b hs a f s;have o:q.length=p.length:=hs.1.symm;have c:=b.rng m a O1;simp only;repeat'(first|exact trivial|apply eS rfl|apply AB|refine rX j ?_ ?_|refine rC ?_ ?_<;>intro i<;>try(cases i;done))
 .exact⟨a,f⟩
 .exact⟨⟨a,f⟩,⟨c.1,by rw[<-o];exact c.2⟩,a,f⟩
 .exact⟨a,f⟩
 .have k:par q m≠m:=i;have hd:=b.dec m a O1 k;have u:=b.rng _ c.1 c.2;have w:d (par q (par q m))<=d (par q m):=by
   by_cases e:par q (par q m)=par q m
   .rw[e];exact IN _
   exact AC6 (b.dec _ c.1 c.2 e)
  have v:=qL b a O1 k;have l:par (GM q m) m=par q (par q m):=by
   unfold GM;rw[C5 a O1 m a,BY rfl]
  refine⟨⟨(GM q m,par q (par q m)),A3a b a O1 k,hs.trans v,u.1,by rw[<-o];exact u.2,λr A=>s r ?_⟩,by simp only;omega,AD [(1,.nm 1),(2,.nm 2),(3,.nm 3),(4,.nm 4)] rfl rfl ?_ ?_⟩
  .refine(v.2 m r a O1).2 (.step ?_ ?_)
   .rw[l];intro e;rw[e]at w;omega
   rw[l];exact A
  .refine eM ?_;rfl
  refine eM ?_;exact l
 have y:par q m=m:=by simpa using i
 refine Ev.ent (σ':=⟨[(4,.p T3 m)],YR h q ty ar⟩) ?_ (AD [(1,.nm 1),(2,.nm 2),(3,.nm 3),(4,.nm 4)] rfl rfl ?_ ?_)
 .exact fM j [.tmp 4] (.p T3 m) eT ⟨q,m,rfl,rfl,b,hs,s m (.base y)⟩
 .unfold YR;rw[o];exact eN
 exact eN
def Be (b n:Nat):List Int:=(List.range n).map λi=>((b+i:Nat):Int)
def AX (b:Nat) (l:List (Int×Int)):List (Int×Int):=l.map λa=>(a.1,a.2+(b:Int))
def CW (l:List AC) (n:Nat):List Int:=(l.take n).map λx=>x.1
def Ed (b:Nat) (l:List AC) (n:Nat):List (List (Int×Int)):=(l.take n).map λx=>AX b x.2
theorem qM (b n:Nat):Be b (n+1)=Be b n++[((b+n:Nat):Int)]:=by simp[Be,S9]
theorem H0 (b n:Nat):(Be b n).length=n:=by simp[Be]
theorem qN (h:AG) (p ty:List Int) (ar:List (List (Int×Int))) (l:List AC) (hl:AN l) (I:p.length<=100000) (J:ty.length=p.length) (D:ar.length=p.length) :
  BK Tryz.prog 56 [.bp 1 [] 0,.p Eg l] (YR h p ty ar) [1]
  (λres C=>res=.raw (.tuple #[])/\C=YR h (p++Be p.length l.length) (ty++CW l l.length) (ar++Ed p.length l l.length)):=by
 refine NX [0,1,4,5,6,7,9,15,16,17,18,46,47,48,49] [] [] Tryz.func56 Tryz.ntmps56 AI ?_;intro w0 K O0 ρ0 c G H;have F:=hl.1;simp only[Ax,YR];repeat'(first|exact trivial|apply eS rfl|refine rX c ?_ ?_)
 refine AJ (ι:={i:Nat//i<=l.length}) (λi=>⟨[(0,.bp 1 [] 0),(4,.p (.int .i64) (p.length:Int)),(15,.p Eg l),(16,.p (.int .i64) (l.length:Int)),(17,.p (.int .i64) (i.1:Int))],[(1,.box 114 true [.p Ec h,.sr 2 T3 0 (p++Be p.length i.1).length,.sr 3 T3 0 (ty++CW l i.1).length,.sr 4 Cl 0 (ar++Ed p.length l i.1).length]),(2,.arr 3 T3 (p++Be p.length i.1)),(3,.arr 3 T3 (ty++CW l i.1)),(4,.arr 46 Cl (ar++Ed p.length l i.1))]⟩) (λi=>l.length-i.1) ⟨0,OF _⟩ (AD [(1,.nm 1),(2,.nm 2),(3,.nm 3),(4,.nm 4)] rfl rfl ?_ ?_) (λi=>?_)
 .refine eM ?_;simp[Be,CW,Ed]
 .exact eN
 obtain⟨i,hi⟩:=i;have r:=H0 p.length i;have s:=qM p.length i;have w:(CW l i).length=i:=by unfold CW;rw[No,On];omega
 have m:(Ed p.length l i).length=i:=by unfold Ed;rw[No,On];omega
 have y:=λh:i<l.length=>B8 (λx:AC=>x.1) l (0,[]) h;have n:=λh:i<l.length=>B8 (λx:AC=>AX p.length x.2) l (0,[]) h;simp only;repeat'(first|exact trivial|apply eS rfl|refine rX c ?_ ?_|refine rC ?_ ?_<;>intro b<;>try(cases b;done))
 .exact b
 .refine⟨⟨by omega,by omega⟩,?_⟩;rw[r];simp only[AQ];omega
 .have d:i<l.length:=IF.1 b;refine EP drawsAny c 9 [([1,2,3,4,5,6,7],8)] [0] (by kernel_rfl) (Pi ?_ ?_)
  .trivial
  refine Ya c [3] ?_ ?_
  .rw[w];simp only[AQ];omega
  refine eY c ?_ ?_ ?_
  .trivial
  .trivial
  have z:=y d;have o:=n d;have j:p++Be p.length i++[(p.length:Int)+(i:Int)]=p++Be p.length (i+1):=by
   rw[s,RI];rfl
  have eT:ty++CW l i++[(l.getD i (0,[])).1]=ty++CW l (i+1):=by
   unfold CW;rw[z,RI]
  have A:p.length+(Be p.length i).length+1=(p++Be p.length (i+1)).length:=by rw[By,H0,H0];omega
  have B:ty.length+(CW l i).length+1=(ty++CW l (i+1)).length:=by rw[<-eT,By,By,GO]
  have t:=Eo hl i;have M:(l.getD i (0,[])).2.length<=100000:=(hl.2 _ (AE l (0,[]) d)).1;repeat'(first|exact trivial|apply eS rfl|refine rX c ?_ ?_)
  rw[j,eT,A,B];generalize L:(l.getD i (0,[])).2=xs at *;refine AJ (ι:={k:Nat//k<=xs.length}) (λk=>⟨[(0,.bp 1 [] 0),(4,.p (.int .i64) (p.length:Int)),(7,.sr 61 CK 0 (AX p.length (xs.take k.1)).length),(15,.p Eg l),(16,.p (.int .i64) (l.length:Int)),(17,.p (.int .i64) (i:Int)),(46,.p Cl xs),(47,.p (.int .i64) (xs.length:Int)),(48,.p (.int .i64) (k.1:Int))],[(1,.box 114 true [.p Ec h,.sr 2 T3 0 (p++Be p.length (i+1)).length,.sr 3 T3 0 (ty++CW l (i+1)).length,.sr 4 Cl 0 (ar++Ed p.length l i).length]),(2,.arr 3 T3 (p++Be p.length (i+1))),(3,.arr 3 T3 (ty++CW l (i+1))),(4,.arr 46 Cl (ar++Ed p.length l i)),(61,.arr 45 CK (AX p.length (xs.take k.1)))]⟩) (λk=>xs.length-k.1) ⟨0,OF _⟩ (AD [(1,.nm 1),(2,.nm 2),(3,.nm 3),(4,.nm 4),(61,.nil)] rfl rfl ?_ ?_) (λk=>?_)
  .refine eM ?_;rfl
  .refine eM ?_;rfl
  obtain⟨k,hk⟩:=k;have u:(AX p.length (xs.take k)).length=k:=by unfold AX;rw[No,On];omega
  have v:=λh:k<xs.length=>B8 (λa:Int×Int=>(a.1,a.2+(p.length:Int))) xs (0,0) h;have q:=λh:k<xs.length=>t _ (AE xs (0,0) h);simp only;repeat'(first|exact trivial|apply eS rfl|apply AB|refine rX c ?_ ?_|refine rC ?_ ?_<;>intro b<;>try(cases b;done))
  .exact b
  .have e:k<xs.length:=IF.1 b;have E:=q e;refine⟨⟨by omega,by omega⟩,?_⟩;rw[u];simp only[AQ];omega
  .omega
  .have e:k<xs.length:=IF.1 b;have f:AX p.length (xs.take (k+1))=AX p.length (xs.take k)++[((xs.getD k (0,0)).1,(xs.getD k (0,0)).2+(p.length:Int))]:=v e;refine⟨⟨k+1,e⟩,by simp only;omega,AD [(1,.nm 1),(2,.nm 2),(3,.nm 3),(4,.nm 4),(61,.nm 61)] rfl rfl ?_ ?_⟩
   .simp only[f];exact eN
   simp only[f];exact eN
  .rw[m];simp only[AQ];omega
  .omega
  have e:xs.take k=xs:=As (RM.1 b);rw[e];have g:ar++Ed p.length l i++[AX p.length xs]=ar++Ed p.length l (i+1):=by
   unfold Ed;rw[o,RI]
  refine⟨⟨i+1,d⟩,by simp only;omega,AD [(1,.nm 1),(2,.nm 2),(3,.nm 3),(4,.nm 4)] rfl rfl ?_ ?_⟩
  .simp only[<-g];exact eN
  exact eN
 have d:i=l.length:=by omega
 subst d;refine Ev.ent (σ':=⟨[],YR h (p++Be p.length l.length) (ty++CW l l.length) (ar++Ed p.length l l.length)⟩) ?_ (AD [(1,.nm 1),(2,.nm 2),(3,.nm 3),(4,.nm 4)] rfl rfl ?_ ?_)
 .exact fM c [] (.raw (.tuple #[])) rfl ⟨rfl,rfl⟩
 .unfold YR;exact eN
 exact eN
section
attribute [local go_sem] uJ
def Bz:List (Int×Int)->List (Int×Int)->List (Int×Int)×List (Int×Int)
 | [],y=>(y,[])
 | a :: x,[]=>(a :: x,[])
 | a :: x,b :: y =>
  if a.1<b.1 then (a :: (Bz x (b :: y)).1,(Bz x (b :: y)).2)
  else if b.1<a.1 then (b :: (Bz (a :: x) y).1,(Bz (a :: x) y).2)
  else (a :: (Bz x y).1,(a.2,b.2) :: (Bz x y).2)
termination_by x y=>x.length+y.length
structure qO (xs ys:List (Int×Int)) (W0:List (Int×Int)) (s:(List (Int×Int)×List (Int×Int))×(List (Int×Int)×List (Int×Int)×Nat)):Prop where
 hi:s.2.2.2<=s.2.2.1.length
 both:s.2.1++(Bz s.1.1 s.1.2).1=(Bz xs ys).1
 wait:s.2.2.1.take s.2.2.2++(Bz s.1.1 s.1.2).2=W0++(Bz xs ys).2
 len:s.2.1.length+s.1.1.length+s.1.2.length<=xs.length+ys.length
 num:s.2.2.2+s.1.1.length<=W0.length+xs.length
theorem AA5 {x:List (Int×Int)} (h0:0<x.length) (h:y.length=0\/(x.getD 0 (0,0)).1<(y.getD 0 (0,0)).1):Bz x y=(x.getD 0 (0,0) :: (Bz (x.drop 1) y).1,(Bz (x.drop 1) y).2):=by
 cases x with
 | nil=>simp at h0
 | cons a x =>
  cases y with
  | nil =>
   simp only[ABf,iN];cases x<;>simp[Bz]
  | cons b y =>
   have h:a.1<b.1:=by simpa using h
   simp only[ABf,iN];rw[Bz,BY h];rfl
theorem AA6 {x:List (Int×Int)} (h0:0<y.length) (h:x.length=0\/(y.getD 0 (0,0)).1<(x.getD 0 (0,0)).1):Bz x y=(y.getD 0 (0,0) :: (Bz x (y.drop 1)).1,(Bz x (y.drop 1)).2):=by
 cases y with
 | nil=>simp at h0
 | cons b y =>
  cases x with
  | nil=>simp[Bz]
  | cons a x =>
   have h:b.1<a.1:=by simpa using h
   simp only[ABf,iN];rw[Bz,At O1,BY h];rfl
theorem A8D {x:List (Int×Int)} (h0:0<x.length) (h1:0<y.length) (h:(x.getD 0 (0,0)).1=(y.getD 0 (0,0)).1):Bz x y=(x.getD 0 (0,0) :: (Bz (x.drop 1) (y.drop 1)).1,((x.getD 0 (0,0)).2,(y.getD 0 (0,0)).2) :: (Bz (x.drop 1) (y.drop 1)).2):=by
 cases x with
 | nil=>simp at h0
 | cons a x =>
  cases y with
  | nil=>simp at h1
  | cons b y =>
   have h:a.1=b.1:=by simpa using h
   simp only[ABf,iN];rw[Bz,At O1,At O1];rfl
section
variable {xs ys W0 x y bo V:List (Int×Int)} {k:Nat}
theorem A8E (h:qO xs ys W0 ((x,y),bo,V,k)) (h0:0<x.length) (f:y.length=0\/(x.getD 0 (0,0)).1<(y.getD 0 (0,0)).1):qO xs ys W0 ((x.drop 1,y),bo++[x.getD 0 (0,0)],V,k):=by
 have e:=AA5 h0 f;obtain⟨h1,a,b,c,d⟩:=h;simp only at h1 a b c d;rw[e]at a b;exact⟨h1,by rw[RI];exact a,b,by simp only[By,GO,aS];omega,by simp only[aS];omega⟩
theorem A8F (h:qO xs ys W0 ((x,y),bo,V,k)) (h0:0<y.length) (f:x.length=0\/(y.getD 0 (0,0)).1<(x.getD 0 (0,0)).1):qO xs ys W0 ((x,y.drop 1),bo++[y.getD 0 (0,0)],V,k):=by
 have e:=AA6 h0 f;obtain⟨h1,a,b,d,c⟩:=h;simp only at h1 a b d c;rw[e]at a b;exact⟨h1,by rw[RI];exact a,b,by simp only[By,GO,aS];omega,c⟩
theorem A65 (h:qO xs ys W0 ((x,y),bo,V,k)) (h0:0<x.length) (h1:0<y.length) (g:(x.getD 0 (0,0)).1=(y.getD 0 (0,0)).1):qO xs ys W0 ((x.drop 1,y.drop 1),bo++[x.getD 0 (0,0)],V.take k++[((x.getD 0 (0,0)).2,(y.getD 0 (0,0)).2)],k+1):=by
 have e:=A8D h0 h1 g;obtain⟨c,a,b,d,f⟩:=h;simp only at c a b d f;rw[e]at a b;have hl:(V.take k++[((x.getD 0 (0,0)).2,(y.getD 0 (0,0)).2)]).length=k+1:=by simp only[By,GO,On];omega
 exact⟨by simp only[hl];omega,by rw[RI];exact a,by simp only;rw[As O1,RI];exact b,by simp only[By,GO,aS];omega,by simp only[aS];omega⟩
end
def mgO (h:AG) (p ty:List Int) (ar:List (List (Int×Int))) (W:List (Int×Int)) (hi:Nat):List (Nat×Obj) :=
 [(1,.box 114 true [.p Ec h,.sr 2 T3 0 p.length,.sr 3 T3 0 ty.length,.sr 4 Cl 0 ar.length]),(2,.arr 3 T3 p),(3,.arr 3 T3 ty),(4,.arr 46 Cl ar),(5,.box 111 false [.bp 1 [] 0]),(6,.box 153 false [.sr 7 Jf 0 hi]),(7,.arr 152 Jf W)]
theorem A3c (h:AG) (hh:h.1.length<=100000) (F:∀x∈h.1,x.2.1.length<=100000) (p ty:List Int) (ar:List (List (Int×Int))) (W:List (Int×Int)) (hi:Nat) (G:hi<=W.length) (M:hi<=100000000000) {a:Int} (l:0<=a) (J:a<(p.length:Int)) (n:0<=b) (b1:b<(p.length:Int)) (R:ty.length=p.length) (L:ar.length=p.length)
  (ta:0<=ty.getD a.toNat 0/\ty.getD a.toNat 0<(h.1.length:Int)) (tb:0<=ty.getD b.toNat 0/\ty.getD b.toNat 0<(h.1.length:Int)) (N:(ar.getD a.toNat []).length<=10000000) (O:(ar.getD b.toNat []).length<=10000000) :
  BK Tryz.prog 91 [.p T3 a,.p T3 b,.bp 5 [] 0,.bp 6 [] 0] (mgO h p ty ar W hi) [1,5,6]
  (λres w=>((Bu h (ty.getD a.toNat 0) (ty.getD b.toNat 0)).2=false/\res=.p .bool false/\w=mgO h p ty ar W hi) \/
   ((Bu h (ty.getD a.toNat 0) (ty.getD b.toNat 0)).2=true/\res=.p .bool true/\∃m o,o<=m.length/\m.take o=W.take hi++(Bz (ar.getD a.toNat []) (ar.getD b.toNat [])).2 /\
    w=mgO h (p.set b.toNat a) (ty.set a.toNat (Bu h (ty.getD a.toNat 0) (ty.getD b.toNat 0)).1) (ar.set a.toNat (Bz (ar.getD a.toNat []) (ar.getD b.toNat [])).1) m o)):=by
 refine NX [0,1,2,3,6,7,8,9,10,11,35,71,94,122] [] [] Tryz.func91 Tryz.ntmps91 (AF A5R AI) ?_;intro w0 K O0 ρ0 d P Q;have r:a<(ty.length:Int):=by omega
 have A:b<(ty.length:Int):=by omega
 have q:a<(ar.length:Int):=by omega
 have z:b<(ar.length:Int):=by omega
 simp only[mgO,Ax];repeat'(first|exact trivial|apply eS rfl|refine rX d ?_ ?_|refine rC ?_ ?_<;>intro c<;>try(cases c;done))
 .refine⟨⟨l,r⟩,⟨n,A⟩,ta,tb,hh,F⟩
 .refine Ev.ent (σ':=⟨[(6,.p .bool false)],mgO h p ty ar W hi⟩) ?_ (AD [(1,.nm 1),(2,.nm 2),(3,.nm 3),(4,.nm 4),(5,.nm 5),(6,.nm 6),(7,.nm 7)] rfl rfl ?_ ?_)
  .exact fM d [.tmp 6] (.p .bool false) eT (.inl ⟨c,rfl,rfl⟩)
  .unfold mgO;exact eN
  exact eN
 .exact⟨n,b1⟩
 .exact⟨l,r⟩
 .exact⟨⟨l,q⟩,n,z⟩
 generalize ht:(Bu h (ty.getD a.toNat 0) (ty.getD b.toNat 0)).1=t at *;generalize S:ar.getD a.toNat []=xs at *;generalize T:ar.getD b.toNat []=ys at *;refine AJ (ι:={s:(List (Int×Int)×List (Int×Int))×(List (Int×Int)×List (Int×Int)×Nat)//qO xs ys (W.take hi) s}) (λs=>⟨[(0,.p T3 a),(1,.p T3 b),(2,.bp 5 [] 0),(3,.bp 6 [] 0),(9,.p Cl s.1.1.1),(10,.p Cl s.1.1.2),(11,.sr 11 CK 0 s.1.2.1.length)],[(1,.box 114 true [.p Ec h,.sr 2 T3 0 p.length,.sr 3 T3 0 ty.length,.sr 4 Cl 0 ar.length]),(2,.arr 3 T3 (p.set b.toNat a)),(3,.arr 3 T3 (ty.set a.toNat t)),(4,.arr 46 Cl ar),(5,.box 111 false [.bp 1 [] 0]),(6,.box 153 false [.sr 7 Jf 0 s.1.2.2.2]),(7,.arr 152 Jf s.1.2.2.1),(11,.arr 45 CK s.1.2.1)]⟩) (λs=>s.1.1.1.length+s.1.1.2.length) ⟨((xs,ys),([],W,hi)),G,rfl,rfl,by simp,by simp only[On];omega⟩ (eW [(1,.nm 1),(2,.nm 2),(3,.nm 3),(4,.nm 4),(5,.nm 5),(6,.nm 6),(7,.nm 7),(11,.nil)]) (λs=>?_)
 obtain⟨⟨⟨x,y⟩,bo,V,k⟩,hm⟩:=s;have H:=hm.len;have I:=hm.num;have u:=hm.hi;simp only[On]at H I u ⊢;repeat'(first|exact trivial|apply eS rfl|refine rX d ?_ ?_|refine rC ?_ ?_<;>intro c<;>try(cases c;done))
 .refine⟨λh=>?_,λh=>?_⟩
  .rw[An,ON]at h;exact h.2
  rw[An,RQ,AAW]at h;have C:=h.1;have j:y.length≠0:=λe=>C (by rw[e];rfl);exact IF.2 (AB9 j)
 .have f:0<x.length:=by
   rcases c with c|c
   .omega
   exact IF.1 c.1
  have D:y.length=0\/(x.getD 0 (0,0)).1<(y.getD 0 (0,0)).1:=by
   rcases c with c|c
   .exact .inl (ACo c)
   exact .inr c.2
  refine EP drawsAny d 9 [([0,1,2,3,4],5),([],8)] [6,7] (by kernel_rfl) (Pi ?_ ?_)
  .exact⟨IF.2 f,RM.2 f⟩
  refine Ya d [11] ?_ ?_
  .simp only[AQ];omega
  refine Pi ?_ ?_
  .exact RM.2 f
  refine Ya d [] ?_ ?_
  .trivial
  refine eY d ?_ ?_ ?_
  .exact RM.2 f
  .trivial
  repeat'(first|apply eS rfl|apply AB)
  exact⟨⟨((x.drop 1,y),bo++[x.getD 0 (0,0)],V,k),A8E hm f D⟩,by simp only[aS];omega,eW [(1,.nm 1),(2,.nm 2),(3,.nm 3),(4,.nm 4),(5,.nm 5),(6,.nm 6),(7,.nm 7),(11,.nm 11)]⟩
 .have j:y.length≠0:=λe=>c.1 (by rw[e];rfl);have B:0<y.length:=AB9 j;refine⟨λh=>IF.2 B,λh=>?_⟩
  rw[RQ,AAW]at h;have j:x.length≠0:=λe=>h (by rw[e];rfl);exact IF.2 (AB9 j)
 .have g:0<y.length:=AB9 λe=>(by assumption:¬_/\_).1 (by rw[e];rfl);have i:x.length=0\/(y.getD 0 (0,0)).1<(x.getD 0 (0,0)).1:=by
   rcases c with c|c
   .exact .inl (ACo c)
   exact .inr c
  refine EP drawsAny d 9 [([0,1,2,3,4],5),([],8)] [6,7] (by kernel_rfl) (Pi ?_ ?_)
  .exact⟨IF.2 g,RM.2 g⟩
  refine Ya d [11] ?_ ?_
  .simp only[AQ];omega
  refine Pi ?_ ?_
  .exact RM.2 g
  refine Ya d [] ?_ ?_
  .trivial
  refine eY d ?_ ?_ ?_
  .exact RM.2 g
  .trivial
  repeat'(first|apply eS rfl|apply AB)
  exact⟨⟨((x,y.drop 1),bo++[y.getD 0 (0,0)],V,k),A8F hm g i⟩,by simp only[aS];omega,eW [(1,.nm 1),(2,.nm 2),(3,.nm 3),(4,.nm 4),(5,.nm 5),(6,.nm 6),(7,.nm 7),(11,.nm 11)]⟩
 .rename_i i;have f:0<x.length:=AB9 λe=>c.1 (by rw[e];rfl);have g:0<y.length:=AB9 λe=>i.1 (by rw[e];rfl);refine⟨IF.2 f,IF.2 g,?_⟩;simp only[AQ];omega
 .rename_i i;have f:0<x.length:=AB9 λe=>c.1 (by rw[e];rfl);have g:0<y.length:=AB9 λe=>i.1 (by rw[e];rfl);have E:(x.getD 0 (0,0)).1=(y.getD 0 (0,0)).1:=Int.le_antisymm c.2 (i.2 (IF.2 f));refine EP drawsAny d 12 [([0,1,2,3,4],5),([],10),([6,7],11)] [8,9] (by kernel_rfl) (Pi ?_ ?_)
  .exact⟨IF.2 f,RM.2 f,RM.2 g⟩
  refine Ya d [11] ?_ ?_
  .simp only[AQ];omega
  refine Pi ?_ ?_
  .exact⟨RM.2 f,RM.2 g⟩
  refine Ya d [] ?_ ?_
  .trivial
  refine Pi ?_ ?_
  .exact⟨RM.2 f,RM.2 g⟩
  refine Ya d [] ?_ ?_
  .trivial
  refine eY d ?_ ?_ ?_
  .exact RM.2 g
  .trivial
  repeat'(first|apply eS rfl|apply AB)
  exact⟨⟨((x.drop 1,y.drop 1),bo++[x.getD 0 (0,0)],V.take k++[((x.getD 0 (0,0)).2,(y.getD 0 (0,0)).2)],k+1),A65 hm f g E⟩,by simp only[aS];omega,eW [(1,.nm 1),(2,.nm 2),(3,.nm 3),(4,.nm 4),(5,.nm 5),(6,.nm 6),(7,.nm 7),(11,.nm 11)]⟩
 .exact⟨l,q⟩
 have f:x=[]:=RW O1;have g:y=[]:=RW O1;subst f g;have hb:=hm.both;have v:=hm.wait;simp only[Bz,S6]at hb v;refine Ev.ent (σ':=⟨[(6,.p .bool true)],mgO h (p.set b.toNat a) (ty.set a.toNat t) (ar.set a.toNat bo) V k⟩) ?_ (AD [(1,.nm 1),(2,.nm 2),(3,.nm 3),(4,.nm 4),(5,.nm 5),(6,.nm 6),(7,.nm 7)] rfl rfl ?_ ?_)
 .exact fM d [.tmp 6] (.p .bool true) eT (.inr ⟨by assumption,rfl,V,k,u,v,by rw[hb];rfl⟩)
 .unfold mgO;simp only[TA];exact eN
 exact eN
end
theorem Id (hk:GI h) {a c:Int} (d:0<=a) (e:a<(h.1.length:Int)) (f:0<=b) (b1:b<(h.1.length:Int)) (c0:0<=c) (c1:c<(h.1.length:Int)) (h1:Ar h a b=true) (g:Ar h b c=true):Ar h a c=true :=
 (Bi hk d e c0 c1).2 λi hi=>(Bi hk d e f b1).1 h1 i ((Bi hk f b1 c0 c1).1 g i hi)
theorem Qm:∀ {x y:List (Int×Int)} {a:Int×Int},a∈x->a∈(Bz x y).1
 | [],_,_,h=>by cases h
 | b :: x,[],a,h=>by simpa[Bz] using h
 | b :: x,c :: y,a,h=>by
  rw[Bz];split
  .rcases DO.1 h with rfl|h
   .simp
   exact If _ (Qm h)
  split
  .exact If _ (Qm h)
  rcases DO.1 h with rfl|h
  .simp
  exact If _ (Qm h)
termination_by x y=>x.length+y.length
theorem Nh:∀ {x y:List (Int×Int)} {a:Int×Int},a∈y->a∈(Bz x y).1\/∃t,(a.1,t)∈(Bz x y).1/\(t,a.2)∈(Bz x y).2
 | [],y,a,h=>by
  left;simpa[Bz] using h
 | b :: x,[],a,h=>by cases h
 | b :: x,c :: y,a,h=>by
  rw[Bz];split
  .rcases Nh (x:=x) h with g|⟨t,d,e⟩
   .exact .inl (If _ g)
   exact .inr ⟨t,If _ d,e⟩
  split
  .rcases DO.1 h with rfl|h
   .left;simp
   rcases Nh (x:=b :: x) h with g|⟨t,d,e⟩
   .exact .inl (If _ g)
   exact .inr ⟨t,If _ d,e⟩
  rcases DO.1 h with rfl|h
  .right;exact⟨b.2,by rw[show a.1=b.1 by omega];simp,by simp⟩
  rcases Nh (x:=x) h with g|⟨t,d,e⟩
  .exact .inl (If _ g)
  exact .inr ⟨t,If _ d,If _ e⟩
termination_by x y=>x.length+y.length
theorem JH:∀ {x y:List (Int×Int)} {a:Int×Int},a∈(Bz x y).1->a∈x\/a∈y
 | [],y,a,h=>by
  right;simpa[Bz] using h
 | b :: x,[],a,h=>by
  left;simpa[Bz] using h
 | b :: x,c :: y,a,h=>by
  rw[Bz]at h;split at h
  .rcases DO.1 h with rfl|h
   .left;simp
   rcases JH h with g|g
   .exact .inl (If _ g)
   exact .inr g
  split at h
  .rcases DO.1 h with rfl|h
   .right;simp
   rcases JH h with g|g
   .exact .inl g
   exact .inr (If _ g)
  rcases DO.1 h with rfl|h
  .left;simp
  rcases JH h with g|g
  .exact .inl (If _ g)
  exact .inr (If _ g)
termination_by x y=>x.length+y.length
theorem Qn:∀ {x y:List (Int×Int)} {q:Int×Int},q∈(Bz x y).2->∃e,(e,q.1)∈x/\(e,q.2)∈y
 | [],y,q,h=>by simp[Bz]at h
 | b :: x,[],q,h=>by simp[Bz]at h
 | b :: x,c :: y,q,h=>by
  rw[Bz]at h;split at h
  .obtain⟨e,h1,a⟩:=Qn h;exact⟨e,If _ h1,a⟩
  split at h
  .obtain⟨e,h1,a⟩:=Qn h;exact⟨e,h1,If _ a⟩
  rcases DO.1 h with rfl|h
  .exact⟨b.1,by simp,by rw[show b.1=c.1 by omega];simp⟩
  obtain⟨e,h1,a⟩:=Qn h;exact⟨e,If _ h1,If _ a⟩
termination_by x y=>x.length+y.length
theorem Qo:∀ {x y:List (Int×Int)},(Bz x y).2.length<=x.length
 | [],y=>by simp[Bz]
 | b :: x,[]=>by simp[Bz]
 | b :: x,c :: y=>by
  rw[Bz];split
  .have:=Qo (x:=x) (y:=c :: y);simp only[NO];omega
  split
  .exact Qo (x:=b :: x) (y:=y)
  have:=Qo (x:=x) (y:=y);simp only[NO];omega
termination_by x y=>x.length+y.length
abbrev Ix (l:List (Int×Int)):Prop:=l.Pairwise (λa b=>a.1<b.1)
theorem VE:∀ {x y:List (Int×Int)},Ix x->Ix y->Ix (Bz x y).1
 | [],y,_,h=>by simpa[Bz] using h
 | b :: x,[],h,_=>by simpa[Bz] using h
 | b :: x,c :: y,hx,hy=>by
  have d:=S8.1 hx;have e:=S8.1 hy;rw[Bz];split
  .rename_i f;refine S8.2 ⟨λa ha=>?_,VE d.2 hy⟩;rcases JH ha with g|g
   .exact d.1 a g
   rcases DO.1 g with rfl|g
   .exact f
   have:=e.1 a g;omega
  split
  .rename_i f;refine S8.2 ⟨λa ha=>?_,VE hx e.2⟩;rcases JH ha with g|g
   .rcases DO.1 g with rfl|g
    .exact f
    have:=d.1 a g;omega
   exact e.1 a g
  refine S8.2 ⟨λa ha=>?_,VE d.2 e.2⟩;rcases JH ha with g|g
  .exact d.1 a g
  have:=e.1 a g;omega
termination_by x y=>x.length+y.length
theorem A66 (l:Fo p o) {a:Int} (j:0<=a) (c:0<=b) (b1:b<(p.length:Int)) (ha:par p a=a) (hb:par p b=b) (f:a≠b) {r:Int} (d:0<=x) (q:x<(p.length:Int)) (h:Rt p x r):Rt (p.set b.toNat a) x (if r=b then a else r):=by
 have k:Rt (p.set b.toNat a) a a:=.base (by rw[C5 c b1 a j,At f];exact ha);induction h with
 | @base n hn =>
  split
  .rename_i e;rw[e];exact .step (by rw[C5 c b1 b c,BY rfl];exact f) (by rw[C5 c b1 b c,BY rfl];exact k)
  rename_i e;exact .base (by rw[C5 c b1 n d,At e];exact hn)
 | @step n r hn _ m =>
  have g:n≠b:=λe=>hn (e▸hb);have i:=l.rng n d q;exact .step (by rw[C5 c b1 n d,At g];exact hn) (by rw[C5 c b1 n d,At g];exact m i.1 i.2)
theorem A67 {c:Int->Nat} (h:Fo p c) {a:Int} (i:0<=a) (j:a<(p.length:Int)) (d:0<=b) (b1:b<(p.length:Int)) (ha:par p a=a) (hb:par p b=b) (l:a≠b):∃m,Fo (p.set b.toNat a) m:=by
 classical
 refine⟨λx=>if Rt p x b then c x+c a+1 else c x,λn n0 n1=>?_,λn n0 n1 hn=>?_⟩
 .rw[TA]at n1 ⊢;rw[C5 d b1 n n0];split
  .exact⟨i,j⟩
  exact h.rng n n0 n1
 rw[TA]at n1;rw[C5 d b1 n n0]at hn ⊢;by_cases e:n=b
 .subst e;rw[BY rfl];have h1:¬Rt p a n:=λg=>l (g.det (.base ha)).symm;rw[At h1,BY (.base hb)];omega
 rw[At e]at hn ⊢;have hd:=h.dec n n0 n1 hn;have f:Rt p n b↔Rt p (par p n) b:=by
  constructor
  .intro g;cases g with
   | base g=>exact absurd g hn
   | step _ g=>exact g
  exact λg=>.step hn g
 by_cases g:Rt p n b
 .rw[BY g,BY (f.1 g)];omega
 rw[At g,At (λk=>g (f.2 k))];exact hd
inductive EG (n:Nat) (p:List Int) (W:List (Int×Int)):Int->Int->Prop
 | cls {x y r:Int} (x0:0<=x) (x1:x<(n:Int)) (y0:0<=y) (y1:y<(n:Int)) (h:Rt p x r) (g:Rt p y r):EG n p W x y
 | wt {x y:Int} (h:(x,y)∈W):EG n p W x y
 | symm {x y:Int} (h:EG n p W x y):EG n p W y x
 | trans {x y z:Int} (h:EG n p W x y) (g:EG n p W y z):EG n p W x z
theorem EG.mono {n:Nat} {V:List (Int×Int)} (h1:∀x y r,0<=x->x<(n:Int)->0<=y->y<(n:Int)->Rt p x r->Rt p y r->EG n q V x y) (a:∀x y,(x,y)∈l->EG n q V x y) {x y:Int} (h:EG n p l x y):EG n q V x y:=by
 induction h with
 | cls e f i j h g=>exact h1 _ _ _ e f i j h g
 | wt h=>exact a _ _ h
 | symm _ b=>exact .symm b
 | trans _ _ c d=>exact .trans c d
structure Iu (h:AG) (N:List AC) (P:List (Int×Int)) (X:List AC) (v:Int->Int):Prop where
 rng:∀x,0<=x->x<(N.length:Int)->0<=v x/\v x<(X.length:Int)
 ty:∀x,0<=x->x<(N.length:Int)->Ar h (N.getD x.toNat (0,[])).1 (X.getD (v x).toNat (0,[])).1=true
 arc:∀x,0<=x->x<(N.length:Int)->∀a∈AL N x,Av (AL X (v x)) a.1=v a.2
 eq:∀q∈P,v q.1=v q.2
structure JX (h:AG) (X:List AC) (v:Int->Int) (n:Nat) (p ty:List Int) (ar:List (List (Int×Int))) (W:List (Int×Int)):Prop where
 cls:∀x r,0<=x->x<(n:Int)->Rt p x r->v x=v r
 wt:∀w∈W,v w.1=v w.2
 ty:∀r,0<=r->r<(n:Int)->par p r=r->Ar h (ty.getD r.toNat 0) (X.getD (v r).toNat (0,[])).1=true
 arc:∀r,0<=r->r<(n:Int)->par p r=r->∀a∈ar.getD r.toNat [],Av (AL X (v r)) a.1=v a.2
def Cm (N:List AC):List Int:=N.flatMap λx=>x.2.map (·.1)
structure JI (h:AG) (N:List AC) (P:List (Int×Int)) (p ty:List Int) (ar:List (List (Int×Int))) (W:List (Int×Int)):Prop where
 nty:CA h N
 fo:∃rk,Fo p rk
 lp:p.length=N.length
 lt:ty.length=N.length
 la:ar.length=N.length
 wr:∀w∈W,(0<=w.1/\w.1<(N.length:Int))/\(0<=w.2/\w.2<(N.length:Int))
 tyr:∀x,0<=x->x<(N.length:Int)->0<=ty.getD x.toNat 0/\ty.getD x.toNat 0<(h.1.length:Int)
 arr:∀k,∀a∈ar.getD k [],(0<=a.2/\a.2<(N.length:Int))/\a.1∈Cm N
 srt:∀k,Ix (ar.getD k [])
 sp:∀q∈P,EG N.length p W q.1 q.2
 st:∀x r,0<=x->x<(N.length:Int)->Rt p x r->Ar h (N.getD x.toNat (0,[])).1 (ty.getD r.toNat 0)=true
 sa:∀x r,0<=x->x<(N.length:Int)->Rt p x r->∀a∈AL N x,∃t,(a.1,t)∈ar.getD r.toNat []/\EG N.length p W a.2 t
 co:∀X v,CA h X->Iu h N P X v->JX h X v N.length p ty ar W
theorem GN {b:Int->Nat} (a:Fo p b) {x r:Int} (d:0<=x) (e:x<(p.length:Int)) (h:Rt p x r):0<=r/\r<(p.length:Int):=by
 obtain⟨s,hs,c,s1⟩:=a.root d e;rw[h.det hs];exact⟨c,s1⟩
theorem Sb (h:Ep p q) {r:Int} (a:0<=r) (b:r<(p.length:Int)):par p r=r↔par q r=r :=
 ⟨λe=>((h.2 r r a b).1 (.base e)).root,λe=>((h.2 r r a b).2 (.base e)).root⟩
theorem A68 {N:List AC} {P:List (Int×Int)} {ty:List Int} {ar:List (List (Int×Int))} (hs:Ep p q) (j:∃z,Fo q z) (u:JI h N P p ty ar y):JI h N P q ty ar y:=by
 obtain⟨nty,fo,lp,lt,la,wr,tyr,arr,srt,sp,st,sa,co⟩:=u;have i:∀x r,0<=x->x<(N.length:Int)->(Rt p x r↔Rt q x r):=λx r b c=>hs.2 x r b (by rw[lp];exact c);have s:∀ {x W},EG N.length p y x W->EG N.length q y x W:=λ{x W} g=>g.mono (λx W r b c k l h1 o=>.cls b c k l ((i x r b c).1 h1) ((i W r k l).1 o)) (λ_ _ h=>.wt h);refine⟨nty,j,by rw[<-hs.1];exact lp,lt,la,wr,tyr,arr,srt,λq j=>s (sp q j),λx r b c d=>st x r b c ((i x r b c).2 d),λx r b c d a ha=>?_,λX v t w=>?_⟩
 .grind
 obtain⟨c1,c2,m,n⟩:=co X v t w;exact⟨λx r b c d=>c1 x r b c ((i x r b c).2 d),c2,λr e f d=>m r e f ((Sb hs e (by rw[lp];exact f)).2 d),λr e f d=>n r e f ((Sb hs e (by rw[lp];exact f)).2 d)⟩
section
variable {h:AG} {N:List AC} {P:List (Int×Int)} {p ty:List Int} {ar:List (List (Int×Int))} {W:List (Int×Int)} {s t a b:Int}
theorem dH (n:JI h N P p ty ar (W++[(s,t)])) (hs:Rt p s a) (ht:Rt p t a):JI h N P p ty ar W:=by
 obtain⟨nty,fo,lp,lt,la,wr,tyr,arr,srt,sp,st,sa,co⟩:=n;have b:=wr (s,t) sc;have l:∀ {x y},EG N.length p (W++[(s,t)]) x y->EG N.length p W x y:=λ{x y} g=>g.mono (λx y r d f z A h1 k=>.cls d f z A h1 k) (λx y c=>by
  rcases Fg.1 c with c|c
  .exact .wt c
  have e:(x,y)=(s,t):=by simpa using c
  cases e;exact .cls b.1.1 b.1.2 b.2.1 b.2.2 hs ht)
 refine⟨nty,fo,lp,lt,la,λw b=>wr w (S7 _ b),tyr,arr,srt,λq o=>l (sp q o),st,λx r d f B a ha=>?_,λX v m u=>?_⟩
 .grind
 obtain⟨c1,c2,i,j⟩:=co X v m u;exact⟨c1,λw b=>c2 w (S7 _ b),i,j⟩
theorem VG (hk:GI h) (c:JI h N P p ty ar (W++[(s,t)])) (hs:Rt p s a) (ht:Rt p t b) {X:List AC} {v:Int->Int} (n:CA h X) (o:Iu h N P X v) :
  v a=v b/\(Bu h (ty.getD a.toNat 0) (ty.getD b.toNat 0)).2=true/\Ar h (Bu h (ty.getD a.toNat 0) (ty.getD b.toNat 0)).1 (X.getD (v a).toNat (0,[])).1=true:=by
 obtain⟨B,fo⟩:=c.fo;obtain⟨⟨g,s1⟩,i,j⟩:=c.wr (s,t) sc;simp only at g s1 i j;have d:=GN fo g (by rw[c.lp];exact s1) hs;have f:=GN fo i (by rw[c.lp];exact j) ht;rw[c.lp]at d f;obtain⟨c1,c2,l,z⟩:=c.co X v n o;have q:=c1 s a g s1 hs;have r:=c1 t b i j ht;have u:v s=v t:=c2 (s,t) sc;have e:v a=v b:=by rw[<-q,<-r,u]
 have w:=l a d.1 d.2 hs.root;have m:=l b f.1 f.2 ht.root;rw[<-e]at m;have A:=o.rng a d.1 d.2;have hx:=n _ (AE X (0,[]) (k:=(v a).toNat) O1);have ta:=c.tyr a d.1 d.2;have tb:=c.tyr b f.1 f.2;obtain⟨x,y⟩:=(Mh hk ta.1 ta.2 tb.1 tb.2).2 _ hx.1 hx.2 w m;exact⟨e,x,y⟩
theorem Zs {α:Type} {l:List α} {d v:α} {a r:Int} (b:0<=a) (c:a<(l.length:Int)) (e:0<=r):(l.set a.toNat v).getD r.toNat d=if r=a then v else l.getD r.toNat d:=by grind
theorem XR (hk:GI h) (Z:JI h N P p ty ar (W++[(s,t)])) (hs:Rt p s a) (ht:Rt p t b) (T:a≠b) (hm:(Bu h (ty.getD a.toNat 0) (ty.getD b.toNat 0)).2=true) :
  JI h N P (p.set b.toNat a) (ty.set a.toNat (Bu h (ty.getD a.toNat 0) (ty.getD b.toNat 0)).1) (ar.set a.toNat (Bz (ar.getD a.toNat []) (ar.getD b.toNat [])).1) (W++(Bz (ar.getD a.toNat []) (ar.getD b.toNat [])).2):=by
 have ah:=λX v I K=>VG (X:=X) (v:=v) hk Z hs ht I K;obtain⟨nty,⟨av,fo⟩,lp,lt,la,wr,tyr,arr,srt,sp,st,sa,co⟩:=Z;obtain⟨⟨L,s1⟩,M,O⟩:=wr (s,t) sc;simp only at L s1 M O;have n:=GN fo L (by rw[lp];exact s1) hs;have A:=GN fo M (by rw[lp];exact O) ht;have ha:=hs.root;have hb:=ht.root;have E:=λ{x r:Int} (c:0<=x) (i:x<(N.length:Int)) (hx:Rt p x r)=>A66 fo n.1 A.1 A.2 ha hb T c (by rw[lp];exact i) hx;have U:∀ {x r:Int},0<=x->x<(N.length:Int)->Rt (p.set b.toNat a) x r->∃j,Rt p x j/\r=if j=b then a else j:=λ{x r} c i hx=>by
  obtain⟨j,h1,-,-⟩:=fo.root c (by rw[lp];exact i);exact⟨j,h1,hx.det (E c i h1)⟩
 have ta:=tyr a n.1 (by rw[<-lp];exact n.2);have tb:=tyr b A.1 (by rw[<-lp];exact A.2);obtain⟨ao,ap,aq,au⟩:=(Mh hk ta.1 ta.2 tb.1 tb.2).1 hm;generalize al:(Bu h (ty.getD a.toNat 0) (ty.getD b.toNat 0)).1=m at *;generalize ab:ar.getD a.toNat []=xs at *;generalize ad:ar.getD b.toNat []=ys at *;have aj:EG N.length (p.set b.toNat a) (W++(Bz xs ys).2) s t:=by
  have h1:=E L s1 hs;have H:=E M O ht;rw[At T]at h1;rw[BY rfl]at H;exact .cls L s1 M O h1 H
 have D:∀ {x y},EG N.length p (W++[(s,t)]) x y->EG N.length (p.set b.toNat a) (W++(Bz xs ys).2) x y:=λ{x y} g=>g.mono (λx y r c i af ag h1 H=>.cls c i af ag (E c i h1) (E af ag H)) (λx y F=>by
  rcases Fg.1 F with F|F
  .exact .wt (S7 _ F)
  have e:(x,y)=(s,t):=by simpa using F
  cases e;exact aj)
 have hty:=λ{r:Int} (C:0<=r)=>Zs (l:=ty) (d:=0) (v:=m) n.1 (by rw[lt,<-lp];exact n.2) C;have J:=λ{r:Int} (C:0<=r)=>Zs (l:=ar) (d:=[]) (v:=(Bz xs ys).1) n.1 (by rw[la,<-lp];exact n.2) C;refine⟨nty,A67 fo n.1 n.2 A.1 A.2 ha hb T,by rw[TA];exact lp,by rw[TA];exact lt,by rw[TA];exact la,λw o=>?_,λx c i=>?_,λk y hy=>?_,λk=>?_,λq ai=>D (sp q ai),λx r c i z=>?_,λx r c i z y hy=>?_,λX v I K=>?_⟩
 .rcases Fg.1 o with o|o
  .exact wr w (S7 _ o)
  grind [Qn]
 .grind
 .have h1:=J (r:=(k:Int)) O1;rw[RG]at h1;rw[h1]at hy;split at hy
  .grind [JH]
  exact arr _ _ hy
 .have h1:=J (r:=(k:Int)) O1;rw[RG]at h1;rw[h1];split
  .grind [VE]
  exact srt k
 .obtain⟨j,h1,rfl⟩:=U c i z;have hx:=nty _ (AE N (0,[]) (k:=x.toNat) O1);have aa:=GN fo c (by rw[lp];exact i) h1;by_cases e:j=b
  .grind [Id]
  grind [Id]
 .obtain⟨j,h1,rfl⟩:=U c i z;have aa:=GN fo c (by rw[lp];exact i) h1;obtain⟨u,G,Q⟩:=sa x j c i h1 y hy;by_cases e:j=b
  .rw[BY e,J n.1,BY rfl];rw[e,ad]at G;rcases Nh (x:=xs) G with g|⟨w,R,S⟩
   .exact⟨u,g,D Q⟩
   exact⟨w,R,.trans (D Q) (.symm (.wt (AAH _ S)))⟩
  rw[At e,J aa.1];split
  .rename_i B;rw[B,ab]at G;exact⟨u,Qm G,D Q⟩
  exact⟨u,G,D Q⟩
 obtain⟨c1,c2,ak,V⟩:=co X v I K;obtain⟨e,-,an⟩:=ah X v I K;have am:∀r,0<=r->r<(N.length:Int)->par (p.set b.toNat a) r=r->r≠b/\par p r=r:=λr C ae z=>by grind [C5]
 refine⟨λx r c i z=>?_,λw o=>?_,λr C ae z=>?_,λr C ae z y hy=>?_⟩
 .obtain⟨j,h1,rfl⟩:=U c i z;have:=c1 x j c i h1;split
  .rename_i B;rw[this,B,e]
  exact this
 .rcases Fg.1 o with o|o
  .exact c2 w (S7 _ o)
  obtain⟨f,Y,B⟩:=Qn o;rw[<-ab]at Y;rw[<-ad]at B;have R:=V a n.1 (by rw[<-lp];exact n.2) ha _ Y;have S:=V b A.1 (by rw[<-lp];exact A.2) hb _ B;rw[<-R,<-S,e]
 .grind
 grind [JH]
end
theorem j8 {l:List Nat} {f g:Nat->Bool} {b:Nat} (hn:l.Nodup) (hb:b∈l) (h1:f b=true) (a:g b=false) (h:∀x∈l,x≠b->g x=f x):(l.filter g).length+1=(l.filter f).length:=by
 induction l with
 | nil=>cases hb
 | cons x l i =>
  obtain⟨hx,d⟩:=iS.1 hn;by_cases e:x=b
  .subst e;have:l.filter g=l.filter f:=List.filter_congr λy hy=>h y (by simp[hy]) (λe=>hx (e▸hy));rw[oR,oR,At (by rw[a];simp),BY h1,this];rfl
  have c:b∈l:=by
   rcases DO.1 hb with g|g
   .exact absurd g.symm e
   exact g
  have j:=i d c (λy hy=>h y (by simp[hy]));rw[oR,oR,h x sc e];split
  .simp only[NO];omega
  exact j
def nR (p:List Int):Nat:=((List.range p.length).filter λk=>p.getD k 0==(k:Int)).length
theorem AA7 (p:List Int):nR p<=p.length:=by
 have:=AAx (λk=>p.getD k 0==(k:Int)) (List.range p.length);rw[ABt]at this;exact this
theorem u7 (h:Ep p q):nR q=nR p:=by
 unfold nR;rw[<-h.1];refine AAv List.length (List.filter_congr λk hk=>?_);have a:=Ra.1 hk;have:=Sb h (r:=(k:Int)) O1 O1;unfold par at this;rw[RG]at this;rw[ABW,TE,TE];exact this.symm
theorem u9 {a:Int} (c:0<=b) (b1:b<(p.length:Int)) (hb:par p b=b) (d:a≠b):nR (p.set b.toNat a)+1=nR p:=by
 unfold nR;rw[TA];refine j8 (b:=b.toNat) List.nodup_range (Ra.2 O1) ?_ ?_ λx _ hx=>?_
 .rw[TE];unfold par at hb;omega
 .rw[Yh _ _ _ O1,AAW];omega
 rw[getD_set_ne _ _ _ O1]
theorem Sc {α:Type} [DecidableEq α]:∀ {l l':List α},l.Nodup->(∀x∈l,x∈l')->l.length<=l'.length
 | [],_,_,_=>by simp
 | x :: l,l',hn,h=>by
  obtain⟨hx,a⟩:=iS.1 hn;have hm:=h x sc;have:=Sc (l:=l) (l':=l'.erase x) a (λy hy=>(ACk (λe:y=x=>hx (by rw[<-e];exact hy))).2 (h y (by simp[hy])));rw[List.length_erase_of_mem hm]at this;have:=List.length_pos_of_mem hm;simp only[NO];omega
theorem dI (h:Ix l) {S:List Int} (hs:∀a∈l,a.1∈S):l.length<=S.length:=by
 have hn:(l.map (·.1)).Nodup:=by
  unfold List.Nodup;rw[bY];exact h.imp λg=>by omega
 have:=Sc hn (l':=S) (λx hx=>by
  obtain⟨a,ha,rfl⟩:=Do.1 hx;exact hs a ha)
 rwa [No]at this
theorem XS {N:List AC} {P:List (Int×Int)} {ty:List Int} {ar:List (List (Int×Int))} (s:JI h N P p ty ar []) {a:Int} (ha:0<=a/\a<(N.length:Int)) (hb:0<=b/\b<(N.length:Int)):JI h N (P++[(a,b)]) p ty ar [(a,b)]:=by
 obtain⟨nty,fo,lp,lt,la,wr,tyr,arr,srt,sp,st,sa,co⟩:=s;have l:∀ {x y},EG N.length p [] x y->EG N.length p [(a,b)] x y:=λ{x y} g=>g.mono (λx y r j k A B h1 f=>.cls j k A B h1 f) (λx y z=>by cases z);refine⟨nty,fo,lp,lt,la,λw i=>?_,tyr,arr,srt,λq c=>?_,st,λx r j k t y hy=>?_,λX v o d=>?_⟩
 .have e:w=(a,b):=by simpa using i
  subst e;exact⟨ha,hb⟩
 .rcases Fg.1 c with c|c
  .exact l (sp q c)
  have e:q=(a,b):=by simpa using c
  subst e;exact .wt sc
 .obtain⟨u,h1,f⟩:=sa x r j k t y hy;exact⟨u,h1,l f⟩
 obtain⟨c1,c2,m,n⟩:=co X v o ⟨d.rng,d.ty,d.arc,λq c=>d.eq q (S7 _ c)⟩;refine⟨c1,λw i=>?_,m,n⟩;have e:w=(a,b):=by simpa using i
 subst e;exact d.eq _ sc
def Zt (h:AG) (p ty:List Int) (ar:List (List (Int×Int))):List (Nat×Obj):=[(101,.box 114 true [.p Ec h,.sr 102 T3 0 p.length,.sr 103 T3 0 ty.length,.sr 104 Cl 0 ar.length]),(102,.arr 3 T3 p),(103,.arr 3 T3 ty),(104,.arr 46 Cl ar)]
theorem dJ (h:AG) (hk:GI h) {N:List AC} {P:List (Int×Int)} {ty:List Int} {ar:List (List (Int×Int))} (Y:JI h N P p ty ar []) {a:Int} (ha:0<=a/\a<(N.length:Int)) (hb:0<=b/\b<(N.length:Int)) (af:N.length<=10000) (hF:(Cm N).length<=1000000) :
  BK Tryz.prog 57 [.bp 101 [] 0,.p T3 a,.p T3 b] (Zt h p ty ar) [101]
  (λres M=>(res=.p .bool true/\∃B H u,M=Zt h B H u/\JI h N (P++[(a,b)]) B H u [])\/(res=.p .bool false/\(∃B H u,M=Zt h B H u)/\∀X v,CA h X->¬Iu h N (P++[(a,b)]) X v)):=by
 refine NX [0,1,2,3,6,7,8,9,10,11,19,48] [] [] Tryz.func57 Tryz.ntmps57 AI ?_;intro w0 K O0 ρ0 f ax ay;have hh:h.1.length<=100000:=RF hk.2 O1;have ah:∀x∈h.1,x.2.1.length<=100000:=λx hx=>RF (hk.1.wid x.2.1 (Do.2 ⟨x,hx,rfl⟩)) O1;have ai:=XS Y ha hb;generalize aw:P++[(a,b)]=Q at *;have av:N.length*((Cm N).length+1)<=10000*1000001:=Nat.mul_le_mul af O1;simp only[Zt,Ax];repeat'(first|exact trivial|apply eS rfl|refine rX f ?_ ?_)
 refine AJ (ι:={s:(List Int×List Int×List (List (Int×Int)))×(List (Int×Int)×Nat)//JI h N Q s.1.1 s.1.2.1 s.1.2.2 (s.2.1.take s.2.2)/\s.2.2<=s.2.1.length/\nR s.1.1*((Cm N).length+1)+s.2.2<=N.length*((Cm N).length+1)+1}) (λs=>⟨[(3,.bp 3 [] 0),(7,.bp 7 [] 0),(8,.clo 91 [3,7])],[(101,.box 114 true [.p Ec h,.sr 102 T3 0 s.1.1.1.length,.sr 103 T3 0 s.1.1.2.1.length,.sr 104 Cl 0 s.1.1.2.2.length]),(102,.arr 3 T3 s.1.1.1),(103,.arr 3 T3 s.1.1.2.1),(104,.arr 46 Cl s.1.1.2.2),(3,.box 111 false [.bp 101 [] 0]),(7,.box 153 false [.sr 15 Jf 0 s.1.2.2]),(15,.arr 152 Jf s.1.2.1)]⟩) (λs=>nR s.1.1.1*((Cm N).length+1)+s.1.2.2) ⟨((p,ty,ar),([(a,b)],1)),ai,by simp,by have:=Rc ((Cm N).length+1) (AA7 p);rw[Y.lp]at this;simp only;omega⟩ (eW [(101,.nm 101),(102,.nm 102),(103,.nm 103),(104,.nm 104),(3,.nm 3),(7,.nm 7),(15,.nm 15)]) (λs=>?_)
 obtain⟨⟨⟨q,d,aq⟩,V,k⟩,l,aj,ae⟩:=s;simp only at l aj ae ⊢;repeat'(first|exact trivial|apply eS rfl|refine rX f ?_ ?_|refine rC ?_ ?_<;>intro j<;>try(cases j;done))
 .exact eV
 .exact eV
 .have Z:0<k:=IF.1 j;have ak:((k:Int)-1).toNat=k-1:=by omega
  have U:=Af V (0,0) (k:=k-1) O1;rw[show k-1+1=k by omega]at U;rw[ak];generalize ba:V.getD (k-1) (0,0)=st at *;obtain⟨s,t⟩:=st;rw[U]at l;obtain⟨⟨D,s1⟩,F,G⟩:=l.wr (s,t) sc;simp only at D s1 F G;obtain⟨O,fo⟩:=l.fo;have C:=l.lp;refine EP drawsAny f 8 [([0,1,2],3),([4,5,6],7)] [] (by kernel_rfl) (Pi ?_ ?_)
  .trivial
  refine mxC f (dG h d aq O fo D (by rw[C];exact s1)) [(1,.nm 101),(2,.nm 102),(3,.nm 103),(4,.nm 104)] [102,103,104] ?_ ?_ ?_
  .exact eN
  .simp only[YR];exact eN
  rintro _ _ ⟨ab,c,rfl,rfl,ad,E,ap⟩;refine⟨[(101,.nm 1),(102,.nm 2),(103,.nm 3),(104,.nm 4)],.p T3 c,[(101,.box 114 true [.p Ec h,.sr 102 T3 0 ab.length,.sr 103 T3 0 d.length,.sr 104 Cl 0 aq.length]),(102,.arr 3 T3 ab),(103,.arr 3 T3 d),(104,.arr 46 Cl aq)],rfl,rfl,?_,?_,rfl,rfl,rfl,?_⟩
  .simp only[YR];exact eN
  .exact eN
  refine Pi ?_ ?_
  .trivial
  refine mxC f (dG h d aq O ad F (by rw[<-E.1,C];exact G)) [(1,.nm 101),(2,.nm 102),(3,.nm 103),(4,.nm 104)] [102,103,104] ?_ ?_ ?_
  .exact eN
  .simp only[YR];exact eN
  rintro _ _ ⟨g,e,rfl,rfl,J,S,au⟩;refine⟨[(101,.nm 1),(102,.nm 2),(103,.nm 3),(104,.nm 4)],.p T3 e,[(101,.box 114 true [.p Ec h,.sr 102 T3 0 g.length,.sr 103 T3 0 d.length,.sr 104 Cl 0 aq.length]),(102,.arr 3 T3 g),(103,.arr 3 T3 d),(104,.arr 46 Cl aq)],rfl,rfl,?_,?_,rfl,rfl,rfl,?_⟩
  .simp only[YR];exact eN
  .exact eN
  refine eY f ?_ ?_ ?_
  .trivial
  .trivial
  repeat' apply eS rfl
  have i:=A68 (E.trans S) ⟨O,J⟩ l;have R:=E.trans S;have A:=(R.2 s c D (by rw[C];exact s1)).1 ap;have o:=(S.2 t e F (by rw[<-E.1,C];exact G)).1 au;have n:=i.lp;have w:=GN J D (by rw[n];exact s1) A;have m:=GN J F (by rw[n];exact G) o;refine evP f 4 ?_ ?_
  .trivial
  by_cases z:c=e
  .subst z;rw[show (c != c)=false from bne_self_eq_false c];refine rL f ?_ ?_
   .trivial
   repeat'(first|apply eS rfl|apply AB|refine rC ?_ ?_<;>intro j<;>try(cases j;done))
   have y:=dH i A o;have hn:=u7 R;exact⟨⟨((g,d,aq),V,k-1),y,by simp only;omega,by simp only;rw[hn];omega⟩,by simp only;rw[hn];omega,eW [(101,.nm 101),(102,.nm 102),(103,.nm 103),(104,.nm 104),(3,.nm 3),(7,.nm 7),(15,.nm 15)]⟩
  rw[show (c != e)=true by simpa using z];refine rN 3 f ?_ ?_
  .trivial
  have L:=λr:Int=>dI (i.srt r.toNat) (λa ha=>(i.arr r.toNat a ha).2);refine clG f (A3c h hh ah g d aq V (k-1) O1 O1 w.1 w.2 m.1 m.2 (by rw[i.lt,n]) (by rw[i.la,n]) (i.tyr c w.1 (by rw[<-n];exact w.2)) (i.tyr e m.1 (by rw[<-n];exact m.2)) (RF (L c) O1) (RF (L e) O1)) [(1,.nm 101),(2,.nm 102),(3,.nm 103),(4,.nm 104),(5,.nm 3),(6,.nm 7),(7,.nm 15)] [102,103,104,15] ?_ ?_ ?_
  .exact eN
  .simp only[mgO];exact eN
  rintro res M (⟨I,rfl,rfl⟩|⟨I,rfl,T,W,an,aa,rfl⟩)
  .refine⟨[(101,.nm 1),(102,.nm 2),(103,.nm 3),(104,.nm 4),(3,.nm 5),(7,.nm 6),(15,.nm 7)],.p .bool false,[(101,.box 114 true [.p Ec h,.sr 102 T3 0 g.length,.sr 103 T3 0 d.length,.sr 104 Cl 0 aq.length]),(102,.arr 3 T3 g),(103,.arr 3 T3 d),(104,.arr 46 Cl aq),(3,.box 111 false [.bp 101 [] 0]),(7,.box 153 false [.sr 15 Jf 0 (k-1)]),(15,.arr 152 Jf V)],rfl,rfl,?_,?_,rfl,rfl,?_⟩
   .simp only[mgO];exact eN
   .exact eN
   refine rL f ?_ ?_
   .trivial
   repeat'(first|exact trivial|apply eS rfl|refine rX f ?_ ?_|refine rC ?_ ?_<;>intro j<;>try(cases j;done))
   refine Ev.ent (σ':=⟨[(6,.p .bool false)],Zt h g d aq⟩) ?_ (AD [(101,.nm 101),(102,.nm 102),(103,.nm 103),(104,.nm 104)] rfl rfl ?_ ?_)
   .exact fM f [.tmp 6] (.p .bool false) eT (.inr ⟨rfl,⟨g,d,aq,rfl⟩,λX v ag am=>by
     have:=(VG hk i A o ag am).2.1;rw[I]at this;cases this⟩)
   .unfold Zt;exact eN
   exact eN
  refine⟨[(101,.nm 1),(102,.nm 2),(103,.nm 3),(104,.nm 4),(3,.nm 5),(7,.nm 6),(15,.nm 7)],.p .bool true,[(101,.box 114 true [.p Ec h,.sr 102 T3 0 (g.set e.toNat c).length,.sr 103 T3 0 (d.set c.toNat (Bu h (d.getD c.toNat 0) (d.getD e.toNat 0)).1).length,.sr 104 Cl 0 (aq.set c.toNat (Bz (aq.getD c.toNat []) (aq.getD e.toNat [])).1).length]),(102,.arr 3 T3 (g.set e.toNat c)),(103,.arr 3 T3 (d.set c.toNat (Bu h (d.getD c.toNat 0) (d.getD e.toNat 0)).1)),(104,.arr 46 Cl (aq.set c.toNat (Bz (aq.getD c.toNat []) (aq.getD e.toNat [])).1)),(3,.box 111 false [.bp 101 [] 0]),(7,.box 153 false [.sr 15 Jf 0 W]),(15,.arr 152 Jf T)],rfl,rfl,?_,?_,rfl,rfl,?_⟩
  .simp only[mgO];exact eN
  .exact eN
  refine rL f ?_ ?_
  .trivial
  repeat'(first|apply eS rfl|apply AB|refine rC ?_ ?_<;>intro j<;>try(cases j;done))
  have y:=XR hk i A o z I;rw[<-aa]at y;have hn:=u7 R;have al:=u9 (a:=c) m.1 m.2 o.root z;have az:(Bz (aq.getD c.toNat []) (aq.getD e.toNat [])).2.length<=(Cm N).length:=RF Qo (L c);have ao:=AAv List.length aa;rw[By,On,On]at ao;have hm:nR g*((Cm N).length+1)=nR (g.set e.toNat c)*((Cm N).length+1)+((Cm N).length+1):=by rw[<-al,ACd,Nat.one_mul]
  rw[hn]at hm;exact⟨⟨((g.set e.toNat c,d.set c.toNat (Bu h (d.getD c.toNat 0) (d.getD e.toNat 0)).1,aq.set c.toNat (Bz (aq.getD c.toNat []) (aq.getD e.toNat [])).1),T,W),y,an,by simp only;omega⟩,by simp only;omega,eW [(101,.nm 101),(102,.nm 102),(103,.nm 103),(104,.nm 104),(3,.nm 3),(7,.nm 7),(15,.nm 15)]⟩
 have Z:k=0:=by
  have:=RM.1 j;omega
 subst Z;rw[AAG]at l;refine Ev.ent (σ':=⟨[(6,.p .bool true)],Zt h q d aq⟩) ?_ (AD [(101,.nm 101),(102,.nm 102),(103,.nm 103),(104,.nm 104)] rfl rfl ?_ ?_)
 .exact fM f [.tmp 6] (.p .bool true) eT (.inl ⟨rfl,q,d,aq,rfl,l⟩)
 .unfold Zt;exact eN
 exact eN
open Classical in
noncomputable def Dk (p:List Int) (x:Int):Int:=if h:∃r,Rt p x r then h.choose else x
theorem XT {x r:Int} (h:Rt p x r):Dk p x=r:=by
 unfold Dk;rw[dif_pos ⟨r,h⟩];exact(Exists.choose_spec (p:=λr=>Rt p x r) ⟨r,h⟩).det h
theorem PR {b:Int->Nat} (a:Fo p b) {x:Int} (c:0<=x) (d:x<(p.length:Int)):Rt p x (Dk p x):=by
 obtain⟨r,h,-,-⟩:=a.root c d;rw[XT h];exact h
noncomputable def quo (p ty:List Int) (ar:List (List (Int×Int))):List AC:=(List.range p.length).map λk=>(ty.getD k 0,(ar.getD k []).map λa=>(a.1,Dk p a.2))
theorem Dz (p ty:List Int) (ar:List (List (Int×Int))):(quo p ty ar).length=p.length:=by simp[quo]
theorem LA {ty:List Int} {ar:List (List (Int×Int))} (n0:0<=n) (n1:n<(p.length:Int)):(quo p ty ar).getD n.toNat (0,[])=(ty.getD n.toNat 0,(ar.getD n.toNat []).map λa=>(a.1,Dk p a.2)):=by
 unfold quo;rw[AS,Rb,AAC O1];rfl
def LB (len:Nat) (o:List Int):List Int:=(List.range len).map λ(k:Nat)=>if (k:Int)∈o then ((o.idxOf (k:Int):Nat):Int) else -1
theorem XU (len:Nat) (o:List Int):(LB len o).length=len:=by simp[LB]
theorem XV {len:Nat} {o:List Int} (n0:0<=n) (n1:n<(len:Int)):(LB len o).getD n.toNat 0=if n∈o then (o.idxOf n:Int) else -1:=by
 unfold LB;rw[AS,Rb,AAC O1];simp only[ABj,ABc];rw[show ((n.toNat:Nat):Int)=n by omega]
theorem XW {o:List Int} (h:n∉o):(o++[n]).idxOf n=o.length:=by
 rw[ACJ,At h];simp
theorem Zu {o t:List Int} (h:n∈o):(o++t).idxOf n=o.idxOf n:=by
 rw[ACJ,BY h]
theorem A3d {len:Nat} {o:List Int} (n0:0<=n) (n1:n<(len:Int)) (h:n∉o):(LB len o).set n.toNat (o.length:Int)=LB len (o++[n]):=by
 apply oS
 .simp[LB]
 intro i h1 c;rw[List.getElem_set];simp only[LB,ABA,ABE];by_cases e:n.toNat=i
 .rw[BY e];have b:(i:Int)=n:=by omega
  rw[b,BY sc,XW h]
 rw[At e];have b:(i:Int)≠n:=by omega
 by_cases a:(i:Int)∈o
 .rw[BY a,BY (by simp[a]),Zu a]
 rw[At a,At (by simp[a,b])]
theorem XX {o t:List Int} {x:Int} (h:x∈o):A9 (o++t) x=A9 o x:=by
 unfold A9;rw[BY (S7 _ h),BY h,Zu h]
theorem Qp (hf:AN f) (k:Nat):∀(l:List (Int×Int)) (t:List Int),(∀a∈l,0<=a.2/\a.2<(f.length:Int))->JF f t->f.length-t.length<=k ->
  (∀a∈l,a.2∈l.foldl (Aa f k) t)/\∀x∈l.foldl (Aa f k) t,x∈t\/∀a∈(f.getD x.toNat (0,[])).2,a.2∈l.foldl (Aa f k) t:=by
 intro l;induction l with
 | nil=>exact λt _ _ _=>⟨λa ha=>(by cases ha),λx hx=>.inl hx⟩
 | cons a l o =>
  intro t hl ht i;simp only[RJ];have j:JF f (Aa f k t a)/\t <+: Aa f k t a/\a.2∈Aa f k t a/\∀x∈Aa f k t a,x∈t\/∀b∈(f.getD x.toNat (0,[])).2,b.2∈Aa f k t a:=by
   unfold Aa;split
   .rename_i hn;exact⟨ht,AB0 _,hn,λx hx=>.inl hx⟩
   rename_i hn;have q:=hl a sc;obtain⟨c,d⟩:=DS hf k t a.2 ht q.1 q.2 hn;obtain⟨e,g⟩:=IZ hf k t a.2 ht q.1 q.2 hn i;exact⟨c,d,e,g⟩
  obtain⟨c,d,e,g⟩:=j;have p:=d.length_le;obtain⟨m,n⟩:=o (Aa f k t a) (λb hb=>hl b (by simp[hb])) c O1;obtain⟨_,h⟩:=EB (DS hf k) l (Aa f k t a) (λb hb=>hl b (by simp[hb])) c;refine⟨λb hb=>?_,λx hx=>?_⟩
  .rcases DO.1 hb with rfl|hb
   .exact h.subset e
   exact m b hb
  rcases n x hx with hx|hx
  .rcases g x hx with hx|hx
   .exact .inl hx
   exact .inr λb hb=>h.subset (hx b hb)
  exact .inr hx
def HV (f:List AC) (o a:List Int):List AC:=(a.drop o.length).map (CF f a)
theorem zQ {o t:List Int} {x:Int} (h:∀a∈(f.getD x.toNat (0,[])).2,a.2∈o):CF f (o++t) x=CF f o x:=by
 unfold CF;refine AAv _ (RN λa ha=>?_);unfold FO;rw[XX (h a ha)]
theorem A3e {c b d:List Int} (e:c <+: b) (g:b <+: d) (i:∀x∈b,x∈c\/∀a∈(f.getD x.toNat (0,[])).2,a.2∈b) (hn:b.Nodup):HV f c b++HV f b d=HV f c d:=by
 obtain⟨t,rfl⟩:=e;obtain⟨s,rfl⟩:=g;unfold HV;rw[ABR,ABR,RI,ABR,<-RI,RY]
 congr 1
 refine RN λx hx=>?_;refine(zQ λa ha=>?_).symm;rcases i x (AAH _ hx) with h|h
 .exact absurd rfl ((AAu.1 hn).2.2 x h x hx)
 exact h a ha
theorem Zv (f:List AC) (o:List Int):HV f o o=[]:=by
 unfold HV;rw[ABB];rfl
theorem Sd {α β:Type} (f:α->β) {l:List α} (d:α) (e:β) (h:i<l.length):(l.map f).getD i e=f (l.getD i d):=by
 simp[AS,AT h]
structure AA8 (Q:List AC) (o1:List Int) (L:List (Int×Int)) (j:Nat) (oo:Nat->List Int):Prop where
 zero:oo 0=o1
 succ:∀i,i<L.length->oo (i+1)=Aa Q j (oo i) (0,(L.getD i (0,0)).2)
 dok:∀i,JF Q (oo i)
 pre:∀i,o1 <+: oo i
 nxt:∀i,oo i <+: oo (i+1)
 tgt:∀i,∀a∈L.take i,a.2∈oo i
 cls:∀i,∀x∈oo i,x∈o1\/∀a∈(Q.getD x.toNat (0,[])).2,a.2∈oo i
 last:oo L.length=L.foldl (Aa Q j) o1
theorem A69 {Q:List AC} (c:AN Q) {b:List Int} {L:List (Int×Int)} {j:Nat} (d:∀a∈L,0<=a.2/\a.2<(Q.length:Int)) (h1:JF Q b) (f:Q.length-b.length<=j):AA8 Q b L j (λi=>(L.take i).foldl (Aa Q j) b):=by
 have hl:=λi=>λa (ha:a∈L.take i)=>d a (TO ha);have hs:∀i,i<L.length->(L.take (i+1)).foldl (Aa Q j) b=Aa Q j ((L.take i).foldl (Aa Q j) b) (0,(L.getD i (0,0)).2):=λi hi=>J9 (Aa Q j) L (0,0) b hi;have hd:=λi=>EB (DS c j) (L.take i) b (hl i) h1;refine⟨rfl,hs,λi=>(hd i).1,λi=>(hd i).2,λi=>?_,λi=>(Qp c j _ b (hl i) h1 f).1,λi=>(Qp c j _ b (hl i) h1 f).2,by simp only[RK]⟩;by_cases h:i<L.length
 .show _ <+: (L.take (i+1)).foldl (Aa Q j) b;rw[hs i h];have g:=d _ (AE L (0,0) h);exact(EB (DS c j) [(0,(L.getD i (0,0)).2)] _ (λa ha=>by
   have e:a=(0,(L.getD i (0,0)).2):=by simpa using ha
   subst e;exact g) (hd i).1).2
 show (L.take i).foldl (Aa Q j) b <+: (L.take (i+1)).foldl (Aa Q j) b;rw[As O1,As O1];exact AB0 _
theorem A6a {α:Type} (l:List α) (x y:α) (t:List α) {k:Nat} (hk:k=l.length):(l++[x]++t).set k y=l++y :: t:=by
 subst hk;rw[RI,AAY _ _ O1,AAD];rfl
theorem zR {Q:List AC} {o a:List Int} (h:o++[n] <+: a):HV Q o a=CF Q a n :: HV Q (o++[n]) a:=by
 obtain⟨t,rfl⟩:=h;unfold HV;rw[ABR,RI,ABR];rfl
def uO (h:AG) (p ty:List Int) (ar:List (List (Int×Int))) (M:List Int) (out:List AC):List (Nat×Obj):=[(101,.box 114 true [.p Ec h,.sr 102 T3 0 p.length,.sr 103 T3 0 ty.length,.sr 104 Cl 0 ar.length]),(102,.arr 3 T3 p),(103,.arr 3 T3 ty),(104,.arr 46 Cl ar),(105,.box 111 false [.bp 101 [] 0]),(106,.box 51 false [.sr 107 T3 0 M.length]),(107,.arr 3 T3 M),(108,.box 25 true [.sr 109 Eb 0 out.length]),(109,.arr 48 Eb out),(110,.box 155 false [.clo 94 [105,106,108,110]])]
def A8G (h:AG) (p0 ty:List Int) (ar:List (List (Int×Int))) (k:Nat):Prop:=∀(p o:List Int) (out:List AC) (n:Int),(∃b,Fo p b)->Ep p0 p->JF (quo p0 ty ar) o->out.length=o.length->0<=n->n<(p0.length:Int)->p0.length-o.length<=k ->
 BK Tryz.prog 94 [.p T3 n,.bp 105 [] 0,.bp 106 [] 0,.bp 108 [] 0,.bp 110 [] 0] (uO h p ty ar (LB p0.length o) out) [101,105,106,108,110]
  (λres c=>∃a,(∃b,Fo a b)/\Ep p0 a/\res=.p T3 (A9 (Aa (quo p0 ty ar) k o (0,Dk p0 n)) (Dk p0 n))/\c=uO h a ty ar (LB p0.length (Aa (quo p0 ty ar) k o (0,Dk p0 n))) (out++HV (quo p0 ty ar) o (Aa (quo p0 ty ar) k o (0,Dk p0 n))))
theorem j9 (h:AG) {p0 ty:List Int} {ar:List (List (Int×Int))} (ah:∃m,Fo p0 m) (v:AN (quo p0 ty ar)) (aw:ty.length=p0.length) (ad:ar.length=p0.length) (af:∀k,∀a∈ar.getD k [],0<=a.2/\a.2<(p0.length:Int)) (k:Nat) (ay:∀j,k=j+1->A8G h p0 ty ar j):A8G h p0 ty ar k:=by
 intro p o out n ai F N y n0 n1 hk;obtain⟨m,fo⟩:=ai;obtain⟨bj,J⟩:=ah;have T:=PR J n0 n1;have d:=GN J n0 n1 T;have aq:=v.1;rw[Dz]at aq;have C:=XU p0.length o;generalize bd:Dk p0 n=b at *;refine NX [0,1,2,3,4,6,7,8,10,18,49,50,51,52] [] [] Tryz.func94 Tryz.ntmps94 AI ?_;intro w0 K O0 ρ0 f be bf;simp only[uO,Ax];repeat'(first|exact trivial|apply eS rfl|refine rX f ?_ ?_)
 refine cP 2 f ?_ ?_
 .trivial
 refine rM f (dG h ty ar m fo n0 (by rw[<-F.1];exact n1)) [(1,.nm 101),(2,.nm 102),(3,.nm 103),(4,.nm 104)] [102,103,104] ?_ ?_ ?_
 .exact eN
 .simp only[YR];exact eN
 rintro _ _ ⟨u,bi,rfl,rfl,L,bc,ba⟩;have Z:=F.trans bc;have e:=((F.2 n b n0 n1).1 T).det ba;subst e;refine⟨[(101,.nm 1),(102,.nm 2),(103,.nm 3),(104,.nm 4)],.p T3 b,[(101,.box 114 true [.p Ec h,.sr 102 T3 0 u.length,.sr 103 T3 0 ty.length,.sr 104 Cl 0 ar.length]),(102,.arr 3 T3 u),(103,.arr 3 T3 ty),(104,.arr 46 Cl ar)],rfl,rfl,?_,?_,rfl,rfl,?_⟩
 .simp only[YR];exact eN
 .exact eN
 refine rL f ?_ ?_
 .trivial
 repeat'(first|exact trivial|apply eS rfl|refine rX f ?_ ?_|refine rC ?_ ?_<;>intro l<;>try(cases l;done))
 .exact⟨d.1,by rw[C];exact d.2⟩
 .exact⟨d.1,by rw[C];exact d.2⟩
 .rw[XV d.1 d.2]at l;have B:b∈o:=IS λe=>by rw[At e]at l;omega
  have V:Aa (quo p0 ty ar) k o (0,b)=o:=BY B;have A:A9 o b=(LB p0.length o).getD b.toNat 0:=by
   rw[XV d.1 d.2,BY B];unfold A9;rw[BY B]
  refine Ev.ent (σ':=⟨[(6,.p T3 (A9 o b))],uO h u ty ar (LB p0.length o) out⟩) ?_ (AD [(101,.nm 101),(102,.nm 102),(103,.nm 103),(104,.nm 104),(105,.nm 105),(106,.nm 106),(107,.nm 107),(108,.nm 108),(109,.nm 109),(110,.nm 110)] rfl rfl ?_ ?_)
  .refine fM f [.tmp 6] (.p T3 (A9 o b)) eT ⟨u,⟨m,L⟩,Z,by rw[V],?_⟩;rw[V,Zv,S6];rfl
  .unfold uO;exact eN
  refine eM ?_;exact A.symm
 .exact⟨d.1,by rw[C];exact d.2⟩
 .refine⟨⟨d.1,by rw[aw];exact d.2⟩,?_⟩;have:=N.len;rw[Dz]at this;simp only[AQ];omega
 .exact⟨d.1,by rw[ad];exact d.2⟩
 rw[XV d.1 d.2]at l;have w:b∉o:=λe=>by rw[BY e]at l;omega
 have M:=N.snoc d.1 (by rw[Dz];exact d.2) w;have am:=M.len;rw[Dz,By,GO]at am;obtain⟨j,rfl⟩:∃j,k=j+1:=⟨k-1,by omega⟩;have al:=ay j rfl;have x:=LA (p:=p0) (ty:=ty) (ar:=ar) d.1 d.2;have ax:=λa (ha:a∈ar.getD b.toNat [])=>af b.toNat a ha;have bg:(ar.getD b.toNat []).length<=100000:=by
  have:=(v.2 _ (AE (quo p0 ty ar) (0,[]) (k:=b.toNat) (by rw[Dz];omega))).1;rw[x,No]at this;exact this
 have ab:∀a∈((ar.getD b.toNat []).map λa=>(a.1,Dk p0 a.2)),0<=a.2/\a.2<((quo p0 ty ar).length:Int):=λa ha=>by
  refine Am v (n:=b) ?_;rw[x];exact ha
 obtain⟨c,g⟩:∃c,AA8 (quo p0 ty ar) (o++[b]) ((ar.getD b.toNat []).map λa=>(a.1,Dk p0 a.2)) j c:=⟨_,A69 v (j:=j) ab M (by rw[Dz,By,GO];omega)⟩;have G:Aa (quo p0 ty ar) (j+1) o (0,b)=((ar.getD b.toNat []).map λa=>(a.1,Dk p0 a.2)).foldl (Aa (quo p0 ty ar) j) (o++[b]):=by
  unfold Aa;rw[At w];show Bd (quo p0 ty ar) (j+1) o b=_;rw[Bx,x];rfl
 rw[<-g.last,No]at G;have ao:=λ(i:Nat) (hi:i<(ar.getD b.toNat []).length)=>show (((ar.getD b.toNat []).map λa=>(a.1,Dk p0 a.2)).getD i (0,0))=(((ar.getD b.toNat []).getD i (0,0)).1,Dk p0 ((ar.getD b.toNat []).getD i (0,0)).2) by
  exact Sd (λa:Int×Int=>(a.1,Dk p0 a.2)) (0,0) (0,0) hi
 rw[y,A3d d.1 d.2 w];generalize bh:ar.getD b.toNat []=xs at *;refine AJ (ι:={s:Nat×List Int//s.1<=xs.length/\(∃m,Fo s.2 m)/\Ep p0 s.2}) (λs=>⟨[(0,.p T3 b),(1,.bp 105 [] 0),(2,.bp 106 [] 0),(3,.bp 108 [] 0),(4,.bp 110 [] 0),(7,.p (.int .i64) (o.length:Int)),(8,.sr 64 CK 0 ((xs.take s.1.1).map λa=>(a.1,A9 (c s.1.1) (Dk p0 a.2))).length),(49,.p Cl xs),(50,.p (.int .i64) (xs.length:Int)),(51,.p (.int .i64) (s.1.1:Int))],uO h s.1.2 ty ar (LB p0.length (c s.1.1)) (out++[(ty.getD b.toNat 0,[])]++HV (quo p0 ty ar) (o++[b]) (c s.1.1))++[(64,.arr 45 CK ((xs.take s.1.1).map λa=>(a.1,A9 (c s.1.1) (Dk p0 a.2))))]⟩) (λs=>xs.length-s.1.1) ⟨(0,u),OF _,⟨m,L⟩,Z⟩ (AD [(101,.nm 101),(102,.nm 102),(103,.nm 103),(104,.nm 104),(105,.nm 105),(106,.nm 106),(107,.nm 107),(108,.nm 108),(109,.nm 109),(110,.nm 110),(64,.nil)] rfl rfl ?_ ?_) (λs=>?_)
 .unfold uO;simp only[g.zero,Zv,S6];refine eM ?_;exact⟨by rw[XU,XU],y.symm⟩
 .exact eN
 obtain⟨⟨i,q⟩,hi,⟨Y,O⟩,U⟩:=s;have E:=g.pre i;have z:=g.dok i;have au:=E.length_le;have ag:=z.len;rw[By,GO]at au;rw[Dz]at ag;have P:(out++[(ty.getD b.toNat 0,[])]++HV (quo p0 ty ar) (o++[b]) (c i)).length=(c i).length:=by
  unfold HV;simp only[By,GO,No,aS];omega
 have R:out.length+1+(HV (quo p0 ty ar) (o++[b]) (c i)).length=(c i).length:=by
  rw[<-P,By,By,GO]
 simp only[uO];repeat'(first|exact trivial|apply eS rfl|refine rX f ?_ ?_|refine rC ?_ ?_<;>intro l<;>try(cases l;done))
 .exact l
 .have r:i<xs.length:=IF.1 l;have X:=ax _ (AE xs (0,0) r);have W:=g.succ i (by rw[No];exact r);rw[ao i r]at W;have ae:=A3e E (g.nxt i) (g.cls i) z.nd;have av:=g.pre (i+1);have S:out.length+1+(HV (quo p0 ty ar) (o++[b]) (c (i+1))).length=(c (i+1)).length:=by
   have h1:=av.length_le;rw[By,GO]at h1;unfold HV;simp only[By,GO,No,aS];omega
  have I:((xs.take i).map λa=>(a.1,A9 (c i) (Dk p0 a.2)))++[((xs.getD i (0,0)).1,A9 (c (i+1)) (Dk p0 (xs.getD i (0,0)).2))]=(xs.take (i+1)).map λa=>(a.1,A9 (c (i+1)) (Dk p0 a.2)):=by
   rw[B8 _ xs (0,0) r]
   congr 1
   refine RN λa ha=>?_;obtain⟨t,ht⟩:=g.nxt i;rw[<-ht,XX (g.tgt i (a.1,Dk p0 a.2) (by rw[<-List.map_take];exact Do.2 ⟨a,ha,rfl⟩))]
  rw[R];refine EP drawsAny f 10 [([3,4,5],6),([1,2],7),([],8),([0],9)] [] (by kernel_rfl) (Pi ?_ ?_)
  .trivial
  refine mxC f (al q (c i) (out++[(ty.getD b.toNat 0,[])]++HV (quo p0 ty ar) (o++[b]) (c i)) (xs.getD i (0,0)).2 ⟨Y,O⟩ U z P X.1 X.2 O1) [(101,.nm 101),(102,.nm 102),(103,.nm 103),(104,.nm 104),(105,.nm 105),(106,.nm 106),(107,.nm 107),(108,.nm 108),(109,.nm 109),(110,.nm 110)] [102,103,104,107,109] ?_ ?_ ?_
  .exact eN
  .simp only[uO];refine eM ?_;exact R.symm
  rintro _ _ ⟨H,⟨az,aa⟩,bb,rfl,rfl⟩;rw[<-W,RI _ _ (HV _ (c i) _),ae];refine⟨[(101,.nm 101),(102,.nm 102),(103,.nm 103),(104,.nm 104),(105,.nm 105),(106,.nm 106),(107,.nm 107),(108,.nm 108),(109,.nm 109),(110,.nm 110)],.p T3 (A9 (c (i+1)) (Dk p0 (xs.getD i (0,0)).2)),[(101,.box 114 true [.p Ec h,.sr 102 T3 0 H.length,.sr 103 T3 0 ty.length,.sr 104 Cl 0 ar.length]),(102,.arr 3 T3 H),(103,.arr 3 T3 ty),(104,.arr 46 Cl ar),(105,.box 111 false [.bp 101 [] 0]),(106,.box 51 false [.sr 107 T3 0 (LB p0.length (c (i+1))).length]),(107,.arr 3 T3 (LB p0.length (c (i+1)))),(108,.box 25 true [.sr 109 Eb 0 (c (i+1)).length]),(109,.arr 48 Eb (out++[(ty.getD b.toNat 0,[])]++HV (quo p0 ty ar) (o++[b]) (c (i+1)))),(110,.box 155 false [.clo 94 [105,106,108,110]])],rfl,rfl,?_,?_,rfl,rfl,rfl,?_⟩
  .simp only[uO];refine eM ?_;exact S
  .exact eN
  refine Pi ?_ ?_
  .trivial
  refine Ya f [] ?_ ?_
  .trivial
  refine Pi ?_ ?_
  .trivial
  refine Ya f [] ?_ ?_
  .trivial
  refine Pi ?_ ?_
  .trivial
  refine Ya f [64] ?_ ?_
  .rw[No,On];simp only[AQ];omega
  refine eY f ?_ ?_ ?_
  .trivial
  .trivial
  repeat'(first|apply eS rfl|apply AB|refine rX f ?_ ?_)
  .exact eV
  refine⟨⟨(i+1,H),r,⟨az,aa⟩,bb⟩,by simp only;omega,AD [(101,.nm 101),(102,.nm 102),(103,.nm 103),(104,.nm 104),(105,.nm 105),(106,.nm 106),(107,.nm 107),(108,.nm 108),(109,.nm 109),(110,.nm 110),(64,.nm 64)] rfl rfl ?_ ?_⟩
  .simp only[uO,<-I];refine eM ?_;exact S.symm
  simp only[<-I];exact eN
 .exact IF.2 O1
 have ak:i=xs.length:=by
  have:=RM.1 l;omega
 subst ak;obtain⟨t,ht⟩:=E;have A:A9 (c xs.length) b=(o.length:Int):=by
  rw[<-ht,XX sc];unfold A9;rw[BY sc,XW w]
 have ap:CF (quo p0 ty ar) (c xs.length) b=(ty.getD b.toNat 0,xs.map λa=>(a.1,A9 (c xs.length) (Dk p0 a.2))):=by
  unfold CF;rw[x];simp only[AAb];rfl
 have aj:(out++[(ty.getD b.toNat 0,([]:List (Int×Int)))]++HV (quo p0 ty ar) (o++[b]) (c xs.length)).getD o.length (0,[])=(ty.getD b.toNat 0,[]):=by
  rw[<-y];simp[AS]
 have D:=zR (Q:=quo p0 ty ar) (g.pre xs.length);rw[ap]at D;rw[RK,aj,A6a out _ _ _ y.symm,<-D];have an:out.length+1+(HV (quo p0 ty ar) (o++[b]) (c xs.length)).length=(out++HV (quo p0 ty ar) o (c xs.length)).length:=by
  rw[D];simp only[By,NO];omega
 rw[an];refine Ev.ent (σ':=⟨[(6,.p T3 (A9 (c xs.length) b))],uO h q ty ar (LB p0.length (c xs.length)) (out++HV (quo p0 ty ar) o (c xs.length))⟩) ?_ (AD [(101,.nm 101),(102,.nm 102),(103,.nm 103),(104,.nm 104),(105,.nm 105),(106,.nm 106),(107,.nm 107),(108,.nm 108),(109,.nm 109),(110,.nm 110)] rfl rfl ?_ ?_)
 .exact fM f [.tmp 6] (.p T3 (A9 (c xs.length) b)) eT ⟨q,⟨Y,O⟩,U,by rw[G],by rw[G];rfl⟩
 .unfold uO;exact eN
 refine eM ?_;exact A.symm
theorem A3f (h:AG) {p0 ty:List Int} {ar:List (List (Int×Int))} (f:∃i,Fo p0 i) (b:AN (quo p0 ty ar)) (g:ty.length=p0.length) (c:ar.length=p0.length) (d:∀k,∀a∈ar.getD k [],0<=a.2/\a.2<(p0.length:Int)):∀k,A8G h p0 ty ar k
 | 0=>j9 h f b g c d 0 (λj e=>by cases e)
 | k+1=>j9 h f b g c d (k+1) (λj e=>by cases e;exact A3f h f b g c d k)
theorem A3g (len:Nat):LB len []=List.replicate len (-1):=by
 unfold LB;apply oS
 .simp
 intro i h1 a;simp
theorem A3h {α:Type} (x y:α) {n i:Nat} (h:i<n):(List.replicate i x++List.replicate (n-i) y).set i x=List.replicate (i+1) x++List.replicate (n-(i+1)) y:=by
 obtain⟨m,hm⟩:∃m,n-i=m+1:=⟨n-i-1,by omega⟩;have a:n-(i+1)=m:=by omega
 rw[hm,a,AAY _ _ sc,ABn,AAD,ABP,ABa,ACj,RI];rfl
theorem A3i (h:AG) {ty:List Int} {ar:List (List (Int×Int))} (g:∃w,Fo p w) (f:AN (quo p ty ar)) (t:ty.length=p.length) (m:ar.length=p.length) (n:∀k,∀a∈ar.getD k [],0<=a.2/\a.2<(p.length:Int)) {r:Int} (u:0<=r) (v:r<(p.length:Int)) :
  BK Tryz.prog 58 [.bp 101 [] 0,.p T3 r] (Zt h p ty ar) [101]
  (λres _=>res=.p Cv (AH (quo p ty ar) (Dk p r))):=by
 have d:=A3f h g f t m n p.length p [] [] r g (Ep.refl p) ⟨by simp,λx hx=>by cases hx⟩ rfl u v sc;have o:HV (quo p ty ar) [] (Aa (quo p ty ar) p.length [] (0,Dk p r))=AH (quo p ty ar) (Dk p r):=by
  have e:Aa (quo p ty ar) p.length [] (0,Dk p r)=Bd (quo p ty ar) p.length [] (Dk p r):=At sc;rw[e];unfold HV AH;rw[Dz];rfl
 rw[ABm,o,A3g]at d;have s:=f.1;rw[Dz]at s;generalize AH (quo p ty ar) (Dk p r)=G at *;generalize A9 _ _=z at d;generalize LB _ _=M at d;refine NX [0,1,2,4,5,6,7,8,16,17,18] [] [] Tryz.func58 Tryz.ntmps58 AI ?_;intro w0 K O0 ρ0 b A B;simp only[Zt,Ax];repeat'(first|exact trivial|apply eS rfl|refine rX b ?_ ?_)
 .simp only[AQ];omega
 refine AJ (ι:={i:Nat//i<=p.length}) (λi=>⟨[(0,.bp 101 [] 0),(1,.p T3 r),(2,.bp 2 [] 0),(4,.bp 4 [] 0),(5,.bp 5 [] 0),(16,.p (.int .i64) (p.length:Int)),(17,.p (.int .i64) (i.1:Int))],[(5,.box 51 false [.sr 14 T3 0 p.length]),(14,.arr 3 T3 (List.replicate i.1 (-1)++List.replicate (p.length-i.1) 0)),(4,.box 25 true [.raw (.slice none 0 0)]),(2,.box 111 false [.bp 101 [] 0]),(101,.box 114 true [.p Ec h,.sr 102 T3 0 p.length,.sr 103 T3 0 ty.length,.sr 104 Cl 0 ar.length]),(102,.arr 3 T3 p),(103,.arr 3 T3 ty),(104,.arr 46 Cl ar)]⟩) (λi=>p.length-i.1) ⟨0,by omega⟩ (AD [(5,.nm 5),(14,.nm 14),(4,.nm 4),(2,.nm 2),(101,.nm 101),(102,.nm 102),(103,.nm 103),(104,.nm 104)] rfl rfl ?_ ?_) (λi=>?_)
 .refine eM ?_;rfl
 .exact eN
 obtain⟨i,hi⟩:=i;simp only;repeat'(first|exact trivial|apply eS rfl|apply AB|refine rX b ?_ ?_|refine rC ?_ ?_<;>intro c<;>try(cases c;done))
 .exact c
 .exact eV
 .have j:i<p.length:=IF.1 c;refine⟨⟨i+1,j⟩,by simp only;omega,AD [(5,.nm 5),(14,.nm 14),(4,.nm 4),(2,.nm 2),(101,.nm 101),(102,.nm 102),(103,.nm 103),(104,.nm 104)] rfl rfl ?_ ?_⟩
  .refine eM ?_;exact A3h _ _ j
  exact eN
 have q:i=p.length:=by
  have:=RM.1 c;omega
 subst q;rw[AAD,List.replicate_zero,S6];refine cP 2 b ?_ ?_
 .trivial
 refine rM b (d) [(101,.nm 101),(102,.nm 102),(103,.nm 103),(104,.nm 104),(105,.nm 2),(106,.nm 5),(107,.nm 14),(108,.nm 7),(109,.nil),(110,.nm 8)] [102,103,104,14] ?_ ?_ ?_
 .exact eN
 .simp only[uO];refine eM ?_;exact ABn.symm
 rintro _ _ ⟨l,y,C,rfl,rfl⟩;refine⟨[(101,.nm 101),(102,.nm 102),(103,.nm 103),(104,.nm 104),(2,.nm 105),(5,.nm 106),(14,.nm 107),(7,.nm 108),(120,.nm 109),(8,.nm 110)],.p T3 z,[(101,.box 114 true [.p Ec h,.sr 102 T3 0 l.length,.sr 103 T3 0 ty.length,.sr 104 Cl 0 ar.length]),(102,.arr 3 T3 l),(103,.arr 3 T3 ty),(104,.arr 46 Cl ar),(2,.box 111 false [.bp 101 [] 0]),(5,.box 51 false [.sr 14 T3 0 M.length]),(14,.arr 3 T3 M),(7,.box 25 true [.sr 120 Eb 0 G.length]),(120,.arr 48 Eb G),(8,.box 155 false [.clo 94 [2,5,7,8]])],rfl,rfl,?_,?_,rfl,rfl,C4 ?_⟩
 .simp only[uO];exact eN
 .exact eN
 refine FK [120] ?_;repeat'(first|exact trivial|apply eS rfl|refine rX b ?_ ?_)
 exact fM b [.cell 4 25] (.p Cv G) eT rfl
structure AA9 (f:List AC) (r:Int) (o:List Int):Prop where
 ok:JF f o
 zero:o.getD 0 0=r/\0<o.length
 cl:∀n∈o,∀a∈AL f n,a.2∈o
theorem C6 (hf:AN f) {r:Int} (b:0<=r) (c:r<(f.length:Int)):AA9 f r (Bd f f.length [] r):=by
 have h1:=DS hf f.length [] r (FW f) b c sc;have d:=IZ hf f.length [] r (FW f) b c sc sc;have e:[r] <+: Bd f f.length [] r:=by
  obtain⟨k,hk⟩:∃k,f.length=k+1:=⟨f.length-1,by omega⟩;rw[hk,Bx];exact(EB (DS hf k) _ _ (λa ha=>Am hf ha) ((FW f).snoc b c sc)).2
 refine⟨h1.1,?_,λn hn a ha=>?_⟩
 .obtain⟨t,ht⟩:=e;rw[<-ht];exact⟨rfl,by simp⟩
 rcases d.2 n hn with h|h
 .cases h
 exact h a ha
theorem Er {r:Int} (hi:i<(Bd f f.length [] r).length):(AH f r).getD i (0,[])=CF f (Bd f f.length [] r) ((Bd f f.length [] r).getD i 0):=by
 unfold AH;simp[AS,hi]
theorem EC (f:List AC) (r:Int):(AH f r).length=(Bd f f.length [] r).length:=by simp[AH]
def AU (f g:List AC):List AC:=f++g.map λx=>(x.1,AX f.length x.2)
theorem Bg (f g:List AC):(AU f g).length=f.length+g.length:=by simp[AU]
theorem PS {x:Int} (a:0<=x) (b:x<(f.length:Int)):(AU f g).getD x.toNat (0,[])=f.getD x.toNat (0,[]):=by
 unfold AU;rw[AS,AS,RU O1]
theorem Mp {y:Int} (a:0<=y) (b:y<(g.length:Int)):(AU f g).getD ((f.length:Int)+y).toNat (0,[])=((g.getD y.toNat (0,[])).1,AX f.length (g.getD y.toNat (0,[])).2):=by
 unfold AU;have e:((f.length:Int)+y).toNat=f.length+y.toNat:=by omega
 rw[e,AS,RS O1,AC7];rw[<-AS];exact Sd (λx:AC=>(x.1,AX f.length x.2)) (0,[]) (0,[]) O1
theorem vA {n:Nat} {x y:Int} (h:EG n p [] x y):Dk p x=Dk p y:=by
 induction h with
 | cls _ _ _ _ h g=>rw[XT h,XT g]
 | wt h=>cases h
 | symm _ a=>exact a.symm
 | trans _ _ b c=>exact b.trans c
noncomputable abbrev Mq (p ty:List Int) (ar:List (List (Int×Int))):List Int:=Bd (quo p ty ar) (quo p ty ar).length [] (Dk p 0)
structure A3j (h:AG) (N:List AC) (P:List (Int×Int)) (U:List AC) (v:Int->Int):Prop where
 good:AN U
 pos:0<U.length
 str:∀x∈U,Ix x.2
 feat:∀x∈U,∀a∈x.2,a.1∈Cm N
 ty:CA h U
 ro:RO U
 zero:v 0=0
 proj:Iu h N P U v
 least:∀X w,CA h X->Iu h N P X w->w 0=0->∃m,Gx h U X m
 len:U.length<=N.length
section
variable {h:AG} {N:List AC} {P:List (Int×Int)} {p ty:List Int} {ar:List (List (Int×Int))}
theorem Se (a:JI h N P p ty ar []) (b:AN (quo p ty ar)) (c:0<N.length):AA9 (quo p ty ar) (Dk p 0) (Mq p ty ar):=by
 obtain⟨d,fo⟩:=a.fo;have lp:=a.lp;have:=GN fo (x:=0) O1 O1 (PR fo O1 O1);exact C6 b this.1 (by rw[Dz];exact this.2)
theorem LC (d:JI h N P p ty ar []) (c:AN (quo p ty ar)) (b:0<N.length):Dk p 0∈Mq p ty ar:=by
 have a:=Se d c b;have:=AE (Mq p ty ar) 0 a.zero.2;rw[a.zero.1]at this;exact this
theorem XY (a:JI h N P p ty ar []) {x y:Int} (b:(x,y)∈P) (hx:Dk p x∈Mq p ty ar):Dk p y∈Mq p ty ar:=by
 rw[<-vA (a.sp (x,y) b)];exact hx
theorem XZ (b:JI h N P p ty ar []) (f:AN (quo p ty ar)) (e:0<N.length) {x:Int} (c:0<=x) (i:x<(N.length:Int)) (hx:Dk p x∈Mq p ty ar) {a:Int×Int} (ha:a∈AL N x):Dk p a.2∈Mq p ty ar:=by
 obtain⟨j,fo⟩:=b.fo;have lp:=b.lp;obtain⟨t,ht,g⟩:=b.sa x _ c i (PR fo c O1) a ha;rw[vA g];have d:=GN fo c O1 (PR fo c O1);refine(Se b f e).cl _ hx (a.1,Dk p t) ?_;rw[AL,LA d.1 d.2];exact Do.2 ⟨(a.1,t),ht,rfl⟩
def dL (N:List AC) (k:Nat) (g:List AC):Prop:=∀i:Int,0<=i->i<(g.length:Int)->(k:Int)+i<(N.length:Int)/\N.getD ((k:Int)+i).toNat (0,[])=((g.getD i.toNat (0,[])).1,AX k (g.getD i.toNat (0,[])).2)
theorem Ie (m:JI h N P p ty ar []) (f:AN (quo p ty ar)) (e:0<N.length) {k:Nat} {g:List AC} (l:dL N k g) (r:RO g) (hk:Dk p (k:Int)∈Mq p ty ar):∀(n:Nat) (i:Int),i.toNat<=n->0<=i->i<(g.length:Int)->Dk p ((k:Int)+i)∈Mq p ty ar:=by
 intro n;induction n with
 | zero =>
  intro i hn o c;have:i=0:=by omega
  subst this;rw[ABo];exact hk
 | succ n q =>
  intro i hn o c;by_cases hi:i=0
  .subst hi;rw[ABo];exact hk
  obtain⟨j,d,s,a,ha,rfl⟩:=r i O1 c;have b:=l j d O1;have:=XZ m f e (x:=(k:Int)+j) O1 b.1 (q j O1 d O1) (a:=(a.1,a.2+(k:Int))) (by
   rw[AL,b.2];exact Do.2 ⟨a,ha,rfl⟩)
  rw[ACh];exact this
end
theorem Mr {N:List AC} {P:List (Int×Int)} {U:List AC} {v:Int->Int} (hx:Iu h N P U v) {k:Nat} {g:List AC} (d:dL N k g) (e:v (k:Int)=0):Gx h g U λi=>v ((k:Int)+i):=by
 refine⟨by show v ((k:Int)+0)=0;rw[ABo];exact e,λi b c=>?_,λi b c=>?_,λi b c a ha=>?_⟩
 .exact hx.rng _ O1 (d i b c).1
 .have:=hx.ty _ O1 (d i b c).1;rw[(d i b c).2]at this;exact this
 have:=hx.arc _ O1 (d i b c).1 (a.1,a.2+(k:Int)) (by
  rw[AL,(d i b c).2];exact Do.2 ⟨a,ha,rfl⟩)
 rw[ACh (k:Int) a.2];exact this
theorem DJ {g X:List AC} (hm:Gx h g X m):Iu h g [] X m:=⟨hm.rng,hm.ty,hm.arc,λq a=>by cases a⟩
theorem Ms {X:List AC} (hf:AN f) (j:AN g) {v:Int->Int} (h1:Iu h f [] X v) (e:Iu h g [] X w):Iu h (AU f g) [] X (λx=>if x<(f.length:Int) then v x else w (x-(f.length:Int))):=by
 have hl:=Bg f g;refine⟨λx c d=>?_,λx c d=>?_,λx c d a ha=>?_,λq k=>by cases k⟩
 .rw[hl]at d;show _/\_;try simp only
  split
  .exact h1.rng x c (by assumption)
  exact e.rng _ O1 O1
 .rw[hl]at d;try simp only
  by_cases hx:x<(f.length:Int)
  .rw[BY hx,PS c hx];exact h1.ty x c hx
  rw[At hx];have:=Mp (f:=f) (g:=g) (y:=x-(f.length:Int)) O1 O1;rw[show (f.length:Int)+(x-(f.length:Int))=x by omega]at this;rw[this];exact e.ty _ O1 O1
 rw[hl]at d;try simp only
 by_cases hx:x<(f.length:Int)
 .rw[BY hx];rw[AL,PS c hx]at ha;have i:=Am hf ha;rw[BY i.2];exact h1.arc x c hx a ha
 rw[At hx];have:=Mp (f:=f) (g:=g) (y:=x-(f.length:Int)) O1 O1;rw[show (f.length:Int)+(x-(f.length:Int))=x by omega]at this;rw[AL,this]at ha;obtain⟨b,hb,rfl⟩:=Do.1 ha;have i:=Am j hb;rw[At (by simp only;omega)];try simp only
 rw[show b.2+(f.length:Int)-(f.length:Int)=b.2 by omega];exact e.arc _ O1 O1 b hb
theorem Xa {N X:List AC} {P:List (Int×Int)} {v:Int->Int} (h1:Iu h N [] X v) (a:∀q∈P,v q.1=v q.2):Iu h N P X v:=⟨h1.rng,h1.ty,h1.arc,a⟩
theorem KD {N f g:List AC} {k:Nat} (h:dL f k N):dL (AU f g) k N:=by
 intro i a b;have:=h i a b;rw[Bg,PS O1 this.1];exact⟨by omega,this.2⟩
theorem Sf:dL f 0 f:=by
 intro i c b;rw[show ((0:Nat):Int)+i=i by omega];refine⟨b,?_⟩;have:AX 0 (f.getD i.toNat (0,[])).2=(f.getD i.toNat (0,[])).2:=by
  unfold AX;rw[RN (g:=id) (λa _=>by show (a.1,a.2+((0:Nat):Int))=a;rw[Int.natCast_zero,ABo]),ACZ]
 rw[this]
theorem LD:dL (AU f g) f.length g:=by
 intro i a b;rw[Bg,Mp a b];exact⟨by omega,rfl⟩
set_option maxHeartbeats 1000000 in
theorem qP {h:AG} {N:List AC} {P:List (Int×Int)} {p ty:List Int} {ar:List (List (Int×Int))} (H:JI h N P p ty ar []) (B:AN (quo p ty ar)) (J:0<N.length) (D:∀x,0<=x->x<(N.length:Int)->Dk p x∈Mq p ty ar) :
  A3j h N P (AH (quo p ty ar) (Dk p 0)) (λx=>A9 (Mq p ty ar) (Dk p x)):=by
 have m:=Se H B J
 have ab:=LC H B J
 obtain⟨nty,⟨ao,fo⟩,lp,lt,la,wr,tyr,arr,srt,sp,st,sa,co⟩:=H
 have ag:=Dz p ty ar
 have s:=λ{x:Int} (z:0<=x) (A:x<(N.length:Int))=>PR fo z (by rw[lp];exact A)
 have F:=λ{x:Int} (z:0<=x) (A:x<(N.length:Int))=>GN fo z (by rw[lp];exact A) (s z A)
 have G:=EC (quo p ty ar) (Dk p 0)
 have W:=λi=>Er (f:=quo p ty ar) (r:=Dk p 0) (i:=i)
 have I:∀x:Int,0<=x->x<(N.length:Int)->AL (quo p ty ar) x=(ar.getD x.toNat []).map λa=>(a.1,Dk p a.2):=λx z A=>by
  rw[AL,LA z (by rw[lp];exact A)]
 have n:∀x∈Mq p ty ar,(0<=x/\x<(N.length:Int))/\par p x=x:=by
  have ad:Iso (quo p ty ar) (quo p ty ar) id (λx=>(0<=x/\x<(N.length:Int))/\par p x=x):=by
   refine⟨λi _=>by simp,λi hi a ha=>?_,λi j _ _ e=>e⟩
   rw[I i hi.1.1 hi.1.2]at ha
   obtain⟨b,hb,rfl⟩:=List.mem_map.1 ha
   have c:=(arr _ b hb).1
   have:=F c.1 c.2
   rw[lp]at this
   exact⟨this,(s c.1 c.2).root⟩
  have L:=F (x:=0) O1 O1
  rw[lp]at L
  exact(Qj ad _ [] _ (λx hx=>by cases hx) ⟨L,(s (x:=0) O1 O1).root⟩).2
 have ae:=λ(q:Nat)=>Ql B (quo p ty ar).length [] (Dk p 0) (FW _) (F (x:=0) O1 O1).1 (by rw[ag];exact(F (x:=0) O1 O1).2) sc q
 unfold Mq at m ab D n ⊢
 generalize ak:AH (quo p ty ar) (Dk p 0)=U at *
 generalize am:Bd (quo p ty ar) (quo p ty ar).length [] (Dk p 0)=o at *
 have u:∀i:Int,0<=i->i<(o.length:Int)->o.getD i.toNat 0∈o/\A9 o (o.getD i.toNat 0)=i:=λi d g=>by
  refine⟨AE o 0 O1,?_⟩
  rw[DH m.ok.nd O1]
  omega
 have w:∀x∈o,U.getD (A9 o x).toNat (0,[])=(ty.getD x.toNat 0,(ar.getD x.toNat []).map λa=>(a.1,A9 o (Dk p a.2))):=λx hx=>by
  have ai:=BP hx
  have c:=(n x hx).1
  rw[W _ O1,ai.2.2]
  unfold CF
  rw[LA c.1 (by rw[lp];exact c.2),List.map_map]
  rfl
 have K:∀x∈o,∀a∈ar.getD x.toNat [],Dk p a.2∈o:=λx hx a ha=>by
  have c:=(n x hx).1
  exact m.cl x hx (a.1,Dk p a.2) (by rw[I x c.1 c.2];exact List.mem_map.2 ⟨a,ha,rfl⟩)
 have M:∀k,Ix ((ar.getD k []).map λa=>(a.1,A9 o (Dk p a.2))):=λk=>by
  unfold Ix
  rw[List.pairwise_map]
  exact srt k
 have C:∀x∈U,∃y∈o,x=(ty.getD y.toNat 0,(ar.getD y.toNat []).map λa=>(a.1,A9 o (Dk p a.2))):=λx hx=>by
  obtain⟨i,hi,rfl⟩:=Br (0,[]) hx
  have h1:=u (i:Int) O1 O1
  refine⟨_,h1.1,?_⟩
  rw[<-w _ h1.1,h1.2]
  rw[Int.toNat_natCast]
 have aa:A9 o (Dk p 0)=0:=by
  have:=DH m.ok.nd m.zero.2
  rw[m.zero.1]at this
  exact this
 have al:=m.ok.len
 have aj:=B.1
 refine⟨⟨by omega,λx hx=>?_⟩,by rw[G];exact m.zero.2,λx hx=>?_,λx hx a ha=>?_,λx hx=>?_,λi d g=>?_,aa,⟨λi d g=>?_,λi d g=>?_,λi d g a ha=>?_,λq af=>?_⟩,λX v Y O ah=>?_,by omega⟩
 .obtain⟨y,hy,rfl⟩:=C x hx
  have c:=(n y hy).1
  refine⟨?_,λa ha=>?_⟩
  .have:=(B.2 _ (AE (quo p ty ar) (0,[]) (k:=y.toNat) O1)).1
   rw[LA c.1 (by rw[lp];exact c.2),List.length_map]at this
   simp only[List.length_map]
   exact this
  obtain⟨b,hb,rfl⟩:=List.mem_map.1 ha
  have:=BP (K y hy b hb)
  rw[G]
  exact⟨this.1,this.2.1⟩
 .obtain⟨y,hy,rfl⟩:=C x hx
  exact M _
 .obtain⟨y,hy,rfl⟩:=C x hx
  obtain⟨b,hb,rfl⟩:=List.mem_map.1 ha
  exact(arr _ b hb).2
 .obtain⟨y,hy,rfl⟩:=C x hx
  have c:=(n y hy).1
  exact tyr y c.1 c.2
 . -- in order
  obtain⟨j,an,a,ha,e⟩:=ae i.toNat (by simp only[List.length_nil];omega) O1
  have h1:=u (j:Int) O1 O1
  have S:=u i O1 O1
  rw[Int.toNat_natCast]at h1
  have c:=(n _ h1.1).1
  rw[I _ c.1 c.2]at ha
  obtain⟨b,hb,rfl⟩:=List.mem_map.1 ha
  refine⟨(j:Int),by omega,by omega,(b.1,A9 o (Dk p b.2)),?_,?_⟩
  .have:=w _ h1.1
   rw[h1.2]at this
   rw[AL,this]
   exact List.mem_map.2 ⟨b,hb,rfl⟩
  show A9 o (Dk p b.2)=i
  simp only at e
  rw[e,S.2]
 .have:=BP (D i d g)
  rw[G]
  exact⟨this.1,this.2.1⟩
 .show Ar h _ (U.getD (A9 o (Dk p i)).toNat (0,[])).1=true
  rw[w _ (D i d g)]
  exact st i _ d g (s d g)
 .obtain⟨t,ht,Z⟩:=sa i _ d g (s d g) a ha
  have e:=vA Z
  show Av (AL U (A9 o (Dk p i))) a.1=A9 o (Dk p a.2)
  rw[e,AL,w _ (D i d g)]
  exact CM (M _) (a:=(a.1,A9 o (Dk p t))) (List.mem_map.2 ⟨(a.1,t),ht,rfl⟩)
 .show A9 o (Dk p q.1)=A9 o (Dk p q.2)
  rw[vA (sp q af)]
 obtain⟨c1,c2,Q,R⟩:=co X v Y O
 refine⟨λi=>v (o.getD i.toNat 0),?_,λi d g=>?_,λi d g=>?_,λi d g a ha=>?_⟩
 .show v (o.getD 0 0)=0
  rw[m.zero.1,<-c1 0 _ O1 O1 (s O1 O1)]
  exact ah
 .have l:=u i d O1
  have c:=(n _ l.1).1
  exact O.rng _ c.1 c.2
 .have l:=u i d O1
  have c:=n _ l.1
  have hn:=w _ l.1
  rw[l.2]at hn
  rw[hn]
  exact Q _ c.1.1 c.1.2 c.2
 have l:=u i d O1
 have c:=n _ l.1
 have hn:=w _ l.1
 rw[l.2]at hn
 rw[AL,hn]at ha
 obtain⟨b,hb,rfl⟩:=List.mem_map.1 ha
 have T:=R _ c.1.1 c.1.2 c.2 b hb
 have E:=(arr _ b hb).1
 have V:=BP (K _ l.1 b hb)
 simp only
 rw[V.2.2,<-c1 b.2 _ E.1 E.2 (s E.1 E.2)]
 exact T
def Nrm (c:List Int):Prop:=c.length=0\/c.getD (c.length-1) 0≠0
theorem PT (b:List Int):Nrm (BO b):=by
 unfold Nrm BO;have hl:=WY b b.length;rw[On,AAI hl];rcases SJ b b.length with h|h
 .exact .inl h
 by_cases h0:Cw b b.length=0
 .exact .inl h0
 right;rw[AS,List.getElem?_take_of_lt O1,<-AS];exact h
theorem A6b {a b:List Int} (ha:JE a) (hb:JE b) (h:∀i,Bc a i=Bc b i) (k:Nat):a.getD k 0=b.getD k 0:=by
 have d:=BF ha k;have f:=BF hb k;have j:=d.1;have l:=d.2;have m:=f.1;have o:=f.2;have e:(a.getD k 0).toNat=(b.getD k 0).toNat:=by
  refine Nat.eq_of_testBit_eq λr=>?_;by_cases g:r<64
  .have:=h (64*k+r);unfold Bc at this;rw[show (64*k+r) / 64=k by omega,show (64*k+r) % 64=r by omega]at this;exact this
  have c:∀n:Nat,n<18446744073709551616->n.testBit r=false:=λn hn=>by
   have e:(18446744073709551616:Nat)=2 ^ 64:=by decide
   rw[e]at hn;exact Nat.testBit_lt_two_pow (AAU hn (Nat.pow_le_pow_right dc O1))
  rw[c _ O1,c _ O1]
 omega
theorem vB {a b:List Int} (c:∀k,a.getD k 0=b.getD k 0) (hb:Nrm b):b.length<=a.length:=by
 rcases hb with h|h
 .omega
 refine IS λd=>h ?_;rw[<-c];exact HD O1
theorem A3k {a b:List Int} (ha:JE a) (hb:JE b) (e:Nrm a) (f:Nrm b) (h:∀i,Bc a i=Bc b i):a=b:=by
 have c:=A6b ha hb h;have hl:a.length=b.length:=ABk (vB (λk=>(c k).symm) e) (vB c f);refine oS hl λi h1 d=>?_;have:=c i;simpa[AS,h1,d] using this
theorem kA {α:Type} (l:List α) (x:α) (n:Nat):List.Perm (l.take n++[x]++l.drop n) (x :: l):=by
 have h:l.take n++[x]++l.drop n=l.take n++x :: l.drop n:=by simp
 rw[h];refine ACR.trans ?_;rw[ABl]
def Apt (l:List ByteArray):Prop:=l.Pairwise λa b=>Ae a b=false
theorem UG {a b:ByteArray} (h:Ae a b=false):Ae b a=false:=by
 cases hh:Ae b a with
 | false=>rfl
 | true=>rw[Fb hh]at h;cases h
theorem A3l {l:List ByteArray} {s:ByteArray} (h:Apt l) (hs:∀x∈l,Ae x s=false):Apt (Ds l s):=by
 unfold Ds;split
 .exact h
 refine(List.Perm.pairwise_iff (λa=>UG a) (kA l s _)).2 ?_;exact S8.2 ⟨λx hx=>UG (hs x hx),h⟩
theorem qQ (hn:Dt d=0):Apt (AZ d):=by
 have key:∀k,k<=d.length->Apt (AZ (d.take k))/\∀s∈AZ (d.take k),∃i,i<k/\(d.getD i d0).1=s:=by
  intro k;induction k with
  | zero =>
   intro _;exact⟨.nil,λs hs=>by cases hs⟩
  | succ k b =>
   intro hk;obtain⟨h1,a⟩:=b O1;have e:AZ (d.take (k+1))=Ds (AZ (d.take k)) (d.getD k d0).1:=by
    have:d.take (k+1)=d.take k++[d.getD k d0]:=Af d d0 O1;rw[this];unfold AZ;rw[ABe];rfl
   rw[e];refine⟨A3l h1 λx hx=>?_,λs hs=>?_⟩
   .obtain⟨i,hi,rfl⟩:=a x hx;cases hh:Ae (d.getD i d0).1 (d.getD k d0).1 with
    | false=>rfl
    | true =>
     have g:=Tx d hh;rw[Wj hn (j:=i) O1,Wj hn (j:=k) O1]at g;omega
   rcases QV hs with hs|hs
   .obtain⟨i,hi,e⟩:=a s hs;exact⟨i,by omega,e⟩
   exact⟨k,by omega,hs.symm⟩
 have:=(key d.length (IN _)).1
 rwa [RK]at this
structure Nd (l:List (List Int)):Prop where
 nd:l.Nodup
 nrm:∀c∈l,Nrm c
theorem A6c {l:List (List Int)} {c:List Int} (h:Nd l) (a:c∉l) (hn:Nrm c):Nd (l++[c]):=by
 refine⟨?_,λx hx=>?_⟩
 .rw[AAu];refine⟨h.nd,by simp,λx hx y hy e=>a ?_⟩;have:y=c:=by simpa using hy
  rw[<-this,<-e];exact hx
 rcases Fg.1 hx with hx|hx
 .exact h.nrm x hx
 have:x=c:=by simpa using hx
 rw[this];exact hn
theorem A6d {l:List (List Int)} (h:Nd l) (i k:Nat):Nd (HR l i k):=by
 unfold HR;split
 .rename_i a;rw[An,RQ]at a;refine A6c h (λhm=>?_) (PT _);have:o5 l (GE (l.getD i []) (l.getD k []))=true:=Re.2 ⟨_,hm,by unfold IJ;exact ABZ rfl⟩;rw[this]at a;cases a.2
 exact h
theorem vC {i:Nat}:∀ {n k:Nat} {l:List (List Int)},Nd l->Nd (HS i n k l)
 | 0,_,_,h=>h
 | n+1,k,l,h=>by
  unfold HS;split
  .exact vC (A6d h i k)
  exact h
theorem dM:∀ {n i:Nat} {l:List (List Int)},Nd l->Nd (Jk n i l)
 | 0,_,_,h=>h
 | n+1,i,l,h=>by
  unfold Jk;split
  .exact dM (vC h)
  exact h
theorem Zw (m:BV d=0):Nd (Aj d):=by
 obtain⟨-,l,-,hn,hl⟩:=BE m;have p:=FZ d d.length;rw[RK]at p;have hap:=qQ hn;refine⟨?_,λc n=>?_⟩
 .unfold Aj List.Nodup;rw[bY,RZ];intro i j hi a o e;have h1:=(RZ.1 hap) i j hi a o;have g:∀k,(hk:k<(AZ d).length)->(AZ d).getD k ByteArray.empty=(AZ d)[k]:=λk hk=>by simp[AS,hk]
  have f:=(El (d:=d) (all:=AZ d) O1 (AZ d)[j] 0).2.1;have b:=iW hn hl l hi a (by
   rw[g i hi,g j a,e];unfold GF;have:=(W3 f f).2 λ_ h=>h;rw[this];rfl)
  rw[g i hi,g j a,h1]at b;cases b
 obtain⟨s,hs,rfl⟩:=Do.1 n;unfold Hf ofF;split
 .exact PT _
 exact .inl rfl
theorem Mt {d:List AK}:∀ {l:List (List Int)} {o:List AW},(o.map (·.2)++l).Nodup->((l.foldl (SH d) o).map (·.2)).Nodup
 | [],o,h=>by simpa using h
 | b :: l,o,h=>by
  rw[RJ];refine Mt ?_;unfold SH Gu cR;have c:=(kA o (IR d (AZ d) (Aj d) b,b) (Fq (IR d (AZ d) (Aj d) b,b) o o.length)).map (λx:AW=>x.2);have e:List.Perm ((o.take (Fq (IR d (AZ d) (Aj d) b,b) o o.length)++[(IR d (AZ d) (Aj d) b,b)]++o.drop (Fq (IR d (AZ d) (Aj d) b,b) o o.length)).map (λx:AW=>x.2)++l) (o.map (·.2)++b :: l) :=
   (c.append_right l).trans (ACR (a:=b)).symm
  exact e.nodup_iff.2 h
def N7 (h:AG):Prop:=∀a b,0<=a->a<(h.1.length:Int)->0<=b->b<(h.1.length:Int)->Ar h a b=true->Ar h b a=true->a=b
theorem A8H (hk:GI h) (hn:Nd (h.1.map λt=>t.2.1)):N7 h:=by
 intro a b c d f b1 h1 l;have n:=hk.1.wds _ (Bv c d);have o:=hk.1.wds _ (Bv f b1);have e:BL h a=BL h b:=A3k n o (hn.nrm _ (Bv c d)) (hn.nrm _ (Bv f b1)) λi=>by
  rw[ABW];exact⟨(Bi hk f b1 c d).1 l i,(Bi hk c d f b1).1 h1 i⟩
 have j:=RZ.1 hn.nd;have g:∀k:Int,0<=k->(hk:k<(h.1.length:Int))->BL h k=(h.1.map λt=>t.2.1)[k.toNat]'(by rw[No];omega):=λk p q=>by
  unfold BL;simp[AS,show k.toNat<h.1.length by omega]
 rw[g a c d,g b f b1]at e;rcases Int.lt_trichotomy a b with m|heq|m
 .exact absurd e (j a.toNat b.toNat (by rw[No];omega) (by rw[No];omega) O1)
 .exact heq
 exact absurd e.symm (j b.toNat a.toNat (by rw[No];omega) (by rw[No];omega) O1)
theorem kB (d:List AK):N7 (A3 d).1:=by
 refine A8H (Mg d) ?_;unfold A3;split
 .exact⟨.nil,λc h=>(by cases h)⟩
 rename_i a;have a:(Ba d).2=0:=IS a;have g:BZ d=0:=by
  unfold Ba at a;split at a
  .rename_i h;exact absurd a h
  rename_i h;exact IS h
 obtain⟨k,-,-⟩:=Cp g;obtain⟨f,m,-⟩:=Bt k;have hf:Nd (A7 (Aj d)):=dM (Zw f);have e:((HE d).1.map λt=>t.2.1)=(A5 d).map λx=>x.2:=by
  show ((FM _ _ _).map λt=>t.2.1)=_;unfold FM;rw[AAb];apply oS
  .simp
  intro i h1 l;simp[AS,show i<(A5 d).length by simpa using h1]
 show Nd ((HE d).1.map λt=>t.2.1);rw[e];refine⟨Mt (by simpa using hf.nd),λc j=>?_⟩;obtain⟨x,hx,rfl⟩:=Do.1 j;obtain⟨b,hb,rfl⟩:=Dw.1 hx;exact hf.nrm b hb
structure VF (h:AG) (f:List AC):Prop where
 good:AN f
 pos:0<f.length
 ty:CA h f
 str:∀x∈f,Ix x.2
 ft:∀x∈f,∀a∈x.2,0<=a.1/\a.1<(h.2.length:Int)
 can:AH f 0=f
 ro:RO f
structure HU (h:AG):Prop where
 ok:GI h
 inj:N7 h
 ft:h.2.length<=64
def kC (U:List AC):Prop:=(Bd U U.length [] 0).length=U.length/\∀k,(hk:k<(Bd U U.length [] 0).length)->(Bd U U.length [] 0)[k]=(k:Int)
theorem dN {Q:List AC} (h:AN Q) {r:Int} (G:0<=r) (H:r<(Q.length:Int)):AN (AH Q r)/\kC (AH Q r):=by
 have c:=C6 h G H;have w:=EC Q r;have v:=λi=>Er (f:=Q) (r:=r) (i:=i);generalize J:AH Q r=U at *;generalize C:Bd Q Q.length [] r=o at *;have L:=c.ok.len;have I:=h.1;have d:∀i:Int,0<=i->i<(o.length:Int)->o.getD i.toNat 0∈o/\A9 o (o.getD i.toNat 0)=i:=λi E F=>by
  refine⟨AE o 0 O1,?_⟩;rw[DH c.ok.nd O1];omega
 have m:∀i:Int,0<=i->i<(o.length:Int)->AL U i=(AL Q (o.getD i.toNat 0)).map (FO o):=λi E F=>by
  rw[AL,v i.toNat O1];rfl
 have A:Iso U Q (λi=>o.getD i.toNat 0) (λi=>0<=i/\i<(o.length:Int)):=by
  refine⟨λi hi=>?_,λi hi a ha=>?_,λi j hi u e=>?_⟩
  .rw[m i hi.1 hi.2,AAb];have:∀a∈AL Q (o.getD i.toNat 0),((λa:Int×Int=>(a.1,o.getD a.2.toNat 0))∘FO o) a=a:=λa ha=>by
    show (a.1,o.getD (A9 o a.2).toNat 0)=a;rw[(BP (c.cl _ (d i hi.1 hi.2).1 a ha)).2.2]
   rw[RN this,ACz]
  .rw[m i hi.1 hi.2]at ha;obtain⟨b,hb,rfl⟩:=Do.1 ha;have:=BP (c.cl _ (d i hi.1 hi.2).1 b hb);exact⟨this.1,this.2.1⟩
  have h1:=(d i hi.1 hi.2).2;have g:=(d j u.1 u.2).2;have e:o.getD i.toNat 0=o.getD j.toNat 0:=e;rw[<-h1,<-g,e]
 have h0:(0:Int)<(o.length:Int):=by have:=c.zero.2;omega
 have p:AN U:=by
  refine⟨by omega,λx hx=>?_⟩;obtain⟨i,hi,rfl⟩:=Br (0,[]) hx;have h1:=m (i:Int) O1 O1;rw[AL,RG]at h1;rw[h1];have hm:=d (i:Int) O1 O1;rw[RG]at hm;have M:=c.ok.rng _ hm.1;refine⟨?_,λa ha=>?_⟩
  .rw[No];exact(h.2 _ (AE Q (0,[]) (k:=(o.getD i 0).toNat) O1)).1
  obtain⟨b,hb,rfl⟩:=Do.1 ha;have:=BP (c.cl _ hm.1 b hb);rw[w];exact⟨this.1,this.2.1⟩
 have hd:=Qj A Q.length [] 0 (λx hx=>by cases hx) ⟨by omega,h0⟩;have D:o.getD (0:Int).toNat 0=r:=c.zero.1;rw[ABN,D,C]at hd;have t:=KC p (n:=0) O1 O1 (Q.length-U.length);rw[show U.length+(Q.length-U.length)=Q.length by omega]at t;rw[t]at hd;unfold kC;refine⟨p,?_⟩;generalize Bd U U.length [] 0=l at *;obtain⟨s,y⟩:=hd;have K:l.length=o.length:=by
  have:=AAv List.length s;rw[No]at this;exact this.symm
 have B:∀k,(hk:k<l.length)->l[k]=(k:Int):=λk hk=>by
  have q:=y l[k] (aT hk);have h1:=(d l[k] q.1 q.2).2;have g:=(d (k:Int) O1 O1).2;have e:o.getD k 0=o.getD (l[k]).toNat 0:=by
   exact(AAv (λz:List Int=>z.getD k 0) s).trans (by simp[AS,hk])
  rw[RG,e]at g;rw[<-h1,g]
 exact⟨by omega,B⟩
theorem Xb {U:List AC} (f:AN U) (h:kC U):AH U 0=U:=by
 unfold AH;obtain⟨p,b⟩:=h;generalize Bd U U.length [] 0=l at *;have n:l.Nodup:=by
  unfold List.Nodup;rw[RZ];intro i j hi m o e;rw[b i hi,b j m]at e;omega
 have k:∀x,0<=x->x<(l.length:Int)->A9 l x=x:=λx q r=>by
  have:=DH n (i:=x.toNat) O1;have e:l.getD x.toNat 0=x:=by
   rw[AS,AT O1];show l[x.toNat]=x;rw[b _ O1];omega
  rw[e]at this;rw[this];omega
 apply oS
 .rw[No];omega
 intro i h1 c;rw[ABA,b i (by simpa using h1)];have d:U.getD (i:Int).toNat (0,[])=U[i]:=by simp[AS,c]
 unfold CF;rw[d];have:∀a∈U[i].2,FO l a=a:=λa ha=>by
  have g:=(f.2 _ (aT c)).2 a ha;unfold FO;rw[k a.2 g.1 O1]
 rw[RN this,ACz]
theorem kD {Q:List AC} (a:AN Q) {r:Int} (b:0<=r) (c:r<(Q.length:Int)):AH (AH Q r) 0=AH Q r :=
 Xb (dN a b c).1 (dN a b c).2
theorem Xc {a X:List AC} (f:RO a) {e:Int->Int} (h1:Gx h a X m) (b:Gx h a X e):∀(k:Nat) (i:Int),i.toNat<=k->0<=i->i<(a.length:Int)->m i=e i:=by
 intro k;induction k with
 | zero =>
  intro i hk g d;have:i=0:=by omega
  subst this;rw[h1.zero,b.zero]
 | succ k l =>
  intro i hk g d;by_cases hi:i=0
  .subst hi;rw[h1.zero,b.zero]
  obtain⟨j,c,n,x,hx,rfl⟩:=f i O1 d;rw[<-h1.arc j c O1 x hx,<-b.arc j c O1 x hx,l j O1 c O1]
theorem GP (hk:GI h) {a b c:List AC} (u:AN a) (ta:CA h a) (tb:CA h b) (v:CA h c) {n:Int->Int} (h1:Gx h a b m) (j:Gx h b c n):Gx h a c λi=>n (m i):=by
 refine⟨by show n (m 0)=0;rw[h1.zero,j.zero],λi f g=>?_,λi f g=>?_,λi f g x hx=>?_⟩
 .have:=h1.rng i f g;exact j.rng _ this.1 this.2
 .have d:=h1.rng i f g;have w:=j.rng _ d.1 d.2;have p:=ta _ (AE a (0,[]) (k:=i.toNat) O1);have q:=tb _ (AE b (0,[]) (k:=(m i).toNat) O1);have r:=v _ (AE c (0,[]) (k:=(n (m i)).toNat) O1);exact Id hk p.1 p.2 q.1 q.2 r.1 r.2 (h1.ty i f g) (j.ty _ d.1 d.2)
 have d:=h1.rng i f g;have o:=Am u hx;have hm:=h1.arc i f g x hx;obtain⟨y,hy,s,t⟩:=DI (l:=AL b (m i)) (e:=x.1) (by rw[hm];exact(h1.rng _ o.1 o.2).1);have:=j.arc (m i) d.1 d.2 y hy;rw[s,t,hm]at this;exact this
theorem Ci {a:List AC} (hs:∀x∈a,Ix x.2) (n:Int):Ix (AL a n):=by
 unfold AL;by_cases h:n.toNat<a.length
 .exact hs _ (AE a (0,[]) h)
 rw[AS,RP O1];exact .nil
theorem dP {a:List AC} (hs:∀x∈a,Ix x.2):Gx h a a id :=
 ⟨rfl,λi b c=>⟨b,c⟩,λi _ _=>Fu h _,λi _ _ x hx=>CM (Ci hs i) hx⟩
theorem vF:∀ {l m:List (Int×Int)},Ix l->Ix m->(∀x,x∈l↔x∈m)->l=m
 | [],[],_,_,_=>rfl
 | [],b :: m,_,_,h=>by have:=(h b).2 sc;cases this
 | a :: l,[],_,_,h=>by have:=(h a).1 sc;cases this
 | a :: l,b :: m,h1,g,h=>by
  obtain⟨d,f⟩:=S8.1 h1;obtain⟨b1,b2⟩:=S8.1 g;have e:a=b:=by
   rcases DO.1 ((h a).1 sc) with e|e
   .exact e
   rcases DO.1 ((h b).2 sc) with c|c
   .exact c.symm
   have:=d b c;have:=b1 a e;omega
  subst e;refine AAv _ (vF f b2 λx=>⟨λhx=>?_,λhx=>?_⟩)
  .rcases DO.1 ((h x).1 (by simp[hx])) with e|e
   .subst e;have:=d x hx;omega
   exact e
  rcases DO.1 ((h x).2 (by simp[hx])) with e|e
  .subst e;have:=b1 x hx;omega
  exact e
theorem A3m (hu:HU h) {U V:List AC} (b:VF h U) (c:VF h V) {n:Int->Int} (h1:Gx h U V m) (d:Gx h V U n):U=V:=by
 have key:∀ {U V:List AC},VF h U->VF h V->∀ {m n:Int->Int},Gx h U V m->Gx h V U n->U.length<=V.length->U=V:=by
  clear b c h1 d;intro U V b c m n h1 d G;have c1:=GP hu.ok b.good b.ty c.ty b.ty h1 d;have c2:=GP hu.ok c.good c.ty b.ty c.ty d h1;have s:∀i,0<=i->i<(U.length:Int)->n (m i)=i:=λi q r=>Xc b.ro c1 (dP b.str) i.toNat i (IN _) q r;have D:∀i,0<=i->i<(V.length:Int)->m (n i)=i:=λi q r=>Xc c.ro c2 (dP c.str) i.toNat i (IN _) q r;have v:∀ {A B:List AC} {f:Int->Int},AN A->Gx h A B f->∀i,0<=i->i<(A.length:Int)->∀x∈AL A i,(x.1,f x.2)∈AL B (f i):=λ{A B f} E hf i q r x hx=>by
   have p:=Am E hx;have hm:=hf.arc i q r x hx;obtain⟨y,hy,u,t⟩:=DI (l:=AL B (f i)) (e:=x.1) (by rw[hm];exact(hf.rng _ p.1 p.2).1);rw[<-u,<-hm,<-t];exact hy
  have F:Iso U V m (λi=>0<=i/\i<(U.length:Int)):=by
   refine⟨λi hi=>?_,λi hi a ha=>Am b.good ha,λi j hi w e=>?_⟩
   .have o:=h1.rng i hi.1 hi.2;refine vF (Ci c.str _) ?_ λx=>⟨λhx=>?_,λhx=>?_⟩
    .unfold Ix;rw[bY];exact Ci b.str i
    .have g:=v c.good d (m i) o.1 o.2 x hx;rw[s i hi.1 hi.2]at g;refine Do.2 ⟨_,g,?_⟩;have p:=Am c.good hx;show (x.1,m (n x.2))=x;rw[D x.2 p.1 p.2]
    obtain⟨y,hy,rfl⟩:=Do.1 hx;exact v b.good h1 i hi.1 hi.2 y hy
   rw[<-s i hi.1 hi.2,<-s j w.1 w.2,e]
  have H:=b.pos;have:=Yi F b.good ⟨by omega,by omega⟩ h1.zero b.pos G λi hi=>by
   have o:=h1.rng i hi.1 hi.2;have u:=h1.ty i hi.1 hi.2;have t:=d.ty (m i) o.1 o.2;rw[s i hi.1 hi.2]at t;have z:=b.ty _ (AE U (0,[]) (k:=i.toNat) O1);have C:=c.ty _ (AE V (0,[]) (k:=(m i).toNat) O1);exact hu.inj _ _ C.1 C.2 z.1 z.2 t u
  rw[c.can,b.can]at this;exact this.symm
 rcases Nat.le_total U.length V.length with hl|hl
 .exact key b c h1 d hl
 exact(key c b d h1 hl).symm
structure LE (h:AG) (a b U:List AC):Prop where
 vf:VF h U
 left:∃m,Gx h a U m
 right:∃m,Gx h b U m
 least:∀X,CA h X->∀m1,Gx h a X m1->∀m2,Gx h b X m2->∃m,Gx h U X m
 len:U.length<=a.length+b.length
theorem A6e (hu:HU h) {a b V:List AC} (h1:LE h a b U) (c:LE h a b V):U=V:=by
 obtain⟨j,d⟩:=c.left;obtain⟨k,e⟩:=c.right;obtain⟨l,f⟩:=h1.left;obtain⟨n,g⟩:=h1.right;obtain⟨m,hm⟩:=h1.least V c.vf.ty j d k e;obtain⟨o,i⟩:=c.least U h1.vf.ty l f n g;exact A3m hu h1.vf c.vf hm i
open Classical in
noncomputable def EU (h:AG) (a b:List AC):List AC×Bool:=if H:∃U,LE h a b U then (H.choose,true) else ([],false)
theorem HI (hu:HU h) {a b:List AC} (h1:LE h a b U):EU h a b=(U,true):=by
 unfold EU;have H:∃U,LE h a b U:=⟨U,h1⟩;rw[dif_pos H,A6e hu H.choose_spec h1]
theorem kE {a b:List AC} (h1:∀X,CA h X->∀d,Gx h a X d->∀e,¬Gx h b X e):EU h a b=([],false):=by
 unfold EU;rw[dif_neg];rintro⟨U,c⟩;obtain⟨d,f⟩:=c.left;obtain⟨e,g⟩:=c.right;exact h1 U c.vf.ty d f e g
theorem Fv {a b:List AC} (h1:(EU h a b).2=true):LE h a b (EU h a b).1:=by
 unfold EU at h1 ⊢;split at h1
 .rename_i H;rw[dif_pos H];exact H.choose_spec
 cases h1
theorem Xd {e:Int} (h:e∈Cm f):∃x∈f,∃a∈x.2,a.1=e:=by
 unfold Cm at h;obtain⟨x,hx,b⟩:=ACS.1 h;obtain⟨a,ha,e⟩:=Do.1 b;exact⟨x,hx,a,ha,e⟩
theorem qR {N:List AC} {P:List (Int×Int)} {ty:List Int} {ar:List (List (Int×Int))} (d:JI h N P p ty ar []) (g:AN (quo p ty ar)) (j:0<N.length) (i:∀x∈N,∀a∈x.2,0<=a.1/\a.1<(h.2.length:Int)) {v:Int->Int} (c:A3j h N P (AH (quo p ty ar) (Dk p 0)) v):VF h (AH (quo p ty ar) (Dk p 0)):=by
 have f:0<=Dk p 0/\Dk p 0<((quo p ty ar).length:Int):=by
  obtain⟨k,fo⟩:=d.fo;have:=d.lp;have:=GN fo (x:=0) O1 O1 (PR fo O1 O1);rw[Dz];exact this
 refine⟨c.good,c.pos,c.ty,c.str,λx hx a ha=>?_,kD g f.1 f.2,c.ro⟩;obtain⟨y,hy,b,hb,e⟩:=Xd (c.feat x hx a ha);rw[<-e];exact i y hy b hb
theorem zS (hf:VF h f) (c:VF h g):∀x∈AU f g,∀a∈x.2,0<=a.1/\a.1<(h.2.length:Int):=by
 intro x hx;unfold AU at hx;rcases Fg.1 hx with hx|hx
 .exact hf.ft x hx
 obtain⟨y,hy,rfl⟩:=Do.1 hx;intro a ha;obtain⟨b,hb,rfl⟩:=Do.1 ha;exact c.ft y hy b hb
theorem vH (hf:VF h f) (i:VF h g) {ty:List Int} {ar:List (List (Int×Int))} (b:JI h (AU f g) [(0,(f.length:Int))] p ty ar []) (d:AN (quo p ty ar)):LE h f g (AH (quo p ty ar) (Dk p 0)):=by
 have t:=hf.pos;have hl:=Bg f g;have c:0<(AU f g).length:=by omega
 have h0:=LC b d c;have l:=Ie b d c (KD (g:=g) Sf) hf.ro h0;have n:=Ie b d c (LD (f:=f)) i.ro (XY b sc h0);have a:=qP b d c λx s u=>by
  by_cases hx:x<(f.length:Int)
  .have:=l x.toNat x (IN _) s hx
   rwa [show ((0:Nat):Int)+x=x by omega]at this
  have:=n _ (x-(f.length:Int)) (IN _) O1 O1
  rwa [show (f.length:Int)+(x-(f.length:Int))=x by omega]at this
 refine⟨qR b d c (zS hf i) a,⟨_,Mr a.proj (KD (g:=g) Sf) a.zero⟩,⟨_,Mr a.proj (LD (f:=f)) (by rw[<-a.proj.eq (0,(f.length:Int)) sc];exact a.zero)⟩,λX k o h1 r j=>?_,by have:=a.len;omega⟩;refine a.least X _ k (Xa (Ms hf.good i.good (DJ h1) (DJ j)) λq m=>?_) ?_
 .have e:q=(0,(f.length:Int)):=by simpa using m
  subst e;try simp only
  rw[BY O1,At O1,ACg,h1.zero,j.zero]
 show (if (0:Int)<(f.length:Int) then o 0 else r (0-(f.length:Int)))=0;rw[BY O1];exact h1.zero
theorem zT (hf:VF h f) (c:VF h g) (d:∀X v,CA h X->¬Iu h (AU f g) [(0,(f.length:Int))] X v):EU h f g=([],false):=by
 have j:=hf.pos;refine kE λX b k h1 l a=>d X _ b (Xa (Ms hf.good c.good (DJ h1) (DJ a)) λq i=>?_);have e:q=(0,(f.length:Int)):=by simpa using i
 subst e;try simp only
 rw[BY O1,At O1,ACg,h1.zero,a.zero]
theorem kF (l:List (Int×Int)):AX 0 l=l:=by
 unfold AX;rw[RN (g:=id) (λa _=>by show (a.1,a.2+((0:Nat):Int))=a;rw[Int.natCast_zero,ABo]),ACZ]
theorem Zx (a b:Nat):Be 0 a++Be a b=Be 0 (a+b):=by
 unfold Be;rw[ACF,RY,AAb]
 congr 1
 refine RN λi _=>?_;show ((a+i:Nat):Int)=((0+(a+i):Nat):Int);rw[AB8]
theorem zU {n k:Nat} (h:k<n):(Be 0 n).getD k 0=(k:Int):=by
 unfold Be;rw[AS,Rb,AAC h];show ((0+k:Nat):Int)=k;rw[AB8]
theorem Mu {n:Nat} {x:Int} (a:0<=x) (b:x<(n:Int)):par (Be 0 n) x=x:=by
 unfold par;rw[zU O1];omega
def D0 (N:List AC):List Int:=N.map (·.1)
def GQ (N:List AC):List (List (Int×Int)):=N.map (·.2)
theorem PU (N:List AC) (k:Nat):(D0 N).getD k 0=(N.getD k (0,[])).1:=by
 unfold D0;rw[AS,Rb,AS];cases N[k]?<;>rfl
theorem Ni (N:List AC) (k:Nat):(GQ N).getD k []=(N.getD k (0,[])).2:=by
 unfold GQ;rw[AS,Rb,AS];cases N[k]?<;>rfl
theorem qS (f g:List AC):CW f f.length++CW g g.length=D0 (AU f g):=by
 unfold CW D0 AU;rw[RK,RK,RY,AAb];rfl
theorem zV (f g:List AC):Ed 0 f f.length++Ed f.length g g.length=GQ (AU f g):=by
 unfold Ed GQ AU;rw[RK,RK,RY,AAb]
 congr 1
 exact RN λx _=>kF x.2
theorem dQ {n:Nat} {x r:Int} (a:0<=x) (b:x<(n:Int)) (h:Rt (Be 0 n) x r):r=x:=h.det (.base (Mu a b))
theorem VH {N:List AC} (j:AN N) (ht:CA h N) (hs:∀x∈N,Ix x.2):JI h N [] (Be 0 N.length) (D0 N) (GQ N) []:=by
 have hl:(Be 0 N.length).length=N.length:=H0 0 N.length;refine⟨ht,⟨λ_=>0,λn n0 n1=>?_,λn n0 n1 hn=>?_⟩,hl,by simp[D0],by simp[GQ],λw f=>(by cases f),λx c d=>?_,λk a ha=>?_,λk=>?_,λq m=>(by cases m),λx r c d e=>?_,λx r c d e a ha=>?_,λX v o l=>?_⟩
 .rw[hl]at n1 ⊢;rw[Mu n0 n1];exact⟨n0,n1⟩
 .rw[hl]at n1;exact absurd (Mu n0 n1) hn
 .rw[PU];exact ht _ (AE N (0,[]) O1)
 .rw[Ni]at ha;refine⟨Eo j k a ha,?_⟩;by_cases hk:k<N.length
  .exact ACS.2 ⟨_,AE N (0,[]) hk,Do.2 ⟨a,ha,rfl⟩⟩
  rw[AS,RP O1]at ha;cases ha
 .rw[Ni];have:=Ci hs (k:Int)
  rwa [AL,RG]at this
 .rw[dQ c d e,PU];exact Fu h _
 .rw[dQ c d e,Ni];have b:=Am j ha;exact⟨a.2,ha,.cls b.1 b.2 b.1 b.2 (.base (Mu b.1 b.2)) (.base (Mu b.1 b.2))⟩
 refine⟨λx r c d e=>by rw[dQ c d e],λw f=>(by cases f),λr g i _=>?_,λr g i _ a ha=>?_⟩
 .rw[PU];exact l.ty r g i
 rw[Ni]at ha;exact l.arc r g i a ha
theorem Cz (hf:AN f) (c:AN g) (hl:f.length+g.length<=100000):AN (AU f g):=by
 have d:=Bg f g;refine⟨by omega,λx hx=>?_⟩;unfold AU at hx;rcases Fg.1 hx with hx|hx
 .refine⟨(hf.2 x hx).1,λa ha=>?_⟩;have:=(hf.2 x hx).2 a ha;omega
 obtain⟨y,hy,rfl⟩:=Do.1 hx;refine⟨by simp only[AX,No];exact(c.2 y hy).1,λa ha=>?_⟩;obtain⟨b,hb,rfl⟩:=Do.1 ha;have:=(c.2 y hy).2 b hb;simp only;omega
theorem EK (hf:∀x∈f,Ix x.2) (a:∀x∈g,Ix x.2):∀x∈AU f g,Ix x.2:=by
 intro x hx;unfold AU at hx;rcases Fg.1 hx with hx|hx
 .exact hf x hx
 obtain⟨y,hy,rfl⟩:=Do.1 hx;unfold Ix AX;rw[bY];exact a y hy
theorem GR (hf:CA h f) (a:CA h g):CA h (AU f g):=by
 intro x hx;unfold AU at hx;rcases Fg.1 hx with hx|hx
 .exact hf x hx
 obtain⟨y,hy,rfl⟩:=Do.1 hx;exact a y hy
def Ui (N:List AC):Prop:=∀x∈N,∀a∈x.2,0<=a.1/\a.1<64
theorem GS (hf:Ui f) (c:Ui g):Ui (AU f g):=by
 intro x hx;unfold AU at hx;rcases Fg.1 hx with hx|hx
 .exact hf x hx
 obtain⟨y,hy,rfl⟩:=Do.1 hx;intro a ha;obtain⟨b,hb,rfl⟩:=Do.1 ha;exact c y hy b hb
theorem Sg (h:Ix l) (hf:∀a∈l,0<=a.1/\a.1<64):l.length<=64:=by
 have:=dI h (S:=(List.range 64).map λ(i:Nat)=>(i:Int)) (λa ha=>Do.2 ⟨a.1.toNat,Ra.2 (by have:=hf a ha;omega),by have:=hf a ha;omega⟩)
 rwa [No,ABt]at this
theorem qT {N:List AC} (h:∀x∈N,x.2.length<=64):(Cm N).length<=64*N.length:=by
 induction N with
 | nil=>simp[Cm]
 | cons x N a =>
  have h1:=h x sc;have b:=a λy hy=>h y (by simp[hy]);have e:Cm (x :: N)=x.2.map (·.1)++Cm N:=rfl;rw[e,By,No,NO];omega
theorem zW {N:List AC} (h:Ui N) {e:Int} (b:e∈Cm N):0<=e/\e<64:=by
 obtain⟨x,hx,a,ha,rfl⟩:=Xd b;exact h x hx a ha
theorem Mv {N:List AC} {P:List (Int×Int)} {ty:List Int} {ar:List (List (Int×Int))} (c:JI h N P p ty ar []) (f:N.length<=100000) (hf:Ui N):AN (quo p ty ar):=by
 have hl:=Dz p ty ar;obtain⟨g,fo⟩:=c.fo;have lp:=c.lp;refine⟨by omega,λx hx=>?_⟩;obtain⟨i,hi,rfl⟩:=Br (0,[]) hx;have e:=LA (p:=p) (ty:=ty) (ar:=ar) (n:=(i:Int)) O1 O1;rw[RG]at e;rw[e];refine⟨?_,λa ha=>?_⟩
 .simp only[No];have:=Sg (c.srt i) (λa ha=>zW hf (c.arr i a ha).2);omega
 obtain⟨b,hb,rfl⟩:=Do.1 ha;have d:=(c.arr i b hb).1;have:=GN fo (x:=b.2) d.1 O1 (PR fo d.1 O1);rw[hl];exact this
theorem VF.ft64 (b:VF h f) (hu:HU h):Ui f:=λx hx a ha=>by
 have h1:=b.ft x hx a ha;have c:=hu.ft;omega
def AAa (d:List AK) (o:List ByteArray) (i:Nat):Prop:=∀j,j<i->∀x∈d,Ai x.2.1 (o.getD j ByteArray.empty)=true->Ai o x.1=true
theorem A3n {o:List ByteArray} {x:AK} (h:Ai x.2.1 c=true):Ai (F0 c o x) x.1=true:=by grind [F0,O7,Fa]
theorem Zy {c:ByteArray} {x:AK} (h:Ai x.2.1 c=true):∀ {l:List AK} {o:List ByteArray},x∈l->Ai (l.foldl (F0 c) o) x.1=true
 | [],_,hx=>by cases hx
 | y :: l,o,hx=>by
  rw[RJ];rcases DO.1 hx with rfl|hx
  .grind [Nf,Nb,A3n]
  exact Zy h hx
theorem kG {d:List AK}:∀ {n i:Nat} {o:List ByteArray},fA d o->d.length<=n+i->AAa d o i->i<=o.length->∃m,AAa d (Du d n i o) m/\(Du d n i o).length<=m
 | 0,i,o,ha,hd,hb,hi=>⟨i,hb,by
  have:=ha.len;show o.length<=i;omega⟩
 | n+1,i,o,ha,hd,hb,hi=>by
  unfold Du;split
  .rename_i g;obtain⟨a,c⟩:=Wd (o.getD i ByteArray.empty) (l:=d) (o:=o) (λ_ h=>h) ha;refine kG a O1 (λj f x hx hs=>?_) O1;rw[SC _ O1]at hs;by_cases e:j=i
   .subst e;exact Zy hs hx
   exact Nf (λz b=>Nb b) (hb j O1 x hx hs)
  exact⟨i,hb,by omega⟩
theorem Sh {α:Type} {p:α->Bool}:∀ {l:List α},l.countP p=1->∀x∈l,p x=true->∀y∈l,p y=true->x=y
 | [],h,x,hx,_,_,_,_=>by cases hx
 | z :: l,h,x,hx,b,y,hy,c=>by
  rw[ABC]at h;by_cases a:p z=true
  .rw[BY a]at h;grind
  rw[At a]at h;have hx:x∈l:=by grind
  have hy:y∈l:=by grind
  exact Sh O1 x hx b y hy c
theorem Xe (s:ByteArray):∀(l:List AK) (k:Nat),0<=Cy s k l->∃x∈l,Ae x.1 s=true
 | [],k,h=>by
  simp only[Cy]at h;omega
 | y :: l,k,h=>by
  simp only[Cy]at h;split at h
  .rename_i e;exact⟨y,by simp,e⟩
  obtain⟨x,hx,e⟩:=Xe s l (k+1) h;exact⟨x,by simp[hx],e⟩
theorem qU (p:BV d=0):∃r∈d,∀x∈d,Ai (Dv d r.1) x.1=true:=by
 obtain⟨hs,E,h1,hn,hl⟩:=BE p;have v:0<d.countP λx=>x.2.1.length==0:=by grind [X1]
 obtain⟨r,b,l⟩:=List.countP_pos_iff.1 v;refine⟨r,b,?_⟩;have A:=Fc b;have q:fA d [r.1]:=⟨λs hs=>by
  have:s=r.1:=by simpa using hs
  rw[this];exact A,by simp⟩
 obtain⟨m,u,F⟩:=kG (d:=d) (n:=d.length) (i:=0) q O1 (λj t=>by omega) O1;have h:r.1∈Du d d.length 0 [r.1]:=PH sc;have hb:Dv d r.1=MW (Du d d.length 0 [r.1]):=by unfold Dv;rw[At O1]
 rw[hb];generalize Du d d.length 0 [r.1]=o at *;have key:∀(k:Nat) (x:AK),x∈d->IQ d x.1<=k->Ai o x.1=true:=by
  intro k;induction k with
  | zero =>
   intro x hx hk;by_cases f:x.2.1.length=0
   .have e:=Sh h1 x hx (by simpa using f) r b l;rw[e];exact Nc h
   obtain⟨s,a⟩:∃s,s∈x.2.1:=ACi O1;have:=PG hn hl hx (Nc a);omega
  | succ k D =>
   intro x hx hk;by_cases f:x.2.1.length=0
   .have e:=Sh h1 x hx (by simpa using f) r b l;rw[e];exact Nc h
   obtain⟨s,a⟩:∃s,s∈x.2.1:=ACi O1;have B:=PG hn hl hx (Nc a);obtain⟨y,hy,e⟩:=Xe s d 0 (hs x hx s a);rw[<-PE d e]at B;obtain⟨z,g,c⟩:=Re.1 (D y hy O1);obtain⟨j,t,rfl⟩:=Br ByteArray.empty g;refine u j O1 x hx ?_;exact Re.2 ⟨s,a,Fb (DF c e)⟩
 intro x hx;obtain⟨z,g,e⟩:=Re.1 (key _ x hx (IN _));obtain⟨w,C,c⟩:=Re.1 (Wm (o:=[]) g);exact Re.2 ⟨w,C,DF c e⟩
abbrev cnt (c:List Int):Nat:=(IK c).length
theorem A3o {w:Int} (a:U64 w) {r:Nat} (c:r<64):A2b w (r:Int)=w.toNat.testBit r:=by
 have h0:=a.1;have h1:=a.2;have b:w.toNat / 2 ^ r<=w.toNat:=Nat.div_le_self _ _;have e:fE .u64 w (r:Int)=((w.toNat / 2 ^ r:Nat):Int):=by
  unfold fE;have hm:min ((r:Int)).toNat IntKind.u64.bits=r:=by
   show min ((r:Int)).toNat 64=r;omega
  grind
 unfold A2b;rw[Nat.testBit_eq_decide_div_mod_eq,e];generalize w.toNat / 2 ^ r=z at *;rw[IP ⟨by omega,by omega⟩ ⟨by decide,by decide⟩,RG,show (1:Int).toNat=1 from rfl,Nat.and_one_is_mod,ABW,TE,ON];omega
theorem vI {b:List Int} (d:JE b) (i:Nat):WZ b (i:Int)=Bc b i:=by
 have a:Int.tdiv (i:Int) 64=((i / 64:Nat):Int):=by rw[ABd O1];omega
 have c:Int.tmod (i:Int) 64=((i % 64:Nat):Int):=by rw[ABz O1];omega
 unfold WZ Bc;rw[a,c,RG];by_cases hk:i / 64<b.length
 .rw[At (by rw[TB,ON,ON];omega),A3o (BF d _) O1]
 rw[BY (by rw[TB,ON,ON];omega),HD hk];simp
theorem kH (c:List Int):(IK c).Nodup:=by
 unfold IK OO List.Nodup;rw[bY];refine List.Pairwise.imp (λh e=>h ?_) (List.Pairwise.filter _ List.nodup_range);exact ACo e
theorem Zz {c:List Int} (a:JE c) {x:Int}:x∈IK c↔∃i:Nat,x=(i:Int)/\Bc c i=true:=by
 unfold IK OO;rw[Do];constructor
 .grind [vI]
 rintro⟨i,rfl,hb⟩;refine⟨i,AAn.2 ⟨Ra.2 ?_,by rw[vI a];exact hb⟩,rfl⟩;refine IS λb=>?_;unfold Bc at hb;rw[HD O1]at hb;simp at hb
theorem A8I {a b:List Int} (ha:JE a) (hb:JE b) (h:∀i,Bc a i=true->Bc b i=true) (c:cnt b<=cnt a) (i:Nat) (hi:Bc b i=true):Bc a i=true:=by
 refine IS λhn=>?_;have hx:(i:Int)∉IK a:=λhm=>by grind [Zz]
 have:=Sc (l:=(i:Int) :: IK a) (l':=IK b) (iS.2 ⟨hx,kH a⟩) λx hx=>by grind [Zz]
 grind
theorem Xf (x:AW) (out:List AW):∀n,(Fq x out n=0->n=0\/GG x (out.getD 0 c0)=true)/\∀k,Fq x out n=k+1->GG x (out.getD k c0)=false
 | 0=>⟨λ_=>.inl rfl,λk h=>by simp[Fq]at h⟩
 | n+1=>by
  obtain⟨h1,a⟩:=Xf x out n;grind [Fq]
theorem kI {a b:AW} (h:GG a b=true):cnt b.2<=cnt a.2:=by
 unfold GG at h;grind
theorem dR {a b:AW} (h:GG a b=false):cnt a.2<=cnt b.2:=by
 unfold GG at h;grind
def HM (out:List AW):Prop:=∀y∈out,cnt y.2<=cnt (out.getD 0 c0).2
theorem A6f {out:List AW} (h:HM out) (x:AW):HM (cR out x):=by
 obtain⟨s1,s2⟩:=Xf x out out.length;have a:=iY x out out.length;intro y hy;rw[i7]at hy;unfold cR;cases hk:Fq x out out.length with
 | zero =>
  rw[AAG,iN,ABm];have e:([x]++out).getD 0 c0=x:=rfl;rw[e];rcases hy with rfl|hy
  .exact IN _
  have h1:=h y hy;rcases s1 hk with e|e
  .grind
  exact RF h1 (kI e)
 | succ k =>
  have hb:=dR (s2 k hk);rw[hk]at a;have e:(out.take (k+1)++[x]++out.drop (k+1)).getD 0 c0=out.getD 0 c0:=by grind
  rw[e];rcases hy with rfl|hy
  .exact RF hb (h _ (DG O1))
  exact h y hy
theorem kJ {d:List AK}:∀ {l:List (List Int)} {o:List AW},HM o->HM (l.foldl (SH d) o)
 | [],_,h=>h
 | b :: l,o,h=>by
  rw[RJ];exact kJ (A6f h _)
def In (n:Nat) (c:List Int):Prop:=JE c/\∀i,Bc c i=true->i<n
theorem A8J (n:Nat):In n []:=⟨λx hx=>(by cases hx),λi hi=>by unfold Bc at hi;simp at hi⟩
theorem A8K {n:Nat} {a b:List Int} (ha:In n a) (hb:In n b):In n (GE a b) :=
 ⟨cW ha.1 hb.1,λi hi=>by
  rw[U9 ha.1 hb.1,An]at hi;exact ha.2 i hi.1⟩
theorem A6g {n:Nat} {l:List (List Int)} (h:∀c∈l,In n c) (k:Nat):In n (l.getD k []):=by grind [DG,Ze,A8J]
theorem A6h {n:Nat} {l:List (List Int)} (h:∀c∈l,In n c) (i k:Nat):∀c∈HR l i k,In n c:=by grind [HR,GE,A8K,A6g]
theorem vJ {q i:Nat}:∀ {n k:Nat} {l:List (List Int)},(∀c∈l,In q c)->∀c∈HS i n k l,In q c
 | 0,_,_,h=>h
 | n+1,k,l,h=>by
  unfold HS;split
  .exact vJ (A6h h i k)
  exact h
theorem vL {q:Nat}:∀ {n i:Nat} {l:List (List Int)},(∀c∈l,In q c)->∀c∈Jk n i l,In q c
 | 0,_,_,h=>h
 | n+1,i,l,h=>by
  unfold Jk;split
  .exact vL (vJ h)
  exact h
def GT (h:AG):Prop:=∀t,0<=t->t<(h.1.length:Int)->Ar h 0 t=true
theorem kK (d:List AK):GT (A3 d).1:=by
 have hk:=Mg d;unfold A3 at hk ⊢;split
 .intro t h0 h1;simp at h1;omega
 rename_i g;rw[At g]at hk;have g:(Ba d).2=0:=IS g;have z:BZ d=0:=by grind [Ba]
 obtain⟨J,-,-⟩:=Cp z;obtain⟨j,M,-⟩:=Bt J;obtain⟨-,w,-,hn,hl⟩:=BE j;have F:=FZ d d.length;rw[RK]at F;have k:(AZ d).length<=4096:=by omega
 obtain⟨r,H,L⟩:=qU j;have a:∀c∈A7 (Aj d),In (AZ d).length c:=vL λc f=>by
  obtain⟨s,hs,rfl⟩:=Do.1 f;exact⟨(El (d:=d) k s 0).2.1,λi hi=>((El (d:=d) k s i).1.1 hi).1⟩
 obtain⟨s,hs,K⟩:=Re.1 (Wo H);have I:s=r.1:=by grind [Gt,iT]
 subst I;have m:Hf d (AZ d) r.1∈A7 (Aj d):=by
  have G:Aj d <+: A7 (Aj d):=Wy 257 0 (Aj d);exact G.subset (Do.2 ⟨_,hs,rfl⟩)
 have l:∀i,i<(AZ d).length->Bc (Hf d (AZ d) r.1) i=true:=λi hi=>by grind [El,Gt,DG]
 have A:HM (A5 d):=kJ λy hy=>by cases hy
 have p:=Dw.2 ⟨_,m,rfl⟩;have q:0<(A5 d).length:=List.length_pos_of_mem p;have o:=A _ p;obtain⟨b,hb,h⟩:=Dw.1 (DG (d:=c0) q);rw[h]at o;have D:=A8I (a b hb).1 (a _ m).1 (λi hi=>l i ((a b hb).2 i hi)) o;have C:BL (HE d) 0=b:=by
  show ((FM (A5 d) _ _).getD 0 SL).2.1=b;have:(FM (A5 d) (Ba d).1 (A5 d).length).getD 0 SL=(((A5 d).getD 0 c0).1,((A5 d).getD 0 c0).2,jA (A5 d) ((0:Nat):Int),(Ba d).1.getD 0 []):=by
   unfold FM;rw[AS,Rb,AAC q];rfl
  rw[this,h]
 have N:(HE d).1.length=(A5 d).length:=Ng _ _ _;intro t u v;refine(Bi hk O1 (by show (0:Int)<((HE d).1.length:Int);omega) u v).2 λi hi=>?_;show Bc (BL (HE d) 0) i=true;rw[C];refine D i (l i ?_);have B:=Bv u v;have E:BL (HE d) t∈A7 (Aj d):=by
  have e:((HE d).1.map λt=>t.2.1)=(A5 d).map λx=>x.2:=by
   show ((FM _ _ _).map λt=>t.2.1)=_;unfold FM;rw[AAb];apply oS
   .simp
   intro i h1 w;simp[AS,show i<(A5 d).length by simpa using h1]
  have n:BL (HE d) t∈(HE d).1.map λt=>t.2.1:=B;rw[e]at n;obtain⟨x,hx,ex⟩:=Do.1 n;obtain⟨c,f,rfl⟩:=Dw.1 hx;rw[<-ex];exact f
 exact(a _ E).2 i hi
def EV (p:List Int) (n:Nat):List AC:=(List.range n).map λ(i:Nat)=>((0:Int),[(p.getD i 0,(i:Int)+1)])
def Ay (p:List Int) (g:List AC):List AC:=EV p p.length++g.map λx=>(x.1,AX p.length x.2)
abbrev Ck (p:List Int):List AC:=Ay p [((0:Int),[])]
theorem UH (p:List Int) (n:Nat):EV p (n+1)=EV p n++[((0:Int),[(p.getD n 0,(n:Int)+1)])]:=by simp[EV,S9]
theorem DT (p:List Int) (n:Nat):(EV p n).length=n:=by simp[EV]
theorem B0 (p:List Int):(Ck p).length=p.length+1:=by simp[Ay,EV]
theorem Mw (p:List Int) {i:Int} (a:0<=i) (b:i<(p.length:Int)):(Ck p).getD i.toNat (0,[])=(0,[(p.getD i.toNat 0,i+1)]):=by
 unfold Ck Ay;rw[AS,RU (by rw[DT];omega)];grind [EV]
theorem qV (p:List Int):(Ck p).getD p.length (0,[])=(0,[]):=by
 unfold Ck Ay;rw[AS,RS (by rw[DT];omega),DT,AAD];rfl
theorem PW (p:List Int) {i:Int} (a:0<=i) (b:i<((Ck p).length:Int)):(i<(p.length:Int)/\(Ck p).getD i.toNat (0,[])=(0,[(p.getD i.toNat 0,i+1)]))\/(i=(p.length:Int)/\(Ck p).getD i.toNat (0,[])=(0,[])):=by grind [B0,Mw,qV]
theorem Nj (p:List Int) {x:AC} (hx:x∈Ck p):x=(0,[])\/∃i,i<p.length/\x=(0,[(p.getD i 0,(i:Int)+1)]):=by
 obtain⟨i,hi,rfl⟩:=Br (0,[]) hx;rcases PW p (i:=(i:Int)) O1 O1 with ⟨h1,a⟩|⟨h1,a⟩
 .grind
 grind
def OY (h:AG) (p:List Int):Prop:=∀e∈p,0<=e/\e<(h.2.length:Int)
theorem HJ (b:OY h p):∀x∈Ck p,∀a∈x.2,0<=a.1/\a.1<(h.2.length:Int):=by
 intro x hx a ha;rcases Nj p hx with rfl|⟨i,hi,rfl⟩
 .cases ha
 have:a=(p.getD i 0,(i:Int)+1):=by simpa using ha
 rw[this];exact b _ (DG hi)
theorem D1 (a:p.length<=1000):AN (Ck p):=by
 have hl:=B0 p;refine⟨by omega,λx hx=>?_⟩;grind [Nj]
theorem H1 (p:List Int):∀x∈Ck p,Ix x.2:=by
 intro x hx;rcases Nj p hx with rfl|⟨i,hi,rfl⟩
 .exact .nil
 exact ABb _ _
theorem KE (h0:0<h.1.length) (p:List Int):CA h (Ck p):=by
 intro x hx;grind [Nj]
theorem kL (p:List Int):RO (Ck p):=by
 intro i b a;rw[B0]at a;refine⟨i-1,by omega,by omega,(p.getD (i-1).toNat 0,i-1+1),?_,by simp only;omega⟩;rw[AL,Mw p O1 O1];exact RH.2 rfl
theorem dS (h:Ix l) {e:Int} (b:0<=Av l e):Rg l e=Av l e:=by
 obtain⟨a,ha,c,d⟩:=DI b;grind [uZ,CM]
theorem Xg (hf:AN f) (h0:0<f.length) (p:List Int):∀n,AR f 0 p=some n->0<=n/\n<(f.length:Int):=by
 induction p using EJ with
 | h0 =>
  intro n h;simp only[AR,AAJ]at h;omega
 | h1 p e d =>
  intro n h;obtain⟨x,hx,a,ha,c,b⟩:=SZ h;rw[<-b];exact Am hf ha
theorem Xh (h:AR f 0 p=some n) (k:Nat):∃m,AR f 0 (p.take k)=some m:=by
 cases hh:AR f 0 (p.take k) with
 | none =>
  have:=SY (p.take k) 0 (p.drop k) hh;rw[ABl,h]at this;cases this
 | some m=>exact⟨m,rfl⟩
theorem Xi (ht:GT h) {X:List AC} (s:AN X) (y:0<X.length) (w:CA h X) (v:∀x∈X,Ix x.2) (l:AR X 0 p=some n):∃m,Gx h (Ck p) X m/\m (p.length:Int)=n:=by
 have g:∀k,AR X 0 (p.take k)=some ((AR X 0 (p.take k)).getD 0):=λk=>by
  obtain⟨m,hm⟩:=Xh l k;rw[hm];rfl
 have j:=λk=>Xg s y (p.take k) _ (g k);refine⟨λi=>(AR X 0 (p.take i.toNat)).getD 0,⟨rfl,λi d f=>j i.toNat,λi d f=>?_,λi d f a ha=>?_⟩,?_⟩
 .have e:((Ck p).getD i.toNat (0,[])).1=0:=by
   rcases PW p d f with ⟨-,c⟩|⟨-,c⟩<;>rw[c]
  rw[e];have z:=j i.toNat;have:=w _ (AE X (0,[]) (k:=((AR X 0 (p.take i.toNat)).getD 0).toNat) O1);exact ht _ this.1 this.2
 .rcases PW p d f with ⟨h1,c⟩|⟨-,c⟩
  .rw[AL,c]at ha;have e:a=(p.getD i.toNat 0,i+1):=by simpa using ha
   subst e;have hs:=Af p 0 (k:=i.toNat) O1;have o:=g (i.toNat+1);rw[hs]at o;obtain⟨x,hx,b,hb,q,r⟩:=SZ o;have t:=g i.toNat;rw[hx]at t;have u:x=(AR X 0 (p.take i.toNat)).getD 0:=by rw[hx];rfl
   show Av (AL X ((AR X 0 (p.take i.toNat)).getD 0)) (p.getD i.toNat 0)=(AR X 0 (p.take (i+1).toNat)).getD 0;rw[<-u,show (i+1).toNat=i.toNat+1 by omega,hs,<-r,<-q];exact CM (Ci v x) hb
  grind
 show (AR X 0 (p.take ((p.length:Nat):Int).toNat)).getD 0=n;rw[RG,RK,l];rfl
theorem kM {X:List AC} (d:AN X) (e:0<X.length) (c:∀x∈X,Ix x.2) (hm:Gx h (Ck p) X m):AR X 0 p=some (m (p.length:Int)):=by
 have key:∀k,k<=p.length->AR X 0 (p.take k)=some (m (k:Int)):=by
  intro k;induction k with
  | zero =>
   intro _;rw[AAG];show some (0:Int)=some (m 0);rw[hm.zero]
  | succ k b =>
   intro hk;have hi:=b O1;have hn:=Mw p (i:=(k:Int)) O1 O1;have hl:=B0 p;have ha:=hm.arc (k:Int) O1 O1 (p.getD k 0,(k:Int)+1) (by
    rw[AL,hn,RG];exact RH.2 rfl)
   have a:=hm.rng ((k:Int)+1) O1 O1;rw[Af p 0 O1,Ib X _ 0 _ _ hi];simp only at ha;rw[dS (Ci c _) (by rw[ha];exact a.1),ha,At O1];rfl
 have:=key p.length (IN _)
 rwa [RK]at this
structure PX (h:AG) (f:List AC) (p q:List Int) (U:List AC):Prop where
 vf:VF h U
 left:∃m,Gx h f U m
 eq:∃n,AR U 0 p=some n/\AR U 0 q=some n
 least:∀X,VF h X->∀m1,Gx h f X m1->∀n,AR X 0 p=some n->AR X 0 q=some n->∃m,Gx h U X m
 len:U.length<=f.length+p.length+q.length+2
theorem vM (hu:HU h) {U V:List AC} (h1:PX h f p q U) (a:PX h f p q V):U=V:=by
 obtain⟨i,d⟩:=a.left;obtain⟨n1,b,b1⟩:=a.eq;obtain⟨j,e⟩:=h1.left;obtain⟨k,c,b2⟩:=h1.eq;obtain⟨m,hm⟩:=h1.least V a.vf i d n1 b b1;obtain⟨l,g⟩:=a.least U h1.vf j e k c b2;exact A3m hu h1.vf a.vf hm g
open Classical in
noncomputable def Lm (h:AG) (f:List AC) (p q:List Int):List AC×Bool:=if H:∃U,PX h f p q U then (H.choose,true) else ([],false)
theorem H2 (hu:HU h) {U:List AC} (h1:PX h f p q U):Lm h f p q=(U,true):=by
 unfold Lm;have H:∃U,PX h f p q U:=⟨U,h1⟩;grind [vM]
theorem Si (h1:∀X,VF h X->∀d,Gx h f X d->∀n,AR X 0 p=some n->AR X 0 q≠some n):Lm h f p q=([],false):=by
 unfold Lm;rw[dif_neg];rintro⟨U,c⟩;obtain⟨d,e⟩:=c.left;obtain⟨n,a,b⟩:=c.eq;exact h1 U c.vf d e n a b
theorem Nk (h1:(Lm h f p q).2=true):PX h f p q (Lm h f p q).1:=by
 unfold Lm at h1 ⊢;split at h1
 .grind
 cases h1
abbrev vO (f:List AC) (p q:List Int):List AC:=AU (AU f (Ck p)) (Ck q)
abbrev eqP (f:List AC) (p q:List Int):List (Int×Int):=[(0,(f.length:Int)),((f.length:Int),((f.length+(p.length+1):Nat):Int)),(((f.length+p.length:Nat):Int),((f.length+(p.length+1)+q.length:Nat):Int))]
theorem VI (f:List AC) (p q:List Int):(vO f p q).length=f.length+(p.length+1)+(q.length+1):=by grind [Bg,B0]
theorem VJ (ht:GT h) (hf:VF h f) (e:p.length<=1000) (m:q.length<=1000) (hl:f.length<=10000) {X:List AC} (c:VF h X) {i:Int->Int} (h1:Gx h f X i) (k:AR X 0 p=some n) (l:AR X 0 q=some n):∃v,Iu h (vO f p q) (eqP f p q) X v/\v 0=0:=by
 obtain⟨a,ha,o⟩:=Xi ht c.good c.pos c.ty c.str k;obtain⟨b,hb,s⟩:=Xi ht c.good c.pos c.ty c.str l;have t:=hf.pos;have d:=Bg f (Ck p);rw[B0]at d;have j:=Cz hf.good (D1 e) (by rw[B0];omega);refine⟨_,Xa (Ms j (D1 m) (Ms hf.good (D1 e) (DJ h1) (DJ ha)) (DJ hb)) λr g=>?_,?_⟩
 .simp only[DO,To,ABx]at g;rcases g with rfl|rfl|rfl
  .simp only;rw[d,BY O1,BY O1,BY O1,At O1,ACg,h1.zero,ha.zero]
  .simp only;rw[d,BY O1,At O1,At O1,ACg,ha.zero,show ((f.length+(p.length+1):Nat):Int)-((f.length+(p.length+1):Nat):Int)=0 by omega,hb.zero]
  grind
 show (if (0:Int)<((AU f (Ck p)).length:Int) then (if (0:Int)<(f.length:Int) then i 0 else a (0-(f.length:Int))) else b (0-((AU f (Ck p)).length:Int)))=0;rw[d,BY O1,BY O1];exact h1.zero
theorem qW (ht:GT h) (hf:VF h f) (u:OY h p) (z:OY h q) (E:p.length<=1000) (F:q.length<=1000) (hl:f.length<=10000) {P ty:List Int} {ar:List (List (Int×Int))} (d:JI h (vO f p q) (eqP f p q) P ty ar []) (j:AN (quo P ty ar)):PX h f p q (AH (quo P ty ar) (Dk P 0)):=by
 have O:=hf.pos;have r:=Bg f (Ck p);rw[B0]at r;have S:=VI f p q;have i:0<(vO f p q).length:=by omega
 have h0:=LC d j i;have c1:dL (vO f p q) 0 f:=KD (KD Sf);have c2:dL (vO f p q) f.length (Ck p):=KD LD;have l:dL (vO f p q) (f.length+(p.length+1)) (Ck q):=by
  have:=LD (f:=AU f (Ck p)) (g:=Ck q);rw[r]at this;exact this
 have I:=Ie d j i c1 hf.ro h0;have m:Dk P (f.length:Int)∈Mq P ty ar:=XY d (x:=0) sc h0;have J:=Ie d j i c2 (kL p) m;have t:Dk P ((f.length+(p.length+1):Nat):Int)∈Mq P ty ar:=XY d (x:=(f.length:Int)) sc m;have K:=Ie d j i l (kL q) t;have c:=qP d j i λx L U=>by
  by_cases hx:x<(f.length:Int)
  .have:=I x.toNat x (IN _) L hx
   rwa [show ((0:Nat):Int)+x=x by omega]at this
  by_cases R:x<((f.length+(p.length+1):Nat):Int)
  .have:=J _ (x-(f.length:Int)) (IN _) O1 (by rw[B0];omega)
   rwa [show (f.length:Int)+(x-(f.length:Int))=x by omega]at this
  have:=K _ (x-((f.length+(p.length+1):Nat):Int)) (IN _) O1 (by rw[B0];omega)
  rwa [show ((f.length+(p.length+1):Nat):Int)+(x-((f.length+(p.length+1):Nat):Int))=x by omega]at this
 generalize Q:(λx=>A9 (Mq P ty ar) (Dk P x))=v at c;have A:∀x∈vO f p q,∀a∈x.2,0<=a.1/\a.1<(h.2.length:Int):=by
  have key:∀ {g k:List AC},(∀x∈g,∀a∈x.2,0<=a.1/\a.1<(h.2.length:Int))->(∀x∈k,∀a∈x.2,0<=a.1/\a.1<(h.2.length:Int))->∀x∈AU g k,∀a∈x.2,0<=a.1/\a.1<(h.2.length:Int):=by
   intro g k B hk x hx;unfold AU at hx;rcases Fg.1 hx with hx|hx
   .exact B x hx
   obtain⟨y,hy,rfl⟩:=Do.1 hx;intro a ha;obtain⟨b,hb,rfl⟩:=Do.1 ha;exact hk y hy b hb
  exact key (key hf.ft (HJ u)) (HJ z)
 have e:=qR d j i A c;have s:v (f.length:Int)=0:=by rw[<-c.proj.eq (0,(f.length:Int)) sc];exact c.zero
 have M:v ((f.length+(p.length+1):Nat):Int)=0:=by rw[<-c.proj.eq ((f.length:Int),((f.length+(p.length+1):Nat):Int)) sc];exact s
 have N:v ((f.length+p.length:Nat):Int)=v ((f.length+(p.length+1)+q.length:Nat):Int):=c.proj.eq (((f.length+p.length:Nat):Int),((f.length+(p.length+1)+q.length:Nat):Int)) sc;refine⟨e,⟨_,Mr c.proj c1 c.zero⟩,⟨v ((f.length+p.length:Nat):Int),?_,?_⟩,λX o T h1 n C D=>?_,by have:=c.len;omega⟩
 .have:=kM e.good e.pos e.str (Mr c.proj c2 s);rw[this]
  congr 2
 .have:=kM e.good e.pos e.str (Mr c.proj l M);rw[this,N]
  congr 2
 obtain⟨w,G,H⟩:=VJ ht hf E F hl o h1 C D;exact c.least X w o.ty G H
theorem CN (p:List Int) (g:List AC):(Ay p g).length=p.length+g.length:=by simp[Ay,EV]
theorem JJ {g:List AC} {i:Int} (a:0<=i) (b:i<(p.length:Int)):(Ay p g).getD i.toNat (0,[])=(0,[(p.getD i.toNat 0,i+1)]):=by grind [Ay,DT,EV]
theorem E3 {g:List AC} {y:Int} (a:0<=y) (b:y<(g.length:Int)):(Ay p g).getD ((p.length:Int)+y).toNat (0,[])=((g.getD y.toNat (0,[])).1,AX p.length (g.getD y.toNat (0,[])).2):=by
 unfold Ay;have e:((p.length:Int)+y).toNat=p.length+y.toNat:=by omega
 rw[e,AS,RS (by rw[DT];omega),DT,AC7];rw[<-AS];exact Sd (λx:AC=>(x.1,AX p.length x.2)) (0,[]) (0,[]) O1
theorem LF {g:List AC} {x:AC} (hx:x∈Ay p g):(∃i,i<p.length/\x=(0,[(p.getD i 0,(i:Int)+1)]))\/∃y∈g,x=(y.1,AX p.length y.2):=by
 rcases Fg.1 hx with h|h
 .obtain⟨i,hi,rfl⟩:=Do.1 h;exact .inl ⟨i,by simpa using hi,rfl⟩
 obtain⟨y,hy,rfl⟩:=Do.1 h;exact .inr ⟨y,hy,rfl⟩
theorem Es {b:Nat} (h:Ix l):Ix (AX b l):=by
 unfold AX Ix;rw[bY];exact h
theorem UI {g:List AC} (f:p.length<=1000) (c:AN g) (e:0<g.length) (hl:g.length<=10000):AN (Ay p g):=by
 have d:=CN p g;refine⟨by omega,λx hx=>?_⟩;rcases LF hx with ⟨i,hi,rfl⟩|⟨y,hy,rfl⟩
 .refine⟨by simp,λa ha=>?_⟩;have:a=(p.getD i 0,(i:Int)+1):=by simpa using ha
  subst this;rw[d];simp only;omega
 refine⟨by unfold AX;rw[No];exact(c.2 y hy).1,λa ha=>?_⟩;obtain⟨b,hb,rfl⟩:=Do.1 ha;have:=(c.2 y hy).2 b hb;rw[d];simp only;omega
theorem Sj (vf:VF h f):Bd f f.length [] 0=(List.range f.length).map λ(i:Nat)=>(i:Int):=by
 have m:=vf.pos;have d:=C6 vf.good (r:=0) O1 O1;have hl:=EC f 0;have c:=λi=>Er (f:=f) (r:=0) (i:=i);rw[vf.can]at hl;simp only[vf.can]at c;generalize l:Bd f f.length [] 0=o at *;have hm:Gx h f f (λi=>o.getD i.toNat 0):=by
  refine⟨d.zero.1,λi e g=>d.ok.rng _ (AE o 0 O1),λi e g=>?_,λi e g a ha=>?_⟩
  .rw[c i.toNat O1];exact Fu h _
  rw[AL,c i.toNat O1]at ha;obtain⟨b,hb,rfl⟩:=Do.1 ha;have j:=d.cl _ (AE o 0 O1) b hb;show Av (AL f (o.getD i.toNat 0)) b.1=o.getD (A9 o b.2).toNat 0;rw[(BP j).2.2];exact CM (Ci vf.str _) hb
 have hu:=Xc vf.ro hm (dP vf.str);apply oS
 .rw[No,ABt];omega
 intro i h1 k;rw[ABA,ABE];have:=hu i (i:Int) O1 O1 O1;simp only[RG,id]at this;rw[<-this,AS,AT h1];rfl
theorem Z0 (hf:AN f) (h:Bd f f.length [] 0=(List.range f.length).map λ(i:Nat)=>(i:Int)):AH f 0=f:=by
 unfold AH;generalize hl:Bd f f.length [] 0=l at *;have q:l.length=f.length:=by rw[h];simp
 have b:∀k,(hk:k<l.length)->l[k]=(k:Int):=λk hk=>by subst h;simp
 clear h;have o:l.Nodup:=by
  unfold List.Nodup;rw[RZ];intro i j hi n p e;rw[b i hi,b j n]at e;omega
 have m:∀x,0<=x->x<(l.length:Int)->A9 l x=x:=λx r s=>by
  have:=DH o (i:=x.toNat) O1;have e:l.getD x.toNat 0=x:=by
   rw[AS,AT O1];show l[x.toNat]=x;rw[b _ O1];omega
  rw[e]at this;rw[this];omega
 apply oS
 .rw[No];omega
 intro i h1 c;rw[ABA,b i (by simpa using h1)];have d:f.getD (i:Int).toNat (0,[])=f[i]:=by simp[AS,c]
 unfold CF;rw[d];have:∀a∈f[i].2,FO l a=a:=λa ha=>by
  have g:=(hf.2 _ (aT c)).2 a ha;unfold FO;rw[m a.2 g.1 O1]
 rw[RN this,ACz]
theorem VK {Q R:List AC} {ψ:Int->Int} {C:Int->Prop} (h:Iso Q R ψ C) {pre:List Int} (c:∀i,C i->ψ i∉pre):∀(k:Nat) (t:List Int) (i:Int),(∀x∈t,C x)->C i->Bd R k (pre++t.map ψ) (ψ i)=pre++(Bd Q k t i).map ψ/\∀x∈Bd Q k t i,C x
 | 0,t,i,ht,hi=>⟨rfl,ht⟩
 | k+1,t,i,ht,hi=>by
  have key:∀(l:List (Int×Int)) (t:List Int),(∀a∈l,C a.2)->(∀x∈t,C x) ->
    (l.map λa=>(a.1,ψ a.2)).foldl (Aa R k) (pre++t.map ψ)=pre++(l.foldl (Aa Q k) t).map ψ/\∀x∈l.foldl (Aa Q k) t,C x:=by
   intro l;induction l with
   | nil=>intro t _ ht;exact⟨rfl,ht⟩
   | cons a l g =>
    intro t hl ht;have ha:=hl a sc;have hs:Aa R k (pre++t.map ψ) (a.1,ψ a.2)=pre++(Aa Q k t a).map ψ/\∀x∈Aa Q k t a,C x:=by
     unfold Aa;by_cases hm:a.2∈t
     .rw[BY hm,BY (Fg.2 (.inr (Do.2 ⟨_,hm,rfl⟩)))];exact⟨rfl,ht⟩
     have f:¬ψ a.2∈pre++t.map ψ:=by
      intro hh;rcases Fg.1 hh with hh|hh
      .exact c _ ha hh
      obtain⟨x,hx,e⟩:=Do.1 hh;exact hm (h.inj x a.2 (ht x hx) ha e▸hx)
     rw[At hm];simp only[At f];exact VK h c k t a.2 ht ha
    rw[Rd,RJ,RJ,hs.1];exact g _ (λb hb=>hl b (by simp[hb])) hs.2
  rw[Bx,Bx];have e:pre++t.map ψ++[ψ i]=pre++(t++[i]).map ψ:=by simp
  have d:(R.getD (ψ i).toNat (0,[])).2=(AL Q i).map λa=>(a.1,ψ a.2):=h.arc i hi;rw[d,e];refine key _ _ (h.cl i hi) λx hx=>?_;rcases Fg.1 hx with hx|hx
  .exact ht x hx
  have:x=i:=by simpa using hx
  rw[this];exact hi
abbrev N8 (n:Nat):List Int:=(List.range n).map λ(i:Nat)=>(i:Int)
theorem Qq {n:Nat} {x:Int} (h:x∈N8 n):0<=x/\x<(n:Int):=by grind
theorem zX (n:Nat):N8 (n+1)=N8 n++[(n:Int)]:=by unfold N8;rw[S9,RY];rfl
theorem Xj {p:List Int} {g:List AC}:∀(r j:Nat) (k:Nat),j+r=p.length->Bd (Ay p g) (r+k) (N8 j) (j:Int)=Bd (Ay p g) k (N8 p.length) (p.length:Int)
 | 0,j,k,h=>by rw[show j=p.length by omega,AB8]
 | r+1,j,k,h=>by
  rw[show r+1+k=(r+k)+1 by omega,Bx,JJ O1 O1,RG];show Aa (Ay p g) (r+k) (N8 j++[(j:Int)]) (p.getD j 0,(j:Int)+1)=_;rw[<-zX];unfold Aa;rw[At (λhm=>by have:=Qq hm;simp only at this;omega)];have e:((j:Int)+1)=((j+1:Nat):Int):=by omega
  simp only[e];exact Xj r (j+1) k O1
theorem zY {g:List AC} (b:VF h g) (k:p.length<=1000) (hl:g.length<=10000):AH (Ay p g) 0=Ay p g:=by
 have d:=b.pos;refine Z0 (UI k b.good d hl) ?_;rw[CN];have c:=Xj (p:=p) (g:=g) p.length 0 g.length O1;rw[show N8 0=[] from rfl,show ((0:Nat):Int)=0 from rfl]at c;rw[c];have f:Iso g (Ay p g) (λi=>(p.length:Int)+i) (λi=>0<=i/\i<(g.length:Int)):=by
  refine⟨λi hi=>?_,λi hi a ha=>Am b.good ha,λi j hi l e=>by have e:(p.length:Int)+i=(p.length:Int)+j:=e;omega⟩;rw[AL,E3 hi.1 hi.2];show AX p.length (AL g i)=_;unfold AX;refine RN λa _=>?_;show (a.1,a.2+(p.length:Int))=(a.1,(p.length:Int)+a.2);rw[ACh]
 have hd:=(VK f (pre:=N8 p.length) (λi hi hm=>by have:=Qq hm;omega) g.length [] 0 (λx hx=>by cases hx) ⟨by omega,by omega⟩).1;rw[ABN,S6,ABo,Sj b]at hd;rw[hd];rw[ACF,RY,AAb,AAb];refine AAv _ (RN λi _=>?_);show (p.length:Int)+(i:Int)=((p.length+i:Nat):Int);omega
theorem KF (h0:0<h.1.length) {g:List AC} (c:VF h g) (f:OY h p) (d:p.length<=1000) (hl:g.length<=10000):VF h (Ay p g):=by
 have k:=c.pos;have m:=CN p g;refine⟨UI d c.good k hl,by omega,λx hx=>?_,λx hx=>?_,λx hx a ha=>?_,zY c d hl,λi n o=>?_⟩
 .rcases LF hx with ⟨i,hi,rfl⟩|⟨y,hy,rfl⟩
  .exact⟨by simp,by simp only;omega⟩
  exact c.ty y hy
 .rcases LF hx with ⟨i,hi,rfl⟩|⟨y,hy,rfl⟩
  .exact ABb _ _
  exact Es (c.str y hy)
 .rcases LF hx with ⟨i,hi,rfl⟩|⟨y,hy,rfl⟩
  .have:a=(p.getD i 0,(i:Int)+1):=by simpa using ha
   rw[this];exact f _ (DG hi)
  obtain⟨b,hb,rfl⟩:=Do.1 ha;exact c.ft y hy b hb
 by_cases hi:i<=(p.length:Int)
 .refine⟨i-1,by omega,by omega,(p.getD (i-1).toNat 0,i-1+1),?_,by simp only;omega⟩;rw[AL,JJ O1 O1];exact RH.2 rfl
 obtain⟨j,l,q,x,hx,e⟩:=c.ro (i-p.length) O1 O1;refine⟨(p.length:Int)+j,by omega,by omega,(x.1,x.2+(p.length:Int)),?_,by simp only;omega⟩;rw[AL,E3 l O1];exact Do.2 ⟨x,hx,rfl⟩
theorem Z1 (hf:AN f) {r:Int} (e:0<=r) (g:r<(f.length:Int)):AN (AH f r)/\0<(AH f r).length:=by
 have c:=C6 hf e g;have hl:=EC f r;have d:=λi=>Er (f:=f) (r:=r) (i:=i);generalize j:Bd f f.length [] r=o at *;have l:=c.ok.len;have h:=hf.1;have n:=c.zero.2;refine⟨⟨by omega,λx hx=>?_⟩,by omega⟩;obtain⟨i,hi,rfl⟩:=Br (0,[]) hx;rw[d i O1];have hm:o.getD i 0∈o:=AE o 0 O1;have m:=c.ok.rng _ hm;refine⟨?_,λa ha=>?_⟩
 .show (List.map (FO o) _).length<=_;rw[No];exact(hf.2 _ (AE f (0,[]) (k:=(o.getD i 0).toNat) O1)).1
 obtain⟨b,hb,rfl⟩:=Do.1 ha;have:=BP (c.cl _ hm b hb);rw[hl];exact⟨this.1,this.2.1⟩
theorem A6i (hf:AN f) (ht:CA h f) {r:Int} (b:0<=r) (c:r<(f.length:Int)):CA h (AH f r):=by
 have a:=C6 hf b c;intro x hx;obtain⟨n,hn,rfl⟩:=Do.1 hx;have d:=a.ok.rng n hn;exact ht (f.getD n.toNat (0,[])) (AE f (0,[]) (k:=n.toNat) O1)
theorem A3p {g U:List AC} (t:VF h g) (z:VF h U) (hm:Gx h (Ay p g) U m):AR U 0 p=some (m (p.length:Int))/\(0<=m (p.length:Int)/\m (p.length:Int)<(U.length:Int))/\jZ h g (AH U (m (p.length:Int)))=true:=by
 have G:=t.pos;have M:=CN p g;have y:=hm.rng (p.length:Int) O1 O1;have key:∀k,k<=p.length->AR U 0 (p.take k)=some (m (k:Int)):=by
  intro k;induction k with
  | zero =>
   intro _;rw[AAG];show some (0:Int)=some (m 0);rw[hm.zero]
  | succ k v =>
   intro hk;have hi:=v O1;have hn:=JJ (p:=p) (g:=g) (i:=(k:Int)) O1 O1;have ha:=hm.arc (k:Int) O1 O1 (p.getD k 0,(k:Int)+1) (by
    rw[AL,hn,RG];exact RH.2 rfl)
   have s:=hm.rng ((k:Int)+1) O1 O1;rw[Af p 0 O1,Ib U _ 0 _ _ hi];simp only at ha;rw[dS (Ci z.str _) (by rw[ha];exact s.1),ha,At O1];rfl
 have B:=key p.length (IN _);rw[RK]at B;refine⟨B,y,?_⟩;have q:=C6 z.good y.1 y.2;have F:=EC U (m (p.length:Int));have E:=λi=>Er (f:=U) (r:=m (p.length:Int)) (i:=i);have H:=A63 (h:=h) (a:=g) (b:=AH U (m (p.length:Int))) t.good G t.ro (m:=λi=>A9 (Bd U U.length [] (m (p.length:Int))) (m ((p.length:Int)+i)));generalize L:Bd U U.length [] (m (p.length:Int))=o at *;have u:∀(n:Nat) (i:Int),i.toNat<=n->0<=i->i<(g.length:Int)->m ((p.length:Int)+i)∈o:=by
  intro n;induction n with
  | zero =>
   intro i u d c;rw[show i=0 by omega,ABo,<-q.zero.1];exact AE o 0 q.zero.2
  | succ n v =>
   intro i u d c;by_cases K:i=0
   .exact v i O1 d c
   obtain⟨j,C,O,x,hx,e⟩:=t.ro i O1 c;have I:=v j O1 C O1;have ha:=hm.arc ((p.length:Int)+j) O1 O1 (x.1,x.2+(p.length:Int)) (by
    rw[AL,E3 C O1];exact Do.2 ⟨x,hx,rfl⟩)
   simp only at ha;have s:=hm.rng ((p.length:Int)+i) O1 O1;rw[show x.2+(p.length:Int)=(p.length:Int)+i by omega]at ha;obtain⟨b,hb,-,w⟩:=DI (l:=AL U (m ((p.length:Int)+j))) (e:=x.1) (by rw[ha];exact s.1);rw[<-ha,<-w];exact q.cl _ I b hb
 have A:∀i:Int,0<=i->i<(g.length:Int)->(AH U (m (p.length:Int))).getD (A9 o (m ((p.length:Int)+i))).toNat (0,[])=CF U o (m ((p.length:Int)+i)):=λi d c=>by
  have hx:=BP (u i.toNat i (IN _) d c);rw[E _ O1,hx.2.2]
 refine H ⟨?_,λi d c=>?_,λi d c=>?_,λi d c x hx=>?_⟩
 .show A9 o (m ((p.length:Int)+0))=0;rw[ABo];have:=DH q.ok.nd (i:=0) q.zero.2;rw[q.zero.1]at this;exact this
 .have hx:=BP (u i.toNat i (IN _) d c);rw[F];exact⟨hx.1,hx.2.1⟩
 .rw[A i d c];have:=hm.ty ((p.length:Int)+i) O1 O1;rw[E3 d c]at this;exact this
 have N:=Am t.good hx;have ha:=hm.arc ((p.length:Int)+i) O1 O1 (x.1,x.2+(p.length:Int)) (by
  rw[AL,E3 d c];exact Do.2 ⟨x,hx,rfl⟩)
 simp only at ha;have s:=hm.rng (x.2+(p.length:Int)) O1 O1;obtain⟨b,hb,D,w⟩:=DI (l:=AL U (m ((p.length:Int)+i))) (e:=x.1) (by rw[ha];exact s.1);rw[AL,A i d c];have J:Ix (CF U o (m ((p.length:Int)+i))).2:=by
  show List.Pairwise _ (List.map (FO o) _);rw[bY];exact Ci z.str _
 have:=CM J (a:=FO o b) (Do.2 ⟨b,hb,rfl⟩);show Av (CF U o (m ((p.length:Int)+i))).2 x.1=A9 o (m ((p.length:Int)+x.2));rw[<-D];rw[show (p.length:Int)+x.2=x.2+(p.length:Int) by omega,<-ha,<-w];exact this
def fB (s:ByteArray):Nat->List FL->Int
 | _,[]=>-1
 | k,x :: l=>if Ae x.1 s=true then (k:Int) else fB s (k+1) l
def KG (h:AG) (s:ByteArray):Int:=fB s 0 h.1
def vQ (s:ByteArray):Nat->List W4->Int
 | _,[]=>-1
 | k,x :: l=>if Ae x.1 s=true then (k:Int) else vQ s (k+1) l
def VL (h:AG) (s:ByteArray):Int:=vQ s 0 h.2
theorem vS (s:ByteArray):∀(l:List FL) (k:Nat),fB s k l=-1\/((k:Int)<=fB s k l/\fB s k l<((k+l.length:Nat):Int))
 | [],_=>.inl rfl
 | x :: l,k=>by
  unfold fB;split
  .exact .inr ⟨iF _,by simp only[NO];omega⟩
  have:=vS s l (k+1);simp only[NO];omega
theorem vU (s:ByteArray):∀(l:List W4) (k:Nat),vQ s k l=-1\/((k:Int)<=vQ s k l/\vQ s k l<((k+l.length:Nat):Int))
 | [],_=>.inl rfl
 | x :: l,k=>by
  unfold vQ;split
  .exact .inr ⟨iF _,by simp only[NO];omega⟩
  have:=vU s l (k+1);simp only[NO];omega
theorem ED (h:AG) (s:ByteArray):-1<=KG h s/\KG h s<(h.1.length:Int):=by
 have:=vS s h.1 0;unfold KG;omega
theorem GU (h:AG) (s:ByteArray):-1<=VL h s/\VL h s<(h.2.length:Int):=by
 have:=vU s h.2 0;unfold VL;omega
structure LW where
 list:Int
 cons:Int
 null:Int
 dlist:Int
 first:Int
 rest:Int
 head:Int
 last:Int
def sb (l:List UInt8):ByteArray:=⟨l.toArray⟩
def AO (h:AG):LW:=⟨KG h (sb [108,105,115,116]),KG h (sb [99,111,110,115]),KG h (sb [110,117,108,108]),KG h (sb [100,108,105,115,116]),VL h (sb [70,73,82,83,84]),VL h (sb [82,69,83,84]),VL h (sb [76,73,83,84]),VL h (sb [76,65,83,84])⟩
def Et (h:AG):Bool:=decide (0<=(AO h).list/\0<=(AO h).cons/\0<=(AO h).null/\0<=(AO h).dlist/\0<=(AO h).first/\0<=(AO h).rest/\0<=(AO h).head/\0<=(AO h).last)&&Ar h (AO h).list (AO h).cons&&Ar h (AO h).list (AO h).null
def OZ (w:LW) (row:List (Int×Int)):Bool:=decide (Av row w.first<0)&&decide (Av row w.rest<0)
def Qr (w:LW) (row:List (Int×Int)):Bool:=decide (0<=Av row w.first)&&decide (0<=Av row w.rest)
def Uj (h:AG) (w:LW) (x:AC):Bool:=Ar h w.null x.1&&OZ w x.2
def Ig (h:AG) (w:LW) (x:AC):Bool:=Ar h w.cons x.1&&Qr w x.2
def KH (h:AG) (w:LW) (x:AC):Bool:=Ar h x.1 w.cons&&OZ w x.2
def BT (h:AG) (w:LW) (x:AC):Int:=if Uj h w x=true then 1 else if Ig h w x=true then 2 else if KH h w x=true then 3 else 0
def Z2 (h:AG) (w:LW) (f:List AC):Nat->List Int->List Int->Int->List Int×Bool×Int
 | 0,_,_,_=>([],false,6)
 | k+1,a,out,n=>if n∈a then ([],false,6) else
  if BT h w (f.getD n.toNat (0,[]))=1 then (out,true,0) else if BT h w (f.getD n.toNat (0,[]))=3 then (out,false,0) else if BT h w (f.getD n.toNat (0,[]))=0 then ([],false,13)
  else Z2 h w f k (a++[n]) (out++[Av (f.getD n.toNat (0,[])).2 w.first]) (Av (f.getD n.toNat (0,[])).2 w.rest)
def D2 (h:AG) (f:List AC) (n:Int):List Int×Bool×Int:=if Et h=true then Z2 h (AO h) f (f.length+1) [] [] n else ([],false,5)
theorem Nl {w:LW} {x:AC} (e:BT h w x=2):0<=Av x.2 w.first/\0<=Av x.2 w.rest:=by
 unfold BT at e;split at e
 .cases e
 split at e
 .rename_i a;unfold Ig Qr at a;simp only[An,ON]at a;exact a.2
 split at e<;>cases e
theorem Ge (e:Et h=true):(0<=(AO h).first/\0<=(AO h).rest)/\0<=(AO h).cons/\0<=(AO h).null/\0<=(AO h).list/\0<=(AO h).dlist/\0<=(AO h).head/\0<=(AO h).last:=by
 unfold Et at e;rw[An,An,ON]at e;obtain⟨⟨⟨h1,a,b,c,d,f,g,i⟩,-⟩,-⟩:=e;exact⟨⟨d,f⟩,a,b,h1,c,g,i⟩
section
theorem kN (s:ByteArray) (l:List FL) {k:Nat} (h:k<l.length):fB s k (l.drop k)=if Ae (l.getD k SL).1 s=true then (k:Int) else fB s (k+1) (l.drop (k+1)):=by
 rw[Is h];have e:l.getD k SL=l[k]:=by simp[AS,h]
 rw[e];rfl
theorem kO (s:ByteArray) (l:List W4) {k:Nat} (h:k<l.length):vQ s k (l.drop k)=if Ae (l.getD k (ByteArray.empty,0)).1 s=true then (k:Int) else vQ s (k+1) (l.drop (k+1)):=by
 rw[Is h];have e:l.getD k (ByteArray.empty,0)=l[k]:=by simp[AS,h]
 rw[e];rfl
def UJ:Ab:={ ins:=[Ec,T9],pre:=λ_=>True,out:=λ(h,s,_)=>[.p T3 (KG h s)],lend:=true }
attribute [local go_sem] UJ
theorem Qs:Ac Tryz.prog 28 UJ:=by
 refine fK [0,1,2,4,5,10,20] Tryz.func28 Tryz.ntmps28 AI ?_;rintro w0 O0 ⟨⟨ht,hf⟩,s,u⟩ d ⟨⟨⟨hl,-⟩,-⟩,-⟩ -;simp only[AQ]at hl;simp only[UJ,AM];repeat'(first|exact trivial|apply eS rfl|apply AB|refine rX d ?_ ?_|refine rC ?_ ?_<;>intro a<;>try(cases a;done))
 refine AJ (ι:={k:Nat//k<=ht.length/\fB s k (ht.drop k)=KG (ht,hf) s}) (λk=>⟨[(1,.p T9 s),(2,.bp 2 [] 0),(5,.p (.int .i64) (k.1:Int))],[(2,.box 29 true [.p mZ ht,.p tZ hf])]⟩) (λk=>ht.length-k.1) ⟨0,OF _,rfl⟩ (eW [(2,.nm 2)]) (λk=>?_)
 obtain⟨k,hk,b⟩:=k;have e:=λh:k<ht.length=>kN s ht h;simp only;repeat'(first|exact trivial|apply eS rfl|apply AB|refine rX d ?_ ?_|refine rC ?_ ?_<;>intro a<;>try(cases a;done))
 .exact a
 .have c:k<ht.length:=by exact eV
  rw[e c,BY a]at b;exact fI d [.tmp 4] (by rw[<-b];exact eR)
 .omega
 .have c:k<ht.length:=by exact eV
  rw[e c,At (by rw[a];simp)]at b;exact⟨⟨k+1,by omega,b⟩,by simp only;omega,eW [(2,.nm 2)]⟩
 have c:ht.drop k=[]:=OR (by exact eV);rw[c]at b;exact fI d [.tmp 4] (by rw[<-b];first|exact eR|refine Tp ?_;rfl)
def N9:Ab:={ ins:=[Ec,T9],pre:=λ_=>True,out:=λ(h,s,_)=>[.p T3 (VL h s)],lend:=true }
attribute [local go_sem] N9
theorem dT:Ac Tryz.prog 34 N9:=by
 refine fK [0,1,2,4,5,10,20] Tryz.func34 Tryz.ntmps34 AI ?_;rintro w0 O0 ⟨⟨ht,hf⟩,s,u⟩ d ⟨⟨-,hl,-⟩,-⟩ -;simp only[AQ]at hl;simp only[N9,AM];repeat'(first|exact trivial|apply eS rfl|apply AB|refine rX d ?_ ?_|refine rC ?_ ?_<;>intro a<;>try(cases a;done))
 refine AJ (ι:={k:Nat//k<=hf.length/\vQ s k (hf.drop k)=VL (ht,hf) s}) (λk=>⟨[(1,.p T9 s),(2,.bp 2 [] 0),(5,.p (.int .i64) (k.1:Int))],[(2,.box 29 true [.p mZ ht,.p tZ hf])]⟩) (λk=>hf.length-k.1) ⟨0,OF _,rfl⟩ (eW [(2,.nm 2)]) (λk=>?_)
 obtain⟨k,hk,b⟩:=k;have e:=λh:k<hf.length=>kO s hf h;simp only;repeat'(first|exact trivial|apply eS rfl|apply AB|refine rX d ?_ ?_|refine rC ?_ ?_<;>intro a<;>try(cases a;done))
 .exact a
 .have c:k<hf.length:=by exact eV
  rw[e c,BY a]at b;exact fI d [.tmp 4] (by rw[<-b];exact eR)
 .omega
 .have c:k<hf.length:=by exact eV
  rw[e c,At (by rw[a];simp)]at b;exact⟨⟨k+1,by omega,b⟩,by simp only;omega,eW [(2,.nm 2)]⟩
 have c:hf.drop k=[]:=OR (by exact eV);rw[c]at b;exact fI d [.tmp 4] (by rw[<-b];first|exact eR|refine Tp ?_;rfl)
def A3q:Ab:=N9
attribute [local go_sem] A3q
theorem A8L:Ac Tryz.prog 52 N9:=by
 refine fK [0,1,2,4,5,6,8,9,10,11,20] Tryz.func52 Tryz.ntmps52 AI ?_;rintro w0 O0 ⟨⟨ht,hf⟩,s,u⟩ b ⟨⟨-,hl,-⟩,-⟩ -;simp only[AQ]at hl;simp only[N9,AM];repeat'(first|exact trivial|apply eS rfl|apply AB|refine rX b ?_ ?_|refine rC ?_ ?_<;>intro a<;>try(cases a;done))
 refine AJ (ι:={k:Nat//k<=hf.length/\vQ s k (hf.drop k)=VL (ht,hf) s}) (λk=>⟨[(1,.p T9 s),(8,.p tZ hf),(9,.p (.int .i64) (hf.length:Int)),(10,.p (.int .i64) (k.1:Int))],[]⟩) (λk=>hf.length-k.1) ⟨0,OF _,rfl⟩ (eW []) (λk=>?_)
 obtain⟨k,hk,c⟩:=k;have e:=λh:k<hf.length=>kO s hf h;simp only;repeat'(first|exact trivial|apply eS rfl|apply AB|refine rX b ?_ ?_|refine rC ?_ ?_<;>intro a<;>try(cases a;done))
 .exact a
 .refine cP 5 b ?_ ?_
  .trivial
  refine AAA (j:=.i64) b (by kernel_rfl) ?_;refine rL b ?_ ?_
  .trivial
  repeat'(first|exact trivial|apply eS rfl|apply AB|refine rX b ?_ ?_|refine rC ?_ ?_<;>intro a<;>try(cases a;done))
  .have d:k<hf.length:=by exact eV
   rw[e d,BY a]at c;exact fI b [.tmp 4] (by rw[<-c];exact eR)
  .omega
  have d:k<hf.length:=by exact eV
  rw[e d,At (by rw[a];simp)]at c;exact⟨⟨k+1,by omega,c⟩,by simp only;omega,eW []⟩
 have d:hf.drop k=[]:=OR (by exact eV);rw[d]at c;exact fI b [.tmp 4] (by rw[<-c];first|exact eR|refine Tp ?_;rfl)
theorem A6j (s:ByteArray) (t:FL):BK Tryz.prog 89 [.p T89 t,.bp 1 [] 0] [(1,.box 9 false [.p T9 s])] [1] (λres c=>res=.p .bool (Ae t.1 s)/\c=[(1,.box 9 false [.p T9 s])]):=by
 refine NX [0,1,2,3] [] [] Tryz.func89 Tryz.ntmps89 AI ?_;intro w0 K O0 ρ0 a d e;simp only[Ax];repeat'(first|exact trivial|apply eS rfl|apply AB|refine rX a ?_ ?_|refine rC ?_ ?_<;>intro b<;>try(cases b;done))
 refine Ev.ent (σ':=⟨[(3,.p .bool (Ae t.1 s))],[(1,.box 9 false [.p T9 s])]⟩) ?_ (AD [(1,.nm 1)] rfl rfl ?_ ?_)
 .exact fM a [.tmp 3] (.p .bool (Ae t.1 s)) eT ⟨rfl,rfl⟩
 .exact eN
 exact eN
theorem zZ (l:List FL) (s:ByteArray):BK Tryz.prog 88 [.p mZ l,.clo 89 [1]] [(1,.box 9 false [.p T9 s])] [1] (λres g=>res=.p T3 (fB s 0 l)/\g=[(1,.box 9 false [.p T9 s])]):=by
 refine NX [0,1,4,5,7,8,9,16] [] [] Tryz.func88 Tryz.ntmps88 AI ?_;intro w0 K O0 ρ0 b e i;have hl:l.length<=140737488355328:=e.1.1;simp only[Ax];repeat'(first|exact trivial|apply eS rfl|apply AB|refine rX b ?_ ?_|refine rC ?_ ?_<;>intro a<;>try(cases a;done))
 refine AJ (ι:={k:Nat//k<=l.length/\fB s k (l.drop k)=fB s 0 l}) (λk=>⟨[(0,.p mZ l),(1,.clo 89 [1]),(7,.p (.int .i64) (l.length:Int)),(8,.p (.int .i64) (k.1:Int))],[(1,.box 9 false [.p T9 s])]⟩) (λk=>l.length-k.1) ⟨0,OF _,rfl⟩ (eW [(1,.nm 1)]) (λk=>?_)
 obtain⟨k,hk,hf⟩:=k;have f:=λh:k<l.length=>kN s l h;simp only;repeat'(first|exact trivial|apply eS rfl|apply AB|refine rX b ?_ ?_|refine rC ?_ ?_<;>intro a<;>try(cases a;done))
 .have c:k<l.length:=IF.1 a;have d:=f c;refine cP 5 b ?_ ?_
  .exact a
  refine rM b (A6j s (l.getD k SL)) [(1,.nm 1)] [] ?_ ?_ ?_
  .exact eN
  .exact eN
  rintro _ _ ⟨rfl,rfl⟩;refine⟨[(1,.nm 1)],.p .bool (Ae (l.getD k SL).1 s),[(1,.box 9 false [.p T9 s])],rfl,rfl,?_,?_,rfl,rfl,C4 ?_⟩
  .exact eN
  .exact eN
  repeat'(first|exact trivial|apply eS rfl|apply AB|refine rX b ?_ ?_|refine rC ?_ ?_<;>intro a<;>try(cases a;done))
  .rw[BY a,hf]at d;refine Ev.ent (σ':=⟨[(4,.p (.int .i64) (k:Int))],[(1,.box 9 false [.p T9 s])]⟩) ?_ (AD [(1,.nm 1)] rfl rfl ?_ ?_)
   .exact fM b [.tmp 4] (.p T3 (k:Int)) eT ⟨by rw[d],rfl⟩
   .exact eN
   exact eN
  .omega
  rw[At (by rw[a];simp)]at d;exact⟨⟨k+1,c,d.symm.trans hf⟩,by simp only;omega,eW [(1,.nm 1)]⟩
 have c:l.drop k=[]:=OR (RM.1 a);rw[c]at hf;have hf:(-1:Int)=fB s 0 l:=hf;refine Ev.ent (σ':=⟨[(4,.p (.int .i64) (-1))],[(1,.box 9 false [.p T9 s])]⟩) ?_ (AD [(1,.nm 1)] rfl rfl ?_ ?_)
 .exact fM b [.tmp 4] (.p T3 (-1)) eT ⟨by rw[hf],rfl⟩
 .exact eN
 exact eN
def vV:Ab:={ ins:=[Ec,T9],pre:=λ_=>True,out:=λ(h,s,_)=>[.p T3 (KG h s)],lend:=true }
attribute [local go_sem] vV
theorem A6k:Ac Tryz.prog 51 vV:=by
 refine fK [0,1,2,3,4] Tryz.func51 Tryz.ntmps51 AI ?_;rintro w0 O0 ⟨⟨ht,hf⟩,s,u⟩ a - -;simp only[vV,AM];refine Ev.ent (σ':=⟨[(0,.p Ec (ht,hf)),(1,.p T9 s)],[]⟩) ?_ (AD [] rfl rfl ?_ ?_)
 .repeat'(first|exact trivial|apply eS rfl|apply AB|refine rX a ?_ ?_|refine rC ?_ ?_<;>intro b<;>try(cases b;done))
  refine cP 3 a ?_ ?_
  .trivial
  refine rM a (zZ ht s) [(1,.nm 3)] [] ?_ ?_ ?_
  .exact eN
  .exact eN
  rintro _ _ ⟨rfl,rfl⟩;refine⟨[(3,.nm 1)],.p T3 (fB s 0 ht),[(3,.box 9 false [.p T9 s])],rfl,rfl,?_,?_,rfl,rfl,?_⟩
  .exact eN
  .exact eN
  refine rL a ?_ ?_
  .trivial
  repeat'(first|exact trivial|apply eS rfl|apply AB|refine rX a ?_ ?_|refine rC ?_ ?_<;>intro b<;>try(cases b;done))
  exact fI a [.tmp 4] (by unfold KG;exact eR)
 .exact eN
 exact eN
theorem HW (h:AG):KG h ⟨#[108,105,115,116]⟩=(AO h).list/\KG h ⟨#[99,111,110,115]⟩=(AO h).cons/\KG h ⟨#[110,117,108,108]⟩=(AO h).null/\KG h ⟨#[100,108,105,115,116]⟩=(AO h).dlist/\VL h ⟨#[70,73,82,83,84]⟩=(AO h).first/\VL h ⟨#[82,69,83,84]⟩=(AO h).rest/\VL h ⟨#[76,73,83,84]⟩=(AO h).head/\VL h ⟨#[76,65,83,84]⟩=(AO h).last:=⟨rfl,rfl,rfl,rfl,rfl,rfl,rfl,rfl⟩
theorem PY (h:AG):((AO h).list<(h.1.length:Int)/\(AO h).cons<(h.1.length:Int)/\(AO h).null<(h.1.length:Int)/\(AO h).dlist<(h.1.length:Int))/\(-1<=(AO h).list/\-1<=(AO h).cons/\-1<=(AO h).null/\-1<=(AO h).dlist) :=
 ⟨⟨(ED h _).2,(ED h _).2,(ED h _).2,(ED h _).2⟩,(ED h _).1,(ED h _).1,(ED h _).1,(ED h _).1⟩
theorem Mx {α:Type} {f:List α} (h:0<=n/\n<(f.length:Int)):n.toNat<f.length:=by omega
end
section
attribute [local go_sem] vV A3q N9 W8 yS yT
def wdF (h:AG) (w:LW):T59.den:=(h,w.list,w.cons,w.null,w.dlist,w.first,w.rest,w.head,w.last)
def lwO (w:T59.den):LW:=⟨w.2.1,w.2.2.1,w.2.2.2.1,w.2.2.2.2.1,w.2.2.2.2.2.1,w.2.2.2.2.2.2.1,w.2.2.2.2.2.2.2.1,w.2.2.2.2.2.2.2.2⟩
def Xk:Ab:={ ins:=[Cv,T3,T3],pre:=λ(f,n,_)=>AN f/\(0:Int)<=n/\n<(List.length f:Int),out:=λ(f,n,e,_)=>[.p T3 (Av (List.getD (f:List AC) n.toNat (0,[])).2 e)],lend:=true }
attribute [local go_sem] Xk
theorem Qt:Ac Tryz.prog 49 Xk:=by
 refine fK [0,1,2,3,6,8,14,15,16,17,23] Tryz.func49 Tryz.ntmps49 AI ?_;rintro w0 O0 ⟨f,n,e,u⟩ d-⟨g,hn⟩;have g:AN f:=g;have hn:0<=n/\n<(f.length:Int):=hn;simp only[Xk,AM];repeat'(first|exact trivial|apply eS rfl|apply AB|refine rX d ?_ ?_|refine rC ?_ ?_<;>intro a<;>try(cases a;done))
 .exact hn
 have j:=(g.2 _ (AE f (0,[]) (Mx hn))).1;generalize (f.getD n.toNat (0,[])).2=L at *;refine AJ (ι:={k:Nat//k<=L.length/\Av L e=Av (L.drop k) e}) (λk=>⟨[(2,.p T3 e),(14,.p Cl L),(15,.p (.int .i64) (L.length:Int)),(16,.p (.int .i64) (k.1:Int))],[]⟩) (λk=>L.length-k.1) ⟨0,OF _,rfl⟩ (eW []) (λk=>?_)
 obtain⟨k,hk,b⟩:=k;have i:=λh:k<L.length=>Zp e L h;simp only;repeat'(first|exact trivial|apply eS rfl|apply AB|refine rX d ?_ ?_|refine rC ?_ ?_<;>intro a<;>try(cases a;done))
 .exact a
 .have c:k<L.length:=by exact eV
  rw[i c,BY a]at b;exact fI d [.tmp 6] (by rw[b];exact eR)
 .omega
 .have c:k<L.length:=by exact eV
  rw[i c,At a]at b;exact⟨⟨k+1,by omega,b⟩,by simp only;omega,eW []⟩
 have c:L.drop k=[]:=OR (by exact eV);rw[c]at b;exact fI d [.tmp 6] (by rw[b];first|exact eR|refine Tp ?_;rfl)
def WOk (h:AG) (w:LW):Prop:=(0<=w.cons/\w.cons<(h.1.length:Int))/\(0<=w.null/\w.null<(h.1.length:Int))
def PZ:Ab:={ ins:=[T59,Cv,T3],pre:=λ(w,f,n,_)=>WOk w.1 (lwO w)/\AN f/\CA w.1 f/\(0:Int)<=n/\n<(List.length f:Int),out:=λ(w,f,n,_)=>[.p T3 (BT w.1 (lwO w) (List.getD (f:List AC) n.toNat (0,[])))],lend:=true }
attribute [local go_sem] PZ
theorem Qu:Ac Tryz.prog 48 PZ:=by
 refine fK [0,1,2,3,4,6,7,8,9,28,43,56] Tryz.func48 Tryz.ntmps48 (AF Qt (AF uI AI)) ?_;rintro w0 O0 ⟨⟨h,l,c,d,dl,a,e,b,la⟩,f,n,u⟩ i-⟨j,k,ht,hn⟩;have j:WOk h ⟨l,c,d,dl,a,e,b,la⟩:=j;have k:AN f:=k;have ht:CA h f:=ht;have hn:0<=n/\n<(f.length:Int):=hn;have hty:=ht _ (AE f (0,[]) (Mx hn));simp only[PZ,AM];repeat'(first|exact trivial|apply eS rfl|apply AB|refine rX i ?_ ?_|refine rC ?_ ?_<;>intro m<;>try(cases m;done))
 .exact hn
 .exact⟨k,hn⟩
 .exact⟨j.2,hty⟩
 .have g:BT h ⟨l,c,d,dl,a,e,b,la⟩ (f.getD n.toNat (0,[]))=1:=by
   unfold BT Uj Ig KH OZ Qr;simp only[An,ON];grind
  exact fI i [.tmp 6] (by rw[show lwO (h,l,c,d,dl,a,e,b,la)=⟨l,c,d,dl,a,e,b,la⟩ from rfl,g];exact eR)
 .exact⟨j.1,hty⟩
 .have g:BT h ⟨l,c,d,dl,a,e,b,la⟩ (f.getD n.toNat (0,[]))=2:=by
   unfold BT Uj Ig KH OZ Qr;simp only[An,ON];grind
  exact fI i [.tmp 6] (by rw[show lwO (h,l,c,d,dl,a,e,b,la)=⟨l,c,d,dl,a,e,b,la⟩ from rfl,g];exact eR)
 .exact⟨hty,j.1⟩
 .have g:BT h ⟨l,c,d,dl,a,e,b,la⟩ (f.getD n.toNat (0,[]))=3:=by
   unfold BT Uj Ig KH OZ Qr;simp only[An,ON];grind
  exact fI i [.tmp 6] (by rw[show lwO (h,l,c,d,dl,a,e,b,la)=⟨l,c,d,dl,a,e,b,la⟩ from rfl,g];exact eR)
 have g:BT h ⟨l,c,d,dl,a,e,b,la⟩ (f.getD n.toNat (0,[]))=0:=by
  unfold BT Uj Ig KH OZ Qr;simp only[An,ON];grind
 exact fI i [.tmp 6] (by rw[show lwO (h,l,c,d,dl,a,e,b,la)=⟨l,c,d,dl,a,e,b,la⟩ from rfl,g];exact eR)
theorem A6l {a:Int}:(if b<a then b else a)<0↔a<0\/b<0:=by split<;>omega
theorem A6m {a:Int}:(0<=if b<a then b else a)↔0<=a/\0<=b:=by split<;>omega
def A7l:T59.den:=(([],[]),0,0,0,0,0,0,0,0)
def Jn:Ab:={ ins:=[Ec],pre:=λ_=>True,out:=λ(h,_)=>[.p T59 (if Et h=true then wdF h (AO h) else A7l),.p HB (if Et h=true then 0 else 5)] }
attribute [local go_sem] Jn
theorem My:Ac Tryz.prog 21 Jn:=by
 refine fK [0,1,2,3,4,58] Tryz.func21 Tryz.ntmps21 (AF A6k (AF A8L (AF uI AI))) ?_;rintro w0 O0 ⟨⟨ht,hf⟩,u⟩ a - -;obtain⟨d,e,f,g,i,j,k,l⟩:=HW (ht,hf);obtain⟨⟨q,r,s,t⟩,m,n,o,p⟩:=PY (ht,hf);simp only[Jn,AM];repeat'(first|exact trivial|apply eS rfl|apply AB|refine rX a ?_ ?_|refine rC ?_ ?_<;>intro c<;>try(cases c;done))
 all_goals simp only[d,e,f,g,i,j,k,l,A6l,A6m]at *
 .refine⟨λh=>?_,λh=>?_⟩<;>simp only[RQ,AAo,RT,not_or]at h<;>grind
 .have b:Et (ht,hf)=false:=by
   rw[ABg];intro hb;unfold Et at hb;simp only[An,ON]at hb;grind
  exact fI a [.cell 2 59,.tmp 3] (by simp only[b,oF,AAV,A7l];exact eR)
 have b:Et (ht,hf)=true:=by
  unfold Et;simp only[An,ON];grind
 exact fI a [.cell 2 59,.tmp 3] (by simp only[b,AAF,wdF];exact eR)
end
section
attribute [local go_sem] ST K4
def ftR (h:AG) (a:Int×Int):Bool:=decide (a.1<(h.2.length:Int))
def z4 (h:AG) (x:AC):Bool:=decide (x.1<(h.1.length:Int))&&x.2.all (ftR h)
def Hr (h:AG) (f:List AC):Int:=if (BC f).2≠0 then (BC f).2 else if f.all (z4 h)=false then 2 else if (CT f (BC f).1==0)=false then 3 else 0
def LG:Ab:={ ins:=[Ec,Cv],pre:=λ(_,f,_)=>ET f,out:=λ(h,f,_)=>[.p HB (Hr h f)] }
theorem z5:Ac Tryz.prog 13 LG:=by
 refine fK [0,1,2,3,4,5,6,7,8,9,16,22,35,40,52,56] Tryz.func13 Tryz.ntmps13 (AF A2W (AF Qb AI)) ?_;rintro w0 O0 ⟨⟨ht,hf⟩,f,u⟩ c-hs;have hs:ET f:=hs;simp only[LG,AM];repeat'(first|exact trivial|apply eS rfl|refine rX c ?_ ?_|refine rC ?_ ?_<;>intro a<;>try(cases a;done))
 .exact hs.2
 .have h1:Hr (ht,hf) f=(BC f).2:=by unfold Hr;rw[BY a]
  exact fI c [.tmp 4] (by rw[h1];exact eR)
 have r:(BC f).2=0:=by simpa using a
 have n:=jM hs.2;have t:=hs.1;have d:Hr (ht,hf) f=if f.all (z4 (ht,hf))=false then 2 else if (CT f (BC f).1==0)=false then 3 else 0:=by unfold Hr;rw[At (by rw[r];simp)]
 refine AJ (ι:={i:Nat//i<=f.length/\(f.take i).all (z4 (ht,hf))=true}) (λi=>⟨[(2,.bp 2 [] 0),(3,.bp 3 [] 0),(5,.bp 5 [] 0),(7,.p (.int .i64) (i.1:Int))],[(2,.box 29 true [.p mZ ht,.p tZ hf]),(3,.box 25 true [.p Eg f]),(5,.box 25 true [.p Eg (BC f).1])]⟩) (λi=>f.length-i.1) ⟨0,by simp⟩ (eW [(2,.nm 2),(3,.nm 3),(5,.nm 5)]) (λi=>?_)
 obtain⟨i,hi,j⟩:=i;have o:=λh:i<f.length=>J5 f (0,[]) (z4 (ht,hf)) h;simp only;repeat'(first|exact trivial|apply eS rfl|refine rX c ?_ ?_|refine rC ?_ ?_<;>intro a<;>try(cases a;done))
 .exact a
 .have b:i<f.length:=IF.1 (by assumption);have e:f.all (z4 (ht,hf))=false:=by
   rw[ABY];refine⟨_,AE f (0,[]) b,?_⟩;unfold z4;rw[ABK (AB1.2 a)];simp
  rw[BY e]at d;exact fI c [.tmp 4] (by rw[d];exact eR)
 .have b:i<f.length:=IF.1 (by assumption);have hm:=AE f (0,[]) b;have m:z4 (ht,hf) (f.getD i (0,[]))=(f.getD i (0,[])).2.all (ftR (ht,hf)):=by
   unfold z4;rw[ABZ (show (f.getD i (0,[])).1<(ht.length:Int) from a)];rfl
  have s:(f.getD i (0,[])).2.length<=100000:=hs.2 _ hm;refine AJ (ι:={k:Nat//k<=(f.getD i (0,[])).2.length/\((f.getD i (0,[])).2.take k).all (ftR (ht,hf))=true}) (λk=>⟨[(2,.bp 2 [] 0),(3,.bp 3 [] 0),(5,.bp 5 [] 0),(7,.p (.int .i64) (i:Int)),(8,.bp 8 [] 0),(9,.p (.int .i64) (k.1:Int))],[(2,.box 29 true [.p mZ ht,.p tZ hf]),(3,.box 25 true [.p Eg f]),(5,.box 25 true [.p Eg (BC f).1]),(8,.box 48 true [.p T3 (f.getD i (0,[])).1,.p Cl (f.getD i (0,[])).2])]⟩) (λk=>(f.getD i (0,[])).2.length-k.1) ⟨0,by simp⟩ (eW [(2,.nm 2),(3,.nm 3),(5,.nm 5),(8,.nm 8)]) (λk=>?_)
  obtain⟨k,hk,l⟩:=k;have q:=λh:k<(f.getD i (0,[])).2.length=>J5 (f.getD i (0,[])).2 (0,0) (ftR (ht,hf)) h;simp only;repeat'(first|exact trivial|apply eS rfl|apply AB|refine rX c ?_ ?_|refine rC ?_ ?_<;>intro a<;>try(cases a;done))
  .exact a
  .have g:k<(f.getD i (0,[])).2.length:=IF.1 (by assumption);have e:f.all (z4 (ht,hf))=false:=by
    rw[ABY];refine⟨_,hm,?_⟩;rw[m,ABY.2 ⟨_,AE (f.getD i (0,[])).2 (0,0) g,by unfold ftR;rw[ABK (AB1.2 a)];simp⟩];simp
   rw[BY e]at d;exact fI c [.tmp 4] (by rw[d];exact eR)
  .exact eV
  .have g:k<(f.getD i (0,[])).2.length:=IF.1 (by assumption);refine⟨⟨k+1,g,?_⟩,by simp only;omega,AD [(2,.nm 2),(3,.nm 3),(5,.nm 5),(8,.nm 8)] rfl rfl ?_ ?_⟩
   .rw[q g,l];unfold ftR;exact ABZ a
   .exact eN
   exact eN
  .exact eV
  have g:(f.getD i (0,[])).2.take k=(f.getD i (0,[])).2:=As (RM.1 a);rw[g]at l;refine⟨⟨i+1,b,?_⟩,by simp only;omega,AD [(2,.nm 2),(3,.nm 3),(5,.nm 5)] rfl rfl ?_ ?_⟩
  .rw[o b,j,m,l];rfl
  .exact eN
  exact eN
 .exact⟨hs,n⟩
 .have b:f.take i=f:=As (RM.1 (by assumption));rw[b]at j;rw[At (by rw[j];simp),BY (by simpa using a)]at d;exact fI c [.tmp 4] (by rw[d];exact eR)
 have b:f.take i=f:=As (RM.1 (by assumption));rw[b]at j;rw[At (by rw[j];simp),At (by rw[a];simp)]at d;exact fI c [.tmp 4] (by rw[d];exact eR)
def Pa (h:AG) (f:List AC):Bool:=HT f&&Hr h f==0
end
section
attribute [local go_sem] J8 Me SM LG
def VM (d:List AK):AG:=if d.length<=12/\(A3 d).2=0 then (A3 d).1 else (A3 J7).1
def dU:Ab:={ ins:=[T3],pre:=λ_=>True,out:=λ(t,_)=>[.p Cv [(t,[])]] }
theorem A3r:Ac Tryz.prog 55 dU:=by
 refine fK [0,2] Tryz.func55 Tryz.ntmps55 AI ?_;rintro w0 O0 ⟨t,u⟩ a - -;simp only[dU,AM];repeat'(first|exact trivial|apply eS rfl|apply AB|refine rX a ?_ ?_|refine rC ?_ ?_<;>intro b<;>try(cases b;done))
 exact fI a [.cell 2 25]
end
section
attribute [local go_sem] uJ
def kP (f:Int):List (Int×Int)->Int×Bool
 | []=>(0,false)
 | x :: l=>if x.1=f then (x.2,true) else kP f l
def A8M (h:AG) (t:Int):List (Int×Int):=(h.1.getD t.toNat SL).2.2.2
def Ee (h:AG) (t f:Int):Int×Bool:=kP f (A8M h t)
abbrev Fd:=List Int×List Int
def HX (h:AG) (s:Fd) (n t:Int):Option Fd :=
 if (Bu h (s.1.getD n.toNat 0) t).2=true then some (if (Bu h (s.1.getD n.toNat 0) t).1=s.1.getD n.toNat 0 then s else (s.1.set n.toNat (Bu h (s.1.getD n.toNat 0) t).1,s.2++[n])) else none
end
section
attribute [local go_sem] HH jI Qi
def kQ (l:List (Int×Int)):List (Int×Bool):=l.foldl (λm a=>F1 T3 .bool a.1 true m) []
theorem Xl {a:Ty} (x k:Int) (v:a.den) (m:List (Int×a.den)):BW T3 a x (F1 T3 a k v m)=if x=k then some v else BW T3 a x m:=by
 induction m with
 | nil=>simp[F1,BW,Iv]
 | cons y m d =>
  simp only[F1];by_cases hy:Iv T3 k y.1=true
  .rw[BY hy];have b:k=y.1:=by simpa[Iv] using hy
   simp only[BW,Iv,TE];by_cases hx:x=k
   .rw[BY hx,BY hx]
   rw[At hx,At hx,At (by rw[<-b];exact hx)]
  rw[At hy];have b:¬k=y.1:=by simpa[Iv] using hy
  simp only[BW];by_cases hx:Iv T3 x y.1=true
  .have c:x=y.1:=by simpa[Iv] using hx
   rw[BY hx,BY hx,At (by rw[c];exact λe=>b e.symm)]
  rw[At hx,At hx,d]
theorem z6 (x:Int) (l:List (Int×Int)):(BW T3 .bool x (kQ l)).getD false=l.any λy=>y.1==x:=by
 induction l using EJ with
 | h0=>rfl
 | h1 l a c =>
  have e:kQ (l++[a])=F1 T3 .bool a.1 true (kQ l):=by unfold kQ;rw[ABe];rfl
  rw[e,Xl,ABU,<-c];by_cases h:x=a.1
  .rw[BY h,h];simp
  rw[At h];have b:¬a.1=x:=λe=>h e.symm;simp[b]
def GV (x:AC) (n:Int):Int:=if x.1<0 then 2 else IU x.2 n
def Xm:Ab:={ ins:=[Eb,T3],pre:=λ_=>True,out:=λ(x,n,_)=>[.p HB (GV x n)] }
attribute [local go_sem] Xm
theorem qX:Ac Tryz.prog 84 Xm:=by
 refine fK [0,1,2,4,5,7,10,13,14,15,16,32,36] Tryz.func84 Tryz.ntmps84 AI ?_;rintro w0 O0 ⟨⟨t,l⟩,n,u⟩ d ⟨⟨-,⟨hl,-⟩⟩,-⟩ -;simp only[AQ]at hl;simp only[Xm,AM];repeat'(first|exact trivial|apply eS rfl|refine rX d ?_ ?_|refine rC ?_ ?_<;>intro b<;>try(cases b;done))
 .have h1:GV (t,l) n=2:=BY b;exact fI d [.tmp 4] (by rw[h1];exact eR)
 have h0:GV (t,l) n=HG n [] l:=At (AB1.2 b);rw[h0];refine AJ (ι:={k:Nat//k<=List.length l/\HG n [] l=HG n ((l:List (Int×Int)).take k) ((l:List (Int×Int)).drop k)}) (λk=>⟨[(1,.p T3 n),(5,.mp 11),(13,.p Cl l),(14,.p (.int .i64) (List.length l:Int)),(15,.p (.int .i64) (k.1:Int))],[(11,.mapo T3 .bool (kQ ((l:List (Int×Int)).take k.1)))]⟩) (λk=>List.length l-k.1) ⟨0,OF _,rfl⟩ (AD [(11,.nm 11)] rfl rfl ?_ ?_) (λk=>?_)
 .refine eM ?_;rfl
 .exact eN
 obtain⟨k,hk,f⟩:=k;have g:=λh:k<l.length=>PO n l h;have j:=λh:k<l.length=>J9 (λ(m:List (Int×Bool)) (a:Int×Int)=>F1 T3 .bool a.1 true m) l (0,0) [] h;have i:=λx=>z6 x (List.take k (l:List (Int×Int)));simp only;repeat'(first|exact trivial|apply eS rfl|apply AB|refine rX d ?_ ?_|refine rC ?_ ?_<;>intro b<;>try(cases b;done))
 .exact b
 .have c:k<List.length l:=by exact eV
  have e:HG n [] l=2:=by rw[f,g c,BY O1]
  exact fI d [.tmp 4] (by rw[e];exact eR)
 .have c:k<List.length l:=by exact eV
  rw[i]at b;have e:HG n [] l=4:=by rw[f,g c,At O1,BY b]
  exact fI d [.tmp 4] (by rw[e];exact eR)
 .exact eV
 .have c:k<List.length l:=by exact eV
  rw[i]at b;refine⟨⟨k+1,c,by rw[f,g c,At O1,At (by rw[b];simp)]⟩,by simp only;omega,AD [(11,.nm 11)] rfl rfl ?_ ?_⟩
  .refine eM ?_;exact(j c).symm
  exact eN
 have hd:List.drop k (l:List (Int×Int))=[]:=OR (by exact eV);have e:HG n [] l=0:=by rw[f,hd];rfl
 exact fI d [.tmp 4] (by rw[e];exact eR)
theorem kR {n:Int}:∀ {l seen:List (Int×Int)},HG n seen l=0->(∀a∈l,∀b∈seen,b.1≠a.1)/\zG l
 | [],_,_=>⟨λa ha=>(by cases ha),List.Pairwise.nil⟩
 | x :: l,seen,h=>by
  simp only[HG]at h;split at h
  .cases h
  split at h
  .cases h
  rename_i h1 f;obtain⟨c,d⟩:=kR h;refine⟨λa ha b hb=>?_,S8.2 ⟨λa ha e=>c a ha x sc e,d⟩⟩;rcases DO.1 ha with rfl|ha
  .intro e;exact f (Re.2 ⟨b,hb,by simp[e]⟩)
  exact c a ha b (by simp[hb])
theorem kS {m:Int}:∀ {f:List AC},Hg m f=0->∀x∈f,zG x.2
 | [],_,x,hx=>by cases hx
 | y :: f,h,x,hx=>by
  simp only[Hg]at h;split at h
  .cases h
  split at h
  .rename_i h1 a;exact absurd h a
  rename_i h1 a;have a:IU y.2 m=0:=IS a;rcases DO.1 hx with rfl|hx
  .exact(kR a).2
  exact kS h x hx
def GW (f:List AC):Prop:=∀x∈f,SS x.2
theorem kT (h:CU f=0) (hs:GW f):NdF f:=by
 unfold CU at h;split at h
 .cases h
 split at h
 .cases h
 exact λx hx=>⟨kS h x hx,hs x hx⟩
def Nm:Ab:={ ins:=[Cv],pre:=λ(f,_)=>GW f,out:=λ(f,_)=>[.p Cv (BC f).1,.p HB (BC f).2] }
attribute [local go_sem] Nm
theorem Z3:Ac Tryz.prog 46 Nm:=by
 refine fK [0,1,2,3,5,6,10,15,18,19,20,21,30] Tryz.func46 Tryz.ntmps46 (AF qX (AF SX AI)) ?_;rintro w0 O0 ⟨f,u⟩ c ⟨⟨n,-⟩,-⟩ hs;simp only[AQ]at n;have hs:GW f:=hs;have l:SR f:=λx hx=>RF (hs x hx).1 O1;simp only[Nm,AM];repeat'(first|exact trivial|apply eS rfl|refine rX c ?_ ?_|refine rC ?_ ?_<;>intro a<;>try(cases a;done))
 .have h1:CU f=1:=by
   have h:f.length=0:=by exact eV
   unfold CU;rw[BY h]
  have e:BC f=([],1):=by unfold BC;rw[h1];rfl
  exact fI c [.cell 2 25,.tmp 3] (by rw[e];exact eR)
 .have h1:CU f=7:=by
   have h:¬f.length=0:=by exact eV
   have i:4096<f.length:=by exact eV
   unfold CU;rw[At h,BY i]
  have e:BC f=([],7):=by unfold BC;rw[h1];rfl
  exact fI c [.cell 2 25,.tmp 3] (by rw[e];exact eR)
 have h1:CU f=Hg f.length f:=by
  have h:¬f.length=0:=by exact eV
  have i:¬4096<f.length:=by exact eV
  unfold CU;rw[At h,At i]
 have j:0<f.length:=by exact eV
 refine AJ (ι:={k:Nat//k<=f.length/\Hg f.length (f.drop k)=CU f}) (λk=>⟨[(1,.bp 1 [] 0),(2,.bp 2 [] 0),(18,.p Eg f),(19,.p (.int .i64) (f.length:Int)),(20,.p (.int .i64) (k.1:Int))],[(1,.box 25 true [.p Eg f]),(2,.box 25 true [.raw (.slice none 0 0)])]⟩) (λk=>f.length-k.1) ⟨0,by simp[h1]⟩ (eW [(1,.nm 1),(2,.nm 2)]) (λk=>?_)
 obtain⟨k,hk,hf⟩:=k;simp only;repeat'(first|exact trivial|apply eS rfl|apply AB|refine rX c ?_ ?_|refine rC ?_ ?_<;>intro a<;>try(cases a;done))
 .exact a
 .have g:k<f.length:=by exact eV
  have a:¬GV (f.getD k (0,[])) f.length=0:=a;have m:CU f=GV (f.getD k (0,[])) f.length:=by
   rw[<-hf,IV _ _ g];unfold GV at a ⊢;by_cases b:(f.getD k (0,[])).1<0
   .rw[BY b,BY b]
   rw[At b]at a;rw[At b,At b,BY a]
  have e:BC f=([],GV (f.getD k (0,[])) f.length):=by unfold BC;rw[m,At a]
  exact fI c [.cell 2 25,.tmp 3] (by rw[e];exact eR)
 .exact eV
 .have g:k<f.length:=by exact eV
  have a:GV (f.getD k (0,[])) f.length=0:=by simpa using a
  refine⟨⟨k+1,g,?_⟩,by simp only;omega,AD [(1,.nm 1),(2,.nm 2)] rfl rfl ?_ ?_⟩
  .rw[<-hf,IV _ _ g];unfold GV at a;by_cases b:(f.getD k (0,[])).1<0
   .rw[BY b]at a;cases a
   rw[At b]at a;rw[At b,At (by rw[a];simp)]
  .exact eN
  exact eN
 .have d:CU f=0:=by rw[<-hf,OR (by exact eV)];rfl
  exact⟨(IX d l).1,kT d hs,IF.2 j⟩
 have d:CU f=0:=by rw[<-hf,OR (by exact eV)];rfl
 have e:BC f=(AH (De f) 0,0):=by unfold BC;rw[BY d,jR (IX d l).1 (kT d hs) (iF 0) (IF.2 j)]
 exact fI c [.cell 2 25,.tmp 3] (by rw[e];exact eR)
end
def Qv (h:AG) (f:Int):Int:=(h.2.getD f.toNat (ByteArray.empty,0)).2
def Xn (h:AG) (n:Int):List (Int×Int)->Fd->Option Fd
 | [],s=>some s
 | a :: l,s=>(HX h s n (Qv h a.1)).bind (Xn h n l)
def Yj (h:AG) (n:Int):List (Int×Int)->Fd->Option Fd
 | [],s=>some s
 | a :: l,s=>if (Ee h (s.1.getD n.toNat 0) a.1).2=true then (HX h s a.2 (Ee h (s.1.getD n.toNat 0) a.1).1).bind (Yj h n l) else none
def UK (h:AG) (f:List AC) (n:Int) (s:Fd):Option Fd:=(Xn h n (f.getD n.toNat (0,[])).2 s).bind (Yj h n (f.getD n.toNat (0,[])).2)
def wlF (h:AG) (f:List AC):Nat->Nat->Fd->Option (List Int)
 | 0,_,_=>none
 | k+1,i,s=>if i<s.2.length then (UK h f (s.2.getD i 0) s).bind (wlF h f k (i+1)) else some s.1
def Df (f:List AC):List Int:=f.map λx=>x.1
def UL (f:List AC):List Int:=(List.range f.length).map λi:Nat=>(i:Int)
def Fx (f:List AC) (ty:List Int):List AC:=(List.range f.length).map λi=>(ty.getD i 0,(f.getD i (0,[])).2)
structure HFt (h:AG):Prop where
 int:∀x∈h.2,0<=x.2/\x.2<(h.1.length:Int)
 val:∀t∈h.1,∀p∈t.2.2.2,0<=p.2/\p.2<(h.1.length:Int)
structure Qw (h:AG) (m:Nat) (s:Fd):Prop where
 len:s.1.length=m
 ty:∀t∈s.1,0<=t/\t<(h.1.length:Int)
 wt:∀n∈s.2,0<=n/\n<(m:Int)
theorem Qw.get {m:Nat} {s:Fd} (hs:Qw h m s) (n0:0<=n) (n1:n<(m:Int)):0<=s.1.getD n.toNat 0/\s.1.getD n.toNat 0<(h.1.length:Int):=by
 have hl:n.toNat<s.1.length:=by rw[hs.len];omega
 rw[AS,AT hl];exact hs.ty _ (aT hl)
def z7 (h:AG) (t:Int):Nat:=((List.range h.1.length).filter λi:Nat=>Ar h t (i:Int)).length
def vW (h:AG) (ty:List Int):Nat:=(ty.map (z7 h)).sum
theorem Z4 {α:Type} {p q:α->Bool}:∀ {l:List α},(∀x∈l,q x=true->p x=true)->(∃b∈l,p b=true/\q b=false)->(l.filter q).length<(l.filter p).length
 | [],_,⟨b,hb,_⟩=>by cases hb
 | x :: l,h1,⟨b,hb,e,f⟩=>by
  have g:∀ {l:List α},(∀x∈l,q x=true->p x=true)->(l.filter q).length<=(l.filter p).length:=by
   intro l hl;induction l with
   | nil=>exact IN _
   | cons y l h =>
    have d:=h λz c=>hl z (If _ c);rw[oR,oR];by_cases a:q y=true
    .rw[BY a,BY (hl y sc a)];simp only[NO];omega
    rw[At a];split
    .simp only[NO];omega
    exact d
  rw[oR,oR];rcases DO.1 hb with rfl|hb
  .rw[At (by rw[f];simp),BY e];have:=g λz c=>h1 z (If _ c);simp only[NO];omega
  have d:=Z4 (λz c=>h1 z (If _ c)) ⟨b,hb,e,f⟩;by_cases a:q x=true
  .rw[BY a,BY (h1 x sc a)];simp only[NO];omega
  rw[At a];split
  .simp only[NO];omega
  exact d
theorem VN (hk:GI h) {a:Int} (b:0<=a) (c:a<(h.1.length:Int)):Ar h a a=true:=(Bi hk b c b c).2 λ_ h=>h
theorem LI (hk:GI h) {a c:Int} (d:0<=a) (e:a<(h.1.length:Int)) (f:0<=b) (b1:b<(h.1.length:Int)) (c0:0<=c) (c1:c<(h.1.length:Int)) (h1:Ar h a b=true) (g:Ar h b c=true):Ar h a c=true :=
 (Bi hk d e c0 c1).2 λi hi=>(Bi hk d e f b1).1 h1 i ((Bi hk f b1 c0 c1).1 g i hi)
theorem A6n (hk:GI h) (hi:N7 h) {a m:Int} (b:0<=a) (c:a<(h.1.length:Int)) (d:0<=m) (f:m<(h.1.length:Int)) (hs:Ar h a m=true) (g:m≠a):z7 h m<z7 h a:=by
 refine Z4 (λx hx e=>?_) ⟨a.toNat,Ra.2 O1,?_,?_⟩
 .have hx:=Ra.1 hx;exact LI hk b c d f (AB4 _) O1 hs e
 .rw[AB7 b];exact VN hk b c
 rw[AB7 b];cases e:Ar h m a with
 | false=>rfl
 | true=>exact absurd (hi m a d f b c e hs) g
theorem vZ {α:Type} (g:α->Nat) (d:α):∀ {l:List α} {i:Nat} {v:α},i<l.length->((l.set i v).map g).sum+g (l.getD i d)=(l.map g).sum+g v
 | [],i,v,h=>by simp at h
 | x :: l,0,v,h=>by simp only[ABa,Rd,List.sum_cons,List.getD_cons_zero];omega
 | x :: l,i+1,v,h=>by
  have:=vZ g d (l:=l) (i:=i) (v:=v) (by simpa using h);simp only[ACw,Rd,List.sum_cons,List.getD_cons_succ];omega
theorem Gy (hk:GI h) (hi:N7 h) {m:Nat} {s a:Fd} (hs:Qw h m s) {t:Int} (n0:0<=n) (n1:n<(m:Int)) (j:0<=t) (k:t<(h.1.length:Int)) (e:HX h s n t=some a) :
  Qw h m a/\vW h a.1+a.2.length<=vW h s.1+s.2.length/\s.2.length<=a.2.length:=by
 obtain⟨b,c⟩:=hs.get n0 n1;unfold HX at e;split at e
 .rename_i hm;obtain⟨d,f,i,p⟩:=(Mh hk b c j k).1 hm;generalize (Bu h (s.1.getD n.toNat 0) t).1=v at *;injection e with e
  split at e
  .subst e;exact⟨hs,IN _,IN _⟩
  rename_i g;subst e;have o:=A6n hk hi b c d f i g;have hl:n.toNat<s.1.length:=by rw[hs.len];omega
  have l:=vZ (z7 h) 0 (v:=v) hl;refine⟨⟨by simp only[TA];exact hs.len,λx hx=>?_,λx hx=>?_⟩,?_,by simp⟩
  .rcases ABh hx with hx|rfl
   .exact hs.ty x hx
   exact⟨d,f⟩
  .rcases Fg.1 hx with hx|hx
   .exact hs.wt x hx
   rw[RH.1 hx];exact⟨n0,n1⟩
  unfold vW;simp only[By,GO];omega
 cases e
def Mz (h:AG) (m:Nat) (a:Int×Int):Prop:=(0<=a.1/\a.1<(h.2.length:Int))/\0<=a.2/\a.2<(m:Int)
theorem Qx (hf:HFt h) {f:Int} (a:0<=f) (b:f<(h.2.length:Int)):0<=Qv h f/\Qv h f<(h.1.length:Int):=by
 have hl:f.toNat<h.2.length:=by omega
 unfold Qv;rw[AS,AT hl];exact hf.int _ (aT hl)
theorem Z5 {f:Int}:∀ {l:List (Int×Int)},(kP f l).2=true->(f,(kP f l).1)∈l
 | [],h=>by cases h
 | x :: l,h=>by
  unfold kP at h ⊢;split
  .rename_i e;rw[<-e];simp
  rename_i e;rw[At e]at h;exact If _ (Z5 h)
theorem z8 {t:Int} (a:0<=t) (b:t<(h.1.length:Int)):h.1.getD t.toNat SL∈h.1:=AE h.1 SL O1
theorem M0 (hf:HFt h) {t f:Int} (a:0<=t) (b:t<(h.1.length:Int)) (e:(Ee h t f).2=true):0<=(Ee h t f).1/\(Ee h t f).1<(h.1.length:Int) :=
 hf.val _ (z8 a b) _ (Z5 e)
theorem Qy {h:AG} (hk:GI h) (hi:N7 h) (hf:HFt h) {m:Nat} {n:Int} (n0:0<=n) (n1:n<(m:Int)):∀ {l:List (Int×Int)} {s c:Fd},(∀a∈l,Mz h m a)->Qw h m s->Xn h n l s=some c ->
  Qw h m c/\vW h c.1+c.2.length<=vW h s.1+s.2.length/\s.2.length<=c.2.length
 | [],s,c,_,hs,e=>by
  injection e with e
  subst e;exact⟨hs,IN _,IN _⟩
 | a :: l,s,c,hl,hs,e=>by
  unfold Xn at e;cases d:HX h s n (Qv h a.1) with
  | none=>rw[d]at e;cases e
  | some s1 =>
   rw[d]at e;obtain⟨⟨f,g⟩,-⟩:=hl a sc;obtain⟨j,k⟩:=Qx hf f g;obtain⟨i,p,q⟩:=Gy hk hi hs n0 n1 j k d;obtain⟨o,r,t⟩:=Qy hk hi hf n0 n1 (λb hb=>hl b (by simp[hb])) i e;exact⟨o,by omega,by omega⟩
theorem VO {h:AG} (hk:GI h) (hi:N7 h) (hf:HFt h) {m:Nat} {n:Int} (n0:0<=n) (n1:n<(m:Int)):∀ {l:List (Int×Int)} {s c:Fd},(∀a∈l,Mz h m a)->Qw h m s->Yj h n l s=some c ->
  Qw h m c/\vW h c.1+c.2.length<=vW h s.1+s.2.length/\s.2.length<=c.2.length
 | [],s,c,_,hs,e=>by
  injection e with e
  subst e;exact⟨hs,IN _,IN _⟩
 | a :: l,s,c,hl,hs,e=>by
  unfold Yj at e;split at e
  .rename_i j;obtain⟨i,f⟩:=hs.get n0 n1;obtain⟨k,o⟩:=M0 hf i f j;cases d:HX h s a.2 (Ee h (s.1.getD n.toNat 0) a.1).1 with
   | none=>rw[d]at e;cases e
   | some s1 =>
    rw[d]at e;obtain⟨-,g,b1⟩:=hl a sc;obtain⟨f,q,r⟩:=Gy hk hi hs g b1 k o d;obtain⟨p,t,u⟩:=VO hk hi hf n0 n1 (λb hb=>hl b (by simp[hb])) f e;exact⟨p,by omega,by omega⟩
  cases e
def Xo (h:AG) (f:List AC):Prop:=∀x∈f,∀a∈x.2,Mz h f.length a
theorem Qz (ha:Xo h f) (n0:0<=n) (n1:n<(f.length:Int)):∀a∈(f.getD n.toNat (0,[])).2,Mz h f.length a:=ha _ (AE f (0,[]) O1)
theorem kU (hk:GI h) (hi:N7 h) (hf:HFt h) (ha:Xo h f) (n0:0<=n) (n1:n<(f.length:Int)) {s a:Fd} (hs:Qw h f.length s) (e:UK h f n s=some a) :
  Qw h f.length a/\vW h a.1+a.2.length<=vW h s.1+s.2.length/\s.2.length<=a.2.length:=by
 unfold UK at e;cases b:Xn h n (f.getD n.toNat (0,[])).2 s with
 | none=>rw[b]at e;cases e
 | some s1 =>
  rw[b]at e;obtain⟨c,g,i⟩:=Qy hk hi hf n0 n1 (Qz ha n0 n1) hs b;obtain⟨d,j,k⟩:=VO hk hi hf n0 n1 (Qz ha n0 n1) c e;exact⟨d,by omega,by omega⟩
theorem A6o (h:AG) (t:Int):z7 h t<=h.1.length:=by
 unfold z7;exact RF (AAx _ _) sc
theorem A3s (h:AG):∀ty:List Int,vW h ty<=ty.length*h.1.length
 | []=>by simp[vW]
 | t :: ty=>by
  have h1:=A3s h ty;have a:=A6o h t;unfold vW at h1 ⊢;simp only[Rd,List.sum_cons,NO,ACd,Nat.one_mul];omega
def Z6 (h:AG) (f:List AC):Nat:=f.length*h.1.length+f.length+1
def Jo (h:AG) (f:List AC):Option (List Int):=wlF h f (Z6 h f) 0 (Df f,UL f)
def Sk (h:AG) (f:List AC):List AC×Bool:=match Jo h f with
 | some ty=>(Fx f ty,true)
 | none=>([],false)
theorem A7o (ht:∀x∈f,0<=x.1/\x.1<(h.1.length:Int)):Qw h f.length (Df f,UL f):=by
 refine⟨by simp[Df],λt h1=>?_,λn hn=>?_⟩
 .obtain⟨x,hx,rfl⟩:=Do.1 h1;exact ht x hx
 obtain⟨i,hi,rfl⟩:=Do.1 hn;have:=Ra.1 hi;omega
theorem A8N (h:AG) (f:List AC):vW h (Df f)+(UL f).length+1<=Z6 h f:=by
 have:=A3s h (Df f);unfold Z6;rw[show (Df f).length=f.length by simp[Df]]at this;rw[show (UL f).length=f.length by simp[UL]];omega
section
attribute [local go_sem] W8
def Sl (h:AG) (f:List AC) (t:Int):List (Int×Int)->Int
 | []=>0
 | a :: l=>if (Ee h t a.1).2=false then 10 else if Ar h (Ee h t a.1).1 (f.getD a.2.toNat (0,[])).1=false then 11 else Sl h f t l
def M2 (h:AG) (f:List AC):List AC->Int
 | []=>0
 | x :: l=>if Sl h f x.1 x.2=0 then M2 h f l else Sl h f x.1 x.2
def dV (h:AG) (f:List AC):Int:=if Hr h f=0 then M2 h f f else Hr h f
end
section
attribute [local go_sem] LG QM
theorem A3t (hk:GI h) {a:Int} (c:0<=a) (d:a<(h.1.length:Int)) (e:0<=b) (b1:b<(h.1.length:Int)):E1 (BL h b) (BL h a)=Ar h a b:=by
 have f:=hk.1.wds _ (Bv c d);have g:=hk.1.wds _ (Bv e b1);rw[ABW,W3 g f];exact(Bi hk c d e b1).symm
def dW:Ab:={ ins:=[Ec,T3,T3],pre:=λ(h,a,b,_)=>(((0:Int)<=a/\a<(List.length (h:AG).1:Int))/\((0:Int)<=b/\b<(List.length (h:AG).1:Int)))/\GI h,out:=λ(h,a,b,_)=>[.p .bool (Ar h a b)],lend:=true }
attribute [local go_sem] dW
theorem Q0:Ac Tryz.prog 95 dW:=by
 refine fK [0,1,2,3,6] Tryz.func95 Tryz.ntmps95 (AF SA AI) ?_;rintro w0 O0 ⟨⟨ht,hf⟩,a,b,u⟩ c-⟨⟨ha,hb⟩,hk⟩;have hk:GI (ht,hf):=hk;have d:=A3t hk ha.1 ha.2 hb.1 hb.2;have e:(BL (ht,hf) b).length<=100000:=RF (hk.1.wid _ (Bv hb.1 hb.2)) O1;simp only[dW,AM];repeat'(first|exact trivial|apply eS rfl|refine rX c ?_ ?_)
 .exact⟨hb,ha,e⟩
 exact fI c [.tmp 6] (by rw[<-d];unfold BL;exact eR)
end
theorem EL (f:List AC) (ty:List Int):(Fx f ty).length=f.length:=by simp[Fx]
theorem KI (f:List AC) (ty:List Int) (h:i<f.length):(Fx f ty).getD i (0,[])=(ty.getD i 0,(f.getD i (0,[])).2):=by
 unfold Fx;simp[AS,h]
structure MI (m:List (Int×Bool)) (l:List Bool):Prop where
 nd:(m.map (·.1)).Nodup
 get:∀k:Int,BW T3 .bool k m=if 0<=k/\l.getD k.toNat false=true then some true else none
theorem v4 (k:Int) (v:Bool):∀ {m:List (Int×Bool)},(m.map (·.1)).Nodup->((F1 T3 .bool k v m).map (·.1)).Nodup/\∀x,x∈(F1 T3 .bool k v m).map (·.1)->x=k\/x∈m.map (·.1)
 | [],_=>by simp[F1]
 | y :: m,h=>by
  rw[Rd,iS]at h;unfold F1;split
  .rename_i e;have e:k=y.1:=by simpa[Iv] using e
   refine⟨?_,λx hx=>?_⟩
   .rw[Rd,iS,e];exact h
   rcases DO.1 hx with hx|hx
   .exact .inl hx
   exact .inr (If _ hx)
  rename_i e;have e:¬k=y.1:=by simpa[Iv] using e
  obtain⟨b,a⟩:=v4 k v h.2;refine⟨?_,λx hx=>?_⟩
  .rw[Rd,iS];refine⟨λhm=>?_,b⟩;rcases a _ hm with hx|hx
   .exact e hx.symm
   exact h.1 hx
  rcases DO.1 hx with hx|hx
  .exact .inr (by rw[hx];simp)
  exact(a x hx).imp id λg=>If _ g
theorem kV (k:Int):∀m:List (Int×Bool),(oJ T3 .bool k m).Sublist m
 | []=>List.Sublist.refl _
 | y :: m=>by
  unfold oJ;split
  .exact List.sublist_cons_self _ _
  exact(kV k m).cons_cons _
theorem Z7 {x:Int}:∀ {m:List (Int×Bool)},x∉m.map (·.1)->BW T3 .bool x m=none
 | [],_=>rfl
 | y :: m,h=>by
  unfold BW;rw[At (by
   intro e;have e:x=y.1:=by simpa[Iv] using e
   exact h (by rw[e];simp))]
  exact Z7 λhm=>h (If _ hm)
theorem Z8 (x k:Int):∀ {m:List (Int×Bool)},(m.map (·.1)).Nodup->BW T3 .bool x (oJ T3 .bool k m)=if x=k then none else BW T3 .bool x m
 | [],_=>by simp[oJ,BW]
 | y :: m,h=>by
  rw[Rd,iS]at h;unfold oJ;split
  .rename_i e;have e:k=y.1:=by simpa[Iv] using e
   by_cases hx:x=k
   .rw[BY hx,hx,e];exact Z7 h.1
   rw[At hx];have b:¬x=y.1:=by rw[<-e];exact hx
   simp[BW,Iv,b]
  rename_i e;have e:¬k=y.1:=by simpa[Iv] using e
  have d:=Z8 x k h.2;by_cases a:x=y.1
  .have c:¬x=k:=by rw[a];exact λg=>e g.symm
   rw[At c];simp[BW,Iv,a]
  have hn:¬Iv T3 x y.1=true:=by simpa[Iv] using a
  simp only[BW];rw[At hn,At hn,d]
theorem MI.zero:MI [] (List.replicate 0 true):=⟨List.nodup_nil,λk=>by simp[BW]⟩
theorem MI.put {m:List (Int×Bool)} (h:MI m (List.replicate i true)):MI (F1 T3 .bool (i:Int) true m) (List.replicate (i+1) true):=by
 refine⟨(v4 _ _ h.nd).1,λ(k:Int)=>?_⟩;rw[Xl,h.get];by_cases hk:k=(i:Int)
 .rw[BY hk,BY];subst hk;refine⟨AB4 _,?_⟩;simp[AS,AAz]
 rw[At hk];have e:(0<=k/\(List.replicate i true).getD k.toNat false=true)↔(0<=k/\(List.replicate (i+1) true).getD k.toNat false=true):=by
  simp only[AS,AAz];constructor
  .rintro⟨a,b⟩;refine⟨a,?_⟩;split at b
   .rw[BY O1];rfl
   simp at b
  rintro⟨a,b⟩;refine⟨a,?_⟩;split at b
  .rw[BY O1];rfl
  simp at b
 by_cases c:0<=k/\(List.replicate i true).getD k.toNat false=true
 .rw[BY c,BY (e.1 c)]
 rw[At c,At λg=>c (e.2 g)]
theorem MI.del {m:List (Int×Bool)} {l:List Bool} (h:MI m l) (i:Nat):MI (oJ T3 .bool (i:Int) m) (l.set i false):=by
 refine⟨h.nd.sublist ((kV _ m).map _),λ(k:Int)=>?_⟩;rw[Z8 _ _ h.nd,h.get];by_cases hk:k=(i:Int)
 .subst hk;rw[BY rfl,At];rintro⟨-,b⟩;rw[RG]at b;simp only[AS,oN]at b;rw[BY trivial]at b;split at b<;>simp at b
 rw[At hk];by_cases a:0<=k
 .have c:¬i=k.toNat:=by omega
  simp only[AS,oN];rw[At c]
 rw[At λg=>a g.1,At λg=>a g.1]
theorem Nn {x:Int}:∀ {m:List (Int×Bool)},x∈m.map (·.1)->BW T3 .bool x m≠none
 | y :: m,h=>by
  unfold BW;split
  .simp
  rename_i e;rcases DO.1 h with h|h
  .exact absurd (by simp[Iv,h]) e
  exact Nn h
theorem MI.len {m:List (Int×Bool)} {l:List Bool} (h:MI m l):m.length<=l.length:=by
 have h1:((m.map (·.1)).map Int.toNat).Nodup:=by
  rw[List.Nodup,bY];refine h.nd.imp_of_mem λ{a b:Int} ha hb f e=>f ?_;have h1:=Nn ha;have c:=Nn hb;rw[h.get]at h1 c;have i:0<=a:=IS λg=>h1 (At λq=>g q.1);have k:0<=b:=IS λg=>c (At λq=>g q.1);omega
 have:=EI l.length _ h1 (λj d=>by
  obtain⟨x,hx,rfl⟩:=Do.1 d;have h1:=Nn hx;rw[h.get]at h1;refine IS λhn=>h1 (At λg=>?_);have:=g.2;rw[AS,RP O1]at this;cases this)
 simpa using this
def z9 (N:List AC) (i:Nat) (v:Int×Int):List AC:=N.set i ((N.getD i (0,[])).1,(N.getD i (0,[])).2++[(v.1,(N.length:Int))])++[(v.2,[])]
theorem A3u (N:List AC) (i:Nat) (v:Int×Int):(z9 N i v).length=N.length+1:=by simp[z9]
structure TI2 (h:AG) (m i k:Nat) (N:List AC):Prop where
 len:N.length<=m
 ty:∀x∈N,0<=x.1/\x.1<(h.1.length:Int)
 lo:∀j,j<i->(N.getD j (0,[])).2.length<=200
 at':(N.getD i (0,[])).2.length<=100+k
 hi:∀j,i<j->(N.getD j (0,[])).2.length<=100
theorem A3v {α:Type} (l:List α) (x d:α) (j:Nat):(l++[x]).getD j d=if j<l.length then l.getD j d else if j=l.length then x else d:=by
 simp only[AS];by_cases h:j<l.length
 .rw[BY h,RU h]
 rw[At h,RS O1];by_cases e:j=l.length
 .rw[BY e,e,AAD];rfl
 rw[At e,RP (by simp only[GO];omega)];rfl
theorem Np {α:Type} (l:List α) (x d:α) (h:i<l.length) (j:Nat):(l.set i x).getD j d=if j=i then x else l.getD j d:=by
 simp only[AS,oN];by_cases e:i=j
 .rw[BY e,BY h,BY e.symm];rfl
 rw[At e,At (show ¬j=i by omega)]
theorem A3w {N:List AC} (h:i<N.length) (v:Int×Int) (j:Nat):(z9 N i v).getD j (0,[])=if j=i then ((N.getD i (0,[])).1,(N.getD i (0,[])).2++[(v.1,(N.length:Int))]) else if j=N.length then (v.2,[]) else N.getD j (0,[]):=by
 unfold z9;rw[A3v,Np _ _ _ h,TA];by_cases a:j=i
 .rw[BY a,BY O1,BY a]
 rw[At a,At a];by_cases c:j<N.length
 .rw[BY c,At O1]
 rw[At c];by_cases b:j=N.length
 .rw[BY b,BY b]
 rw[At b,At b,AS,RP O1];rfl
theorem TI2.add {m i:Nat} {N:List AC} (a:TI2 h m i k N) (hi:i<N.length) (hm:4096<=m) (hl:N.length<4096) {v:Int×Int} (v0:0<=v.2) (v1:v.2<(h.1.length:Int)):TI2 h m i (k+1) (z9 N i v):=by
 have b:=λj=>A3w hi v j;refine⟨by rw[A3u];omega,λx hx=>?_,λj c=>?_,?_,λj c=>?_⟩
 .unfold z9 at hx;rcases Fg.1 hx with hx|hx
  .rcases ABh hx with hx|rfl
   .exact a.ty x hx
   exact(a.ty (N.getD i (0,[])) (AE N (0,[]) hi) :)
  rw[RH.1 hx];exact⟨v0,v1⟩
 .rw[b,At O1,At O1];exact a.lo j c
 .rw[b,BY rfl];have:=a.at';simp only[By,GO];omega
 rw[b,At O1];split
 .simp
 exact a.hi j c
theorem TI2.skip {m i:Nat} {N:List AC} (a:TI2 h m i k N):TI2 h m i (k+1) N:=⟨a.len,a.ty,a.lo,by have:=a.at';omega,a.hi⟩
theorem TI2.next {m i:Nat} {N:List AC} (a:TI2 h m i k N) (hk:k<=100):TI2 h m (i+1) 0 N:=⟨a.len,a.ty,λj b=>by
 by_cases e:j=i
 .have:=a.at';rw[e];omega
 exact a.lo j O1,a.hi (i+1) O1,λj b=>a.hi j O1⟩
theorem qY (d:List AK):Nd ((A3 d).1.1.map λt=>t.2.1):=by
 unfold A3;split
 .exact⟨.nil,λc h=>(by cases h)⟩
 rename_i a;have a:(Ba d).2=0:=IS a;have g:BZ d=0:=by
  unfold Ba at a;split at a
  .rename_i h;exact absurd a h
  rename_i h;exact IS h
 obtain⟨k,-,-⟩:=Cp g;obtain⟨f,m,-⟩:=Bt k;have hf:Nd (A7 (Aj d)):=dM (Zw f);have e:((HE d).1.map λt=>t.2.1)=(A5 d).map λx=>x.2:=by
  show ((FM _ _ _).map λt=>t.2.1)=_;unfold FM;rw[AAb];apply oS
  .simp
  intro i h1 l;simp[AS,show i<(A5 d).length by simpa using h1]
 show Nd ((HE d).1.map λt=>t.2.1);rw[e];refine⟨Mt (by simpa using hf.nd),λc j=>?_⟩;obtain⟨x,hx,rfl⟩:=Do.1 j;obtain⟨b,hb,rfl⟩:=Dw.1 hx;exact hf.nrm b hb
def Aw (n:Nat):List Int:=(List.range n).map λ(i:Nat)=>(i:Int)
theorem CO (n:Nat):(Aw n).length=n:=by simp[Aw]
theorem UM (n:Nat):Aw (n+1)=Aw n++[(n:Int)]:=by simp[Aw,S9]
theorem Fe {n k:Nat} (h:k<n):(Aw n).getD k 0=(k:Int):=by
 unfold Aw;rw[AS,Rb,AAC h];rfl
def qZ:Ab:={ ins:=[T3],pre:=λ(n,_)=>(0:Int)<=n/\n<=(100000:Int),out:=λ(n,_)=>[.own 3 T3 (Aw (Int.toNat n))] }
theorem A3x:Ac Tryz.prog 101 qZ:=by
 refine fK [0,2,3,4,7] Tryz.func101 Tryz.ntmps101 AI ?_;rintro w0 O0 ⟨n,u⟩ a-⟨h0,h1⟩;simp only[qZ,AM];repeat'(first|exact trivial|apply eS rfl|refine rX a ?_ ?_)
 refine AJ (ι:={i:Nat//i<=n.toNat}) (λi=>⟨[(0,.p T3 n),(3,.sr 13 T3 0 i.1),(4,.p (.int .i64) (i.1:Int))],[(13,.arr 3 T3 (Aw i.1))]⟩) (λi=>n.toNat-i.1) ⟨0,by omega⟩ (AD [(13,.nil)] rfl rfl ?_ ?_) (λi=>?_)
 .refine eM ?_;rfl
 .exact eN
 obtain⟨i,hi⟩:=i;repeat'(first|exact trivial|apply eS rfl|apply AB|refine rX a ?_ ?_|refine rC ?_ ?_<;>intro b<;>try(cases b;done))
 .simp only[AQ];exact eV
 .exact eV
 .have c:(Aw i).take i=Aw i:=As (by rw[CO];exact IN i);refine⟨⟨i+1,by exact eV⟩,by simp only;exact eV,AD [(13,.nm 13)] rfl rfl ?_ ?_⟩
  .simp only;rw[c,UM];exact eN
  exact eN
 have hn:i=n.toNat:=by exact eV
 subst hn;exact Vu a (.inl rfl) (rv:=.tmp 2) rfl (by simp only[L9,Jx,I4,go_sem,Nat.reduceEqDiff,reduceCtorEq,Nat.reduceAdd,Nat.reduceSub,Nat.reduceMul,Nat.reduceLeDiff,Nat.reduceLT,Int.reduceLE,Int.reduceToNat,Int.reduceNeg,↓reduceIte];exact(CO _).symm)
def EE (c:List Int) (m n:Int):Int:=if c.getD n.toNat 0<c.getD m.toNat 0 then c.getD n.toNat 0 else c.getD m.toNat 0
def Cb (c:List Int) (m n:Int):Int:=if c.getD m.toNat 0<c.getD n.toNat 0 then c.getD n.toNat 0 else c.getD m.toNat 0
def HY (hi lo x:Int):Int:=if x=hi then lo else x
def B4 (c:List Int) (m n:Int):List Int:=c.map (HY (Cb c m n) (EE c m n))
def dX:Ab:={ ins:=[D6,T3,T3],pre:=λ(c,m,n,_)=>List.length c<=100000/\((0:Int)<=m/\m<(List.length c:Int))/\((0:Int)<=n/\n<(List.length c:Int)),out:=λ(c,m,n,_)=>[.p D6 (B4 c m n)] }
theorem kW:Ac Tryz.prog 100 dX:=by
 refine fK [0,1,2,6,7,8,9,10,35,43] Tryz.func100 Tryz.ntmps100 AI ?_;rintro w0 O0 ⟨c,m,n,u⟩ d-⟨hl,hm,hn⟩;simp only[dX,AM];repeat'(first|exact trivial|apply eS rfl|refine rX d ?_ ?_)
 .exact⟨hm,hn⟩
 .exact⟨hm,hn⟩
 .simp only[AQ];exact eV
 have r:(if List.getD c (Int.toNat n) 0<List.getD c (Int.toNat m) 0 then List.getD c (Int.toNat n) 0 else List.getD c (Int.toNat m) 0)=EE c m n:=rfl;have o:(if List.getD c (Int.toNat m) 0<List.getD c (Int.toNat n) 0 then List.getD c (Int.toNat n) 0 else List.getD c (Int.toNat m) 0)=Cb c m n:=rfl;rw[r,o];have j:B4 c m n=c.map (HY (Cb c m n) (EE c m n)):=rfl;generalize EE c m n=lo at *;generalize Cb c m n=hi at *;refine AJ (ι:={i:Nat//i<=c.length}) (λi=>⟨[(7,.p T3 lo),(8,.p T3 hi),(9,.sr 29 T3 0 c.length),(10,.p (.int .i64) (i.1:Int))],[(29,.arr 3 T3 ((c.take i.1).map (HY hi lo)++c.drop i.1))]⟩) (λi=>c.length-i.1) ⟨0,by omega⟩ (eW [(29,.nm 29)]) (λi=>?_)
 obtain⟨i,g⟩:=i;have f:i<c.length->((c.take i).map (HY hi lo)++c.drop i).getD i 0=c.getD i 0:=λh=>by
  rw[AS,RS (by simp;omega)];simp only[No,On,AAI g,AAD,AAd,ACV];rw[AS]
 have t:∀x,i<c.length->((c.take i).map (HY hi lo)++c.drop i).set i x=(c.take i).map (HY hi lo)++[x]++c.drop (i+1):=λx h=>by
  rw[AAY _ _ (by simp;omega)];simp only[No,On,AAI g,AAD];rw[Is h,ABa,RI];rfl
 have k:∀x,i<c.length->x=HY hi lo (c.getD i 0)->(c.take i).map (HY hi lo)++[x]++c.drop (i+1)=(c.take (i+1)).map (HY hi lo)++c.drop (i+1):=λx h e=>by
  rw[Af c 0 h,RY,e];rfl
 have q:i<c.length->(c.take i).map (HY hi lo)++c.drop i=(c.take i).map (HY hi lo)++[c.getD i 0]++c.drop (i+1):=λh=>by
  rw[Is h,RI,AS,AT h];rfl
 repeat'(first|exact trivial|apply eS rfl|apply AB|refine rX d ?_ ?_|refine rC ?_ ?_<;>intro b<;>try(cases b;done))
 .exact b
 .exact eV
 .exact eV
 .have a:i<c.length:=by exact eV
  rw[f a]at b;refine⟨⟨i+1,by omega⟩,by simp only;omega,AD [(29,.nm 29)] rfl rfl ?_ ?_⟩
  .simp only;rw[<-k lo a (by unfold HY;rw[BY b]),<-t lo a];exact eN
  exact eN
 .exact eV
 .have a:i<c.length:=by exact eV
  rw[f a]at b;refine⟨⟨i+1,by omega⟩,by simp only;omega,AD [(29,.nm 29)] rfl rfl ?_ ?_⟩
  .simp only;rw[<-k (c.getD i 0) a (by unfold HY;rw[At b]),<-q a];exact eN
  exact eN
 have a:c.length<=i:=by exact eV
 have l:(c.take i).map (HY hi lo)++c.drop i=B4 c m n:=by
  rw[As a,OR a,S6,j]
 rw[l];have s:(B4 c m n).take c.length=B4 c m n:=As (by rw[j,No];exact IN _);exact fI d [.tmp 6] (by first|exact eR|refine Tp ?_;exact s)
def Cs (l:List (Int×Int)) (e:Int):Int×Bool:=match l with
 | []=>(0,false)
 | a :: r=>if a.1=e then (a.2,true) else Cs r e
def q9:Ab:={ ins:=[Cl,T3],pre:=λ_=>True,out:=λ(l,e,_)=>[.p T3 (Cs l e).1,.p .bool (Cs l e).2],lend:=true }
theorem A3y:Ac Tryz.prog 135 q9:=by
 refine fK [0,1,4,5,6,10,19] Tryz.func135 Tryz.ntmps135 AI ?_;rintro w0 O0 ⟨l,n,u⟩ d ⟨⟨hl,-⟩,-⟩ -;simp only[AQ]at hl;simp only[q9,AM];repeat'(first|exact trivial|apply eS rfl|refine rX d ?_ ?_)
 refine AJ (ι:={k:Nat//k<=l.length/\Cs (l.drop k) n=Cs l n}) (λk=>⟨[(0,.p Cl l),(1,.p T3 n),(6,.p (.int .i64) (k.1:Int))],[]⟩) (λk=>l.length-k.1) ⟨0,by simp⟩ (eW []) (λk=>?_)
 obtain⟨k,hk,a⟩:=k;repeat'(first|exact trivial|apply eS rfl|apply AB|refine rX d ?_ ?_|refine rC ?_ ?_<;>intro c<;>try(cases c;done))
 .exact c
 .exact eV
 .have b:k<l.length:=by exact eV
  have hd:l.drop k=l.getD k (0,0) :: l.drop (k+1):=by
   rw[Is b,AS,AT b];rfl
  rw[hd]at a;have a:(if (l.getD k (0,0)).1=n then ((l.getD k (0,0)).2,true) else Cs (l.drop (k+1)) n)=Cs l n:=a;rw[BY c]at a;exact fI d [.tmp 4,.tmp 5] (by rw[<-a];exact eR)
 .exact eV
 .have b:k<l.length:=by exact eV
  have hd:l.drop k=l.getD k (0,0) :: l.drop (k+1):=by
   rw[Is b,AS,AT b];rfl
  rw[hd]at a;have a:(if (l.getD k (0,0)).1=n then ((l.getD k (0,0)).2,true) else Cs (l.drop (k+1)) n)=Cs l n:=a;rw[At c]at a;exact⟨⟨k+1,by omega,a⟩,by simp only;omega,eW []⟩
 have hk:l.drop k=[]:=OR (by exact eV);rw[hk]at a;have a:(0,false)=Cs l n:=a;exact fI d [.tmp 4,.tmp 5] (by rw[<-a];exact eR)
def EW (l h:List (Int×Int)):List (Int×Int):=h.filterMap λx=>if (Cs l x.1).2=true then some ((Cs l x.1).1,x.2) else none
def Fy (l h:List (Int×Int)):List (Int×Int):=l++h.filter λx=>!(Cs l x.1).2
theorem Xp (l h:List (Int×Int)):(Fy l h).length+(EW l h).length=l.length+h.length:=by
 unfold Fy EW;induction h with
 | nil=>simp
 | cons x h a =>
  simp only[By,oR,List.filterMap_cons,NO]at a ⊢;cases hx:(Cs l x.1).2
  .simp only[ACG,AAF,oF,AAV,NO];omega
  simp only[ACN,oF,AAV,AAF,NO];omega
theorem dY {h:List (Int×Int)} {x:Int×Int} (hx:(Cs l x.1).2=true):EW l (h++[x])=EW l h++[((Cs l x.1).1,x.2)]/\Fy l (h++[x])=Fy l h:=by
 unfold EW Fy;simp[List.filterMap_append,hx]
theorem dZ {h:List (Int×Int)} {x:Int×Int} (hx:(Cs l x.1).2=false):EW l (h++[x])=EW l h/\Fy l (h++[x])=Fy l h++[x]:=by
 unfold EW Fy;simp[List.filterMap_append,hx]
theorem Nq {e:Int} (h:(Cs l e).2=true):(e,(Cs l e).1)∈l:=by
 induction l with
 | nil=>cases h
 | cons a r b =>
  unfold Cs at h ⊢;by_cases ha:a.1=e
  .rw[BY ha];subst ha;exact ABq
  rw[At ha]at h ⊢;exact If _ (b h)
theorem Xq {e:Int} (a:Int×Int) (ha:a∈l) (c:a.1=e):(Cs l e).2=true:=by
 induction l with
 | nil=>cases ha
 | cons b r d =>
  unfold Cs;by_cases hb:b.1=e
  .rw[BY hb]
  rw[At hb];rcases DO.1 ha with rfl|ha
  .exact absurd c hb
  exact d ha
def Q1:Nat->(Nat->Nat)->Nat
 | 0,_=>0
 | n+1,f=>Q1 n f+f n
theorem rB {n:Nat} {f g:Nat->Nat} (h:∀k,k<n->g k=f k):Q1 n g=Q1 n f:=by
 induction n with
 | zero=>rfl
 | succ n a=>simp only[Q1];rw[a λk hk=>h k O1,h n O1]
theorem kX {n:Nat} {f g:Nat->Nat} {a:Nat} (ha:a<n) (h:∀k,k<n->k≠a->g k=f k):Q1 n g+f a=Q1 n f+g a:=by
 induction n with
 | zero=>omega
 | succ n b =>
  simp only[Q1];by_cases e:a=n
  .subst e;rw[rB (n:=a) (f:=f) λk hk=>h k O1 O1];omega
  have:=b O1 λk hk=>h k O1;have:=h n O1 (λh=>e h.symm);omega
theorem kY {n:Nat} {f g:Nat->Nat} {a b:Nat} (ha:a<n) (hb:b<n) (d:a≠b) (h:∀k,k<n->k≠a->k≠b->g k=f k):Q1 n g+f a+f b=Q1 n f+g a+g b:=by
 have h1:=kX (f:=f) (g:=λk=>if k=a then g a else f k) ha (λk hk i=>by simp only[At i]);have c:=kX (f:=λk=>if k=a then g a else f k) (g:=g) hb (λk hk j=>by
  by_cases e:k=a
  .subst e;simp
  simp only[At e];exact h k hk e j)
 simp only[AAF,At (λe:b=a=>d e.symm)]at h1 c;omega
theorem A3z {n:Nat} {f:Nat->Nat} {a b:Nat} (ha:a<n) (hb:b<n) (d:a≠b):f a+f b<=Q1 n f:=by
 have:=kY (f:=f) (g:=λk=>if k=a\/k=b then 0 else f k) ha hb d (λk _ h1 c=>by simp[h1,c]);simp at this;omega
theorem rD {n B:Nat} {f:Nat->Nat} (h:∀k,k<n->f k<=B):Q1 n f<=n*B:=by
 induction n with
 | zero=>simp[Q1]
 | succ n a =>
  simp only[Q1];have:=a λk hk=>h k O1;have:=h n O1;rw[AB3];omega
def Pb (o:List Int) (ar:List (List (Int×Int))):Nat:=Q1 o.length λk=>if o.getD k 0=(k:Int) then (ar.getD k []).length else 0
structure CI (n:Nat) (o:List Int) (ar:List (List (Int×Int))) (W:List (Int×Int)):Prop where
 lo:o.length=n
 la:ar.length=n
 rep:∀k:Nat,k<n->0<=o.getD k 0/\o.getD k 0<=(k:Int)/\o.getD (o.getD k 0).toNat 0=o.getD k 0
 wr:∀w∈W,(0<=w.1/\w.1<(n:Int))/\(0<=w.2/\w.2<(n:Int))
 ta:∀k,∀a∈ar.getD k [],0<=a.2/\a.2<(n:Int)
theorem CI.rng {n:Nat} {o:List Int} {ar:List (List (Int×Int))} (h:CI n o ar l) {x:Int} (c:0<=x) (d:x<(n:Int)):0<=o.getD x.toNat 0/\o.getD x.toNat 0<(n:Int)/\o.getD (o.getD x.toNat 0).toNat 0=o.getD x.toNat 0:=by
 obtain⟨h1,b,a⟩:=h.rep x.toNat O1;exact⟨h1,by omega,a⟩
theorem Nr {c:List Int} {m n:Int} {k:Nat} (hk:k<c.length):(B4 c m n).getD k 0=HY (Cb c m n) (EE c m n) (c.getD k 0):=by
 unfold B4;rw[AS,Rb,AT hk,AS,AT hk];rfl
theorem H3 (c:List Int) (m n:Int):(B4 c m n).length=c.length:=by simp[B4]
structure LH (o:List Int) (n:Nat) (lo hi:Int):Prop where
 l0:0<=lo
 lt:lo<hi
 h1:hi<(n:Int)
 rl:o.getD lo.toNat 0=lo
 rh:o.getD hi.toNat 0=hi
section
variable {n:Nat} {o:List Int} {ar:List (List (Int×Int))} {W:List (Int×Int)} {x y:Int}
theorem A3A (h:CI n o ar W) (i:0<=x) (j:x<(n:Int)) (k:0<=y) (l:y<(n:Int)) (a:EE o x y≠Cb o x y):LH o n (EE o x y) (Cb o x y):=by
 obtain⟨f,g,d⟩:=h.rng i j;obtain⟨b1,b2,e⟩:=h.rng k l;unfold EE Cb at a ⊢;by_cases b:o.getD y.toNat 0<o.getD x.toNat 0
 .rw[BY b,At O1];exact⟨b1,b,g,e,d⟩
 rw[At b]at a ⊢;by_cases c:o.getD x.toNat 0<o.getD y.toNat 0
 .rw[BY c];exact⟨f,c,b2,d,e⟩
 rw[At c]at a;exact absurd rfl a
theorem v5 {w:Int×Int} (h:CI n o ar (w :: W)):CI n o ar W:=⟨h.lo,h.la,h.rep,λu hu=>h.wr u (If _ hu),h.ta⟩
theorem Ih (l:List (List (Int×Int))) (v:List (Int×Int)) (i j:Nat) (hi:i<l.length):(l.set i v).getD j []=if j=i then v else l.getD j []:=by
 simp only[AS,oN];by_cases e:i=j
 .subst e;simp[hi]
 rw[At e,At (λh=>e h.symm)]
theorem HZ {hi lo v:Int} (h:v≠hi):HY hi lo v=v:=At h
theorem Ii {hi lo:Int}:HY hi lo hi=lo:=BY rfl
theorem kZ (h:CI n o ar W) (hl:LH o n (EE o x y) (Cb o x y)) :
  CI n (B4 o x y) (ar.set (EE o x y).toNat (Fy (ar.getD (EE o x y).toNat []) (ar.getD (Cb o x y).toNat []))) (W++EW (ar.getD (EE o x y).toNat []) (ar.getD (Cb o x y).toNat [])):=by
 have d:=λ(k:Nat) (hk:k<n)=>Nr (m:=x) (n:=y) (show k<o.length by rw[h.lo];exact hk);have i:=H3 o x y;generalize EE o x y=lo at *;generalize Cb o x y=hi at *;obtain⟨l0,lt,h1,rl,rh⟩:=hl;have g:=h.lo;have f:=h.la;refine⟨by rw[i];exact g,by rw[TA];exact f,λk hk=>?_,λw b=>?_,λk a ha=>?_⟩
 .obtain⟨j,l,p⟩:=h.rep k hk;rw[d k hk];by_cases e:o.getD k 0=hi
  .rw[e,Ii,d _ O1,rl,HZ O1];exact⟨l0,by omega,rfl⟩
  rw[HZ e,d _ O1,p,HZ e];exact⟨j,l,rfl⟩
 .rcases Fg.1 b with b|b
  .exact h.wr w b
  obtain⟨a,ha,c⟩:=ABD.1 b;split at c
  .rename_i ht;cases c;exact⟨h.ta _ _ (Nq ht),h.ta _ a ha⟩
  cases c
 rw[Ih _ _ _ _ O1]at ha;split at ha
 .rcases Fg.1 ha with ha|ha
  .exact h.ta _ a ha
  exact h.ta _ a (AAn.1 ha).1
 exact h.ta _ a ha
theorem Xr (h:CI n o ar W) (hl:LH o n (EE o x y) (Cb o x y)) :
  Pb (B4 o x y) (ar.set (EE o x y).toNat (Fy (ar.getD (EE o x y).toNat []) (ar.getD (Cb o x y).toNat [])))+(EW (ar.getD (EE o x y).toNat []) (ar.getD (Cb o x y).toNat [])).length=Pb o ar:=by
 have c:=λ(k:Nat) (hk:k<n)=>Nr (m:=x) (n:=y) (show k<o.length by rw[h.lo];exact hk);have q:=H3 o x y;generalize EE o x y=lo at *;generalize Cb o x y=hi at *;obtain⟨l0,lt,h1,rl,rh⟩:=hl;have p:=h.lo;have t:=h.la;have s:=Xp (ar.getD lo.toNat []) (ar.getD hi.toNat []);have hs:=kY (n:=n) (f:=λk=>if o.getD k 0=(k:Int) then (ar.getD k []).length else 0)
  (g:=λk=>if (B4 o x y).getD k 0=(k:Int) then ((ar.set lo.toNat (Fy (ar.getD lo.toNat []) (ar.getD hi.toNat []))).getD k []).length else 0)
  (a:=lo.toNat) (b:=hi.toNat) O1 O1 O1 (λk hk r u=>by
   rw[c k hk,Ih _ _ _ _ O1,At r];by_cases e:o.getD k 0=hi
   .rw[e,Ii,At O1,At O1]
   rw[HZ e])
 have d:(o.getD lo.toNat 0=((lo.toNat:Nat):Int)):=by rw[rl];omega
 have i:(o.getD hi.toNat 0=((hi.toNat:Nat):Int)):=by rw[rh];omega
 have j:((B4 o x y).getD lo.toNat 0=((lo.toNat:Nat):Int)):=by rw[c _ O1,rl,HZ O1];omega
 have l:¬((B4 o x y).getD hi.toNat 0=((hi.toNat:Nat):Int)):=by rw[c _ O1,rh,Ii];omega
 simp only[BY d,BY i,BY j,At l]at hs;rw[Ih _ _ _ _ O1,BY rfl]at hs;unfold Pb;rw[q,p];omega
theorem A3B (h:CI n o ar W) {lo hi:Int} (hl:LH o n lo hi):(ar.getD lo.toNat []).length+(ar.getD hi.toNat []).length<=Pb o ar:=by
 obtain⟨l0,lt,h1,rl,rh⟩:=hl;have e:=h.lo;have:=A3z (n:=n) (f:=λk=>if o.getD k 0=(k:Int) then (ar.getD k []).length else 0) (a:=lo.toNat) (b:=hi.toNat) O1 O1 O1;have c:(o.getD lo.toNat 0=((lo.toNat:Nat):Int)):=by rw[rl];omega
 have d:(o.getD hi.toNat 0=((hi.toNat:Nat):Int)):=by rw[rh];omega
 simp only[BY c,BY d]at this;unfold Pb;rw[e];exact this
end
def Jp:Nat->List Int->List (List (Int×Int))->List (Int×Int)->List Int
 | 0,o,_,_=>o
 | _+1,o,_,[]=>o
 | k+1,o,ar,w :: W=>if EE o w.1 w.2=Cb o w.1 w.2 then Jp k o ar W
  else Jp k (B4 o w.1 w.2) (ar.set (EE o w.1 w.2).toNat (Fy (ar.getD (EE o w.1 w.2).toNat []) (ar.getD (Cb o w.1 w.2).toNat []))) (W++EW (ar.getD (EE o w.1 w.2).toNat []) (ar.getD (Cb o w.1 w.2).toNat []))
theorem rE (k:Nat) (o:List Int) (ar:List (List (Int×Int))):Jp k o ar []=o:=by cases k<;>rfl
def Eu (c:List Int) (i:Nat):List (Int×Int):=((List.range i).filter λ(k:Nat)=>decide (c.getD k 0≠(k:Int))).map λ(k:Nat)=>((k:Int),c.getD k 0)
theorem A00 (c:List Int) (i:Nat):(Eu c i).length<=i:=by
 unfold Eu;rw[No];exact RF (AAx _ _) sc
theorem k5 {c:List Int} (h:c.getD i 0≠(i:Int)):Eu c (i+1)=Eu c i++[((i:Int),c.getD i 0)]:=by
 unfold Eu;have e:[i].filter (λ(k:Nat)=>decide (c.getD k 0≠(k:Int)))=[i]:=by rw[oR,BY (by simpa using h)];rfl
 rw[S9,ABr,RY,e];rfl
theorem k6 {c:List Int} (h:c.getD i 0=(i:Int)):Eu c (i+1)=Eu c i:=by
 unfold Eu;have e:[i].filter (λ(k:Nat)=>decide (c.getD k 0≠(k:Int)))=[]:=by rw[oR,At (by simpa using h)];rfl
 rw[S9,ABr,RY,e,ABN,S6]
def Gf (l:List AC):List (List (Int×Int)):=l.map (·.2)
theorem KJ (l:List AC) (k:Nat):(Gf l).getD k []=(l.getD k (0,[])).2:=by
 unfold Gf;rw[AS,Rb,AS];cases l[k]?<;>rfl
def LJ (l:List AC) (c:List Int):List Int:=Jp (Pb (Aw l.length) (Gf l)+(Eu c l.length).length) (Aw l.length) (Gf l) (Eu c l.length)
theorem k7 {l:List AC} (hl:AN l) {c:List Int} (d:∀x∈c,0<=x/\x<(l.length:Int)) (e:c.length=l.length):CI l.length (Aw l.length) (Gf l) (Eu c l.length):=by
 refine⟨CO _,by simp[Gf],λk hk=>?_,λw b=>?_,λk a ha=>?_⟩
 .rw[Fe hk];exact⟨by omega,by omega,by rw[Fe O1];omega⟩
 .unfold Eu at b;obtain⟨k,hk,rfl⟩:=Do.1 b;have hk:=(AAn.1 hk).1;have hk:=Ra.1 hk;refine⟨⟨by simp only;omega,by simp only;omega⟩,d _ (AE c 0 O1)⟩
 rw[KJ]at ha;by_cases hk:k<l.length
 .exact(hl.2 _ (AE l (0,[]) hk)).2 a ha
 rw[AS,RP O1]at ha;cases ha
theorem rF {l:List AC} (hl:AN l):Pb (Aw l.length) (Gf l)<=10000000000:=by
 unfold Pb;rw[CO];have:=rD (n:=l.length) (B:=100000) (f:=λk=>if (Aw l.length).getD k 0=(k:Int) then ((Gf l).getD k []).length else 0) (λk hk=>by
  split
  .rw[KJ];exact(hl.2 _ (AE l (0,[]) hk)).1
  omega)
 have h1:=hl.1;have:l.length*100000<=100000*100000:=Rc _ h1;omega
section
attribute [local go_sem] Wa A2e
def Sm:Ab:={ ins:=[Cv,T3,T3],pre:=λ(f,n,_,_)=>(0:Int)<=n/\n<(List.length f:Int),out:=λ(f,n,e,_)=>[.p T3 (Cs (List.getD (f:List AC) (Int.toNat n) (0,[])).2 e).1,.p .bool (Cs (List.getD (f:List AC) (Int.toNat n) (0,[])).2 e).2],lend:=true }
attribute [local go_sem] Sm
theorem k8:Ac Tryz.prog 137 Sm:=by
 refine fK [0,1,2,3,6,7,8,9,19,28] Tryz.func137 Tryz.ntmps137 AI ?_;rintro w0 O0 ⟨f,n,e,u⟩ b ⟨⟨j,hf⟩,-⟩ hn;simp only[Sm,AM];repeat'(first|exact trivial|apply eS rfl|refine rX b ?_ ?_)
 .exact hn
 have i:List.length (List.getD (f:List AC) (Int.toNat n) (0,[])).2<=AQ:=by
  have h1:Int.toNat n<List.length f:=(ACC hn.1).2 hn.2;have:=hf _ (AE (f:List AC) (0,[]) h1);exact this.2.1
 simp only[AQ]at i;generalize (List.getD (f:List AC) (Int.toNat n) (0,[])).2=l at *;refine AJ (ι:={k:Nat//k<=l.length/\Cs (l.drop k) e=Cs l e}) (λk=>⟨[(2,.p T3 e),(8,.p Cl l),(9,.p (.int .i64) (k.1:Int))],[]⟩) (λk=>l.length-k.1) ⟨0,by simp⟩ (eW []) (λk=>?_)
 obtain⟨k,hk,a⟩:=k;have hd:k<l.length->l.drop k=l.getD k (0,0) :: l.drop (k+1):=λh=>by
  rw[Is h,AS,AT h];rfl
 have g:k<l.length->(if (l.getD k (0,0)).1=e then ((l.getD k (0,0)).2,true) else Cs (l.drop (k+1)) e)=Cs l e:=λh=>by
  rw[hd h]at a;exact a
 repeat'(first|exact trivial|apply eS rfl|apply AB|refine rX b ?_ ?_|refine rC ?_ ?_<;>intro c<;>try(cases c;done))
 .exact eV
 .exact eV
 .have d:k<l.length:=by exact eV
  have a:=g d;rw[BY c]at a;exact fI b [.tmp 6,.tmp 7] (by rw[<-a];exact eR)
 .exact eV
 .have d:k<l.length:=by exact eV
  have a:=g d;rw[At c]at a;exact⟨⟨k+1,by omega,a⟩,by simp only;omega,eW []⟩
 have hk:l.drop k=[]:=OR (by exact eV);rw[hk]at a;have a:(0,false)=Cs l e:=a;exact fI b [.tmp 6,.tmp 7] (by rw[<-a];exact eR)
def FP (b:List Int):List FL->Nat->Int×Bool
 | [],_=>(0,false)
 | t :: r,k=>if t.2.1=b then ((k:Int),true) else FP b r (k+1)
def rG:Ab:={ ins:=[Ec,ER],pre:=λ_=>True,out:=λ(h,b,_)=>[.p T3 (FP b (h:AG).1 0).1,.p .bool (FP b (h:AG).1 0).2],lend:=true }
attribute [local go_sem] rG
theorem A3C:Ac Tryz.prog 152 rG:=by
 refine fK [0,1,2,4,5,6,11,21] Tryz.func152 Tryz.ntmps152 (AF cA AI) ?_;rintro w0 O0 ⟨⟨l,hf⟩,b,u⟩ d ⟨⟨⟨hl,-⟩,-⟩,-⟩ -;simp only[AQ]at hl;simp only[rG,AM];repeat'(first|exact trivial|apply eS rfl|refine rX d ?_ ?_)
 refine AJ (ι:={k:Nat//k<=List.length l/\FP b (List.drop k l) k=FP b l 0}) (λk=>⟨[(1,.p ER b),(2,.bp 2 [] 0),(6,.p (.int .i64) (k.1:Int))],[(2,.box 29 true [.p mZ l,.p tZ hf])]⟩) (λk=>List.length l-k.1) ⟨0,by simp⟩ (eW [(2,.nm 2)]) (λk=>?_)
 obtain⟨k,hk,a⟩:=k;have f:k<List.length l->(if (List.getD l k SL).2.1=b then ((k:Int),true) else FP b (List.drop (k+1) l) (k+1))=FP b l 0:=λh=>by
  rw[Is h]at a;rw[AS,AT h];exact a
 repeat'(first|exact trivial|apply eS rfl|apply AB|refine rX d ?_ ?_|refine rC ?_ ?_<;>intro c<;>try(cases c;done))
 .exact eV
 .have e:k<List.length l:=by exact eV
  have a:=f e;have c:(List.getD l k SL).2.1=b:=by simpa[IJ] using c
  rw[BY c]at a;exact fI d [.tmp 4,.tmp 5] (by rw[<-a];exact eR)
 .exact eV
 .have e:k<List.length l:=by exact eV
  have a:=f e;have c:¬(List.getD l k SL).2.1=b:=by simpa[IJ] using c
  rw[At c]at a;exact⟨⟨k+1,by omega,a⟩,by simp only;omega,eW [(2,.nm 2)]⟩
 have hk:List.drop k l=[]:=OR (by exact eV);rw[hk]at a;have a:(0,false)=FP b l 0:=a;exact fI d [.tmp 4,.tmp 5] (by rw[<-a];exact eR)
def CX (h:AG) (a b:Int):Int×Bool:=FP (GE (BL h a) (BL h b)) h.1 0
def Xs:Ab:={ ins:=[Ec,T3,T3],pre:=λ(h,a,b,_)=>((0:Int)<=a/\a<(List.length (h:AG).1:Int))/\((0:Int)<=b/\b<(List.length (h:AG).1:Int))/\(∀x∈(h:AG).1,x.2.1.length<=100000),out:=λ(h,a,b,_)=>[.p T3 (CX h a b).1,.p .bool (CX h a b).2],lend:=true }
attribute [local go_sem] Xs
theorem A3D:Ac Tryz.prog 136 Xs:=by
 refine fK [0,1,2,3,6,7] Tryz.func136 Tryz.ntmps136 (AF A3C (AF oV AI)) ?_;rintro w0 O0 ⟨⟨ht,hf⟩,a,b,u⟩ c-⟨ha,hb,hx⟩;simp only[Xs,AM];have e:∀x:Int,0<=x/\x<(List.length ht:Int)->List.length (BL (ht,hf) x)<=100000:=λx h1=>by
  have d:Int.toNat x<List.length ht:=(ACC h1.1).2 h1.2;exact hx _ (AE (ht:List FL) SL d)
 repeat'(first|exact trivial|apply eS rfl|refine rX c ?_ ?_)
 .refine⟨ha,hb,?_⟩;exact e a ha
 exact fI c [.tmp 6,.tmp 7] (by unfold CX BL;exact eR)
end
section
attribute [local go_sem] Xs
def Iy (h:AG) (l:List AC) (c:List Int):Nat->Option (List Int)
 | 0=>some (List.replicate l.length 0)
 | i+1=>match Iy h l c i with
  | none=>none
  | some o=>if (CX h (o.getD (c.getD i 0).toNat 0) (l.getD i (0,[])).1).2=true then some (o.set (c.getD i 0).toNat (CX h (o.getD (c.getD i 0).toNat 0) (l.getD i (0,[])).1).1) else none
theorem A01 {l:List AC} {c:List Int} (hn:Iy h l c i=none):∀ {j:Nat},i<=j->Iy h l c j=none:=by
 intro j b;induction j with
 | zero=>rw[show i=0 by omega]at hn;exact hn
 | succ j a =>
  by_cases e:i=j+1
  .rw[<-e];exact hn
  simp only[Iy];rw[a O1]
def Uk (c o:List Int) (i:Nat):List Int:=((List.range i).map λ(k:Nat)=>o.getD (c.getD k 0).toNat 0)++o.drop i
def Ij (h:AG) (l:List AC) (c:List Int):List Int×Bool:=match Iy h l c l.length with
 | none=>([],false)
 | some o=>((List.range l.length).map λ(k:Nat)=>o.getD (c.getD k 0).toNat 0,true)
def Q2 (n:Nat) (c:List Int):Prop:=c.length=n/\∀k:Nat,k<n->0<=c.getD k 0/\c.getD k 0<=(k:Int)/\c.getD (c.getD k 0).toNat 0=c.getD k 0
theorem A3E {c o:List Int} (h:i<=o.length):(Uk c o i).length=o.length:=by
 unfold Uk;simp;omega
theorem A3F {c o:List Int} (hi:i<o.length) {x:Int} (d:Q2 o.length c) (hx:x=c.getD i 0):(Uk c o i).getD x.toNat 0=o.getD x.toNat 0:=by
 obtain⟨h1,b,a⟩:=d.2 i hi;rw[<-hx]at h1 b a;unfold Uk;by_cases e:x.toNat<i
 .rw[AS,RU (by simpa using e),Rb,AAC e];simp only[ABj,ABc];rw[a]
 have e:x.toNat=i:=by omega
 rw[e,AS,RS sc];simp only[No,ABt,AAD,AAd,ACV];rw[AS]
theorem A3G {c o:List Int} (hi:i<o.length):(Uk c o i).set i (o.getD (c.getD i 0).toNat 0)=Uk c o (i+1):=by
 unfold Uk;rw[AAY _ _ sc];simp only[No,ABt,AAD];rw[Is hi,ABa,S9,RY,RI];rfl
theorem A02 (c o:List Int):Uk c o o.length=(List.range o.length).map λ(k:Nat)=>o.getD (c.getD k 0).toNat 0:=by
 unfold Uk;simp
theorem A03 (c o:List Int):Uk c o 0=o:=by simp[Uk]
theorem k9 (b:List Int):∀(l:List FL) (k:Nat),0<=(FP b l k).1/\((FP b l k).2=true->(k:Int)<=(FP b l k).1/\(FP b l k).1<(k:Int)+l.length)
 | [],k=>⟨by simp[FP],by simp[FP]⟩
 | t :: r,k=>by
  unfold FP;split
  .exact⟨by simp only;omega,λ_=>⟨by simp only;omega,by simp only[NO];omega⟩⟩
  obtain⟨h1,a⟩:=k9 b r (k+1);refine⟨h1,λh=>?_⟩;obtain⟨c,d⟩:=a h;simp only[NO];omega
theorem A04 {a:Int} (hm:(CX h a b).2=true):0<=(CX h a b).1/\(CX h a b).1<(h.1.length:Int):=by
 obtain⟨h1,c⟩:=k9 (GE (BL h a) (BL h b)) h.1 0;have c:=c hm;unfold CX;exact⟨h1,by omega⟩
def TyR (h:AG) (n:Nat) (o:List Int):Prop:=o.length=n/\∀k,k<n->0<=o.getD k 0/\o.getD k 0<(h.1.length:Int)
theorem Sn (l:List Int) (v:Int) (i j:Nat) (hi:i<l.length):(l.set i v).getD j 0=if j=i then v else l.getD j 0:=by
 simp only[AS,oN];by_cases e:i=j
 .subst e;simp[hi]
 rw[At e,At (λh=>e h.symm)]
theorem Ns {h:AG} (h0:0<h.1.length) {l:List AC} {c:List Int} (d:Q2 l.length c):∀ {i:Nat} {o:List Int},i<=l.length->Iy h l c i=some o->TyR h l.length o
 | 0,o,_,a=>by
  simp only[Iy]at a;cases a;refine⟨by simp,λk hk=>?_⟩;rw[AS,AAz,BY hk];exact⟨iF _,by simp only[ABc];omega⟩
 | i+1,o,hi,a=>by
  simp only[Iy]at a;cases b:Iy h l c i with
  | none=>rw[b]at a;cases a
  | some p =>
   rw[b]at a;simp only at a;split at a
   .rename_i hm;cases a;obtain⟨h1,e⟩:=Ns h0 d O1 b;obtain⟨c1,c2,_⟩:=d.2 i O1;refine⟨by rw[TA];exact h1,λk hk=>?_⟩;rw[Sn _ _ _ _ O1];split
    .exact A04 hm
    exact e k hk
   cases a
def d5:Ab:={ ins:=[Ec,Eg,D6],pre:=λ(h,l,c,_)=>Q2 (List.length l) c/\CA h l/\0<List.length (h:AG).1/\List.length l<=100000/\(∀x∈(h:AG).1,x.2.1.length<=100000),out:=λ(h,l,c,_)=>[.p D6 (Ij h l c).1,.p .bool (Ij h l c).2] }
attribute [local go_sem] d5
theorem A3H:Ac Tryz.prog 102 d5:=by
 refine fK [0,1,2,3,6,7,8,9,10,11,12,19,40,51] Tryz.func102 Tryz.ntmps102 (AF A3D AI) ?_;rintro w0 O0 ⟨⟨ht,hf⟩,l,c,u⟩ f-⟨q,hty,h0,hl,hx⟩;simp only[d5,AM];have r:=q.1;repeat'(first|exact trivial|apply eS rfl|refine rX f ?_ ?_)
 .simp only[AQ];exact eV
 refine AJ (ι:={s:Nat×List Int//s.1<=List.length l/\Iy (ht,hf) l c s.1=some s.2}) (λi=>⟨[(1,.p Eg l),(2,.p D6 c),(3,.bp 3 [] 0),(6,.raw (.slice none 0 0)),(7,.p .bool false),(8,.sr 15 T3 0 (List.length l)),(9,.p (.int .i64) (i.1.1:Int))],[(3,.box 29 true [.p mZ ht,.p tZ hf]),(15,.arr 3 T3 i.1.2)]⟩) (λi=>List.length l-i.1.1) ⟨(0,List.replicate (List.length l) 0),by simp,rfl⟩ (eW [(3,.nm 3),(15,.nm 15)]) (λi=>?_)
 obtain⟨⟨i,o⟩,hi,n⟩:=i;simp only at hi n;obtain⟨e,E⟩:=Ns h0 q hi n;simp only;have v:=q.2 i;have D:=E (c.getD i 0).toNat;have F:=λh:i<List.length l=>hty _ (AE (l:List AC) (0,[]) h);have m:Iy (ht,hf) l c (i+1)=if (CX (ht,hf) (o.getD (c.getD i 0).toNat 0) (l.getD i (0,[])).1).2=true then some (o.set (c.getD i 0).toNat (CX (ht,hf) (o.getD (c.getD i 0).toNat 0) (l.getD i (0,[])).1).1) else none:=by
  simp only[Iy,n]
 have g:Ij (ht,hf) l c=match Iy (ht,hf) l c (List.length l) with
  | none=>([],false)
  | some o=>((List.range (List.length l)).map λ(k:Nat)=>o.getD (c.getD k 0).toNat 0,true):=rfl
 repeat'(first|exact trivial|apply eS rfl|apply AB|refine rX f ?_ ?_|refine rC ?_ ?_<;>intro b<;>try(cases b;done))
 .have a:i<List.length l:=by exact eV
  obtain⟨c1,c2,t⟩:=v a;exact⟨by rw[r];exact b,⟨c1,by exact eV⟩,b,D O1,F a,hx⟩
 .have a:i<List.length l:=by exact eV
  rw[At (by rw[b];simp)]at m;have:=A01 m (j:=List.length l) O1;rw[this]at g;exact fI f [.tmp 6,.tmp 7] (by rw[g];exact eR)
 .have a:i<List.length l:=by exact eV
  obtain⟨c1,c2,t⟩:=v a;exact⟨by rw[r];assumption,c1,by exact eV⟩
 .exact eV
 .have a:i<List.length l:=by exact eV
  rw[BY b]at m;exact⟨⟨(i+1,_),by simp only;omega,m⟩,by simp only;omega,eW [(3,.nm 3),(15,.nm 15)]⟩
 have a:i=List.length l:=by exact eV
 rw[<-a,n]at g;simp only at g;have z:Q2 o.length c:=by rw[e];exact q
 rw[<-a]at e;refine AJ (ι:={j:Nat//j<=o.length}) (λj=>⟨[(1,.p Eg l),(2,.p D6 c),(8,.sr 15 T3 0 (List.length l)),(12,.p (.int .i64) (j.1:Int))],[(15,.arr 3 T3 (Uk c o j.1))]⟩) (λj=>o.length-j.1) ⟨0,by omega⟩ (AD [(15,.nm 15)] rfl rfl ?_ ?_) (λj=>?_)
 .refine eM ?_;rw[A03]
 .exact eN
 obtain⟨j,w⟩:=j;have G:=A3E (c:=c) w;have B:=λh:j<o.length=>A3F (x:=c.getD j 0) h z rfl;have C:=λh:j<o.length=>A3G (c:=c) h;have A:=z.2 j;simp only;repeat'(first|exact trivial|apply eS rfl|apply AB|refine rX f ?_ ?_|refine rC ?_ ?_<;>intro b<;>try(cases b;done))
 .have d:j<o.length:=by rw[e,a];exact eV
  obtain⟨c1,c2,t⟩:=A d;exact⟨by rw[r];exact b,⟨c1,by exact eV⟩,b⟩
 .exact eV
 .have d:j<o.length:=by rw[e,a];exact eV
  refine⟨⟨j+1,by omega⟩,by simp only;omega,AD [(15,.nm 15)] rfl rfl ?_ ?_⟩
  .simp only;rw[<-C d,<-B d];exact eN
  exact eN
 have d:j=o.length:=by rw[e,a]at w ⊢;exact eV
 subst d;rw[A02,e];have y:((List.range i).map λ(k:Nat)=>o.getD (c.getD k 0).toNat 0).take (List.length l)=(List.range i).map λ(k:Nat)=>o.getD (c.getD k 0).toNat 0:=As (by simp;omega);exact fI f [.tmp 6,.tmp 7] (by rw[g];first|exact eR|refine Tp ?_;rw[a]at y ⊢;exact y)
end
section
attribute [local go_sem] Sm Qd
attribute [local go_sem] WT oH ne_eq not_false_eq_true
def So (cl:List Int) (L:List (Int×Int)) (x:Int×Int):List (Int×Int):=if (Cs L x.1).2=true then L else L++[(x.1,cl.getD x.2.toNat 0)]
def Ik (cl:List Int) (L l:List (Int×Int)):List (Int×Int):=l.foldl (So cl) L
def Ef (cl:List Int) (g:List AC) (i:Nat) (l:List (Int×Int)):List AC:=g.set (cl.getD i 0).toNat ((g.getD (cl.getD i 0).toNat (0,[])).1,Ik cl (g.getD (cl.getD i 0).toNat (0,[])).2 l)
def C0 (l:List AC) (cl types:List Int):Nat->List AC
 | 0=>(List.range l.length).map λ(k:Nat)=>(types.getD k 0,[])
 | i+1=>Ef cl (C0 l cl types i) i (l.getD i (0,[])).2
def Q3 (l:List AC) (cl types:List Int) (root:Int):List AC:=E7 (C0 l cl types l.length) (cl.getD root.toNat 0)
def lC:Ab:={ ins:=[Eg,D6,D6,T3],pre:=λ(l,c,t,r,_)=>AN l/\List.length c=List.length l/\List.length t=List.length l/\(∀x∈(c:List Int),0<=x/\x<(List.length l:Int))/\((0:Int)<=r/\r<(List.length l:Int))/\List.length l*1000<=100000/\(∀x∈(l:List AC),x.2.length<=1000),out:=λ(l,c,t,r,_)=>[.p Cv (Q3 l c t r)] }
attribute [local go_sem] lC
def Xt (types:List Int) (i:Nat):List AC:=(List.range i).map λ(k:Nat)=>(types.getD k 0,[])
theorem Sp (types:List Int) (i:Nat):(Xt types i).length=i:=by simp[Xt]
theorem rH (types:List Int) (i:Nat):Xt types (i+1)=Xt types i++[(types.getD i 0,[])]:=by simp[Xt,S9]
theorem rI (l:List AC) (c t:List Int):Xt t l.length=C0 l c t 0:=rfl
theorem Z9 (c:List Int) (g:List AC) (i:Nat) (l:List (Int×Int)):(Ef c g i l).length=g.length:=by simp[Ef]
theorem Sq (l:List AC) (v:AC) (i j:Nat) (hi:i<l.length):(l.set i v).getD j (0,[])=if j=i then v else l.getD j (0,[]):=by
 simp only[AS,oN];by_cases e:i=j
 .subst e;simp[hi]
 rw[At e,At (λh=>e h.symm)]
theorem A05 {c:List Int} {g:List AC} (hi:(c.getD i 0).toNat<g.length):(Ef c g i l).getD (c.getD i 0).toNat (0,[])=((g.getD (c.getD i 0).toNat (0,[])).1,Ik c (g.getD (c.getD i 0).toNat (0,[])).2 l):=by
 unfold Ef;rw[Sq _ _ _ _ hi,BY rfl]
theorem A06 {c:List Int} {g:List AC} (hi:(c.getD i 0).toNat<g.length):Ef c g i []=g:=by
 unfold Ef Ik;simp only[AC1];apply ABL;intro j;rw[oN];split
 .rename_i e;subst e;rw[AS,AT hi];simp[hi]
 rfl
theorem rJ {c:List Int} {g:List AC} {x:Int×Int} (hi:(c.getD i 0).toNat<g.length) :
  ((Cs ((Ef c g i l).getD (c.getD i 0).toNat (0,[])).2 x.1).2=true->Ef c g i (l++[x])=Ef c g i l) /\
  ((Cs ((Ef c g i l).getD (c.getD i 0).toNat (0,[])).2 x.1).2=false->Ef c g i (l++[x])=(Ef c g i l).set (c.getD i 0).toNat (((Ef c g i l).getD (c.getD i 0).toNat (0,[])).1,((Ef c g i l).getD (c.getD i 0).toNat (0,[])).2++[(x.1,c.getD x.2.toNat 0)])):=by
 rw[A05 hi];unfold Ef Ik;rw[ABe];simp only[RJ,AC1];refine⟨λh=>?_,λh=>?_⟩
 .unfold So at h ⊢;rw[BY h]
 rw[List.set_set];unfold So at h ⊢;rw[At (by rw[h];simp)]
def d6 (n m:Nat) (g:List AC):Prop:=g.length=n/\∀k,(g.getD k (0,[])).2.length<=m/\∀a∈(g.getD k (0,[])).2,0<=a.2/\a.2<(n:Int)
theorem lD {c:List Int} {n:Nat} (h:c.length=n) (g:∀x∈c,0<=x/\x<(n:Int)):∀(l:List (Int×Int)) {L:List (Int×Int)} {m:Nat},L.length<=m->(∀a∈L,0<=a.2/\a.2<(n:Int))->(∀a∈l,0<=a.2/\a.2<(n:Int))->(Ik c L l).length<=m+l.length/\∀a∈Ik c L l,0<=a.2/\a.2<(n:Int)
 | [],L,m,h1,b,_=>⟨h1,b⟩
 | x :: l,L,m,h1,b,d=>by
  have hx:=d x sc;have e:Ik c L (x :: l)=Ik c (So c L x) l:=rfl;rw[e];have f:(So c L x).length<=m+1/\∀a∈So c L x,0<=a.2/\a.2<(n:Int):=by
   unfold So;split
   .exact⟨by omega,b⟩
   refine⟨by simp;omega,λa ha=>?_⟩;rcases Fg.1 ha with ha|ha
   .exact b a ha
   have:a=(x.1,c.getD x.2.toNat 0):=by simpa using ha
   subst this;exact g _ (AE c 0 O1)
  have:=lD h g l f.1 f.2 λa ha=>d a (by simp[ha]);simp only[NO];exact⟨by omega,this.2⟩
theorem lH {c:List Int} {n:Nat} (e:c.length=n) (d:∀x∈c,0<=x/\x<(n:Int)) {g:List AC} {m:Nat} (b:d6 n m g) {i:Nat} (hi:i<n) (hl:∀a∈l,0<=a.2/\a.2<(n:Int)):d6 n (m+l.length) (Ef c g i l):=by
 have h:=d _ (AE c 0 (k:=i) O1);have f:(c.getD i 0).toNat<g.length:=by rw[b.1];omega
 refine⟨by rw[Z9];exact b.1,λk=>?_⟩;unfold Ef;rw[Sq _ _ _ _ f];split
 .exact lD e d l (b.2 _).1 (b.2 _).2 hl
 exact⟨RF (b.2 k).1 O1,(b.2 k).2⟩
theorem lI {l:List AC} {c t:List Int} (hl:AN l) (e:∀x∈l,x.2.length<=1000) (b:c.length=l.length) (d:∀x∈c,0<=x/\x<(l.length:Int)):∀ {i:Nat},i<=l.length->d6 l.length (i*1000) (C0 l c t i)
 | 0,_=>by
  refine⟨by simp[C0],λk=>?_⟩;unfold C0;rw[AS,Rb];cases h:(List.range l.length)[k]? with
  | none=>simp
  | some j=>simp
 | i+1,hi=>by
  have hm:=AE l (0,[]) (k:=i) O1;have:=lH b d (lI (t:=t) hl e b d (i:=i) O1) (i:=i) O1 (l:=(l.getD i (0,[])).2) (λa ha=>(hl.2 _ hm).2 a ha);refine⟨this.1,λk=>⟨RF (this.2 k).1 ?_,(this.2 k).2⟩⟩;have:=e _ hm;omega
theorem A07 {n m:Nat} {g:List AC} (h:d6 n m g) (hn:n<=100000) (hm:m<=100000):AN g:=by
 refine⟨by rw[h.1];exact hn,λx hx=>?_⟩;obtain⟨k,hk,rfl⟩:=gO.1 hx;have:=h.2 k;rw[AS,AT hk]at this;refine⟨RF this.1 hm,λa ha=>?_⟩;rw[h.1];exact this.2 a ha
theorem v6:Ac Tryz.prog 103 lC:=by
 refine yD [0,1,2,3,8,9,10,11,12,13,14,16,20,36,50,70] [] [(30,45)] Tryz.func103 Tryz.ntmps103 (AF k8 (AF c8 AI)) ?_;rintro w0 O0 ⟨l,c,t,r,u⟩ d-⟨z,n,K,v,I,M,A⟩;simp only[lC,AM];repeat'(first|exact trivial|apply eS rfl|refine rX d ?_ ?_)
 refine AJ (ι:={i:Nat//i<=List.length l}) (λi=>⟨[(0,.p Eg l),(1,.p D6 c),(2,.p D6 t),(3,.p T3 r),(8,.bp 8 [] 0),(9,.bp 9 [] 0),(10,.p (.int .i64) (i.1:Int))],[(8,.box 25 true [.raw (.slice none 0 0)]),(9,.box 25 true [.sr 31 Eb 0 i.1]),(31,.nest 48 45 T3 CK (Xt t i.1) none)]⟩) (λi=>List.length l-i.1) ⟨0,by omega⟩ (AD [(8,.nm 8),(9,.nm 9),(31,.nil)] rfl rfl ?_ ?_) (λi=>?_)
 .refine eM ?_;rfl
 .exact eN
 obtain⟨i,hi⟩:=i;repeat'(first|exact trivial|apply eS rfl|apply AB|refine rX d ?_ ?_|refine rC ?_ ?_<;>intro b<;>try(cases b;done))
 .refine⟨by rw[K];exact b,(Sp t i).symm,?_⟩;rw[Sp];simp only[AQ];dsimp only[Ty.den]at *;omega
 .exact eV
 .have e:i<List.length l:=by exact eV
  refine⟨⟨i+1,by omega⟩,by simp only;omega,AD [(8,.nm 8),(9,.nm 9),(31,.nm 31)] rfl rfl ?_ ?_⟩
  .simp only;rw[rH];refine eM ?_;rw[Sp]
  exact eN
 have e:i=List.length l:=by exact eV
 subst e;rw[rI l c t];refine AJ (ι:={i:Nat//i<=List.length l}) (λi=>⟨[(0,.p Eg l),(1,.p D6 c),(3,.p T3 r),(8,.bp 8 [] 0),(9,.bp 9 [] 0),(11,.p (.int .i64) (i.1:Int))],[(8,.box 25 true [.raw (.slice none 0 0)]),(9,.box 25 true [.sr 31 Eb 0 (List.length l)]),(31,.nest 48 45 T3 CK (C0 l c t i.1) none)]⟩) (λi=>List.length l-i.1) ⟨0,by omega⟩ (eW [(8,.nm 8),(9,.nm 9),(31,.nm 31)]) (λi=>?_)
 obtain⟨i,hi⟩:=i;have s:=lI (t:=t) z A n v hi;simp only;repeat'(first|exact trivial|apply eS rfl|refine rX d ?_ ?_|refine rC ?_ ?_<;>intro b<;>try(cases b;done))
 .rw[n];exact b
 .have e:i<List.length l:=by exact eV
  have y:=v _ (AE (c:List Int) 0 (k:=i) O1);have hm:=AE (l:List AC) (0,[]) e;have F:=A _ hm;have q:=(z.2 _ hm).2;have J:C0 l c t (i+1)=Ef c (C0 l c t i) i (List.getD l i (0,[])).2:=rfl;have B:(List.getD c i 0).toNat<(C0 l c t i).length:=by rw[s.1];exact eV
  generalize C0 l c t i=g at *;have m:=λk=>lH n v s e (l:=(List.getD l i (0,[])).2.take k) (λa ha=>q a (TO ha));refine AJ (ι:={k:Nat//k<=(List.getD l i (0,[])).2.length}) (λk=>⟨[(0,.p Eg l),(1,.p D6 c),(3,.p T3 r),(8,.bp 8 [] 0),(9,.bp 9 [] 0),(11,.p (.int .i64) (i:Int)),(12,.p T3 (List.getD c i 0)),(13,.p (.int .i64) (k.1:Int))],[(8,.box 25 true [.raw (.slice none 0 0)]),(9,.box 25 true [.sr 31 Eb 0 (List.length l)]),(31,.nest 48 45 T3 CK (Ef c g i ((List.getD l i (0,[])).2.take k.1)) none)]⟩) (λk=>(List.getD l i (0,[])).2.length-k.1) ⟨0,by omega⟩ (AD [(8,.nm 8),(9,.nm 9),(31,.nm 31)] rfl rfl ?_ ?_) (λk=>?_)
  .refine eM ?_;exact(A06 B).symm
  .exact eN
  obtain⟨k,hk⟩:=k;have m:=m k;have f:=λ(x:Int×Int)=>rJ (l:=(List.getD l i (0,[])).2.take k) (x:=x) B;have C:=λ(h:k<(List.getD l i (0,[])).2.length)=>Af (List.getD l i (0,[])).2 (0,0) h;simp only;generalize w:Ef c g i ((List.getD l i (0,[])).2.take k)=G at *;have j:List.take (List.length l) G=G:=As (by rw[m.1];exact IN _);have E:=m.1;repeat'(first|exact trivial|apply eS rfl|apply AB|refine rX d ?_ ?_|refine rC ?_ ?_<;>intro b<;>try(cases b;done))
  .exact b
  .exact⟨by assumption,b⟩
  .rw[j,E];exact y
  .rw[j]at b;refine EP drawsAny d 19 [([3,4,5,6,7,8,9,10,11,12,13,14,15,16,17],18)] [0,1,2] (by kernel_rfl) (Pi ?_ ?_)
   .refine⟨y,?_⟩;rw[n];exact q _ (AE (List.getD l i (0,[])).2 (0,0) (by exact eV))
   refine mxN d 31 ?_ ?_
   .have:=(m.2 (Int.toNat (List.getD c i 0))).1;have L:((List.getD l i (0,[])).2.take k).length<=1000:=RF (TF _ _) (RF hk F);simp only[AQ];dsimp only[Ty.den]at *;omega
   refine eY d ?_ ?_ ?_
   .trivial
   .exact y
   repeat'(first|apply eS rfl|apply AB|refine rX d ?_ ?_)
   .exact eV
   have o:k<(List.getD l i (0,[])).2.length:=by exact eV
   have f:=(f (List.getD (List.getD l i (0,[])).2 k (0,0))).2 b;refine⟨⟨k+1,by omega⟩,by simp only;omega,AD [(8,.nm 8),(9,.nm 9),(31,.nm 31)] rfl rfl ?_ ?_⟩
   .simp only;rw[C o,f];exact eN
   exact eN
  .exact eV
  .rw[j]at b;have o:k<(List.getD l i (0,[])).2.length:=by exact eV
   have f:=(f (List.getD (List.getD l i (0,[])).2 k (0,0))).1 b;refine⟨⟨k+1,by omega⟩,by simp only;omega,AD [(8,.nm 8),(9,.nm 9),(31,.nm 31)] rfl rfl ?_ ?_⟩
   .simp only;rw[C o,f];exact eN
   exact eN
  .exact eV
  have o:(List.getD l i (0,[])).2.take k=(List.getD l i (0,[])).2:=As (by exact eV);rw[o]at w;rw[<-J]at w;refine⟨⟨i+1,by omega⟩,by simp only;omega,AD [(8,.nm 8),(9,.nm 9),(31,.nm 31)] rfl rfl ?_ ?_⟩
  .simp only;rw[w];exact eN
  exact eN
 have e:i=List.length l:=by exact eV
 subst e;have H:Q3 l c t r=E7 (C0 l c t (List.length l)) (c.getD r.toNat 0):=rfl;have D:=A07 s O1 O1;have q:=s.1;have j:List.take (List.length l) (C0 l c t (List.length l))=C0 l c t (List.length l):=As (by rw[q];exact IN _);generalize C0 l c t (List.length l)=g at *;refine FK [31] ?_;repeat'(first|apply eS rfl|refine rX d ?_ ?_)
 .rw[j,q,n];exact⟨I,D,v _ (AE (c:List Int) 0 (by exact eV))⟩
 rw[j,<-H];exact fI d [.cell 8 25]
end
inductive EQ (n:Nat) (o:List Int) (W:List (Int×Int)):Int->Int->Prop
 | cls {x y:Int} (x0:0<=x) (x1:x<(n:Int)) (y0:0<=y) (y1:y<(n:Int)) (h:o.getD x.toNat 0=o.getD y.toNat 0):EQ n o W x y
 | wt {x y:Int} (h:(x,y)∈W):EQ n o W x y
 | symm {x y:Int} (h:EQ n o W x y):EQ n o W y x
 | trans {x y z:Int} (h:EQ n o W x y) (g:EQ n o W y z):EQ n o W x z
theorem EQ.mono {n:Nat} {o b:List Int} {a:List (Int×Int)} (h1:∀x y,0<=x->x<(n:Int)->0<=y->y<(n:Int)->o.getD x.toNat 0=o.getD y.toNat 0->EQ n b a x y) (c:∀x y,(x,y)∈l->EQ n b a x y) {x y:Int} (h:EQ n o l x y):EQ n b a x y:=by
 induction h with
 | cls g i j k h=>exact h1 _ _ g i j k h
 | wt h=>exact c _ _ h
 | symm _ d=>exact .symm d
 | trans _ _ e f=>exact .trans e f
theorem EQ.nil {n:Nat} {o:List Int} {x y:Int} (h:EQ n o [] x y):o.getD x.toNat 0=o.getD y.toNat 0:=by
 induction h with
 | cls _ _ _ _ h=>exact h
 | wt h=>cases h
 | symm _ a=>exact a.symm
 | trans _ _ b c=>exact b.trans c
structure JC (h:AG) (N:List AC) (P:List (Int×Int)) (o:List Int) (ar:List (List (Int×Int))) (W:List (Int×Int)):Prop where
 ci:CI N.length o ar W
 nd:∀k,((ar.getD k []).map (·.1)).Nodup
 sp:∀q∈P,EQ N.length o W q.1 q.2
 sa:∀x,0<=x->x<(N.length:Int)->∀a∈AL N x,∃t,(a.1,t)∈ar.getD (o.getD x.toNat 0).toNat []/\EQ N.length o W a.2 t
 co:∀X v,Iu h N P X v->(∀x,0<=x->x<(N.length:Int)->v x=v (o.getD x.toNat 0))/\(∀w∈W,v w.1=v w.2)/\(∀r,0<=r->r<(N.length:Int)->o.getD r.toNat 0=r->∀a∈ar.getD r.toNat [],Av (AL X (v r)) a.1=v a.2)
section
variable {h:AG} {N:List AC} {P:List (Int×Int)} {o:List Int} {ar:List (List (Int×Int))} {W:List (Int×Int)} {w:Int×Int}
theorem d7 (o:List Int) (x y:Int):(EE o x y=o.getD x.toNat 0/\Cb o x y=o.getD y.toNat 0)\/(EE o x y=o.getD y.toNat 0/\Cb o x y=o.getD x.toNat 0):=by
 unfold EE Cb;by_cases a:o.getD y.toNat 0<o.getD x.toNat 0
 .rw[BY a,At O1];exact .inr ⟨rfl,rfl⟩
 rw[At a];by_cases b:o.getD x.toNat 0<o.getD y.toNat 0
 .rw[BY b];exact .inl ⟨rfl,rfl⟩
 rw[At b];exact .inl ⟨rfl,by omega⟩
theorem A6q (c:JC h N P o ar (w :: W)) (j:EE o w.1 w.2=Cb o w.1 w.2):JC h N P o ar W:=by
 have d:=c.ci.wr w sc;have l:o.getD w.1.toNat 0=o.getD w.2.toNat 0:=by
  rcases d7 o w.1 w.2 with ⟨h1,b⟩|⟨h1,b⟩
  .rw[<-h1,<-b,j]
  rw[<-h1,<-b,j]
 have hm:∀ {x y},EQ N.length o (w :: W) x y->EQ N.length o W x y:=λ{x y} g=>g.mono (λx y f i r s e=>.cls f i r s e) λx y p=>by
  rcases DO.1 p with e|e
  .subst e;exact .cls d.1.1 d.1.2 d.2.1 d.2.2 l
  exact .wt e
 refine⟨v5 c.ci,c.nd,λq m=>hm (c.sp q m),λx f i a ha=>?_,λX v n=>?_⟩
 .obtain⟨t,h1,b⟩:=c.sa x f i a ha;exact⟨t,h1,hm b⟩
 obtain⟨h1,b,k⟩:=c.co X v n;exact⟨h1,λu hu=>b u (If _ hu),k⟩
theorem A6r {l g:List (Int×Int)} (hl:(l.map (·.1)).Nodup) (c:(g.map (·.1)).Nodup):((Fy l g).map (·.1)).Nodup:=by
 unfold Fy;rw[RY,AAu];refine⟨hl,(c.sublist ((List.filter_sublist).map _)),λx hx y hy e=>?_⟩;obtain⟨a,ha,rfl⟩:=Do.1 hx;obtain⟨b,hb,rfl⟩:=Do.1 hy;have hb:=(AAn.1 hb).2;rw[Xq a ha e]at hb;cases hb
theorem A3I (d:JC h N P o ar (w :: W)) (T:EE o w.1 w.2≠Cb o w.1 w.2) :
  JC h N P (B4 o w.1 w.2) (ar.set (EE o w.1 w.2).toNat (Fy (ar.getD (EE o w.1 w.2).toNat []) (ar.getD (Cb o w.1 w.2).toNat []))) (W++EW (ar.getD (EE o w.1 w.2).toNat []) (ar.getD (Cb o w.1 w.2).toNat [])):=by
 have b:=d.ci.wr w sc;have K:=A3A d.ci b.1.1 b.1.2 b.2.1 b.2.2 T;have R:=kZ (v5 d.ci) K;have S:=λ(k:Nat) (hk:k<N.length)=>Nr (m:=w.1) (n:=w.2) (show k<o.length by rw[d.ci.lo];exact hk);have L:=d7 o w.1 w.2;have ad:=d.ci.la;have V:=λx=>d.ci.rng (x:=x);generalize B4 o w.1 w.2=B at *;generalize EE o w.1 w.2=lo at *;generalize Cb o w.1 w.2=hi at *;obtain⟨l0,lt,h1,rl,rh⟩:=K;have l:∀x,0<=x->x<(N.length:Int)->B.getD x.toNat 0=HY hi lo (o.getD x.toNat 0):=λx f i=>S _ O1;have aa:B.getD w.1.toNat 0=B.getD w.2.toNat 0:=by
  rw[l _ b.1.1 b.1.2,l _ b.2.1 b.2.2];rcases L with ⟨j,c⟩|⟨j,c⟩
  .rw[<-j,<-c,Ii,HZ O1]
  rw[<-j,<-c,Ii,HZ O1]
 generalize E:W++EW (ar.getD lo.toNat []) (ar.getD hi.toNat [])=J at *;have hm:∀ {x y},EQ N.length o (w :: W) x y->EQ N.length B J x y:=λ{x y} g=>g.mono (λx y f i M O e=>.cls f i M O (by rw[l x f i,l y M O,e])) λx y ab=>by
  rcases DO.1 ab with e|e
  .subst e;exact .cls b.1.1 b.1.2 b.2.1 b.2.2 aa
  exact .wt (by rw[<-E];exact S7 _ e)
 have Q:∀x∈ar.getD hi.toNat [],(Cs (ar.getD lo.toNat []) x.1).2=true->((Cs (ar.getD lo.toNat []) x.1).1,x.2)∈J:=λx hx ht=>by
  rw[<-E];exact AAH _ (ABD.2 ⟨x,hx,by rw[BY ht]⟩)
 refine⟨R,λk=>?_,λq U=>hm (d.sp q U),λx f i a ha=>?_,λX v Z=>?_⟩
 .rw[Ih _ _ _ _ O1];split
  .exact A6r (d.nd _) (d.nd _)
  exact d.nd k
 .obtain⟨t,z,p⟩:=d.sa x f i a ha;have p:=hm p;rw[l x f i];obtain⟨H,I,ae⟩:=V x f i;by_cases e:o.getD x.toNat 0=hi
  .rw[e,Ii];rw[e]at z;rw[Ih _ _ _ _ O1,BY rfl];cases ht:(Cs (ar.getD lo.toNat []) a.1).2 with
   | true=>exact⟨_,S7 _ (Nq ht),p.trans (.symm (.wt (Q (a.1,t) z ht)))⟩
   | false=>exact⟨t,AAH _ (AAn.2 ⟨z,by show (!(Cs (ar.getD lo.toNat []) a.1).2)=true;rw[ht];rfl⟩),p⟩
  rw[HZ e,Ih _ _ _ _ O1];split
  .rename_i c;refine⟨t,S7 _ ?_,p⟩;rw[<-c];exact z
  exact⟨t,z,p⟩
 obtain⟨c1,c2,s⟩:=d.co X v Z;have G:v lo=v hi:=by
  have e:=c2 w sc;have j:=c1 w.1 b.1.1 b.1.2;have c:=c1 w.2 b.2.1 b.2.2;rcases L with ⟨C,D⟩|⟨C,D⟩
  .rw[C,D,<-j,<-c,e]
  rw[C,D,<-j,<-c,e]
 refine⟨λx f i=>?_,λu hu=>?_,λr H I A a ha=>?_⟩
 .rw[l x f i,c1 x f i];by_cases e:o.getD x.toNat 0=hi
  .rw[e,Ii,G]
  rw[HZ e]
 .rw[<-E]at hu;rcases Fg.1 hu with hu|hu
  .exact c2 u (If _ hu)
  obtain⟨a,ha,F⟩:=ABD.1 hu;split at F
  .rename_i ht;cases F;have j:=s lo l0 O1 rl _ (Nq ht);have c:=s hi O1 h1 rh a ha;rw[<-G,j]at c;exact c
  cases F
 rw[Ih _ _ _ _ O1]at ha;rw[l r H I]at A;have Y:o.getD r.toNat 0=r:=by
  by_cases e:o.getD r.toNat 0=hi
  .rw[e,Ii]at A;rw[<-A];exact rl
  rw[HZ e]at A;exact A
 split at ha
 .rename_i c;have c:r=lo:=by omega
  rcases Fg.1 ha with ha|ha
  .rw[c];exact s lo l0 O1 rl a ha
  rw[c,G];exact s hi O1 h1 rh a (AAn.1 ha).1
 exact s r H I Y a ha
end
theorem Xu {h:AG} {N:List AC} {P:List (Int×Int)}:∀(k:Nat) {o:List Int} {ar:List (List (Int×Int))} {W:List (Int×Int)},JC h N P o ar W->Pb o ar+W.length<=k->∃d,JC h N P (Jp k o ar W) d []
 | 0,o,ar,W,a,hk=>by
  have:W=[]:=RW O1;subst this;exact⟨ar,a⟩
 | k+1,o,ar,[],a,hk=>⟨ar,a⟩
 | k+1,o,ar,w :: W,a,hk=>by
  simp only[Jp];simp only[NO]at hk;split
  .rename_i f;exact Xu k (A6q a f) O1
  rename_i c;have b:=a.ci.wr w sc;have e:=A3A a.ci b.1.1 b.1.2 b.2.1 b.2.2 c;have g:=Xr a.ci e;exact Xu k (A3I a c) (by rw[By];omega)
theorem A3J {c:List Int} {n:Nat} {w:Int×Int} (a:w∈Eu c n):∃k:Nat,k<n/\c.getD k 0≠(k:Int)/\w=((k:Int),c.getD k 0):=by
 unfold Eu at a;obtain⟨k,hk,rfl⟩:=Do.1 a;obtain⟨h1,b⟩:=AAn.1 hk;exact⟨k,Ra.1 h1,by simpa using b,rfl⟩
theorem A3K {c:List Int} {n k:Nat} (hk:k<n) (h:c.getD k 0≠(k:Int)):((k:Int),c.getD k 0)∈Eu c n:=by
 unfold Eu;exact Do.2 ⟨k,AAn.2 ⟨Ra.2 hk,by simpa using h⟩,rfl⟩
theorem M3 {n:Nat} {x y:Int} (c:0<=x) (d:x<(n:Int)) (e:0<=y) (f:y<(n:Int)):((EE (Aw n) x y=x/\Cb (Aw n) x y=y)\/(EE (Aw n) x y=y/\Cb (Aw n) x y=x))/\∀k:Nat,k<n->(B4 (Aw n) x y).getD k 0=HY (Cb (Aw n) x y) (EE (Aw n) x y) (k:Int):=by
 have a:(Aw n).getD x.toNat 0=x:=by rw[Fe O1];omega
 have b:(Aw n).getD y.toNat 0=y:=by rw[Fe O1];omega
 refine⟨?_,λk hk=>?_⟩
 .have:=d7 (Aw n) x y;rw[a,b]at this;exact this
 rw[Nr (by rw[CO];exact hk),Fe hk]
theorem A3L {N:List AC} (o:AN N) (hs:∀k,((N.getD k (0,[])).2.map (·.1)).Nodup) {x y:Int} (l:0<=x) (m:x<(N.length:Int)) (E:0<=y) (F:y<(N.length:Int)):JC h N [(x,y)] (Aw N.length) (Gf N) (Eu (B4 (Aw N.length) x y) N.length):=by
 obtain⟨f,j⟩:=M3 l m E F;have p:=H3 (Aw N.length) x y;rw[CO]at p;generalize B4 (Aw N.length) x y=c at *;generalize EE (Aw N.length) x y=lo at *;generalize Cb (Aw N.length) x y=hi at *;have u:∀z∈c,0<=z/\z<(N.length:Int):=λz B=>by
  obtain⟨k,hk,rfl⟩:=gO.1 B;have:=j k O1;rw[AS,AT hk]at this;simp only[ABc]at this;rw[this];unfold HY;split
  .rcases f with ⟨e,_⟩|⟨e,_⟩<;>rw[e]<;>omega
  omega
 have t:lo≠hi->(hi,lo)∈Eu c N.length:=λg=>by
  have h0:0<=hi/\hi<(N.length:Int):=by rcases f with ⟨_,e⟩|⟨_,e⟩<;>rw[e]<;>omega
  have b:((hi.toNat:Nat):Int)=hi:=by omega
  have d:=j hi.toNat O1;rw[b,Ii]at d;have:=A3K (c:=c) (n:=N.length) (k:=hi.toNat) O1 (by rw[d,b];exact g);rw[b,d]at this;exact this
 refine⟨k7 o u p,λk=>?_,λq i=>?_,λz G H a ha=>?_,λX v s=>?_⟩
 .rw[KJ];exact hs k
 .have:q=(x,y):=by simpa using i
  subst this;simp only;by_cases e:lo=hi
  .have:x=y:=by rcases f with ⟨b,d⟩|⟨b,d⟩<;>omega
   subst this;exact .cls l m l m rfl
  rcases f with ⟨b,d⟩|⟨b,d⟩
  .rw[<-b,<-d];exact .symm (.wt (t e))
  rw[<-b,<-d];exact .wt (t e)
 .refine⟨a.2,?_,?_⟩
  .rw[Fe O1,KJ,RG];exact ha
  have:=(o.2 _ (AE N (0,[]) (k:=z.toNat) O1)).2 a ha;exact .cls this.1 this.2 this.1 this.2 rfl
 refine⟨λz G H=>?_,λw A=>?_,λr C D _ a ha=>?_⟩
 .rw[Fe O1]
  congr 1
  omega
 .obtain⟨k,hk,g,rfl⟩:=A3J A;simp only;rw[j k hk]at g ⊢;by_cases e:(k:Int)=hi
  .rw[e,Ii];have i:=s.eq (x,y) sc;simp only at i;rcases f with ⟨b,d⟩|⟨b,d⟩
   .rw[b,d];exact i.symm
   rw[b,d];exact i
  rw[HZ e]at g;exact absurd rfl g
 rw[KJ]at ha;exact s.arc r C D a ha
theorem A8O {N:List AC} (hs:∀x∈N,Ix x.2) (k:Nat):((N.getD k (0,[])).2.map (·.1)).Nodup:=by
 have:Ix (N.getD k (0,[])).2:=by
  by_cases hk:k<N.length
  .exact hs _ (AE N (0,[]) hk)
  rw[AS,RP O1];exact List.Pairwise.nil
 rw[List.Nodup,bY];exact this.imp λh e=>by omega
theorem Sr {N:List AC} (a:AN N) (hs:∀k,((N.getD k (0,[])).2.map (·.1)).Nodup) {x y:Int} (b:0<=x) (c:x<(N.length:Int)) (d:0<=y) (e:y<(N.length:Int)):∃ar,JC h N [(x,y)] (LJ N (B4 (Aw N.length) x y)) ar [] :=
 Xu _ (A3L a hs b c d e) (IN _)
def M4 (h:AG):Prop:=∀t∈h.1,Nrm t.2.1
theorem Xv {b:List Int}:∀ {l:List FL} {k:Nat},(FP b l k).2=true->∃j:Nat,j<l.length/\(FP b l k).1=((k+j:Nat):Int)/\(l.getD j SL).2.1=b
 | [],k,h=>by cases h
 | t :: r,k,h=>by
  unfold FP at h ⊢;by_cases e:t.2.1=b
  .rw[BY e];exact⟨0,by simp,by simp,by simpa using e⟩
  rw[At e]at h ⊢;obtain⟨j,h1,a,c⟩:=Xv h;exact⟨j+1,by simp only[NO];omega,by rw[a];congr 1;omega,by simpa using c⟩
theorem lJ {b:List Int}:∀ {l:List FL} {k:Nat},(∃t∈l,t.2.1=b)->(FP b l k).2=true
 | [],k,⟨t,ht,_⟩=>by cases ht
 | t :: r,k,⟨u,hu,e⟩=>by
  unfold FP;by_cases a:t.2.1=b
  .rw[BY a]
  rw[At a];rcases DO.1 hu with rfl|hu
  .exact absurd e a
  exact lJ ⟨u,hu,e⟩
theorem A08 (hk:GI h) (hn:M4 h) {a:Int} (g:0<=a) (k:a<(h.1.length:Int)) (l:0<=b) (b1:b<(h.1.length:Int)) :
  ((CX h a b).2=true->0<=(CX h a b).1/\(CX h a b).1<(h.1.length:Int)/\∀i,uN h (CX h a b).1 i=(uN h a i&&uN h b i))/\((∃i,uN h a i=true/\uN h b i=true)->(CX h a b).2=true):=by
 have d:=hk.1.wds _ (Bv g k);have f:=hk.1.wds _ (Bv l b1);refine⟨λhm=>?_,λhi=>?_⟩
 .obtain⟨j,h1,c,m⟩:=Xv hm;have c:(CX h a b).1=((0+j:Nat):Int):=c;refine⟨by omega,by omega,λi=>?_⟩;have e:BL h (CX h a b).1=GE (BL h a) (BL h b):=by
   rw[<-m];unfold BL;rw[c];simp
  unfold uN;rw[e,U9 d f]
 obtain⟨t,ht,e⟩:=hk.1.meet _ (Bv g k) _ (Bv l b1) hi;obtain⟨x,hx,rfl⟩:=Do.1 ht;exact lJ ⟨x,hx,A3k (hk.1.wds _ ht) (cW d f) (hn x hx) (PT _) λi=>by rw[e i,U9 d f]⟩
theorem aA (hk:GI h) (hn:M4 h) {a:Int} (l:0<=a) (m:a<(h.1.length:Int)) (n:0<=b) (b1:b<(h.1.length:Int)) :
  ((CX h a b).2=true->0<=(CX h a b).1/\(CX h a b).1<(h.1.length:Int)/\Ar h a (CX h a b).1=true/\Ar h b (CX h a b).1=true) /\
  ∀x,0<=x->x<(h.1.length:Int)->Ar h a x=true->Ar h b x=true->(CX h a b).2=true/\Ar h (CX h a b).1 x=true:=by
 obtain⟨r,u⟩:=A08 hk hn l m n b1;refine⟨λe=>?_,λx g k s t=>?_⟩
 .obtain⟨c,d,f⟩:=r e;refine⟨c,d,(Bi hk l m c d).2 λi hi=>?_,(Bi hk n b1 c d).2 λi hi=>?_⟩
  .rw[f i,An]at hi;exact hi.1
  rw[f i,An]at hi;exact hi.2
 have o:=(Bi hk l m g k).1 s;have p:=(Bi hk n b1 g k).1 t;obtain⟨i,hi⟩:=hk.1.some _ (Bv g k);have e:=u ⟨i,o i hi,p i hi⟩;obtain⟨c,d,f⟩:=r e;refine⟨e,(Bi hk c d g k).2 λj q=>?_⟩;rw[f j,An];exact⟨o j q,p j q⟩
section
variable {h:AG} {N:List AC} {c:List Int}
theorem UN (ht:CA h N) {x:Nat} (hx:x<N.length):0<=(N.getD x (0,[])).1/\(N.getD x (0,[])).1<(h.1.length:Int):=ht _ (AE N (0,[]) hx)
theorem v7 (hk:GI h) (hn:M4 h) (h0:0<h.1.length) (ht:CA h N) (b:Q2 N.length c):∀ {i:Nat} {p:List Int},i<=N.length->Iy h N c i=some p->∀x,x<i->Ar h (N.getD x (0,[])).1 (p.getD (c.getD x 0).toNat 0)=true
 | 0,p,_,_,x,hx=>by omega
 | i+1,p,hi,a,x,hx=>by
  simp only[Iy]at a;cases d:Iy h N c i with
  | none=>rw[d]at a;cases a
  | some q =>
   rw[d]at a;simp only at a;split at a
   .rename_i hm;cases a;obtain⟨s,r⟩:=Ns h0 b O1 d;obtain⟨t,u,v⟩:=b.2 i O1;have f:=r (c.getD i 0).toNat O1;have ti:=UN ht (x:=i) O1;obtain⟨l,m,n,o⟩:=(aA hk hn f.1 f.2 ti.1 ti.2).1 hm;obtain⟨s1,s2,w⟩:=b.2 x O1;rw[Sn _ _ _ _ O1];by_cases e:x=i
    .subst e;rw[BY rfl];exact o
    have g:=v7 hk hn h0 ht b O1 d x O1;split
    .rename_i k;rw[k]at g;have j:=UN ht (x:=x) O1;exact Id hk j.1 j.2 f.1 f.2 l m g n
    exact g
   cases a
theorem LK (hk:GI h) (hn:M4 h) (h0:0<h.1.length) (f:GT h) (ht:CA h N) (a:Q2 N.length c) {u:Nat->Int} (hu:∀k,k<N.length->0<=u k/\u k<(h.1.length:Int)) (hb:∀x,x<N.length->Ar h (N.getD x (0,[])).1 (u (c.getD x 0).toNat)=true) :
  ∀ {i:Nat},i<=N.length->∃p,Iy h N c i=some p/\∀k,k<N.length->Ar h (p.getD k 0) (u k)=true
 | 0,_=>by
  refine⟨_,rfl,λk hk=>?_⟩;rw[AS,AAz,BY hk];exact f _ (hu k hk).1 (hu k hk).2
 | i+1,hi=>by
  obtain⟨q,b,d⟩:=LK hk hn h0 f ht a hu hb (i:=i) O1;obtain⟨o,n⟩:=Ns h0 a O1 b;obtain⟨r,s,t⟩:=a.2 i O1;have j:=n (c.getD i 0).toNat O1;have ti:=UN ht (x:=i) O1;have g:=hu (c.getD i 0).toNat O1;obtain⟨l,m⟩:=(aA hk hn j.1 j.2 ti.1 ti.2).2 _ g.1 g.2 (d _ O1) (hb i O1);refine⟨q.set (c.getD i 0).toNat (CX h (q.getD (c.getD i 0).toNat 0) (N.getD i (0,[])).1).1,by simp only[Iy,b];rw[BY l],λk hk=>?_⟩;rw[Sn _ _ _ _ O1];split
  .rename_i e;rw[e];exact m
  exact d k hk
end
theorem aB (c:List Int):∀(l L:List (Int×Int)),(L.map (·.1)).Nodup->((Ik c L l).map (·.1)).Nodup/\(∀a∈L,a∈Ik c L l)/\(∀a∈Ik c L l,a∈L\/∃b∈l,a=(b.1,c.getD b.2.toNat 0))/\(∀b∈l,∃t,(b.1,t)∈Ik c L l)
 | [],L,d=>⟨d,λ_ h=>h,λ_ h=>.inl h,λ_ h=>by cases h⟩
 | x :: l,L,d=>by
  have e:Ik c L (x :: l)=Ik c (So c L x) l:=rfl;rw[e];have h1:((So c L x).map (·.1)).Nodup/\(∀a∈L,a∈So c L x)/\(∀a∈So c L x,a∈L\/a=(x.1,c.getD x.2.toNat 0))/\∃t,(x.1,t)∈So c L x:=by
   unfold So;split
   .rename_i ht;exact⟨d,λ_ h=>h,λ_ h=>.inl h,_,Nq ht⟩
   rename_i ht;refine⟨?_,λ_ h=>S7 _ h,λa h=>?_,c.getD x.2.toNat 0,AAH _ sc⟩
   .rw[RY,AAu];refine⟨d,by simp,λy hy z f e=>?_⟩;obtain⟨a,ha,rfl⟩:=Do.1 hy;have f:z=x.1:=by simpa using f
    exact ht (Xq a ha (e.trans f))
   rcases Fg.1 h with h|h
   .exact .inl h
   exact .inr (by simpa using h)
  obtain⟨n1,s1,i,m,g⟩:=h1;obtain⟨k,s2,j,c2⟩:=aB c l _ n1;refine⟨k,λa ha=>s2 a (s1 a ha),λa ha=>?_,λb hb=>?_⟩
  .rcases j a ha with h|⟨b,hb,h⟩
   .rcases i a h with h|h
    .exact .inl h
    exact .inr ⟨x,by simp,h⟩
   exact .inr ⟨b,by simp[hb],h⟩
  rcases DO.1 hb with rfl|hb
  .exact⟨m,s2 _ g⟩
  exact c2 b hb
structure A7p (N:List AC) (c t:List Int) (i:Nat) (g:List AC):Prop where
 len:g.length=N.length
 ty:∀k,k<N.length->(g.getD k (0,[])).1=t.getD k 0
 nd:∀k,((g.getD k (0,[])).2.map (·.1)).Nodup
 inn:∀k,∀a∈(g.getD k (0,[])).2,∃x,x<i/\(c.getD x 0).toNat=k/\∃b∈(N.getD x (0,[])).2,b.1=a.1/\a.2=c.getD b.2.toNat 0
 cov:∀x,x<i->∀b∈(N.getD x (0,[])).2,∃u,(b.1,u)∈(g.getD (c.getD x 0).toNat (0,[])).2
theorem Ss {N:List AC} {c t:List Int} (l:Q2 N.length c):∀ {i:Nat},i<=N.length->A7p N c t i (C0 N c t i)
 | 0,_=>by
  have f:∀k,(C0 N c t 0).getD k (0,[])=if k<N.length then (t.getD k 0,[]) else (0,[]):=λk=>by
   unfold C0;rw[AS,Rb];by_cases hk:k<N.length
   .rw[AAC hk,BY hk];rfl
   rw[RP (by simp;omega),At hk];rfl
  refine⟨by simp[C0],λk hk=>by rw[f,BY hk],λk=>?_,λk a ha=>?_,λx hx=>by omega⟩
  .rw[f];split<;>simp
  rw[f]at ha;split at ha<;>cases ha
 | i+1,hi=>by
  have d:=Ss (t:=t) l (i:=i) O1;obtain⟨p,q,r⟩:=l.2 i O1;have m:(c.getD i 0).toNat<(C0 N c t i).length:=by rw[d.len];omega
  have e:C0 N c t (i+1)=Ef c (C0 N c t i) i (N.getD i (0,[])).2:=rfl;rw[e];generalize C0 N c t i=g at *;obtain⟨l1,l2,n,o⟩:=aB c (N.getD i (0,[])).2 (g.getD (c.getD i 0).toNat (0,[])).2 (d.nd _);have f:∀k,(Ef c g i (N.getD i (0,[])).2).getD k (0,[])=if k=(c.getD i 0).toNat then ((g.getD k (0,[])).1,Ik c (g.getD k (0,[])).2 (N.getD i (0,[])).2) else g.getD k (0,[]):=λk=>by
   unfold Ef;rw[Sq _ _ _ _ m];by_cases e:k=(c.getD i 0).toNat
   .rw[BY e,BY e,e]
   rw[At e,At e]
  refine⟨by rw[Z9];exact d.len,λk hk=>?_,λk=>?_,λk a ha=>?_,λx hx b hb=>?_⟩
  .rw[f];split
   .exact d.ty k hk
   exact d.ty k hk
  .rw[f];split
   .rename_i e;rw[e];exact l1
   exact d.nd k
  .rw[f]at ha;split at ha
   .rename_i e;subst e;rcases n a ha with h|⟨b,hb,h⟩
    .obtain⟨x,h1,j⟩:=d.inn _ a h;exact⟨x,by omega,j⟩
    exact⟨i,by omega,rfl,b,hb,by rw[h],by rw[h]⟩
   obtain⟨x,h1,j⟩:=d.inn _ a ha;exact⟨x,by omega,j⟩
  rw[f];by_cases ex:x=i
  .subst ex;rw[BY rfl];exact o b hb
  obtain⟨u,hu⟩:=d.cov x O1 b hb;split
  .rename_i e;rw[e]at hu ⊢;exact⟨u,l2 _ hu⟩
  exact⟨u,hu⟩
structure HAp (h:AG):Prop where
 iff:∀t f,0<=t->t<(h.1.length:Int)->0<=f->f<(h.2.length:Int)->((Ee h t f).2=true↔Ar h (Qv h f) t=true)
 mono:∀t t' f,0<=t->t<(h.1.length:Int)->0<=t'->t'<(h.1.length:Int)->0<=f->f<(h.2.length:Int)->Ar h t t'=true->(Ee h t f).2=true->Ar h (Ee h t f).1 (Ee h t' f).1=true
def VP (h:AG) (m:Nat) (u:List Int):Prop:=u.length=m/\∀t∈u,0<=t/\t<(h.1.length:Int)
theorem VP.get {m:Nat} {u:List Int} (hu:VP h m u) {n:Nat} (n1:n<m):0<=u.getD n 0/\u.getD n 0<(h.1.length:Int):=by
 have hl:n<u.length:=by rw[hu.1];exact n1
 rw[AS,AT hl];exact hu.2 _ (aT hl)
theorem Qw.tyl {m:Nat} {s:Fd} (hs:Qw h m s):VP h m s.1:=⟨hs.len,hs.ty⟩
def Rh (h:AG) (m:Nat) (u v:List Int):Prop:=∀i,i<m->Ar h (u.getD i 0) (v.getD i 0)=true
def rK (h:AG) (u:List Int) (n:Int) (l:List (Int×Int)):Prop:=∀a∈l,(Ee h (u.getD n.toNat 0) a.1).2=true/\Ar h (Ee h (u.getD n.toNat 0) a.1).1 (u.getD a.2.toNat 0)=true
def WTy (h:AG) (f:List AC) (u:List Int):Prop:=∀i,i<f.length->rK h u (i:Int) (f.getD i (0,[])).2
theorem Rh.refl (hk:GI h) {m:Nat} {u:List Int} (hu:VP h m u):Rh h m u u:=λi hi=>VN hk (hu.get hi).1 (hu.get hi).2
theorem Rh.trans (hk:GI h) {m:Nat} {u v w:List Int} (hu:VP h m u) (a:VP h m v) (b:VP h m w) (h1:Rh h m u v) (c:Rh h m v w):Rh h m u w:=λi hi =>
 LI hk (hu.get hi).1 (hu.get hi).2 (a.get hi).1 (a.get hi).2 (b.get hi).1 (b.get hi).2 (h1 i hi) (c i hi)
theorem Rh.anti (hi:N7 h) {m:Nat} {u v:List Int} (hu:VP h m u) (b:VP h m v) (h1:Rh h m u v) (d:Rh h m v u):u=v:=by
 refine oS (by rw[hu.1,b.1]) λi c e=>?_;have a:i<m:=by rw[<-hu.1];exact c
 have:=hi _ _ (hu.get a).1 (hu.get a).2 (b.get a).1 (b.get a).2 (h1 i a) (d i a)
 rwa [AS,AT c,AS,AT e]at this
structure v8 (h:AG) (m:Nat) (s s':Fd):Prop where
 up:Rh h m s.1 s'.1
 pre:s.2 <+: s'.2
 ch:∀k:Nat,k<m->s'.1.getD k 0=s.1.getD k 0\/(k:Int)∈s'.2.drop s.2.length
theorem v8.refl (hk:GI h) {m:Nat} {s:Fd} (hs:Qw h m s):v8 h m s s:=⟨Rh.refl hk hs.tyl,AB0 _,λ_ _=>.inl rfl⟩
theorem Su {l l':List Int} (a:l <+: l') {n:Nat} {x:Int} (h:x∈l.drop n):x∈l'.drop n:=by
 obtain⟨r,rfl⟩:=a;rw[ACT];exact S7 _ h
theorem Q4 {l:List Int} {a b:Nat} (c:a<=b) {x:Int} (h:x∈l.drop b):x∈l.drop a:=by
 have:l.drop b=(l.drop a).drop (b-a):=by rw[AC2];congr 1;omega
 rw[this]at h;exact ABs h
theorem v8.trans (hk:GI h) {m:Nat} {a b c:Fd} (ha:Qw h m a) (hb:Qw h m b) (i:Qw h m c) (h1:v8 h m a b) (d:v8 h m b c):v8 h m a c:=by
 refine⟨h1.up.trans hk ha.tyl hb.tyl i.tyl d.up,h1.pre.trans d.pre,λk g=>?_⟩;rcases d.ch k g with f|f
 .rcases h1.ch k g with e|e
  .exact .inl (f.trans e)
  exact .inr (Su d.pre e)
 exact .inr (Q4 h1.pre.length_le f)
theorem Sv (hk:GI h) (hi:N7 h) {m:Nat} {s c:Fd} (hs:Qw h m s) {t:Int} (n0:0<=n) (n1:n<(m:Int)) (f:0<=t) (g:t<(h.1.length:Int)) (e:HX h s n t=some c) :
  v8 h m s c/\Ar h t (c.1.getD n.toNat 0)=true:=by
 have p:=(Gy hk hi hs n0 n1 f g e).1;obtain⟨i,j⟩:=hs.get n0 n1;unfold HX at e;split at e
 .rename_i hm;obtain⟨q,r,o,d⟩:=(Mh hk i j f g).1 hm;generalize (Bu h (s.1.getD n.toNat 0) t).1=v at *;injection e with e
  split at e
  .rename_i l;subst e;exact⟨v8.refl hk hs,by rw[<-l];exact d⟩
  subst e;have hl:n.toNat<s.1.length:=by rw[hs.len];omega
  have a:∀k:Nat,(s.1.set n.toNat v).getD k 0=if k=n.toNat then v else s.1.getD k 0:=λk=>Np _ _ _ hl k
  refine⟨⟨λk b=>?_,ACx _ _,λk b=>?_⟩,?_⟩
  .simp only;rw[a];split
   .rename_i e;rw[e];exact o
   exact VN hk (hs.tyl.get b).1 (hs.tyl.get b).2
  .simp only;rw[a];split
   .rename_i e;right;rw[ACT,AAD,iN];exact AAH _ (by simp;omega)
   exact .inl rfl
  simp only;rw[a,BY rfl];exact d
 cases e
theorem aC (hk:GI h) (hi:N7 h) {m:Nat} {s:Fd} (hs:Qw h m s) {t:Int} (n0:0<=n) (n1:n<(m:Int)) (l:0<=t) (o:t<(h.1.length:Int)) {u:List Int} (hu:VP h m u) (a:Rh h m s.1 u) (ht:Ar h t (u.getD n.toNat 0)=true) :
  ∃c,HX h s n t=some c/\Rh h m c.1 u:=by
 obtain⟨d,f⟩:=hs.get n0 n1;have b:n.toNat<m:=by omega
 obtain⟨p,q⟩:=hu.get b;obtain⟨i,j⟩:=(Mh hk d f l o).2 _ p q (a _ b) ht;unfold HX;rw[BY i];refine⟨_,rfl,?_⟩;split
 .exact a
 intro k g;have hl:n.toNat<s.1.length:=by rw[hs.len];omega
 simp only;rw[Np _ _ _ hl k];split
 .rename_i e;rw[e];exact j
 exact a k g
section
variable {h:AG} (hk:GI h) (hi:N7 h) (hf:HFt h) (hap:HAp h) {m:Nat} {n:Int} (n0:0<=n) (n1:n<(m:Int))
include hk hi hf n0 n1
theorem d8:∀ {l:List (Int×Int)} {s c:Fd},(∀a∈l,Mz h m a)->Qw h m s->Xn h n l s=some c->v8 h m s c/\∀a∈l,Ar h (Qv h a.1) (c.1.getD n.toNat 0)=true
 | [],s,c,_,hs,e=>by
  injection e with e
  subst e;exact⟨v8.refl hk hs,λa ha=>by cases ha⟩
 | a :: l,s,c,hl,hs,e=>by
  unfold Xn at e;cases f:HX h s n (Qv h a.1) with
  | none=>rw[f]at e;cases e
  | some s1 =>
   rw[f]at e;obtain⟨⟨p,q⟩,-⟩:=hl a sc;obtain⟨i,j⟩:=Qx hf p q;obtain⟨d,-,-⟩:=Gy hk hi hs n0 n1 i j f;obtain⟨t,u⟩:=Sv hk hi hs n0 n1 i j f;have k:∀b∈l,Mz h m b:=λb hb=>hl b (If _ hb);have e:Xn h n l s1=some c:=e;obtain⟨o,r⟩:=d8 k d e;have g:=(Qy hk hi hf n0 n1 k d e).1;refine⟨t.trans hk hs d g o,λb hb=>?_⟩;rcases DO.1 hb with rfl|hb
   .exact LI hk i j (d.get n0 n1).1 (d.get n0 n1).2 (g.get n0 n1).1 (g.get n0 n1).2 u (o.up _ O1)
   exact r b hb
theorem v9:∀ {l:List (Int×Int)} {s c:Fd},(∀a∈l,Mz h m a)->Qw h m s->Yj h n l s=some c->v8 h m s c/\(n∈c.2.drop s.2.length\/(c.1.getD n.toNat 0=s.1.getD n.toNat 0/\∀a∈l,(Ee h (s.1.getD n.toNat 0) a.1).2=true/\Ar h (Ee h (s.1.getD n.toNat 0) a.1).1 (c.1.getD a.2.toNat 0)=true))
 | [],s,c,_,hs,e=>by
  injection e with e
  subst e;exact⟨v8.refl hk hs,.inr ⟨rfl,λa ha=>by cases ha⟩⟩
 | a :: l,s,c,hl,hs,e=>by
  unfold Yj at e;split at e
  .rename_i t;obtain⟨u,v⟩:=hs.get n0 n1;obtain⟨k,o⟩:=M0 hf u v t;cases i:HX h s a.2 (Ee h (s.1.getD n.toNat 0) a.1).1 with
   | none=>rw[i]at e;cases e
   | some s1 =>
    rw[i]at e;obtain⟨-,d,b1⟩:=hl a sc;obtain⟨f,-,-⟩:=Gy hk hi hs d b1 k o i;obtain⟨q,y⟩:=Sv hk hi hs d b1 k o i;have r:∀b∈l,Mz h m b:=λb hb=>hl b (If _ hb);have e:Yj h n l s1=some c:=e;obtain⟨p,g⟩:=v9 r f e;have j:=(VO hk hi hf n0 n1 r f e).1;refine⟨q.trans hk hs f j p,?_⟩;have w:((n.toNat:Nat):Int)=n:=AB7 n0;rcases q.ch n.toNat O1 with c1|c1
    .rcases g with g|⟨g,x⟩
     .exact .inl (Q4 q.pre.length_le g)
     refine .inr ⟨g.trans c1,λb hb=>?_⟩;rcases DO.1 hb with rfl|hb
     .exact⟨t,LI hk k o (f.get d b1).1 (f.get d b1).2 (j.get d b1).1 (j.get d b1).2 y (p.up _ O1)⟩
     have:=x b hb
     rwa [c1]at this
    rw[w]at c1;exact .inl (Su p.pre c1)
  cases e
include hap
theorem wA {u:List Int} (hu:VP h m u):∀ {l:List (Int×Int)} {s:Fd},(∀a∈l,Mz h m a)->Qw h m s->Rh h m s.1 u->(∀a∈l,(Ee h (u.getD n.toNat 0) a.1).2=true)->∃c,Xn h n l s=some c/\Rh h m c.1 u
 | [],s,_,_,d,_=>⟨s,rfl,d⟩
 | a :: l,s,hl,hs,d,i=>by
  obtain⟨⟨e,f⟩,-⟩:=hl a sc;obtain⟨j,k⟩:=Qx hf e f;obtain⟨r,t⟩:=hu.get (show n.toNat<m by omega);obtain⟨s1,g,h1⟩:=aC hk hi hs n0 n1 j k hu d ((hap.iff _ _ r t e f).1 (i a sc));obtain⟨p,-,-⟩:=Gy hk hi hs n0 n1 j k g;obtain⟨c,o,q⟩:=wA hu (λb hb=>hl b (If _ hb)) p h1 λb hb=>i b (If _ hb);exact⟨c,by unfold Xn;rw[g];exact o,q⟩
theorem wB {u:List Int} (hu:VP h m u):∀ {l:List (Int×Int)} {s:Fd},(∀a∈l,Mz h m a)->Qw h m s->Rh h m s.1 u->(∀a∈l,Ar h (Qv h a.1) (s.1.getD n.toNat 0)=true)->rK h u n l->∃i,Yj h n l s=some i/\Rh h m i.1 u
 | [],s,_,_,e,_,_=>⟨s,rfl,e⟩
 | a :: l,s,hl,hs,e,w,x=>by
  obtain⟨⟨r,t⟩,j,b1⟩:=hl a sc;obtain⟨c,d⟩:=hs.get n0 n1;have o:n.toNat<m:=by omega
  have v:a.2.toNat<m:=by omega
  obtain⟨y,z⟩:=hu.get o;have p:=(hap.iff _ _ c d r t).2 (w a sc);obtain⟨f,g⟩:=M0 hf c d p;obtain⟨G,H⟩:=x a sc;obtain⟨v0,v1⟩:=M0 hf y z G;have C:=hap.mono _ _ a.1 c d y z r t (e _ o) p;obtain⟨s1,k,h1⟩:=aC hk hi hs j b1 f g hu e (LI hk f g v0 v1 (hu.get v).1 (hu.get v).2 C H);obtain⟨q,-,-⟩:=Gy hk hi hs j b1 f g k;obtain⟨F,-⟩:=Sv hk hi hs j b1 f g k;obtain⟨i,A,B⟩:=wB hu (λb hb=>hl b (If _ hb)) q h1 (λb hb=>by
   obtain⟨⟨c0,c1⟩,-⟩:=hl b (If _ hb);obtain⟨D,E⟩:=Qx hf c0 c1;exact LI hk D E c d (q.get n0 n1).1 (q.get n0 n1).2 (w b (If _ hb)) (F.up _ o)) λb hb=>x b (If _ hb)
  exact⟨i,by unfold Yj;rw[BY p,k];exact A,B⟩
end
section
variable {h:AG} (hk:GI h) (hi:N7 h) (hf:HFt h) (hap:HAp h) {f:List AC} (ha:Xo h f)
include hk hi hf hap ha
theorem A3M (n0:0<=n) (n1:n<(f.length:Int)) {s c:Fd} (hs:Qw h f.length s) (e:UK h f n s=some c):v8 h f.length s c/\(n∈c.2.drop s.2.length\/rK h c.1 n (f.getD n.toNat (0,[])).2):=by
 have _:=hap;have g:=Qz ha n0 n1;unfold UK at e;cases d:Xn h n (f.getD n.toNat (0,[])).2 s with
 | none=>rw[d]at e;cases e
 | some s1 =>
  rw[d]at e;have i:=(Qy hk hi hf n0 n1 g hs d).1;obtain⟨j,-⟩:=d8 hk hi hf n0 n1 g hs d;have e:Yj h n (f.getD n.toNat (0,[])).2 s1=some c:=e;have k:=(VO hk hi hf n0 n1 g i e).1;obtain⟨l,b⟩:=v9 hk hi hf n0 n1 g i e;refine⟨j.trans hk hs i k l,?_⟩;rcases b with b|⟨b,m⟩
  .exact .inl (Q4 j.pre.length_le b)
  refine .inr λa ha=>?_;rw[b];exact m a ha
theorem A3N (n0:0<=n) (n1:n<(f.length:Int)) {s:Fd} (hs:Qw h f.length s) {u:List Int} (hu:VP h f.length u) (d:rK h u n (f.getD n.toNat (0,[])).2) (j:Rh h f.length s.1 u):∃e,UK h f n s=some e/\Rh h f.length e.1 u:=by
 have b:=Qz ha n0 n1;obtain⟨s1,c,h1⟩:=wA hk hi hf hap n0 n1 hu b hs j λa ha=>(d a ha).1;have k:=(Qy hk hi hf n0 n1 b hs c).1;obtain⟨-,l⟩:=d8 hk hi hf n0 n1 b hs c;obtain⟨s2,g,i⟩:=wB hk hi hf hap n0 n1 hu b k h1 l d;exact⟨s2,by unfold UK;rw[c];exact g,i⟩
def AAc (h:AG) (f:List AC) (i:Nat) (s:Fd):Prop:=∀n:Nat,n<f.length->rK h s.1 (n:Int) (f.getD n (0,[])).2\/(n:Int)∈s.2.drop i
theorem A6s {n:Nat} (hn:n<f.length) {s d:Fd} (hs:Qw h f.length s) (g:Qw h f.length d) (i:v8 h f.length s d) (o:rK h s.1 (n:Int) (f.getD n (0,[])).2):rK h d.1 (n:Int) (f.getD n (0,[])).2\/(n:Int)∈d.2.drop s.2.length:=by
 have _:=hap;have _:=hi;have m:∀a∈(f.getD n (0,[])).2,Mz h f.length a:=ha _ (AE f (0,[]) hn);rcases i.ch n hn with c|c
 .left;intro a hm;obtain⟨e,j⟩:=o a hm;obtain⟨-,b,b1⟩:=m a hm;rw[RG]at e j ⊢;rw[c];obtain⟨k,l⟩:=hs.tyl.get hn;obtain⟨p,q⟩:=M0 hf k l e;exact⟨e,LI hk p q (hs.get b b1).1 (hs.get b b1).2 (g.get b b1).1 (g.get b b1).2 j (i.up _ O1)⟩
 exact .inr c
theorem wC:∀ {k i:Nat} {s:Fd} {ty:List Int},Qw h f.length s->AAc h f i s->wlF h f k i s=some ty->WTy h f ty/\Rh h f.length s.1 ty/\VP h f.length ty
 | 0,_,_,_,_,_,e=>by cases e
 | k+1,i,s,ty,hs,l,e=>by
  unfold wlF at e;split at e
  .rename_i hl;have p:=AE s.2 (0:Int) hl;obtain⟨n0,n1⟩:=hs.wt _ p;generalize hn:s.2.getD i 0=n at *;cases c:UK h f n s with
   | none=>rw[c]at e;cases e
   | some s1 =>
    rw[c]at e;have d:=(kU hk hi hf ha n0 n1 hs c).1;obtain⟨g,b⟩:=A3M hk hi hf hap ha n0 n1 hs c;have r:AAc h f (i+1) s1:=by
     intro m j;rcases l m j with q|a
     .rcases A6s hk hi hf hap ha j hs d g q with h1|h1
      .exact .inl h1
      exact .inr (Q4 O1 h1)
     have t:s.2.drop i=n :: s.2.drop (i+1):=by
      rw[Is hl,<-hn,AS,AT hl];rfl
     rw[t]at a;rcases DO.1 a with a|a
     .rcases b with b|b
      .exact .inr (by rw[a];exact Q4 O1 b)
      left;rw[a];have:n.toNat=m:=by omega
      rw[this]at b;exact b
     exact .inr (Su g.pre a)
    have e:wlF h f k (i+1) s1=some ty:=e;obtain⟨u,v,o⟩:=wC d r e;exact⟨u,g.up.trans hk hs.tyl d.tyl o v,o⟩
  rename_i hl;injection e with e
  subst e;refine⟨λn hn=>?_,Rh.refl hk hs.tyl,hs.tyl⟩;rcases l n hn with h1|h1
  .exact h1
  rw[OR O1]at h1;cases h1
theorem A3O {u:List Int} (hu:VP h f.length u) (c:WTy h f u):∀ {k i:Nat} {s:Fd},Qw h f.length s->i<=s.2.length->vW h s.1+s.2.length+1<=k+i->Rh h f.length s.1 u->∃ty,wlF h f k i s=some ty/\Rh h f.length ty u
 | 0,i,s,hs,g,j,a=>by omega
 | k+1,i,s,hs,g,j,a=>by
  unfold wlF;by_cases hl:i<s.2.length
  .rw[BY hl];obtain⟨n0,n1⟩:=hs.wt _ (AE s.2 (0:Int) hl);have d:=c (s.2.getD i 0).toNat O1;rw[AB7 n0]at d;obtain⟨s1,b,h1⟩:=A3N hk hi hf hap ha n0 n1 hs hu d a;obtain⟨e,l,m⟩:=kU hk hi hf ha n0 n1 hs b;rw[b];exact A3O hu c e O1 O1 h1
  rw[At hl];exact⟨s.1,rfl,a⟩
theorem rO (ht:∀x∈f,0<=x.1/\x.1<(h.1.length:Int)) {ty:List Int} (e:Jo h f=some ty):WTy h f ty/\Rh h f.length (Df f) ty/\VP h f.length ty:=by
 have e:wlF h f (Z6 h f) 0 (Df f,UL f)=some ty:=e;refine wC hk hi hf hap ha (k:=Z6 h f) (i:=0) (s:=(Df f,UL f)) (A7o ht) (λn hn=>.inr ?_) e;rw[iN];exact Do.2 ⟨n,Ra.2 hn,rfl⟩
theorem lK (ht:∀x∈f,0<=x.1/\x.1<(h.1.length:Int)) {u:List Int} (hu:VP h f.length u) (b:WTy h f u) (a:Rh h f.length (Df f) u):∃ty,Jo h f=some ty/\Rh h f.length ty u :=
 A3O hk hi hf hap ha hu b (k:=Z6 h f) (i:=0) (s:=(Df f,UL f)) (A7o ht) (OF _) (A8N h f) a
end
theorem M5 (d:List AK):(A3 d).1.1.length<=256/\(A3 d).1.2.length<=64:=by
 unfold A3;split
 .exact⟨by simp,by simp⟩
 rename_i a;have a:(Ba d).2=0:=IS a;have b:BZ d=0:=by
  unfold Ba at a;split at a
  .rename_i h;exact absurd a h
  rename_i h;exact IS h
 obtain⟨f,c,-⟩:=Cp b;obtain⟨-,e,-⟩:=Bt f;refine⟨?_,?_⟩
 .show (FM _ _ _).length<=256;rw[Ng,IT];exact e
 show (Dd d).1.length<=64;unfold Dd;rw[At (by rw[b];simp)];show ((DQ d).map (UD d)).length<=64;rw[No];exact c
theorem lL {H:AG} (o:H.1.length<=256) (p:H.2.length<=64) (h:Pa H f=true):AN f/\Ia f/\0<f.length/\CA H f/\Dy f=true/\f.length<=12/\∀x∈f,∀a∈x.2,0<=a.1/\a.1<(H.2.length:Int):=by
 unfold Pa at h;rw[An,TE]at h;obtain⟨hl,c⟩:=h;unfold Hr at c;split at c
 .rename_i h1;exact absurd c h1
 rename_i h1;split at c
 .cases c
 rename_i d;split at c
 .cases c
 rename_i g;have h1:(BC f).2=0:=IS h1;have d:f.all (z4 H)=true:=by simpa using d
 have g:CT f (BC f).1=0:=by simpa using g
 have j:Dy f=true:=by
  unfold Dy;simp only[An,TE];refine⟨⟨hl,?_⟩,h1,?_⟩
  .rw[Of]at d ⊢;intro x hx;have:=d x hx;unfold z4 at this;rw[An,ON,Of]at this;unfold ndB;rw[An,ON,Of];refine⟨by omega,λa ha=>?_⟩;have:=this.2 a ha;unfold ftR at this;rw[ON]at this;unfold ftB;rw[ON];omega
  rw[<-Mn g];exact Jm f
 obtain⟨l,m,n,-⟩:=Mo j;have e:CU f=0:=by
  unfold BC at h1;split at h1
  .rename_i hh;exact hh
  exact h1
 have k:Hg (f.length:Int) f=0:=by
  unfold CU at e;split at e
  .cases e
  split at e
  .cases e
  exact e
 refine⟨l,m,n,λx hx=>?_,j,(Mk hl).1,λx hx a ha=>?_⟩
 .have b:=Of.1 d x hx;unfold z4 at b;rw[An,ON]at b;exact⟨(K5 k x hx).1,b.1⟩
 have b:=Of.1 d x hx;unfold z4 at b;rw[An,Of]at b;have i:=b.2 a ha;unfold ftR at i;rw[ON]at i;exact⟨((K5 k x hx).2 a ha).1,i⟩
theorem Pc (hf:AN f):ET f:=⟨hf.1,λx hx=>(hf.2 x hx).1⟩
structure H14 (h:AG):Prop where
 ok:GI h
 inj:N7 h
 ft:HFt h
 nrm:M4 h
 ap:HAp h
 b1:h.1.length<=256
 b2:h.2.length<=64
theorem Sw {ty:List Int} {x:AC} (hx:x∈Fx f ty):∃i,i<f.length/\x=(ty.getD i 0,(f.getD i (0,[])).2):=by
 obtain⟨i,hi,rfl⟩:=List.getElem_of_mem hx;have a:i<f.length:=by rw[EL]at hi;exact hi
 refine⟨i,a,?_⟩;rw[<-KI f ty a,AS,AT hi];rfl
theorem KK {α:Type} {f:List α} (h:i<f.length) (d:α):f.getD i d∈f:=by
 rw[AS,AT h];exact aT _
theorem A8P (hf:AN f) (hs:Ia f) (h0:0<f.length) (a:Dy f=true):RO f:=by
 have h1:=A64 hf hs h0 (λ_ _=>true)
 rwa [qJ a λ_ _ _ _=>rfl]at h1
theorem lM (j:h.1.length<=256) (k:h.2.length<=64) (l:Pa h f=true):VF h f/\f.length<=12:=by
 obtain⟨a,b,c,e,d,g,i⟩:=lL j k l;exact⟨⟨a,c,e,λx hx=>(GL _).1 (b x hx).1,i,OW d,A8P a b c d⟩,g⟩
theorem VF.srt (hu:HU h) (a:VF h f):Ia f:=λx hx=>by
 have:=Sg (a.str x hx) (a.ft64 hu x hx);exact⟨(GL _).2 (a.str x hx),by omega⟩
theorem VF.small (a:VF h f):ET f:=Pc a.good
theorem Q5 (a b:List AC):(∃U,LE h a b U/\EU h a b=(U,true))\/(EU h a b=([],false)/\∀U,¬LE h a b U):=by
 unfold EU;by_cases H:∃U,LE h a b U
 .left;rw[dif_pos H];exact⟨_,H.choose_spec,rfl⟩
 right;rw[dif_neg H];exact⟨rfl,λU c=>H ⟨U,c⟩⟩
theorem A6t {a:List AC} (ha:VF h a):0<h.1.length:=by
 have:=ha.ty _ (AE a (0,[]) ha.pos);omega
theorem Il (f:List AC) (ty:List Int) (n:Nat):((Fx f ty).getD n (0,[])).2=(f.getD n (0,[])).2:=by
 by_cases h:n<f.length
 .rw[KI f ty h]
 rw[AS,RP (by rw[EL];omega),AS,RP O1]
theorem lO {f g:List AC} (h:∀n:Nat,(f.getD n (0,[])).2=(g.getD n (0,[])).2):∀(k:Nat) (o:List Int) (n:Int),Bd f k o n=Bd g k o n
 | 0,_,_=>rfl
 | k+1,o,n=>by
  have e:Aa f k=Aa g k:=by
   funext o a;unfold Aa;rw[lO h k o a.2]
  rw[Bx,Bx,h,e]
theorem rQ (hf:AN f) (h0:0<f.length) (a:AH f 0=f):kC f:=by
 have:=(dN hf (r:=0) O1 O1).2
 rwa [a]at this
theorem A3P (a:VF h f) {ty:List Int} (ht:VP h f.length ty):VF h (Fx f ty):=by
 have hl:=EL f ty;have b:AN (Fx f ty):=by
  refine⟨by rw[hl];exact a.good.1,λx hx=>?_⟩;obtain⟨i,hi,rfl⟩:=Sw hx;rw[hl];exact a.good.2 (f.getD i (0,[])) (KK hi (0,[]))
 have c:∀x∈Fx f ty,∃y∈f,x.2=y.2:=λx hx=>by
  obtain⟨i,hi,rfl⟩:=Sw hx;exact⟨_,KK hi (0,[]),rfl⟩
 refine⟨b,by rw[hl];exact a.pos,λx hx=>?_,λx hx=>?_,λx hx=>?_,Xb b ?_,λi d g=>?_⟩
 .obtain⟨i,hi,rfl⟩:=Sw hx;exact ht.get hi
 .obtain⟨y,hy,e⟩:=c x hx;rw[e];exact a.str y hy
 .obtain⟨y,hy,e⟩:=c x hx;rw[e];exact a.ft y hy
 .have:=rQ a.good a.pos a.can;unfold kC at this ⊢;rw[hl,lO (Il f ty)];exact this
 obtain⟨j,k,l,x,hx,e⟩:=a.ro i d (by rw[<-hl];exact g);exact⟨j,k,l,x,by show x∈((Fx f ty).getD j.toNat (0,[])).2;rw[Il];exact hx,e⟩
theorem D3 (f:List AC) (i:Nat):(Df f).getD i 0=(f.getD i (0,[])).1:=by
 unfold Df;rw[AS,Rb,AS];cases f[i]?<;>rfl
theorem rR {ty:List Int} (hl:ty.length=f.length):Df (Fx f ty)=ty:=by
 refine oS (by simp[Df,EL,hl]) λi a b=>?_;have:=D3 (Fx f ty) i;rw[KI f ty O1]at this;simpa[AS,a,b] using this
theorem UO {h:AG} {f:List AC} {t:Int}:∀ {l:List (Int×Int)},Sl h f t l=0↔∀a∈l,(Ee h t a.1).2=true/\Ar h (Ee h t a.1).1 (f.getD a.2.toNat (0,[])).1=true
 | []=>⟨λ_ a ha=>(by cases ha),λ_=>rfl⟩
 | a :: l=>by
  unfold Sl;rw[List.forall_mem_cons,<-UO (l:=l)];cases h1:(Ee h t a.1).2
  .simp
  cases b:Ar h (Ee h t a.1).1 (f.getD a.2.toNat (0,[])).1<;>simp
theorem Oa {h:AG} {f:List AC}:∀ {l:List AC},M2 h f l=0↔∀x∈l,∀a∈x.2,(Ee h x.1 a.1).2=true/\Ar h (Ee h x.1 a.1).1 (f.getD a.2.toNat (0,[])).1=true
 | []=>⟨λ_ a ha=>(by cases ha),λ_=>rfl⟩
 | x :: l=>by
  unfold M2;rw[List.forall_mem_cons,<-Oa (l:=l),<-UO];by_cases h1:Sl h f x.1 x.2=0
  .simp[h1]
  simp[h1]
theorem A6u:M2 h f f=0↔WTy h f (Df f):=by
 rw[Oa];constructor
 .intro h1 i hi a ha;have:=h1 _ (KK hi (0,[])) a ha
  rwa [D3,D3,RG]
 intro h1 x hx a ha;obtain⟨i,hi,rfl⟩:=Br (0,[]) hx;have:=h1 i hi a ha
 rwa [D3,D3,RG]at this
section
variable {h:AG} (hh:H14 h)
include hh
theorem H14.hu:HU h:=⟨hh.ok,hh.inj,hh.b2⟩
omit hh in
theorem wD {f:List AC} (b:VF h f):Xo h f:=λx hx a ha=>⟨b.ft x hx a ha,(b.good.2 x hx).2 a ha⟩
theorem lQ (a:VF h f) {ty:List Int} (e:Jo h f=some ty):VF h (Fx f ty)/\WTy h f ty/\VP h f.length ty/\Gx h f (Fx f ty) id:=by
 obtain⟨h1,g,d⟩:=rO hh.ok hh.inj hh.ft hh.ap (wD a) a.ty e;refine⟨A3P a d,h1,d,rfl,λi b c=>⟨b,by rw[EL];exact c⟩,λi b c=>?_,λi b c x hx=>?_⟩
 .have:=g i.toNat O1;rw[D3]at this;show Ar h _ ((Fx f ty).getD i.toNat (0,[])).1=true
  rwa [KI f ty O1]
 show Av ((Fx f ty).getD i.toNat (0,[])).2 x.1=x.2;rw[Il];exact A8B (a.srt hh.hu) hx
theorem wF (k:VF h f) (o:VF h g) (A:WTy h g (Df g)) (hm:Gx h f g m):∃ty,Jo h f=some ty/\Gx h (Fx f ty) g m:=by
 have D:=o.pos
 let u:List Int:=(List.range f.length).map λi:Nat=>(g.getD (m (i:Int)).toNat (0,[])).1
 have j:∀i:Nat,i<f.length->u.getD i 0=(g.getD (m (i:Int)).toNat (0,[])).1:=λi hi=>by
  simp[u,AS,hi]
 have p:∀i:Nat,i<f.length->(m (i:Int)).toNat<g.length/\0<=m (i:Int):=λi hi=>by
  have:=hm.rng (i:Int) O1 O1;omega
 have z:VP h f.length u:=⟨by simp[u],λt ht=>by
  obtain⟨i,hi,rfl⟩:=Do.1 ht;exact o.ty _ (KK (p i (Ra.1 hi)).1 (0,[]))⟩
 have B:WTy h f u:=λi hi a ha=>by
  have w:a∈AL f (i:Int):=by show a∈(f.getD (i:Int).toNat (0,[])).2;rwa [RG]
  have h1:=hm.arc (i:Int) O1 O1 a w;obtain⟨q,C⟩:=(k.good.2 _ (KK hi (0,[]))).2 a ha;have v:=hm.rng a.2 q C;obtain⟨b,hb,r,s⟩:=DI (l:=AL g (m (i:Int))) (e:=a.1) (by rw[h1];exact v.1);have n:=A _ (p i hi).1 b (by exact hb);rw[D3,D3,r,s,h1,RG]at n;rw[RG,j i hi,j a.2.toNat O1,AB7 q];exact n
 obtain⟨ty,e,y⟩:=lK hh.ok hh.inj hh.ft hh.ap (wD k) k.ty z B λi hi=>by
  rw[D3,j i hi];have:=hm.ty (i:Int) O1 O1
  rwa [RG]at this
 refine⟨ty,e,hm.zero,λi d c=>hm.rng i d (by rw[EL]at c;exact c),λi d c=>?_,λi d c x hx=>?_⟩
 .rw[EL]at c;have:=y i.toNat O1;rw[j _ O1,AB7 d]at this
  rwa [KI f ty O1]
 rw[EL]at c;exact hm.arc i d c x (by rw[AL,Il]at hx;exact hx)
omit hh in
theorem A09 {f:List AC} (e:dV h f=0):WTy h f (Df f):=by
 unfold dV at e
 split at e
 .exact A6u.1 e
 rename_i hn;exact absurd e hn
end
theorem UP {ty:List Int} (e:Jo h f=some ty):Sk h f=(Fx f ty,true):=by unfold Sk;rw[e]
theorem UQ (e:Jo h f=none):Sk h f=([],false):=by unfold Sk;rw[e]
theorem VP.set {m:Nat} {u:List Int} (hu:VP h m u) {t:Int} (a:0<=t) (b:t<(h.1.length:Int)) (i:Nat):VP h m (u.set i t):=⟨by rw[TA];exact hu.1,λx hx=>by
 rcases ABh hx with hx|rfl
 .exact hu.2 x hx
 exact⟨a,b⟩⟩
theorem Rh.set (hk:GI h) {m:Nat} {u:List Int} (hu:VP h m u) {t:Int} {i:Nat} (hi:i<m) (hs:Ar h (u.getD i 0) t=true):Rh h m u (u.set i t):=λk a=>by
 rw[Np _ _ _ (by rw[hu.1];exact hi) k];split
 .rename_i e;rw[e];exact hs
 exact VN hk (hu.get a).1 (hu.get a).2
section
variable {h:AG} (hk:GI h) (hn:M4 h) (hi:N7 h) (hf:HFt h) (hap:HAp h) {m:Nat}
include hk hn hi hf hap
end
section
variable {h:AG} (hk:GI h) (hn:M4 h) (hi:N7 h) (hf:HFt h) (hap:HAp h) {f:List AC} (ha:Xo h f)
include hk hn hi hf hap ha
end
end Go.Proofs.YtcmadlghkcjcbaaGreat.Fw
