/- Contracts of the program's and the reference's functions, and the plain laws of what they compute: G3 PS PA PB PC PD PE PF PL PG PH T1 G4 G5 G6 T2 T3 T5 P1 P9 T13 T14 T15 T6 T7 T8 T9 T10 T11 T12 T16 R08a P3 P4 P5 P2 P7 W1 W2 W3 W4 D2 D3 W5 U1 U2 U3. -/
import Derived.Test.YtapkhdkbkodbjaaGreatIYA
import Derived.Test.YtapkhdkbkodbjaaGreatIZJ
import Derived.Test.YtapkhdkbkodbjaaGreatIZI
set_option linter.unusedVariables false
set_option linter.unusedSimpArgs false
namespace Go.Proofs.YtapkhdkbkodbjaaGreat.Fw
open Go
attribute [local irreducible] Ev
attribute [local go_sem] i9 AM List.toList_toArray B1 evG evK ZN E7 LC HK GM JJ Tq OW DS Dd NS Cj DK frz nV HE Db BB GE Bj AV.frz AV.frzs AV.drp AV.drps AV.names AV.namess aq HG Lq Kt Uu Jl Bk Bt KA El JB Em JD JC JE WV QV Hd Kv GG Ee WW SV qUn KB JF MM Fk D7 Jo Kw Eo Uv Dn Ep FW SW JG OU Fv OT QW SX MN Jp Kx Eq D8 Hl EA II Dp FX Dq Er GI Cj Cv QT SU Ow G9 Jn Jm Ku QZ Tn OV MR MP K0 Tp MQ LA dB Qb Qa AV.trn AV.trns FN DR Obj.trn KP jQ D9 Et Ef Es Cl FY Ap lk Hr HF ID bin nU ZQ nX Tl zf1 zfs pfs AV.cells CO J8 QU Kz QY Cf OP Ty.cell1 JA FO D6 Ge Lp FM Ks ML SR Fu Hc OI Us WU MK Kq c9 iH Tk OQ DJ J9 RV.flat Ty.flat Ty.size St.add upd del Bl Value.oneCell' MC Ty.dflt I9 Qs IR Q2 List.take_succ_cons List.take_zero List.length_cons jH jI Q1 KM Mf H7 KN A3t GN Nf Ng Nh Ni Sh Si Nj JO Wm Option.map_some Option.map_none Option.bind_some Option.getD_some Option.getD_none Option.isNone_none Option.isNone_some Bool.and_true Bool.true_and Bool.and_false Bool.false_and Bool.not_true Bool.not_false if_true if_false List.length_cons List.length_nil and_true true_and and_self List.all_cons List.all_nil List.append_nil List.nil_append List.cons_append List.getElem?_cons_zero List.getElem?_cons_succ List.getElem?_nil List.map_cons List.map_nil List.set_cons_zero List.set_cons_succ List.isEmpty_nil List.isEmpty_cons decide_true decide_false beq_self_eq_true bne_self_eq_false Nat.zero_add Nat.add_zero Nat.sub_zero Int.toNat_natCast Int.toNat_zero Int.toNat_one List.take_length List.length_append List.length_singleton true_or or_true or_self false_or or_false Ty.agg.injEq Ty.slice.injEq Ty.prod.injEq Ty.int.injEq Option.some.injEq beq_iff_eq Lx evMG evMQ opM IU Mc B9 KK He Qv KI IT JP LK Lw PI Oa PJ Uy Md Qw Qx KJ Ad Al Op.operands Call.operands List.filterMap_cons List.filterMap_nil List.append_eq Bool.cond_false_right Bool.cond_true_left cond_true cond_false implies_true decide_eq_true_eq beq_true beq_false Bool.or_true Bool.or_false Bool.true_or Bool.false_or Option.isSome_some Array.empty_append List.append_toArray GF NT FZ IE dA QX GH Gm Gl JH IG Ky MO ZR nW IC inB LB GJ HA KC Aq jJ List.drop_zero Df IV eB CZ LO CX AV.fgt AV.fgts Obj.fgt A1 Aj Ad DV Iz BS HL List.any_cons List.any_nil oT jK eC jL Mi Sn qs List.flatMap_cons List.flatMap_nil List.cons_append tn eF KQ List.take_succ_cons List.drop_succ_cons eJ Hf BV tR Nn CG CY Ag Fc LJ Bv Fb EC IP JN Gr IQ
attribute [local go_sem] ty1 ty2 ty3 ty4 ty5 ty9 A7j A7k A7l A7m A7n A7o A7p A7q A7r A7s A7t A7u A7v A7w A7x A7y A7z A7A A7B A7C A7D A7E A7F A7G A7H A7I A7J A7K A7L A7M A7N A7O A7P A7Q A7R A7S A7T A7U A7V A7W A7X A7Y A7Z A80 A81 A82 A83 A84 A85 A86 A87 A88 A89 A8a A8b A8c A8d A8e A8f A8g A8h A8i A8j A8k A8l A8m A8n A8o A8p A8q A8r tZ t8 t9 uA uB uC uD uE uF uG uH uI uJ uK uL uM uN uP uQ uR uS uT uU uV uW uX uY uZ u3 u4 u5 u6 u7 u9 vA vB vC vD vE vF vG vH vI vJ vK vL vM vN vO vP vQ vS vT vU vV vW vY vZ v6 v7 v8 v9 wA wB wC wD wF wG wH wI wJ wK wL wM wN wP wQ wR wS wT wU wV wW wX wY wZ w4 w5 w6 w7 w8 w9 xA xB xC xD xE xF xG xH xI xJ xK xL xM xN xO xP xQ xR xS xT xU xV xW xX xY xZ x5 x6 x7 x8 x9 yA yB yC yD yE yF yG yH yI yJ yK yL yM yN yO yP yQ yR yS yT yU yV yW yX yY yZ y3 y4 y5 y6 y7 y8 y9 zA zB zC zD zE zF zG zH zI zJ
set_option maxRecDepth 100000
set_option maxHeartbeats 4000000
def Co (f:List AE):Nat->List Int->Int->List Int
 | 0,o,_=>o
 | k+1,o,n=>(f.getD n.toNat (0,[])).2.foldl (λo a=>if a.2∈o then o else Co f k o a.2) (o++[n])
def Ac (f:List AE) (k:Nat) (o:List Int) (a:Int×Int):List Int:=if a.2∈o then o else Co f k o a.2
theorem CN (f:List AE) (k:Nat) (o:List Int) (n:Int):Co f (k+1) o n=(f.getD n.toNat (0,[])).2.foldl (Ac f k) (o++[n]):=rfl
structure Kp (f:List AE) (o:List Int):Prop where
 nd:o.Nodup
 rng:∀x∈o,0<=x/\x<(f.length:Int)
theorem Kp.len {f:List AE} {o:List Int} (h:Kp f o):o.length<=f.length:=by
 have h1:(o.map Int.toNat).Nodup:=by
  rw[List.Nodup,VV];refine h.nd.imp_of_mem λ{a b} ha c g e=>g ?_;have:=h.rng a ha;have:=h.rng b c;omega
 have:=EX f.length (o.map Int.toNat) h1 (λj d=>by
  obtain⟨x,i,rfl⟩:=Do.1 d;have:=h.rng x i;omega)
 simpa using this
theorem Kp.snoc {f:List AE} {o:List Int} (h:Kp f o) {n:Int} (h0:0<=n) (h1:n<f.length) (hn:n∉o):Kp f (o++[n]):=by
 refine⟨?_,λx c=>?_⟩
 .rw[f8];refine⟨h.nd,by simp,λa ha b d=>?_⟩;have:b=n:=by simpa using d
  subst this;intro e;subst e;exact hn ha
 rcases OF.1 c with c|c
 .exact h.rng x c
 have:x=n:=by simpa using c
 subst this;exact⟨h0,h1⟩
theorem E2 {f:List AE} {k:Nat} (e:∀(o:List Int) (n:Int),Kp f o->0<=n->n<f.length->n∉o->Kp f (Co f k o n)/\o <+: Co f k o n) :
  ∀(l:List (Int×Int)) (o:List Int),(∀a∈l,0<=a.2/\a.2<(f.length:Int))->Kp f o->Kp f (l.foldl (Ac f k) o)/\o <+: l.foldl (Ac f k) o
 | [],o,_,h=>⟨h,Vd _⟩
 | a :: l,o,c,h=>by
  simp only[ON];have d:Kp f (Ac f k o a)/\o <+: Ac f k o a:=by
   unfold Ac;split
   .exact⟨h,Vd _⟩
   rename_i hn;exact e o a.2 h (c a (by simp)).1 (c a (by simp)).2 hn
  obtain⟨g,i⟩:=E2 e l _ (λb j=>c b (by simp[j])) d.1;exact⟨g,d.2.trans i⟩
theorem Ah {f:List AE} (hf:AR f) {n:Int} {a:Int×Int} (ha:a∈(f.getD n.toNat (0,[])).2):0<=a.2/\a.2<f.length:=by
 by_cases h:n.toNat<f.length
 .have b:f.getD n.toNat (0,[])∈f:=by
   rw[AS,At h];exact VR h
  exact(hf.2 _ b).2 a ha
 rw[AS,QH (by omega)]at ha;simp at ha
theorem EL {f:List AE} (hf:AR f):∀(k:Nat) (o:List Int) (n:Int),Kp f o->0<=n->n<f.length->n∉o->Kp f (Co f k o n)/\o <+: Co f k o n
 | 0,o,n,h,_,_,_=>⟨h,Vd _⟩
 | k+1,o,n,h,h0,h1,d=>by
  obtain⟨b,c⟩:=E2 (EL hf k) _ _ (λa ha=>Ah hf ha) (h.snoc h0 h1 d);rw[CN];exact⟨b,(AG6 o [n]).trans c⟩
theorem Ir {f:List AE} (hf:AR f):∀(k:Nat) (o:List Int) (n:Int),Kp f o->0<=n->n<f.length->n∉o->f.length-o.length<=k ->
  n∈Co f k o n/\∀x∈Co f k o n,x∈o\/∀a∈(f.getD x.toNat (0,[])).2,a.2∈Co f k o n
 | 0,o,n,h,h0,h1,m,hk=>by
  have:=(h.snoc h0 h1 m).len;simp only[IF,Pz]at this;omega
 | k+1,o,n,h,h0,h1,m,hk=>by
  have key:∀(l:List (Int×Int)) (t:List Int),(∀a∈l,0<=a.2/\a.2<(f.length:Int))->Kp f t->f.length-t.length<=k ->
    (∀a∈l,a.2∈l.foldl (Ac f k) t)/\∀x∈l.foldl (Ac f k) t,x∈t\/∀a∈(f.getD x.toNat (0,[])).2,a.2∈l.foldl (Ac f k) t:=by
   intro l;induction l with
   | nil=>exact λt _ _ _=>⟨λa ha=>(by cases ha),λx c=>.inl c⟩
   | cons a l z =>
    intro t p r u;simp only[ON];have v:Kp f (Ac f k t a)/\t <+: Ac f k t a/\a.2∈Ac f k t a/\∀x∈Ac f k t a,x∈t\/∀b∈(f.getD x.toNat (0,[])).2,b.2∈Ac f k t a:=by
     unfold Ac;split
     .rename_i hn;exact⟨r,Vd _,hn,λx c=>.inl c⟩
     rename_i hn;have q:=p a (by simp);obtain⟨e,g⟩:=EL hf k t a.2 r q.1 q.2 hn;obtain⟨i,j⟩:=Ir hf k t a.2 r q.1 q.2 hn u;exact⟨e,g,i,j⟩
    obtain⟨e,g,i,j⟩:=v;have A:=g.length_le;obtain⟨w,y⟩:=z (Ac f k t a) (λb d=>p b (by simp[d])) e (by omega);obtain⟨_,s⟩:=E2 (EL hf k) l (Ac f k t a) (λb d=>p b (by simp[d])) e;refine⟨λb d=>?_,λx c=>?_⟩
    .rcases DO.1 d with rfl|d
     .exact s.subset i
     exact w b d
    rcases y x c with c|c
    .rcases j x c with c|c
     .exact .inl c
     exact .inr λb d=>s.subset (c b d)
    exact .inr c
  have hs:=h.snoc h0 h1 m;obtain⟨e,g⟩:=key (f.getD n.toNat (0,[])).2 (o++[n]) (λa ha=>Ah hf ha) hs (by simp only[IF,Pz];omega);obtain⟨_,i⟩:=E2 (EL hf k) (f.getD n.toNat (0,[])).2 (o++[n]) (λa ha=>Ah hf ha) hs;rw[CN];refine⟨i.subset (by simp),λx c=>?_⟩;rcases g x c with c|c
  .rcases OF.1 c with c|c
   .exact .inl c
   have:x=n:=by simpa using c
   subst this;exact .inr e
  exact .inr c
def Bh (o:List Int) (x:Int):Int:=if x∈o then (o.idxOf x:Int) else 0
def I0 (o:List Int) (a:Int×Int):Int×Int:=(a.1,Bh o a.2)
def DD (f:List AE) (o:List Int) (n:Int):AE:=((f.getD n.toNat (0,[])).1,(f.getD n.toNat (0,[])).2.map (I0 o))
def AL (f:List AE) (root:Int):List AE:=(Co f f.length [] root).map (DD f (Co f f.length [] root))
def I8 (f:List AE):Prop:=∀x∈f,lJ x.2/\x.2.length<=200
theorem qK {f:List AE} (hf:I8 f) (n:Int):lJ (f.getD n.toNat (0,[])).2/\(f.getD n.toNat (0,[])).2.length<=200:=by
 by_cases h:n.toNat<f.length
 .have a:f.getD n.toNat (0,[])∈f:=by
   rw[AS,At h];exact VR h
  exact hf _ a
 rw[AS,QH (by omega)];exact⟨λi hi=>by simp at hi,by simp⟩
theorem Je {l:List (Int×Int)} (h:lJ l):Af l=l:=by
 have key:∀i,i<=l.length->Af (l.take i)=l.take i:=by
  intro i;induction i with
  | zero=>intro _;rfl
  | succ i d =>
   intro hi;rw[Au l (0,0) (by omega),Hw,d (by omega)];have b:(l.take i).length=i:=by rw[OS];omega
   have c:Io (l.getD i (0,0)) (l.take i) (l.take i).length=(l.take i).length:=by
    rw[b];cases i with
    | zero=>rfl
    | succ i =>
     have h1:=h i (by omega);have a:(l.take (i+1)).getD i (0,0)=l.getD i (0,0):=by
      simp only[AS];rw[SF];simp
     simp only[Io];rw[a,An (by omega)]
   unfold Pi;rw[c,QD,AFe,QQ]
 have:=key l.length (Is _)
 rwa [QD]at this
structure L4 (f:List AE) (num o:List Int):Prop where
 len:num.length=f.length
 get:∀j,j<f.length->num.getD j 0=if (j:Int)∈o then (o.idxOf (j:Int):Int) else -1
theorem L4.neg {f:List AE} {num o:List Int} (h:L4 f num o) {n:Int} (h0:0<=n) (h1:n<f.length):num.getD n.toNat 0<0↔n∉o:=by
 have:=h.get n.toNat (by omega);rw[show ((n.toNat:Nat):Int)=n by omega]at this;rw[this];split
 .rename_i a;constructor
  .intro e;omega
  intro e;exact absurd a e
 rename_i a;exact⟨λ_=>a,λ_=>by omega⟩
theorem bE {o:List Int} {x n:Int} (h:x∈o):(o++[n]).idxOf x=o.idxOf x:=by rw[AFL,BY h]
theorem bF {o:List Int} {n:Int} (h:n∉o):(o++[n]).idxOf n=o.length:=by rw[AFL,An h];simp
theorem L4.snoc {f:List AE} {num o:List Int} (h:L4 f num o) {n:Int} (h0:0<=n) (h1:n<f.length) (hn:n∉o):L4 f (num.set n.toNat (o.length:Int)) (o++[n]):=by
 refine⟨by simpa using h.len,λj b=>?_⟩;have d:j<num.length:=by rw[h.len];exact b
 by_cases e:j=n.toNat
 .subst e;have en:((n.toNat:Nat):Int)=n:=by omega
  rw[en];simp only[AS];rw[AFH d,BY (by simp),bF hn];simp
 have en:¬(j:Int)=n:=by omega
 simp only[AS];rw[List.getElem?_set_ne (λc=>e c.symm)];have:=h.get j b;simp only[AS]at this;rw[this];by_cases a:(j:Int)∈o
 .rw[BY a,BY (by simp[a]),bE a]
 rw[An a,An (by simp[a,en])]
theorem X3 {f:List AE} (hf:AR f) (hs:I8 f):∀(k:Nat) (s:List Int×List Int) (n:Int),L4 f s.1 s.2->Kp f s.2->0<=n->n<f.length->n∉s.2->(EH f k s n).2=Co f k s.2 n/\L4 f (EH f k s n).1 (EH f k s n).2
 | 0,s,n,h,_,_,_,_=>⟨rfl,h⟩
 | k+1,s,n,h,w,h0,h1,m=>by
  have key:∀(l:List (Int×Int)) (t:List Int×List Int),(∀a∈l,0<=a.2/\a.2<(f.length:Int))->L4 f t.1 t.2->Kp f t.2->(l.foldl (Eh f k) t).2=l.foldl (Ac f k) t.2/\L4 f (l.foldl (Eh f k) t).1 (l.foldl (Eh f k) t).2:=by
   intro l;induction l with
   | nil=>exact λt _ d _=>⟨rfl,d⟩
   | cons a l z =>
    intro t o d j;simp only[ON];have q:=o a (by simp);have p:=d.neg q.1 q.2;have x:(Eh f k t a).2=Ac f k t.2 a/\L4 f (Eh f k t a).1 (Eh f k t a).2/\Kp f (Eh f k t a).2:=by
     unfold Eh Ac;by_cases c:a.2∈t.2
     .rw[BY c,An (by rw[p];exact λe=>e c)];exact⟨rfl,d,j⟩
     rw[An c,BY (by rw[p];exact c)];obtain⟨g,i⟩:=X3 hf hs k t a.2 d j q.1 q.2 c;exact⟨g,i,by rw[g];exact(EL hf k t.2 a.2 j q.1 q.2 c).1⟩
    obtain⟨g,i,u⟩:=x;obtain⟨r,y⟩:=z (Eh f k t a) (λb v=>o b (by simp[v])) i u;rw[g]at r;exact⟨r,y⟩
  rw[F6,CN,Je (qK hs n).1];exact key _ (s.1.set n.toNat (s.2.length:Int),s.2++[n]) (λa ha=>Ah hf ha) (h.snoc h0 h1 m) (w.snoc h0 h1 m)
theorem It {f:List AE} (hf:AR f) (hs:I8 f) {root:Int} (h0:0<=root) (h1:root<f.length):Ja f root=AL f root:=by
 have l:L4 f (List.replicate f.length (-1)) []:=⟨by simp,λj k=>by simp[AS,gO,k]⟩;have d:Kp f []:=⟨by simp,λx e=>by cases e⟩;obtain⟨c,b⟩:=X3 hf hs f.length (List.replicate f.length (-1),[]) root l d h0 h1 (by simp);have c:(Gj f root).2=Co f f.length [] root:=c;have b:L4 f (Gj f root).1 (Gj f root).2:=b;have i:=(Ir hf f.length [] root d h0 h1 (by simp) (by simp)).2;have m:=(EL hf f.length [] root d h0 h1 (by simp)).1;unfold Ja AL;rw[c]at b ⊢;generalize Co f f.length [] root=o at *;refine QE λx e=>?_;unfold M0 DD;rw[Je (qK hs x).1];refine bY _ (QE λa ha=>?_);unfold ZZ I0 Bh;have h:a.2∈o:=by
  rcases i x e with g|g
  .cases g
  exact g a ha
 have n:=Ah hf ha;have:=b.get a.2.toNat (by omega);rw[show ((a.2.toNat:Nat):Int)=a.2 by omega]at this;rw[this,BY h,BY h]
def mOf (o:List Int):List (Int×Int):=(List.range o.length).map λi=>(o.getD i 0,(i:Int))
theorem lK (o:List Int) (n:Int):mOf (o++[n])=mOf o++[(n,(o.length:Int))]:=by
 unfold mOf;rw[IF,Pz,SQ,VO]
 congr 1
 .refine QE λi hi=>?_;have:i<o.length:=QJ.1 hi;simp only[AS];rw[QN this]
 simp[AS]
theorem A1J (k:Int) (a b:List (Int×Int)):Bg T3 T3 k (a++b)=(Bg T3 T3 k a).or (Bg T3 T3 k b):=by
 induction a with
 | nil=>rfl
 | cons x a c =>
  simp only[oF,Bg];split
  .rfl
  exact c
theorem Dk {α:Type} {p:List α->Prop} (h0:p []) (h1:∀l a,p l->p (l++[a])) (l:List α):p l:=by
 have:∀n (l:List α),l.length=n->p l:=by
  intro n;induction n with
  | zero=>intro l b;rw[List.length_eq_zero_iff.1 b];exact h0
  | succ n d =>
   intro l b;have c:l≠[]:=by intro e;subst e;simp at b
   rw[<-List.dropLast_concat_getLast c];exact h1 _ _ (d _ (by simp[b]))
 exact this _ l rfl
theorem TF (o:List Int) (x:Int):Bg T3 T3 x (mOf o)=if x∈o then some (o.idxOf x:Int) else none:=by
 induction o using Dk with
 | h0=>rfl
 | h1 o n b =>
  rw[lK,A1J,b];by_cases a:x∈o
  .rw[BY a,BY (by simp[a]),bE a];rfl
  rw[An a];by_cases hn:x=n
  .subst hn;rw[BY (by simp),bF a];simp[Bg,IC]
  rw[An (by simp[a,hn])];have:((x==n)=true)↔False:=by simp[hn]
  simp[Bg,IC,hn]
theorem A1K (k v:Int) (l:List (Int×Int)) (h:Bg T3 T3 k l=none):Gc T3 T3 k v l=l++[(k,v)]:=by
 induction l with
 | nil=>rfl
 | cons x l b =>
  simp only[Bg]at h;simp only[Gc,oF];split at h
  .cases h
  rename_i a;rw[An a,b h]
theorem A4Y {o:List Int} {n:Int} (hn:n∉o):Gc T3 T3 n (o.length:Int) (mOf o)=mOf (o++[n]):=by
 rw[A1K _ _ _ (by rw[TF,An hn]),lK]
theorem A8T (o:List Int) (x:Int):(Bg T3 T3 x (mOf o)).getD 0=Bh o x:=by
 rw[TF];unfold Bh;split<;>rfl
theorem X4 (o:List Int) (x:Int):(Bg T3 T3 x (mOf o)).isSome=decide (x∈o):=by
 rw[TF];split<;>simp[*]
section
variable {α:Type}
structure SO (o:α->α->Int):Prop where
 anti:∀a b,o b a=- o a b
 trans:∀ {a b c},o a b<0->o b c<0->o a c<0
variable {o:α->α->Int} {d:α}
def Cb (d:α) (l:List α) (i j:Nat):List α:=(l.set i (l.getD j d)).set j (l.getD i d)
theorem Iu {l:List α} {i j:Nat} (hi:i<l.length) (c:j<l.length) (k:Nat):(Cb d l i j).getD k d=if k=j then l.getD i d else if k=i then l.getD j d else l.getD k d:=by
 unfold Cb;simp only[AS,aT,SL];by_cases a:j=k
 .rw[BY a,BY (by omega),BY a.symm];rfl
 rw[An a,An (show ¬k=j by omega)];by_cases b:i=k
 .rw[BY b,BY (by omega),BY b.symm];rfl
 rw[An b,An (show ¬k=i by omega)]
theorem A1L {l:List α} {i j:Nat} (hi:i<l.length) (a:j<l.length):(Cb d l i j).Perm l:=by
 have b:l.getD i d=l[i]:=by rw[AS,At hi];rfl
 have c:l.getD j d=l[j]:=by rw[AS,At a];rfl
 unfold Cb;rw[b,c];exact List.set_set_perm hi a
structure EO (d:α) (a b:Nat) (l r:List α):Prop where
 perm:r.Perm l
 out:∀k,k<a\/b<=k->r.getD k d=l.getD k d
 inn:∀i,a<=i->i<b->∃j,a<=j/\j<b/\r.getD i d=l.getD j d
theorem EO.len {a b:Nat} {l r:List α} (h:EO d a b l r):r.length=l.length:=h.perm.length_eq
theorem EO.refl (a b:Nat) (l:List α):EO d a b l l:=⟨List.Perm.refl _,λ_ _=>rfl,λi h1 c=>⟨i,h1,c,rfl⟩⟩
theorem EO.trans {a b:Nat} {l r s:List α} (h:EO d a b l r) (c:EO d a b r s):EO d a b l s:=⟨c.perm.trans h.perm,λk hk=>(c.out k hk).trans (h.out k hk),λi h1 g=>by
 obtain⟨j,m,n,e⟩:=c.inn i h1 g;obtain⟨k,o,p,f⟩:=h.inn j m n;exact⟨k,o,p,e.trans f⟩⟩
theorem EO.mono {a b c b':Nat} {l r:List α} (h:EO d a b l r) (ha:c<=a) (g:b<=b'):EO d c b' l r:=⟨h.perm,λk hk=>h.out k (by omega),λi h1 f=>by
 by_cases hi:a<=i/\i<b
 .obtain⟨j,m,n,e⟩:=h.inn i hi.1 hi.2;exact⟨j,by omega,by omega,e⟩
 exact⟨i,h1,f,h.out i (by omega)⟩⟩
theorem EO.swap {a b:Nat} (l:List α) {i j:Nat} (g:a<=i) (h:i<b) (m:a<=j) (n:j<b) (q:b<=l.length):EO d a b l (Cb d l i j):=by
 have f:=Iu (d:=d) (l:=l) (i:=i) (j:=j) (by omega) (by omega);refine⟨A1L (by omega) (by omega),λk hk=>?_,λk o p=>?_⟩
 .rw[f k,An (by omega),An (by omega)]
 rw[f k];by_cases c:k=j
 .rw[BY c];exact⟨i,g,h,rfl⟩
 rw[An c];by_cases e:k=i
 .rw[BY e];exact⟨j,m,n,rfl⟩
 rw[An e];exact⟨k,o,p,rfl⟩
def nS (o:α->α->Int) (d:α) (l:List α):Prop:=∀i j,i<l.length->j<l.length->i≠j->o (l.getD i d) (l.getD j d)≠0
theorem z9 (g:SO o) (l:List α):nS o d l↔l.Pairwise λa b=>o a b≠0:=by
 have e:∀i (h:i<l.length),l.getD i d=l[i]:=λi h=>by rw[AS,At h];rfl
 rw[QG];constructor
 .intro h i j hi c f;have:=h i j hi c (by omega)
  rwa [e i hi,e j c]at this
 intro h i j hi c f;rw[e i hi,e j c];rcases Nat.lt_or_gt_of_ne f with h1|h1
 .exact h i j hi c h1
 have k:=h j i c hi h1;rw[g.anti];omega
theorem nS.perm (c:SO o) {l r:List α} (h:nS o d l) (hp:r.Perm l):nS o d r:=by
 rw[z9 c]at h ⊢;refine(hp.symm.pairwise_iff ?_).1 h;intro a b e;rw[c.anti];omega
theorem nS.lt (c:SO o) {l:List α} (h:nS o d l) {i j:Nat} (hi:i<l.length) (b:j<l.length) (a:i≠j) (hn:¬o (l.getD i d) (l.getD j d)<0):o (l.getD j d) (l.getD i d)<0:=by
 have h1:=h i j hi b a;rw[c.anti];omega
def TG (o:α->α->Int) (d:α) (a b:Nat) (l:List α):Prop:=∀i j,a<=i->i<j->j<b->o (l.getD i d) (l.getD j d)<0
theorem fV (a:Nat) (l:List α):TG o d a (a+1) l:=λi j h1 b c=>by omega
theorem A4Z (g:SO o) {a b:Nat} {l:List α} (h:TG o d a b l) (m:a<b) (c:o (l.getD (b-1) d) (l.getD b d)<0):TG o d a (b+1) l:=by
 intro i j h1 e k;by_cases f:j=b
 .subst f;by_cases hi:i=j-1
  .rw[hi];exact c
  exact g.trans (h i (j-1) h1 (by omega) (by omega)) c
 exact h i j h1 e (by omega)
theorem Nx {a b:Nat} {l r:List α} (h:TG o d a b l) (e:∀k,a<=k->k<b->r.getD k d=l.getD k d):TG o d a b r:=λi j h1 f c=>by
 rw[e i h1 (by omega),e j (by omega) c];exact h i j h1 f c
def qL (o:α->α->Int) (d:α) (a i j:Nat) (m:List α):Prop:=(∀x y,a<=x->x<y->y<=i->x≠j->y≠j->o (m.getD x d) (m.getD y d)<0)/\∀y,j<y->y<=i->o (m.getD j d) (m.getD y d)<0
theorem qM {a i:Nat} {m:List α} (h:TG o d a i m):qL o d a i i m:=⟨λx y h0 h1 b c e=>h x y h0 h1 (by omega),λy h1 b=>by omega⟩
theorem X5 (g:SO o) {a i j:Nat} {m:List α} (h:qL o d a i j m) (l:a<=j) (n:j<=i) (b:j=a\/o (m.getD (j-1) d) (m.getD j d)<0):TG o d a (i+1) m:=by
 intro x y h0 h1 k;by_cases c:x=j
 .subst c;exact h.2 y h1 (by omega)
 by_cases e:y=j
 .subst e;rcases b with b|b
  .omega
  by_cases f:x=y-1
  .subst f;exact b
  exact g.trans (h.1 x (y-1) h0 (by omega) (by omega) c (by omega)) b
 exact h.1 x y h0 h1 (by omega) c e
theorem bG {a i j:Nat} {m:List α} (h:qL o d a i j m) (h0:a<j) (q:j<=i) (hi:i<m.length) (p:o (m.getD j d) (m.getD (j-1) d)<0):qL o d a i (j-1) (Cb d m j (j-1)):=by
 have f:=Iu (d:=d) (l:=m) (i:=j) (j:=j-1) (by omega) (by omega);refine⟨λx y g h1 e k n=>?_,λy h1 e=>?_⟩
 .rw[f x,f y,An k,An n];by_cases c:x=j
  .subst c;rw[BY rfl,An (by omega)];exact h.1 (x-1) y (by omega) (by omega) e (by omega) (by omega)
  rw[An c];by_cases b:y=j
  .rw[BY b];exact h.1 x (j-1) g (by omega) (by omega) c (by omega)
  rw[An b];exact h.1 x y g h1 e c b
 rw[f (j-1),f y,BY rfl,An (by omega)];by_cases b:y=j
 .rw[BY b];exact p
 rw[An b];exact h.2 y (by omega) e
def Hp (o:α->α->Int) (d:α) (f hi lo:Nat) (m:List α):Prop:=∀k c,lo<=k->(c=2*k+1\/c=2*k+2)->c<hi->o (m.getD (f+c) d) (m.getD (f+k) d)<0
structure HpX (o:α->α->Int) (d:α) (f hi lo root:Nat) (m:List α):Prop where
 le:lo<=root
 hp:∀k c,lo<=k->k≠root->(c=2*k+1\/c=2*k+2)->c<hi->o (m.getD (f+c) d) (m.getD (f+k) d)<0
 up:∀p c,lo<=p->(root=2*p+1\/root=2*p+2)->(c=2*root+1\/c=2*root+2)->c<hi->o (m.getD (f+c) d) (m.getD (f+p) d)<0
theorem A1M {f hi lo:Nat} {m:List α} (h:Hp o d f hi (lo+1) m):HpX o d f hi lo lo m:=⟨Is _,λk c h1 a b e=>h k c (by omega) b e,λp c h1 a=>by omega⟩
theorem A50 {f hi lo root:Nat} {m:List α} (h:HpX o d f hi lo root m) (e:hi<=2*root+1):Hp o d f hi lo m:=λk c h1 a b=>h.hp k c h1 (by omega) a b
theorem lL (i:SO o) {f hi lo root ch:Nat} {m:List α} (h:HpX o d f hi lo root m) (j:ch=2*root+1\/ch=2*root+2) (g:o (m.getD (f+ch) d) (m.getD (f+root) d)<0)
  (hs:∀c,(c=2*root+1\/c=2*root+2)->c<hi->c≠ch->o (m.getD (f+c) d) (m.getD (f+ch) d)<0):Hp o d f hi lo m:=λk c h1 a b=>by
 by_cases hk:k=root
 .subst hk;by_cases e:c=ch
  .rw[e];exact g
  exact i.trans (hs c a b e) g
 exact h.hp k c h1 hk a b
theorem lM {f hi lo root ch:Nat} {m:List α} (h:HpX o d f hi lo root m) (r:ch<hi) (hf:f+hi<=m.length) (n:ch=2*root+1\/ch=2*root+2) (t:o (m.getD (f+root) d) (m.getD (f+ch) d)<0)
  (hs:∀c,(c=2*root+1\/c=2*root+2)->c<hi->c≠ch->o (m.getD (f+c) d) (m.getD (f+ch) d)<0):HpX o d f hi lo ch (Cb d m (f+root) (f+ch)):=by
 have e:=Iu (d:=d) (l:=m) (i:=f+root) (j:=f+ch) (by omega) (by omega);have u:=h.le;refine⟨by omega,λk c h1 g a b=>?_,λp c h1 g a b=>?_⟩
 .rw[e,e];by_cases hk:k=root
  .subst hk;rw[An (show ¬f+k=f+ch by omega),BY rfl];by_cases q:c=ch
   .rw[BY (by omega)];exact t
   rw[An (by omega),An (by omega)];exact hs c a b q
  rw[An (show ¬f+k=f+ch by omega),An (show ¬f+k=f+root by omega)];by_cases s:c=root
  .subst s;rw[An (by omega),BY rfl];exact h.up k ch h1 a n r
  rw[An (by omega),An (by omega)];exact h.hp k c h1 hk a b
 have hp:p=root:=by omega
 subst hp;rw[e,e,An (by omega),An (by omega),An (by omega),BY rfl];exact h.hp ch c (by omega) (by omega) a b
theorem lN (b:SO o) {f hi:Nat} {m:List α} (h:Hp o d f hi 0 m):∀(n k:Nat),k<=n->0<k->k<hi->o (m.getD (f+k) d) (m.getD f d)<0
 | 0,k,h1,c,_=>by omega
 | n+1,k,h1,c,e=>by
  have a:=h ((k-1) / 2) k (by omega) (by omega) e;by_cases g:(k-1) / 2=0
  .rw[g]at a;exact a
  exact b.trans a (lN b h n ((k-1) / 2) (by omega) (by omega) (by omega))
structure A1N (o:α->α->Int) (d:α) (f n i:Nat) (m:List α):Prop where
 heap:Hp o d f i 0 m
 srt:TG o d (f+i) (f+n) m
 big:∀x y,x<i->i<=y->y<n->o (m.getD (f+x) d) (m.getD (f+y) d)<0
theorem qN {f n:Nat} {m:List α} (h:Hp o d f n 0 m):A1N o d f n n m:=⟨h,λi j h1 a b=>by omega,λx y h1 a b=>by omega⟩
theorem A1O (t:SO o) {f n i:Nat} {m:List α} (h:A1N o d f n (i+1) m) (hi:i<n) (v:f+n<=m.length) :
  HpX o d f i 0 0 (Cb d m f (f+i))/\TG o d (f+i) (f+n) (Cb d m f (f+i))/\∀x y,x<i->i<=y->y<n->o ((Cb d m f (f+i)).getD (f+x) d) ((Cb d m f (f+i)).getD (f+y) d)<0:=by
 have a:=Iu (d:=d) (l:=m) (i:=f) (j:=f+i) (by omega) (by omega);have q:=lN t h.heap i;refine⟨⟨Is _,λk c h1 e b u=>?_,λp c h1 e=>by omega⟩,λx y h1 e b=>?_,λx y h1 e b=>?_⟩
 .rw[a,a,An (by omega),An (by omega),An (by omega),An (by omega)];exact h.heap k c h1 b (by omega)
 .rw[a,a,An (show ¬y=f+i by omega),An (show ¬y=f by omega)];by_cases g:x=f+i
  .rw[BY g];have:=h.big 0 (y-f) (by omega) (by omega) (by omega)
   rwa [show f+0=f by omega,show f+(y-f)=y by omega]at this
  rw[An g,An (by omega)];exact h.srt x y (by omega) e b
 have key:∀z,z<i+1->i+1<=y->o (m.getD (f+z) d) (m.getD (f+y) d)<0:=λz s r=>h.big z y s r b;rw[a,a,An (show ¬f+x=f+i by omega)];by_cases r:y=i
 .rw[BY (show f+y=f+i by omega)];by_cases g:x=0
  .rw[BY (show f+x=f by omega)];exact q i (by omega) (by omega) (by omega)
  rw[An (show ¬f+x=f by omega)];exact q x (by omega) (by omega) (by omega)
 rw[An (show ¬f+y=f+i by omega),An (show ¬f+y=f by omega)];by_cases g:x=0
 .rw[BY (show f+x=f by omega)];exact key i (by omega) (by omega)
 rw[An (show ¬f+x=f by omega)];exact key x (by omega) (by omega)
theorem A1P {f n i:Nat} {m r:List α} (hp:EO d f (f+i) m r) (hh:Hp o d f i 0 r) (hs:TG o d (f+i) (f+n) m) (c:∀x y,x<i->i<=y->y<n->o (m.getD (f+x) d) (m.getD (f+y) d)<0):A1N o d f n i r :=
 ⟨hh,Nx hs λk h1 a=>hp.out k (by omega),λx y h1 a b=>by
  rw[hp.out (f+y) (by omega)];obtain⟨j,g,h,e⟩:=hp.inn (f+x) (by omega) (by omega);rw[e];have:=c (j-f) y (by omega) a b
  rwa [show f+(j-f)=j by omega]at this⟩
theorem A51 {f n:Nat} {m:List α} (h:A1N o d f n 0 m):TG o d f (f+n) m:=h.srt
structure PtI (o:α->α->Int) (d:α) (a b i j:Nat) (m:List α):Prop where
 lo:∀x,a<x->x<i->o (m.getD x d) (m.getD a d)<0
 hi:∀x,j<x->x<b->o (m.getD a d) (m.getD x d)<0
theorem lO {a b i j:Nat} {m:List α} (h:PtI o d a b i j m) (n:a<i) (q:i<j) (r:j<b) (p:b<=m.length) (h1:o (m.getD a d) (m.getD i d)<0) (k:o (m.getD j d) (m.getD a d)<0):PtI o d a b (i+1) (j-1) (Cb d m i j):=by
 have c:=Iu (d:=d) (l:=m) (i:=i) (j:=j) (by omega) (by omega);refine⟨λx f g=>?_,λx f g=>?_⟩
 .rw[c x,c a,An (show ¬x=j by omega),An (show ¬a=j by omega),An (show ¬a=i by omega)];by_cases e:x=i
  .rw[BY e];exact k
  rw[An e];exact h.lo x f (by omega)
 rw[c x,c a,An (show ¬a=j by omega),An (show ¬a=i by omega)];by_cases e:x=j
 .rw[BY e];exact h1
 rw[An e,An (by omega)];exact h.hi x (by omega) g
structure PtE (o:α->α->Int) (d:α) (a b p:Nat) (m:List α):Prop where
 l:a<=p
 r:p<b
 lo:∀x,a<=x->x<p->o (m.getD x d) (m.getD p d)<0
 hi:∀x,p<x->x<b->o (m.getD p d) (m.getD x d)<0
theorem A00 {a b j:Nat} {m:List α} (h:PtI o d a b (j+1) j m) (g:a<=j) (k:j<b) (p:b<=m.length):PtE o d a b j (Cb d m j a):=by
 have c:=Iu (d:=d) (l:=m) (i:=j) (j:=a) (by omega) (by omega);refine⟨g,k,λx n f=>?_,λx n f=>?_⟩
 .rw[c x,c j,An (show ¬j=a by omega),BY rfl];by_cases e:x=a
  .rw[BY e];exact h.lo j (by omega) (by omega)
  rw[An e,An (by omega)];exact h.lo x (by omega) (by omega)
 rw[c x,c j,An (show ¬x=a by omega),An (show ¬x=j by omega)];by_cases e:j=a
 .rw[BY e];rw[e];exact h.hi x (by omega) f
 rw[An e,BY rfl];exact h.hi x (by omega) f
structure Cut (o:α->α->Int) (d:α) (a0 b0 a b:Nat) (m:List α):Prop where
 s1:TG o d a0 a m
 s2:TG o d b b0 m
 c1:∀x y,a0<=x->x<a->a<=y->y<b0->o (m.getD x d) (m.getD y d)<0
 c2:∀x y,a0<=x->x<b->b<=y->y<b0->o (m.getD x d) (m.getD y d)<0
 ab:a0<=a/\a<=b/\b<=b0
theorem A1R {a b:Nat} (g:a<=b) (m:List α):Cut o d a b a b m:=⟨λi j h1 c e=>by omega,λi j h1 c e=>by omega,λx y h1 c=>by omega,λx y h1 c e f=>by omega,by omega⟩
theorem Cut.pin {l n a b:Nat} {m r:List α} (h:Cut o d l n a b m) (hp:EO d a b m r):Cut o d l n a b r:=by
 obtain⟨w,B,A⟩:=h.ab;have key:∀(P:α->Prop) (lo hi:Nat),lo<=a->b<=hi->(∀y,lo<=y->y<hi->P (m.getD y d))->∀y,lo<=y->y<hi->P (r.getD y d):=λP lo hi h1 p q y c f=>by
  obtain⟨j,s,t,e⟩:=(hp.mono h1 p).inn y c f;rw[e];exact q j s t
 refine⟨Nx h.s1 λk u v=>hp.out k (by omega),Nx h.s2 λk u v=>hp.out k (by omega),λx y g i c f=>?_,λx y g i c f=>?_,h.ab⟩
 .rw[hp.out x (by omega)];exact key (λz=>o (m.getD x d) z<0) a n (Is _) A (λy c f=>h.c1 x y g i c f) y c f
 rw[hp.out y (by omega)];exact key (λz=>o z (m.getD y d)<0) l b w (Is _) (λx g i=>h.c2 x y g i c f) x g i
theorem Cut.done {g k a b:Nat} {m:List α} (h:Cut o d g k a b m) (hs:TG o d a b m):TG o d g k m:=by
 obtain⟨n,p,q⟩:=h.ab;intro i j h1 c e;by_cases hi:i<a
 .by_cases f:j<a
  .exact h.s1 i j h1 c f
  exact h.c1 i j h1 hi (by omega) e
 by_cases f:j<b
 .exact hs i j (by omega) c f
 by_cases l:i<b
 .exact h.c2 i j h1 l (by omega) e
 exact h.s2 i j (by omega) c e
theorem Cut.left (u:SO o) {e f a b p:Nat} {m:List α} (h:Cut o d e f a b m) (hp:PtE o d a b p m) (hs:TG o d a p m):Cut o d e f (p+1) b m:=by
 obtain⟨A,B,C⟩:=h.ab;have w:=hp.l;have z:=hp.r;refine⟨λi j h1 g v=>?_,h.s2,λx y n D E q=>?_,h.c2,by omega⟩
 .by_cases hi:i<a
  .by_cases c:j<a
   .exact h.s1 i j h1 g c
   exact h.c1 i j h1 hi (by omega) (by omega)
  by_cases c:j=p
  .rw[c];exact hp.lo i (by omega) (by omega)
  exact hs i j (by omega) g (by omega)
 by_cases s:x<a
 .exact h.c1 x y n s (by omega) q
 by_cases k:y<b
 .by_cases t:x=p
  .rw[t];exact hp.hi y (by omega) k
  exact u.trans (hp.lo x (by omega) (by omega)) (hp.hi y (by omega) k)
 exact h.c2 x y n (by omega) (by omega) q
theorem Cut.right (z:SO o) {g k a b p:Nat} {m:List α} (h:Cut o d g k a b m) (hp:PtE o d a b p m) (hs:TG o d (p+1) b m):Cut o d g k a p m:=by
 obtain⟨C,D,E⟩:=h.ab;have A:=hp.l;have B:=hp.r;refine⟨h.s1,λi j h1 n q=>?_,λx y c e t f=>h.c1 x y c e t f,λx y c e t f=>?_,by omega⟩
 .by_cases s:j<b
  .by_cases hi:i=p
   .rw[hi];exact hp.hi j (by omega) s
   exact hs i j (by omega) n s
  by_cases u:i<b
  .exact h.c2 i j (by omega) u (by omega) q
  exact h.s2 i j (by omega) n q
 by_cases w:y<b
 .by_cases v:x<a
  .exact h.c1 x y c v (by omega) f
  by_cases hyp:y=p
  .rw[hyp];exact hp.lo x (by omega) e
  exact z.trans (hp.lo x (by omega) e) (hp.hi y (by omega) w)
 exact h.c2 x y c (by omega) (by omega) f
theorem PtE.pinL {a b p:Nat} {m r:List α} (h:PtE o d a b p m) (hp:EO d a p m r):PtE o d a b p r:=by
 have g:=h.l;have i:=h.r;refine⟨g,i,λx c f=>?_,λx c f=>?_⟩
 .rw[hp.out p (by omega)];obtain⟨j,k,n,e⟩:=hp.inn x c f;rw[e];exact h.lo j k n
 rw[hp.out p (by omega),hp.out x (by omega)];exact h.hi x c f
theorem PtE.pinR {a b p:Nat} {m r:List α} (h:PtE o d a b p m) (hp:EO d (p+1) b m r):PtE o d a b p r:=by
 have g:=h.l;have i:=h.r;refine⟨g,i,λx f c=>?_,λx f c=>?_⟩
 .rw[hp.out p (by omega),hp.out x (by omega)];exact h.lo x f c
 rw[hp.out p (by omega)];obtain⟨j,n,k,e⟩:=hp.inn x (by omega) c;rw[e];exact h.hi j (by omega) k
def Bf (o:α->α->Int) (d:α) (a b:Nat) (m:List α):Prop:=a=0\/∀y,a<=y->y<b->o (m.getD (a-1) d) (m.getD y d)<0
theorem Bf.pin {a b:Nat} {m r:List α} (h:Bf o d a b m) (hp:EO d a b m r):Bf o d a b r:=by
 rcases h with h|h
 .exact .inl h
 by_cases h0:a=0
 .exact .inl h0
 right;intro y g i;rw[hp.out (a-1) (by omega)];obtain⟨j,c,f,e⟩:=hp.inn y g i;rw[e];exact h j c f
theorem Bf.sub {a b b':Nat} {m:List α} (h:Bf o d a b m) (e:b'<=b):Bf o d a b' m:=h.imp id λh y c f=>h y c (by omega)
theorem PtE.bf {a b p:Nat} {m:List α} (h:PtE o d a b p m):Bf o d (p+1) b m:=.inr λy e c=>by
 rw[show p+1-1=p by omega];exact h.hi y (by omega) c
end
section
attribute [local go_sem] DC
def CK (a b:Int×Int):Int:=GC a.1 b.1
theorem CS:SO CK:=⟨λa b=>by unfold CK GC;(repeat' split)<;>omega,λ{a b c} h1 d=>by
 unfold CK GC at *
 (repeat' split at h1)<;>(repeat' split at d)<;>(repeat' split)<;>omega⟩
theorem A8U (l:List (Int×Int)) (M:l.length<=100000) (w:nS CK (0,0) l) (a b:Nat) (H:a<=100000) (I:b<=l.length):BK Tryz.prog 232 [.sr 1000000 AW 0 l.length,.p T3 (a:Int),.p T3 (b:Int),.fn 192] [(1000000,.arr 106 AW l)] [1000000] (λres F=>res=.raw (.tuple #[])/\∃r,F=[(1000000,.arr 106 AW r)]/\EO (0,0) a b l r/\TG CK (0,0) a b r):=by
 refine LQ [0,1,2,3,8,9,14,34] [] [] Tryz.func232 Tryz.ntmps232 (AF FD AH) ?_;intro w0 K O0 ρ0 d O P;simp only[Aq];repeat'(first|exact trivial|apply eS rfl|apply AB|refine rX d ?_ ?_|refine rC ?_ ?_<;>intro e<;>try(cases e;done))
 .omega
 refine AI (ι:={s:Nat×List (Int×Int)//a+1<=s.1/\(s.1=a+1\/s.1<=b)/\EO (0,0) a b l s.2/\TG CK (0,0) a s.1 s.2}) (λs=>⟨[(0,.sr 1000000 AW 0 l.length),(1,.p T3 (a:Int)),(2,.p T3 (b:Int)),(3,.fn 192),(8,.p (.int .i64) (s.1.1:Int))],[(1000000,.arr 106 AW s.1.2)]⟩) (λs=>b-s.1.1) ⟨(a+1,l),Is _,.inl rfl,EO.refl a b l,fV a l⟩ (AC [(1000000,.nm 1000000)] rfl rfl ?_ ?_) (λs=>?_)
 .first|exact eN|refine eM ?_
 .first|exact eN|refine eM ?_
 obtain⟨⟨i,m⟩,B,C,hp,hs⟩:=s;simp only at B C hp hs ⊢;have N:=hp.len;repeat'(first|exact trivial|apply eS rfl|apply AB|refine rX d ?_ ?_|refine rC ?_ ?_<;>intro e<;>try(cases e;done))
 .have D:i<b:=by exact eV
  refine AI (ι:={t:Nat×List (Int×Int)//a<=t.1/\t.1<=i/\EO (0,0) a b l t.2/\qL CK (0,0) a i t.1 t.2}) (λt=>⟨[(0,.sr 1000000 AW 0 l.length),(1,.p T3 (a:Int)),(2,.p T3 (b:Int)),(3,.fn 192),(8,.p (.int .i64) (i:Int)),(9,.p (.int .i64) (t.1.1:Int))],[(1000000,.arr 106 AW t.1.2)]⟩) (λt=>t.1.1) ⟨(i,m),by omega,Is i,hp,qM hs⟩ (AC [(1000000,.nm 1000000)] rfl rfl ?_ ?_) (λt=>?_)
  .first|exact eN|refine eM ?_
  .first|exact eN|refine eM ?_
  obtain⟨⟨j,c⟩,ha,q,g,o⟩:=t;simp only at ha q g o ⊢;have J:=g.len;have z:=w.perm CS g.perm;repeat'(first|exact trivial|apply eS rfl|apply AB|refine rX d ?_ ?_)
  .dsimp only[Ty.den]at *;exact⟨λ_=>by omega,λ_=>⟨by omega,by omega⟩,λ_=>⟨by omega,by omega⟩⟩
  have n:a<j->((j:Int)-1).toNat=j-1:=λ_=>by omega
  refine Dt (by simp only[go_sem,Nat.reduceEqDiff,reduceCtorEq,Nat.reduceAdd,Nat.reduceSub,Nat.reduceMul,Nat.reduceLeDiff,Nat.reduceLT,Int.reduceLE,Int.reduceToNat,Int.reduceNeg,↓reduceIte];rfl) ?_ ?_
  .intro f;simp only[AT,By]at f;have k:a<j:=by omega
   have u:CK (c.getD j (0,0)) (c.getD ((j:Int)-1).toNat (0,0))<0:=f.2;rw[n k]at u;have E:Cb (0,0) c j (j-1)=(c.set j (c.getD (j-1) (0,0))).set (j-1) (c.getD j (0,0)):=rfl;repeat'(first|exact trivial|apply eS rfl|apply AB|refine rP d ?_ ?_|fail)
   (refine CQ drawsAny d 16 [([0,1,5,6,7,8,9,10,11,12,13,14],15)] [2,3,4] (by kernel_rfl) (MF ?_ ?_);(next=>exact Ce);refine OL d [] ?_ ?_;(next=>exact Ce);refine Ss d ?_ ?_ ?_;(next=>exact Ce);(next=>exact Ce))
   rw[n k];repeat'(first|exact trivial|apply eS rfl|apply AB|refine rX d ?_ ?_|refine rC ?_ ?_<;>intro e<;>try(cases e;done))
   .dsimp only[Ty.den]at *;omega
   refine⟨⟨(j-1,Cb (0,0) c j (j-1)),by simp only;omega,by simp only;omega,g.trans (EO.swap c (by omega) (by omega) (by omega) (by omega) (by omega)),bG o k q (by omega) u⟩,by simp only;omega,AC [(1000000,.nm 1000000)] rfl rfl ?_ ?_⟩
   .simp only;rw[E];first|exact eN|refine eM ?_
   simp only;rw[show ((j-1:Nat):Int)=(j:Int)-1 by omega];first|exact eN|refine eM ?_
  intro f;have A:j=a\/CK (c.getD (j-1) (0,0)) (c.getD j (0,0))<0:=by
   by_cases k:j=a
   .exact .inl k
   right;simp only[ZK,On]at f;rw[n (by omega)]at f;rcases f with h|h
   .omega
   exact z.lt CS (by omega) (by omega) (by omega) h
  repeat'(first|exact trivial|apply eS rfl|apply AB|refine rX d ?_ ?_|refine rC ?_ ?_<;>intro e<;>try(cases e;done))
  .exact eV
  refine⟨⟨(i+1,c),by simp only;omega,.inr D,g,X5 CS o ha q A⟩,by simp only;omega,AC [(1000000,.nm 1000000)] rfl rfl ?_ ?_⟩
  .first|exact eN|refine eM ?_
  first|exact eN|refine eM ?_
 have L:b<=i:=by exact eV
 exact fM d [] (.raw (.tuple #[])) rfl ⟨rfl,m,rfl,hp,λx y h1 v G=>hs x y h1 v (by omega)⟩
end
section
attribute [local go_sem] DC
theorem A8V (l:List (Int×Int)) (o:l.length<=100000) (a b:Nat) (h:a<b) (k:b<=l.length):BK Tryz.prog 236 [.sr 1000000 AW 0 l.length,.p T3 (a:Int),.p T3 (b:Int),.fn 192] [(1000000,.arr 106 AW l)] [1000000] (λres g=>res=.raw (.tuple #[])/\∃r,g=[(1000000,.arr 106 AW r)]/\EO (0,0) a b l r):=by
 refine LQ [0,1,2,8,9,15] [] [] Tryz.func236 Tryz.ntmps236 AH ?_;intro w0 K O0 ρ0 c t u;simp only[Aq];repeat'(first|exact trivial|apply eS rfl|apply AB|refine rX c ?_ ?_|refine rC ?_ ?_<;>intro d<;>try(cases d;done))
 .omega
 rw[show (b:Int)-1=((b-1:Nat):Int) by omega];refine AI (ι:={s:Nat×Nat×List (Int×Int)//a<=s.1/\s.2.1<b/\EO (0,0) a b l s.2.2}) (λs=>⟨[(0,.sr 1000000 AW 0 l.length),(8,.p (.int .i64) (s.1.1:Int)),(9,.p (.int .i64) (s.1.2.1:Int))],[(1000000,.arr 106 AW s.1.2.2)]⟩) (λs=>s.1.2.1-s.1.1) ⟨(a,b-1,l),Is _,by simp only;omega,EO.refl a b l⟩ (AC [(1000000,.nm 1000000)] rfl rfl ?_ ?_) (λs=>?_)
 .first|exact eN|refine eM ?_
 .first|exact eN|refine eM ?_
 obtain⟨⟨i,j,m⟩,hi,e,hp⟩:=s;simp only at hi e hp ⊢;have q:=hp.len;repeat'(first|exact trivial|apply eS rfl|apply AB|refine rX c ?_ ?_)
 refine rC ?_ ?_<;>intro d
 .repeat'(first|exact trivial|apply eS rfl|apply AB|refine rP c ?_ ?_|fail)
  have n:i<j:=by omega
  have f:Cb (0,0) m i j=(m.set i (m.getD j (0,0))).set j (m.getD i (0,0)):=rfl
  (refine CQ drawsAny c 14 [([0,1,4,5,6,7,8,9,10,11,12],13)] [2,3] (by kernel_rfl) (MF ?_ ?_);(next=>exact Ce);refine OL c [] ?_ ?_;(next=>exact Ce);refine Ss c ?_ ?_ ?_;(next=>exact Ce);(next=>exact Ce))
  repeat'(first|exact trivial|apply eS rfl|apply AB|refine rX c ?_ ?_|refine rC ?_ ?_<;>intro d<;>try(cases d;done))
  .omega
  .omega
  refine⟨⟨(i+1,j-1,Cb (0,0) m i j),by simp only;omega,by simp only;omega,hp.trans (EO.swap m (by omega) (by omega) (by omega) (by omega) (by omega))⟩,by simp only;omega,AC [(1000000,.nm 1000000)] rfl rfl ?_ ?_⟩
  .simp only;rw[f];first|exact eN|refine eM ?_
  simp only;rw[show ((j-1:Nat):Int)=(j:Int)-1 by omega];first|exact eN|refine eM ?_
 repeat'(first|exact trivial|apply eS rfl|apply AB|refine rX c ?_ ?_|refine rC ?_ ?_<;>intro d<;>try(cases d;done))
 exact fM c [] (.raw (.tuple #[])) rfl ⟨rfl,m,rfl,hp⟩
theorem lQ (l:List (Int×Int)) (o:l.length<=100000) (z:nS CK (0,0) l) (lo hi f:Nat) (F:lo<=100000) (hf:f+hi<=l.length) (A:HpX CK (0,0) f hi lo lo l):BK Tryz.prog 244 [.sr 1000000 AW 0 l.length,.p T3 (lo:Int),.p T3 (hi:Int),.p T3 (f:Int),.fn 192] [(1000000,.arr 106 AW l)] [1000000] (λres E=>res=.raw (.tuple #[])/\∃r,E=[(1000000,.arr 106 AW r)]/\EO (0,0) f (f+hi) l r/\Hp CK (0,0) f hi lo r):=by
 refine LQ [0,1,2,3,4,10,11,18,40,58] [] [] Tryz.func244 Tryz.ntmps244 (AF FD AH) ?_;intro w0 K O0 ρ0 a H I;simp only[Aq];repeat'(first|exact trivial|apply eS rfl|apply AB|refine rX a ?_ ?_|refine rC ?_ ?_<;>intro d<;>try(cases d;done))
 refine AI (ι:={s:Nat×List (Int×Int)//s.1<=lo+hi/\EO (0,0) f (f+hi) l s.2/\HpX CK (0,0) f hi lo s.1 s.2}) (λs=>⟨[(0,.sr 1000000 AW 0 l.length),(2,.p T3 (hi:Int)),(3,.p T3 (f:Int)),(4,.fn 192),(10,.p (.int .i64) (s.1.1:Int))],[(1000000,.arr 106 AW s.1.2)]⟩) (λs=>lo+hi-s.1.1) ⟨(lo,l),by omega,EO.refl _ _ l,A⟩ (AC [(1000000,.nm 1000000)] rfl rfl ?_ ?_) (λs=>?_)
 .first|exact eN|refine eM ?_
 .first|exact eN|refine eM ?_
 obtain⟨⟨root,m⟩,D,hp,k⟩:=s;simp only at D hp k ⊢;have G:=hp.len;have t:=z.perm CS hp.perm;repeat'(first|exact trivial|apply eS rfl|apply AB|refine rX a ?_ ?_)
 .omega
 refine rC ?_ ?_<;>intro d
 .have o:hi<=2*root+1:=by omega
  repeat'(first|exact trivial|apply eS rfl|apply AB|refine rX a ?_ ?_|refine rC ?_ ?_<;>intro d<;>try(cases d;done))
  exact fM a [] (.raw (.tuple #[])) rfl ⟨rfl,m,rfl,hp,A50 k o⟩
 have o:2*root+1<hi:=by omega
 have n:((f:Int)+(2*(root:Int)+1)).toNat=f+(2*root+1):=by omega
 have q:((f:Int)+(2*(root:Int)+1+1)).toNat=f+(2*root+2):=by omega
 have w:((f:Int)+(2*(root:Int)+1)+1).toNat=f+(2*root+2):=by omega
 have g:((f:Int)+(root:Int)).toNat=f+root:=by omega
 repeat'(first|exact trivial|apply eS rfl|apply AB|refine rX a ?_ ?_)
 .dsimp only[Ty.den];exact⟨by omega,λ_=>by omega,λ_=>by omega,λ_=>by omega,λ_=>by omega,λ_=>by omega⟩
 refine Dt (by simp only[go_sem,Nat.reduceEqDiff,reduceCtorEq,Nat.reduceAdd,Nat.reduceSub,Nat.reduceMul,Nat.reduceLeDiff,Nat.reduceLT,Int.reduceLE,Int.reduceToNat,Int.reduceNeg,↓reduceIte];rfl) ?_ ?_
 .intro e;simp only[AT,By]at e;obtain⟨hh,e⟩:=e;have C:CK (m.getD (f+(2*root+1)) (0,0)) (m.getD (f+(2*root+2)) (0,0))<0:=by rw[<-n,<-w];exact e
  have B:2*root+2<hi:=by omega
  have hs:∀c,(c=2*root+1\/c=2*root+2)->c<hi->c≠2*root+2->CK (m.getD (f+c) (0,0)) (m.getD (f+(2*root+2)) (0,0))<0:=λc h1 x y=>by
   rw[show c=2*root+1 by omega];exact C
  repeat'(first|exact trivial|apply eS rfl|apply AB|refine rX a ?_ ?_)
  .omega
  .exact Ce
  refine Dt (by simp only[go_sem,Nat.reduceEqDiff,reduceCtorEq,Nat.reduceAdd,Nat.reduceSub,Nat.reduceMul,Nat.reduceLeDiff,Nat.reduceLT,Int.reduceLE,Int.reduceToNat,Int.reduceNeg,↓reduceIte];rfl) ?_ ?_
  .intro b;simp only[Px,On]at b;rw[g,q]at b;have u:=t.lt CS (i:=f+root) (j:=f+(2*root+2)) (by omega) (by omega) (by omega) b;repeat'(first|exact trivial|apply eS rfl|apply AB|refine rX a ?_ ?_|refine rC ?_ ?_<;>intro d<;>try(cases d;done))
   exact fM a [] (.raw (.tuple #[])) rfl ⟨rfl,m,rfl,hp,lL CS k (.inr rfl) u hs⟩
  intro b;simp only[iS,By]at b;rw[g,q]at b;have v:Cb (0,0) m (f+root) (f+(2*root+2))=(m.set (f+root) (m.getD (f+(2*root+2)) (0,0))).set (f+(2*root+2)) (m.getD (f+root) (0,0)):=rfl;repeat'(first|exact trivial|apply eS rfl|apply AB|refine rP a ?_ ?_|fail)
  (refine CQ drawsAny a 22 [([0,1,2,3,8,9,10,11,12,13,14,15,16,17,18,19,20],21)] [4,5,6,7] (by kernel_rfl) (MF ?_ ?_);(next=>exact Ce);refine OL a [] ?_ ?_;(next=>exact Ce);refine Ss a ?_ ?_ ?_;(next=>exact Ce);(next=>exact Ce))
  rw[g,q];repeat'(first|exact trivial|apply eS rfl|apply AB|refine rX a ?_ ?_|refine rC ?_ ?_<;>intro d<;>try(cases d;done))
  refine⟨⟨(2*root+2,Cb (0,0) m (f+root) (f+(2*root+2))),by simp only;omega,hp.trans (EO.swap m (by omega) (by omega) (by omega) (by omega) (by omega)),lM k B (by omega) (.inr rfl) b hs⟩,by simp only;omega,AC [(1000000,.nm 1000000)] rfl rfl ?_ ?_⟩
  .simp only;rw[v];first|exact eN|refine eM ?_
  simp only;rw[show ((2*root+2:Nat):Int)=2*(root:Int)+1+1 by omega];first|exact eN|refine eM ?_
 intro e;have hs:∀c,(c=2*root+1\/c=2*root+2)->c<hi->c≠2*root+1->CK (m.getD (f+c) (0,0)) (m.getD (f+(2*root+1)) (0,0))<0:=λc h1 x y=>by
  simp only[ZK,On]at e;have a:c=2*root+2:=by omega
  subst a;rcases e with h|h
  .omega
  rw[n,w]at h;exact t.lt CS (by omega) (by omega) (by omega) h
 repeat'(first|exact trivial|apply eS rfl|apply AB|refine rX a ?_ ?_)
 .exact Ce
 refine Dt (by simp only[go_sem,Nat.reduceEqDiff,reduceCtorEq,Nat.reduceAdd,Nat.reduceSub,Nat.reduceMul,Nat.reduceLeDiff,Nat.reduceLT,Int.reduceLE,Int.reduceToNat,Int.reduceNeg,↓reduceIte];rfl) ?_ ?_
 .intro b;simp only[Px,On]at b;rw[g,n]at b;have u:=t.lt CS (i:=f+root) (j:=f+(2*root+1)) (by omega) (by omega) (by omega) b;repeat'(first|exact trivial|apply eS rfl|apply AB|refine rX a ?_ ?_|refine rC ?_ ?_<;>intro d<;>try(cases d;done))
  exact fM a [] (.raw (.tuple #[])) rfl ⟨rfl,m,rfl,hp,lL CS k (.inl rfl) u hs⟩
 intro b;simp only[iS,By]at b;rw[g,n]at b;have v:Cb (0,0) m (f+root) (f+(2*root+1))=(m.set (f+root) (m.getD (f+(2*root+1)) (0,0))).set (f+(2*root+1)) (m.getD (f+root) (0,0)):=rfl;repeat'(first|exact trivial|apply eS rfl|apply AB|refine rP a ?_ ?_|fail)
 (refine CQ drawsAny a 22 [([0,1,2,3,8,9,10,11,12,13,14,15,16,17,18,19,20],21)] [4,5,6,7] (by kernel_rfl) (MF ?_ ?_);(next=>exact Ce);refine OL a [] ?_ ?_;(next=>exact Ce);refine Ss a ?_ ?_ ?_;(next=>exact Ce);(next=>exact Ce))
 rw[g,n];repeat'(first|exact trivial|apply eS rfl|apply AB|refine rX a ?_ ?_|refine rC ?_ ?_<;>intro d<;>try(cases d;done))
 refine⟨⟨(2*root+1,Cb (0,0) m (f+root) (f+(2*root+1))),by simp only;omega,hp.trans (EO.swap m (by omega) (by omega) (by omega) (by omega) (by omega)),lM k o (by omega) (.inl rfl) b hs⟩,by simp only;omega,AC [(1000000,.nm 1000000)] rfl rfl ?_ ?_⟩
 .simp only;rw[v];first|exact eN|refine eM ?_
 simp only;rw[show ((2*root+1:Nat):Int)=2*(root:Int)+1 by omega];first|exact eN|refine eM ?_
end
section
attribute [local go_sem] DC
theorem A52 (l:List (Int×Int)) (L:l.length<=100000) (u:nS CK (0,0) l) (a b:Nat) (I:a<=b) (J:b<=l.length):BK Tryz.prog 233 [.sr 1000000 AW 0 l.length,.p T3 (a:Int),.p T3 (b:Int),.fn 192] [(1000000,.arr 106 AW l)] [1000000] (λres C=>res=.raw (.tuple #[])/\∃r,C=[(1000000,.arr 106 AW r)]/\EO (0,0) a b l r/\TG CK (0,0) a b r):=by
 refine LQ [0,1,2,3,8,9,10,11,12,21,33] [] [] Tryz.func233 Tryz.ntmps233 AH ?_;intro w0 K O0 ρ0 d M N;simp only[Aq];obtain⟨n,hn⟩:∃n,b=a+n:=⟨b-a,by omega⟩;subst hn;have t:(((a+n:Nat):Int)-(a:Int)-1).tdiv 2=(((n-1) / 2+1:Nat):Int)-1:=by
  by_cases h0:n=0
  .subst h0;rw[show ((a+0:Nat):Int)-(a:Int)-1=-1 by omega];decide
  rw[VU (by omega)];omega
 have en:((a+n:Nat):Int)-(a:Int)=(n:Int):=by omega
 repeat'(first|exact trivial|apply eS rfl|apply AB|refine rX d ?_ ?_|refine rC ?_ ?_<;>intro e<;>try(cases e;done))
 .omega
 .rw[t];exact⟨by omega,by decide,by omega⟩
 rw[t,en];refine AI (ι:={s:Nat×List (Int×Int)//s.1<=n+1/\EO (0,0) a (a+n) l s.2/\Hp CK (0,0) a n s.1 s.2}) (λs=>⟨[(0,.sr 1000000 AW 0 l.length),(3,.fn 192),(8,.p T3 (a:Int)),(9,.p (.int .i64) (0:Int)),(10,.p (.int .i64) (n:Int)),(11,.p (.int .i64) ((s.1.1:Int)-1))],[(1000000,.arr 106 AW s.1.2)]⟩) (λs=>s.1.1) ⟨((n-1) / 2+1,l),by simp only;omega,EO.refl _ _ l,λk c h1 G H=>by simp only at h1;omega⟩ (AC [(1000000,.nm 1000000)] rfl rfl ?_ ?_) (λs=>?_)
 .first|exact eN|refine eM ?_
 .first|exact eN|refine eM ?_
 obtain⟨⟨k,m⟩,hk,hp,q⟩:=s;simp only at hk hp q ⊢;have y:=hp.len;have x:=u.perm CS hp.perm;repeat'(first|exact trivial|apply eS rfl|apply AB|refine rX d ?_ ?_)
 refine rC ?_ ?_<;>intro e
 .have f:0<k:=by omega
  have key:=lQ m (by omega) x (k-1) n a (by omega) (by omega) (A1M (by rw[show k-1+1=k by omega];exact q));rw[y,show ((k-1:Nat):Int)=(k:Int)-1 by omega]at key;repeat'(first|exact trivial|apply eS rfl|apply AB|refine rX d ?_ ?_)
  refine cP 5 d ?_ ?_
  .trivial
  refine rM d (key) [(1000000,.nm 1000000)] [] ?_ ?_ ?_
  .first|exact eN|refine eM ?_
  .first|exact eN|refine eM ?_
  rintro _ _ ⟨rfl,r,rfl,i,j⟩;refine⟨[(1000000,.nm 1000000)],.raw (.tuple #[]),[(1000000,.arr 106 AW r)],rfl,rfl,?_,?_,rfl,rfl,CV ?_⟩
  .first|exact eN|refine eM ?_
  .first|exact eN|refine eM ?_
  repeat'(first|exact trivial|apply eS rfl|apply AB|refine rX d ?_ ?_|refine rC ?_ ?_<;>intro e<;>try(cases e;done))
  .omega
  refine⟨⟨(k-1,r),by simp only;omega,hp.trans i,j⟩,by simp only;omega,AC [(1000000,.nm 1000000)] rfl rfl ?_ ?_⟩
  .simp only;first|exact eN|refine eM ?_
  simp only;rw[show ((k-1:Nat):Int)=(k:Int)-1 by omega];first|exact eN|refine eM ?_
 have f:k=0:=by omega
 subst f;repeat'(first|exact trivial|apply eS rfl|apply AB|refine rX d ?_ ?_)
 .omega
 refine AI (ι:={s:Nat×List (Int×Int)//s.1<=n/\EO (0,0) a (a+n) l s.2/\A1N CK (0,0) a n s.1 s.2}) (λs=>⟨[(0,.sr 1000000 AW 0 l.length),(3,.fn 192),(8,.p T3 (a:Int)),(9,.p (.int .i64) (0:Int)),(12,.p (.int .i64) ((s.1.1:Int)-1))],[(1000000,.arr 106 AW s.1.2)]⟩) (λs=>s.1.1) ⟨(n,m),Is _,hp,qN q⟩ (AC [(1000000,.nm 1000000)] rfl rfl ?_ ?_) (λs=>?_)
 .first|exact eN|refine eM ?_
 .first|exact eN|refine eM ?_
 obtain⟨⟨k,c⟩,hk,g,h⟩:=s;simp only at hk g h ⊢;have w:=g.len;repeat'(first|exact trivial|apply eS rfl|apply AB|refine rX d ?_ ?_)
 refine rC ?_ ?_<;>intro e
 .have f:0<k:=by omega
  have h:A1N CK (0,0) a n (k-1+1) c:=by rw[show k-1+1=k by omega];exact h
  obtain⟨D,E,F⟩:=A1O CS h (by omega) (by omega);have o:EO (0,0) a (a+n) c (Cb (0,0) c a (a+(k-1))):=EO.swap c (by omega) (by omega) (by omega) (by omega) (by omega);have A:=o.len;have z:=u.perm CS (g.trans o).perm;have v:((a:Int)+((k:Int)-1)).toNat=a+(k-1):=by omega
  have B:Cb (0,0) c a (a+(k-1))=(c.set a (c.getD (a+(k-1)) (0,0))).set (a+(k-1)) (c.getD a (0,0)):=rfl;have key:=lQ (Cb (0,0) c a (a+(k-1))) (by omega) z 0 (k-1) a (by omega) (by omega) D;rw[A,w,show ((k-1:Nat):Int)=(k:Int)-1 by omega]at key;repeat'(first|exact trivial|apply eS rfl|apply AB|refine rP d ?_ ?_|fail)
  (refine CQ drawsAny d 18 [([0,1,6,7,8,9,10,11,12,13,14,15,16],17)] [2,3,4,5] (by kernel_rfl) (MF ?_ ?_);(next=>exact Ce);refine OL d [] ?_ ?_;(next=>exact Ce);refine Ss d ?_ ?_ ?_;(next=>exact Ce);(next=>exact Ce))
  rw[v,<-B];repeat'(first|exact trivial|apply eS rfl|apply AB|refine rP d ?_ ?_|fail)
  refine cP 5 d ?_ ?_
  .trivial
  refine rM d (key) [(1000000,.nm 1000000)] [] ?_ ?_ ?_
  .first|exact eN|refine eM ?_
  .first|exact eN|refine eM ?_
  rintro _ _ ⟨rfl,r,rfl,i,j⟩;refine⟨[(1000000,.nm 1000000)],.raw (.tuple #[]),[(1000000,.arr 106 AW r)],rfl,rfl,?_,?_,rfl,rfl,CV ?_⟩
  .first|exact eN|refine eM ?_
  .first|exact eN|refine eM ?_
  repeat'(first|exact trivial|apply eS rfl|apply AB|refine rX d ?_ ?_|refine rC ?_ ?_<;>intro e<;>try(cases e;done))
  .omega
  refine⟨⟨(k-1,r),by simp only;omega,(g.trans o).trans (i.mono (Is _) (by omega)),A1P i j E F⟩,by simp only;omega,AC [(1000000,.nm 1000000)] rfl rfl ?_ ?_⟩
  .simp only;first|exact eN|refine eM ?_
  simp only;rw[show ((k-1:Nat):Int)=(k:Int)-1 by omega];first|exact eN|refine eM ?_
 have f:k=0:=by omega
 subst f;repeat'(first|exact trivial|apply eS rfl|apply AB|refine rX d ?_ ?_|refine rC ?_ ?_<;>intro e<;>try(cases e;done))
 exact fM d [] (.raw (.tuple #[])) rfl ⟨rfl,c,rfl,g,A51 h⟩
end
section
attribute [local go_sem] DC
theorem A8W (l:List (Int×Int)) (ah:l.length<=100000) (O:nS CK (0,0) l) (a b p:Nat) (hap:a<=p) (aa:p<b) (V:b<=l.length):BK Tryz.prog 239 [.sr 1000000 AW 0 l.length,.p T3 (a:Int),.p T3 (b:Int),.p T3 (p:Int),.fn 192] [(1000000,.arr 106 AW l)] [1000000] (λres ae=>∃(q:Nat) (w:Bool) (r:List (Int×Int)),res=.tup [.p T3 (q:Int),.p .bool w]/\ae=[(1000000,.arr 106 AW r)]/\EO (0,0) a b l r/\PtE CK (0,0) a b q r):=by
 refine LQ [0,1,2,3,4,10,11,12,13,47,66,71,120,139,144] [] [] Tryz.func239 Tryz.ntmps239 (AF FD AH) ?_;intro w0 K O0 ρ0 c ai aj;simp only[Aq];have g:EO (0,0) a b l (Cb (0,0) l a p):=EO.swap l (Is _) (by omega) hap aa V;have n:Cb (0,0) l a p=(l.set a (l.getD p (0,0))).set p (l.getD a (0,0)):=rfl;repeat'(first|exact trivial|apply eS rfl|apply AB|refine rP c ?_ ?_|fail)
 (refine CQ drawsAny c 14 [([0,1,4,5,6,7,8,9,10,11,12],13)] [2,3] (by kernel_rfl) (MF ?_ ?_);(next=>exact Ce);refine OL c [] ?_ ?_;(next=>exact Ce);refine Ss c ?_ ?_ ?_;(next=>exact Ce);(next=>exact Ce))
 rw[<-n];have y:=O.perm CS g.perm;have R:=g.len;clear n;generalize Cb (0,0) l a p=m at *;repeat'(first|exact trivial|apply eS rfl|apply AB|refine rP c ?_ ?_|fail)
 .exact Ce
 rw[show (a:Int)+1=((a+1:Nat):Int) by omega,show (b:Int)-1=((b-1:Nat):Int) by omega];refine AI (ι:={i:Nat//a<i/\i<=b/\PtI CK (0,0) a b i (b-1) m}) (λs=>⟨[(0,.sr 1000000 AW 0 l.length),(1,.p T3 (a:Int)),(4,.fn 192),(12,.p (.int .i64) (s.1:Int)),(13,.p (.int .i64) ((b-1:Nat):Int))],[(1000000,.arr 106 AW m)]⟩) (λs=>b-s.1) ⟨a+1,by omega,by omega,⟨λx h1 f=>by omega,λx h1 f=>by omega⟩⟩ (AC [(1000000,.nm 1000000)] rfl rfl ?_ ?_) (λs=>?_)
 .first|exact eN|refine eM ?_
 .first|exact eN|refine eM ?_
 obtain⟨i,E,I,t⟩:=s;simp only at E I t ⊢;repeat'(first|exact trivial|apply eS rfl|apply AB|refine rX c ?_ ?_)
 .dsimp only[Ty.den];exact⟨λ_=>by omega,λ_=>by omega⟩
 refine Dt (by simp only[go_sem,Nat.reduceEqDiff,reduceCtorEq,Nat.reduceAdd,Nat.reduceSub,Nat.reduceMul,Nat.reduceLeDiff,Nat.reduceLT,Int.reduceLE,Int.reduceToNat,Int.reduceNeg,↓reduceIte];rfl) ?_ ?_
 .intro d;simp only[AT,By]at d;obtain⟨h1,f⟩:=d;repeat'(first|exact trivial|apply eS rfl|apply AB|refine rX c ?_ ?_)
  .exact Ce
  refine⟨⟨i+1,by omega,by omega,⟨λx G H=>?_,t.hi⟩⟩,by simp only;omega,AC [(1000000,.nm 1000000)] rfl rfl ?_ ?_⟩
  .by_cases e:x=i
   .rw[e];exact f
   exact t.lo x G (by omega)
  .first|exact eN|refine eM ?_
  first|exact eN|refine eM ?_
 intro d;have A:i<=b-1->CK (m.getD a (0,0)) (m.getD i (0,0))<0:=λh1=>y.lt CS (by omega) (by omega) (by omega) λf=>by
  simp only[ZK,On]at d;rcases d with h|h
  .omega
  exact h f
 have ag:i<=b-1+1:=by omega
 repeat'(first|exact trivial|apply eS rfl|apply AB|refine rX c ?_ ?_)
 refine AI (ι:={j:Nat//a<=j/\j<b/\i<=j+1/\PtI CK (0,0) a b i j m}) (λs=>⟨[(0,.sr 1000000 AW 0 l.length),(1,.p T3 (a:Int)),(4,.fn 192),(12,.p (.int .i64) (i:Int)),(13,.p (.int .i64) (s.1:Int))],[(1000000,.arr 106 AW m)]⟩) (λs=>s.1) ⟨b-1,by omega,by omega,by omega,t⟩ (AC [(1000000,.nm 1000000)] rfl rfl ?_ ?_) (λs=>?_)
 .first|exact eN|refine eM ?_
 .first|exact eN|refine eM ?_
 obtain⟨j,u,v,W,C⟩:=s;simp only at u v W C ⊢;clear d;repeat'(first|exact trivial|apply eS rfl|apply AB|refine rX c ?_ ?_)
 .dsimp only[Ty.den];exact⟨λ_=>by omega,λ_=>by omega⟩
 refine Dt (by simp only[go_sem,Nat.reduceEqDiff,reduceCtorEq,Nat.reduceAdd,Nat.reduceSub,Nat.reduceMul,Nat.reduceLeDiff,Nat.reduceLT,Int.reduceLE,Int.reduceToNat,Int.reduceNeg,↓reduceIte];rfl) ?_ ?_
 .intro d;simp only[AT,By,Px,On]at d;obtain⟨h1,f⟩:=d;have f:=y.lt CS (i:=j) (j:=a) (by omega) (by omega) (by omega) f;repeat'(first|exact trivial|apply eS rfl|apply AB|refine rX c ?_ ?_)
  .exact Ce
  refine⟨⟨j-1,by omega,by omega,by omega,⟨C.lo,λx G H=>?_⟩⟩,by simp only;omega,AC [(1000000,.nm 1000000)] rfl rfl ?_ ?_⟩
  .by_cases e:x=j
   .rw[e];exact f
   exact C.hi x (by omega) H
  .first|exact eN|refine eM ?_
  simp only;rw[show ((j-1:Nat):Int)=(j:Int)-1 by omega];first|exact eN|refine eM ?_
 intro d;have B:i<=j->CK (m.getD j (0,0)) (m.getD a (0,0))<0:=λh1=>by
  simp only[ZK,On,iS,By]at d;rcases d with h|h
  .omega
  exact h
 repeat'(first|exact trivial|apply eS rfl|apply AB|refine rX c ?_ ?_)
 refine rC ?_ ?_<;>intro D
 .have Q:i=j+1:=by omega
  subst Q;have o:EO (0,0) a b m (Cb (0,0) m j a):=EO.swap m u v (Is _) (by omega) (by omega);have n:Cb (0,0) m j a=(m.set j (m.getD a (0,0))).set a (m.getD j (0,0)):=rfl;repeat'(first|exact trivial|apply eS rfl|apply AB|refine rP c ?_ ?_|fail)
  (refine CQ drawsAny c 14 [([0,1,4,5,6,7,8,9,10,11,12],13)] [2,3] (by kernel_rfl) (MF ?_ ?_);(next=>exact Ce);refine OL c [] ?_ ?_;(next=>exact Ce);refine Ss c ?_ ?_ ?_;(next=>exact Ce);(next=>exact Ce))
  rw[<-n];repeat'(first|exact trivial|apply eS rfl|apply AB|refine rX c ?_ ?_|refine rC ?_ ?_<;>intro D<;>try(cases D;done))
  exact fM c [.tmp 10,.tmp 11] (.tup [.p T3 (j:Int),.p .bool true]) eT ⟨j,true,_,rfl,rfl,g.trans o,A00 C u v (by omega)⟩
 have Z:i≠j:=λe=>by
  have S:=A (by omega);have af:=B (by omega);rw[e,CS.anti]at S;omega
 have P:i<j:=by omega
 have o:EO (0,0) a b m (Cb (0,0) m i j):=EO.swap m (by omega) (by omega) u v (by omega);have n:Cb (0,0) m i j=(m.set i (m.getD j (0,0))).set j (m.getD i (0,0)):=rfl;have M:=lO C E P v (by omega) (A (by omega)) (B (by omega));repeat'(first|exact trivial|apply eS rfl|apply AB|refine rP c ?_ ?_|fail)
 (refine CQ drawsAny c 14 [([0,1,4,5,6,7,8,9,10,11,12],13)] [2,3] (by kernel_rfl) (MF ?_ ?_);(next=>exact Ce);refine OL c [] ?_ ?_;(next=>exact Ce);refine Ss c ?_ ?_ ?_;(next=>exact Ce);(next=>exact Ce))
 rw[<-n];have J:=g.trans o;have y:=O.perm CS J.perm;have R:=J.len;clear n o C t A B d g;generalize Cb (0,0) m i j=ad at *;repeat'(first|exact trivial|apply eS rfl|apply AB|refine rX c ?_ ?_)
 .exact Ce
 .exact Ce
 rw[show (i:Int)+1=((i+1:Nat):Int) by omega,show (j:Int)-1=((j-1:Nat):Int) by omega];refine AI (ι:={s:Nat×Nat×List (Int×Int)//(a<s.1/\s.1<=s.2.1+1)/\(a<=s.2.1/\s.2.1<b)/\EO (0,0) a b l s.2.2/\PtI CK (0,0) a b s.1 s.2.1 s.2.2}) (λs=>⟨[(0,.sr 1000000 AW 0 l.length),(1,.p T3 (a:Int)),(4,.fn 192),(12,.p (.int .i64) (s.1.1:Int)),(13,.p (.int .i64) (s.1.2.1:Int))],[(1000000,.arr 106 AW s.1.2.2)]⟩) (λs=>s.1.2.1+1-s.1.1) ⟨(i+1,j-1,ad),by simp only;omega,by simp only;omega,J,M⟩ (AC [(1000000,.nm 1000000)] rfl rfl ?_ ?_) (λs=>?_)
 .first|exact eN|refine eM ?_
 .first|exact eN|refine eM ?_
 clear M y R J;obtain⟨⟨i,j,m⟩,⟨E,I⟩,⟨u,v⟩,g,t⟩:=s;simp only at E I u v g t ⊢;have y:=O.perm CS g.perm;have R:=g.len;repeat'(first|exact trivial|apply eS rfl|apply AB|refine rX c ?_ ?_)
 refine AI (ι:={k:Nat//a<k/\i<=k/\k<=j+1/\PtI CK (0,0) a b k j m}) (λs=>⟨[(0,.sr 1000000 AW 0 l.length),(1,.p T3 (a:Int)),(4,.fn 192),(12,.p (.int .i64) (s.1:Int)),(13,.p (.int .i64) (j:Int))],[(1000000,.arr 106 AW m)]⟩) (λs=>j+1-s.1) ⟨i,E,Is _,I,t⟩ (AC [(1000000,.nm 1000000)] rfl rfl ?_ ?_) (λs=>?_)
 .first|exact eN|refine eM ?_
 .first|exact eN|refine eM ?_
 obtain⟨k,T,X,U,L⟩:=s;simp only at T U X L ⊢;repeat'(first|exact trivial|apply eS rfl|apply AB|refine rX c ?_ ?_)
 .dsimp only[Ty.den];exact⟨λ_=>by omega,λ_=>by omega⟩
 refine Dt (by simp only[go_sem,Nat.reduceEqDiff,reduceCtorEq,Nat.reduceAdd,Nat.reduceSub,Nat.reduceMul,Nat.reduceLeDiff,Nat.reduceLT,Int.reduceLE,Int.reduceToNat,Int.reduceNeg,↓reduceIte];rfl) ?_ ?_
 .intro d;simp only[AT,By]at d;obtain⟨h1,f⟩:=d;repeat'(first|exact trivial|apply eS rfl|apply AB|refine rX c ?_ ?_)
  .exact Ce
  refine⟨⟨k+1,by omega,by omega,by omega,⟨λx G H=>?_,L.hi⟩⟩,by simp only;omega,AC [(1000000,.nm 1000000)] rfl rfl ?_ ?_⟩
  .by_cases e:x=k
   .rw[e];exact f
   exact L.lo x G (by omega)
  .first|exact eN|refine eM ?_
  first|exact eN|refine eM ?_
 intro d;have A:k<=j->CK (m.getD a (0,0)) (m.getD k (0,0))<0:=λh1=>y.lt CS (by omega) (by omega) (by omega) λf=>by
  simp only[ZK,On]at d;rcases d with h|h
  .omega
  exact h f
 repeat'(first|exact trivial|apply eS rfl|apply AB|refine rX c ?_ ?_)
 refine AI (ι:={z:Nat//a<=z/\z<=j/\k<=z+1/\PtI CK (0,0) a b k z m}) (λs=>⟨[(0,.sr 1000000 AW 0 l.length),(1,.p T3 (a:Int)),(4,.fn 192),(12,.p (.int .i64) (k:Int)),(13,.p (.int .i64) (s.1:Int))],[(1000000,.arr 106 AW m)]⟩) (λs=>s.1) ⟨j,u,Is _,U,L⟩ (AC [(1000000,.nm 1000000)] rfl rfl ?_ ?_) (λs=>?_)
 .first|exact eN|refine eM ?_
 .first|exact eN|refine eM ?_
 obtain⟨z,N,ab,Y,F⟩:=s;simp only at N ab Y F ⊢;clear d;repeat'(first|exact trivial|apply eS rfl|apply AB|refine rX c ?_ ?_)
 .dsimp only[Ty.den];exact⟨λ_=>by omega,λ_=>by omega⟩
 refine Dt (by simp only[go_sem,Nat.reduceEqDiff,reduceCtorEq,Nat.reduceAdd,Nat.reduceSub,Nat.reduceMul,Nat.reduceLeDiff,Nat.reduceLT,Int.reduceLE,Int.reduceToNat,Int.reduceNeg,↓reduceIte];rfl) ?_ ?_
 .intro d;simp only[AT,By,Px,On]at d;obtain⟨h1,f⟩:=d;have f:=y.lt CS (i:=z) (j:=a) (by omega) (by omega) (by omega) f;repeat'(first|exact trivial|apply eS rfl|apply AB|refine rX c ?_ ?_)
  .exact Ce
  refine⟨⟨z-1,by omega,by omega,by omega,⟨F.lo,λx G H=>?_⟩⟩,by simp only;omega,AC [(1000000,.nm 1000000)] rfl rfl ?_ ?_⟩
  .by_cases e:x=z
   .rw[e];exact f
   exact F.hi x (by omega) H
  .first|exact eN|refine eM ?_
  simp only;rw[show ((z-1:Nat):Int)=(z:Int)-1 by omega];first|exact eN|refine eM ?_
 intro d;have B:k<=z->CK (m.getD z (0,0)) (m.getD a (0,0))<0:=λh1=>by
  simp only[ZK,On,iS,By]at d;rcases d with h|h
  .omega
  exact h
 repeat'(first|exact trivial|apply eS rfl|apply AB|refine rX c ?_ ?_)
 refine rC ?_ ?_<;>intro D
 .have Q:k=z+1:=by omega
  subst Q;have o:EO (0,0) a b m (Cb (0,0) m z a):=EO.swap m N (by omega) (Is _) (by omega) (by omega);have n:Cb (0,0) m z a=(m.set z (m.getD a (0,0))).set a (m.getD z (0,0)):=rfl;repeat'(first|exact trivial|apply eS rfl|apply AB|refine rP c ?_ ?_|fail)
  (refine CQ drawsAny c 14 [([0,1,4,5,6,7,8,9,10,11,12],13)] [2,3] (by kernel_rfl) (MF ?_ ?_);(next=>exact Ce);refine OL c [] ?_ ?_;(next=>exact Ce);refine Ss c ?_ ?_ ?_;(next=>exact Ce);(next=>exact Ce))
  rw[<-n];repeat'(first|exact trivial|apply eS rfl|apply AB|refine rX c ?_ ?_|refine rC ?_ ?_<;>intro D<;>try(cases D;done))
  exact fM c [.tmp 10,.tmp 11] (.tup [.p T3 (z:Int),.p .bool false]) eT ⟨z,false,_,rfl,rfl,g.trans o,A00 F N (by omega) (by omega)⟩
 have Z:k≠z:=λe=>by
  have S:=A (by omega);have af:=B (by omega);rw[e,CS.anti]at S;omega
 have P:k<z:=by omega
 have o:EO (0,0) a b m (Cb (0,0) m k z):=EO.swap m (by omega) (by omega) N (by omega) (by omega);have n:Cb (0,0) m k z=(m.set k (m.getD z (0,0))).set z (m.getD k (0,0)):=rfl;have M:=lO F T P (by omega) (by omega) (A (by omega)) (B (by omega));repeat'(first|exact trivial|apply eS rfl|apply AB|refine rP c ?_ ?_|fail)
 (refine CQ drawsAny c 14 [([0,1,4,5,6,7,8,9,10,11,12],13)] [2,3] (by kernel_rfl) (MF ?_ ?_);(next=>exact Ce);refine OL c [] ?_ ?_;(next=>exact Ce);refine Ss c ?_ ?_ ?_;(next=>exact Ce);(next=>exact Ce))
 rw[<-n];repeat'(first|exact trivial|apply eS rfl|apply AB|refine rX c ?_ ?_)
 .exact Ce
 .exact Ce
 refine⟨⟨(k+1,z-1,Cb (0,0) m k z),by simp only;omega,by simp only;omega,g.trans o,M⟩,by simp only;omega,AC [(1000000,.nm 1000000)] rfl rfl ?_ ?_⟩
 .first|exact eN|refine eM ?_
 simp only;rw[show ((z-1:Nat):Int)=(z:Int)-1 by omega];first|exact eN|refine eM ?_
end
section
attribute [local go_sem] DC
theorem A8X (l:List (Int×Int)) (am:l.length<=100000) (L:nS CK (0,0) l) (a b:Nat) (ak:a<b) (al:b<=l.length) (U:Bf CK (0,0) a b l):BK Tryz.prog 237 [.sr 1000000 AW 0 l.length,.p T3 (a:Int),.p T3 (b:Int),.fn 192] [(1000000,.arr 106 AW l)] [1000000] (λres aj=>∃(w:Bool) (r:List (Int×Int)),res=.p .bool w/\aj=[(1000000,.arr 106 AW r)]/\EO (0,0) a b l r/\(w=true->TG CK (0,0) a b r)):=by
 refine LQ [0,1,2,3,8,9,10,11,12,16,36,41,45,65,69,84,104,109,124] [] [] Tryz.func237 Tryz.ntmps237 (AF FD AH) ?_;intro w0 K O0 ρ0 f an ao;simp only[Aq];repeat'(first|exact trivial|apply eS rfl|apply AB|refine rX f ?_ ?_|refine rC ?_ ?_<;>intro q<;>try(cases q;done))
 .exact Ce
 refine AI (ι:={s:Nat×Nat×List (Int×Int)//(a+1<=s.1/\s.1<=b)/\s.2.1<=5/\EO (0,0) a b l s.2.2/\TG CK (0,0) a s.1 s.2.2}) (λs=>⟨[(0,.sr 1000000 AW 0 l.length),(1,.p T3 (a:Int)),(2,.p T3 (b:Int)),(3,.fn 192),(9,.p (.int .i64) (s.1.1:Int)),(10,.p (.int .i64) (s.1.2.1:Int))],[(1000000,.arr 106 AW s.1.2.2)]⟩) (λs=>5-s.1.2.1) ⟨(a+1,0,l),by simp only;omega,IS _,EO.refl a b l,fV a l⟩ (AC [(1000000,.nm 1000000)] rfl rfl ?_ ?_) (λs=>?_)
 .first|exact eN|refine eM ?_
 .first|exact eN|refine eM ?_
 obtain⟨⟨i,t,m⟩,⟨ab,N⟩,ai,u,Q⟩:=s;simp only at ab N ai u Q ⊢;have P:=L.perm CS u.perm;have ah:=u.len;repeat'(first|exact trivial|apply eS rfl|apply AB|refine rX f ?_ ?_)
 refine rC ?_ ?_<;>intro q
 .repeat'(first|exact trivial|apply eS rfl|apply AB|refine rX f ?_ ?_)
  refine AI (ι:={k:Nat//i<=k/\k<=b/\TG CK (0,0) a k m}) (λs=>⟨[(0,.sr 1000000 AW 0 l.length),(1,.p T3 (a:Int)),(2,.p T3 (b:Int)),(3,.fn 192),(9,.p (.int .i64) (s.1:Int)),(10,.p (.int .i64) (t:Int))],[(1000000,.arr 106 AW m)]⟩) (λs=>b-s.1) ⟨i,Is _,N,Q⟩ (AC [(1000000,.nm 1000000)] rfl rfl ?_ ?_) (λs=>?_)
  .first|exact eN|refine eM ?_
  .first|exact eN|refine eM ?_
  obtain⟨k,ae,af,F⟩:=s;simp only at ae af F ⊢;have J:((k:Int)-1).toNat=k-1:=by omega
  repeat'(first|exact trivial|apply eS rfl|apply AB|refine rX f ?_ ?_)
  .dsimp only[Ty.den];exact⟨λ_=>by omega,λ_=>by omega,λ_=>by omega⟩
  refine Dt (by simp only[go_sem,Nat.reduceEqDiff,reduceCtorEq,Nat.reduceAdd,Nat.reduceSub,Nat.reduceMul,Nat.reduceLeDiff,Nat.reduceLT,Int.reduceLE,Int.reduceToNat,Int.reduceNeg,↓reduceIte];rfl) ?_ ?_
  .intro g;simp only[AT,By,Px,On]at g;obtain⟨h1,z⟩:=g;rw[J]at z;have z:=P.lt CS (i:=k) (j:=k-1) (by omega) (by omega) (by omega) z;repeat'(first|exact trivial|apply eS rfl|apply AB|refine rX f ?_ ?_)
   .exact Ce
   refine⟨⟨k+1,by omega,by omega,A4Z CS F (by omega) z⟩,by simp only;omega,AC [(1000000,.nm 1000000)] rfl rfl ?_ ?_⟩
   .first|exact eN|refine eM ?_
   first|exact eN|refine eM ?_
  intro g;clear g;repeat'(first|exact trivial|apply eS rfl|apply AB|refine rX f ?_ ?_)
  refine rC (λZ=>?_) (λZ=>?_)
  .have O:k=b:=by omega
   subst O;repeat'(first|exact trivial|apply eS rfl|apply AB|refine rX f ?_ ?_|refine rC ?_ ?_<;>intro q<;>try(cases q;done))
   exact fM f [.tmp 8] (.p .bool true) eT ⟨true,m,rfl,rfl,u,λ_=>F⟩
  have O:k<b:=by omega
  repeat'(first|exact trivial|apply eS rfl|apply AB|refine rX f ?_ ?_)
  .exact Ce
  refine rC (λaa=>?_) (λaa=>?_)
  .repeat'(first|exact trivial|apply eS rfl|apply AB|refine rX f ?_ ?_|refine rC ?_ ?_<;>intro q<;>try(cases q;done))
   exact fM f [.tmp 8] (.p .bool false) eT ⟨false,m,rfl,rfl,u,λh=>by cases h⟩
  have v:EO (0,0) a b m (Cb (0,0) m k (k-1)):=EO.swap m (by omega) (by omega) (by omega) (by omega) (by omega);have B:Cb (0,0) m k (k-1)=(m.set k (m.getD (k-1) (0,0))).set (k-1) (m.getD k (0,0)):=rfl;have R:qL CK (0,0) a (k-1) (k-1) (Cb (0,0) m k (k-1)):=⟨λx y h0 h1 z S T=>by
   have M:=Iu (d:=(0,0)) (l:=m) (i:=k) (j:=k-1) (by omega) (by omega);rw[M x,M y,An S,An (show ¬x=k by omega),An T,An (show ¬y=k by omega)];exact F x y h0 h1 (by omega),λy h1 z=>by omega⟩
  repeat'(first|exact trivial|apply eS rfl|apply AB|refine rP f ?_ ?_|fail)
  (refine CQ drawsAny f 16 [([0,1,5,6,7,8,9,10,11,12,13,14],15)] [2,3,4] (by kernel_rfl) (MF ?_ ?_);(next=>exact Ce);refine OL f [] ?_ ?_;(next=>exact Ce);refine Ss f ?_ ?_ ?_;(next=>exact Ce);(next=>exact Ce))
  rw[J,<-B];have I:=u.trans v;clear B v P ah;generalize Cb (0,0) m k (k-1)=c0 at *;refine IL ?_;refine Qr (ι:={c:List (Int×Int)//EO (0,0) a b l c/\TG CK (0,0) a k c}) (λs=>⟨[(0,.sr 1000000 AW 0 l.length),(1,.p T3 (a:Int)),(2,.p T3 (b:Int)),(3,.fn 192),(9,.p (.int .i64) (k:Int)),(10,.p (.int .i64) (t:Int))],[(1000000,.arr 106 AW s.1)]⟩) ?_ (λs=>?_)
  .repeat'(first|exact trivial|apply eS rfl|apply AB|refine rX f ?_ ?_)
   .exact Ce
   refine rC (λG=>?_) (λG=>?_)
   .repeat'(first|exact trivial|apply eS rfl|apply AB|refine rX f ?_ ?_)
    .exact Ce
    rw[show (k:Int)-1=((k-1:Nat):Int) by omega];refine AI (ι:={s:Nat×List (Int×Int)//(a<=s.1/\s.1<=k-1)/\EO (0,0) a b l s.2/\qL CK (0,0) a (k-1) s.1 s.2}) (λs=>⟨[(0,.sr 1000000 AW 0 l.length),(1,.p T3 (a:Int)),(2,.p T3 (b:Int)),(3,.fn 192),(9,.p (.int .i64) (k:Int)),(10,.p (.int .i64) (t:Int)),(11,.p (.int .i64) (s.1.1:Int))],[(1000000,.arr 106 AW s.1.2)]⟩) (λs=>s.1.1) ⟨(k-1,c0),by simp only;omega,I,R⟩ (AC [(1000000,.nm 1000000)] rfl rfl ?_ ?_) (λs=>?_)
    .first|exact eN|refine eM ?_
    .first|exact eN|refine eM ?_
    obtain⟨⟨j,c⟩,⟨D,A⟩,n,o⟩:=s;simp only at D A n o ⊢;have X:=L.perm CS n.perm;have Y:=n.len;have C:((j:Int)-1).toNat=j-1:=by omega
    have V:=U.pin n;repeat'(first|exact trivial|apply eS rfl|apply AB|refine rX f ?_ ?_)
    refine rC (λH=>?_) (λH=>?_)
    .repeat'(first|exact trivial|apply eS rfl|apply AB|refine rX f ?_ ?_)
     .exact Ce
     refine Dt (by simp only[go_sem,Nat.reduceEqDiff,reduceCtorEq,Nat.reduceAdd,Nat.reduceSub,Nat.reduceMul,Nat.reduceLeDiff,Nat.reduceLT,Int.reduceLE,Int.reduceToNat,Int.reduceNeg,↓reduceIte];rfl) ?_ ?_
     .intro g;simp only[Px,On]at g;rw[C]at g;have g:=X.lt CS (i:=j) (j:=j-1) (by omega) (by omega) (by omega) g;have E:=X5 CS o D A (.inr g);rw[show k-1+1=k by omega]at E;repeat'(first|exact trivial|apply eS rfl|apply AB|refine rX f ?_ ?_)
      refine⟨⟨c,n,E⟩,AC [(1000000,.nm 1000000)] rfl rfl ?_ ?_⟩
      .first|exact eN|refine eM ?_
      first|exact eN|refine eM ?_
     intro g;simp only[iS,By]at g;rw[C]at g;have g:CK (c.getD j (0,0)) (c.getD (j-1) (0,0))<0:=g;have W:a<j:=by
      refine GO λhn=>?_;have e:j=a:=by omega
      subst e;rcases V with h|h
      .omega
      have:=h j (Is _) (by omega);rw[CS.anti]at this;omega
     have v:EO (0,0) a b c (Cb (0,0) c j (j-1)):=EO.swap c (by omega) (by omega) (by omega) (by omega) (by omega);have B:Cb (0,0) c j (j-1)=(c.set j (c.getD (j-1) (0,0))).set (j-1) (c.getD j (0,0)):=rfl;repeat'(first|exact trivial|apply eS rfl|apply AB|refine rP f ?_ ?_|fail)
     (refine CQ drawsAny f 16 [([0,1,5,6,7,8,9,10,11,12,13,14],15)] [2,3,4] (by kernel_rfl) (MF ?_ ?_);(next=>exact Ce);refine OL f [] ?_ ?_;(next=>exact Ce);refine Ss f ?_ ?_ ?_;(next=>exact Ce);(next=>exact Ce))
     rw[C,<-B];repeat'(first|exact trivial|apply eS rfl|apply AB|refine rX f ?_ ?_)
     .exact Ce
     refine⟨⟨(j-1,Cb (0,0) c j (j-1)),by simp only;omega,n.trans v,bG o W A (by omega) g⟩,by simp only;omega,AC [(1000000,.nm 1000000)] rfl rfl ?_ ?_⟩
     .first|exact eN|refine eM ?_
     simp only;rw[show ((j-1:Nat):Int)=(j:Int)-1 by omega];first|exact eN|refine eM ?_
    have ad:j=a:=by omega
    have E:=X5 CS o D A (.inl ad);rw[show k-1+1=k by omega]at E;repeat'(first|exact trivial|apply eS rfl|apply AB|refine rX f ?_ ?_)
    refine⟨⟨c,n,E⟩,AC [(1000000,.nm 1000000)] rfl rfl ?_ ?_⟩
    .first|exact eN|refine eM ?_
    first|exact eN|refine eM ?_
   have ag:k=a+1:=by omega
   repeat'(first|exact trivial|apply eS rfl|apply AB|refine rX f ?_ ?_)
   refine⟨⟨c0,I,by rw[ag];exact fV a c0⟩,AC [(1000000,.nm 1000000)] rfl rfl ?_ ?_⟩
   .first|exact eN|refine eM ?_
   first|exact eN|refine eM ?_
  obtain⟨c,n,o⟩:=s;simp only;clear I R;repeat'(first|exact trivial|apply eS rfl|apply AB|refine rX f ?_ ?_)
  .exact Ce
  refine rC (λG=>?_) (λG=>?_)
  .repeat'(first|exact trivial|apply eS rfl|apply AB|refine rX f ?_ ?_)
   .exact Ce
   rw[show (k:Int)+1=((k+1:Nat):Int) by omega];refine AI (ι:={s:Nat×List (Int×Int)//(k+1<=s.1/\s.1<=b)/\EO (0,0) a b l s.2/\TG CK (0,0) a k s.2}) (λs=>⟨[(0,.sr 1000000 AW 0 l.length),(1,.p T3 (a:Int)),(2,.p T3 (b:Int)),(3,.fn 192),(9,.p (.int .i64) (k:Int)),(10,.p (.int .i64) (t:Int)),(12,.p (.int .i64) (s.1.1:Int))],[(1000000,.arr 106 AW s.1.2)]⟩) (λs=>b-s.1.1) ⟨(k+1,c),by simp only;omega,n,o⟩ (AC [(1000000,.nm 1000000)] rfl rfl ?_ ?_) (λs=>?_)
   .first|exact eN|refine eM ?_
   .first|exact eN|refine eM ?_
   clear n o;obtain⟨⟨j,c⟩,⟨D,A⟩,n,o⟩:=s;simp only at D A n o ⊢;have Y:=n.len;have C:((j:Int)-1).toNat=j-1:=by omega
   repeat'(first|exact trivial|apply eS rfl|apply AB|refine rX f ?_ ?_)
   refine rC (λH=>?_) (λH=>?_)
   .repeat'(first|exact trivial|apply eS rfl|apply AB|refine rX f ?_ ?_)
    .exact Ce
    refine Dt (by simp only[go_sem,Nat.reduceEqDiff,reduceCtorEq,Nat.reduceAdd,Nat.reduceSub,Nat.reduceMul,Nat.reduceLeDiff,Nat.reduceLT,Int.reduceLE,Int.reduceToNat,Int.reduceNeg,↓reduceIte];rfl) ?_ ?_
    .intro g;clear g;repeat'(first|exact trivial|apply eS rfl|apply AB|refine rX f ?_ ?_)
     .exact Ce
     refine⟨⟨(k,t+1,c),by simp only;omega,by simp only;omega,n,o⟩,by simp only;omega,AC [(1000000,.nm 1000000)] rfl rfl ?_ ?_⟩
     .first|exact eN|refine eM ?_
     first|exact eN|refine eM ?_
    intro g;clear g;have v:EO (0,0) k b c (Cb (0,0) c j (j-1)):=EO.swap c (by omega) (by omega) (by omega) (by omega) (by omega);have B:Cb (0,0) c j (j-1)=(c.set j (c.getD (j-1) (0,0))).set (j-1) (c.getD j (0,0)):=rfl;repeat'(first|exact trivial|apply eS rfl|apply AB|refine rP f ?_ ?_|fail)
    (refine CQ drawsAny f 16 [([0,1,5,6,7,8,9,10,11,12,13,14],15)] [2,3,4] (by kernel_rfl) (MF ?_ ?_);(next=>exact Ce);refine OL f [] ?_ ?_;(next=>exact Ce);refine Ss f ?_ ?_ ?_;(next=>exact Ce);(next=>exact Ce))
    rw[C,<-B];repeat'(first|exact trivial|apply eS rfl|apply AB|refine rX f ?_ ?_)
    .exact Ce
    refine⟨⟨(j+1,Cb (0,0) c j (j-1)),by simp only;omega,n.trans (v.mono (by omega) (Is _)),Nx o λx ap aq=>v.out x (by omega)⟩,by simp only;omega,AC [(1000000,.nm 1000000)] rfl rfl ?_ ?_⟩
    .first|exact eN|refine eM ?_
    first|exact eN|refine eM ?_
   repeat'(first|exact trivial|apply eS rfl|apply AB|refine rX f ?_ ?_)
   .exact Ce
   refine⟨⟨(k,t+1,c),by simp only;omega,by simp only;omega,n,o⟩,by simp only;omega,AC [(1000000,.nm 1000000)] rfl rfl ?_ ?_⟩
   .first|exact eN|refine eM ?_
   first|exact eN|refine eM ?_
  repeat'(first|exact trivial|apply eS rfl|apply AB|refine rX f ?_ ?_)
  .exact Ce
  refine⟨⟨(k,t+1,c),by simp only;omega,by simp only;omega,n,o⟩,by simp only;omega,AC [(1000000,.nm 1000000)] rfl rfl ?_ ?_⟩
  .first|exact eN|refine eM ?_
  first|exact eN|refine eM ?_
 repeat'(first|exact trivial|apply eS rfl|apply AB|refine rX f ?_ ?_|refine rC ?_ ?_<;>intro q<;>try(cases q;done))
 exact fM f [.tmp 8] (.p .bool false) eT ⟨false,m,rfl,rfl,u,λh=>by cases h⟩
end
section
attribute [local go_sem] DC
def Gz (l:List (Int×Int)) (s:Nat):List (Nat×Obj):=[(1000000,.arr 106 AW l),(70,.box 3 false [.p T3 (s:Int)])]
theorem X6 (l:List (Int×Int)) (a b s:Nat) (f:a<l.length) (bl:b<l.length) (hs:s<=1000):BK Tryz.prog 251 [.sr 1000000 AW 0 l.length,.p T3 (a:Int),.p T3 (b:Int),.bp 70 [] 0,.fn 192] (Gz l s) [1000000,70] (λres e=>∃x y t:Nat,res=.tup [.p T3 (x:Int),.p T3 (y:Int)]/\e=Gz l t/\((x=a/\y=b)\/(x=b/\y=a))/\t<=s+1):=by
 refine LQ [0,1,2,3,4,10,11,22] [] [] Tryz.func251 Tryz.ntmps251 (AF FD AH) ?_;intro w0 K O0 ρ0 c g h;simp only[Aq,Gz];repeat'(first|exact trivial|apply eS rfl|apply AB|refine rX c ?_ ?_|refine rC ?_ ?_<;>intro d<;>try(cases d;done))
 .exact Ce
 .exact Ce
 .refine fM c [.tmp 10,.tmp 11] (.tup [.p T3 (b:Int),.p T3 (a:Int)]) eT ⟨b,a,s+1,rfl,?_,.inr ⟨rfl,rfl⟩,Is _⟩;rw[show ((s+1:Nat):Int)=(s:Int)+1 by omega]
 exact fM c [.tmp 10,.tmp 11] (.tup [.p T3 (a:Int),.p T3 (b:Int)]) eT ⟨a,b,s,rfl,rfl,.inl ⟨rfl,rfl⟩,by omega⟩
theorem fW (l:List (Int×Int)) (a b c s:Nat) (j:a<l.length) (bl:b<l.length) (cl:c<l.length) (hs:s<=900):BK Tryz.prog 248 [.sr 1000000 AW 0 l.length,.p T3 (a:Int),.p T3 (b:Int),.p T3 (c:Int),.bp 70 [] 0,.fn 192] (Gz l s) [1000000,70] (λres k=>∃x t:Nat,res=.p T3 (x:Int)/\k=Gz l t/\(x=a\/x=b\/x=c)/\t<=s+3):=by
 refine LQ [0,1,2,3,4,5,12] [] [] Tryz.func248 Tryz.ntmps248 AH ?_;intro w0 K O0 ρ0 d o q;simp only[Aq,Gz];repeat'(first|exact trivial|apply eS rfl|apply AB|refine rX d ?_ ?_|refine rC ?_ ?_<;>intro e<;>try(cases e;done))
 refine cP 5 d ?_ ?_
 .trivial
 refine rM d (X6 l a b s j bl (by omega)) [(1000000,.nm 1000000),(70,.nm 70)] [] ?_ ?_ ?_
 .first|exact eN|refine eM ?_
 .simp only[Gz];first|exact eN|refine eM ?_
 rintro _ _ ⟨g,b1,s1,rfl,rfl,h1,r⟩;refine⟨[(1000000,.nm 1000000),(70,.nm 70)],.tup [.p T3 (g:Int),.p T3 (b1:Int)],[(1000000,.arr 106 AW l),(70,.box 3 false [.p T3 (s1:Int)])],rfl,rfl,?_,?_,rfl,rfl,?_⟩
 .simp only[Gz];first|exact eN|refine eM ?_
 .first|exact eN|refine eM ?_
 refine rL d ?_ ?_
 .trivial
 repeat'(first|exact trivial|apply eS rfl|apply AB|refine rX d ?_ ?_|refine rC ?_ ?_<;>intro e<;>try(cases e;done))
 refine cP 5 d ?_ ?_
 .trivial
 refine rM d (X6 l b1 c s1 (by omega) cl (by omega)) [(1000000,.nm 1000000),(70,.nm 70)] [] ?_ ?_ ?_
 .first|exact eN|refine eM ?_
 .simp only[Gz];first|exact eN|refine eM ?_
 rintro _ _ ⟨b2,c2,s2,rfl,rfl,m,u⟩;refine⟨[(1000000,.nm 1000000),(70,.nm 70)],.tup [.p T3 (b2:Int),.p T3 (c2:Int)],[(1000000,.arr 106 AW l),(70,.box 3 false [.p T3 (s2:Int)])],rfl,rfl,?_,?_,rfl,rfl,?_⟩
 .simp only[Gz];first|exact eN|refine eM ?_
 .first|exact eN|refine eM ?_
 refine rL d ?_ ?_
 .trivial
 repeat'(first|exact trivial|apply eS rfl|apply AB|refine rX d ?_ ?_|refine rC ?_ ?_<;>intro e<;>try(cases e;done))
 refine cP 5 d ?_ ?_
 .trivial
 refine rM d (X6 l g b2 s2 (by omega) (by omega) (by omega)) [(1000000,.nm 1000000),(70,.nm 70)] [] ?_ ?_ ?_
 .first|exact eN|refine eM ?_
 .simp only[Gz];first|exact eN|refine eM ?_
 rintro _ _ ⟨i,f,h,rfl,rfl,n,v⟩;refine⟨[(1000000,.nm 1000000),(70,.nm 70)],.tup [.p T3 (i:Int),.p T3 (f:Int)],[(1000000,.arr 106 AW l),(70,.box 3 false [.p T3 (h:Int)])],rfl,rfl,?_,?_,rfl,rfl,?_⟩
 .simp only[Gz];first|exact eN|refine eM ?_
 .first|exact eN|refine eM ?_
 refine rL d ?_ ?_
 .trivial
 repeat'(first|exact trivial|apply eS rfl|apply AB|refine rX d ?_ ?_|refine rC ?_ ?_<;>intro e<;>try(cases e;done))
 exact fM d [.tmp 12] (.p T3 (f:Int)) eT ⟨f,h,rfl,rfl,by omega,by omega⟩
theorem fX (l:List (Int×Int)) (b s:Nat) (f:1<=b) (bl:b+1<l.length) (g:l.length<=100000) (hs:s<=900):BK Tryz.prog 247 [.sr 1000000 AW 0 l.length,.p T3 (b:Int),.bp 70 [] 0,.fn 192] (Gz l s) [1000000,70] (λres e=>∃x t:Nat,res=.p T3 (x:Int)/\e=Gz l t/\(b-1<=x/\x<=b+1)/\t<=s+3):=by
 refine LQ [0,1,2,3,8] [] [] Tryz.func247 Tryz.ntmps247 AH ?_;intro w0 K O0 ρ0 a h i;simp only[Aq,Gz];have key:=fW l (b-1) b (b+1) s (by omega) (by omega) bl hs;rw[show ((b-1:Nat):Int)=(b:Int)-1 by omega,show ((b+1:Nat):Int)=(b:Int)+1 by omega]at key;repeat'(first|exact trivial|apply eS rfl|apply AB|refine rX a ?_ ?_|refine rC ?_ ?_<;>intro c<;>try(cases c;done))
 refine cP 8 a ?_ ?_
 .exact Ce
 refine rM a (key) [(1000000,.nm 1000000),(70,.nm 70)] [] ?_ ?_ ?_
 .first|exact eN|refine eM ?_
 .simp only[Gz];first|exact eN|refine eM ?_
 rintro _ _ ⟨x,t,rfl,rfl,j,d⟩;refine⟨[(1000000,.nm 1000000),(70,.nm 70)],.p T3 (x:Int),[(1000000,.arr 106 AW l),(70,.box 3 false [.p T3 (t:Int)])],rfl,rfl,?_,?_,rfl,rfl,?_⟩
 .simp only[Gz];first|exact eN|refine eM ?_
 .first|exact eN|refine eM ?_
 refine rL a ?_ ?_
 .trivial
 repeat'(first|exact trivial|apply eS rfl|apply AB|refine rX a ?_ ?_|refine rC ?_ ?_<;>intro c<;>try(cases c;done))
 exact fM a [.tmp 8] (.p T3 (x:Int)) eT ⟨x,t,rfl,rfl,by omega,d⟩
theorem A8Y (l:List (Int×Int)) (i:l.length<=100000) (a b:Nat) (z:a+13<=b) (A:b<=l.length):BK Tryz.prog 235 [.sr 1000000 AW 0 l.length,.p T3 (a:Int),.p T3 (b:Int),.fn 192] [(1000000,.arr 106 AW l)] [1000000] (λres y=>∃(j:Nat) (h:Int),res=.tup [.p T3 (j:Int),.p T3 h]/\y=[(1000000,.arr 106 AW l)]/\a<=j/\j<b):=by
 refine LQ [0,1,2,3,8,9,10,11,12,13,14,34,36,55,57,60] [] [] Tryz.func235 Tryz.ntmps235 AH ?_;intro w0 K O0 ρ0 c B C;simp only[Aq];obtain⟨t,v⟩:∃t,t=(b-a) / 4:=⟨_,rfl⟩;have et:((b:Int)-(a:Int)).tdiv 4=(t:Int):=by
  rw[VU (by omega)];omega
 have G:4*t<=b-a:=by omega
 have H:3<=t:=by omega
 clear v
 (apply eS rfl;refine rX c ?_ ?_;(next=>first|exact trivial|exact Ce))
 (apply eS rfl;refine rX c ?_ ?_;(next=>first|exact trivial|exact Ce))
 (apply eS rfl;refine rX c ?_ ?_;(next=>first|exact trivial|exact Ce))
 (apply eS rfl;refine rX c ?_ ?_;(next=>first|exact trivial|exact Ce|(rw[et];refine⟨⟨by decide,?_⟩,?_,?_⟩<;>omega)))
 (apply eS rfl;refine rX c ?_ ?_;(next=>first|exact trivial|exact Ce|(rw[et];refine⟨⟨by decide,?_⟩,?_,?_⟩<;>omega)))
 (apply eS rfl;refine rX c ?_ ?_;(next=>first|exact trivial|exact Ce|(rw[et];refine⟨⟨by decide,?_⟩,?_,?_⟩<;>omega)))
 rw[et,show (a:Int)+(t:Int)*1=((a+t:Nat):Int) by omega,show (a:Int)+(t:Int)*2=((a+t*2:Nat):Int) by omega,show (a:Int)+(t:Int)*3=((a+t*3:Nat):Int) by omega];refine IL ?_;refine Qr (ι:={x:Nat×Nat//a<=x.1/\x.1<b}) (λx=>⟨[(11,.bp 11 [] 0),(13,.p T3 (x.1.1:Int))],[(1000000,.arr 106 AW l),(11,.box 3 false [.p T3 (x.1.2:Int)])]⟩) ?_ (λx=>?_)
 .repeat'(first|exact trivial|apply eS rfl|apply AB|refine rX c ?_ ?_)
  refine rC ?_ ?_<;>intro k
  .repeat'(first|exact trivial|apply eS rfl|apply AB|refine rX c ?_ ?_)
   refine rC (λr=>?_) (λr=>?_)
   .repeat'(first|exact trivial|apply eS rfl|apply AB|refine rP c ?_ ?_|fail)
    refine cP 3 c ?_ ?_
    .trivial
    refine rM c (fX l (a+t) 0 (by omega) (by omega) i (by omega)) [(1000000,.nm 1000000),(70,.nm 11)] [] ?_ ?_ ?_
    .first|exact eN|refine eM ?_
    .simp only[Gz];first|exact eN|refine eM ?_
    rintro _ _ ⟨n,s1,rfl,rfl,I,D⟩;refine⟨[(1000000,.nm 1000000),(11,.nm 70)],.p T3 (n:Int),[(1000000,.arr 106 AW l),(11,.box 3 false [.p T3 (s1:Int)])],rfl,rfl,?_,?_,rfl,rfl,?_⟩
    .simp only[Gz];first|exact eN|refine eM ?_
    .first|exact eN|refine eM ?_
    refine rL c ?_ ?_
    .trivial
    repeat'(first|exact trivial|apply eS rfl|apply AB|refine rX c ?_ ?_)
    refine cP 3 c ?_ ?_
    .trivial
    refine rM c (fX l (a+t*2) s1 (by omega) (by omega) i (by omega)) [(1000000,.nm 1000000),(70,.nm 11)] [] ?_ ?_ ?_
    .first|exact eN|refine eM ?_
    .simp only[Gz];first|exact eN|refine eM ?_
    rintro _ _ ⟨o,s2,rfl,rfl,J,E⟩;refine⟨[(1000000,.nm 1000000),(11,.nm 70)],.p T3 (o:Int),[(1000000,.arr 106 AW l),(11,.box 3 false [.p T3 (s2:Int)])],rfl,rfl,?_,?_,rfl,rfl,?_⟩
    .simp only[Gz];first|exact eN|refine eM ?_
    .first|exact eN|refine eM ?_
    refine rL c ?_ ?_
    .trivial
    repeat'(first|exact trivial|apply eS rfl|apply AB|refine rX c ?_ ?_)
    refine cP 3 c ?_ ?_
    .trivial
    refine rM c (fX l (a+t*3) s2 (by omega) (by omega) i (by omega)) [(1000000,.nm 1000000),(70,.nm 11)] [] ?_ ?_ ?_
    .first|exact eN|refine eM ?_
    .simp only[Gz];first|exact eN|refine eM ?_
    rintro _ _ ⟨q,m,rfl,rfl,L,F⟩;refine⟨[(1000000,.nm 1000000),(11,.nm 70)],.p T3 (q:Int),[(1000000,.arr 106 AW l),(11,.box 3 false [.p T3 (m:Int)])],rfl,rfl,?_,?_,rfl,rfl,?_⟩
    .simp only[Gz];first|exact eN|refine eM ?_
    .first|exact eN|refine eM ?_
    refine rL c ?_ ?_
    .trivial
    repeat'(first|exact trivial|apply eS rfl|apply AB|refine rX c ?_ ?_)
    refine cP 5 c ?_ ?_
    .trivial
    refine rM c (fW l (n) (o) (q) m (by omega) (by omega) (by omega) (by omega)) [(1000000,.nm 1000000),(70,.nm 11)] [] ?_ ?_ ?_
    .first|exact eN|refine eM ?_
    .simp only[Gz];first|exact eN|refine eM ?_
    rintro _ _ ⟨e,d,rfl,rfl,w,u⟩;refine⟨[(1000000,.nm 1000000),(11,.nm 70)],.p T3 (e:Int),[(1000000,.arr 106 AW l),(11,.box 3 false [.p T3 (d:Int)])],rfl,rfl,?_,?_,rfl,rfl,?_⟩
    .simp only[Gz];first|exact eN|refine eM ?_
    .first|exact eN|refine eM ?_
    refine rL c ?_ ?_
    .trivial
    repeat'(first|exact trivial|apply eS rfl|apply AB|refine rX c ?_ ?_)
    refine⟨⟨(e,d),by simp only;omega,by simp only;omega⟩,AC [(1000000,.nm 1000000),(11,.nm 11)] rfl rfl ?_ ?_⟩
    .first|exact eN|refine eM ?_
    first|exact eN|refine eM ?_
   repeat'(first|exact trivial|apply eS rfl|apply AB|refine rP c ?_ ?_|fail)
   refine cP 5 c ?_ ?_
   .trivial
   refine rM c (fW l (a+t) (a+t*2) (a+t*3) 0 (by omega) (by omega) (by omega) (by omega)) [(1000000,.nm 1000000),(70,.nm 11)] [] ?_ ?_ ?_
   .first|exact eN|refine eM ?_
   .simp only[Gz];first|exact eN|refine eM ?_
   rintro _ _ ⟨e,d,rfl,rfl,w,u⟩;refine⟨[(1000000,.nm 1000000),(11,.nm 70)],.p T3 (e:Int),[(1000000,.arr 106 AW l),(11,.box 3 false [.p T3 (d:Int)])],rfl,rfl,?_,?_,rfl,rfl,?_⟩
   .simp only[Gz];first|exact eN|refine eM ?_
   .first|exact eN|refine eM ?_
   refine rL c ?_ ?_
   .trivial
   repeat'(first|exact trivial|apply eS rfl|apply AB|refine rX c ?_ ?_)
   refine⟨⟨(e,d),by simp only;omega,by simp only;omega⟩,AC [(1000000,.nm 1000000),(11,.nm 11)] rfl rfl ?_ ?_⟩
   .first|exact eN|refine eM ?_
   first|exact eN|refine eM ?_
  exfalso;omega
 obtain⟨⟨j,s⟩,f,g⟩:=x;simp only at f g ⊢;repeat'(first|exact trivial|apply eS rfl|apply AB|refine rX c ?_ ?_|refine rC ?_ ?_<;>intro k<;>try(cases k;done))
 .refine Ev.ent (σ':=⟨[(8,.p T3 (j:Int)),(9,.p T3 (1:Int))],[(1000000,.arr 106 AW l)]⟩) ?_ (AC [(1000000,.nm 1000000)] rfl rfl ?_ ?_)
  .exact fM c [.tmp 8,.tmp 9] (.tup [.p T3 (j:Int),.p T3 (1:Int)]) eT ⟨j,1,rfl,rfl,f,g⟩
  .first|exact eN|refine eM ?_
  first|exact eN|refine eM ?_
 .refine Ev.ent (σ':=⟨[(8,.p T3 (j:Int)),(9,.p T3 (2:Int))],[(1000000,.arr 106 AW l)]⟩) ?_ (AC [(1000000,.nm 1000000)] rfl rfl ?_ ?_)
  .exact fM c [.tmp 8,.tmp 9] (.tup [.p T3 (j:Int),.p T3 (2:Int)]) eT ⟨j,2,rfl,rfl,f,g⟩
  .first|exact eN|refine eM ?_
  first|exact eN|refine eM ?_
 refine Ev.ent (σ':=⟨[(8,.p T3 (j:Int)),(9,.p T3 (0:Int))],[(1000000,.arr 106 AW l)]⟩) ?_ (AC [(1000000,.nm 1000000)] rfl rfl ?_ ?_)
 .exact fM c [.tmp 8,.tmp 9] (.tup [.p T3 (j:Int),.p T3 (0:Int)]) eT ⟨j,0,rfl,rfl,f,g⟩
 .first|exact eN|refine eM ?_
 first|exact eN|refine eM ?_
end
theorem A8Z (x y:Int) (h0:0<=y) (h1:y<4611686018427387904):0<=CE .and .u64 x y/\CE .and .u64 x y<=y:=by
 have e:(IntKind.u64).bits=64:=rfl;have a:(BitVec.ofInt 64 y).toNat=y.toNat:=by
  rw[BitVec.toNat_ofInt];omega
 have d:(BitVec.ofInt 64 x &&& BitVec.ofInt 64 y).toNat<=y.toNat:=by
  rw[BitVec.toNat_and,a];exact Nat.and_le_right
 have b:CE .and .u64 x y=IntKind.u64.wrap (((BitVec.ofInt 64 x &&& BitVec.ofInt 64 y).toNat:Nat):Int):=rfl;rw[b];generalize (BitVec.ofInt 64 x &&& BitVec.ofInt 64 y).toNat=z at *;have c:IntKind.u64.wrap (z:Int)=(z:Int):=by
  have f:(z:Int)<18446744073709551616:=by omega
  have:IntKind.u64.wrap (z:Int)=(z:Int) % 18446744073709551616:=by
   first|rfl|(simp[IntKind.wrap];done)
  rw[this];omega
 rw[c];omega
theorem AEG (z:Int):0<=IntKind.u64.wrap z/\IntKind.u64.wrap z<=18446744073709551615:=by
 have:IntKind.u64.wrap z=z % 18446744073709551616:=by
  first|rfl|(simp[IntKind.wrap];done)
 omega
theorem lS (x y:Int):0<=CE .xor .u64 x y/\CE .xor .u64 x y<=18446744073709551615:=AEG _
theorem A53 {x:Int} (h0:0<=x) (h1:x<=18446744073709551615):0<=ZP .u64 x 7/\ZP .u64 x 7<=18446744073709551615:=by
 show 0<=x.fdiv 128/\x.fdiv 128<=18446744073709551615;rw[Int.fdiv_eq_ediv_of_nonneg _ (by decide)];omega
theorem A1S (x:Int) (h0:0<=x) (h1:x<256):BK Tryz.prog 241 [.p (.int .u64) x] [] [] (λres f=>(∃n:Nat,res=.p T3 (n:Int)/\n<=8/\(1<=x.toNat->x.toNat<2 ^ n/\2 ^ n<=2*x.toNat))/\f=[]):=by
 refine LQ [0,2,4,8,14] [] [] Tryz.func241 Tryz.ntmps241 AH ?_;intro w0 K O0 ρ0 a g h;simp only[Aq];repeat'(first|exact trivial|apply eS rfl|refine rX a ?_ ?_|refine rC ?_ ?_<;>intro b<;>try(cases b;done))
 all_goals first|(exfalso;omega)|skip
 refine Mh [0,2] a rfl (by simp only[go_sem,Nat.reduceEqDiff,reduceCtorEq,Nat.reduceAdd,Nat.reduceSub,Nat.reduceMul,Nat.reduceLeDiff,Nat.reduceLT,Int.reduceLE,Int.reduceToNat,Int.reduceNeg,↓reduceIte,ByteArray.size,List.size_toArray,AQ];rfl) ?_ ?_
 .have hu:∀u:UInt8,((u.toNat:Nat):Int)<=255:=λu=>by have:=u.toNat_lt;omega
  have c:0<=x:=by omega
  refine⟨⟨c,by omega⟩,⟨c,?_⟩,⟨?_,?_⟩,?_,?_⟩
  .have d:x<((256:Nat):Int):=h1;exact d
  .exact AA6 (by decide) (To _)
  .exact AA6 (hu _) (by decide)
  .rw[Int.zero_add];exact AA6 (by decide) (To _)
  rw[Int.zero_add];exact AA6 (hu _) (by decide)
 repeat' apply eS rfl
 refine fM a [.tmp 2] (.p T3 _) (by simp only[UK,A0Z,Sl,Zx,Jt,LI,Ju,go_sem,Nat.reduceEqDiff,reduceCtorEq,Nat.reduceAdd,Nat.reduceSub,Nat.reduceMul,Nat.reduceLeDiff,Nat.reduceLT,Int.reduceLE,Int.reduceToNat,Int.reduceNeg,↓reduceIte];rfl) ⟨⟨_,by rw[Int.zero_add],?_⟩,rfl⟩;have e:x.toNat<256:=by omega
 generalize x.toNat=k at *;clear b;revert e;revert k;decide
theorem A01 (x:Int) (h0:0<=x) (h1:x<256):BK Tryz.prog 230 [.p (.int .u64) x] [] [] (λres d=>(∃n:Nat,res=.p T3 (n:Int)/\n<=8/\(1<=x.toNat->x.toNat<2 ^ n/\2 ^ n<=2*x.toNat))/\d=[]):=by
 refine LQ [0,2] [] [] Tryz.func230 Tryz.ntmps230 AH ?_;intro w0 K O0 ρ0 a e f;simp only[Aq];repeat'(first|exact trivial|apply eS rfl|refine rX a ?_ ?_|refine rC ?_ ?_<;>intro b<;>try(cases b;done))
 refine cP 1 a ?_ ?_
 .trivial
 refine rM a (A1S x h0 h1) [] [] ?_ ?_ ?_
 .exact eN
 .exact eN
 rintro _ _ ⟨⟨n,rfl,c⟩,rfl⟩;refine⟨[],.p T3 (n:Int),[],rfl,rfl,?_,?_,rfl,rfl,?_⟩
 .exact eN
 .exact eN
 refine rL a ?_ ?_
 .trivial
 repeat' apply eS rfl
 exact fM a [.tmp 2] (.p T3 (n:Int)) eT ⟨⟨n,rfl,c⟩,rfl⟩
theorem A90 (x:Int) (h0:1<=x) (h1:x<256):BK Tryz.prog 245 [.p T3 x] [] [] (λres f=>(∃m:Nat,res=.p (.int .u64) (m:Int)/\x.toNat<m/\m<=2*x.toNat)/\f=[]):=by
 refine LQ [0,2] [] [] Tryz.func245 Tryz.ntmps245 AH ?_;intro w0 K O0 ρ0 a h i;simp only[Aq];repeat'(first|exact trivial|apply eS rfl|refine rX a ?_ ?_)
 refine cP 2 a ?_ ?_
 .exact Ce
 refine rM a (A01 x (by omega) h1) [] [] ?_ ?_ ?_
 .exact eN
 .exact eN
 rintro _ _ ⟨⟨n,rfl,g,d⟩,rfl⟩;obtain⟨b,c⟩:=d (by omega);refine⟨[],.p T3 (n:Int),[],rfl,rfl,?_,?_,rfl,rfl,?_⟩
 .exact eN
 .exact eN
 refine rL a ?_ ?_
 .trivial
 have e:Ut .u64 1 (n:Int)=((2 ^ n:Nat):Int):=by
  clear b c;have:∀n:Fin 9,Ut .u64 1 ((n.val:Nat):Int)=((2 ^ n.val:Nat):Int):=by decide
  exact this ⟨n,by omega⟩
 rw[e];repeat' apply eS rfl
 exact fM a [.tmp 2] (.p (.int .u64) ((2 ^ n:Nat):Int)) eT ⟨⟨_,rfl,b,c⟩,rfl⟩
theorem A91 (s:Int) (hs:0<=s/\s<=18446744073709551615):BK Tryz.prog 246 [.bp 70 [] 0] [(70,.box 263 false [.p (.int .u64) s])] [70] (λres b=>∃v:Int,(0<=v/\v<=18446744073709551615)/\res=.p (.int .u64) v/\b=[(70,.box 263 false [.p (.int .u64) v])]):=by
 refine LQ [0,2] [] [] Tryz.func246 Tryz.ntmps246 AH ?_;intro w0 K O0 ρ0 a c d;simp only[Aq];repeat'(first|exact trivial|apply eS rfl|refine rX a ?_ ?_)
 .have:=lS s (Ut .u64 s 13);exact A53 this.1 this.2
 exact fM a [.tmp 2] (.p (.int .u64) _) eT ⟨_,lS _ _,rfl,rfl⟩
section
attribute [local go_sem] DC
theorem A92 (l:List (Int×Int)) (J:l.length<256) (a b:Nat) (F:a+8<=b) (H:b<=l.length):BK Tryz.prog 234 [.sr 1000000 AW 0 l.length,.p T3 (a:Int),.p T3 (b:Int),.fn 192] [(1000000,.arr 106 AW l)] [1000000] (λres E=>res=.raw (.tuple #[])/\∃r,E=[(1000000,.arr 106 AW r)]/\EO (0,0) a b l r):=by
 refine LQ [0,1,2,8,9,10,11,12,17,35,45] [] [] Tryz.func234 Tryz.ntmps234 AH ?_;intro w0 K O0 ρ0 d L M;simp only[Aq];obtain⟨n,hn⟩:∃n,b=a+n:=⟨b-a,by omega⟩;subst hn;have en:((a+n:Nat):Int)-(a:Int)=(n:Int):=by omega
 obtain⟨t,D⟩:∃t,t=n / 4:=⟨_,rfl⟩;have et:(n:Int).tdiv 4=(t:Int):=by
  rw[VU (by omega)];omega
 have N:4*t<=n:=by omega
 have O:2<=t:=by omega
 clear D
 (apply eS rfl;refine rX d ?_ ?_;(next=>first|exact trivial|exact Ce))
 rw[en];repeat'(first|exact trivial|apply eS rfl|apply AB|refine rX d ?_ ?_)
 refine rC ?_ ?_<;>intro j
 .repeat'(first|exact trivial|apply eS rfl|apply AB|refine rX d ?_ ?_)
  .exact Ce
  refine cP 1 d ?_ ?_
  .trivial
  refine rM d (A90 (n:Int) (by omega) (by omega)) [] [] ?_ ?_ ?_
  .first|exact eN|refine eM ?_
  .first|exact eN|refine eM ?_
  rintro _ _ ⟨⟨m,rfl,A,B⟩,rfl⟩;rw[P0]at A B;refine⟨[],.p (.int .u64) (m:Int),[],rfl,rfl,?_,?_,rfl,rfl,?_⟩
  .first|exact eN|refine eM ?_
  .first|exact eN|refine eM ?_
  refine rL d ?_ ?_
  .trivial
  repeat'(first|exact trivial|apply eS rfl|apply AB|refine rX d ?_ ?_)
  .rw[et];refine⟨⟨by decide,?_⟩,?_,?_,?_⟩<;>omega
  rw[et,show (a:Int)+(t:Int)*2-1=((a+t*2-1:Nat):Int) by omega];refine AI (ι:={s:Nat×Int×List (Int×Int)//(a<=s.1/\s.1<=a+t*2+2)/\(0<=s.2.1/\s.2.1<=18446744073709551615)/\EO (0,0) a (a+n) l s.2.2}) (λs=>⟨[(0,.sr 1000000 AW 0 l.length),(1,.p T3 (a:Int)),(8,.p (.int .i64) (n:Int)),(9,.bp 9 [] 0),(10,.p (.int .u64) (m:Int)),(11,.p (.int .i64) (s.1.1:Int))],[(1000000,.arr 106 AW s.1.2.2),(9,.box 263 false [.p (.int .u64) s.1.2.1])]⟩) (λs=>a+t*2+2-s.1.1) ⟨(a+t*2-1,(n:Int),l),by simp only;omega,by simp only;omega,EO.refl _ _ l⟩ (AC [(1000000,.nm 1000000),(9,.nm 9)] rfl rfl ?_ ?_) (λs=>?_)
  .first|exact eN|refine eM ?_
  .first|exact eN|refine eM ?_
  obtain⟨⟨i,x,c⟩,⟨y,z⟩,q,hp⟩:=s;simp only at y z q hp ⊢;have I:=hp.len;repeat'(first|exact trivial|apply eS rfl|apply AB|refine rX d ?_ ?_)
  .rw[et];refine⟨⟨by decide,?_⟩,?_,?_,?_⟩<;>omega
  rw[et];refine rC (λu=>?_) (λu=>?_)
  .apply eS rfl;refine cP 0 d ?_ ?_
   .trivial
   refine rM d (A91 x q) [(70,.nm 9)] [] ?_ ?_ ?_
   .first|exact eN|refine eM ?_
   .first|exact eN|refine eM ?_
   rintro _ _ ⟨v,k,rfl,rfl⟩;refine⟨[(9,.nm 70)],.p (.int .u64) v,[(9,.box 263 false [.p (.int .u64) v])],rfl,rfl,?_,?_,rfl,rfl,?_⟩
   .first|exact eN|refine eM ?_
   .first|exact eN|refine eM ?_
   have G:=A8Z v ((m:Int)-1) (by omega) (by omega);refine rL d ?_ ?_
   .exact⟨by omega,by omega⟩
   generalize CE .and .u64 v ((m:Int)-1)=r at *;repeat'(first|exact trivial|apply eS rfl|apply AB|refine rX d ?_ ?_)
   refine rC (λw=>?_) (λw=>?_)
   .obtain⟨o,f⟩:∃o:Nat,r-(n:Int)=(o:Int):=⟨(r-(n:Int)).toNat,by omega⟩;have C:o<n:=by omega
    refine rX d ?_ ?_
    .exact Ce
    rw[f];have g:EO (0,0) a (a+n) c (Cb (0,0) c i (a+o)):=EO.swap c (by omega) (by omega) (by omega) (by omega) (by omega);have h:Cb (0,0) c i (a+o)=(c.set i (c.getD (a+o) (0,0))).set (a+o) (c.getD i (0,0)):=rfl;have e:((a:Int)+(o:Int)).toNat=a+o:=by omega
    repeat'(first|exact trivial|apply eS rfl|apply AB|refine rP d ?_ ?_|fail)
    (refine CQ drawsAny d 18 [([0,1,6,7,8,9,10,11,12,13,14,15,16],17)] [2,3,4,5] (by kernel_rfl) (MF ?_ ?_);(next=>exact Ce);refine OL d [] ?_ ?_;(next=>exact Ce);refine Ss d ?_ ?_ ?_;(next=>exact Ce);(next=>exact Ce))
    rw[e,<-h];repeat'(first|exact trivial|apply eS rfl|apply AB|refine rX d ?_ ?_)
    .exact Ce
    refine⟨⟨(i+1,v,Cb (0,0) c i (a+o)),by simp only;omega,k,hp.trans g⟩,by simp only;omega,AC [(1000000,.nm 1000000),(9,.nm 9)] rfl rfl ?_ ?_⟩
    .first|exact eN|refine eM ?_
    first|exact eN|refine eM ?_
   obtain⟨o,f⟩:∃o:Nat,r=(o:Int):=⟨r.toNat,by omega⟩;subst f;have C:o<n:=by omega
   have g:EO (0,0) a (a+n) c (Cb (0,0) c i (a+o)):=EO.swap c (by omega) (by omega) (by omega) (by omega) (by omega);have h:Cb (0,0) c i (a+o)=(c.set i (c.getD (a+o) (0,0))).set (a+o) (c.getD i (0,0)):=rfl;have e:((a:Int)+(o:Int)).toNat=a+o:=by omega
   repeat'(first|exact trivial|apply eS rfl|apply AB|refine rP d ?_ ?_|fail)
   (refine CQ drawsAny d 18 [([0,1,6,7,8,9,10,11,12,13,14,15,16],17)] [2,3,4,5] (by kernel_rfl) (MF ?_ ?_);(next=>exact Ce);refine OL d [] ?_ ?_;(next=>exact Ce);refine Ss d ?_ ?_ ?_;(next=>exact Ce);(next=>exact Ce))
   rw[e,<-h];repeat'(first|exact trivial|apply eS rfl|apply AB|refine rX d ?_ ?_)
   .exact Ce
   refine⟨⟨(i+1,v,Cb (0,0) c i (a+o)),by simp only;omega,k,hp.trans g⟩,by simp only;omega,AC [(1000000,.nm 1000000),(9,.nm 9)] rfl rfl ?_ ?_⟩
   .first|exact eN|refine eM ?_
   first|exact eN|refine eM ?_
  repeat'(first|exact trivial|apply eS rfl|apply AB|refine rX d ?_ ?_|refine rC ?_ ?_<;>intro j<;>try(cases j;done))
  refine Ev.ent (σ':=⟨[],[(1000000,.arr 106 AW c)]⟩) ?_ (AC [(1000000,.nm 1000000)] rfl rfl ?_ ?_)
  .exact fM d [] (.raw (.tuple #[])) rfl ⟨rfl,c,rfl,hp⟩
  .first|exact eN|refine eM ?_
  first|exact eN|refine eM ?_
 exfalso;omega
end
section
attribute [local go_sem] DC
def lU (l:List (Int×Int)) (a b c:Nat):Prop:=BK Tryz.prog 229 [.sr 1000000 AW 0 l.length,.p T3 (a:Int),.p T3 (b:Int),.p T3 (c:Int),.fn 192] [(1000000,.arr 106 AW l)] [1000000] (λres d=>res=.raw (.tuple #[])/\∃r,d=[(1000000,.arr 106 AW r)]/\EO (0,0) a b l r/\TG CK (0,0) a b r)
theorem A1T (l:List (Int×Int)) (az:l.length<256) (aa:nS CK (0,0) l) (a b S:Nat) (ar:a<=b) (ay:b<=l.length) (av:S<=1000) (aq:Bf CK (0,0) a b l)
  (V:∀(l':List (Int×Int)),l'.length<256->nS CK (0,0) l'->∀J b' an:Nat,b'-J<b-a->J<=b'->b'<=l'.length->an<=1000->Bf CK (0,0) J b' l'->lU l' J b' an):lU l a b S:=by
 unfold lU;refine LQ [0,1,2,3,4,10,11,12,13,14,15,16,17,18,19,20,25,32,39,56,75,80,97,125] [] [] Tryz.func229 Tryz.ntmps229 (AF FD AH) ?_;intro w0 K O0 ρ0 c bb bc;simp only[Aq];repeat'(first|exact trivial|apply eS rfl|apply AB|refine rX c ?_ ?_)
 refine AI (ι:={s:(Nat×Nat×Nat)×(Bool×Bool)×List (Int×Int)//Cut CK (0,0) a b s.1.1 s.1.2.1 s.2.2/\EO (0,0) a b l s.2.2/\Bf CK (0,0) s.1.1 s.1.2.1 s.2.2/\s.1.2.2<=1000}) (λs=>⟨[(0,.sr 1000000 AW 0 l.length),(1,.p T3 (s.1.1.1:Int)),(2,.p T3 (s.1.1.2.1:Int)),(3,.p T3 (s.1.1.2.2:Int)),(4,.fn 192),(10,.p .bool s.1.2.1.1),(11,.p .bool s.1.2.1.2)],[(1000000,.arr 106 AW s.1.2.2)]⟩) (λs=>s.1.1.2.1-s.1.1.1) ⟨((a,b,S),(true,true),l),A1R ar l,EO.refl a b l,aq,av⟩ (AC [(1000000,.nm 1000000)] rfl rfl ?_ ?_) (λs=>?_)
 .first|exact eN|refine eM ?_
 .first|exact eN|refine eM ?_
 obtain⟨⟨⟨d,b1,H⟩,⟨T,U⟩,m⟩,t,n,Q,ag⟩:=s;simp only at t n Q ag ⊢;obtain⟨D,ax,E⟩:=t.ab;have N:=aa.perm CS n.perm;have u:=n.len;repeat'(first|exact trivial|apply eS rfl|apply AB|refine rX c ?_ ?_)
 .exact Ce
 refine rC ?_ ?_<;>intro o
 .have key:=A8U m (by omega) N d b1 (by omega) (by omega);rw[u]at key;repeat'(first|exact trivial|apply eS rfl|apply AB|refine rX c ?_ ?_)
  refine cP 4 c ?_ ?_
  .trivial
  refine rM c (key) [(1000000,.nm 1000000)] [] ?_ ?_ ?_
  .first|exact eN|refine eM ?_
  .first|exact eN|refine eM ?_
  rintro _ _ ⟨rfl,r,rfl,e,g⟩;refine⟨[(1000000,.nm 1000000)],.raw (.tuple #[]),[(1000000,.arr 106 AW r)],rfl,rfl,?_,?_,rfl,rfl,CV ?_⟩
  .first|exact eN|refine eM ?_
  .first|exact eN|refine eM ?_
  repeat'(first|exact trivial|apply eS rfl|apply AB|refine rX c ?_ ?_|refine rC ?_ ?_<;>intro o<;>try(cases o;done))
  exact fM c [] (.raw (.tuple #[])) rfl ⟨rfl,r,rfl,n.trans (e.mono D E),(t.pin e).done g⟩
 have ap:d+13<=b1:=by omega
 have el:(b1:Int)-(d:Int)=((b1-d:Nat):Int):=by omega
 rw[el];repeat'(first|exact trivial|apply eS rfl|apply AB|refine rX c ?_ ?_)
 refine rC (λau=>?_) (λau=>?_)
 .have key:=A52 m (by omega) N d b1 ax (by omega);rw[u]at key;repeat'(first|exact trivial|apply eS rfl|apply AB|refine rX c ?_ ?_)
  refine cP 4 c ?_ ?_
  .trivial
  refine rM c (key) [(1000000,.nm 1000000)] [] ?_ ?_ ?_
  .first|exact eN|refine eM ?_
  .first|exact eN|refine eM ?_
  rintro _ _ ⟨rfl,r,rfl,e,g⟩;refine⟨[(1000000,.nm 1000000)],.raw (.tuple #[]),[(1000000,.arr 106 AW r)],rfl,rfl,?_,?_,rfl,rfl,CV ?_⟩
  .first|exact eN|refine eM ?_
  .first|exact eN|refine eM ?_
  repeat'(first|exact trivial|apply eS rfl|apply AB|refine rX c ?_ ?_|refine rC ?_ ?_<;>intro o<;>try(cases o;done))
  exact fM c [] (.raw (.tuple #[])) rfl ⟨rfl,r,rfl,n.trans (e.mono D E),(t.pin e).done g⟩
 have ba:0<H:=by omega
 refine tE ?_;refine IL ?_;refine Qr (ι:={x:Nat×List (Int×Int)//x.1<=1000/\EO (0,0) d b1 m x.2}) (λx=>⟨[(0,.sr 1000000 AW 0 l.length),(1,.p T3 (d:Int)),(2,.p T3 (b1:Int)),(3,.p T3 (x.1.1:Int)),(4,.fn 192),(10,.p .bool T),(11,.p .bool U),(12,.p (.int .i64) ((b1-d:Nat):Int))],[(1000000,.arr 106 AW x.1.2)]⟩) ?_ (λx=>?_)
 .repeat'(first|exact trivial|apply eS rfl|apply AB|refine rX c ?_ ?_)
  refine rC (λk=>?_) (λk=>?_)
  .have key:=A92 m (by omega) d b1 (by omega) (by omega);rw[u]at key;apply eS rfl;refine cP 4 c ?_ ?_
   .trivial
   refine rM c (key) [(1000000,.nm 1000000)] [] ?_ ?_ ?_
   .first|exact eN|refine eM ?_
   .first|exact eN|refine eM ?_
   rintro _ _ ⟨rfl,r,rfl,e⟩;refine⟨[(1000000,.nm 1000000)],.raw (.tuple #[]),[(1000000,.arr 106 AW r)],rfl,rfl,?_,?_,rfl,rfl,CV ?_⟩
   .first|exact eN|refine eM ?_
   .first|exact eN|refine eM ?_
   repeat'(first|exact trivial|apply eS rfl|apply AB|refine rX c ?_ ?_)
   .exact Ce
   refine⟨⟨(H-1,r),by simp only;omega,e⟩,AC [(1000000,.nm 1000000)] rfl rfl ?_ ?_⟩
   .first|exact eN|refine eM ?_
   simp only;rw[show ((H-1:Nat):Int)=(H:Int)-1 by omega];first|exact eN|refine eM ?_
  repeat'(first|exact trivial|apply eS rfl|apply AB|refine rX c ?_ ?_)
  refine⟨⟨(H,m),ag,EO.refl _ _ m⟩,AC [(1000000,.nm 1000000)] rfl rfl ?_ ?_⟩
  .first|exact eN|refine eM ?_
  first|exact eN|refine eM ?_
 obtain⟨⟨C,i⟩,G,f⟩:=x;simp only at G f ⊢;have v:i.length=l.length:=f.len.trans u;have key:=A8Y i (by omega) d b1 ap (by omega);rw[v]at key;apply eS rfl;refine cP 4 c ?_ ?_
 .trivial
 refine rM c (key) [(1000000,.nm 1000000)] [] ?_ ?_ ?_
 .first|exact eN|refine eM ?_
 .first|exact eN|refine eM ?_
 rintro _ _ ⟨j,hint,rfl,rfl,z,A⟩;refine⟨[(1000000,.nm 1000000)],.tup [.p T3 (j:Int),.p T3 hint],[(1000000,.arr 106 AW i)],rfl,rfl,?_,?_,rfl,rfl,?_⟩
 .first|exact eN|refine eM ?_
 .first|exact eN|refine eM ?_
 refine rL c ?_ ?_
 .trivial
 refine IL ?_;refine Qr (ι:={x:Nat×Int×List (Int×Int)//(d<=x.1/\x.1<b1)/\EO (0,0) d b1 m x.2.2}) (λx=>⟨[(0,.sr 1000000 AW 0 l.length),(1,.p T3 (d:Int)),(2,.p T3 (b1:Int)),(3,.p T3 (C:Int)),(4,.fn 192),(10,.p .bool T),(11,.p .bool U),(12,.p (.int .i64) ((b1-d:Nat):Int)),(13,.p T3 (x.1.1:Int)),(14,.p T3 x.1.2.1)],[(1000000,.arr 106 AW x.1.2.2)]⟩) ?_ (λx=>?_)
 .repeat'(first|exact trivial|apply eS rfl|apply AB|refine rX c ?_ ?_)
  refine rC (λk=>?_) (λk=>?_)
  .have key:=A8V i (by omega) d b1 (by omega) (by omega);rw[v]at key;apply eS rfl;refine cP 4 c ?_ ?_
   .trivial
   refine rM c (key) [(1000000,.nm 1000000)] [] ?_ ?_ ?_
   .first|exact eN|refine eM ?_
   .first|exact eN|refine eM ?_
   rintro _ _ ⟨rfl,r,rfl,e⟩;refine⟨[(1000000,.nm 1000000)],.raw (.tuple #[]),[(1000000,.arr 106 AW r)],rfl,rfl,?_,?_,rfl,rfl,CV ?_⟩
   .first|exact eN|refine eM ?_
   .first|exact eN|refine eM ?_
   repeat'(first|exact trivial|apply eS rfl|apply AB|refine rX c ?_ ?_)
   .exact Ce
   refine⟨⟨(b1-1-(j-d),1,r),by simp only;omega,f.trans e⟩,AC [(1000000,.nm 1000000)] rfl rfl ?_ ?_⟩
   .first|exact eN|refine eM ?_
   simp only;rw[show ((b1-1-(j-d):Nat):Int)=(b1:Int)-1-((j:Int)-(d:Int)) by omega];first|exact eN|refine eM ?_
  repeat'(first|exact trivial|apply eS rfl|apply AB|refine rX c ?_ ?_)
  refine⟨⟨(j,hint,i),⟨z,A⟩,f⟩,AC [(1000000,.nm 1000000)] rfl rfl ?_ ?_⟩
  .first|exact eN|refine eM ?_
  first|exact eN|refine eM ?_
 clear z A f v key;obtain⟨⟨j,hint,i⟩,⟨z,A⟩,f⟩:=x;simp only at z A f ⊢;have v:i.length=l.length:=f.len.trans u;have ah:=N.perm CS f.perm;have Y:=Q.pin f;refine Qr (ι:={x:List (Int×Int)//EO (0,0) d b1 m x}) (λx=>⟨[(0,.sr 1000000 AW 0 l.length),(1,.p T3 (d:Int)),(2,.p T3 (b1:Int)),(3,.p T3 (C:Int)),(4,.fn 192),(10,.p .bool T),(11,.p .bool U),(12,.p (.int .i64) ((b1-d:Nat):Int)),(13,.p T3 (j:Int))],[(1000000,.arr 106 AW x.1)]⟩) ?_ (λx=>?_)
 .repeat'(first|exact trivial|apply eS rfl|apply AB|refine rX c ?_ ?_)
  refine rC (λk=>?_) (λk=>?_)
  .have key:=A8X i (by omega) ah d b1 (by omega) (by omega) Y;rw[v]at key;apply eS rfl;refine cP 4 c ?_ ?_
   .trivial
   refine rM c (key) [(1000000,.nm 1000000)] [] ?_ ?_ ?_
   .first|exact eN|refine eM ?_
   .first|exact eN|refine eM ?_
   rintro _ _ ⟨w,r,rfl,rfl,e,g⟩;refine⟨[(1000000,.nm 1000000)],.p .bool w,[(1000000,.arr 106 AW r)],rfl,rfl,?_,?_,rfl,rfl,CV ?_⟩
   .first|exact eN|refine eM ?_
   .first|exact eN|refine eM ?_
   apply eS rfl;refine rC (λaf=>?_) (λaf=>?_)
   .repeat'(first|exact trivial|apply eS rfl|apply AB|refine rX c ?_ ?_|refine rC ?_ ?_<;>intro o<;>try(cases o;done))
    have am:=f.trans e;exact fM c [] (.raw (.tuple #[])) rfl ⟨rfl,r,rfl,n.trans (am.mono D E),(t.pin am).done (g af)⟩
   repeat'(first|exact trivial|apply eS rfl|apply AB|refine rX c ?_ ?_)
   refine⟨⟨r,f.trans e⟩,AC [(1000000,.nm 1000000)] rfl rfl ?_ ?_⟩
   .first|exact eN|refine eM ?_
   first|exact eN|refine eM ?_
  repeat'(first|exact trivial|apply eS rfl|apply AB|refine rX c ?_ ?_)
  refine⟨⟨i,f⟩,AC [(1000000,.nm 1000000)] rfl rfl ?_ ?_⟩
  .first|exact eN|refine eM ?_
  first|exact eN|refine eM ?_
 clear v ah Y f;obtain⟨ao,y⟩:=x;simp only;have ak:ao.length=l.length:=y.len.trans u;have ai:=N.perm CS y.perm;have R:=Q.pin y;have ad:=t.pin y;repeat'(first|exact trivial|apply eS rfl|apply AB|refine rX c ?_ ?_)
 .dsimp only[Ty.den];exact⟨λ_=>by omega,λ_=>by omega,λ_=>by omega⟩
 refine Dt (by simp only[go_sem,Nat.reduceEqDiff,reduceCtorEq,Nat.reduceAdd,Nat.reduceSub,Nat.reduceMul,Nat.reduceLeDiff,Nat.reduceLT,Int.reduceLE,Int.reduceToNat,Int.reduceNeg,↓reduceIte];rfl) ?_ ?_
 .intro L;exfalso;simp only[AT,By,Px,On]at L;obtain⟨h1,X⟩:=L;rw[show ((d:Int)-1).toNat=d-1 by omega]at X;rcases R with h|h
  .omega
  exact X (h j z A)
 intro L;clear L;have key:=A8W ao (by omega) ai d b1 j z A (by omega);rw[ak]at key;repeat'(first|exact trivial|apply eS rfl|apply AB|refine rX c ?_ ?_)
 refine cP 5 c ?_ ?_
 .trivial
 refine rM c (key) [(1000000,.nm 1000000)] [] ?_ ?_ ?_
 .first|exact eN|refine eM ?_
 .first|exact eN|refine eM ?_
 rintro _ _ ⟨q,w,I,rfl,rfl,P,F⟩;refine⟨[(1000000,.nm 1000000)],.tup [.p T3 (q:Int),.p .bool w],[(1000000,.arr 106 AW I)],rfl,rfl,?_,?_,rfl,rfl,?_⟩
 .first|exact eN|refine eM ?_
 .first|exact eN|refine eM ?_
 have aw:=F.l;have bd:=F.r;have O:=n.trans ((y.trans P).mono D E);have al:=O.len;have aj:=aa.perm CS O.perm;have Z:=R.pin P;have ae:=ad.pin P;clear y ak ai R ad P key;have W:(((b1-d:Nat):Int)).tdiv 8=(((b1-d) / 8:Nat):Int):=by
  rw[VU (by omega)];omega
 refine rL c ?_ ?_
 .trivial
 repeat'(first|exact trivial|apply eS rfl|apply AB|refine rX c ?_ ?_)
 .exact Ce
 .rw[W];exact⟨by decide,by omega,by omega⟩
 rw[W];refine rC (λk=>?_) (λk=>?_)
 .have key:=V I (by omega) aj d q C (by omega) aw (by omega) G (Z.sub (by omega));unfold lU at key;rw[al]at key;repeat'(first|exact trivial|apply eS rfl|apply AB|refine rX c ?_ ?_)
  refine cP 5 c ?_ ?_
  .trivial
  refine rM c (key) [(1000000,.nm 1000000)] [] ?_ ?_ ?_
  .first|exact eN|refine eM ?_
  .first|exact eN|refine eM ?_
  rintro _ _ ⟨rfl,r,rfl,e,g⟩;refine⟨[(1000000,.nm 1000000)],.raw (.tuple #[]),[(1000000,.arr 106 AW r)],rfl,rfl,?_,?_,rfl,rfl,CV ?_⟩
  .first|exact eN|refine eM ?_
  .first|exact eN|refine eM ?_
  have M:=F.pinL e;have B:EO (0,0) d b1 I r:=e.mono (Is _) (by omega);repeat'(first|exact trivial|apply eS rfl|apply AB|refine rX c ?_ ?_)
  .exact Ce
  refine⟨⟨((q+1,b1,C),(decide ((((b1-d) / 8:Nat):Int)<=(q:Int)-(d:Int)),w),r),(ae.pin B).left CS M g,O.trans (B.mono D E),M.bf,G⟩,by simp only;omega,AC [(1000000,.nm 1000000)] rfl rfl ?_ ?_⟩
  .first|exact eN|refine eM ?_
  first|exact eN|refine eM ?_
 have key:=V I (by omega) aj (q+1) b1 C (by omega) (by omega) (by omega) G F.bf;unfold lU at key;rw[al,show ((q+1:Nat):Int)=(q:Int)+1 by omega]at key;repeat'(first|exact trivial|apply eS rfl|apply AB|refine rX c ?_ ?_)
 refine cP 6 c ?_ ?_
 .exact Ce
 refine rM c (key) [(1000000,.nm 1000000)] [] ?_ ?_ ?_
 .first|exact eN|refine eM ?_
 .first|exact eN|refine eM ?_
 rintro _ _ ⟨rfl,r,rfl,e,g⟩;refine⟨[(1000000,.nm 1000000)],.raw (.tuple #[]),[(1000000,.arr 106 AW r)],rfl,rfl,?_,?_,rfl,rfl,CV ?_⟩
 .first|exact eN|refine eM ?_
 .first|exact eN|refine eM ?_
 have M:=F.pinR e;have B:EO (0,0) d b1 I r:=e.mono (by omega) (Is _);repeat'(first|exact trivial|apply eS rfl|apply AB|refine rX c ?_ ?_)
 refine⟨⟨((d,q,C),(decide ((((b1-d) / 8:Nat):Int)<=(b1:Int)-(q:Int)),w),r),(ae.pin B).right CS M g,O.trans (B.mono D E),(Z.pin B).sub (b':=q) (by omega),G⟩,by simp only;omega,AC [(1000000,.nm 1000000)] rfl rfl ?_ ?_⟩
 .first|exact eN|refine eM ?_
 first|exact eN|refine eM ?_
theorem A93 (l:List (Int×Int)) (i:l.length<256) (e:nS CK (0,0) l) (a b c:Nat) (f:a<=b) (g:b<=l.length) (j:c<=1000) (d:Bf CK (0,0) a b l):lU l a b c:=by
 have key:∀(n:Nat) (l:List (Int×Int)),l.length<256->nS CK (0,0) l->∀a b c:Nat,b-a<n->a<=b->b<=l.length->c<=1000->Bf CK (0,0) a b l->lU l a b c:=by
  intro n;induction n with
  | zero=>intro l _ _ a b c h;omega
  | succ n s =>
   intro l i e a b c hn f g j d;exact A1T l i e a b c f g j d λl' h1 m k b' t u o p q r=>s l' h1 m k b' t (by omega) o p q r
 exact key (b-a+1) l i e a b c (by omega) f g j d
end
def NdA (l:List (Int×Int)):Prop:=l.Pairwise λa b=>a.1≠b.1
def LtA (l:List (Int×Int)):Prop:=l.Pairwise λa b=>a.1<b.1
theorem bH (x:Int×Int) (s:List (Int×Int)):∀n,(∀j,Io x s n<=j->j<n->x.1<(s.getD j (0,0)).1)/\(Io x s n=0\/¬x.1<(s.getD (Io x s n-1) (0,0)).1)
 | 0=>⟨λj h1 a=>by omega,.inl rfl⟩
 | n+1=>by
  obtain⟨h1,a⟩:=bH x s n;unfold Io;split
  .rename_i h;refine⟨λj b c=>?_,a⟩;by_cases e:j=n
   .rw[e];exact h
   exact h1 j b (by omega)
  rename_i h;exact⟨λj b c=>by omega,.inr (by simpa using h)⟩
theorem A94 {s:List (Int×Int)} (hs:LtA s) {x:Int×Int} (l:∀a∈s,a.1≠x.1):LtA (Pi s x):=by
 obtain⟨h1,c⟩:=bH x s s.length;have m:=Vv x s s.length;unfold Pi;generalize Io x s s.length=p at *;have hp:=hs;unfold LtA at hp;rw[<-ABj p s,AAm]at hp;have g:∀i (h:i<s.length),s.getD i (0,0)=s[i]:=λi h=>by rw[AS,At h];rfl
 have k:∀a∈s.take p,a.1<x.1:=by
  intro a ha;rcases c with c|c
  .subst c;simp at ha
  obtain⟨i,hi,rfl⟩:=Vb.1 ha;rw[OS]at hi;rw[List.getElem_take];by_cases o:p=0
  .omega
  have f:p-1<s.length:=by omega
  rw[g (p-1) f]at c;have n:=l s[p-1] (VR f);by_cases e:i=p-1
  .subst e;omega
  have:=(QG.1 hs) i (p-1) (by omega) f (by omega);omega
 have j:∀a∈s.drop p,x.1<a.1:=by
  intro a ha;obtain⟨i,hi,rfl⟩:=Vb.1 ha;rw[SM]at hi;rw[List.getElem_drop,<-g (p+i) (by omega)];exact h1 (p+i) (by omega) (by omega)
 unfold LtA;rw[QK,AAm];refine⟨hp.1,?_,λa ha b d=>?_⟩
 .rw[List.singleton_append,SK];exact⟨j,hp.2.1⟩
 rcases DO.1 (by simpa using d:b∈x :: s.drop p) with rfl|d
 .exact k a ha
 exact hp.2.2 a ha b d
theorem Pk {l:List (Int×Int)} (h:NdA l):LtA (Af l):=by
 induction l using Dk with
 | h0=>exact List.Pairwise.nil
 | h1 l a d =>
  unfold NdA at h;rw[AAm]at h;rw[Hw];exact A94 (d h.1) λb c=>h.2.2 b ((FC l).mem_iff.1 c) a (by simp)
theorem A1U {l r:List (Int×Int)} (hp:r.Perm l) (h1:LtA r) (c:LtA l):r=l :=
 List.Perm.eq_of_pairwise (le:=λa b:Int×Int=>a.1<b.1) (λa b _ _ d e=>by omega) h1 c hp
theorem A02 {l:List (Int×Int)} (h:LtA l):lJ l:=by
 intro i hi;have a:∀i (h:i<l.length),l.getD i (0,0)=l[i]:=λi h=>by rw[AS,At h];rfl
 rw[a i (by omega),a (i+1) hi];exact(QG.1 h) i (i+1) (by omega) hi (by omega)
theorem A54 {l:List (Int×Int)} (h:lJ l):LtA l:=by
 refine QG.2 λi j hi f k=>?_;have c:∀i (h:i<l.length),l.getD i (0,0)=l[i]:=λi h=>by rw[AS,At h];rfl
 have key:∀d i,i+d+1<l.length->(l.getD i (0,0)).1<(l.getD (i+d+1) (0,0)).1:=by
  intro d;induction d with
  | zero=>exact λi hi=>h i hi
  | succ d g =>
   intro i hi;have a:=g i (by omega);have b:=h (i+d+1) (by omega);have e:i+(d+1)+1=i+d+1+1:=by omega
   rw[e];omega
 have:=key (j-i-1) i (by omega);rw[show i+(j-i-1)+1=j by omega,c i hi,c j f]at this;exact this
theorem AAY {l:List (Int×Int)} (h:LtA l):NdA l:=h.imp λg=>by omega
theorem AAZ {l:List (Int×Int)} (h:NdA l):nS CK (0,0) l:=by
 rw[z9 CS];refine h.imp λ{a b} g e=>g ?_;unfold CK GC at e;split at e
 .omega
 split at e<;>omega
theorem qO {l r:List (Int×Int)} (h:NdA l) (hp:r.Perm l) (hs:TG CK (0,0) 0 l.length r):r=Af l:=by
 refine A1U (hp.trans (FC l).symm) (QG.2 λi j hi b c=>?_) (Pk h);have a:∀i (h:i<r.length),r.getD i (0,0)=r[i]:=λi h=>by rw[AS,At h];rfl
 have:=hs i j (IS _) c (by rw[<-hp.length_eq];exact b);rw[a i hi,a j b]at this;unfold CK GC at this;split at this
 .assumption
 split at this<;>omega
theorem M8 {l:List (Int×Int)} (h:NdA l):Af (Af l)=Af l:=Je (A02 (Pk h))
def NdF (f:List AE):Prop:=∀x∈f,NdA x.2/\x.2.length<=200
def Dv (f:List AE):List AE:=f.map λx=>(x.1,Af x.2)
theorem GT (f:List AE):(Dv f).length=f.length:=Py _
theorem Rh (f:List AE) (n:Nat):(Dv f).getD n (0,[])=((f.getD n (0,[])).1,Af (f.getD n (0,[])).2):=by
 unfold Dv;simp only[AS,VJ];cases f[n]?<;>rfl
theorem TH {f:List AE} (h:AR f):AR (Dv f):=by
 refine⟨by rw[GT];exact h.1,λx d=>?_⟩;obtain⟨y,e,rfl⟩:=Do.1 d;obtain⟨b,c⟩:=h.2 y e;refine⟨by simp only[Cs];exact b,λa ha=>?_⟩;rw[GT];exact c a ((FC _).mem_iff.1 ha)
theorem A55 {f:List AE} (h:NdF f):I8 (Dv f):=by
 intro x c;obtain⟨y,d,rfl⟩:=Do.1 c;obtain⟨a,b⟩:=h y d;exact⟨A02 (Pk a),by simp only[Cs];exact b⟩
theorem A1V {f:List AE} (h:I8 f):Dv f=f:=by
 unfold Dv
 conv=>rhs;rw[<-AGv f]
 refine QE λx a=>?_;rw[Je (h x a).1];rfl
theorem AB0 {f:List AE} (h:I8 f):NdF f:=λx a=>⟨AAY (A54 (h x a).1),(h x a).2⟩
theorem A03 {f:List AE} (hf:NdF f) (n:Int):NdA (f.getD n.toNat (0,[])).2/\(f.getD n.toNat (0,[])).2.length<=200:=by
 by_cases h:n.toNat<f.length
 .have a:f.getD n.toNat (0,[])∈f:=by
   rw[AS,At h];exact VR h
  exact hf _ a
 rw[AS,QH (by omega)];exact⟨List.Pairwise.nil,by simp⟩
theorem Uc {f:List AE} (h:NdF f):∀(k:Nat) (s:List Int×List Int) (n:Int),EH (Dv f) k s n=EH f k s n
 | 0,_,_=>rfl
 | k+1,s,n=>by
  rw[F6,F6,Rh];simp only;rw[M8 (A03 h n).1];refine bY (λg=>List.foldl g _ _) ?_;funext s a;unfold Eh;rw[Uc h k s a.2]
theorem A1W {f:List AE} (h:NdF f) (r:Int):Ja (Dv f) r=Ja f r:=by
 have a:Gj (Dv f) r=Gj f r:=by
  unfold Gj;rw[GT,Uc h]
 unfold Ja;rw[a];refine QE λn _=>?_;unfold M0;rw[Rh];simp only;rw[M8 (A03 h n).1]
theorem lV {f:List AE} (hf:AR f) (hn:NdF f) {root:Int} (h0:0<=root) (h1:root<f.length):Ja f root=AL (Dv f) root:=by
 rw[<-A1W hn];exact It (TH hf) (A55 hn) h0 (by rw[GT];exact h1)
theorem X7 {L:Go.Loop} (h1:L.state=.ready) (a:L.pending=none):{ { L with state:=.busy } with state:=.ready,pending:=none }=L:=by
 cases L;simp_all
theorem bI (l:List (Int×Int)):BK Tryz.prog 191 [.p DM l] [] [] (λres b=>res=.clo 216 [1]/\b=[(1,.box 91 false [.p DM l])]):=by
 refine LQ [0,1,2] [] [] Tryz.func191 Tryz.ntmps191 AH ?_;intro w0 K O0 ρ0 a c d;simp only[Aq];repeat'(first|exact trivial|apply eS rfl|refine rX a ?_ ?_)
 exact fM a [.tmp 2] (.clo 216 [1]) eT ⟨rfl,rfl⟩
def CW (l:List (Int×Int)) (L:Go.Loop) (a:Array Value) (i:Nat):List (Nat×Obj):=[(1,.box 91 false [.p DM l]),(101,.loop L),(102,.frame a [(2,.bp 2 [] 0),(6,.clo 216 [1])]),(2,.box 91 false [.sr 7 AW 0 i]),(7,.arr 106 AW (l.take i))]
theorem qP (l:List (Int×Int)) (g:l.length<=100000) (L:Go.Loop) (b:Array Value) (f:∀i,i<l.length->Z6 Tryz.prog 101 [.p AW (l.getD i (0,0))] (CW l L b i) [1,101,102,2] (λres e=>res=.p .bool true/\e=CW l L b (i+1))) :
  BK Tryz.prog 216 [.yl 101,.bp 1 [] 0] (CW l L b 0) [1,101,102,2] (λres e=>res=.raw (.tuple #[])/\e=CW l L b l.length):=by
 refine LQ [0,1,4,5,6,7,8,14] [] [] Tryz.func216 Tryz.ntmps216 AH ?_;intro w0 K O0 ρ0 a h j;simp only[Aq,CW];repeat'(first|exact trivial|apply eS rfl|refine rX a ?_ ?_)
 refine AI (ι:={i:Nat//i<=l.length}) (λi=>⟨[(0,.yl 101),(1,.bp 1 [] 0),(5,.p DM l),(6,.p (.int .i64) (l.length:Int)),(7,.p (.int .i64) (i.1:Int))],CW l L b i.1⟩) (λi=>l.length-i.1) ⟨0,by omega⟩ (AC [(1,.nm 1),(101,.nm 101),(102,.nm 102),(2,.nm 2),(7,.nm 7)] rfl rfl ?_ ?_) (λi=>?_)
 .simp only[CW];exact eN
 .exact eN
 obtain⟨i,hi⟩:=i;simp only[CW];repeat'(first|exact trivial|apply eS rfl|refine rX a ?_ ?_|refine rC ?_ ?_<;>intro c<;>try(cases c;done))
 .exact eV
 .have d:i<l.length:=by exact eV
  refine cP 2 a ?_ ?_
  .trivial
  refine rY 101 101 a (f i d) [(1,.nm 1),(101,.nm 101),(102,.nm 102),(2,.nm 2),(7,.nm 7)] [7] ?_ ?_ ?_
  .exact eN
  .simp only[CW];exact eN
  rintro _ _ ⟨rfl,rfl⟩;refine⟨[(1,.nm 1),(101,.nm 101),(102,.nm 102),(2,.nm 2),(7,.nm 7)],.p .bool true,CW l L b (i+1),rfl,rfl,?_,?_,rfl,rfl,?_⟩
  .simp only[CW];exact eN
  .exact eN
  simp only[CW];refine IX [0,1,5,6,7,14] a (by simp only[go_sem,Nat.reduceEqDiff,reduceCtorEq,Nat.reduceAdd,Nat.reduceSub,Nat.reduceMul,Nat.reduceLeDiff,Nat.reduceLT,Int.reduceLE,Int.reduceToNat,Int.reduceNeg,↓reduceIte];rfl) ?_ ?_
  .trivial
  repeat'(first|apply eS rfl|apply AB|refine rX a ?_ ?_|refine rC ?_ ?_<;>intro c<;>try(cases c;done))
  .exact eV
  refine⟨⟨i+1,by omega⟩,by simp only;omega,AC [(1,.nm 1),(101,.nm 101),(102,.nm 102),(2,.nm 2),(7,.nm 7)] rfl rfl ?_ ?_⟩
  .simp only[CW];exact eN
  exact eN
 have d:i=l.length:=by exact eV
 subst d;refine fM a [] (.raw (.tuple #[])) rfl ⟨rfl,?_⟩;simp only[CW,QD]
theorem fY (l:List (Int×Int)) (n:l.length<=100000):BK Tryz.prog 228 [.raw (.slice none 0 0),.clo 216 [1]] [(1,.box 91 false [.p DM l])] [] (λres q=>res=.sr 7 AW 0 l.length/\q=[(7,.arr 106 AW l)]):=by
 refine fKR [0,1,2,4,5,6,7] [] [] Tryz.func228 Tryz.ntmps228 AH ?_;intro w0 K O0 ρ0 a t u;simp only[Aq];repeat'(first|exact trivial|apply eS rfl|refine rX a ?_ ?_)
 refine jV a rfl rfl (by simp only[go_sem,Nat.reduceEqDiff,reduceCtorEq,Nat.reduceAdd,Nat.reduceSub,Nat.reduceMul,Nat.reduceLeDiff,Nat.reduceLT,Int.reduceLE,Int.reduceToNat,Int.reduceNeg,↓reduceIte];rfl) 101 103 102 rfl rfl rfl rfl ?_;intro L c d f g h j k o;refine⟨_,CW l L c 0,[1,101,102,2],_,[(1,.nm 1),(101,.nm 101),(102,.nm 102),(2,.nm 2),(7,.nil)],[],qP l n L c ?_,rfl,rfl,?_,?_,rfl,?_⟩
 .intro i hi;refine jT (fr:=102) rfl rfl d h j k g o rfl (by kernel_rfl) (by simp) rfl rfl (by kernel_rfl) (by kernel_rfl) (tyTab_ok [] [0,1,2,4,5,6,7]) AH ?_;intro y r s z x a v w m;simp only[CW,Hf];repeat'(first|exact trivial|apply AB|refine rX a ?_ ?_)
  refine⟨rfl,?_⟩;repeat'(first|apply eS rfl|refine rX a ?_ ?_)
  .simp only[AQ];omega
  have e:List.take i (List.take i l)++[((l.getD i (0,0)).1,(l.getD i (0,0)).2)]=l.take (i+1):=by
   rw[Au l (0,0) hi,As (Nat.le_of_eq (by rw[OS];omega):(l.take i).length<=i)]
  refine Ev.ent (σ':=⟨[],[(1,.box 91 false [.p DM l]),(101,.loop { L with state:=.busy }),(102,.frame c [(2,.bp 2 [] 0),(6,.clo 216 [1])]),(2,.box 91 false [.sr 7 AW 0 (i+1)]),(7,.arr 106 AW (l.take (i+1)))]⟩) ?_ (AC [(1,.nm 1),(101,.nm 101),(102,.nm 102),(2,.nm 2),(7,.nm 7)] rfl rfl ?_ ?_)
  .refine Sr a (yn:=101) rfl rfl (by simp) m ⟨rfl,?_⟩;simp only[CW,go_sem,Nat.reduceEqDiff,reduceCtorEq,Nat.reduceAdd,Nat.reduceSub,Nat.reduceMul,Nat.reduceLeDiff,Nat.reduceLT,Int.reduceLE,Int.reduceToNat,Int.reduceNeg,↓reduceIte,X7 d f]
  .refine eM ?_;exact e
  exact eN
 .simp only[BV];exact eN
 .simp only[BV,CW];exact eN
 rintro _ _ ⟨rfl,rfl⟩;refine⟨[(1,.nm 1),(101,.nm 101),(102,.nm 102),(2,.nm 2),(7,.nm 7)],CW l L c l.length,L,rfl,rfl,?_,rfl,rfl,rfl,by rw[d];rfl,?_⟩
 .simp only[CW];exact eN
 intro b;rw[f];simp only[EvJ,CW,BV,go_sem,Nat.reduceEqDiff,reduceCtorEq,Nat.reduceAdd,Nat.reduceSub,Nat.reduceMul,Nat.reduceLeDiff,Nat.reduceLT,Int.reduceLE,Int.reduceToNat,Int.reduceNeg,↓reduceIte];replace a:=Np (dn:=103) (b:=b) a;repeat'(first|exact trivial|apply eS rfl|refine rX a ?_ ?_)
 refine Ev.ent (σ':=⟨[(4,.sr 7 AW 0 l.length)],[(7,.arr 106 AW l),(103,.dfr)]⟩) ?_ (AC [(7,.nm 7),(103,.nm 103)] rfl rfl ?_ ?_)
 .exact Q7 a [.tmp 4] rfl (.inl rfl) rfl rfl (.sr 7 AW 0 l.length) eT ⟨rfl,by simp only[go_sem,Nat.reduceEqDiff,reduceCtorEq,Nat.reduceAdd,Nat.reduceSub,Nat.reduceMul,Nat.reduceLeDiff,Nat.reduceLT,Int.reduceLE,Int.reduceToNat,Int.reduceNeg,↓reduceIte]⟩
 .exact eN
 exact eN
theorem qQ (l:List (Int×Int)) (b:l.length<=100000):BK Tryz.prog 214 [.clo 216 [1]] [(1,.box 91 false [.p DM l])] [] (λres c=>res=.sr 7 AW 0 l.length/\c=[(7,.arr 106 AW l)]):=by
 refine LQ [0,2] [] [] Tryz.func214 Tryz.ntmps214 AH ?_;intro w0 K O0 ρ0 a d e;simp only[Aq];repeat'(first|exact trivial|apply eS rfl|refine rX a ?_ ?_)
 refine cP 1 a ?_ ?_
 .trivial
 refine rM a (fY l b) [(1,.nm 1)] [1] ?_ ?_ ?_
 .exact eN
 .exact eN
 rintro _ _ ⟨rfl,rfl⟩;refine⟨[(7,.nm 7)],.sr 7 AW 0 l.length,[(7,.arr 106 AW l)],rfl,rfl,?_,?_,rfl,rfl,?_⟩
 .exact eN
 .exact eN
 refine IX [2] a (by simp only[go_sem,Nat.reduceEqDiff,reduceCtorEq,Nat.reduceAdd,Nat.reduceSub,Nat.reduceMul,Nat.reduceLeDiff,Nat.reduceLT,Int.reduceLE,Int.reduceToNat,Int.reduceNeg,↓reduceIte];rfl) ?_ ?_
 .trivial
 repeat' apply eS rfl
 exact fM a [.tmp 2] (.sr 7 AW 0 l.length) eT ⟨rfl,rfl⟩
theorem lW (l:List (Int×Int)) (h:l.length<=200) (hs:NdA l):BK Tryz.prog 215 [.sr 1000000 AW 0 l.length,.fn 192] [(1000000,.arr 106 AW l)] [1000000] (λres f=>res=.raw (.tuple #[])/\f=[(1000000,.arr 106 AW (Af l))]):=by
 have d:=AAZ hs;refine LQ [0,1,4] [] [] Tryz.func215 Tryz.ntmps215 AH ?_;intro w0 K O0 ρ0 a i j;simp only[Aq];repeat'(first|exact trivial|apply eS rfl|refine rX a ?_ ?_)
 refine cP 4 a ?_ ?_
 .exact eV
 refine rM a (A01 (l.length:Int) (by omega) (by omega)) [] [] ?_ ?_ ?_
 .exact eN
 .exact eN
 rintro _ _ ⟨⟨n,rfl,g,-⟩,rfl⟩;refine⟨[],.p T3 (n:Int),[],rfl,rfl,?_,?_,rfl,rfl,?_⟩
 .exact eN
 .exact eN
 have key:=A93 l (by omega) d 0 l.length n (IS _) (Is _) (by omega) (.inl rfl);unfold lU at key;rw[show ((0:Nat):Int)=0 from rfl]at key;refine Q0 a 1 (by simp only[go_sem,Nat.reduceEqDiff,reduceCtorEq,Nat.reduceAdd,Nat.reduceSub,Nat.reduceMul,Nat.reduceLeDiff,Nat.reduceLT,Int.reduceLE,Int.reduceToNat,Int.reduceNeg,↓reduceIte];rfl) ?_ ?_
 .trivial
 refine rM a (key) [(1000000,.nm 1000000)] [] ?_ ?_ ?_
 .exact eN
 .exact eN
 rintro _ _ ⟨rfl,r,rfl,hp,e⟩;have c:=qO hs hp.perm e;subst c;have k:=Cs l;refine⟨[(1000000,.nm 1000000)],.raw (.tuple #[]),[(1000000,.arr 106 AW (Af l))],rfl,rfl,?_,?_,rfl,rfl,CV ?_⟩
 .exact eN
 .exact eN
 repeat'(first|exact trivial|apply eS rfl|apply AB|refine rX a ?_ ?_|refine rC ?_ ?_<;>intro b<;>try(cases b;done))
 exact fM a [] (.raw (.tuple #[])) rfl ⟨rfl,rfl⟩
theorem Oj (l:List (Int×Int)) (b:l.length<=200) (hs:NdA l):BK Tryz.prog 190 [.clo 216 [1],.fn 192] [(1,.box 91 false [.p DM l])] [] (λres c=>res=.sr 7 AW 0 l.length/\c=[(7,.arr 106 AW (Af l))]):=by
 have f:=Cs l;refine LQ [0,1,4,5] [] [] Tryz.func190 Tryz.ntmps190 AH ?_;intro w0 K O0 ρ0 a d e;simp only[Aq];repeat'(first|exact trivial|apply eS rfl|refine rX a ?_ ?_)
 refine cP 1 a ?_ ?_
 .trivial
 refine rM a (qQ l (by omega)) [(1,.nm 1)] [1] ?_ ?_ ?_
 .exact eN
 .exact eN
 rintro _ _ ⟨rfl,rfl⟩;refine⟨[(1000000,.nm 7)],.sr 1000000 AW 0 l.length,[(1000000,.arr 106 AW l)],rfl,rfl,?_,?_,rfl,rfl,?_⟩
 .exact eN
 .exact eN
 refine IX [1,5] a (by simp only[go_sem,Nat.reduceEqDiff,reduceCtorEq,Nat.reduceAdd,Nat.reduceSub,Nat.reduceMul,Nat.reduceLeDiff,Nat.reduceLT,Int.reduceLE,Int.reduceToNat,Int.reduceNeg,↓reduceIte];rfl) ?_ ?_
 .trivial
 repeat' apply eS rfl
 refine cP 2 a ?_ ?_
 .trivial
 refine rM a (lW l b hs) [(1000000,.nm 1000000)] [] ?_ ?_ ?_
 .exact eN
 .exact eN
 rintro _ _ ⟨rfl,rfl⟩;refine⟨[(1000000,.nm 1000000)],.raw (.tuple #[]),[(1000000,.arr 106 AW (Af l))],rfl,rfl,?_,?_,rfl,rfl,CV ?_⟩
 .exact eN
 .exact eN
 repeat'(first|exact trivial|apply eS rfl|refine rX a ?_ ?_)
 refine Ev.ent (σ':=⟨[(4,.sr 7 AW 0 l.length)],[(7,.arr 106 AW (Af l))]⟩) ?_ (AC [(7,.nm 1000000)] rfl rfl ?_ ?_)
 .exact fM a [.tmp 4] (.sr 7 AW 0 l.length) eT ⟨rfl,rfl⟩
 .exact eN
 exact eN
def L5 (f:List AE) (o:List Int):List (Nat×Obj):=[(1,.box 61 false [.sr 5 T3 0 o.length]),(2,.box 177 false [.mp 6]),(3,.box 25 true [.p Ex f]),(4,.box 178 false [.clo 189 [1,2,3,4]]),(5,.arr 3 T3 o),(6,.mapo T3 T3 (mOf o))]
theorem AEH {f:List AE} {o:List Int} (h:Kp f o):Kp (Dv f) o:=⟨h.nd,λx a=>by rw[GT];exact h.rng x a⟩
theorem AA8 {f:List AE} {o:List Int} (h:Kp (Dv f) o):Kp f o:=⟨h.nd,λx a=>by have:=h.rng x a;rwa [GT]at this⟩
theorem A1X (f:List AE) (hf:AR f) (hs:NdF f):∀(k:Nat) (o:List Int) (n:Int),Kp f o->0<=n->n<f.length->n∉o->f.length-o.length<=k ->
  BK Tryz.prog 189 [.p T3 n,.bp 1 [] 0,.bp 2 [] 0,.bp 3 [] 0,.bp 4 [] 0] (L5 f o) [1,2,3,4,6] (λres Q=>res=.raw (.tuple #[])/\Q=L5 f (Co (Dv f) k o n)):=by
 intro k;induction k with
 | zero =>
  intro o n h0 h1 A B R;have:=(h0.snoc h1 A B).len;simp only[IF,Pz]at this;omega
 | succ k P =>
  intro o n D u v w hk;have t:=D.snoc u v w;have I:=t.len;simp only[IF,Pz]at I;have S:=hf.1;refine LQ [0,1,2,3,4,7,9,25,26,27,28,39] [] [] Tryz.func189 Tryz.ntmps189 AH ?_;intro w0 K O0 ρ0 b T U;simp only[L5,Aq];repeat'(first|exact trivial|apply eS rfl|refine rX b ?_ ?_)
  .simp only[AQ];omega
  rw[A4Y w];obtain⟨O,G⟩:=A03 hs n;have s:=λa (ha:a∈Af (f.getD n.toNat (0,[])).2)=>Ah hf ((FC _).mem_iff.1 ha);have F:Co (Dv f) (k+1) o n=(Af (f.getD n.toNat (0,[])).2).foldl (Ac (Dv f) k) (o++[n]):=by rw[CN,Rh]
  have E:=AEH (f:=f) t;refine cP 6 b ?_ ?_
  .exact⟨u,v⟩
  generalize (f.getD n.toNat (0,[])).2=g at *;refine rM b (bI g) [] [] ?_ ?_ ?_
  .exact eN
  .exact eN
  rintro _ _ ⟨rfl,rfl⟩;refine⟨[(50,.nm 1)],.clo 216 [50],[(50,.box 91 false [.p DM g])],rfl,rfl,?_,?_,rfl,rfl,?_⟩
  .exact eN
  .exact eN
  refine rM b (Oj g G O) [(1,.nm 50)] [50] ?_ ?_ ?_
  .exact eN
  .exact eN
  rintro _ _ ⟨rfl,rfl⟩;have C:=Cs g;rw[<-C];generalize Af g=L at *;refine⟨[(51,.nm 7)],.sr 51 AW 0 L.length,[(51,.arr 106 AW L)],rfl,rfl,?_,?_,rfl,rfl,?_⟩
  .exact eN
  .exact eN
  refine IX [0,1,2,3,4,25,26,27] b (by simp only[go_sem,Nat.reduceEqDiff,reduceCtorEq,Nat.reduceAdd,Nat.reduceSub,Nat.reduceMul,Nat.reduceLeDiff,Nat.reduceLT,Int.reduceLE,Int.reduceToNat,Int.reduceNeg,↓reduceIte];rfl) ?_ ?_
  .trivial
  have N:∀i,Kp (Dv f) ((L.take i).foldl (Ac (Dv f) k) (o++[n]))/\o++[n] <+: (L.take i).foldl (Ac (Dv f) k) (o++[n]):=λi=>E2 (EL (TH hf) k) _ _ (λa ha=>by rw[GT];exact s a (VM ha)) E;generalize J:o++[n]=q at *;have M:q.length=o.length+1:=by rw[<-J];simp
  rw[<-M];repeat' apply eS rfl
  refine AI (ι:={i:Nat//i<=L.length}) (λi=>⟨[(0,.p T3 n),(1,.bp 1 [] 0),(2,.bp 2 [] 0),(3,.bp 3 [] 0),(4,.bp 4 [] 0),(25,.p DM L),(26,.p (.int .i64) (L.length:Int)),(27,.p (.int .i64) (i.1:Int))],L5 f ((L.take i.1).foldl (Ac (Dv f) k) q)⟩) (λi=>L.length-i.1) ⟨0,by omega⟩ (ACd [51] (AC [(1,.nm 1),(2,.nm 2),(3,.nm 3),(4,.nm 4),(5,.nm 5),(6,.nm 6)] rfl rfl ?_ ?_)) (λi=>?_)
  .simp only[L5,ZH,List.foldl_nil];exact eN
  .exact eN
  obtain⟨i,hi⟩:=i;obtain⟨j,y⟩:=N i;replace j:=AA8 j;have r:=λ(h:i<L.length)=>Nv (Ac (Dv f) k) L (0,0) q h;have H:=y.length_le;generalize x:(L.take i).foldl (Ac (Dv f) k) q=c at j y r H;simp only[L5];repeat'(first|exact trivial|apply eS rfl|apply AB|refine rX b ?_ ?_|refine rC ?_ ?_<;>intro d<;>try(cases d;done))
  .exact eV
  .have l:i<L.length:=by exact eV
   have z:=s _ (AD L (0,0) l);have m:(L.getD i (0,0)).2∉c:=by rw[X4]at d;simpa using d
   refine cP 3 b ?_ ?_
   .trivial
   refine rM b (P c (L.getD i (0,0)).2 j z.1 z.2 m (by omega)) [(1,.nm 1),(2,.nm 2),(3,.nm 3),(4,.nm 4),(5,.nm 5),(6,.nm 6)] [5] ?_ ?_ ?_
   .exact eN
   .simp only[L5];exact eN
   rintro _ _ ⟨rfl,rfl⟩;refine⟨[(1,.nm 1),(2,.nm 2),(3,.nm 3),(4,.nm 4),(5,.nm 5),(6,.nm 6)],.raw (.tuple #[]),L5 f (Co (Dv f) k c (L.getD i (0,0)).2),rfl,rfl,?_,?_,rfl,rfl,CV ?_⟩
   .simp only[L5];exact eN
   .exact eN
   simp only[L5];repeat'(first|apply eS rfl|apply AB|refine rX b ?_ ?_)
   .exact eV
   have e:Ac (Dv f) k c (L.getD i (0,0))=Co (Dv f) k c (L.getD i (0,0)).2:=An m;refine⟨⟨i+1,by omega⟩,by simp only;omega,AC [(1,.nm 1),(2,.nm 2),(3,.nm 3),(4,.nm 4),(5,.nm 5),(6,.nm 6)] rfl rfl ?_ ?_⟩
   .simp only[r l,e];exact eN
   exact eN
  .exact eV
  .have l:i<L.length:=by exact eV
   have m:(L.getD i (0,0)).2∈c:=by rw[X4]at d;simpa using d
   have e:Ac (Dv f) k c (L.getD i (0,0))=c:=BY m;refine⟨⟨i+1,by omega⟩,by simp only;omega,AC [(1,.nm 1),(2,.nm 2),(3,.nm 3),(4,.nm 4),(5,.nm 5),(6,.nm 6)] rfl rfl ?_ ?_⟩
   .simp only[r l,e];exact eN
   exact eN
  have hk:L.take i=L:=As (by exact eV);rw[hk]at x;rw[F,x];exact fM b [] (.raw (.tuple #[])) rfl ⟨rfl,rfl⟩
section
def Dl:AZ:={ ins:=[DZ,T3],pre:=λ(f,n,_)=>AR f/\I8 f/\0<=n/\n<(List.length f:Int),out:=λ(f,n,_)=>[.p DZ (AL f n)] }
attribute [local go_sem] Dl
theorem A1Y {α a:Type} (g:α->a) (o:List α) (d:α) (z:a) {i:Nat} (h:i<o.length):((o.take i).map g++List.replicate (o.length-i) z).set i (g (o.getD i d))=(o.take (i+1)).map g++List.replicate (o.length-(i+1)) z:=by
 obtain⟨m,c⟩:∃m,o.length-i=m+1:=⟨o.length-i-1,by omega⟩;have e:o.length-(i+1)=m:=by omega
 have b:((o.take i).map g).length=i:=by rw[Py,OS];omega
 rw[c,e,AEv _ _ (by omega),b,tO,AFA,AFE,Au o d h,VO];simp
def Ri:AZ:={ ins:=[DZ,T3],pre:=λ(f,n,_)=>AR f/\NdF f/\0<=n/\n<(List.length f:Int),out:=λ(f,n,_)=>[.p DZ (AL (Dv f) n)] }
attribute [local go_sem] Ri
theorem TJ:Ab Tryz.prog 149 Ri:=by
 refine fK [0,1,2,4,5,6,7,8,9,10,11,12,22,23,24,25,38,39,40] Tryz.func149 Tryz.ntmps149 AH ?_;rintro w0 O0 ⟨f,root,u⟩ a-⟨hf,hs,r,s⟩;simp only[Ri,AM];have z:=hf.1;have j:Kp f []:=⟨by simp,λx C=>by cases C⟩;obtain⟨g,H⟩:=EL (TH hf) f.length [] root (AEH j) r (by rw[GT];exact s) (by simp);replace g:=AA8 g;have w:AL (Dv f) root=(Co (Dv f) f.length [] root).map (DD (Dv f) (Co (Dv f) f.length [] root)):=by unfold AL;rw[GT]
 rw[w];repeat'(first|exact trivial|apply eS rfl|apply AB|refine rX a ?_ ?_|refine rC ?_ ?_<;>intro c<;>try(cases c;done))
 refine cP 2 a ?_ ?_
 .trivial
 refine rM a (A1X f hf hs (List.length f) [] root j r s (by simp) (by simp)) [(1,.nm 6),(2,.nm 5),(3,.nm 2),(4,.nm 7),(5,.nil),(6,.nm 13)] [] ?_ ?_ ?_
 .exact eN
 .simp only[L5];refine eM ?_;rfl
 rintro _ _ ⟨rfl,rfl⟩;refine⟨[(6,.nm 1),(5,.nm 2),(2,.nm 3),(7,.nm 4),(101,.nm 5),(13,.nm 6)],.raw (.tuple #[]),[(6,.box 61 false [.sr 101 T3 0 (Co (Dv f) (List.length f) [] root).length]),(5,.box 177 false [.mp 13]),(2,.box 25 true [.p Ex f]),(7,.box 178 false [.clo 189 [6,5,2,7]]),(101,.arr 3 T3 (Co (Dv f) (List.length f) [] root)),(13,.mapo T3 T3 (mOf (Co (Dv f) (List.length f) [] root)))],rfl,rfl,?_,?_,rfl,rfl,CV ?_⟩
 .simp only[L5];exact eN
 .exact eN
 generalize Co (Dv f) (List.length f) [] root=o at *;have G:=g.len;repeat'(first|exact trivial|apply eS rfl|apply AB|refine rX a ?_ ?_|refine rC ?_ ?_<;>intro c<;>try(cases c;done))
 .simp only[AQ];omega
 refine AI (ι:={i:Nat//i<=o.length}) (λi=>⟨[(2,.bp 2 [] 0),(4,.bp 4 [] 0),(5,.bp 5 [] 0),(8,.bp 8 [] 0),(22,.sr 101 T3 0 o.length),(23,.p (.int .i64) (o.length:Int)),(24,.p (.int .i64) (i.1:Int))],[(8,.box 25 true [.sr 20 Mn 0 o.length]),(20,.arr 93 Mn ((o.take i.1).map (DD (Dv f) o)++List.replicate (o.length-i.1) (0,[]))),(5,.box 177 false [.mp 13]),(2,.box 25 true [.p Ex f]),(101,.arr 3 T3 o),(13,.mapo T3 T3 (mOf o)),(4,.box 25 true [.raw (.slice none 0 0)])]⟩) (λi=>o.length-i.1) ⟨0,by omega⟩ (eW [(8,.nm 8),(20,.nm 20),(5,.nm 5),(2,.nm 2),(101,.nm 101),(13,.nm 13),(4,.nm 4)]) (λi=>?_)
 obtain⟨i,hi⟩:=i;repeat'(first|exact trivial|apply eS rfl|apply AB|refine rX a ?_ ?_|refine rC ?_ ?_<;>intro c<;>try(cases c;done))
 .exact eV
 .have l:i<o.length:=by exact eV
  have hn:=g.rng _ (AD o 0 l);have q:DD (Dv f) o (o.getD i 0)=((f.getD (o.getD i 0).toNat (0,[])).1,(Af (f.getD (o.getD i 0).toNat (0,[])).2).map (I0 o)):=by unfold DD;rw[Rh]
  obtain⟨t,m⟩:=A03 hs (o.getD i 0);refine cP 6 a ?_ ?_
  .exact hn
  have F:List.length f<=100000:=z;generalize B:o.getD i 0=n at *;generalize A:f.getD n.toNat (0,[])=x at *;obtain⟨I,d⟩:=x;simp only at t m q;refine rM a (bI d) [] [] ?_ ?_ ?_
  .exact eN
  .exact eN
  rintro _ _ ⟨rfl,rfl⟩;refine⟨[(50,.nm 1)],.clo 216 [50],[(50,.box 91 false [.p DM d])],rfl,rfl,?_,?_,rfl,rfl,?_⟩
  .exact eN
  .exact eN
  refine rM a (Oj d m t) [(1,.nm 50)] [50] ?_ ?_ ?_
  .exact eN
  .exact eN
  rintro _ _ ⟨rfl,rfl⟩;have v:=Cs d;rw[<-v];generalize E:Af d=L at *;refine⟨[(51,.nm 7)],.sr 51 AW 0 L.length,[(51,.arr 106 AW L)],rfl,rfl,?_,?_,rfl,rfl,?_⟩
  .exact eN
  .exact eN
  refine IX [2,4,5,8,9,10,11,22,23,24] a (by simp only[go_sem,Nat.reduceEqDiff,reduceCtorEq,Nat.reduceAdd,Nat.reduceSub,Nat.reduceMul,Nat.reduceLeDiff,Nat.reduceLT,Int.reduceLE,Int.reduceToNat,Int.reduceNeg,↓reduceIte];rfl) ?_ ?_
  .trivial
  repeat'(first|exact trivial|apply eS rfl|apply AB|refine rX a ?_ ?_|refine rC ?_ ?_<;>intro c<;>try(cases c;done))
  refine AI (ι:={k:Nat//k<=L.length}) (λk=>⟨[(2,.bp 2 [] 0),(4,.bp 4 [] 0),(5,.bp 5 [] 0),(8,.bp 8 [] 0),(9,.p (.int .i64) (i:Int)),(10,.p T3 n),(11,.sr 51 AW 0 L.length),(22,.sr 101 T3 0 o.length),(23,.p (.int .i64) (o.length:Int)),(24,.p (.int .i64) (i:Int)),(38,.p (.int .i64) (L.length:Int)),(39,.p (.int .i64) (k.1:Int))],[(51,.arr 106 AW ((L.take k.1).map (I0 o)++L.drop k.1)),(8,.box 25 true [.sr 20 Mn 0 o.length]),(20,.arr 93 Mn ((o.take i).map (DD (Dv f) o)++List.replicate (o.length-i) (0,[]))),(5,.box 177 false [.mp 13]),(2,.box 25 true [.p Ex f]),(101,.arr 3 T3 o),(13,.mapo T3 T3 (mOf o)),(4,.box 25 true [.raw (.slice none 0 0)])]⟩) (λk=>L.length-k.1) ⟨0,by omega⟩ (eW [(51,.nm 51),(8,.nm 8),(20,.nm 20),(5,.nm 5),(2,.nm 2),(101,.nm 101),(13,.nm 13),(4,.nm 4)]) (λk=>?_)
  obtain⟨k,hk⟩:=k;repeat'(first|exact trivial|apply eS rfl|apply AB|refine rX a ?_ ?_|refine rC ?_ ?_<;>intro c<;>try(cases c;done))
  .exact eV
  .exact eV
  .have h:k<L.length:=by exact eV
   have e:=Xm (I0 o) (λb=>b) L (0,0) h (I0 o);refine⟨⟨k+1,by omega⟩,by simp only;omega,AC [(51,.nm 51),(8,.nm 8),(20,.nm 20),(5,.nm 5),(2,.nm 2),(101,.nm 101),(13,.nm 13),(4,.nm 4)] rfl rfl ?_ ?_⟩
   .refine eM ?_;rw[e.2];rw[<-e.1];unfold I0;rw[<-A8T]
   exact eN
  .exact⟨hn,by exact eV⟩
  .exact eV
  have h:L.take k=L:=As (by exact eV);have y:L.drop k=[]:=B0 (by exact eV);refine⟨⟨i+1,by omega⟩,by simp only;omega,AC [(8,.nm 8),(20,.nm 20),(5,.nm 5),(2,.nm 2),(101,.nm 101),(13,.nm 13),(4,.nm 4)] rfl rfl ?_ ?_⟩
  .refine eM ?_;rw[h,y,QQ];have e:=A1Y (DD (Dv f) o) o 0 (0,[]) l;rw[B,q]at e;rw[<-e,A,As (by simp:(L.map (I0 o)).length<=L.length)]
  exact eN
 have hk:o.take i=o:=As (by exact eV);have D:o.length-i=0:=by exact eV
 rw[hk,D];exact fI a [.cell 4 25] (by simp only[List.replicate_zero,QQ];first|exact eR|refine UO ?_;exact As (by rw[Py];exact eV))
theorem fZ:Ab Tryz.prog 149 Dl:=by
 refine⟨TJ.1,λw O h ds d g hp=>?_⟩;obtain⟨f,n,u⟩:=ds;obtain⟨h1,a,b,c⟩:=hp;have key:=TJ.2 w O h (f,n,u) d g ⟨h1,AB0 a,b,c⟩;have e:Ri.out (f,n,u)=Dl.out (f,n,u):=by
  show [RV.p DZ (AL (Dv f) n)]=[RV.p DZ (AL f n)];rw[A1V a]
 rw[e]at key;exact key
theorem A56:Ab Tryz.prog 128 Dl:=by
 refine fK [0,1,2,4] Tryz.func128 Tryz.ntmps128 (AF fZ AH) ?_;rintro w0 O0 ⟨f,root,u⟩ a-hp;simp only[Dl,AM];repeat'(first|exact trivial|apply eS rfl|apply AB|refine rX a ?_ ?_|refine rC ?_ ?_<;>intro b<;>try(cases b;done))
 .exact hp
 exact fI a [.cell 4 25]
end
section
attribute [local go_sem] HY k9
theorem lX {a b:Int}:GC a b=0↔a=b:=by
 unfold GC;split
 .constructor<;>intro h<;>omega
 split
 .constructor<;>intro h<;>omega
 exact⟨λ_=>by omega,λ_=>rfl⟩
def Za:List Int->Int
 | []=>0
 | x :: l=>if x=0 then Za l else x
theorem lY {l:List Int} {k:Nat} (h:k<l.length):Za (l.drop k)=if l.getD k 0=0 then Za (l.drop (k+1)) else l.getD k 0:=by
 rw[OR h];have e:l.getD k 0=l[k]:=by simp[AS,h]
 rw[e];rfl
def qR:AZ:={ ins:=[F2],pre:=λ_=>True,out:=λ(l,_)=>[.p T3 (Za l)],lend:=true }
attribute [local go_sem] qR
theorem lZ:Ab Tryz.prog 225 qR:=by
 refine fK [0,2,3,5,6,7,8,9,14] Tryz.func225 Tryz.ntmps225 AH ?_;rintro w0 O0 ⟨l,u⟩ c ⟨⟨f,-⟩,-⟩ -;simp only[AQ]at f;simp only[qR,AM];repeat'(first|exact trivial|apply eS rfl|apply AB|refine rX c ?_ ?_|refine rC ?_ ?_<;>intro b<;>try(cases b;done))
 refine AI (ι:={k:Nat//k<=List.length l/\Za l=Za ((l:List Int).drop k)}) (λk=>⟨[(3,.p T3 0),(6,.p F2 l),(7,.p (.int .i64) (List.length l:Int)),(8,.p (.int .i64) (k.1:Int))],[]⟩) (λk=>List.length l-k.1) ⟨0,IS _,rfl⟩ (AC [] rfl rfl ?_ ?_) (λk=>?_)
 .first|exact eN|refine eM ?_
 .first|exact eN|refine eM ?_
 obtain⟨k,hk,a⟩:=k;repeat'(first|exact trivial|apply eS rfl|apply AB|refine rX c ?_ ?_|refine rC ?_ ?_<;>intro b<;>try(cases b;done))
 .exact b
 .have d:k<List.length l:=by exact eV
  rw[lY d,An b]at a;exact fI c [.tmp 2] (by rw[a];exact eR)
 .exact eV
 .have d:k<List.length l:=by exact eV
  rw[lY d,BY (by simpa using b)]at a;refine⟨⟨k+1,d,a⟩,by simp only;omega,AC [] rfl rfl ?_ ?_⟩
  .first|exact eN|refine eM ?_
  first|exact eN|refine eM ?_
 have e:List.drop k (l:List Int)=[]:=B0 (by exact eV);rw[e]at a;have a:Za l=0:=a;exact fI c [.tmp 2] (by rw[a];exact eR)
def Hh {α:Type} (c:α->α->Int):List α->List α->Int
 | [],[]=>0
 | [],_ :: _=>-1
 | _ :: _,[]=>1
 | x :: p,y :: q=>if c x y=0 then Hh c p q else c x y
theorem Ka {α:Type} {c:α->α->Int} (d:∀a b,c a b=0↔a=b):∀ {p q:List α},Hh c p q=0↔p=q
 | [],[]=>⟨λ_=>rfl,λ_=>rfl⟩
 | [],_ :: _=>⟨λh=>by simp[Hh]at h,λh=>by cases h⟩
 | _ :: _,[]=>⟨λh=>by simp[Hh]at h,λh=>by cases h⟩
 | x :: p,y :: q=>by
  unfold Hh;split
  .rename_i h;rw[Ka d,(d x y).1 h];exact⟨λe=>by rw[e],λe=>(List.cons.inj e).2⟩
  rename_i h;exact⟨λe=>absurd e h,λe=>absurd ((d x y).2 (List.cons.inj e).1) h⟩
theorem M9 {α:Type} (d:α) {l:List α} {k:Nat} (h:k<l.length):l.drop k=l.getD k d :: l.drop (k+1):=by
 rw[OR h];have e:l.getD k d=l[k]:=by simp[AS,h]
 rw[e]
theorem Ny {α:Type} {c:α->α->Int} (d:α) {p q:List α} {k:Nat} (h1:k<p.length) (a:k<q.length):Hh c (p.drop k) (q.drop k)=if c (p.getD k d) (q.getD k d)=0 then Hh c (p.drop (k+1)) (q.drop (k+1)) else c (p.getD k d) (q.getD k d):=by
 rw[M9 d h1,M9 d a];rfl
def Ft (a b:Int×Int):Int:=Za [GC a.1 b.1,GC a.2 b.2]
theorem Ud (a b:Int×Int):Ft a b=0↔a=b:=by
 unfold Ft Za Za Za;constructor
 .intro h;by_cases h1:GC a.1 b.1=0
  .rw[BY h1]at h;by_cases c:GC a.2 b.2=0
   .exact AGw (lX.1 h1) (lX.1 c)
   rw[An c]at h;exact absurd h c
  rw[An h1]at h;exact absurd h h1
 rintro rfl;rw[BY (lX.2 rfl),BY (lX.2 rfl)]
def f2:AZ:={ ins:=[AW,AW],pre:=λ_=>True,out:=λ(a,b,_)=>[.p T3 (Ft a b)] }
attribute [local go_sem] f2
theorem A1Z:Ab Tryz.prog 227 f2:=by
 refine fKP [0,1,2,3,4] [15] [] Tryz.func227 Tryz.ntmps227 (AF HB (AF lZ AH)) ?_;rintro w0 O0 ⟨a,b,u⟩ c - -;simp only[f2,AM];repeat'(first|exact trivial|apply eS rfl|apply AB|refine rX c ?_ ?_|refine rC ?_ ?_<;>intro d<;>try(cases d;done))
 exact fI c [.tmp 4] (by unfold Ft;exact eR)
theorem A20 (p q:List (Int×Int)) (hp:p.length<=100000):BK Tryz.prog 226 [.p DM p,.p DM q,.fn 227] [] [] (λres i=>res=.p T3 (Hh Ft p q)/\i=[]):=by
 refine LQ [0,1,2,6,7,8,9,10,11,12,13,14,21,31,38] [] [] Tryz.func226 Tryz.ntmps226 (AF A1Z AH) ?_;intro w0 K O0 ρ0 c m n;simp only[Aq];repeat'(first|exact trivial|apply eS rfl|apply AB|refine rX c ?_ ?_|refine rC ?_ ?_<;>intro a<;>try(cases a;done))
 refine AI (ι:={k:Nat//k<=p.length/\k<=q.length/\Hh Ft p q=Hh Ft (p.drop k) (q.drop k)}) (λk=>⟨[(0,.p DM p),(1,.p DM q),(2,.fn 227),(11,.p DM p),(12,.p (.int .i64) (p.length:Int)),(13,.p (.int .i64) (k.1:Int))],[]⟩) (λk=>p.length-k.1) ⟨0,IS _,IS _,rfl⟩ (AC [] rfl rfl ?_ ?_) (λk=>?_)
 .first|exact eN|refine eM ?_
 .first|exact eN|refine eM ?_
 obtain⟨k,j,l,b⟩:=k;simp only;repeat'(first|exact trivial|apply eS rfl|apply AB|refine rX c ?_ ?_|refine rC ?_ ?_<;>intro a<;>try(cases a;done))
 .exact a
 .have d:k<p.length:=by exact eV
  have g:q.drop k=[]:=B0 (by exact eV);have h1:Hh Ft p q=1:=by
   rw[b,g,M9 (0,0) d];rfl
  refine Ev.ent (σ':=⟨[(6,.p T3 1)],[]⟩) (fM c [.tmp 6] (.p T3 1) eT ⟨by rw[h1],rfl⟩) (AC [] rfl rfl ?_ ?_)
  .first|exact eN|refine eM ?_
  first|exact eN|refine eM ?_
 .exact a
 .have d:k<p.length:=by exact eV
  have e:k<q.length:=by exact eV
  rw[Ny (0,0) d e,An a]at b;refine Ev.ent (σ':=⟨[(6,.p T3 (Ft (p.getD k (0,0)) (q.getD k (0,0))))],[]⟩) (fM c [.tmp 6] (.p T3 (Ft (p.getD k (0,0)) (q.getD k (0,0)))) eT ⟨by rw[b],rfl⟩) (AC [] rfl rfl ?_ ?_)
  .first|exact eN|refine eM ?_
  first|exact eN|refine eM ?_
 .exact eV
 .have d:k<p.length:=by exact eV
  have e:k<q.length:=by exact eV
  rw[Ny (0,0) d e,BY (by simpa using a)]at b;refine⟨⟨k+1,d,e,b⟩,by simp only;omega,AC [] rfl rfl ?_ ?_⟩
  .first|exact eN|refine eM ?_
  first|exact eN|refine eM ?_
 .have f:p.drop k=[]:=B0 (by exact eV);have h1:Hh Ft p q=-1:=by
   rw[b,f,M9 (0,0) (show k<q.length by exact eV)];rfl
  exact fM c [.tmp 6] (.p T3 (-1)) eT ⟨by rw[h1],rfl⟩
 have f:p.drop k=[]:=B0 (by exact eV);have h:q.drop k=[]:=B0 (by exact eV);have h1:Hh Ft p q=0:=by
  rw[b,f,h];rfl
 exact fM c [.tmp 6] (.p T3 0) eT ⟨by rw[h1],rfl⟩
def Dr (a b:AE):Int:=if Za [GC a.1 b.1,GC (a.2.length:Int) (b.2.length:Int)]=0 then Hh Ft a.2 b.2 else Za [GC a.1 b.1,GC (a.2.length:Int) (b.2.length:Int)]
theorem Rj (a b:AE):Dr a b=0↔a=b:=by
 unfold Dr;constructor
 .intro h;split at h
  .rename_i h1;unfold Za Za Za at h1;by_cases c:GC a.1 b.1=0
   .exact AGw (lX.1 c) ((Ka Ud).1 h)
   rw[An c]at h1;exact absurd h1 c
  rename_i h1;exact absurd h h1
 rintro rfl;have h1:Za [GC a.1 a.1,GC (a.2.length:Int) (a.2.length:Int)]=0:=by
  unfold Za Za Za;rw[BY (lX.2 rfl),BY (lX.2 rfl)]
 rw[BY h1];exact(Ka Ud).2 rfl
def Rk:AZ:={ ins:=[Mn,Mn],pre:=λ(a,_,_)=>List.length (Prod.snd (a:AE))<=100000,out:=λ(a,b,_)=>[.p T3 (Dr a b)] }
attribute [local go_sem] Rk
theorem qS:Ab Tryz.prog 210 Rk:=by
 refine fKP [0,1,2,3,4,5,21] [18] [] Tryz.func210 Tryz.ntmps210 (AF HB (AF lZ AH)) ?_;rintro w0 O0 ⟨⟨ta,la⟩,⟨tb,b⟩,u⟩ a-ha;have ha:List.length la<=100000:=ha;simp only[Rk,AM];repeat'(first|exact trivial|apply eS rfl|apply AB|refine rX a ?_ ?_|refine rC ?_ ?_<;>intro c<;>try(cases c;done))
 .have h1:Dr (ta,la) (tb,b)=Za [GC ta tb,GC (List.length la:Int) (List.length b:Int)]:=An c;exact fI a [.tmp 4] (by rw[h1];exact eR)
 have h1:Dr (ta,la) (tb,b)=Hh Ft la b:=BY (by simpa using c);refine cP 4 a ?_ ?_
 .trivial
 refine rM a (A20 la b ha) [] [] ?_ ?_ ?_
 .first|exact eN|refine eM ?_
 .first|exact eN|refine eM ?_
 rintro _ _ ⟨rfl,rfl⟩;refine⟨[],.p T3 (Hh Ft la b),[],rfl,rfl,?_,?_,rfl,rfl,?_⟩
 .first|exact eN|refine eM ?_
 .first|exact eN|refine eM ?_
 refine rL a ?_ ?_
 .trivial
 repeat'(first|exact trivial|apply eS rfl|apply AB|refine rX a ?_ ?_|refine rC ?_ ?_<;>intro c<;>try(cases c;done))
 exact fI a [.tmp 4] (by rw[h1];exact eR)
end
section
attribute [local go_sem] HY k9 Rk Ri
theorem qT (p q:List (AE)) (hp:p.length<=100000) (g:∀x∈p,x.2.length<=100000):BK Tryz.prog 209 [.p Ex p,.p Ex q,.fn 210] [] [] (λres j=>res=.p T3 (Hh Dr p q)/\j=[]):=by
 refine LQ [0,1,2,6,7,8,9,10,11,12,13,14,21,31,38] [] [] Tryz.func209 Tryz.ntmps209 (AF qS AH) ?_;intro w0 K O0 ρ0 b n o;simp only[Aq];repeat'(first|exact trivial|apply eS rfl|refine rX b ?_ ?_)
 refine AI (ι:={k:Nat//k<=p.length/\k<=q.length/\Hh Dr p q=Hh Dr (p.drop k) (q.drop k)}) (λk=>⟨[(0,.p Ex p),(1,.p Ex q),(2,.fn 210),(11,.p Ex p),(12,.p (.int .i64) (p.length:Int)),(13,.p (.int .i64) (k.1:Int))],[]⟩) (λk=>p.length-k.1) ⟨0,IS _,IS _,rfl⟩ (eW []) (λk=>?_)
 obtain⟨k,l,m,a⟩:=k;simp only;repeat'(first|exact trivial|apply eS rfl|apply AB|refine rX b ?_ ?_|refine rC ?_ ?_<;>intro d<;>try(cases d;done))
 .exact d
 .have c:k<p.length:=by exact eV
  have h:q.drop k=[]:=B0 (by exact eV);have h1:Hh Dr p q=1:=by
   rw[a,h,M9 (0,[]) c];rfl
  exact Ev.ent (σ':=⟨[(6,.p T3 1)],[]⟩) (fM b [.tmp 6] (.p T3 1) eT ⟨by rw[h1],rfl⟩) (eW [])
 .exact d
 .exact g _ (AD p (0,[]) (by exact eV))
 .have c:k<p.length:=by exact eV
  have e:k<q.length:=by exact eV
  rw[Ny (0,[]) c e,An d]at a;exact Ev.ent (σ':=⟨[(6,.p T3 (Dr (p.getD k (0,[])) (q.getD k (0,[]))))],[]⟩) (fM b [.tmp 6] (.p T3 (Dr (p.getD k (0,[])) (q.getD k (0,[])))) eT ⟨by rw[a],rfl⟩) (eW [])
 .exact eV
 .have c:k<p.length:=by exact eV
  have e:k<q.length:=by exact eV
  rw[Ny (0,[]) c e,BY (by simpa using d)]at a;exact⟨⟨k+1,c,e,a⟩,by simp only;omega,eW []⟩
 .have f:p.drop k=[]:=B0 (by exact eV);have h1:Hh Dr p q=-1:=by
   rw[a,f,M9 (0,[]) (show k<q.length by exact eV)];rfl
  exact fM b [.tmp 6] (.p T3 (-1)) eT ⟨by rw[h1],rfl⟩
 have f:p.drop k=[]:=B0 (by exact eV);have i:q.drop k=[]:=B0 (by exact eV);have h1:Hh Dr p q=0:=by
  rw[a,f,i];rfl
 exact fM b [.tmp 6] (.p T3 0) eT ⟨by rw[h1],rfl⟩
def Ue (a b:List AE):Int:=if GC (a.length:Int) (b.length:Int)=0 then Hh Dr a b else GC (a.length:Int) (b.length:Int)
theorem qU (a b:List AE):Ue a b=0↔a=b:=by
 unfold Ue;constructor
 .intro h;split at h
  .exact(Ka Rj).1 h
  rename_i h1;exact absurd h h1
 rintro rfl;rw[BY (lX.2 rfl)];exact(Ka Rj).2 rfl
def qV:AZ:={ ins:=[DZ,DZ],pre:=λ(a,_,_)=>DB a,out:=λ(a,b,_)=>[.p T3 (Ue a b)] }
attribute [local go_sem] qV
theorem A57:Ab Tryz.prog 169 qV:=by
 refine fK [0,1,2,3,4,5,14] Tryz.func169 Tryz.ntmps169 (AF HB AH) ?_;rintro w0 O0 ⟨a,b,u⟩ c-⟨e,f⟩;simp only[qV,AM];repeat'(first|exact trivial|apply eS rfl|refine rX c ?_ ?_|refine rC ?_ ?_<;>intro d<;>try(cases d;done))
 .have h1:Ue a b=GC (List.length a:Int) (List.length b:Int):=An d;exact fI c [.tmp 4] (by rw[h1];exact eR)
 have h1:Ue a b=Hh Dr a b:=BY (by simpa using d);refine cP 4 c ?_ ?_
 .trivial
 refine rM c (qT a b e f) [] [] ?_ ?_ ?_
 .exact eN
 .exact eN
 rintro _ _ ⟨rfl,rfl⟩;refine⟨[],.p T3 (Hh Dr a b),[],rfl,rfl,?_,?_,rfl,rfl,?_⟩
 .exact eN
 .exact eN
 refine rL c ?_ ?_
 .trivial
 repeat' apply eS rfl
 exact fI c [.tmp 4] (by rw[h1];exact eR)
def WA:AZ:={ ins:=[DZ,DZ],pre:=λ(a,_,_)=>DB a,out:=λ(a,b,_)=>[.p .bool (Ue a b==0)] }
attribute [local go_sem] WA
theorem A21:Ab Tryz.prog 122 WA:=by
 refine fK [0,1,2,3,4] Tryz.func122 Tryz.ntmps122 (AF A57 AH) ?_;rintro w0 O0 ⟨a,b,u⟩ c-ha;simp only[WA,AM];repeat'(first|exact trivial|apply eS rfl|refine rX c ?_ ?_)
 .exact ha
 exact fI c [.tmp 4]
def l3 (l:List (Int×Int)):List (Int×Bool):=l.foldl (λm a=>Gc T3 .bool a.1 true m) []
theorem X8 {b:Ty} (x k:Int) (v:b.den) (m:List (Int×b.den)):Bg T3 b x (Gc T3 b k v m)=if x=k then some v else Bg T3 b x m:=by
 induction m with
 | nil=>simp[Gc,Bg,IC]
 | cons y m g =>
  simp only[Gc];by_cases c:IC T3 k y.1=true
  .rw[BY c];have d:k=y.1:=by simpa[IC] using c
   simp only[Bg,IC,SJ];by_cases a:x=k
   .rw[BY a,BY a]
   rw[An a,An a,An (by rw[<-d];exact a)]
  rw[An c];have d:¬k=y.1:=by simpa[IC] using c
  simp only[Bg];by_cases a:IC T3 x y.1=true
  .have f:x=y.1:=by simpa[IC] using a
   rw[BY a,BY a,An (by rw[f];exact λe=>d e.symm)]
  rw[An a,An a,g]
theorem A22 (x:Int) (l:List (Int×Int)):(Bg T3 .bool x (l3 l)).getD false=l.any λy=>y.1==x:=by
 induction l using Dk with
 | h0=>rfl
 | h1 l a c =>
  have e:l3 (l++[a])=Gc T3 .bool a.1 true (l3 l):=by unfold l3;rw[AF8];rfl
  rw[e,X8,AFm,<-c];by_cases h:x=a.1
  .rw[BY h,h];simp
  rw[An h];have b:¬a.1=x:=λe=>h e.symm;simp[b]
def GU (x:AE) (n:Int):Int:=if x.1<0 then 2 else Gi x.2 n
def X9:AZ:={ ins:=[Mn,T3],pre:=λ_=>True,out:=λ(x,n,_)=>[.p MG (GU x n)] }
attribute [local go_sem] X9
theorem qW:Ab Tryz.prog 148 X9:=by
 refine fK [0,1,2,4,5,7,10,13,14,15,16,32,36] Tryz.func148 Tryz.ntmps148 AH ?_;rintro w0 O0 ⟨⟨t,l⟩,n,u⟩ d ⟨⟨-,⟨o,-⟩⟩,-⟩ -;simp only[AQ]at o;simp only[X9,AM];repeat'(first|exact trivial|apply eS rfl|refine rX d ?_ ?_|refine rC ?_ ?_<;>intro b<;>try(cases b;done))
 .have h1:GU (t,l) n=2:=BY b;exact fI d [.tmp 4] (by rw[h1];exact eR)
 have h0:GU (t,l) n=GQ n [] l:=An (ZF.2 b);rw[h0];refine AI (ι:={k:Nat//k<=List.length l/\GQ n [] l=GQ n ((l:List (Int×Int)).take k) ((l:List (Int×Int)).drop k)}) (λk=>⟨[(1,.p T3 n),(5,.mp 11),(13,.p DM l),(14,.p (.int .i64) (List.length l:Int)),(15,.p (.int .i64) (k.1:Int))],[(11,.mapo T3 .bool (l3 ((l:List (Int×Int)).take k.1)))]⟩) (λk=>List.length l-k.1) ⟨0,IS _,rfl⟩ (AC [(11,.nm 11)] rfl rfl ?_ ?_) (λk=>?_)
 .refine eM ?_;rfl
 .exact eN
 obtain⟨k,hk,f⟩:=k;have g:=λh:k<l.length=>Ph n l h;have q:=λh:k<l.length=>Nv (λ(m:List (Int×Bool)) (a:Int×Int)=>Gc T3 .bool a.1 true m) l (0,0) [] h;have i:=λx=>A22 x (List.take k (l:List (Int×Int)));simp only;repeat'(first|exact trivial|apply eS rfl|apply AB|refine rX d ?_ ?_|refine rC ?_ ?_<;>intro b<;>try(cases b;done))
 .exact b
 .have c:k<List.length l:=by exact eV
  have e:GQ n [] l=2:=by rw[f,g c,BY (by omega)]
  exact fI d [.tmp 4] (by rw[e];exact eR)
 .have c:k<List.length l:=by exact eV
  rw[i]at b;have e:GQ n [] l=4:=by rw[f,g c,An (by omega),BY b]
  exact fI d [.tmp 4] (by rw[e];exact eR)
 .exact eV
 .have c:k<List.length l:=by exact eV
  rw[i]at b;refine⟨⟨k+1,c,by rw[f,g c,An (by omega),An (by rw[b];simp)]⟩,by simp only;omega,AC [(11,.nm 11)] rfl rfl ?_ ?_⟩
  .refine eM ?_;exact(q c).symm
  exact eN
 have j:List.drop k (l:List (Int×Int))=[]:=B0 (by exact eV);have e:GQ n [] l=0:=by rw[f,j];rfl
 exact fI d [.tmp 4] (by rw[e];exact eR)
theorem l4 {n:Int}:∀ {l seen:List (Int×Int)},GQ n seen l=0->(∀a∈l,∀b∈seen,b.1≠a.1)/\NdA l
 | [],_,_=>⟨λa ha=>(by cases ha),List.Pairwise.nil⟩
 | x :: l,seen,h=>by
  simp only[GQ]at h;split at h
  .cases h
  split at h
  .cases h
  rename_i h1 g;obtain⟨c,f⟩:=l4 h;refine⟨λa ha b d=>?_,SK.2 ⟨λa ha e=>c a ha x (by simp) e,f⟩⟩;rcases DO.1 ha with rfl|ha
  .intro e;exact g (QC.2 ⟨b,d,by simp[e]⟩)
  exact c a ha b (by simp[d])
theorem l7 {m:Int}:∀ {f:List AE},GR m f=0->∀x∈f,NdA x.2
 | [],_,x,b=>by cases b
 | y :: f,h,x,b=>by
  simp only[GR]at h;split at h
  .cases h
  split at h
  .rename_i h1 a;exact absurd h a
  rename_i h1 a;have a:Gi y.2 m=0:=GO a;rcases DO.1 b with rfl|b
  .exact(l4 a).2
  exact l7 h x b
def Rl (f:List AE):Prop:=∀x∈f,x.2.length<=200
theorem l8 {f:List AE} (h:CC f=0) (hs:Rl f):NdF f:=by
 unfold CC at h;split at h
 .cases h
 split at h
 .cases h
 exact λx a=>⟨l7 h x a,hs x a⟩
def Rm:AZ:={ ins:=[DZ],pre:=λ(f,_)=>Rl f,out:=λ(f,_)=>[.p DZ (A9 f).1,.p MG (A9 f).2] }
attribute [local go_sem] Rm
theorem A23:Ab Tryz.prog 107 Rm:=by
 refine fK [0,1,2,3,5,6,10,15,18,19,20,21,30] Tryz.func107 Tryz.ntmps107 (AF qW (AF TJ AH)) ?_;rintro w0 O0 ⟨f,u⟩ c ⟨⟨n,-⟩,-⟩ hs;simp only[AQ]at n;have hs:Rl f:=hs;have l:Xo f:=λx o=>QB (hs x o) (by omega);simp only[Rm,AM];repeat'(first|exact trivial|apply eS rfl|refine rX c ?_ ?_|refine rC ?_ ?_<;>intro a<;>try(cases a;done))
 .have h1:CC f=1:=by
   have h:f.length=0:=by exact eV
   unfold CC;rw[BY h]
  have e:A9 f=([],1):=by unfold A9;rw[h1];rfl
  exact fI c [.cell 2 25,.tmp 3] (by rw[e];exact eR)
 .have h1:CC f=7:=by
   have h:¬f.length=0:=by exact eV
   have i:4096<f.length:=by exact eV
   unfold CC;rw[An h,BY i]
  have e:A9 f=([],7):=by unfold A9;rw[h1];rfl
  exact fI c [.cell 2 25,.tmp 3] (by rw[e];exact eR)
 have h1:CC f=GR f.length f:=by
  have h:¬f.length=0:=by exact eV
  have i:¬4096<f.length:=by exact eV
  unfold CC;rw[An h,An i]
 have j:0<f.length:=by exact eV
 refine AI (ι:={k:Nat//k<=f.length/\GR f.length (f.drop k)=CC f}) (λk=>⟨[(1,.bp 1 [] 0),(2,.bp 2 [] 0),(18,.p Ex f),(19,.p (.int .i64) (f.length:Int)),(20,.p (.int .i64) (k.1:Int))],[(1,.box 25 true [.p Ex f]),(2,.box 25 true [.raw (.slice none 0 0)])]⟩) (λk=>f.length-k.1) ⟨0,by simp[h1]⟩ (eW [(1,.nm 1),(2,.nm 2)]) (λk=>?_)
 obtain⟨k,hk,hf⟩:=k;simp only;repeat'(first|exact trivial|apply eS rfl|apply AB|refine rX c ?_ ?_|refine rC ?_ ?_<;>intro a<;>try(cases a;done))
 .exact a
 .have g:k<f.length:=by exact eV
  have a:¬GU (f.getD k (0,[])) f.length=0:=a;have m:CC f=GU (f.getD k (0,[])) f.length:=by
   rw[<-hf,Im _ _ g];unfold GU at a ⊢;by_cases b:(f.getD k (0,[])).1<0
   .rw[BY b,BY b]
   rw[An b]at a;rw[An b,An b,BY a]
  have e:A9 f=([],GU (f.getD k (0,[])) f.length):=by unfold A9;rw[m,An a]
  exact fI c [.cell 2 25,.tmp 3] (by rw[e];exact eR)
 .exact eV
 .have g:k<f.length:=by exact eV
  have a:GU (f.getD k (0,[])) f.length=0:=by simpa using a
  refine⟨⟨k+1,g,?_⟩,by simp only;omega,AC [(1,.nm 1),(2,.nm 2)] rfl rfl ?_ ?_⟩
  .rw[<-hf,Im _ _ g];unfold GU at a;by_cases b:(f.getD k (0,[])).1<0
   .rw[BY b]at a;cases a
   rw[An b]at a;rw[An b,An (by rw[a];simp)]
  .exact eN
  exact eN
 .have d:CC f=0:=by rw[<-hf,B0 (by exact eV)];rfl
  exact⟨(Iq d l).1,l8 d hs,IN.2 j⟩
 have d:CC f=0:=by rw[<-hf,B0 (by exact eV)];rfl
 have e:A9 f=(AL (Dv f) 0,0):=by unfold A9;rw[BY d,lV (Iq d l).1 (l8 d hs) (ABP 0) (IN.2 j)]
 exact fI c [.cell 2 25,.tmp 3] (by rw[e];exact eR)
end
def L6 (h:AG) (f:Int):Int:=(h.2.getD f.toNat (ByteArray.empty,0)).2
def NA (h:AG) (n:Int):List (Int×Int)->Ed->Option Ed
 | [],s=>some s
 | a :: l,s=>(DP h s n (L6 h a.1)).bind (NA h n l)
def OM (h:AG) (n:Int):List (Int×Int)->Ed->Option Ed
 | [],s=>some s
 | a :: l,s=>if (Br h (s.1.getD n.toNat 0) a.1).2=true then (DP h s a.2 (Br h (s.1.getD n.toNat 0) a.1).1).bind (OM h n l) else none
def L7 (h:AG) (f:List AE) (n:Int) (s:Ed):Option Ed:=(NA h n (f.getD n.toNat (0,[])).2 s).bind (OM h n (f.getD n.toNat (0,[])).2)
def wlF (h:AG) (f:List AE):Nat->Nat->Ed->Option (List Int)
 | 0,_,_=>none
 | k+1,i,s=>if i<s.2.length then (L7 h f (s.2.getD i 0) s).bind (wlF h f k (i+1)) else some s.1
def Bb (f:List AE):List Int:=f.map λx=>x.1
def Ei (f:List AE):List Int:=(List.range f.length).map λi:Nat=>(i:Int)
def FL (f:List AE) (ty:List Int):List AE:=(List.range f.length).map λi=>(ty.getD i 0,(f.getD i (0,[])).2)
structure iE (h:AG):Prop where
 int:∀x∈h.2,0<=x.2/\x.2<(h.1.length:Int)
 val:∀t∈h.1,∀p∈t.2.2.2,0<=p.2/\p.2<(h.1.length:Int)
structure OO (h:AG) (m:Nat) (s:Ed):Prop where
 len:s.1.length=m
 ty:∀t∈s.1,0<=t/\t<(h.1.length:Int)
 wt:∀n∈s.2,0<=n/\n<(m:Int)
theorem OO.get {h:AG} {m:Nat} {s:Ed} (hs:OO h m s) {n:Int} (n0:0<=n) (n1:n<(m:Int)):0<=s.1.getD n.toNat 0/\s.1.getD n.toNat 0<(h.1.length:Int):=by
 have a:n.toNat<s.1.length:=by rw[hs.len];omega
 rw[AS,At a];exact hs.ty _ (VR a)
def A24 (h:AG) (t:Int):Nat:=((List.range h.1.length).filter λi:Nat=>A2 h t (i:Int)).length
def bJ (h:AG) (ty:List Int):Nat:=(ty.map (A24 h)).sum
theorem bK {α:Type} {p q:α->Bool}:∀ {l:List α},(∀x∈l,q x=true->p x=true)->(∃b∈l,p b=true/\q b=false)->(l.filter q).length<(l.filter p).length
 | [],_,⟨b,c,_⟩=>by cases c
 | x :: l,h1,⟨b,c,f,g⟩=>by
  have i:∀ {l:List α},(∀x∈l,q x=true->p x=true)->(l.filter q).length<=(l.filter p).length:=by
   intro l h;induction l with
   | nil=>exact Is _
   | cons y l j =>
    have e:=j λz d=>h z (NO _ d);rw[VL,VL];by_cases a:q y=true
    .rw[BY a,BY (h y (by simp) a)];simp only[Of];omega
    rw[An a];split
    .simp only[Of];omega
    exact e
  rw[VL,VL];rcases DO.1 c with rfl|c
  .rw[An (by rw[g];simp),BY f];have:=i λz d=>h1 z (NO _ d);simp only[Of];omega
  have e:=bK (λz d=>h1 z (NO _ d)) ⟨b,c,f,g⟩;by_cases a:q x=true
  .rw[BY a,BY (h1 x (by simp) a)];simp only[Of];omega
  rw[An a];split
  .simp only[Of];omega
  exact e
theorem WB {h:AG} (hk:GB h) {a:Int} (b:0<=a) (c:a<(h.1.length:Int)):A2 h a a=true:=(B4 hk b c b c).2 λ_ h=>h
theorem Hx {h:AG} (hk:GB h) {a b c:Int} (d:0<=a) (e:a<(h.1.length:Int)) (f:0<=b) (b1:b<(h.1.length:Int)) (c0:0<=c) (c1:c<(h.1.length:Int)) (h1:A2 h a b=true) (g:A2 h b c=true):A2 h a c=true :=
 (B4 hk d e c0 c1).2 λi hi=>(B4 hk d e f b1).1 h1 i ((B4 hk f b1 c0 c1).1 g i hi)
theorem A96 {h:AG} (hk:GB h) (hi:ME h) {a m:Int} (b:0<=a) (c:a<(h.1.length:Int)) (f:0<=m) (g:m<(h.1.length:Int)) (hs:A2 h a m=true) (i:m≠a):A24 h m<A24 h a:=by
 refine bK (λx d e=>?_) ⟨a.toNat,QJ.2 (by omega),?_,?_⟩
 .have d:=QJ.1 d;exact Hx hk b c f g (To _) (by omega) hs e
 .rw[ZL b];exact WB hk b c
 rw[ZL b];cases e:A2 h m a with
 | false=>rfl
 | true=>exact absurd (hi m a f g b c e hs) i
theorem A04 {α:Type} (g:α->Nat) (d:α):∀ {l:List α} {i:Nat} {v:α},i<l.length->((l.set i v).map g).sum+g (l.getD i d)=(l.map g).sum+g v
 | [],i,v,h=>by simp at h
 | x :: l,0,v,h=>by simp only[AFE,QM,List.sum_cons,List.getD_cons_zero];omega
 | x :: l,i+1,v,h=>by
  have:=A04 g d (l:=l) (i:=i) (v:=v) (by simpa using h);simp only[AG5,QM,List.sum_cons,List.getD_cons_succ];omega
theorem FE {h:AG} (hk:GB h) (hi:ME h) {m:Nat} {s b:Ed} (hs:OO h m s) {n t:Int} (n0:0<=n) (n1:n<(m:Int)) (o:0<=t) (p:t<(h.1.length:Int)) (e:DP h s n t=some b) :
  OO h m b/\bJ h b.1+b.2.length<=bJ h s.1+s.2.length/\s.2.length<=b.2.length:=by
 obtain⟨c,d⟩:=hs.get n0 n1;unfold DP at e;split at e
 .rename_i j;obtain⟨f,g,l,r⟩:=(M5 hk c d o p).1 j;generalize (Bq h (s.1.getD n.toNat 0) t).1=v at *;injection e with e
  split at e
  .subst e;exact⟨hs,Is _,Is _⟩
  rename_i k;subst e;have q:=A96 hk hi c d f g l k;have i:n.toNat<s.1.length:=by rw[hs.len];omega
  have hp:=A04 (A24 h) 0 (v:=v) i;refine⟨⟨by simp only[SL];exact hs.len,λx a=>?_,λx a=>?_⟩,?_,by simp⟩
  .rcases AAP a with a|rfl
   .exact hs.ty x a
   exact⟨f,g⟩
  .rcases OF.1 a with a|a
   .exact hs.wt x a
   rw[QL.1 a];exact⟨n0,n1⟩
  unfold bJ;simp only[IF,Pz];omega
 cases e
def L8 (h:AG) (m:Nat) (a:Int×Int):Prop:=(0<=a.1/\a.1<(h.2.length:Int))/\0<=a.2/\a.2<(m:Int)
theorem NB {h:AG} (hf:iE h) {f:Int} (b:0<=f) (c:f<(h.2.length:Int)):0<=L6 h f/\L6 h f<(h.1.length:Int):=by
 have a:f.toNat<h.2.length:=by omega
 unfold L6;rw[AS,At a];exact hf.int _ (VR a)
theorem bL {f:Int}:∀ {l:List (Int×Int)},(EU f l).2=true->(f,(EU f l).1)∈l
 | [],h=>by cases h
 | x :: l,h=>by
  unfold EU at h ⊢;split
  .rename_i e;rw[<-e];simp
  rename_i e;rw[An e]at h;exact NO _ (bL h)
theorem A25 {h:AG} {t:Int} (a:0<=t) (b:t<(h.1.length:Int)):h.1.getD t.toNat Ub∈h.1:=AD h.1 Ub (by omega)
theorem HZ {h:AG} (hf:iE h) {t f:Int} (a:0<=t) (b:t<(h.1.length:Int)) (e:(Br h t f).2=true):0<=(Br h t f).1/\(Br h t f).1<(h.1.length:Int) :=
 hf.val _ (A25 a b) _ (bL e)
theorem Rn {h:AG} (hk:GB h) (hi:ME h) (hf:iE h) {m:Nat} {n:Int} (n0:0<=n) (n1:n<(m:Int)):∀ {l:List (Int×Int)} {s c:Ed},(∀a∈l,L8 h m a)->OO h m s->NA h n l s=some c ->
  OO h m c/\bJ h c.1+c.2.length<=bJ h s.1+s.2.length/\s.2.length<=c.2.length
 | [],s,c,_,hs,e=>by
  injection e with e
  subst e;exact⟨hs,Is _,Is _⟩
 | a :: l,s,c,f,hs,e=>by
  unfold NA at e;cases d:DP h s n (L6 h a.1) with
  | none=>rw[d]at e;cases e
  | some s1 =>
   rw[d]at e;obtain⟨⟨g,i⟩,-⟩:=f a (by simp);obtain⟨o,p⟩:=NB hf g i;obtain⟨j,r,t⟩:=FE hk hi hs n0 n1 o p d;obtain⟨q,u,v⟩:=Rn hk hi hf n0 n1 (λb k=>f b (by simp[k])) j e;exact⟨q,by omega,by omega⟩
theorem WC {h:AG} (hk:GB h) (hi:ME h) (hf:iE h) {m:Nat} {n:Int} (n0:0<=n) (n1:n<(m:Int)):∀ {l:List (Int×Int)} {s c:Ed},(∀a∈l,L8 h m a)->OO h m s->OM h n l s=some c ->
  OO h m c/\bJ h c.1+c.2.length<=bJ h s.1+s.2.length/\s.2.length<=c.2.length
 | [],s,c,_,hs,e=>by
  injection e with e
  subst e;exact⟨hs,Is _,Is _⟩
 | a :: l,s,c,g,hs,e=>by
  unfold OM at e;split at e
  .rename_i o;obtain⟨j,f⟩:=hs.get n0 n1;obtain⟨p,q⟩:=HZ hf j f o;cases d:DP h s a.2 (Br h (s.1.getD n.toNat 0) a.1).1 with
   | none=>rw[d]at e;cases e
   | some s1 =>
    rw[d]at e;obtain⟨-,i,b1⟩:=g a (by simp);obtain⟨f,t,u⟩:=FE hk hi hs i b1 p q d;obtain⟨r,v,w⟩:=WC hk hi hf n0 n1 (λb k=>g b (by simp[k])) f e;exact⟨r,by omega,by omega⟩
  cases e
def Pl (h:AG) (f:List AE):Prop:=∀x∈f,∀a∈x.2,L8 h f.length a
theorem NC {h:AG} {f:List AE} (ha:Pl h f) {n:Int} (n0:0<=n) (n1:n<(f.length:Int)):∀a∈(f.getD n.toNat (0,[])).2,L8 h f.length a:=ha _ (AD f (0,[]) (by omega))
theorem YA {h:AG} (hk:GB h) (hi:ME h) (hf:iE h) {f:List AE} (ha:Pl h f) {n:Int} (n0:0<=n) (n1:n<(f.length:Int)) {s a:Ed} (hs:OO h f.length s) (e:L7 h f n s=some a) :
  OO h f.length a/\bJ h a.1+a.2.length<=bJ h s.1+s.2.length/\s.2.length<=a.2.length:=by
 unfold L7 at e;cases b:NA h n (f.getD n.toNat (0,[])).2 s with
 | none=>rw[b]at e;cases e
 | some s1 =>
  rw[b]at e;obtain⟨c,g,i⟩:=Rn hk hi hf n0 n1 (NC ha n0 n1) hs b;obtain⟨d,j,k⟩:=WC hk hi hf n0 n1 (NC ha n0 n1) c e;exact⟨d,by omega,by omega⟩
theorem A97 (h:AG) (t:Int):A24 h t<=h.1.length:=by
 unfold A24;exact QB (VI _ _) (by simp)
theorem A58 (h:AG):∀ty:List Int,bJ h ty<=ty.length*h.1.length
 | []=>by simp[bJ]
 | t :: ty=>by
  have h1:=A58 h ty;have a:=A97 h t;unfold bJ at h1 ⊢;simp only[QM,List.sum_cons,Of,AFK,Nat.one_mul];omega
def Ol (h:AG) (f:List AE):Nat:=f.length*h.1.length+f.length+1
def Iv (h:AG) (f:List AE):Option (List Int):=wlF h f (Ol h f) 0 (Bb f,Ei f)
def G0 (h:AG) (f:List AE):List AE×Bool:=match Iv h f with
 | some ty=>(FL f ty,true)
 | none=>([],false)
theorem A59 {h:AG} {f:List AE} (a:∀x∈f,0<=x.1/\x.1<(h.1.length:Int)):OO h f.length (Bb f,Ei f):=by
 refine⟨by simp[Bb],λt h1=>?_,λn hn=>?_⟩
 .obtain⟨x,b,rfl⟩:=Do.1 h1;exact a x b
 obtain⟨i,hi,rfl⟩:=Do.1 hn;have:=QJ.1 hi;omega
theorem A5a (h:AG) (f:List AE):bJ h (Bb f)+(Ei f).length+1<=Ol h f:=by
 have:=A58 h (Bb f);unfold Ol;rw[show (Bb f).length=f.length by simp[Bb]]at this;rw[show (Ei f).length=f.length by simp[Ei]];omega
section
attribute [local go_sem] Dl
def A5b (a:Int->Int×Int->Bool) (f:List AE) (i:Nat):AE:=((f.getD i (0,[])).1,(f.getD i (0,[])).2.filter (a (i:Int)))
def Gk (a:Int->Int×Int->Bool) (f:List AE) (i:Nat):List AE:=(List.range i).map (A5b a f)
def YB (a:Int->Int×Int->Bool) (f:List AE):List AE:=AL (Gk a f f.length) 0
theorem Kb (a:Int->Int×Int->Bool) (f:List AE) (i:Nat):(Gk a f i).length=i:=by simp[Gk]
theorem Kd (l:List (Int×Int)):lJ l↔l.Pairwise (λa b=>a.1<b.1):=by
 constructor
 .intro h;rw[QG];have key:∀d i,i+d+1<l.length->(l.getD i (0,0)).1<(l.getD (i+d+1) (0,0)).1:=by
   intro d;induction d with
   | zero=>intro i hi;exact h i hi
   | succ d e =>
    intro i hi;have h1:=e i (by omega);have f:=h (i+d+1) (by omega);have:i+(d+1)+1=i+d+1+1:=by omega
    rw[this];omega
  intro i j hi c g;have h1:=key (j-i-1) i (by omega);rw[show i+(j-i-1)+1=j by omega]at h1;simpa[AS,hi,c] using h1
 intro h i hi;rw[QG]at h;have:=h i (i+1) (by omega) hi (by omega);simpa[AS,hi,show i<l.length by omega] using this
theorem l9 {l:List (Int×Int)} (h:lJ l) (p:Int×Int->Bool):lJ (l.filter p):=by
 rw[Kd]at h ⊢;exact h.sublist List.filter_sublist
theorem bM {f:List AE} (hf:AR f) (hs:I8 f) (d:Int->Int×Int->Bool):AR (Gk d f f.length)/\I8 (Gk d f f.length):=by
 have e:∀i,i<f.length->f.getD i (0,[])∈f:=λi hi=>AD f (0,[]) hi;refine⟨⟨by rw[Kb];exact hf.1,λx c=>?_⟩,λx c=>?_⟩
 .obtain⟨i,hi,rfl⟩:=Do.1 c;have hi:i<f.length:=QJ.1 hi;obtain⟨h1,b⟩:=hf.2 _ (e i hi);rw[Kb];exact⟨QB (VI _ _) h1,λa ha=>b a (VW.1 ha).1⟩
 obtain⟨i,hi,rfl⟩:=Do.1 c;have hi:i<f.length:=QJ.1 hi;obtain⟨h1,b⟩:=hs _ (e i hi);exact⟨l9 h1 _,QB (VI _ _) b⟩
theorem mA (p:Int×Int->Bool) (l:List (Int×Int)) {k:Nat} (h:k<l.length):(l.take (k+1)).filter p=(l.take k).filter p++(if p (l.getD k (0,0)) then [l.getD k (0,0)] else []):=by
 rw[Au l (0,0) h,AEE]
 congr 1
 rw[VL,AFl]
def L9 (l:List Int):List (Int×Bool):=l.foldl (λm x=>Gc T3 .bool x true m) []
theorem qX {b:Ty} (x k:Int) (v:b.den) (m:List (Int×b.den)):Bg T3 b x (Gc T3 b k v m)=if x=k then some v else Bg T3 b x m:=by
 induction m with
 | nil=>simp[Gc,Bg,IC]
 | cons y m g =>
  simp only[Gc];by_cases c:IC T3 k y.1=true
  .rw[BY c];have d:k=y.1:=by simpa[IC] using c
   simp only[Bg,IC,SJ];by_cases a:x=k
   .rw[BY a,BY a]
   rw[An a,An a,An (by rw[<-d];exact a)]
  rw[An c];have d:¬k=y.1:=by simpa[IC] using c
  simp only[Bg];by_cases a:IC T3 x y.1=true
  .have f:x=y.1:=by simpa[IC] using a
   rw[BY a,BY a,An (by rw[f];exact λe=>d e.symm)]
  rw[An a,An a,g]
theorem A98 (l:List Int) (x:Int):(Bg T3 .bool x (L9 l)).getD false=zZ l x:=by
 induction l using Dk with
 | h0=>rfl
 | h1 l a c =>
  have e:L9 (l++[a])=Gc T3 .bool a true (L9 l):=by simp[L9]
  rw[e,qX];by_cases b:x=a
  .rw[BY b];subst b;simp[zZ]
  rw[An b,c];simp only[zZ,AFm,List.any_cons,List.any_nil,Bool.or_false];have:(a==x)=false:=by simpa using λe=>b e.symm
  rw[this,Bool.or_false]
end
theorem Ke {x y:Int} {xs ys:List Int} (h:Le (x :: xs) (y :: ys)=0):x=y/\Le xs ys=0:=by
 simp only[Le]at h;split at h
 .cases h
 split at h
 .cases h
 exact⟨by omega,h⟩
theorem YC:∀ {l m:List (Int×Int)} {r s:List Int},l.length=m.length->Le (l.flatMap (λa=>[a.1,a.2])++r) (m.flatMap (λa=>[a.1,a.2])++s)=0->l=m/\Le r s=0
 | [],[],_,_,_,h=>⟨rfl,by simpa using h⟩
 | [],_ :: _,_,_,b,_=>by simp at b
 | _ :: _,[],_,_,b,_=>by simp at b
 | (c,d) :: l,(b1,b2) :: m,r,s,b,h=>by
  have h:Le (c :: d :: (l.flatMap (λa=>[a.1,a.2])++r)) (b1 :: b2 :: (m.flatMap (λa=>[a.1,a.2])++s))=0:=by simpa using h
  obtain⟨e,i⟩:=Ke h;obtain⟨f,j⟩:=Ke i;obtain⟨g,k⟩:=YC (l:=l) (m:=m) (by simpa using b) j;exact⟨by rw[e,f,g],k⟩
theorem YD:∀ {l m:List AE} {r s:List Int},l.length=m.length->Le (l.flatMap Xg++r) (m.flatMap Xg++s)=0->l=m/\Le r s=0
 | [],[],_,_,_,h=>⟨rfl,by simpa using h⟩
 | [],_ :: _,_,_,b,_=>by simp at b
 | _ :: _,[],_,_,b,_=>by simp at b
 | (d,c) :: l,(b1,b2) :: m,r,s,b,h=>by
  have h:Le (d :: (c.length:Int) :: (c.flatMap (λa=>[a.1,a.2])++(l.flatMap Xg++r))) (b1 :: (b2.length:Int) :: (b2.flatMap (λa=>[a.1,a.2])++(m.flatMap Xg++s)))=0:=by simpa[Xg] using h
  obtain⟨e,i⟩:=Ke h;obtain⟨o,j⟩:=Ke i;obtain⟨f,k⟩:=YC (l:=c) (m:=b2) (by omega) j;obtain⟨g,n⟩:=YD (l:=l) (m:=m) (by simpa using b) k;exact⟨by rw[e,f,g],n⟩
theorem Jf {a b:List AE} (h:DA a b=0):a=b:=by
 unfold DA B3 at h;obtain⟨h1,c⟩:=Ke h;have:=YD (l:=a) (m:=b) (r:=[]) (s:=[]) (by omega) (by simpa using c);exact this.1
theorem bN:∀l:List Int,Le l l=0
 | []=>rfl
 | x :: l=>by simp[Le,bN l]
theorem HC (a:List AE):DA a a=0:=bN _
theorem YE (x:Int×Int) (s:List (Int×Int)):∀n,(∀j,Io x s n<=j->j<n->x.1<(s.getD j (0,0)).1)/\(0<Io x s n->(s.getD (Io x s n-1) (0,0)).1<=x.1)
 | 0=>⟨λj h1 b=>by omega,λh=>by simp[Io]at h⟩
 | n+1=>by
  obtain⟨h1,b⟩:=YE x s n;unfold Io;split
  .rename_i c;refine⟨λj a d=>?_,b⟩;by_cases e:j=n
   .subst e;exact c
   exact h1 j a (by omega)
  rename_i c;exact⟨λj a d=>by omega,λ_=>by simp only[Nat.add_sub_cancel];omega⟩
theorem AB1 {l:List (Int×Int)} (h:l.Pairwise (λa b=>a.1<=b.1)) {i j:Nat} (d:i<=j) (c:j<l.length):(l.getD i (0,0)).1<=(l.getD j (0,0)).1:=by
 rcases Nat.eq_or_lt_of_le d with rfl|e
 .exact ABP _
 rw[QG]at h;have:=h i j (by omega) c e;simpa[AS,c,show i<l.length by omega] using this
theorem mB {s:List (Int×Int)} (h:s.Pairwise (λa b=>a.1<=b.1)) (x:Int×Int):(Pi s x).Pairwise (λa b=>a.1<=b.1):=by
 obtain⟨h1,g⟩:=YE x s s.length;have hp:=Vv x s s.length;unfold Pi;generalize Io x s s.length=p at *;rw[AAm,AAm];have f:∀a∈s.take p,a.1<=x.1:=λa ha=>by
  obtain⟨i,hi,rfl⟩:=Vb.1 ha;rw[OS]at hi;have k:=AB1 h (i:=i) (j:=p-1) (by omega) (by omega);have l:=g (by omega);have e:(s.take p)[i].1=(s.getD i (0,0)).1:=by simp[AS,show i<s.length by omega]
  rw[e];omega
 have d:∀b∈s.drop p,x.1<=b.1:=λb c=>by
  obtain⟨i,hi,rfl⟩:=Vb.1 c;rw[SM]at hi;have k:=h1 (p+i) (by omega) (by omega);have e:(s.drop p)[i].1=(s.getD (p+i) (0,0)).1:=by simp[AS,show p+i<s.length by omega]
  rw[e];omega
 refine⟨⟨h.sublist (List.take_sublist _ _),by simp,λa ha b c=>?_⟩,h.sublist (List.drop_sublist _ _),λa ha b c=>?_⟩
 .have:b=x:=by simpa using c
  rw[this];exact f a ha
 rcases OF.1 ha with ha|ha
 .exact AA6 (f a ha) (d b c)
 have:a=x:=by simpa using ha
 rw[this];exact d b c
theorem VE (l:List (Int×Int)):(Af l).Pairwise (λa b=>a.1<=b.1):=by
 induction l using Dk with
 | h0=>exact List.Pairwise.nil
 | h1 l a c=>rw[Hw];exact mB c a
theorem Uf {n:Int}:∀ {l seen:List (Int×Int)},GQ n seen l=0->(l.map (·.1)).Nodup/\∀a∈l,∀b∈seen,b.1≠a.1
 | [],_,_=>⟨by simp,λa ha=>by cases ha⟩
 | x :: l,seen,h=>by
  simp only[GQ]at h;split at h
  .cases h
  split at h
  .cases h
  rename_i h1 d;obtain⟨g,f⟩:=Uf h;have d:∀b∈seen,b.1≠x.1:=λb c e=>d (QC.2 ⟨b,c,by simp[e]⟩);refine⟨?_,λa ha b c=>?_⟩
  .rw[QM,TO];refine⟨λi=>?_,g⟩;obtain⟨a,ha,e⟩:=Do.1 i;exact f a ha x (by simp) e.symm
  rcases DO.1 ha with rfl|ha
  .exact d b c
  exact f a ha b (by simp[c])
theorem YF {m:Int}:∀ {f:List AE},GR m f=0->∀x∈f,Gi x.2 m=0
 | [],_,x,a=>by cases a
 | y :: f,h,x,a=>by
  simp only[GR]at h;split at h
  .cases h
  split at h
  .rename_i h1 b;exact absurd h b
  rename_i h1 b;rcases DO.1 a with rfl|a
  .exact GO b
  exact YF h x a
theorem A26 {l:List (Int×Int)} (h:l.Pairwise (λa b=>a.1<=b.1)) (hn:(l.map (·.1)).Nodup):l.Pairwise (λa b=>a.1<b.1):=by
 rw[List.Nodup,VV]at hn;refine(h.and hn).imp λ{a b} c=>?_;have h1:=c.1;have d:¬a.1=b.1:=c.2;omega
theorem ND {f:List AE} (h:EI f=true):AR f/\I8 f/\0<f.length/\E1 f=true:=by
 unfold EI at h;simp only[AT,SJ]at h;obtain⟨⟨e,_⟩,c,d⟩:=h;obtain⟨t,g⟩:=HV e;have r:Xo f:=λx b=>QB (g x b) (by omega);have a:CC f=0:=by
  unfold A9 at c;split at c
  .assumption
  exact c
 obtain⟨o,h0⟩:=Iq a r;have k:(A9 f).1=Ja f 0:=by unfold A9;rw[BY a]
 rw[k]at d;have l:=Jf d;refine⟨o,λx b=>⟨?_,QB (g x b) (by omega)⟩,h0,e⟩;rw[<-l]at b;obtain⟨n,_,rfl⟩:=Do.1 b;rw[Kd];have j:((f.getD n.toNat (0,[])).2.map (·.1)).Nodup:=by
  by_cases p:n.toNat<f.length
  .have q:f.getD n.toNat (0,[])∈f:=AD f (0,[]) p;have m:GR f.length f=0:=by
    unfold CC at a;split at a
    .cases a
    split at a
    .cases a
    exact a
   exact(Uf (YF m _ q)).1
  rw[AS,QH (by omega)];simp
 have s:=A26 (VE (f.getD n.toNat (0,[])).2) (((FC _).map (·.1)).nodup_iff.2 j);unfold M0;simp only;rw[VV];exact s.imp λi=>i
section
attribute [local go_sem] Rm WA Oi Xq
theorem AB2 (a b:List AE):(DA a b==0)=(Ue a b==0):=by
 rw[ABC,SJ,SJ,qU];exact⟨Jf,λe=>by rw[e];exact HC b⟩
def Ro:AZ:={ ins:=[ED,DZ],pre:=λ(_,f,_)=>DB f/\Rl f,out:=λ(h,f,_)=>[.p MG (BE h f)] }
attribute [local go_sem] Ro
theorem bO:Ab Tryz.prog 66 Ro:=by
 refine fK [0,1,2,3,4,5,6,8,10,17,20,21,22,23,31,33,34,35,36,44,50] Tryz.func66 Tryz.ntmps66 (AF A23 (AF A21 AH)) ?_;rintro w0 O0 ⟨⟨b,hf⟩,f,u⟩ d-⟨hs,n⟩;have hs:DB f:=hs;have n:Rl f:=n;simp only[Ro,AM];repeat'(first|exact trivial|apply eS rfl|refine rX d ?_ ?_|refine rC ?_ ?_<;>intro a<;>try(cases a;done))
 .exact n
 .have h1:BE (b,hf) f=(A9 f).2:=by unfold BE;rw[BY a]
  exact fI d [.tmp 4] (by rw[h1];exact eR)
 have t:(A9 f).2=0:=by simpa using a
 have x:=UZ hs.2;have w:=hs.1;have g:BE (b,hf) f=if f.all (Ua (b,hf))=false then 2 else if (Ue f (A9 f).1==0)=false then 3 else 0:=by unfold BE;rw[An (by rw[t];simp),AB2 f (A9 f).1]
 refine AI (ι:={i:Nat//i<=f.length/\(f.take i).all (Ua (b,hf))=true}) (λi=>⟨[(2,.bp 2 [] 0),(3,.bp 3 [] 0),(5,.bp 5 [] 0),(20,.p Ex f),(21,.p (.int .i64) (f.length:Int)),(22,.p (.int .i64) (i.1:Int))],[(2,.box 31 true [.p RB b,.p Sv hf]),(3,.box 25 true [.p Ex f]),(5,.box 25 true [.p Ex (A9 f).1])]⟩) (λi=>f.length-i.1) ⟨0,by simp⟩ (eW [(2,.nm 2),(3,.nm 3),(5,.nm 5)]) (λi=>?_)
 obtain⟨i,hi,l⟩:=i;have r:=λh:i<f.length=>Gv f (0,[]) (Ua (b,hf)) h;simp only;repeat'(first|exact trivial|apply eS rfl|refine rX d ?_ ?_|refine rC ?_ ?_<;>intro a<;>try(cases a;done))
 .exact a
 .have c:i<f.length:=IN.1 (by assumption);have e:f.all (Ua (b,hf))=false:=by
   rw[iF];refine⟨_,AD f (0,[]) c,?_⟩;unfold Ua;rw[AA7 (ZF.2 a)];simp
  rw[BY e]at g;exact fI d [.tmp 4] (by rw[g];exact eR)
 .have c:i<f.length:=IN.1 (by assumption);have o:=AD f (0,[]) c;have q:Ua (b,hf) (f.getD i (0,[]))=(f.getD i (0,[])).2.all (qA (b,hf)):=by
   unfold Ua;rw[aS (show (f.getD i (0,[])).1<(b.length:Int) from a)];rfl
  have v:(f.getD i (0,[])).2.length<=100000:=hs.2 _ o;refine AI (ι:={k:Nat//k<=(f.getD i (0,[])).2.length/\((f.getD i (0,[])).2.take k).all (qA (b,hf))=true}) (λk=>⟨[(2,.bp 2 [] 0),(3,.bp 3 [] 0),(5,.bp 5 [] 0),(20,.p Ex f),(21,.p (.int .i64) (f.length:Int)),(22,.p (.int .i64) (i:Int)),(33,.p DM (f.getD i (0,[])).2),(34,.p (.int .i64) ((f.getD i (0,[])).2.length:Int)),(35,.p (.int .i64) (k.1:Int))],[(2,.box 31 true [.p RB b,.p Sv hf]),(3,.box 25 true [.p Ex f]),(5,.box 25 true [.p Ex (A9 f).1])]⟩) (λk=>(f.getD i (0,[])).2.length-k.1) ⟨0,by simp⟩ (eW [(2,.nm 2),(3,.nm 3),(5,.nm 5)]) (λk=>?_)
  obtain⟨k,hk,m⟩:=k;have s:=λh:k<(f.getD i (0,[])).2.length=>Gv (f.getD i (0,[])).2 (0,0) (qA (b,hf)) h;simp only;repeat'(first|exact trivial|apply eS rfl|apply AB|refine rX d ?_ ?_|refine rC ?_ ?_<;>intro a<;>try(cases a;done))
  .exact a
  .have j:k<(f.getD i (0,[])).2.length:=IN.1 (by assumption);have e:f.all (Ua (b,hf))=false:=by
    rw[iF];refine⟨_,o,?_⟩;rw[q,iF.2 ⟨_,AD (f.getD i (0,[])).2 (0,0) j,by unfold qA;rw[AA7 (ZF.2 a)];simp⟩];simp
   rw[BY e]at g;exact fI d [.tmp 4] (by rw[g];exact eR)
  .exact eV
  .have j:k<(f.getD i (0,[])).2.length:=IN.1 (by assumption);refine⟨⟨k+1,j,?_⟩,by simp only;omega,AC [(2,.nm 2),(3,.nm 3),(5,.nm 5)] rfl rfl ?_ ?_⟩
   .rw[s j,m];unfold qA;exact aS a
   .exact eN
   exact eN
  .exact eV
  have j:(f.getD i (0,[])).2.take k=(f.getD i (0,[])).2:=As (P6.1 a);rw[j]at m;refine⟨⟨i+1,c,?_⟩,by simp only;omega,AC [(2,.nm 2),(3,.nm 3),(5,.nm 5)] rfl rfl ?_ ?_⟩
  .rw[r c,l,q,m];rfl
  .exact eN
  exact eN
 .exact hs
 .have c:f.take i=f:=As (P6.1 (by assumption));rw[c]at l;rw[An (by rw[l];simp),BY (by simpa using a)]at g;exact fI d [.tmp 4] (by rw[g];exact eR)
 have c:f.take i=f:=As (P6.1 (by assumption));rw[c]at l;rw[An (by rw[l];simp),An (by rw[a];simp)]at g;exact fI d [.tmp 4] (by rw[g];exact eR)
end
section
attribute [local go_sem] Ro Oi Xq
def FT (h:AG) (f:List AE) (t:Int):List (Int×Int)->Int
 | []=>0
 | a :: l=>if (Br h t a.1).2=false then 10 else if A2 h (Br h t a.1).1 (f.getD a.2.toNat (0,[])).1=false then 11 else FT h f t l
def Dw (h:AG) (f:List AE):List AE->Int
 | []=>0
 | x :: l=>if FT h f x.1 x.2=0 then Dw h f l else FT h f x.1 x.2
def Ae (h:AG) (f:List AE):Int:=if BE h f=0 then Dw h f f else BE h f
structure Chk (h:AG) (f:List AE):Prop where
 ty:∀x∈f,0<=x.1/\x.1<(h.1.length:Int)
 arc:∀x∈f,∀a∈x.2,L8 h f.length a
theorem A5c {h:AG} {f:List AE} (e:BE h f=0):Chk h f:=by
 have h1:(A9 f).2=0:=by
  refine GO λhn=>?_;unfold BE at e;rw[BY hn]at e;exact hn e
 have c:CC f=0:=by
  refine GO λhn=>?_;unfold A9 at h1;rw[An hn]at h1;exact hn h1
 have d:f.all (Ua h)=true:=by
  cases k:f.all (Ua h) with
  | true=>rfl
  | false =>
   unfold BE at e;rw[An (by rw[h1];simp),BY k]at e;cases e
 have j:GR f.length f=0:=by
  unfold CC at c;split at c
  .cases c
  split at c
  .cases c
  exact c
 have g:=Ip j;rw[If]at d;have i:∀x∈f,x.1<(h.1.length:Int)/\∀a∈x.2,a.1<(h.2.length:Int):=λx b=>by
  have:=d x b;unfold Ua at this;rw[AT,By,If]at this;exact⟨this.1,λa ha=>by have:=this.2 a ha;unfold qA at this;simpa using this⟩
 exact⟨λx b=>⟨(g x b).1,(i x b).1⟩,λx b a ha=>by
  obtain⟨l,m,n⟩:=(g x b).2 a ha;exact⟨⟨l,(i x b).2 a ha⟩,m,n⟩⟩
theorem Om (h:AG) (f l:List AE) {k:Nat} (hk:k<l.length):Dw h f (l.drop k)=if FT h f (l.getD k (0,[])).1 (l.getD k (0,[])).2=0 then Dw h f (l.drop (k+1)) else FT h f (l.getD k (0,[])).1 (l.getD k (0,[])).2:=by
 rw[M9 (0,[]) hk];rfl
theorem Ug (h:AG) (f:List AE) (t:Int) (l:List (Int×Int)) {k:Nat} (hk:k<l.length):FT h f t (l.drop k)=if (Br h t (l.getD k (0,0)).1).2=false then 10 else if A2 h (Br h t (l.getD k (0,0)).1).1 (f.getD (l.getD k (0,0)).2.toNat (0,[])).1=false then 11 else FT h f t (l.drop (k+1)):=by
 rw[M9 (0,0) hk];rfl
def Nz:AZ:={ ins:=[ED,DZ],pre:=λ(h,f,_)=>iE h/\DB f/\Rl f,out:=λ(h,f,_)=>[.p MG (Ae h f)] }
attribute [local go_sem] Nz
theorem bP:Ab Tryz.prog 34 Nz:=by
 refine fK [0,1,2,3,4,5,7,9,10,11,16,19,20,21,22,26,27,28,29,42,53] Tryz.func34 Tryz.ntmps34 (AF bO (AF z8 (AF Vz AH))) ?_;rintro w0 O0 ⟨⟨a,hf⟩,f,u⟩ e-⟨o,hs,s⟩;have o:iE (a,hf):=o;have hs:DB f:=hs;have s:Rl f:=s;have K:=hs.1;simp only[Nz,AM];repeat'(first|exact trivial|apply eS rfl|refine rX e ?_ ?_|refine rC ?_ ?_<;>intro b<;>try(cases b;done))
 .exact⟨hs,s⟩
 .have j:Ae (a,hf) f=BE (a,hf) f:=An b;exact fI e [.tmp 4] (by rw[j];exact eR)
 have C:BE (a,hf) f=0:=by simpa using b
 have j:Ae (a,hf) f=Dw (a,hf) f f:=BY C;obtain⟨A,E⟩:=A5c C;refine AI (ι:={i:Nat//i<=f.length/\Dw (a,hf) f f=Dw (a,hf) f (f.drop i)}) (λi=>⟨[(2,.bp 2 [] 0),(3,.bp 3 [] 0),(19,.p Ex f),(20,.p (.int .i64) (f.length:Int)),(21,.p (.int .i64) (i.1:Int))],[(2,.box 31 true [.p RB a,.p Sv hf]),(3,.box 25 true [.p Ex f])]⟩) (λi=>f.length-i.1) ⟨0,IS _,rfl⟩ (eW [(2,.nm 2),(3,.nm 3)]) (λi=>?_)
 obtain⟨i,hi,g⟩:=i;have I:=λh:i<f.length=>Om (a,hf) f f h;have H:=λh:i<f.length=>AD f (0,[]) h;simp only;repeat'(first|exact trivial|apply eS rfl|refine rX e ?_ ?_|refine rC ?_ ?_<;>intro b<;>try(cases b;done))
 .exact b
 .have q:i<f.length:=IN.1 b;have m:=I q;have r:=H q;obtain⟨y,z⟩:=A _ r;have B:=E _ r;have F:=hs.2 _ r;generalize M:f.getD i (0,[])=x at *;obtain⟨t,L⟩:=x;simp only at m y z B F ⊢;refine AI (ι:={k:Nat//k<=L.length/\FT (a,hf) f t L=FT (a,hf) f t (L.drop k)}) (λk=>⟨[(2,.bp 2 [] 0),(3,.bp 3 [] 0),(7,.bp 7 [] 0),(19,.p Ex f),(20,.p (.int .i64) (f.length:Int)),(21,.p (.int .i64) (i:Int)),(26,.p DM L),(27,.p (.int .i64) (L.length:Int)),(28,.p (.int .i64) (k.1:Int))],[(7,.box 93 true [.p T3 t,.p DM L]),(2,.box 31 true [.p RB a,.p Sv hf]),(3,.box 25 true [.p Ex f])]⟩) (λk=>L.length-k.1) ⟨0,IS _,rfl⟩ (eW [(7,.nm 7),(2,.nm 2),(3,.nm 3)]) (λk=>?_)
  obtain⟨k,hk,c⟩:=k;have v:=λh:k<L.length=>Ug (a,hf) f t L h;have G:=λh:k<L.length=>B _ (AD L (0,0) h);simp only;have J:=HZ (f:=(L.getD k (0,0)).1) o y z;repeat'(first|exact trivial|apply eS rfl|apply AB|refine rX e ?_ ?_|refine rC ?_ ?_<;>intro b<;>try(cases b;done))
  .exact b
  .exact⟨y,z⟩
  .have d:k<L.length:=by exact eV
   rw[v d,BY b]at c;have l:Ae (a,hf) f=10:=by rw[j,g,m,An (by rw[c];simp),c]
   exact fI e [.tmp 4] (by rw[l];exact eR)
  .have d:k<L.length:=by exact eV
   obtain⟨-,D,b1⟩:=G d;exact⟨⟨D,b1⟩,J b,A _ (AD f (0,[]) (by omega))⟩
  .have d:k<L.length:=by exact eV
   have w:(Br (a,hf) t (List.getD L k (0,0)).1).2=true:=by assumption
   rw[v d,An (by rw[w];simp),BY b]at c;have l:Ae (a,hf) f=11:=by rw[j,g,m,An (by rw[c];simp),c]
   exact fI e [.tmp 4] (by rw[l];exact eR)
  .omega
  .have d:k<L.length:=by exact eV
   have w:(Br (a,hf) t (List.getD L k (0,0)).1).2=true:=by assumption
   rw[v d,An (by rw[w];simp),An (by rw[b];simp)]at c;exact⟨⟨k+1,d,c⟩,by simp only;omega,eW [(7,.nm 7),(2,.nm 2),(3,.nm 3)]⟩
  .omega
  have n:L.drop k=[]:=B0 (P6.1 b);rw[n]at c;have c:FT (a,hf) f t L=0:=c;rw[m,BY c]at g;exact⟨⟨i+1,q,g⟩,by simp only;omega,eW [(2,.nm 2),(3,.nm 3)]⟩
 have n:f.drop i=[]:=B0 (P6.1 b);rw[n]at g;have l:Ae (a,hf) f=0:=by rw[j,g];rfl
 exact fI e [.tmp 4] (by rw[l];exact eR)
theorem A5d:Ab Tryz.prog 124 Oi:=by
 refine fK [0,1,2,3,6,7,8,9,19,28] Tryz.func124 Tryz.ntmps124 AH ?_;rintro w0 O0 ⟨⟨b,hf⟩,t,f,u⟩ d q ⟨j,m⟩;simp only[Oi,AM];refine Ev.ent (σ':=⟨[(0,.p ED (b,hf)),(1,.p T3 t),(2,.p T3 f)],[]⟩) ?_ (AC [] rfl rfl ?_ ?_)
 .repeat'(first|exact trivial|apply eS rfl|refine rX d ?_ ?_)
  .exact⟨j,m⟩
  have o:∀l,l=(List.getD b (Int.toNat t) (ByteArray.empty,[],[],[])).2.2.2->Br (b,hf) t f=EU f l:=λl e=>by rw[e];rfl
  have r:List.length (List.getD b (Int.toNat t) (ByteArray.empty,[],[],[])).2.2.2<=140737488355328:=(q.1.1.2 _ (AD (b:List HT) Ub ((AFQ j).2 m))).2.2.2.1;generalize (List.getD b (Int.toNat t) (ByteArray.empty,[],[],[])).2.2.2=l at *;rw[o l rfl];refine AI (ι:={k:Nat//k<=List.length l/\EU f l=EU f (l.drop k)}) (λk=>⟨[(2,.p T3 f),(8,.p XL l),(9,.p (.int .i64) (k.1:Int))],[]⟩) (λk=>List.length l-k.1) ⟨0,IS _,rfl⟩ (eW []) (λk=>?_)
  obtain⟨k,hk,a⟩:=k;have i:=λh:k<List.length l=>X2 f l h;simp only;repeat'(first|exact trivial|apply eS rfl|apply AB|refine rX d ?_ ?_|refine rC ?_ ?_<;>intro c<;>try(cases c;done))
  .exact c
  .exact IN.2 (by exact eV)
  .have g:k<List.length l:=by exact eV
   rw[i g,BY c]at a;exact fI d [.tmp 6,.tmp 7] (by rw[a];exact eR)
  .omega
  .have g:k<List.length l:=by exact eV
   rw[i g,An c]at a;exact⟨⟨k+1,g,a⟩,by simp only;omega,eW []⟩
  have n:List.drop k (l:List (Int×Int))=[]:=B0 (by exact eV);rw[n]at a;have a:EU f l=(0,false):=a;exact fI d [.tmp 6,.tmp 7] (by rw[a];exact eR)
 .exact eN
 exact eN
end
section
attribute [local go_sem] Jb Oi RC
theorem A5e {h:AG} (hk:GB h) {a b:Int} (c:0<=a) (d:a<(h.1.length:Int)) (e:0<=b) (b1:b<(h.1.length:Int)):FA (Bd h b) (Bd h a)=A2 h a b:=by
 have f:=hk.1.wds _ (Ca c d);have g:=hk.1.wds _ (Ca e b1);rw[ABC,Fs g f];exact(B4 hk c d e b1).symm
def f3:AZ:={ ins:=[ED,T3,T3],pre:=λ(h,a,b,_)=>(((0:Int)<=a/\a<(List.length (h:AG).1:Int))/\((0:Int)<=b/\b<(List.length (h:AG).1:Int)))/\GB h,out:=λ(h,a,b,_)=>[.p .bool (A2 h a b)],lend:=true }
attribute [local go_sem] f3
theorem NE:Ab Tryz.prog 104 f3:=by
 refine fK [0,1,2,3,6] Tryz.func104 Tryz.ntmps104 (AF Sz AH) ?_;rintro w0 O0 ⟨⟨e,hf⟩,a,b,u⟩ d-⟨⟨ha,c⟩,hk⟩;have hk:GB (e,hf):=hk;have f:=A5e hk ha.1 ha.2 c.1 c.2;have g:(Bd (e,hf) b).length<=100000:=QB (hk.1.wid _ (Ca c.1 c.2)) (by omega);simp only[f3,AM];repeat'(first|exact trivial|apply eS rfl|refine rX d ?_ ?_)
 .exact⟨c,ha,g⟩
 exact fI d [.tmp 6] (by rw[<-f];unfold Bd;exact eR)
def NF:AZ:={ ins:=[ED,DZ],pre:=λ(h,f,_)=>iE h/\DB f/\GB h,out:=λ(h,f,_)=>[.p MG (Ae h f)] }
attribute [local go_sem] NF
theorem YG:Ab Tryz.prog 69 NF:=by
 refine fK [0,1,2,3,4,5,6,7,8,9,10,15,21,33,53,67] Tryz.func69 Tryz.ntmps69 (AF Nw (AF A5d (AF NE AH))) ?_;rintro w0 O0 ⟨⟨a,hf⟩,f,u⟩ e-⟨n,hs,r⟩;have n:iE (a,hf):=n;have hs:DB f:=hs;have r:GB (a,hf):=r;have I:=hs.1;simp only[NF,AM];repeat'(first|exact trivial|apply eS rfl|refine rX e ?_ ?_|refine rC ?_ ?_<;>intro b<;>try(cases b;done))
 .exact hs
 .have j:Ae (a,hf) f=BE (a,hf) f:=An b;exact fI e [.tmp 4] (by rw[j];exact eR)
 have x:BE (a,hf) f=0:=by simpa using b
 have j:Ae (a,hf) f=Dw (a,hf) f f:=BY x;obtain⟨w,B⟩:=A5c x;refine AI (ι:={i:Nat//i<=f.length/\Dw (a,hf) f f=Dw (a,hf) f (f.drop i)}) (λi=>⟨[(2,.bp 2 [] 0),(3,.bp 3 [] 0),(6,.p (.int .i64) (i.1:Int))],[(2,.box 31 true [.p RB a,.p Sv hf]),(3,.box 25 true [.p Ex f])]⟩) (λi=>f.length-i.1) ⟨0,IS _,rfl⟩ (eW [(2,.nm 2),(3,.nm 3)]) (λi=>?_)
 obtain⟨i,hi,g⟩:=i;have F:=λh:i<f.length=>Om (a,hf) f f h;have E:=λh:i<f.length=>AD f (0,[]) h;simp only;repeat'(first|exact trivial|apply eS rfl|refine rX e ?_ ?_|refine rC ?_ ?_<;>intro b<;>try(cases b;done))
 .exact b
 .have o:i<f.length:=IN.1 b;have s:=F o;have q:=E o;obtain⟨y,z⟩:=w _ q;have C:=B _ q;have H:=hs.2 _ q;generalize J:(f.getD i (0,[])).2=L at *;refine AI (ι:={k:Nat//k<=L.length/\FT (a,hf) f (f.getD i (0,[])).1 L=FT (a,hf) f (f.getD i (0,[])).1 (L.drop k)}) (λk=>⟨[(2,.bp 2 [] 0),(3,.bp 3 [] 0),(6,.p (.int .i64) (i:Int)),(7,.p DM L),(8,.p (.int .i64) (k.1:Int))],[(2,.box 31 true [.p RB a,.p Sv hf]),(3,.box 25 true [.p Ex f])]⟩) (λk=>L.length-k.1) ⟨0,IS _,rfl⟩ (eW [(2,.nm 2),(3,.nm 3)]) (λk=>?_)
  obtain⟨k,hk,c⟩:=k;have t:=λh:k<L.length=>Ug (a,hf) f (f.getD i (0,[])).1 L h;have D:=λh:k<L.length=>C _ (AD L (0,0) h);simp only;have G:=HZ (f:=(L.getD k (0,0)).1) n y z;repeat'(first|exact trivial|apply eS rfl|apply AB|refine rX e ?_ ?_|refine rC ?_ ?_<;>intro b<;>try(cases b;done))
  .exact⟨by assumption,b,y,z⟩
  .have d:k<L.length:=by exact eV
   rw[t d,BY b]at c;have l:Ae (a,hf) f=10:=by rw[j,g,s,An (by rw[c];simp),c]
   exact fI e [.tmp 4] (by rw[l];exact eR)
  .have d:k<L.length:=by exact eV
   obtain⟨-,A,b1⟩:=D d;exact⟨by assumption,⟨A,b1⟩,⟨G b,w _ (AD f (0,[]) (by omega))⟩,r⟩
  .have d:k<L.length:=by exact eV
   have v:(Br (a,hf) (List.getD f i (0,[])).1 (List.getD L k (0,0)).1).2=true:=by assumption
   rw[t d,An (by rw[v];simp),BY b]at c;have l:Ae (a,hf) f=11:=by rw[j,g,s,An (by rw[c];simp),c]
   exact fI e [.tmp 4] (by rw[l];exact eR)
  .omega
  .have d:k<L.length:=by exact eV
   have v:(Br (a,hf) (List.getD f i (0,[])).1 (List.getD L k (0,0)).1).2=true:=by assumption
   rw[t d,An (by rw[v];simp),An (by rw[b];simp)]at c;exact⟨⟨k+1,d,c⟩,by simp only;omega,eW [(2,.nm 2),(3,.nm 3)]⟩
  .omega
  have m:L.drop k=[]:=B0 (P6.1 b);rw[m]at c;have c:FT (a,hf) f (f.getD i (0,[])).1 L=0:=c;rw[s,BY c]at g;exact⟨⟨i+1,o,g⟩,by simp only;omega,eW [(2,.nm 2),(3,.nm 3)]⟩
 have m:f.drop i=[]:=B0 (P6.1 b);rw[m]at g;have l:Ae (a,hf) f=0:=by rw[j,g];rfl
 exact fI e [.tmp 4] (by rw[l];exact eR)
end
section
attribute [local go_sem] Oi
theorem qY (h:AG) (hk:GB h) (hi:ME h) (hf:iE h) (X:h.2.length<=100000) (f:List AE) (P:AR f) (ha:Pl h f) (s:Ed) (hs:OO h f.length s) {n:Int} (n0:0<=n) (n1:n<(f.length:Int)) (T:bJ h s.1+s.2.length<=1000000000) :
  BK Tryz.prog 170 [.bp 1 [] 0,.p DZ f,.p T3 n] (EK h s) [1]
  (λres z=>(L7 h f n s=none/\res=.p .bool false/\∃A,z=EK h A)\/∃A,L7 h f n s=some A/\res=.p .bool true/\z=EK h A):=by
 have H:=NC ha n0 n1;have Z:(f.getD n.toNat (0,[])).2.length<=100000:=(P.2 _ (AD f (0,[]) (by omega))).1;have O:L7 h f n s=(NA h n (f.getD n.toNat (0,[])).2 s).bind (OM h n (f.getD n.toNat (0,[])).2):=rfl;rw[O];refine LQ [0,1,2,4,6,8,10,11,12,18,19,20,21,37,44,45,46,47,76] [] [] Tryz.func170 Tryz.ntmps170 (AF z8 AH) ?_;intro w0 K O0 ρ0 a aa ab;simp only[EK,Aq];repeat'(first|exact trivial|apply eS rfl|refine rX a ?_ ?_)
 .exact⟨n0,n1⟩
 have Y:f.getD n.toNat (0,[])=f.getD n.toNat (0,[]):=rfl;generalize M:(f.getD n.toNat (0,[])).2=L at *;refine AI (ι:={x:Nat×Ed//x.1<=L.length/\OO h f.length x.2/\bJ h x.2.1+x.2.2.length<=1000000000/\NA h n L s=NA h n (L.drop x.1) x.2}) (λx=>⟨[(0,.bp 1 [] 0),(2,.p T3 n),(4,.bp 4 [] 0),(18,.p DM L),(19,.p (.int .i64) (L.length:Int)),(20,.p (.int .i64) (x.1.1:Int))],[(4,.box 25 true [.p Ex f]),(1,.box 205 true [.p ED h,.sr 2 T3 0 x.1.2.1.length,.p F2 x.1.2.2]),(2,.arr 3 T3 x.1.2.1)]⟩) (λx=>L.length-x.1.1) ⟨(0,s),IS _,hs,T,rfl⟩ (eW [(4,.nm 4),(1,.nm 1),(2,.nm 2)]) (λx=>?_)
 obtain⟨⟨k,s1⟩,R,r,C,i⟩:=x;simp only at R r C i ⊢;repeat'(first|exact trivial|apply eS rfl|refine rX a ?_ ?_|refine rC ?_ ?_<;>intro b<;>try(cases b;done))
 .exact b
 .have l:k<L.length:=IN.1 b;have d:NA h n (L.drop k) s1=(DP h s1 n (L6 h (L.getD k (0,0)).1)).bind (NA h n (L.drop (k+1))):=by rw[M9 (0,0) l];rfl
  obtain⟨⟨F,G⟩,u,b1⟩:=H _ (AD L (0,0) l);obtain⟨o,q⟩:=NB hf F G;obtain⟨w,y⟩:=r.get n0 n1;refine cD 12 a ?_ ?_
  .exact⟨F,G⟩
  refine rM a (lI h hk s1 n0 (by rw[r.len];exact n1) w y o q (by omega)) [(1,.nm 1),(2,.nm 2)] [2] ?_ ?_ ?_
  .refine eM ?_;rfl
  .simp only[EK];exact eN
  rintro res z (⟨c,rfl,rfl⟩|⟨s2,c,rfl,rfl⟩)
  .refine⟨[(1,.nm 1),(2,.nm 2)],.p .bool false,EK h s1,rfl,rfl,?_,?_,rfl,rfl,?_⟩
   .simp only[EK];exact eN
   .exact eN
   simp only[EK];refine rL a ?_ ?_
   .trivial
   repeat'(first|exact trivial|apply eS rfl|refine rX a ?_ ?_|refine rC ?_ ?_<;>intro b<;>try(cases b;done))
   refine Ev.ent (σ':=⟨[(6,.p .bool false)],EK h s1⟩) ?_ (AC [(1,.nm 1),(2,.nm 2)] rfl rfl ?_ ?_)
   .exact fM a [.tmp 6] (.p .bool false) eT (.inl ⟨by rw[i,d,c];rfl,rfl,s1,rfl⟩)
   .unfold EK;exact eN
   exact eN
  refine⟨[(1,.nm 1),(2,.nm 2)],.p .bool true,EK h s2,rfl,rfl,?_,?_,rfl,rfl,?_⟩
  .simp only[EK];exact eN
  .exact eN
  simp only[EK];refine rL a ?_ ?_
  .trivial
  obtain⟨D,E,U⟩:=FE hk hi r n0 n1 o q c;repeat'(first|apply eS rfl|apply AB|refine rX a ?_ ?_|refine rC ?_ ?_<;>intro b<;>try(cases b;done))
  .omega
  exact⟨⟨(k+1,s2),l,D,QB E C,by rw[i,d,c];rfl⟩,by simp only;omega,eW [(4,.nm 4),(1,.nm 1),(2,.nm 2)]⟩
 .exact⟨n0,n1⟩
 have B:L.drop k=[]:=B0 (P6.1 b);rw[B]at i;have i:NA h n L s=some s1:=i;rw[i];have N:(List.getD f n.toNat (0,[])).2=L:=M;rw[N];refine AI (ι:={x:Nat×Ed//x.1<=L.length/\OO h f.length x.2/\bJ h x.2.1+x.2.2.length<=1000000000/\(some s1).bind (OM h n L)=OM h n (L.drop x.1) x.2}) (λx=>⟨[(0,.bp 1 [] 0),(2,.p T3 n),(44,.p DM L),(45,.p (.int .i64) (L.length:Int)),(46,.p (.int .i64) (x.1.1:Int))],[(1,.box 205 true [.p ED h,.sr 2 T3 0 x.1.2.1.length,.p F2 x.1.2.2]),(2,.arr 3 T3 x.1.2.1)]⟩) (λx=>L.length-x.1.1) ⟨(0,s1),IS _,r,C,rfl⟩ (eW [(1,.nm 1),(2,.nm 2)]) (λx=>?_)
 obtain⟨⟨j,s2⟩,Q,m,I,g⟩:=x;simp only at Q m I g ⊢;obtain⟨w,y⟩:=m.get n0 n1;repeat'(first|exact trivial|apply eS rfl|refine rX a ?_ ?_|refine rC ?_ ?_<;>intro b<;>try(cases b;done))
 .exact b
 .exact⟨⟨n0,by rw[m.len];exact n1⟩,w,y⟩
 .have l:j<L.length:=IN.1 b;have d:OM h n (L.drop j) s2=if (Br h (s2.1.getD n.toNat 0) (L.getD j (0,0)).1).2=true then (DP h s2 (L.getD j (0,0)).2 (Br h (s2.1.getD n.toNat 0) (L.getD j (0,0)).1).1).bind (OM h n (L.drop (j+1))) else none:=by rw[M9 (0,0) l];rfl
  obtain⟨-,u,b1⟩:=H _ (AD L (0,0) l);have S:=λe=>HZ (f:=(L.getD j (0,0)).1) hf w y e;generalize Br h (s2.1.getD n.toNat 0) (L.getD j (0,0)).1=v at *;obtain⟨t,ok⟩:=v;refine evP a 3 ?_ ?_
  .trivial
  cases ok with
  | false =>
   rw[An (by simp)]at d;refine rL a ?_ ?_
   .trivial
   repeat'(first|exact trivial|apply eS rfl|refine rX a ?_ ?_|refine rC ?_ ?_<;>intro b<;>try(cases b;done))
   refine Ev.ent (σ':=⟨[(6,.p .bool false)],EK h s2⟩) ?_ (AC [(1,.nm 1),(2,.nm 2)] rfl rfl ?_ ?_)
   .exact fM a [.tmp 6] (.p .bool false) eT (.inl ⟨by rw[g,d],rfl,s2,rfl⟩)
   .unfold EK;exact eN
   exact eN
  | true =>
   rw[BY rfl]at d;obtain⟨o,q⟩:=S rfl;simp only at o q d;obtain⟨V,W⟩:=m.get u b1;refine rN 4 a ?_ ?_
   .trivial
   refine clG a (lI h hk s2 u (by rw[m.len];exact b1) V W o q (by omega)) [(1,.nm 1),(2,.nm 2)] [2] ?_ ?_ ?_
   .exact eN
   .simp only[EK];exact eN
   rintro res z (⟨c,rfl,rfl⟩|⟨J,c,rfl,rfl⟩)
   .refine⟨[(1,.nm 1),(2,.nm 2)],.p .bool false,EK h s2,rfl,rfl,?_,?_,rfl,rfl,?_⟩
    .simp only[EK];exact eN
    .exact eN
    simp only[EK];refine rL a ?_ ?_
    .trivial
    repeat'(first|exact trivial|apply eS rfl|refine rX a ?_ ?_|refine rC ?_ ?_<;>intro b<;>try(cases b;done))
    refine Ev.ent (σ':=⟨[(6,.p .bool false)],EK h s2⟩) ?_ (AC [(1,.nm 1),(2,.nm 2)] rfl rfl ?_ ?_)
    .exact fM a [.tmp 6] (.p .bool false) eT (.inl ⟨by rw[g,d,c];rfl,rfl,s2,rfl⟩)
    .unfold EK;exact eN
    exact eN
   refine⟨[(1,.nm 1),(2,.nm 2)],.p .bool true,EK h J,rfl,rfl,?_,?_,rfl,rfl,?_⟩
   .simp only[EK];exact eN
   .exact eN
   simp only[EK];refine rL a ?_ ?_
   .trivial
   obtain⟨D,E,U⟩:=FE hk hi m u b1 o q c;repeat'(first|apply eS rfl|apply AB|refine rX a ?_ ?_|refine rC ?_ ?_<;>intro b<;>try(cases b;done))
   .omega
   exact⟨⟨(j+1,J),l,D,QB E I,by rw[g,d,c];rfl⟩,by simp only;omega,eW [(1,.nm 1),(2,.nm 2)]⟩
 have B:L.drop j=[]:=B0 (P6.1 b);rw[B]at g;have g:(some s1).bind (OM h n L)=some s2:=g;refine Ev.ent (σ':=⟨[(6,.p .bool true)],EK h s2⟩) ?_ (AC [(1,.nm 1),(2,.nm 2)] rfl rfl ?_ ?_)
 .exact fM a [.tmp 6] (.p .bool true) eT (.inr ⟨s2,g,rfl,rfl⟩)
 .unfold EK;exact eN
 exact eN
end
section
def f4:AZ:={ ins:=[Ex],pre:=λ(l,_)=>List.length l<=100000,out:=λ(l,_)=>[.own 93 Mn l] }
attribute [local go_sem] f4
theorem A27:Ab Tryz.prog 171 f4:=by
 refine fK [0,2,4] Tryz.func171 Tryz.ntmps171 AH ?_;rintro w0 O0 ⟨l,u⟩ a-d;have d:List.length l<=100000:=d;simp only[f4,AM];repeat'(first|exact trivial|apply eS rfl|refine rX a ?_ ?_)
 refine cP 1 a ?_ ?_
 .trivial
 refine A1i a false rfl rfl ?_;intro b e;refine rL a ?_ ?_
 .trivial
 repeat'(first|exact trivial|apply eS rfl|refine rX a ?_ ?_|refine rC ?_ ?_<;>intro c<;>try(cases c;done))
 .have f:l=[]:=e c;subst f;refine Ev.ent (σ':=⟨[(2,.sr 5 Mn 0 0)],[(5,.arr 93 Mn [])]⟩) ?_ (AC [(5,.nil)] rfl rfl ?_ ?_)
  .exact O7 a (.inl rfl) (rv:=.tmp 2) rfl (by simp only[Lt,Jt,IM,go_sem,Nat.reduceEqDiff,reduceCtorEq,Nat.reduceAdd,Nat.reduceSub,Nat.reduceMul,Nat.reduceLeDiff,Nat.reduceLT,Int.reduceLE,Int.reduceToNat,Int.reduceNeg,↓reduceIte])
  .exact eN
  exact eN
 .simp only[AQ];omega
 exact O7 a (.inl rfl) (rv:=.tmp 2) rfl (by simp only[Lt,Jt,IM,go_sem,Nat.reduceEqDiff,reduceCtorEq,Nat.reduceAdd,Nat.reduceSub,Nat.reduceMul,Nat.reduceLeDiff,Nat.reduceLT,Int.reduceLE,Int.reduceToNat,Int.reduceNeg,↓reduceIte])
structure AB3 (h:AG) (f:List AE):Prop where
 ok:GB h
 inj:ME h
 ft:iE h
 fl:h.2.length<=100000
 good:AR f
 arcs:Pl h f
 ty:∀x∈f,0<=x.1/\x.1<(h.1.length:Int)
def TK:AZ:={ ins:=[ED,DZ],pre:=λ(h,f,_)=>AB3 h f,out:=λ(h,f,_)=>[.p DZ (G0 h f).1,.p .bool (G0 h f).2] }
theorem Dx (f:List AE) (ty:List Int):(FL f ty).length=f.length:=by simp[FL]
theorem IA (f:List AE) (ty:List Int) {i:Nat} (h:i<f.length):(FL f ty).getD i (0,[])=(ty.getD i 0,(f.getD i (0,[])).2):=by
 unfold FL;simp[AS,h]
theorem A28 {α:Type} (F f:List α) (d:α) (b:F.length=f.length) {j:Nat} (h:j<f.length):(F.take j++f.drop j).set j (F.getD j d)=F.take (j+1)++f.drop (j+1)/\(F.take j++f.drop j).getD j d=f.getD j d:=by
 have h1:(F.take j).length=j:=by rw[OS];omega
 have a:f.drop j=f.getD j d :: f.drop (j+1):=by
  rw[OR h,AS,At h];rfl
 constructor
 .rw[Au F d (by omega),AEv _ _ (by omega),h1,tO,a];simp
 rw[AS,QR (by omega),h1,tO,a];rfl
theorem A5f:Ab Tryz.prog 127 TK:=by
 refine fK [0,1,2,3,4,5,6,7,8,9,10,11,16,17,18,19,51,64,72,73,74] Tryz.func127 Tryz.ntmps127 (AF A27 AH) ?_;rintro w0 O0 ⟨⟨a,hf⟩,f,u⟩ c-hp;have hp:AB3 (a,hf) f:=hp;have D:=A5a (a,hf) f;have w:=hp.good.1;have S:Ol (a,hf) f<=30000000:=by
  have h1:a.length<=256:=hp.ok.2;have C:f.length*a.length<=100000*256:=Nat.mul_le_mul w h1;have R:f.length*(a,hf).1.length<=100000*256:=C;unfold Ol;omega
 have J:=A59 hp.ty;simp only[TK,AM];repeat'(first|exact trivial|apply eS rfl|refine rX c ?_ ?_)
 refine AI (ι:={i:Nat//i<=f.length}) (λi=>⟨[(3,.bp 3 [] 0),(4,.bp 4 [] 0),(6,.bp 14 [] 0),(16,.p Ex f),(17,.p (.int .i64) (f.length:Int)),(18,.p (.int .i64) (i.1:Int))],[(3,.box 25 true [.p Ex f]),(4,.box 25 true [.raw (.slice none 0 0)]),(14,.box 205 true [.p ED (a,hf),.sr 31 T3 0 i.1,.sr 41 T3 0 i.1]),(31,.arr 3 T3 ((Bb f).take i.1)),(41,.arr 3 T3 ((Ei f).take i.1))]⟩) (λi=>f.length-i.1) ⟨0,IS _⟩ (eW [(3,.nm 3),(4,.nm 4),(14,.nm 14),(31,.nil),(41,.nil)]) (λi=>?_)
 obtain⟨i,hi⟩:=i;have tl:((Bb f).take i).length=i:=by rw[OS];simp[Bb];omega
 have X:((Ei f).take i).length=i:=by rw[OS];simp[Ei];omega
 have ts:i<f.length->(Bb f).take i++[(f.getD i (0,[])).1]=(Bb f).take (i+1):=λh=>by
  rw[Au (Bb f) 0 (by simpa[Bb] using h)];simp[Bb,AS,h]
 have P:i<f.length->(Ei f).take i++[(i:Int)]=(Ei f).take (i+1):=λh=>by
  rw[Au (Ei f) 0 (by simpa[Ei] using h)];simp[Ei,AS,h]
 repeat'(first|exact trivial|apply eS rfl|refine rX c ?_ ?_|refine rC ?_ ?_<;>intro b<;>try(cases b;done))
 .exact b
 .have g:i<f.length:=IN.1 b;have O:=ts g;have Q:=P g;refine CQ drawsAny c 9 [([1,2,3,4,5,6,7],8)] [0] (by kernel_rfl) (MF ?_ ?_)
  .trivial
  refine OL c [31] ?_ ?_
  .simp only[AQ];omega
  refine Ss c ?_ ?_ ?_
  .trivial
  .trivial
  repeat'(first|apply eS rfl|apply AB|refine rX c ?_ ?_)
  .simp only[AQ];omega
  .omega
  refine⟨⟨i+1,g⟩,by simp only;omega,AC [(3,.nm 3),(4,.nm 4),(14,.nm 14),(31,.nm 31),(41,.nm 41)] rfl rfl ?_ ?_⟩
  .simp only[<-O,<-Q];refine eM ?_;simp only[AGd,Nat.min_self,and_self]
  exact eN
 have g:i=f.length:=by
  have:=P6.1 b;omega
 subst g;have et:(Bb f).take f.length=Bb f:=As (by simp[Bb]);have v:(Ei f).take f.length=Ei f:=As (by simp[Ei]);have N:(Bb f).length=f.length:=by simp[Bb]
 have Y:(Ei f).length=f.length:=by simp[Ei]
 rw[et,v];have B:(Ei f).take f.length=Ei f:=v;refine Fe [41] ?_;rw[B];refine AI (ι:={x:Nat×Ed//OO (a,hf) f.length x.2/\bJ (a,hf) x.2.1+x.2.2.length+1<=Ol (a,hf) f/\x.1<=x.2.2.length/\∃k,bJ (a,hf) x.2.1+x.2.2.length+1<=k+x.1/\wlF (a,hf) f k x.1 x.2=Iv (a,hf) f}) (λx=>⟨[(3,.bp 3 [] 0),(4,.bp 4 [] 0),(6,.bp 14 [] 0),(9,.p (.int .i64) (x.1.1:Int))],[(3,.box 25 true [.p Ex f]),(4,.box 25 true [.raw (.slice none 0 0)]),(14,.box 205 true [.p ED (a,hf),.sr 31 T3 0 x.1.2.1.length,.p F2 x.1.2.2]),(31,.arr 3 T3 x.1.2.1)]⟩) (λx=>bJ (a,hf) x.1.2.1+x.1.2.2.length-x.1.1) ⟨(0,Bb f,Ei f),J,D,IS _,Ol (a,hf) f,by simp only;omega,rfl⟩ (AC [(3,.nm 3),(4,.nm 4),(14,.nm 14),(31,.nm 31)] rfl rfl ?_ ?_) (λx=>?_)
 .simp only[N];exact eN
 .exact eN
 obtain⟨⟨i,s⟩,hs,I,hi,k,hk,e⟩:=x;simp only at hs I hi hk e ⊢;repeat'(first|exact trivial|apply eS rfl|refine rX c ?_ ?_|refine rC ?_ ?_<;>intro b<;>try(cases b;done))
 .have m:i<s.2.length:=IN.1 b;obtain⟨z,A⟩:=hs.wt _ (AD s.2 (0:Int) m);obtain⟨k,rfl⟩:∃t,k=t+1:=⟨k-1,by omega⟩;have r:wlF (a,hf) f (k+1) i s=(L7 (a,hf) f (s.2.getD i 0) s).bind (wlF (a,hf) f k (i+1)):=BY m;rw[r]at e;refine cD 9 c ?_ ?_
  .exact b
  refine rM c (qY (a,hf) hp.ok hp.inj hp.ft hp.fl f hp.good hp.arcs s hs z A (by omega)) [(1,.nm 14),(2,.nm 31)] [31] ?_ ?_ ?_
  .exact eN
  .simp only[EK];exact eN
  rintro res W (⟨l,rfl,d,rfl⟩|⟨d,l,rfl,rfl⟩)
  .refine⟨[(14,.nm 1),(31,.nm 2)],.p .bool false,[(14,.box 205 true [.p ED (a,hf),.sr 31 T3 0 d.1.length,.p F2 d.2]),(31,.arr 3 T3 d.1)],rfl,rfl,?_,?_,rfl,rfl,?_⟩
   .simp only[EK];exact eN
   .exact eN
   refine rL c ?_ ?_
   .trivial
   repeat'(first|exact trivial|apply eS rfl|refine rX c ?_ ?_|refine rC ?_ ?_<;>intro b<;>try(cases b;done))
   have o:G0 (a,hf) f=([],false):=by unfold G0;rw[<-e,l];rfl
   exact fI c [.cell 4 25,.tmp 5] (by rw[o];exact eR)
  obtain⟨M,U,V⟩:=YA hp.ok hp.inj hp.ft hp.arcs z A hs l;rw[l]at e;refine⟨[(14,.nm 1),(31,.nm 2)],.p .bool true,[(14,.box 205 true [.p ED (a,hf),.sr 31 T3 0 d.1.length,.p F2 d.2]),(31,.arr 3 T3 d.1)],rfl,rfl,?_,?_,rfl,rfl,?_⟩
  .simp only[EK];exact eN
  .exact eN
  refine rL c ?_ ?_
  .trivial
  repeat'(first|apply eS rfl|apply AB|refine rX c ?_ ?_|refine rC ?_ ?_<;>intro b<;>try(cases b;done))
  .omega
  exact⟨⟨(i+1,d),M,by simp only;omega,by simp only;omega,k,by simp only;omega,e⟩,by simp only;omega,eW [(3,.nm 3),(4,.nm 4),(14,.nm 14),(31,.nm 31)]⟩
 .exact w
 have m:¬i<s.2.length:=λh=>by
  have:=P6.1 b;omega
 obtain⟨k,rfl⟩:∃t,k=t+1:=⟨k-1,by omega⟩;have r:wlF (a,hf) f (k+1) i s=some s.1:=An m;have o:G0 (a,hf) f=(FL f s.1,true):=by unfold G0;rw[<-e,r]
 have q:=Dx f s.1;have K:=λi h=>IA f s.1 (i:=i) h;generalize hT:FL f s.1=F at *;have L:=hs.len;refine AI (ι:={j:Nat//j<=f.length}) (λj=>⟨[(4,.bp 4 [] 0),(6,.bp 14 [] 0),(10,.bp 10 [] 0),(72,.p (.int .i64) (f.length:Int)),(73,.p (.int .i64) (j.1:Int))],[(10,.box 25 true [.sr 68 Mn 0 f.length]),(68,.arr 93 Mn (F.take j.1++f.drop j.1)),(4,.box 25 true [.raw (.slice none 0 0)]),(14,.box 205 true [.p ED (a,hf),.sr 31 T3 0 s.1.length,.p F2 s.2]),(31,.arr 3 T3 s.1)]⟩) (λj=>f.length-j.1) ⟨0,IS _⟩ (eW [(10,.nm 10),(68,.nm 68),(4,.nm 4),(14,.nm 14),(31,.nm 31)]) (λj=>?_)
 obtain⟨j,T⟩:=j;have H:=λh:j<f.length=>A28 F f (0,[]) q h;repeat'(first|exact trivial|apply eS rfl|apply AB|refine rX c ?_ ?_|refine rC ?_ ?_<;>intro b<;>try(cases b;done))
 .exact⟨by rw[L];exact b,b⟩
 .omega
 .have n:j<f.length:=IN.1 b;obtain⟨y,G⟩:=H n;rw[K j n]at y;refine⟨⟨j+1,n⟩,by simp only;omega,AC [(10,.nm 10),(68,.nm 68),(4,.nm 4),(14,.nm 14),(31,.nm 31)] rfl rfl ?_ ?_⟩
  .simp only[<-y];refine eM ?_;rw[G]
  exact eN
 have hF:F.take j=F:=As (by rw[q];exact P6.1 b);have E:List.drop j f=[]:=B0 (P6.1 b);rw[hF,E,QQ];exact fI c [.cell 4 25,.tmp 5] (by rw[o];first|exact eR|refine UO ?_;exact As (by rw[q];exact Is _))
end
section
open Go
end
abbrev AA9:=List (List (Int×Int))
def AFu (v:AA9) (s:List Bool×Bool) (i:Nat):List Bool×Bool:=if (s.1.getD i false&&!((v.getD i []).any λa=>s.1.getD a.2.toNat false))=true then (s.1.set i false,true) else s
def rB (v:AA9) (l:List Bool) (i:Nat):List Bool×Bool:=(List.range i).foldl (AFu v) (l,false)
structure MI (m:List (Int×Bool)) (l:List Bool):Prop where
 nd:(m.map (·.1)).Nodup
 get:∀k:Int,Bg T3 .bool k m=if 0<=k/\l.getD k.toNat false=true then some true else none
theorem A05 (k:Int) (v:Bool):∀ {m:List (Int×Bool)},(m.map (·.1)).Nodup->((Gc T3 .bool k v m).map (·.1)).Nodup/\∀x,x∈(Gc T3 .bool k v m).map (·.1)->x=k\/x∈m.map (·.1)
 | [],_=>by simp[Gc]
 | y :: m,h=>by
  rw[QM,TO]at h;unfold Gc;split
  .rename_i e;have e:k=y.1:=by simpa[IC] using e
   refine⟨?_,λx a=>?_⟩
   .rw[QM,TO,e];exact h
   rcases DO.1 a with a|a
   .exact .inl a
   exact .inr (NO _ a)
  rename_i e;have e:¬k=y.1:=by simpa[IC] using e
  obtain⟨c,b⟩:=A05 k v h.2;refine⟨?_,λx a=>?_⟩
  .rw[QM,TO];refine⟨λd=>?_,c⟩;rcases b _ d with a|a
   .exact e a.symm
   exact h.1 a
  rcases DO.1 a with a|a
  .exact .inr (by rw[a];simp)
  exact(b x a).imp id λg=>NO _ g
theorem mC (k:Int):∀m:List (Int×Bool),(o4 T3 .bool k m).Sublist m
 | []=>List.Sublist.refl _
 | y :: m=>by
  unfold o4;split
  .exact List.sublist_cons_self _ _
  exact(mC k m).cons_cons _
theorem bQ {x:Int}:∀ {m:List (Int×Bool)},x∉m.map (·.1)->Bg T3 .bool x m=none
 | [],_=>rfl
 | y :: m,h=>by
  unfold Bg;rw[An (by
   intro e;have e:x=y.1:=by simpa[IC] using e
   exact h (by rw[e];simp))]
  exact bQ λa=>h (NO _ a)
theorem bS (x k:Int):∀ {m:List (Int×Bool)},(m.map (·.1)).Nodup->Bg T3 .bool x (o4 T3 .bool k m)=if x=k then none else Bg T3 .bool x m
 | [],_=>by simp[o4,Bg]
 | y :: m,h=>by
  rw[QM,TO]at h;unfold o4;split
  .rename_i e;have e:k=y.1:=by simpa[IC] using e
   by_cases a:x=k
   .rw[BY a,a,e];exact bQ h.1
   rw[An a];have c:¬x=y.1:=by rw[<-e];exact a
   simp[Bg,IC,c]
  rename_i e;have e:¬k=y.1:=by simpa[IC] using e
  have f:=bS x k h.2;by_cases b:x=y.1
  .have d:¬x=k:=by rw[b];exact λg=>e g.symm
   rw[An d];simp[Bg,IC,b]
  have hn:¬IC T3 x y.1=true:=by simpa[IC] using b
  simp only[Bg];rw[An hn,An hn,f]
theorem MI.zero:MI [] (List.replicate 0 true):=⟨List.nodup_nil,λk=>by simp[Bg]⟩
theorem MI.put {m:List (Int×Bool)} {i:Nat} (h:MI m (List.replicate i true)):MI (Gc T3 .bool (i:Int) true m) (List.replicate (i+1) true):=by
 refine⟨(A05 _ _ h.nd).1,λ(k:Int)=>?_⟩;rw[X8,h.get];by_cases hk:k=(i:Int)
 .rw[BY hk,BY];subst hk;refine⟨To _,?_⟩;simp[AS,gO]
 rw[An hk];have e:(0<=k/\(List.replicate i true).getD k.toNat false=true)↔(0<=k/\(List.replicate (i+1) true).getD k.toNat false=true):=by
  simp only[AS,gO];constructor
  .rintro⟨a,b⟩;refine⟨a,?_⟩;split at b
   .rw[BY (by omega)];rfl
   simp at b
  rintro⟨a,b⟩;refine⟨a,?_⟩;split at b
  .rw[BY (by omega)];rfl
  simp at b
 by_cases c:0<=k/\(List.replicate i true).getD k.toNat false=true
 .rw[BY c,BY (e.1 c)]
 rw[An c,An λg=>c (e.2 g)]
theorem MI.del {m:List (Int×Bool)} {l:List Bool} (h:MI m l) (i:Nat):MI (o4 T3 .bool (i:Int) m) (l.set i false):=by
 refine⟨h.nd.sublist ((mC _ m).map _),λ(k:Int)=>?_⟩;rw[bS _ _ h.nd,h.get];by_cases hk:k=(i:Int)
 .subst hk;rw[BY rfl,An];rintro⟨-,b⟩;rw[P0]at b;simp only[AS,aT]at b;rw[BY trivial]at b;split at b<;>simp at b
 rw[An hk];by_cases a:0<=k
 .have c:¬i=k.toNat:=by omega
  simp only[AS,aT];rw[An c]
 rw[An λg=>a g.1,An λg=>a g.1]
theorem N0 {x:Int}:∀ {m:List (Int×Bool)},x∈m.map (·.1)->Bg T3 .bool x m≠none
 | y :: m,h=>by
  unfold Bg;split
  .simp
  rename_i e;rcases DO.1 h with h|h
  .exact absurd (by simp[IC,h]) e
  exact N0 h
theorem MI.len {m:List (Int×Bool)} {l:List Bool} (h:MI m l):m.length<=l.length:=by
 have h1:((m.map (·.1)).map Int.toNat).Nodup:=by
  rw[List.Nodup,VV];refine h.nd.imp_of_mem λ{a b:Int} ha d i e=>i ?_;have h1:=N0 ha;have c:=N0 d;rw[h.get]at h1 c;have n:0<=a:=GO λg=>h1 (An λq=>g q.1);have o:0<=b:=GO λg=>c (An λq=>g q.1);omega
 have:=EX l.length _ h1 (λj f=>by
  obtain⟨x,k,rfl⟩:=Do.1 f;have h1:=N0 k;rw[h.get]at h1;refine GO λhn=>h1 (An λg=>?_);have:=g.2;rw[AS,QH (by omega)]at this;cases this)
 simpa using this
section
open Go
end
def A29 (N:List AE) (i:Nat) (v:Int×Int):List AE:=N.set i ((N.getD i (0,[])).1,(N.getD i (0,[])).2++[(v.1,(N.length:Int))])++[(v.2,[])]
theorem A5g (N:List AE) (i:Nat) (v:Int×Int):(A29 N i v).length=N.length+1:=by simp[A29]
structure TI2 (h:AG) (m i k:Nat) (N:List AE):Prop where
 len:N.length<=m
 ty:∀x∈N,0<=x.1/\x.1<(h.1.length:Int)
 lo:∀j,j<i->(N.getD j (0,[])).2.length<=200
 at':(N.getD i (0,[])).2.length<=100+k
 hi:∀j,i<j->(N.getD j (0,[])).2.length<=100
theorem A5h {α:Type} (l:List α) (x d:α) (j:Nat):(l++[x]).getD j d=if j<l.length then l.getD j d else if j=l.length then x else d:=by
 simp only[AS];by_cases h:j<l.length
 .rw[BY h,QN h]
 rw[An h,QR (by omega)];by_cases e:j=l.length
 .rw[BY e,e,tO];rfl
 rw[An e,QH (by simp only[Pz];omega)];rfl
theorem OA {α:Type} (l:List α) (x d:α) {i:Nat} (h:i<l.length) (j:Nat):(l.set i x).getD j d=if j=i then x else l.getD j d:=by
 simp only[AS,aT];by_cases e:i=j
 .rw[BY e,BY h,BY e.symm];rfl
 rw[An e,An (show ¬j=i by omega)]
theorem A5i {N:List AE} {i:Nat} (h:i<N.length) (v:Int×Int) (j:Nat):(A29 N i v).getD j (0,[])=if j=i then ((N.getD i (0,[])).1,(N.getD i (0,[])).2++[(v.1,(N.length:Int))]) else if j=N.length then (v.2,[]) else N.getD j (0,[]):=by
 unfold A29;rw[A5h,OA _ _ _ h,SL];by_cases a:j=i
 .rw[BY a,BY (by omega),BY a]
 rw[An a,An a];by_cases c:j<N.length
 .rw[BY c,An (by omega)]
 rw[An c];by_cases b:j=N.length
 .rw[BY b,BY b]
 rw[An b,An b,AS,QH (by omega)];rfl
theorem TI2.add {h:AG} {m i k:Nat} {N:List AE} (b:TI2 h m i k N) (hi:i<N.length) (f:4096<=m) (e:N.length<4096) {v:Int×Int} (v0:0<=v.2) (v1:v.2<(h.1.length:Int)):TI2 h m i (k+1) (A29 N i v):=by
 have c:=λj=>A5i hi v j;refine⟨by rw[A5g];omega,λx a=>?_,λj d=>?_,?_,λj d=>?_⟩
 .unfold A29 at a;rcases OF.1 a with a|a
  .rcases AAP a with a|rfl
   .exact b.ty x a
   exact(b.ty (N.getD i (0,[])) (AD N (0,[]) hi) :)
  rw[QL.1 a];exact⟨v0,v1⟩
 .rw[c,An (by omega),An (by omega)];exact b.lo j d
 .rw[c,BY rfl];have:=b.at';simp only[IF,Pz];omega
 rw[c,An (by omega)];split
 .simp
 exact b.hi j d
theorem TI2.skip {h:AG} {m i k:Nat} {N:List AE} (a:TI2 h m i k N):TI2 h m i (k+1) N:=⟨a.len,a.ty,a.lo,by have:=a.at';omega,a.hi⟩
theorem TI2.next {h:AG} {m i k:Nat} {N:List AE} (a:TI2 h m i k N) (hk:k<=100):TI2 h m (i+1) 0 N:=⟨a.len,a.ty,λj b=>by
 by_cases e:j=i
 .have:=a.at';rw[e];omega
 exact a.lo j (by omega),a.hi (i+1) (by omega),λj b=>a.hi j (by omega)⟩
section
attribute [local go_sem] TK Rm
attribute [local go_sem] tW AAQ ne_eq not_false_eq_true
end
section
attribute [local go_sem] KZ KX Ld Jb
end
section
open Go
end
theorem getD_set_ne {α:Type} (l:List α) (d v:α) {i j:Nat} (h:i≠j):(l.set i v).getD j d=l.getD j d:=by
 simp only[AS];rw[List.getElem?_set_ne h]
theorem Zb {α:Type} (l:List α) (d v:α) {i:Nat} (h:i<l.length):(l.set i v).getD i d=v:=by
 simp only[AS];rw[AFH h];rfl
section
open Go
end
section
attribute [local go_sem] Dl
end
section
attribute [local go_sem] Dl
def YH (l:List (Int×Int)) (x:Int):Int:=l.foldl (λt a=>if a.1=x then a.2 else t) (-1)
end
section
attribute [local go_sem] J4 bB
end
abbrev AO (f:List AE) (n:Int):List (Int×Int):=(f.getD n.toNat (0,[])).2
def BX (f:List AE):Int->List Int->Option Int
 | n,[]=>some n
 | n,x :: r=>if YH (AO f n) x<0 then none else BX f (YH (AO f n) x) r
theorem Lg (f:List AE):∀(p:List Int) (n m x:Int),BX f n p=some m->BX f n (p++[x])=if YH (AO f m) x<0 then none else some (YH (AO f m) x)
 | [],n,m,x,h=>by
  simp only[BX,ZE]at h;subst h;rfl
 | y :: p,n,m,x,h=>by
  simp only[BX,oF]at h ⊢;split at h
  .cases h
  rename_i a;rw[An a];exact Lg f p _ m x h
theorem f5 {l:List (Int×Int)} (h:l.Pairwise (λa b=>a.1<b.1)) {a:Int×Int} (ha:a∈l):YH l a.1=a.2:=by
 have k:∀(l:List (Int×Int)) (t:Int),(∀b∈l,¬b.1=a.1)->l.foldl (λt b=>if b.1=a.1 then b.2 else t) t=t:=by
  intro l;induction l with
  | nil=>intro t _;rfl
  | cons b l j =>
   intro t d;rw[ON,An (d b (by simp))];exact j t (λc i=>d c (by simp[i]))
 obtain⟨n,m,rfl⟩:=List.append_of_mem ha;rw[AAm,SK]at h;obtain⟨-,⟨f,-⟩,-⟩:=h;unfold YH;rw[AF8,ON,BY rfl];exact k m _ (λb g e=>by have:=f b g;omega)
theorem Oo {f:List AE} (h:EI f=true):AL f 0=f:=by
 obtain⟨d,hs,h0,_⟩:=ND h;unfold EI at h;simp only[AT,SJ]at h;obtain⟨_,a,b⟩:=h;have c:(A9 f).1=Ja f 0:=by
  unfold A9 at a ⊢;split at a
  .rename_i hh;rw[BY hh]
  rename_i hh;exact absurd a hh
 rw[c]at b;rw[<-It d hs (by omega) (by omega)];exact Jf b
theorem qZ {b:Int->Int×Int->Bool} {f:List AE} (h:∀i,i<f.length->∀a∈(f.getD i (0,[])).2,b (i:Int) a=true):Gk b f f.length=f:=by
 apply SH
 .exact Kb _ _ _
 intro i h1 c;have e:f.getD i (0,[])=f[i]:=by simp[AS,c]
 have:=h i c;simp only[Gk,AAn,AAe,A5b];rw[List.filter_eq_self.2 this,e]
theorem q9 {b:Int->Int×Int->Bool} {f:List AE} (c:EI f=true) (h:∀i,i<f.length->∀a∈(f.getD i (0,[])).2,b (i:Int) a=true):YB b f=f:=by
 unfold YB;rw[qZ h];exact Oo c
theorem mD {f:List AE} (hf:AR f):∀(k:Nat) (o:List Int) (n:Int),Kp f o->0<=n->n<f.length->n∉o->f.length-o.length<=k->Co f (k+1) o n=Co f k o n
 | 0,o,n,h,h0,h1,c,hk=>by
  have:=(h.snoc h0 h1 c).len;grind
 | k+1,o,n,h,h0,h1,c,hk=>by
  rw[CN,CN];have key:∀(l:List (Int×Int)) (t:List Int),(∀a∈l,0<=a.2/\a.2<(f.length:Int))->Kp f t->f.length-t.length<=k->l.foldl (Ac f (k+1)) t=l.foldl (Ac f k) t:=by
   intro l;induction l with
   | nil=>intros;rfl
   | cons a l p =>
    intro t e m j;have g:=e a (by simp);have hs:Ac f (k+1) t a=Ac f k t a:=by
     unfold Ac;split
     .rfl
     rename_i hn;exact mD hf k t a.2 m g.1 g.2 hn j
    have d:Kp f (Ac f k t a)/\t <+: Ac f k t a:=by grind [Ac,EL]
    rw[ON,ON,hs];have:=d.2.length_le;exact p _ (λb i=>e b (by simp[i])) d.1 (by omega)
  exact key _ _ (λa ha=>Ah hf ha) (h.snoc h0 h1 c) (by simp only[IF,Pz];omega)
theorem GV (f:List AE):Kp f []:=⟨by simp,λx a=>by cases a⟩
theorem Rp {f:List AE} (hf:AR f) {n:Int} (h0:0<=n) (h1:n<f.length):∀m,Co f (f.length+m) [] n=Co f f.length [] n
 | 0=>rfl
 | m+1=>by
  rw[<-AGh,mD hf _ [] n (GV f) h0 h1 (by simp) (by simp only[ZM];omega)];exact Rp hf h0 h1 m
structure Iso (Q R:List AE) (ψ:Int->Int) (C:Int->Prop):Prop where
 arc:∀i,C i->AO R (ψ i)=(AO Q i).map λa=>(a.1,ψ a.2)
 cl:∀i,C i->∀a∈AO Q i,C a.2
 inj:∀i j,C i->C j->ψ i=ψ j->i=j
theorem Rq {Q R:List AE} {c:Int->Int} {d:Int->Prop} (h:Iso Q R c d):∀(k:Nat) (t:List Int) (i:Int),(∀x∈t,d x)->d i->Co R k (t.map c) (c i)=(Co Q k t i).map c/\∀x∈Co Q k t i,d x
 | 0,t,i,f,hi=>⟨rfl,f⟩
 | k+1,t,i,f,hi=>by
  have key:∀(l:List (Int×Int)) (t:List Int),(∀a∈l,d a.2)->(∀x∈t,d x) ->
    (l.map λa=>(a.1,c a.2)).foldl (Ac R k) (t.map c)=(l.foldl (Ac Q k) t).map c/\∀x∈l.foldl (Ac Q k) t,d x:=by
   intro l;induction l with
   | nil=>intro t _ f;exact⟨rfl,f⟩
   | cons a l q =>
    intro t j f;have ha:=j a (by simp);have hs:Ac R k (t.map c) (a.1,c a.2)=(Ac Q k t a).map c/\∀x∈Ac Q k t a,d x:=by
     unfold Ac;by_cases m:a.2∈t
     .grind
     have p:¬c a.2∈t.map c:=by
      intro hh;obtain⟨x,g,e⟩:=Do.1 hh;exact m (h.inj x a.2 (f x g) ha e▸g)
     rw[An m];simp only[An p];exact Rq h k t a.2 f ha
    rw[QM,ON,ON,hs.1];exact q _ (λb o=>j b (by simp[o])) hs.2
  rw[CN,CN];have e:t.map c++[c i]=(t++[i]).map c:=by simp
  have n:(R.getD (c i).toNat (0,[])).2=(AO Q i).map λa=>(a.1,c a.2):=h.arc i hi;rw[n,e];refine key _ _ (h.cl i hi) λx g=>?_;grind
theorem mE {o:List Int} {a:Int->Int} {x:Int} (h:∀y∈o,a y=a x->y=x):Bh (o.map a) (a x)=Bh o x:=by
 have hi:(o.map a).idxOf (a x)=o.idxOf x:=by
  induction o with
  | nil=>rfl
  | cons y o c =>
   rw[QM,List.idxOf_cons,List.idxOf_cons];have b:=h y (by simp);by_cases e:y=x
   .subst e;simp
   grind
 grind [Bh]
theorem Zc {Q R:List AE} {b:Int->Int} {c:Int->Prop} (h:Iso Q R b c) (k:AR Q) (j:c 0) (h0:b 0=0) (r:0<Q.length) (s:Q.length<=R.length)
  (l:∀i,c i->(R.getD (b i).toNat (0,[])).1=(Q.getD i.toNat (0,[])).1):AL R 0=AL Q 0:=by
 have f:Co R R.length [] 0=(Co Q Q.length [] 0).map b/\∀x∈Co Q Q.length [] 0,c x:=by
  have h1:=Rq h R.length [] 0 (λx m=>by cases m) j;rw[h0]at h1;have q:=Rp k (n:=0) (by omega) (by omega) (R.length-Q.length)
  simp_all
 unfold AL;rw[f.1];generalize Co Q Q.length [] 0=o at *;rw[Va];refine QE λi hi=>?_;have d:=f.2 i hi;show DD R (o.map b) (b i)=DD Q o i;unfold DD;have g:(R.getD (b i).toNat (0,[])).2=(AO Q i).map λa=>(a.1,b a.2):=h.arc i d;rw[l i d,g,Va];refine bY _ (QE λa ha=>?_);show (a.1,Bh (o.map b) (b a.2))=(a.1,Bh o a.2);rw[mE λy p e=>h.inj y a.2 (f.2 y p) (h.cl i d a ha) e]
structure Ord (f:List AE) (o:List Int):Prop where
 ok:Kp f o
 zero:o.getD 0 0=0/\0<o.length
 cl:∀n∈o,∀a∈AO f n,a.2∈o
theorem A5j {f:List AE} (hf:AR f) (h0:0<f.length):[0] <+: Co f f.length [] 0:=by
 obtain⟨k,hk⟩:∃k,f.length=k+1:=⟨f.length-1,by omega⟩;rw[hk,CN];exact(E2 (EL hf k) _ _ (λa ha=>Ah hf ha) ((GV f).snoc (by omega) (by omega) (by simp))).2
theorem A5k {f:List AE} (hf:AR f) (h0:0<f.length):Ord f (Co f f.length [] 0):=by
 have h1:=EL hf f.length [] 0 (GV f) (by omega) (by omega) (by simp);have d:=Ir hf f.length [] 0 (GV f) (by omega) (by omega) (by simp) (by simp);have b:=A5j hf h0;refine⟨h1.1,?_,λn hn a ha=>?_⟩
 .obtain⟨t,c⟩:=b;rw[<-c];exact⟨rfl,by simp⟩
 grind
theorem Fh {o:List Int} (hn:o.Nodup) {i:Nat} (hi:i<o.length):Bh o (o.getD i 0)=(i:Int):=by grind [Bh]
theorem Cc {o:List Int} {x:Int} (h:x∈o):0<=Bh o x/\Bh o x<(o.length:Int)/\o.getD (Bh o x).toNat 0=x:=by
 unfold Bh;rw[BY h];have a:=List.idxOf_lt_length_of_mem h
 simp_all
theorem A2a (f:List AE):(AL f 0).length=(Co f f.length [] 0).length:=by simp[AL]
theorem A2b {f:List AE} {i:Nat} (hi:i<(Co f f.length [] 0).length):(AL f 0).getD i (0,[])=DD f (Co f f.length [] 0) ((Co f f.length [] 0).getD i 0):=by grind [AL]
theorem mF (a:Int->Int×Int->Bool) {f:List AE} {n:Int} (h0:0<=n) (h1:n<f.length):(Gk a f f.length).getD n.toNat (0,[])=((f.getD n.toNat (0,[])).1,(AO f n).filter (a n)):=by grind [Gk,A5b]
theorem A9b (l:List (Int×Int)) (x:Int):YH l x=-1\/∃a∈l,a.1=x/\a.2=YH l x:=by
 have key:∀(l:List (Int×Int)) (t:Int),l.foldl (λt a=>if a.1=x then a.2 else t) t=t\/∃a∈l,a.1=x/\a.2=l.foldl (λt a=>if a.1=x then a.2 else t) t:=by
  intro l;induction l with
  | nil=>intro t;exact .inl rfl
  | cons b l c =>
   intro t;rw[ON];by_cases h:b.1=x
   .rw[BY h];rcases c b.2 with e|⟨a,ha,e⟩
    .exact .inr ⟨b,by simp,h,e.symm⟩
    exact .inr ⟨a,by simp[ha],e⟩
   rw[An h];rcases c t with e|⟨a,ha,e⟩
   .exact .inl e
   exact .inr ⟨a,by simp[ha],e⟩
 exact key l (-1)
theorem A5l {l:List (Int×Int)} {x:Int} (h:0<=YH l x):∃a∈l,a.1=x/\a.2=YH l x:=by
 rcases A9b l x with e|h1
 .omega
 exact h1
theorem mG {f:List AE} (hs:I8 f) (n:Int):(AO f n).Pairwise (λa b=>a.1<b.1):=(Kd _).1 (qK hs n).1
theorem AB4 {f:List AE} (hs:I8 f) {n:Int} {a:Int×Int} (ha:a∈AO f n):YH (AO f n) a.1=a.2:=f5 (mG hs n) ha
theorem A2c {f:List AE} (hf:AR f) (hs:I8 f) (h0:0<f.length) (a:Int->Int×Int->Bool) {n:Int} (hn:n∈Co (Gk a f f.length) f.length [] 0) :
  AO (YB a f) (Bh (Co (Gk a f f.length) f.length [] 0) n)=((AO f n).filter (a n)).map (I0 (Co (Gk a f f.length) f.length [] 0)):=by
 obtain⟨h,l⟩:=bM hf hs a;have c:=Kb a f f.length;have e:=A5k h (by omega);have d:=λi=>A2b (f:=Gk a f f.length) (i:=i);rw[c]at e d;obtain⟨j,k,g⟩:=Cc hn;have b:=e.ok.rng n hn;rw[c]at b;show ((YB a f).getD _ (0,[])).2=_;have:YB a f=AL (Gk a f f.length) 0:=rfl;rw[this,d _ (by omega),g];unfold DD;rw[mF a b.1 b.2]
theorem TL {f:List AE}:∀(p:List Int) (n:Int) (z:List Int),BX f n p=none->BX f n (p++z)=none
 | [],_,_,h=>by cases h
 | x :: p,n,z,h=>by
  simp only[BX,oF]at h ⊢;split
  .rfl
  rename_i a;rw[An a]at h;exact TL p _ z h
theorem TM {f:List AE} {p:List Int} {e y:Int} (h:BX f 0 (p++[e])=some y):∃x,BX f 0 p=some x/\∃a∈AO f x,a.1=e/\a.2=y:=by
 cases hh:BX f 0 p with
 | none=>rw[TL p 0 [e] hh]at h;cases h
 | some x =>
  have b:=Lg f p 0 x e hh;rw[h]at b;split at b
  .cases b
  rename_i g;obtain⟨a,ha,c,d⟩:=A5l (l:=AO f x) (x:=e) (by omega);exact⟨x,rfl,a,ha,c,by rw[d];exact(AFY b).symm⟩
theorem A5m {f:List AE} (hf:AR f) (hs:I8 f) {p:List Int} {x:Int} (h:BX f 0 p=some x) {a:Int×Int} (ha:a∈AO f x):BX f 0 (p++[a.1])=some a.2:=by
 rw[Lg f p 0 x a.1 h,AB4 hs ha,An (by have:=(Ah hf ha).1;omega)]
section
attribute [local go_sem] Xq
def Bz (l:List (Int×Int)) (e:Int):Int:=match l with
 | []=>-1
 | a :: l=>if a.1=e then a.2 else Bz l e
theorem TN (e:Int) (l:List (Int×Int)) {k:Nat} (h:k<l.length):Bz (l.drop k) e=if (l.getD k (0,0)).1=e then (l.getD k (0,0)).2 else Bz (l.drop (k+1)) e:=by
 rw[OR h];have e:l.getD k (0,0)=l[k]:=by simp[AS,h]
 rw[e];rfl
def WD:AZ:={ ins:=[Mn,T3],pre:=λ_=>True,out:=λ(x,e,_)=>[.p T3 (Bz x.2 e)],lend:=true }
attribute [local go_sem] WD
theorem A2d:Ab Tryz.prog 131 WD:=by
 refine fK [0,1,2,4,6,8,9,10,11,17] Tryz.func131 Tryz.ntmps131 AH ?_;rintro w0 O0 ⟨⟨ty,l⟩,e,u⟩ c ⟨⟨-,f,-⟩,-⟩ -;simp only[AQ]at f;simp only[WD,AM];repeat'(first|exact trivial|apply eS rfl|refine rX c ?_ ?_)
 refine AI (ι:={k:Nat//k<=l.length/\Bz (l.drop k) e=Bz l e}) (λk=>⟨[(1,.p T3 e),(8,.p DM l),(9,.p (.int .i64) (l.length:Int)),(10,.p (.int .i64) (k.1:Int))],[]⟩) (λk=>l.length-k.1) ⟨0,IS _,rfl⟩ (eW []) (λk=>?_)
 obtain⟨k,hk,hf⟩:=k;have d:=λh:k<l.length=>TN e l h;simp only;repeat'(first|exact trivial|apply eS rfl|apply AB|refine rX c ?_ ?_|refine rC ?_ ?_<;>intro b<;>try(cases b;done))
 .exact b
 .have a:k<l.length:=by exact eV
  rw[d a,BY b]at hf;exact fI c [.tmp 4] (by rw[<-hf];exact eR)
 .exact eV
 .have a:k<l.length:=by exact eV
  rw[d a,An (by simpa using b)]at hf;exact⟨⟨k+1,a,hf⟩,by simp only;omega,eW []⟩
 have a:l.drop k=[]:=B0 (by exact eV);rw[a]at hf;exact fI c [.tmp 4] (by rw[<-hf];first|exact eR|refine UO ?_;rfl)
end
section
attribute [local go_sem] Xq WD
def Jg (n i:Nat):List Int:=(List.range n).map λj=>if j<i then -1 else 0
theorem A2e (n i:Nat):(Jg n i).length=n:=by simp[Jg]
theorem rD (n:Nat):Jg n 0=List.replicate n 0:=by
 apply SH
 .simp[Jg]
 intro j h1 a;simp[Jg]
theorem A2f (n i:Nat):(Jg n i).set i (-1)=Jg n (i+1):=by
 apply SH
 .simp[Jg]
 intro j h1 b;simp only[Jg,AGo,AAn,AAe];split
 .rename_i e;rw[BY (by omega)]
 rename_i e;by_cases a:j<i
 .rw[BY a,BY (by omega)]
 rw[An a,An (by omega)]
theorem A2g (n:Nat):Jg n n=List.replicate n (-1):=by
 apply SH
 .simp[Jg]
 intro j h1 a;simp only[Jg,AAn,AAe,List.getElem_replicate];rw[BY (by simpa[Jg] using h1)]
def NG (bl:List (Int×Int)) (m:List Int) (x:Int×Int):Bool:=decide (Bz bl x.1<0)||decide (0<=m.getD x.2.toNat 0)&&!(m.getD x.2.toNat 0==Bz bl x.1)
def FF (bl:List (Int×Int)):List (Int×Int)->List Int->Option (List Int)
 | [],m=>some m
 | x :: l,m=>if NG bl m x=true then none else FF bl l (m.set x.2.toNat (Bz bl x.1))
def Hy (h:AG) (b:List AE) (n:AE) (k:Int):Bool:=decide (k<0)||!A2 h n.1 (b.getD k.toNat (0,[])).1
def GW (h:AG) (b:List AE):List AE->Nat->List Int->Option (List Int)
 | [],_,m=>some m
 | n :: r,i,m=>if Hy h b n (m.getD i 0)=true then none else match FF (b.getD (m.getD i 0).toNat (0,[])).2 n.2 m with
  | none=>none
  | some a=>GW h b r (i+1) a
def f6 (h:AG) (a b:List AE):Option (List Int):=GW h b a 0 ((List.replicate a.length (-1)).set 0 0)
theorem f9 (bl l:List (Int×Int)) (m:List Int) {k:Nat} (h:k<l.length):FF bl (l.drop k) m=if NG bl m (l.getD k (0,0))=true then none else FF bl (l.drop (k+1)) (m.set (l.getD k (0,0)).2.toNat (Bz bl (l.getD k (0,0)).1)):=by
 rw[OR h];have e:l.getD k (0,0)=l[k]:=by simp[AS,h]
 rw[e];rfl
theorem J5 (h:AG) (b a:List AE) (m:List Int) {i:Nat} (hi:i<a.length):GW h b (a.drop i) i m=if Hy h b (a.getD i (0,[])) (m.getD i 0)=true then none else match FF (b.getD (m.getD i 0).toNat (0,[])).2 (a.getD i (0,[])).2 m with
  | none=>none
  | some c=>GW h b (a.drop (i+1)) (i+1) c:=by
 rw[OR hi];have e:a.getD i (0,[])=a[i]:=by simp[AS,hi]
 rw[e];rfl
structure gB (a b:List AE) (m:List Int):Prop where
 len:m.length=a.length
 rng:∀x∈m,x<(b.length:Int)
theorem WE {n:Int} (hn:0<=n):∀ {l:List (Int×Int)} (e:Int),(∀x∈l,x.2<n)->Bz l e<n
 | [],_,_=>by simp only[Bz];omega
 | x :: l,e,h=>by
  simp only[Bz];split
  .exact h x (by simp)
  exact WE hn e (λy a=>h y (by simp[a]))
theorem gB.set {a b:List AE} {m:List Int} (h:gB a b m) (k:Nat) {v:Int} (d:v<(b.length:Int)):gB a b (m.set k v):=by
 refine⟨by simp[h.len],λx c=>?_⟩;rcases AAP c with c|c
 .exact h.rng x c
 rw[c];exact d
theorem gB.get {a b:List AE} {m:List Int} (h:gB a b m) (c:0<b.length) (k:Nat):m.getD k 0<(b.length:Int):=by
 rw[AS];cases hh:m[k]? with
 | none=>show (0:Int)<_;omega
 | some x=>exact h.rng x (VN hh)
def Cn (h:AG) (f:List AE):Prop:=∀x∈f,0<=x.1/\x.1<(h.1.length:Int)
theorem Iw {f:List AE} (hf:AR f) (k:Nat):∀x∈(f.getD k (0,[])).2,0<=x.2/\x.2<(f.length:Int):=by
 intro x a;by_cases h:k<f.length
 .exact(hf.2 _ (AD f (0,[]) h)).2 x a
 rw[AS,QH (by omega)]at a;cases a
def AB5:AZ:={ ins:=[ED,DZ,DZ],pre:=λ(h,a,b,_)=>AR a/\0<List.length a/\AR b/\0<List.length b/\Cn h a/\Cn h b,out:=λ(h,a,b,_)=>[.p F2 ((f6 h a b).getD []),.p .bool (f6 h a b).isSome] }
attribute [local go_sem] AB5
theorem AB6:Ab Tryz.prog 81 AB5:=by
 refine fK [0,1,2,3,4,5,6,7,8,9,10,11,12,13,15,16,22,23,24,33,34,35,36,58,60,61,62,63,92,101] Tryz.func81 Tryz.ntmps81 (AF Vz (AF A2d AH)) ?_;rintro w0 O0 ⟨⟨e,hf⟩,a,b,u⟩ n-⟨A,J,L,D,S,T⟩;have W:=A.1;simp only[AB5,AM];repeat'(first|exact trivial|apply eS rfl|refine rX n ?_ ?_)
 refine Ev.ent (σ':=⟨[(3,.bp 3 [] 0),(4,.bp 4 [] 0),(5,.bp 5 [] 0)],[(3,.box 31 true [.p RB e,.p Sv hf]),(4,.box 25 true [.p Ex a]),(5,.box 25 true [.p Ex b])]⟩) ?_ (AC [(3,.nm 3),(4,.nm 4),(5,.nm 5)] rfl rfl ?_ ?_)
 .refine A3V A3X ?_;repeat'(first|exact trivial|apply eS rfl|refine rX n ?_ ?_)
  .simp only[AQ];omega
  refine AI (ι:={i:Nat//i<=a.length}) (λi=>⟨[(3,.bp 3 [] 0),(4,.bp 4 [] 0),(5,.bp 5 [] 0),(8,.sr 20 T3 0 a.length),(22,.p (.int .i64) (a.length:Int)),(23,.p (.int .i64) (i.1:Int))],[(3,.box 31 true [.p RB e,.p Sv hf]),(4,.box 25 true [.p Ex a]),(5,.box 25 true [.p Ex b]),(20,.arr 3 T3 (Jg a.length i.1))]⟩) (λi=>a.length-i.1) ⟨0,IS _⟩ (AC [(3,.nm 3),(4,.nm 4),(5,.nm 5),(20,.nm 20)] rfl rfl ?_ ?_) (λi=>?_)
  .refine eM ?_;rw[rD]
  .exact eN
  obtain⟨i,hi⟩:=i;have Y:=A2e a.length i;simp only;repeat'(first|exact trivial|apply eS rfl|apply AB|refine rX n ?_ ?_|refine rC ?_ ?_<;>intro c<;>try(cases c;done))
  .exact c
  .omega
  .have f:i<a.length:=IN.1 c;refine⟨⟨i+1,f⟩,by simp only;omega,AC [(3,.nm 3),(4,.nm 4),(5,.nm 5),(20,.nm 20)] rfl rfl ?_ ?_⟩
   .simp only[<-A2f];exact eN
   exact eN
  .exact IN.2 J
  have f:i=a.length:=by omega
  subst f;rw[A2g];have P:gB a b ((List.replicate a.length (-1)).set 0 0):=gB.set ⟨by simp,λx q=>by rw[(AG7.1 q).2];omega⟩ 0 (by omega);have Q:f6 (e,hf) a b=GW (e,hf) b (a.drop 0) 0 ((List.replicate a.length (-1)).set 0 0):=rfl;generalize (List.replicate a.length (-1:Int)).set 0 0=U at *;refine A3W ?_;repeat'(first|exact trivial|apply eS rfl|refine rX n ?_ ?_)
  refine AI (ι:={x:Nat×List Int//x.1<=a.length/\gB a b x.2/\GW (e,hf) b (a.drop x.1) x.1 x.2=f6 (e,hf) a b}) (λx=>⟨[(3,.bp 3 [] 0),(5,.bp 5 [] 0),(8,.sr 20 T3 0 a.length),(10,.p .bool true),(33,.p Ex a),(34,.p (.int .i64) (a.length:Int)),(35,.p (.int .i64) (x.1.1:Int))],[(3,.box 31 true [.p RB e,.p Sv hf]),(5,.box 25 true [.p Ex b]),(20,.arr 3 T3 x.1.2)]⟩) (λx=>a.length-x.1.1) ⟨(0,U),IS _,P,Q.symm⟩ (eW [(3,.nm 3),(5,.nm 5),(20,.nm 20)]) (λx=>?_)
  obtain⟨⟨i,m⟩,hi,s,d⟩:=x;simp only at hi s d;have R:=s.len;have G:=λh:i<a.length=>J5 (e,hf) b a m h;simp only;repeat'(first|exact trivial|apply eS rfl|refine rX n ?_ ?_|refine rC ?_ ?_<;>intro c<;>try(cases c;done))
  .exact c
  .exact c
  .have f:i<a.length:=IN.1 c;have hk:=s.get D i;refine⟨λh=>⟨by simpa using h,hk⟩,λh=>⟨S _ (AD a (0,[]) f),T _ (AD b (0,[]) ?_)⟩⟩;have:(0:Int)<=m.getD i 0:=by simpa using h
   omega
  .have f:i<a.length:=IN.1 (by assumption);have w:Hy (e,hf) b (a.getD i (0,[])) (m.getD i 0)=true:=by
    unfold Hy;rw[QO,By,Px];assumption
   rw[G f,BY w]at d;exact fI n [.tmp 6,.tmp 7] (by rw[<-d];first|exact eR|refine UO ?_;first|rfl|exact⟨rfl,rfl⟩)
  .have f:i<a.length:=IN.1 (by assumption);have w:¬Hy (e,hf) b (a.getD i (0,[])) (m.getD i 0)=true:=by
    unfold Hy;rw[QO,By,Px];rintro (h|h)
    .have:=c.1;omega
    rw[show A2 (e,hf) (a.getD i (0,[])).1 (b.getD (m.getD i 0).toNat (0,[])).1=true from c.2]at h;cases h
   rw[G f,An w]at d;have N:(0:Int)<=m.getD i 0:=c.1;have O:=s.get D i;have K:(a.getD i (0,[])).2.length<=100000:=(A.2 _ (AD a (0,[]) f)).1;have F:=Iw A i;have E:=Iw L (m.getD i 0).toNat;have Z:((m.getD i 0).toNat:Int)=m.getD i 0:=by omega
   generalize aa:m.getD i 0=r at *;have X:(b.getD r.toNat (0,[])).2=(b.getD r.toNat (0,[])).2:=rfl;generalize t:(b.getD r.toNat (0,[])).2=bl at d E;generalize V:(a.getD i (0,[])).2=l at d K F;refine AI (ι:={y:Nat×List Int//y.1<=l.length/\gB a b y.2/\FF bl (l.drop y.1) y.2=FF bl l m}) (λy=>⟨[(3,.bp 3 [] 0),(5,.bp 5 [] 0),(8,.sr 20 T3 0 a.length),(10,.p .bool true),(13,.p T3 r),(33,.p Ex a),(34,.p (.int .i64) (a.length:Int)),(35,.p (.int .i64) (i:Int)),(60,.p DM l),(61,.p (.int .i64) (l.length:Int)),(62,.p (.int .i64) (y.1.1:Int))],[(3,.box 31 true [.p RB e,.p Sv hf]),(5,.box 25 true [.p Ex b]),(20,.arr 3 T3 y.1.2)]⟩) (λy=>l.length-y.1.1) ⟨(0,m),IS _,s,rfl⟩ (eW [(3,.nm 3),(5,.nm 5),(20,.nm 20)]) (λy=>?_)
   obtain⟨⟨j,o⟩,M,v,g⟩:=y;simp only at M v g;have ab:=v.len;have C:=λh:j<l.length=>f9 bl l o h;have q:=λh:j<l.length=>F _ (AD l (0,0) h);have H:Bz bl (l.getD j (0,0)).1<(b.length:Int):=WE (To _) _ λx q=>(E x q).2;have B:NG bl o (l.getD j (0,0))=(decide (Bz bl (l.getD j (0,0)).1<0)||decide (0<=o.getD (l.getD j (0,0)).2.toNat 0)&&!(o.getD (l.getD j (0,0)).2.toNat 0==Bz bl (l.getD j (0,0)).1)):=rfl;rw[<-t]at C B g H;simp only;repeat'(first|exact trivial|apply eS rfl|apply AB|refine rX n ?_ ?_|refine rC ?_ ?_<;>intro c<;>try(cases c;done))
   .exact c
   .exact⟨N,O⟩
   .have k:j<l.length:=IN.1 c;exact⟨λ_=>q k,λ_=>q k⟩
   .have k:j<l.length:=IN.1 (by assumption);have z:NG (b.getD r.toNat (0,[])).2 o (l.getD j (0,0))=true:=by
     rw[B,QO,AT,By,By,Px,VX];assumption
    rw[C k,BY z]at g;rw[t]at g;rw[<-g]at d;have d:none=f6 (e,hf) a b:=d;exact fI n [.tmp 6,.tmp 7] (by rw[<-d];first|exact eR|refine UO ?_;first|rfl|exact⟨rfl,rfl⟩)
   .have k:j<l.length:=IN.1 (by assumption);exact q k
   .omega
   .have k:j<l.length:=IN.1 (by assumption);have z:¬NG (b.getD r.toNat (0,[])).2 o (l.getD j (0,0))=true:=by
     rw[B,QO,AT,By,By,Px,VX];rintro (h|⟨h1,I⟩)
     .exact absurd c.1 (VT.2 h)
     have:=c.2 h1;rw[bne_eq_false_iff_eq]at this;exact I this
    rw[C k,An z]at g;exact⟨⟨(j+1,o.set (l.getD j (0,0)).2.toNat (Bz (b.getD r.toNat (0,[])).2 (l.getD j (0,0)).1)),k,v.set _ H,by rw[t]at g ⊢;exact g⟩,by simp only;omega,eW [(3,.nm 3),(5,.nm 5),(20,.nm 20)]⟩
   .omega
   have k:j=l.length:=by omega
   subst k;rw[AFe]at g;have g:some o=FF bl l m:=by rw[<-t];exact g
   rw[<-g]at d;exact⟨⟨(i+1,o),f,v,d⟩,by simp only;omega,eW [(3,.nm 3),(5,.nm 5),(20,.nm 20)]⟩
  have f:i=a.length:=by exact eV
  subst f;rw[AFe]at d;have d:some m=f6 (e,hf) a b:=d;refine Fe [20] ?_;exact fI n [.tmp 6,.tmp 7] (by rw[<-d];first|exact eR|refine UO ?_;exact As (by rw[R];exact Is _))
 .exact eN
 exact eN
def MA (h:AG) (a b:List AE):Bool:=(f6 h a b).isSome
def A5n:AZ:={ ins:=[ED,DZ,DZ],pre:=λ(h,a,b,_)=>AR a/\0<List.length a/\AR b/\0<List.length b/\Cn h a/\Cn h b,out:=λ(h,a,b,_)=>[.p .bool (MA h a b)],lend:=true }
theorem A06:Ab Tryz.prog 32 A5n:=by
 refine fK [0,1,2,3,4,5,6,8] Tryz.func32 Tryz.ntmps32 (AF AB6 AH) ?_;rintro w0 O0 ⟨⟨d,hf⟩,a,b,u⟩ c-hp;simp only[A5n,AM];repeat'(first|exact trivial|apply eS rfl|refine rX c ?_ ?_)
 .exact hp
 exact fI c [.tmp 6] (by unfold MA;exact eR)
end
structure IB (h:AG) (a b:List AE) (m:Int->Int):Prop where
 zero:m 0=0
 rng:∀i,0<=i->i<(a.length:Int)->0<=m i/\m i<(b.length:Int)
 ty:∀i,0<=i->i<(a.length:Int)->A2 h (a.getD i.toNat (0,[])).1 (b.getD (m i).toNat (0,[])).1=true
 arc:∀i,0<=i->i<(a.length:Int)->∀x∈AO a i,Bz (AO b (m i)) x.1=m x.2
theorem Dy {l:List (Int×Int)} (h:l.Pairwise (λa b=>a.1<b.1)) {a:Int×Int} (ha:a∈l):Bz l a.1=a.2:=by
 induction l with
 | nil=>cases ha
 | cons b l d =>
  obtain⟨h1,c⟩:=SK.1 h;simp only[Bz];rcases DO.1 ha with rfl|ha
  .rw[BY rfl]
  grind
theorem EV {l:List (Int×Int)} {e:Int} (h:0<=Bz l e):∃a∈l,a.1=e/\a.2=Bz l e:=by
 induction l with
 | nil=>simp only[Bz]at h;omega
 | cons b l c =>
  simp only[Bz]at h ⊢;split
  .grind
  grind
theorem AB7 {f:List AE} (hs:I8 f) {n:Int} {a:Int×Int} (ha:a∈AO f n):Bz (AO f n) a.1=a.2:=Dy (mG hs n) ha
def RO (f:List AE):Prop:=∀i:Int,0<i->i<(f.length:Int)->∃j,0<=j/\j<i/\∃x∈AO f j,x.2=i
structure MH (a:List AE) (m:Int->Int) (M:List Int):Prop where
 len:M.length=a.length
 val:∀k:Nat,k<a.length->M.getD k 0=-1\/M.getD k 0=m (k:Int)
theorem Lh {M:List Int} {k j:Nat} {v:Int} (hk:k<M.length):(M.set k v).getD j 0=if k=j then v else M.getD j 0:=by grind
theorem mH {a:List AE} (ha:AR a) {m:Int->Int} {n:Int} (g:∀i,0<=i->i<(a.length:Int)->0<=m i) {bl:List (Int×Int)}:∀ {l:List (Int×Int)} {M:List Int},(∀x∈l,x∈AO a n)->(∀x∈l,Bz bl x.1=m x.2)->MH a m M ->
  ∃b,FF bl l M=some b/\MH a m b/\(∀k:Nat,k<a.length->M.getD k 0=m (k:Int)->b.getD k 0=m (k:Int))/\∀x∈l,b.getD x.2.toNat 0=m x.2
 | [],M,_,_,h=>⟨M,rfl,h,λ_ _ h=>h,λx d=>by cases d⟩
 | x :: l,M,f,o,h=>by
  have j:=Ah ha (f x (by simp));have d:=o x (by simp);have B:=g x.2 j.1 j.2;have q:x.2.toNat<a.length:=by omega
  have p:((x.2.toNat:Nat):Int)=x.2:=by omega
  have u:=h.val x.2.toNat q;rw[p]at u;have z:¬NG bl M x=true:=by grind [NG]
  have t:MH a m (M.set x.2.toNat (Bz bl x.1)):=by
   refine⟨by rw[SL];exact h.len,λk hk=>?_⟩;rw[Lh (by rw[h.len];exact q)];split
   .rename_i e;right;rw[d,<-e,p]
   exact h.val k hk
  obtain⟨b,v,r,s,w⟩:=mH ha g (l:=l) (λy c=>f y (by simp[c])) (λy c=>o y (by simp[c])) t;refine⟨b,?_,r,λk hk A=>s k hk ?_,λy c=>?_⟩
  .grind [FF]
  .grind
  grind
theorem bT {h:AG} {a b:List AE} (ha:AR a) (q:RO a) {m:Int->Int} (c:IB h a b m):∀(r i:Nat) (M:List Int),r+i=a.length->MH a m M->(0<a.length->M.getD 0 0=0) ->
  (∀k:Nat,k<a.length->(∃j:Int,0<=j/\j<(i:Int)/\∃x∈AO a j,x.2=(k:Int))->M.getD k 0=m (k:Int))->∃f,GW h b (a.drop i) i M=some f
 | 0,i,M,D,_,_,_=>by
  rw[B0 (by omega)];exact⟨M,rfl⟩
 | r+1,i,M,D,y,o,z=>by
  have hi:i<a.length:=by omega
  have C:M.getD i 0=m (i:Int):=by
   cases i with
   | zero =>
    rw[o hi];exact c.zero.symm
   | succ i =>
    obtain⟨j,F,G,x,d,e⟩:=q ((i+1:Nat):Int) (by omega) (by omega);exact z (i+1) hi ⟨j,F,G,x,d,e⟩
  have J:=c.rng (i:Int) (by omega) (by omega);have E:=c.ty (i:Int) (by omega) (by omega);have A:=c.arc (i:Int) (by omega) (by omega);rw[P0]at E;have B:¬Hy h b (a.getD i (0,[])) (M.getD i 0)=true:=by grind [Hy]
  rw[J5 h b a M hi,An B,C];have p:AO a (i:Int)=(a.getD i (0,[])).2:=by rw[AO,P0]
  obtain⟨f,s,t,u,H⟩:=mH (n:=(i:Int)) ha (λk v w=>(c.rng k v w).1) (bl:=(b.getD (m (i:Int)).toNat (0,[])).2) (l:=(a.getD i (0,[])).2) (λx d=>by rw[p];exact d) (λx d=>A x (by rw[p];exact d)) y;rw[s];simp only;refine bT ha q c r (i+1) f (by omega) t (λg=>?_) (λk hk I=>?_)
  .have:=u 0 g (by rw[o g];exact c.zero.symm);rw[this];exact c.zero
  grind
theorem gC {h:AG} {a b:List AE} (ha:AR a) (h0:0<a.length) (f:RO a) {m:Int->Int} (c:IB h a b m):MA h a b=true:=by
 have g:((List.replicate a.length (-1:Int)).set 0 0).getD 0 0=0:=by rw[Lh (by simpa using h0),BY rfl]
 obtain⟨i,e⟩:=bT ha f c a.length 0 ((List.replicate a.length (-1)).set 0 0) (by omega) ⟨by simp,λk hk=>by
  rw[Lh (by simpa using h0)];split
  .rename_i e;right;rw[<-e];exact c.zero.symm
  .left;simp[AS,gO,hk]⟩ (λ_=>g) (λk hk d=>by
  obtain⟨j,l,n,_⟩:=d;omega)
 grind [MA,f6]
theorem mI {b:List AE} {bl:List (Int×Int)} (i:0<b.length) (c:∀x∈bl,x.2<(b.length:Int)) {n:Nat}:∀ {l:List (Int×Int)} {M a:List Int},(∀x∈l,0<=x.2/\x.2<(n:Int))->M.length=n->(∀k,M.getD k 0<(b.length:Int))->FF bl l M=some a ->
  a.length=n/\(∀k,a.getD k 0<(b.length:Int))/\(∀k,0<=M.getD k 0->a.getD k 0=M.getD k 0)/\∀x∈l,0<=a.getD x.2.toNat 0/\Bz bl x.1=a.getD x.2.toNat 0
 | [],M,a,_,hn,hk,h=>by
  have:M=a:=AFY h;grind
 | x :: l,M,a,d,hn,hk,h=>by
  simp only[FF]at h;split at h
  .cases h
  rename_i r;have t:=d x (by simp);have m:x.2.toNat<M.length:=by omega
  have j:=WE (n:=(b.length:Int)) (by omega) (l:=bl) x.1 c;obtain⟨f,g,o,p⟩:=mI i c (l:=l) (λy e=>d y (by simp[e])) (by rw[SL];exact hn) (λk=>by
   rw[Lh m];split
   .exact j
   exact hk k) h
  have q:0<=Bz bl x.1/\(0<=M.getD x.2.toNat 0->M.getD x.2.toNat 0=Bz bl x.1):=by grind [NG]
  refine⟨f,g,λk s=>?_,λy e=>?_⟩
  .grind
  grind
theorem bU {d:AG} {a b:List AE} (ha:AR a) (g:AR b) (j:0<b.length):∀(r i:Nat) (M c:List Int),r+i=a.length->M.length=a.length->(∀k,M.getD k 0<(b.length:Int))->GW d b (a.drop i) i M=some c ->
  (∀k,c.getD k 0<(b.length:Int))/\(∀k,0<=M.getD k 0->c.getD k 0=M.getD k 0)/\∀k:Nat,i<=k->k<a.length->0<=c.getD k 0/\A2 d (a.getD k (0,[])).1 (b.getD (c.getD k 0).toNat (0,[])).1=true/\∀x∈(a.getD k (0,[])).2,0<=c.getD x.2.toNat 0/\Bz (b.getD (c.getD k 0).toNat (0,[])).2 x.1=c.getD x.2.toNat 0
 | 0,i,M,c,s,_,hk,h=>by
  rw[B0 (by omega)]at h;have:M=c:=AFY h;grind
 | r+1,i,M,c,s,hn,hk,h=>by
  have hi:i<a.length:=by omega
  rw[J5 d b a M hi]at h;split at h
  .cases h
  rename_i z;have y:0<=M.getD i 0/\A2 d (a.getD i (0,[])).1 (b.getD (M.getD i 0).toNat (0,[])).1=true:=by grind [Hy,A2]
  cases e:FF (b.getD (M.getD i 0).toNat (0,[])).2 (a.getD i (0,[])).2 M with
  | none=>rw[e]at h;cases h
  | some l =>
   rw[e]at h;simp only at h;obtain⟨m,o,v,w⟩:=mI j (λx f=>(Iw g _ x f).2) (n:=a.length) (λx f=>Iw ha i x f) hn hk e;obtain⟨t,C,u⟩:=bU ha g j r (i+1) l c (by omega) m o h;have q:∀k,0<=M.getD k 0->c.getD k 0=M.getD k 0:=λk A=>by grind
   refine⟨t,q,λk h1 p=>?_⟩;by_cases B:k=i
   .grind
   exact u k (by omega) p
theorem A5o {h:AG} {a b:List AE} (ha:AR a) (j:0<a.length) (o:AR b) (p:0<b.length) (c:MA h a b=true):∃m,IB h a b m:=by
 unfold MA f6 at c;cases l:GW h b a 0 ((List.replicate a.length (-1)).set 0 0) with
 | none=>rw[l]at c;cases c
 | some M =>
  have n:((List.replicate a.length (-1:Int)).set 0 0).getD 0 0=0:=by rw[Lh (by simpa using j),BY rfl]
  obtain⟨r,s,d⟩:=bU ha o p a.length 0 ((List.replicate a.length (-1)).set 0 0) M (by omega) (by simp) (λk=>by
   rw[Lh (by simpa using j)];split
   .omega
   rw[AS,gO];split
   .show (-1:Int)<_;omega
   show (0:Int)<_;omega) (by rw[SP];exact l)
  have g:=s 0 (by rw[n];omega);rw[n]at g;refine⟨λi=>M.getD i.toNat 0,g,λi e f=>⟨(d i.toNat (by omega) (by omega)).1,r _⟩,λi e f=>(d i.toNat (by omega) (by omega)).2.1,λi e f x q=>((d i.toNat (by omega) (by omega)).2.2 x q).2⟩
theorem Rr {f:List AE} (hf:AR f):∀(k:Nat) (t:List Int) (n:Int),Kp f t->0<=n->n<f.length->n∉t ->
  ∀q,t.length<q->q<(Co f k t n).length->∃j,j<q/\∃a∈AO f ((Co f k t n).getD j 0),a.2=(Co f k t n).getD q 0
 | 0,t,n,h,h0,h1,x,q,A,d=>by simp only[Co]at d;omega
 | k+1,t,n,h,h0,h1,x,q,A,d=>by
  have key:∀(l:List (Int×Int)) (u:List Int),(∀a∈l,a∈AO f n)->Kp f u->t++[n] <+: u ->
    (∀q,t.length<q->q<u.length->∃j,j<q/\∃a∈AO f (u.getD j 0),a.2=u.getD q 0) ->
    ∀q,t.length<q->q<(l.foldl (Ac f k) u).length->∃j,j<q/\∃a∈AO f ((l.foldl (Ac f k) u).getD j 0),a.2=(l.foldl (Ac f k) u).getD q 0:=by
   intro l;induction l with
   | nil=>intro u _ _ _ hu q o c;exact hu q o c
   | cons a l G =>
    intro u y hu s E;have ha:=y a (by simp);have g:=Ah hf ha;rw[ON];by_cases p:a.2∈u
    .grind [Ac]
    have hs:Ac f k u a=Co f k u a.2:=by unfold Ac;rw[An p]
    rw[hs];obtain⟨C,w⟩:=EL hf k u a.2 hu g.1 g.2 p;have r:∀j,j<u.length->(Co f k u a.2).getD j 0=u.getD j 0:=λj D=>by
     obtain⟨v,m⟩:=w;rw[<-m];simp only[AS];rw[QN D]
    have F:u.getD t.length 0=n:=by
     obtain⟨v,m⟩:=s;rw[<-m];simp[AS]
    have B:t.length<u.length:=by
     have:=s.length_le;simp at this;omega
    refine G (Co f k u a.2) (λb i=>y b (by simp[i])) C (s.trans w) (λq o c=>?_);by_cases z:q<u.length
    .obtain⟨j,H,b,i,e⟩:=E q o z;refine⟨j,H,b,?_,?_⟩
     .rw[r j (by omega)];exact i
     rw[r q z];exact e
    by_cases d:q=u.length
    .subst d;refine⟨t.length,B,a,?_,?_⟩
     .rw[r _ B,F];exact ha
     cases k with
     | zero=>simp only[Co]at c;omega
     | succ k =>
      have hp:u++[a.2] <+: Co f (k+1) u a.2:=by
       rw[CN];exact(E2 (EL hf k) _ _ (λb i=>Ah hf i) (hu.snoc g.1 g.2 p)).2
      obtain⟨v,m⟩:=hp;rw[<-m];simp[AS]
    exact Rr hf k u a.2 hu g.1 g.2 p q (by omega) c
  rw[CN]at d ⊢;exact key _ (t++[n]) (λa ha=>ha) (h.snoc h0 h1 x) (Vd _) (λq o c=>by simp only[IF,Pz]at c;omega) q A d
theorem A9c {f:List AE} (hf:AR f) (hs:I8 f) (h0:0<f.length) (b:Int->Int×Int->Bool):RO (YB b f):=by
 obtain⟨g,t⟩:=bM hf hs b;have h:=Kb b f f.length;have c:=A5k g (by omega);have k:=A2a (Gk b f f.length);have m:=Rr g (Gk b f f.length).length [] 0 (GV _) (by omega) (by omega) (by simp);have q:=λn hn=>A2c hf hs h0 b (n:=n) hn;rw[h]at c k m;have r:(YB b f).length=(Co (Gk b f f.length) f.length [] 0).length:=k;intro i s p;rw[r]at p;generalize Co (Gk b f f.length) f.length [] 0=o at *;obtain⟨j,u,a,ha,e⟩:=m i.toNat (by simp only[ZM];omega) (by omega);have l:o.getD j 0∈o:=AD _ 0 (by omega);have d:=c.ok.rng _ l;rw[h]at d;rw[AO,mF b d.1 d.2]at ha;refine⟨(j:Int),by omega,by omega,I0 o a,?_,?_⟩
 .have:=q _ l;rw[Fh c.ok.nd (by omega)]at this;rw[this];exact Do.2 ⟨a,ha,rfl⟩
 show Bh o a.2=i;rw[e,Fh c.ok.nd (by omega)];omega
theorem rE (x:List Int):M4 x x=true:=by grind [M4,H9,UU]
theorem Kg (h:AG) (t:Int):A2 h t t=true:=rE _
theorem A5p {h:AG} {f g:List AE} (hf:AR f) (t:AR g) (u:I8 g) {m:Int->Int} (d:IB h f g m) (h0:0<f.length) (p:List Int):∀n,BX f 0 p=some n->0<=n/\n<(f.length:Int)/\BX g 0 p=some (m n):=by
 induction p using Dk with
 | h0 =>
  intro n h;simp only[BX,ZE]at h;subst h;exact⟨by omega,by omega,by simp only[BX];rw[d.zero]⟩
 | h1 p e s =>
  intro n h;obtain⟨x,r,a,ha,k,i⟩:=TM h;obtain⟨v,w,q⟩:=s x r;have c:=Ah hf ha;have h1:=d.arc x v w a ha;obtain⟨b,o,c1,c2⟩:=EV (l:=AO g (m x)) (e:=a.1) (by rw[h1];exact(d.rng _ c.1 c.2).1);have j:=A5m t u q o;rw[c1,k,c2,h1,i]at j;rw[i]at c;exact⟨c.1,c.2,j⟩
abbrev Ea (p:List Int) (n:Int):Int:=p.getD n.toNat 0
structure Fo (p:List Int) (rk:Int->Nat):Prop where
 rng:∀n,0<=n->n<(p.length:Int)->0<=Ea p n/\Ea p n<(p.length:Int)
 dec:∀n,0<=n->n<(p.length:Int)->Ea p n≠n->rk (Ea p n)<rk n
inductive Rt (p:List Int):Int->Int->Prop
 | base {n:Int} (h:Ea p n=n):Rt p n n
 | step {n r:Int} (h:Ea p n≠n) (h2:Rt p (Ea p n) r):Rt p n r
theorem Rt.det {p:List Int} {n r s:Int} (h:Rt p n r) (g:Rt p n s):r=s:=by
 induction h with
 | base h =>
  cases g with
  | base g=>rfl
  | step g _=>exact absurd h g
 | step h _ b =>
  cases g with
  | base g=>exact absurd g h
  | step _ a=>exact b a
theorem Rt.root {p:List Int} {n r:Int} (h:Rt p n r):Ea p r=r:=by
 induction h with
 | base h=>exact h
 | step _ _ a=>exact a
theorem Fo.ex {p:List Int} {b:Int->Nat} (h:Fo p b):∀(k:Nat) (n:Int),b n<=k->0<=n->n<(p.length:Int)->∃r,Rt p n r/\0<=r/\r<(p.length:Int)
 | 0,n,hk,h0,h1=>by
  by_cases e:Ea p n=n
  .exact⟨n,.base e,h0,h1⟩
  have:=h.dec n h0 h1 e;omega
 | k+1,n,hk,h0,h1=>by
  by_cases e:Ea p n=n
  .exact⟨n,.base e,h0,h1⟩
  have g:=h.dec n h0 h1 e;have a:=h.rng n h0 h1;obtain⟨r,c,d,f⟩:=h.ex k (Ea p n) (by omega) a.1 a.2;exact⟨r,.step e c,d,f⟩
theorem Fo.root {p:List Int} {a:Int->Nat} (h:Fo p a) {n:Int} (h0:0<=n) (h1:n<(p.length:Int)):∃r,Rt p n r/\0<=r/\r<(p.length:Int):=h.ex (a n) n (Is _) h0 h1
theorem DH {p:List Int} {n v:Int} (h0:0<=n) (h1:n<(p.length:Int)) (x:Int) (a:0<=x):Ea (p.set n.toNat v) x=if x=n then v else Ea p x:=by
 unfold Ea;rw[Lh (by omega)];by_cases e:x=n
 .subst e;rw[BY rfl,BY rfl]
 rw[An (by omega),An e]
def GX (p:List Int) (n:Int):List Int:=p.set n.toNat (Ea p (Ea p n))
theorem TP (p:List Int) (n:Int):(GX p n).length=p.length:=by simp[GX]
theorem A5q {p:List Int} {f:Int->Nat} (h:Fo p f) {n:Int} (h0:0<=n) (h1:n<(p.length:Int)) (hn:Ea p n≠n):Fo (GX p n) f:=by
 have c:=h.rng n h0 h1;have g:=h.rng _ c.1 c.2;have i:=h.dec n h0 h1 hn;have j:f (Ea p (Ea p n))<=f (Ea p n):=by
  by_cases e:Ea p (Ea p n)=Ea p n
  .rw[e];exact Is _
  exact AG3 (h.dec _ c.1 c.2 e)
 refine⟨λx a b=>?_,λx a b d=>?_⟩
 .rw[TP]at b ⊢;unfold GX;rw[DH h0 h1 x a];split
  .exact g
  exact h.rng x a b
 rw[TP]at b;unfold GX at d ⊢;rw[DH h0 h1 x a]at d ⊢;split
 .rename_i e;subst e;omega
 rename_i e;rw[An e]at d;exact h.dec x a b d
theorem mJ {p:List Int} {o:Int->Nat} (h:Fo p o) {n:Int} (h0:0<=n) (h1:n<(p.length:Int)) (hn:Ea p n≠n):∀(k:Nat) (x r:Int),o x<=k->0<=x->x<(p.length:Int)->Rt p x r->Rt (GX p n) x r:=by
 intro k;induction k with
 | zero =>
  intro x r hk a j i;have e:Ea p x=x:=GO λe=>by have:=h.dec x a j e;omega
  have d:x≠n:=λb=>hn (b▸e);have:=i.det (.base e);rw[this];refine .base ?_;unfold GX;rw[DH h0 h1 x a,An d];exact e
 | succ k l =>
  intro x r hk a j i;by_cases e:Ea p x=x
  .have d:x≠n:=λb=>hn (b▸e);have:=i.det (.base e);rw[this];refine .base ?_;unfold GX;rw[DH h0 h1 x a,An d];exact e
  have u:=h.dec x a j e;have c:=h.rng x a j;have f:Rt p (Ea p x) r:=by
   cases i with
   | base g=>exact absurd g e
   | step _ g=>exact g
  by_cases d:x=n
  .subst d;by_cases b:Ea p (Ea p x)=Ea p x
   .have:=f.det (.base b);rw[this]at f ⊢;refine .step (r:=Ea p x) ?_ ?_
    .unfold GX;rw[DH h0 h1 x a,BY rfl,b];exact e
    have hp:Ea (GX p x) x=Ea p x:=by
     unfold GX;rw[DH h0 h1 x a,BY rfl,b]
    rw[hp];exact l _ _ (by omega) c.1 c.2 f
   have s:=h.dec _ c.1 c.2 b;have m:=h.rng _ c.1 c.2;have t:Rt p (Ea p (Ea p x)) r:=by
    cases f with
    | base g=>exact absurd g b
    | step _ g=>exact g
   have hp:Ea (GX p x) x=Ea p (Ea p x):=by
    unfold GX;rw[DH h0 h1 x a,BY rfl]
   refine .step ?_ ?_
   .rw[hp];intro q;rw[q]at s;omega
   rw[hp];exact l _ _ (by omega) m.1 m.2 t
  have hp:Ea (GX p n) x=Ea p x:=by
   unfold GX;rw[DH h0 h1 x a,An d]
  refine .step ?_ ?_
  .rw[hp];exact e
  rw[hp];exact l _ _ (by omega) c.1 c.2 f
def E3 (p q:List Int):Prop:=p.length=q.length/\∀x r,0<=x->x<(p.length:Int)->(Rt p x r↔Rt q x r)
theorem E3.refl (p:List Int):E3 p p:=⟨rfl,λ_ _ _ _=>Iff.rfl⟩
theorem E3.trans {p q s:List Int} (h:E3 p q) (g:E3 q s):E3 p s :=
 ⟨h.1.trans g.1,λx r a b=>(h.2 x r a b).trans (g.2 x r a (by rw[<-h.1];exact b))⟩
theorem rF {p:List Int} {d:Int->Nat} (h:Fo p d) {n:Int} (h0:0<=n) (h1:n<(p.length:Int)) (hn:Ea p n≠n):E3 p (GX p n):=by
 refine⟨(TP p n).symm,λx r b c=>⟨λa=>mJ h h0 h1 hn _ x r (Is _) b c a,λa=>?_⟩⟩;obtain⟨s,hs,-,-⟩:=h.root b c;have:=mJ h h0 h1 hn _ x s (Is _) b c hs;have e:=this.det a;rw[<-e];exact hs
def bV (h:AG) (p ty:List Int) (ar:List (List (Int×Int))):List (Nat×Obj):=[(1,.box 111 true [.p ED h,.sr 2 T3 0 p.length,.sr 3 T3 0 ty.length,.sr 4 DM 0 ar.length]),(2,.arr 3 T3 p),(3,.arr 3 T3 ty),(4,.arr 91 DM ar)]
theorem gD (h:AG) (ty:List Int) (ar:List (List (Int×Int))) (d:Int->Nat) {p:List Int} (hp:Fo p d) {n:Int} (h0:0<=n) (h1:n<(p.length:Int)):BK Tryz.prog 136 [.bp 1 [] 0,.p T3 n] (bV h p ty ar) [1]
  (λres A=>∃(t:List Int) (r:Int),res=.p T3 r/\A=bV h t ty ar/\Fo t d/\E3 p t/\Rt p n r):=by
 refine LQ [0,1,4,13] [] [] Tryz.func136 Tryz.ntmps136 AH ?_;intro w0 K O0 ρ0 j C D;simp only[Aq,bV];repeat'(first|exact trivial|apply eS rfl|refine rX j ?_ ?_)
 refine AI (ι:={x:List Int×Int//Fo x.1 d/\E3 p x.1/\0<=x.2/\x.2<(p.length:Int)/\(∀r,Rt x.1 x.2 r->Rt p n r)}) (λx=>⟨[(0,.bp 1 [] 0),(1,.p T3 x.1.2)],[(1,.box 111 true [.p ED h,.sr 2 T3 0 p.length,.sr 3 T3 0 ty.length,.sr 4 DM 0 ar.length]),(2,.arr 3 T3 x.1.1),(3,.arr 3 T3 ty),(4,.arr 91 DM ar)]⟩) (λx=>d x.1.2) ⟨(p,n),hp,E3.refl p,h0,h1,λ_ g=>g⟩ (eW [(1,.nm 1),(2,.nm 2),(3,.nm 3),(4,.nm 4)]) (λx=>?_)
 obtain⟨⟨q,m⟩,b,hs,a,f,s⟩:=x;simp only at b hs a f s;have o:q.length=p.length:=hs.1.symm;have c:=b.rng m a (by omega);simp only;repeat'(first|exact trivial|apply eS rfl|apply AB|refine rX j ?_ ?_|refine rC ?_ ?_<;>intro i<;>try(cases i;done))
 .exact⟨a,f⟩
 .exact⟨⟨a,f⟩,⟨c.1,by rw[<-o];exact c.2⟩,a,f⟩
 .exact⟨a,f⟩
 .have k:Ea q m≠m:=i;have B:=b.dec m a (by omega) k;have u:=b.rng _ c.1 c.2;have w:d (Ea q (Ea q m))<=d (Ea q m):=by
   by_cases e:Ea q (Ea q m)=Ea q m
   .rw[e];exact Is _
   exact AG3 (b.dec _ c.1 c.2 e)
  have v:=rF b a (by omega) k;have l:Ea (GX q m) m=Ea q (Ea q m):=by
   unfold GX;rw[DH a (by omega) m a,BY rfl]
  refine⟨⟨(GX q m,Ea q (Ea q m)),A5q b a (by omega) k,hs.trans v,u.1,by rw[<-o];exact u.2,λr z=>s r ?_⟩,by simp only;omega,AC [(1,.nm 1),(2,.nm 2),(3,.nm 3),(4,.nm 4)] rfl rfl ?_ ?_⟩
  .refine(v.2 m r a (by omega)).2 (.step ?_ ?_)
   .rw[l];intro e;rw[e]at w;omega
   rw[l];exact z
  .refine eM ?_;rfl
  refine eM ?_;exact l
 have y:Ea q m=m:=by simpa using i
 refine Ev.ent (σ':=⟨[(4,.p T3 m)],bV h q ty ar⟩) ?_ (AC [(1,.nm 1),(2,.nm 2),(3,.nm 3),(4,.nm 4)] rfl rfl ?_ ?_)
 .exact fM j [.tmp 4] (.p T3 m) eT ⟨q,m,rfl,rfl,b,hs,s m (.base y)⟩
 .unfold bV;rw[o];exact eN
 exact eN
def Ct (b n:Nat):List Int:=(List.range n).map λi=>((b+i:Nat):Int)
def A4 (b:Nat) (l:List (Int×Int)):List (Int×Int):=l.map λa=>(a.1,a.2+(b:Int))
def DQ (l:List AE) (n:Nat):List Int:=(l.take n).map λx=>x.1
def F7 (b:Nat) (l:List AE) (n:Nat):List (List (Int×Int)):=(l.take n).map λx=>A4 b x.2
theorem rG (b n:Nat):Ct b (n+1)=Ct b n++[((b+n:Nat):Int)]:=by simp[Ct,SQ]
theorem Kh (b n:Nat):(Ct b n).length=n:=by simp[Ct]
theorem A5r (h:AG) (p ty:List Int) (ar:List (List (Int×Int))) (l:List AE) (f:AR l) (J:p.length<=100000) (L:ty.length=p.length) (E:ar.length=p.length) :
  BK Tryz.prog 85 [.bp 1 [] 0,.p Ex l] (bV h p ty ar) [1]
  (λres D=>res=.raw (.tuple #[])/\D=bV h (p++Ct p.length l.length) (ty++DQ l l.length) (ar++F7 p.length l l.length)):=by
 refine LQ [0,1,4,5,6,7,9,15,16,17,18,46,47,48,49] [] [] Tryz.func85 Tryz.ntmps85 AH ?_;intro w0 K O0 ρ0 c H I;have G:=f.1;simp only[Aq,bV];repeat'(first|exact trivial|apply eS rfl|refine rX c ?_ ?_)
 refine AI (ι:={i:Nat//i<=l.length}) (λi=>⟨[(0,.bp 1 [] 0),(4,.p (.int .i64) (p.length:Int)),(15,.p Ex l),(16,.p (.int .i64) (l.length:Int)),(17,.p (.int .i64) (i.1:Int))],[(1,.box 111 true [.p ED h,.sr 2 T3 0 (p++Ct p.length i.1).length,.sr 3 T3 0 (ty++DQ l i.1).length,.sr 4 DM 0 (ar++F7 p.length l i.1).length]),(2,.arr 3 T3 (p++Ct p.length i.1)),(3,.arr 3 T3 (ty++DQ l i.1)),(4,.arr 91 DM (ar++F7 p.length l i.1))]⟩) (λi=>l.length-i.1) ⟨0,IS _⟩ (AC [(1,.nm 1),(2,.nm 2),(3,.nm 3),(4,.nm 4)] rfl rfl ?_ ?_) (λi=>?_)
 .refine eM ?_;simp[Ct,DQ,F7]
 .exact eN
 obtain⟨i,hi⟩:=i;have s:=Kh p.length i;have t:=rG p.length i;have y:(DQ l i).length=i:=by unfold DQ;rw[Py,OS];omega
 have n:(F7 p.length l i).length=i:=by unfold F7;rw[Py,OS];omega
 have z:=λh:i<l.length=>EZ (λx:AE=>x.1) l (0,[]) h;have o:=λh:i<l.length=>EZ (λx:AE=>A4 p.length x.2) l (0,[]) h;simp only;repeat'(first|exact trivial|apply eS rfl|refine rX c ?_ ?_|refine rC ?_ ?_<;>intro b<;>try(cases b;done))
 .exact b
 .refine⟨⟨by omega,by omega⟩,?_⟩;rw[s];simp only[AQ];omega
 .have d:i<l.length:=IN.1 b;refine CQ drawsAny c 9 [([1,2,3,4,5,6,7],8)] [0] (by kernel_rfl) (MF ?_ ?_)
  .trivial
  refine OL c [3] ?_ ?_
  .rw[y];simp only[AQ];omega
  refine Ss c ?_ ?_ ?_
  .trivial
  .trivial
  have A:=z d;have q:=o d;have m:p++Ct p.length i++[(p.length:Int)+(i:Int)]=p++Ct p.length (i+1):=by
   rw[t,QK];rfl
  have eT:ty++DQ l i++[(l.getD i (0,[])).1]=ty++DQ l (i+1):=by
   unfold DQ;rw[A,QK]
  have B:p.length+(Ct p.length i).length+1=(p++Ct p.length (i+1)).length:=by rw[IF,Kh,Kh];omega
  have C:ty.length+(DQ l i).length+1=(ty++DQ l (i+1)).length:=by rw[<-eT,IF,IF,Pz]
  have u:=Iw f i;have N:(l.getD i (0,[])).2.length<=100000:=(f.2 _ (AD l (0,[]) d)).1;repeat'(first|exact trivial|apply eS rfl|refine rX c ?_ ?_)
  rw[m,eT,B,C];generalize M:(l.getD i (0,[])).2=xs at *;refine AI (ι:={k:Nat//k<=xs.length}) (λk=>⟨[(0,.bp 1 [] 0),(4,.p (.int .i64) (p.length:Int)),(7,.sr 61 AW 0 (A4 p.length (xs.take k.1)).length),(15,.p Ex l),(16,.p (.int .i64) (l.length:Int)),(17,.p (.int .i64) (i:Int)),(46,.p DM xs),(47,.p (.int .i64) (xs.length:Int)),(48,.p (.int .i64) (k.1:Int))],[(1,.box 111 true [.p ED h,.sr 2 T3 0 (p++Ct p.length (i+1)).length,.sr 3 T3 0 (ty++DQ l (i+1)).length,.sr 4 DM 0 (ar++F7 p.length l i).length]),(2,.arr 3 T3 (p++Ct p.length (i+1))),(3,.arr 3 T3 (ty++DQ l (i+1))),(4,.arr 91 DM (ar++F7 p.length l i)),(61,.arr 106 AW (A4 p.length (xs.take k.1)))]⟩) (λk=>xs.length-k.1) ⟨0,IS _⟩ (AC [(1,.nm 1),(2,.nm 2),(3,.nm 3),(4,.nm 4),(61,.nil)] rfl rfl ?_ ?_) (λk=>?_)
  .refine eM ?_;rfl
  .refine eM ?_;rfl
  obtain⟨k,hk⟩:=k;have v:(A4 p.length (xs.take k)).length=k:=by unfold A4;rw[Py,OS];omega
  have w:=λh:k<xs.length=>EZ (λa:Int×Int=>(a.1,a.2+(p.length:Int))) xs (0,0) h;have r:=λh:k<xs.length=>u _ (AD xs (0,0) h);simp only;repeat'(first|exact trivial|apply eS rfl|apply AB|refine rX c ?_ ?_|refine rC ?_ ?_<;>intro b<;>try(cases b;done))
  .exact b
  .have e:k<xs.length:=IN.1 b;have F:=r e;refine⟨⟨by omega,by omega⟩,?_⟩;rw[v];simp only[AQ];omega
  .omega
  .have e:k<xs.length:=IN.1 b;have g:A4 p.length (xs.take (k+1))=A4 p.length (xs.take k)++[((xs.getD k (0,0)).1,(xs.getD k (0,0)).2+(p.length:Int))]:=w e;refine⟨⟨k+1,e⟩,by simp only;omega,AC [(1,.nm 1),(2,.nm 2),(3,.nm 3),(4,.nm 4),(61,.nm 61)] rfl rfl ?_ ?_⟩
   .simp only[g];exact eN
   simp only[g];exact eN
  .rw[n];simp only[AQ];omega
  .omega
  have e:xs.take k=xs:=As (P6.1 b);rw[e];have j:ar++F7 p.length l i++[A4 p.length xs]=ar++F7 p.length l (i+1):=by
   unfold F7;rw[q,QK]
  refine⟨⟨i+1,d⟩,by simp only;omega,AC [(1,.nm 1),(2,.nm 2),(3,.nm 3),(4,.nm 4)] rfl rfl ?_ ?_⟩
  .simp only[<-j];exact eN
  exact eN
 have d:i=l.length:=by omega
 subst d;refine Ev.ent (σ':=⟨[],bV h (p++Ct p.length l.length) (ty++DQ l l.length) (ar++F7 p.length l l.length)⟩) ?_ (AC [(1,.nm 1),(2,.nm 2),(3,.nm 3),(4,.nm 4)] rfl rfl ?_ ?_)
 .exact fM c [] (.raw (.tuple #[])) rfl ⟨rfl,rfl⟩
 .unfold bV;exact eN
 exact eN
end Go.Proofs.YtapkhdkbkodbjaaGreat.Fw
