/- Contracts of the program's and the reference's functions, and the plain laws of what they compute: G3 PS PA PB PC PD PE PF PL PG PH T1 G4 G5 G6 T2 T3 T5 P1 P9 T13 T14 T15 T6 T7 T8 T9 T10 T11 T12 T16 R08a P3 P4 P5 P2 P7 W1 W2 W3 W4 D2 D3 W5 U1 U2 U3 U4. -/
import Derived.Test.YtapkhdkbkodbjaaGreatJYA
import Derived.Test.YtapkhdkbkodbjaaGreatJZJ
import Derived.Test.YtapkhdkbkodbjaaGreatJZI
set_option linter.unusedVariables false
set_option linter.unusedSimpArgs false
namespace Go.Proofs.YtapkhdkbkodbjaaGreat.Fw
open Go
attribute [local irreducible] Ev
attribute [local go_sem] fT AL List.toList_toArray B1 evG evK YL E2 Ke Gw GA GQ Pi LS CP DX M5 Ce Ct frz lC Gq DW BB F2 Bg AV.frz AV.frzs AV.drp AV.drps AV.names AV.namess aq Gt LR KT Tj JS Bh Bp Jp El Il Em Io Im Ip VJ Pb HJ KV F4 Ed VK Ra qUn Jq Iq Lv FX Dz JV KW Eo Tk Cl Ep FH Rb Ir Nv Fg Nu Pc Rc Lw JW KX DM DB Fh D0 Hn Dj FI Dk Eq F6 Ce Cs PZ RZ OT Gm JU JT KU Nw Pf Ly L2 Lz Ka Sm L1 Kb aR Ph Pg AV.trn AV.trns EY Ck Obj.trn J5 gF DP Dm DN Er Ci FJ Ak lk HV Gr Hk bin lB YP lE Sk yQ yR pfs AV.cells CL Jn Pa KZ Pe Ca Ns Ty.cell1 Ik FD Dy GP LQ Eh KS Lu RW Ff HI Nl Th VI Lt KQ aP eL Sj Nt DF Jo RV.flat Ty.flat Ty.size St.add upd del Bi Value.oneCell' Ln Ty.dflt Ij P0 Hz QH List.take_succ_cons List.take_zero List.length_cons f3 f4 QG Jz MJ Hf J0 A1Q GB NF NG NH NI Rl Rm NJ Iz Va Option.map_some Option.map_none Option.bind_some Option.getD_some Option.getD_none Option.isNone_none Option.isNone_some Bool.and_true Bool.true_and Bool.and_false Bool.false_and Bool.not_true Bool.not_false if_true if_false List.length_cons List.length_nil and_true true_and and_self List.all_cons List.all_nil List.append_nil List.nil_append List.cons_append List.getElem?_cons_zero List.getElem?_cons_succ List.getElem?_nil List.map_cons List.map_nil List.set_cons_zero List.set_cons_succ List.isEmpty_nil List.isEmpty_cons decide_true decide_false beq_self_eq_true bne_self_eq_false Nat.zero_add Nat.add_zero Nat.sub_zero Int.toNat_natCast Int.toNat_zero Int.toNat_one List.take_length List.length_append List.length_singleton true_or or_true or_self false_or or_false Ty.agg.injEq Ty.slice.injEq Ty.prod.injEq Ty.int.injEq Option.some.injEq beq_iff_eq Lo evMG evMQ opM H5 MF B8 Jy Gx QA Jw H0 I0 Kn LZ Oh N0 Oi Tn MG QB QC Jx Ac Ap Op.operands Call.operands List.filterMap_cons List.filterMap_nil List.append_eq Bool.cond_false_right Bool.cond_true_left cond_true cond_false implies_true decide_eq_true_eq beq_true beq_false Bool.or_true Bool.or_false Bool.true_or Bool.false_or Option.isSome_some Array.empty_append List.append_toArray F3 M6 FK Hl aQ Pd F5 GX GW It Hm KY Lx YQ lD Hj inB Kd F7 Gn Jr Ar f5 List.drop_zero Dr H6 bP CU Kr Bu AV.fgt AV.fgts Obj.fgt Ao Am Ac DR Ii BS Gy List.any_cons List.any_nil l9 f8 bQ f9 MM Rr qs List.flatMap_cons List.flatMap_nil List.cons_append tn bU J6 List.take_succ_cons List.drop_succ_cons bZ HK BV qE NN CD CT Ag FN Km Br FM D6 Hx Iy Gb Hy
attribute [local go_sem] ty1 ty2 ty3 ty4 ty5 ty9 A5y A5z A5A A5B A5C A5D A5E A5F A5G A5H A5I A5J A5K A5L A5M A5N A5O A5P A5Q A5R A5S A5T A5U A5V A5W A5X A5Y A5Z A60 A61 A62 A63 A64 A65 A66 A67 A68 A69 A6a A6b A6c A6d A6e A6f A6g A6h A6i A6j A6k A6l A6m A6n A6o A6p A6q A6r A6s A6t A6u A6v A6w A6x A6y A6z A6A A6B A6C A6D A6E A6F A6G qL qM qN qO qP qQ qR qS qT qU qV qW qX qY qZ q9 rA rB rD rE rF rG rH rI rJ rK rO rQ rR rS rU rV rW rZ r7 r8 r9 sA sB sC sD sE sF sG sH sI sJ sK sL sM sN sO sP sQ sR sS sT sU sV sW sX sY sZ s5 s6 s7 s8 s9 tA tB tC tD tE tF tG tH tI tJ tK tL tM tN tP tQ tR tS tT tU tV tW tX tY tZ t8 t9 uA uB uC uD uE uF uG uH uI uJ uK uL uM uN uP uQ uR uS uT uU uV uW uX uY uZ u3 u4 u5 u6 u7 u9 vA vB vC vD vE vF vG vH vI vJ vK vL vM vN vO vP vQ vS vT vU vV vW vX vY vZ v4 v5 v6 v7 v8 v9 wA wB wC wD wF wG wH wI wJ
set_option maxRecDepth 100000
set_option maxHeartbeats 4000000
def DK (f:List AD):Nat->List Int->Int->List Int
 | 0,o,_=>o
 | k+1,o,n=>(f.getD n.toNat (0,[])).2.foldl (λo a=>if a.2∈o then o else DK f k o a.2) (o++[n])
def Ad (f:List AD) (k:Nat) (o:List Int) (a:Int×Int):List Int:=if a.2∈o then o else DK f k o a.2
theorem CK (f:List AD) (k:Nat) (o:List Int) (n:Int):DK f (k+1) o n=(f.getD n.toNat (0,[])).2.foldl (Ad f k) (o++[n]):=rfl
structure KP (f:List AD) (o:List Int):Prop where
 nd:o.Nodup
 rng:∀x∈o,0<=x/\x<(f.length:Int)
theorem KP.len {f:List AD} {o:List Int} (h:KP f o):o.length<=f.length:=by
 have h1:(o.map Int.toNat).Nodup:=by
  rw[List.Nodup,ADy];refine h.nd.imp_of_mem λ{a b} ha c g e=>g ?_;have:=h.rng a ha;have:=h.rng b c;omega
 have:=EP f.length (o.map Int.toNat) h1 (λj d=>by
  obtain⟨x,i,rfl⟩:=IF.1 d;have:=h.rng x i;omega)
 simpa using this
theorem KP.snoc {f:List AD} {o:List Int} (h:KP f o) {n:Int} (h0:0<=n) (h1:n<f.length) (hn:n∉o):KP f (o++[n]):=by
 refine⟨?_,λx c=>?_⟩
 ·rw[ADJ];refine⟨h.nd,by simp,λa ha b d=>?_⟩;have:b=n:=by simpa using d
  subst this;intro e;subst e;exact hn ha
 ·rcases No.1 c with c|c
  ·exact h.rng x c
  ·have:x=n:=by simpa using c
   subst this;exact⟨h0,h1⟩
theorem Ez {f:List AD} {k:Nat} (e:∀(o:List Int) (n:Int),KP f o->0<=n->n<f.length->n∉o->KP f (DK f k o n)/\o <+: DK f k o n) :
  ∀(l:List (Int×Int)) (o:List Int),(∀a∈l,0<=a.2/\a.2<(f.length:Int))->KP f o->KP f (l.foldl (Ad f k) o)/\o <+: l.foldl (Ad f k) o
 | [],o,_,h=>⟨h,AAq _⟩
 | a :: l,o,c,h=>by
  simp only[OR];have d:KP f (Ad f k o a)/\o <+: Ad f k o a:=by
   unfold Ad;split
   ·exact⟨h,AAq _⟩
   ·rename_i hn;exact e o a.2 h (c a (by simp)).1 (c a (by simp)).2 hn
  obtain⟨g,i⟩:=Ez e l _ (λb j=>c b (by simp[j])) d.1;exact⟨g,d.2.trans i⟩
theorem BE {f:List AD} (hf:AW f) {n:Int} {a:Int×Int} (ha:a∈(f.getD n.toNat (0,[])).2):0<=a.2/\a.2<f.length:=by
 by_cases h:n.toNat<f.length
 ·have b:f.getD n.toNat (0,[])∈f:=by
   rw[AS,At h];exact nO h
  exact(hf.2 _ b).2 a ha
 ·rw[AS,UJ (by omega)]at ha;simp at ha
theorem ED {f:List AD} (hf:AW f):∀(k:Nat) (o:List Int) (n:Int),KP f o->0<=n->n<f.length->n∉o->KP f (DK f k o n)/\o <+: DK f k o n
 | 0,o,n,h,_,_,_=>⟨h,AAq _⟩
 | k+1,o,n,h,h0,h1,d=>by
  obtain⟨b,c⟩:=Ez (ED hf k) _ _ (λa ha=>BE hf ha) (h.snoc h0 h1 d);rw[CK];exact⟨b,(AFg o [n]).trans c⟩
theorem IX {f:List AD} (hf:AW f):∀(k:Nat) (o:List Int) (n:Int),KP f o->0<=n->n<f.length->n∉o->f.length-o.length<=k ->
  n∈DK f k o n/\∀x∈DK f k o n,x∈o\/∀a∈(f.getD x.toNat (0,[])).2,a.2∈DK f k o n
 | 0,o,n,h,h0,h1,m,hk=>by
  have:=(h.snoc h0 h1 m).len;simp only[GO,To]at this;omega
 | k+1,o,n,h,h0,h1,m,hk=>by
  have key:∀(l:List (Int×Int)) (t:List Int),(∀a∈l,0<=a.2/\a.2<(f.length:Int))->KP f t->f.length-t.length<=k ->
    (∀a∈l,a.2∈l.foldl (Ad f k) t)/\∀x∈l.foldl (Ad f k) t,x∈t\/∀a∈(f.getD x.toNat (0,[])).2,a.2∈l.foldl (Ad f k) t:=by
   intro l;induction l with
   | nil=>exact λt _ _ _=>⟨λa ha=>(by cases ha),λx c=>.inl c⟩
   | cons a l z =>
    intro t p r u;simp only[OR];have v:KP f (Ad f k t a)/\t <+: Ad f k t a/\a.2∈Ad f k t a/\∀x∈Ad f k t a,x∈t\/∀b∈(f.getD x.toNat (0,[])).2,b.2∈Ad f k t a:=by
     unfold Ad;split
     ·rename_i hn;exact⟨r,AAq _,hn,λx c=>.inl c⟩
     ·rename_i hn;have q:=p a (by simp);obtain⟨e,g⟩:=ED hf k t a.2 r q.1 q.2 hn;obtain⟨i,j⟩:=IX hf k t a.2 r q.1 q.2 hn u;exact⟨e,g,i,j⟩
    obtain⟨e,g,i,j⟩:=v;have A:=g.length_le;obtain⟨w,y⟩:=z (Ad f k t a) (λb d=>p b (by simp[d])) e (by omega);obtain⟨_,s⟩:=Ez (ED hf k) l (Ad f k t a) (λb d=>p b (by simp[d])) e;refine⟨λb d=>?_,λx c=>?_⟩
    ·rcases DO.1 d with rfl|d
     ·exact s.subset i
     ·exact w b d
    ·rcases y x c with c|c
     ·rcases j x c with c|c
      ·exact .inl c
      ·exact .inr λb d=>s.subset (c b d)
     ·exact .inr c
  have hs:=h.snoc h0 h1 m;obtain⟨e,g⟩:=key (f.getD n.toNat (0,[])).2 (o++[n]) (λa ha=>BE hf ha) hs (by simp only[GO,To];omega);obtain⟨_,i⟩:=Ez (ED hf k) (f.getD n.toNat (0,[])).2 (o++[n]) (λa ha=>BE hf ha) hs;rw[CK];refine⟨i.subset (by simp),λx c=>?_⟩;rcases g x c with c|c
  ·rcases No.1 c with c|c
   ·exact .inl c
   ·have:x=n:=by simpa using c
    subst this;exact .inr e
  ·exact .inr c
def B6 (o:List Int) (x:Int):Int:=if x∈o then (o.idxOf x:Int) else 0
def LJ (o:List Int) (a:Int×Int):Int×Int:=(a.1,B6 o a.2)
def Di (f:List AD) (o:List Int) (n:Int):AD:=((f.getD n.toNat (0,[])).1,(f.getD n.toNat (0,[])).2.map (LJ o))
def AN (f:List AD) (root:Int):List AD:=(DK f f.length [] root).map (Di f (DK f f.length [] root))
def KG (f:List AD):Prop:=∀x∈f,i9 x.2/\x.2.length<=200
theorem nY {f:List AD} (hf:KG f) (n:Int):i9 (f.getD n.toNat (0,[])).2/\(f.getD n.toNat (0,[])).2.length<=200:=by
 by_cases h:n.toNat<f.length
 ·have a:f.getD n.toNat (0,[])∈f:=by
   rw[AS,At h];exact nO h
  exact hf _ a
 ·rw[AS,UJ (by omega)];exact⟨λi hi=>by simp at hi,by simp⟩
theorem JL {l:List (Int×Int)} (h:i9 l):Ae l=l:=by
 have key:∀i,i<=l.length->Ae (l.take i)=l.take i:=by
  intro i;induction i with
  | zero=>intro _;rfl
  | succ i d =>
   intro hi;rw[Az l (0,0) (by omega),Ha,d (by omega)];have b:(l.take i).length=i:=by rw[ON];omega
   have c:IT (l.getD i (0,0)) (l.take i) (l.take i).length=(l.take i).length:=by
    rw[b];cases i with
    | zero=>rfl
    | succ i =>
     have h1:=h i (by omega);have a:(l.take (i+1)).getD i (0,0)=l.getD i (0,0):=by
      simp only[AS];rw[US];simp
     simp only[IT];rw[a,An (by omega)]
   unfold O9;rw[c,UE,AF4,UO]
 have:=key l.length (NO _)
 rwa [UE]at this
structure Lf (f:List AD) (num o:List Int):Prop where
 len:num.length=f.length
 get:∀j,j<f.length->num.getD j 0=if (j:Int)∈o then (o.idxOf (j:Int):Int) else -1
theorem Lf.neg {f:List AD} {num o:List Int} (h:Lf f num o) {n:Int} (h0:0<=n) (h1:n<f.length):num.getD n.toNat 0<0↔n∉o:=by
 have:=h.get n.toNat (by omega);rw[show ((n.toNat:Nat):Int)=n by omega]at this;rw[this];split
 ·rename_i a;constructor
  ·intro e;omega
  ·intro e;exact absurd a e
 ·rename_i a;exact⟨λ_=>a,λ_=>by omega⟩
theorem Zd {o:List Int} {x n:Int} (h:x∈o):(o++[n]).idxOf x=o.idxOf x:=by rw[AEU,BY h]
theorem Ze {o:List Int} {n:Int} (h:n∉o):(o++[n]).idxOf n=o.length:=by rw[AEU,An h];simp
theorem Lf.snoc {f:List AD} {num o:List Int} (h:Lf f num o) {n:Int} (h0:0<=n) (h1:n<f.length) (hn:n∉o):Lf f (num.set n.toNat (o.length:Int)) (o++[n]):=by
 refine⟨by simpa using h.len,λj b=>?_⟩;have d:j<num.length:=by rw[h.len];exact b
 by_cases e:j=n.toNat
 ·subst e;have en:((n.toNat:Nat):Int)=n:=by omega
  rw[en];simp only[AS];rw[AEQ d,BY (by simp),Ze hn];simp
 ·have en:¬(j:Int)=n:=by omega
  simp only[AS];rw[List.getElem?_set_ne (λc=>e c.symm)];have:=h.get j b;simp only[AS]at this;rw[this];by_cases a:(j:Int)∈o
  ·rw[BY a,BY (by simp[a]),Zd a]
  ·rw[An a,An (by simp[a,en])]
theorem Ww {f:List AD} (hf:AW f) (hs:KG f):∀(k:Nat) (s:List Int×List Int) (n:Int),Lf f s.1 s.2->KP f s.2->0<=n->n<f.length->n∉s.2->(D9 f k s n).2=DK f k s.2 n/\Lf f (D9 f k s n).1 (D9 f k s n).2
 | 0,s,n,h,_,_,_,_=>⟨rfl,h⟩
 | k+1,s,n,h,w,h0,h1,m=>by
  have key:∀(l:List (Int×Int)) (t:List Int×List Int),(∀a∈l,0<=a.2/\a.2<(f.length:Int))->Lf f t.1 t.2->KP f t.2->(l.foldl (Ef f k) t).2=l.foldl (Ad f k) t.2/\Lf f (l.foldl (Ef f k) t).1 (l.foldl (Ef f k) t).2:=by
   intro l;induction l with
   | nil=>exact λt _ d _=>⟨rfl,d⟩
   | cons a l z =>
    intro t o d j;simp only[OR];have q:=o a (by simp);have p:=d.neg q.1 q.2;have x:(Ef f k t a).2=Ad f k t.2 a/\Lf f (Ef f k t a).1 (Ef f k t a).2/\KP f (Ef f k t a).2:=by
     unfold Ef Ad;by_cases c:a.2∈t.2
     ·rw[BY c,An (by rw[p];exact λe=>e c)];exact⟨rfl,d,j⟩
     ·rw[An c,BY (by rw[p];exact c)];obtain⟨g,i⟩:=Ww hf hs k t a.2 d j q.1 q.2 c;exact⟨g,i,by rw[g];exact(ED hf k t.2 a.2 j q.1 q.2 c).1⟩
    obtain⟨g,i,u⟩:=x;obtain⟨r,y⟩:=z (Ef f k t a) (λb v=>o b (by simp[v])) i u;rw[g]at r;exact⟨r,y⟩
  rw[Fy,CK,JL (nY hs n).1];exact key _ (s.1.set n.toNat (s.2.length:Int),s.2++[n]) (λa ha=>BE hf ha) (h.snoc h0 h1 m) (w.snoc h0 h1 m)
theorem GE {f:List AD} (hf:AW f) (hs:KG f) {root:Int} (h0:0<=root) (h1:root<f.length):IU f root=AN f root:=by
 have l:Lf f (List.replicate f.length (-1)) []:=⟨by simp,λj k=>by simp[AS,AEd,k]⟩;have d:KP f []:=⟨by simp,λx e=>by cases e⟩;obtain⟨c,b⟩:=Ww hf hs f.length (List.replicate f.length (-1),[]) root l d h0 h1 (by simp);have c:(GU f root).2=DK f f.length [] root:=c;have b:Lf f (GU f root).1 (GU f root).2:=b;have i:=(IX hf f.length [] root d h0 h1 (by simp) (by simp)).2;have m:=(ED hf f.length [] root d h0 h1 (by simp)).1;unfold IU AN;rw[c]at b ⊢;generalize DK f f.length [] root=o at *;refine UI λx e=>?_;unfold Mc Di;rw[JL (nY hs x).1];refine ADx _ (UI λa ha=>?_);unfold YX LJ B6;have h:a.2∈o:=by
  rcases i x e with g|g
  ·cases g
  ·exact g a ha
 have n:=BE hf ha;have:=b.get a.2.toNat (by omega);rw[show ((a.2.toNat:Nat):Int)=a.2 by omega]at this;rw[this,BY h,BY h]
def mOf (o:List Int):List (Int×Int):=(List.range o.length).map λi=>(o.getD i 0,(i:Int))
theorem jA (o:List Int) (n:Int):mOf (o++[n])=mOf o++[(n,(o.length:Int))]:=by
 unfold mOf;rw[GO,To,YF,YK]
 congr 1
 ·refine UI λi hi=>?_;have:i<o.length:=UM.1 hi;simp only[AS];rw[UR this]
 ·simp[AS]
theorem A0c (k:Int) (a b:List (Int×Int)):Be T3 T3 k (a++b)=(Be T3 T3 k a).or (Be T3 T3 k b):=by
 induction a with
 | nil=>rfl
 | cons x a c =>
  simp only[ADF,Be];split
  ·rfl
  ·exact c
theorem EV {α:Type} {p:List α->Prop} (h0:p []) (h1:∀l a,p l->p (l++[a])) (l:List α):p l:=by
 have:∀n (l:List α),l.length=n->p l:=by
  intro n;induction n with
  | zero=>intro l b;rw[List.length_eq_zero_iff.1 b];exact h0
  | succ n d =>
   intro l b;have c:l≠[]:=by intro e;subst e;simp at b
   rw[<-List.dropLast_concat_getLast c];exact h1 _ _ (d _ (by simp[b]))
 exact this _ l rfl
theorem SH (o:List Int) (x:Int):Be T3 T3 x (mOf o)=if x∈o then some (o.idxOf x:Int) else none:=by
 induction o using EV with
 | h0=>rfl
 | h1 o n b =>
  rw[jA,A0c,b];by_cases a:x∈o
  ·rw[BY a,BY (by simp[a]),Zd a];rfl
  ·rw[An a];by_cases hn:x=n
   ·subst hn;rw[BY (by simp),Ze a];simp[Be,Hj]
   ·rw[An (by simp[a,hn])];have:((x==n)=true)↔False:=by simp[hn]
    simp[Be,Hj,hn]
theorem A0d (k v:Int) (l:List (Int×Int)) (h:Be T3 T3 k l=none):GM T3 T3 k v l=l++[(k,v)]:=by
 induction l with
 | nil=>rfl
 | cons x l b =>
  simp only[Be]at h;simp only[GM,ADF];split at h
  ·cases h
  ·rename_i a;rw[An a,b h]
theorem A3l {o:List Int} {n:Int} (hn:n∉o):GM T3 T3 n (o.length:Int) (mOf o)=mOf (o++[n]):=by
 rw[A0d _ _ _ (by rw[SH,An hn]),jA]
theorem A77 (o:List Int) (x:Int):(Be T3 T3 x (mOf o)).getD 0=B6 o x:=by
 rw[SH];unfold B6;split<;>rfl
theorem Wx (o:List Int) (x:Int):(Be T3 T3 x (mOf o)).isSome=decide (x∈o):=by
 rw[SH];split<;>simp[*]
section
variable {α:Type}
structure SO (o:α->α->Int):Prop where
 anti:∀a b,o b a=- o a b
 trans:∀ {a b c},o a b<0->o b c<0->o a c<0
variable {o:α->α->Int} {d:α}
def CX (d:α) (l:List α) (i j:Nat):List α:=(l.set i (l.getD j d)).set j (l.getD i d)
theorem IY {l:List α} {i j:Nat} (hi:i<l.length) (c:j<l.length) (k:Nat):(CX d l i j).getD k d=if k=j then l.getD i d else if k=i then l.getD j d else l.getD k d:=by
 unfold CX;simp only[AS,ADz,YG];by_cases a:j=k
 ·rw[BY a,BY (by omega),BY a.symm];rfl
 ·rw[An a,An (show ¬k=j by omega)];by_cases b:i=k
  ·rw[BY b,BY (by omega),BY b.symm];rfl
  ·rw[An b,An (show ¬k=i by omega)]
theorem A0e {l:List α} {i j:Nat} (hi:i<l.length) (a:j<l.length):(CX d l i j).Perm l:=by
 have b:l.getD i d=l[i]:=by rw[AS,At hi];rfl
 have c:l.getD j d=l[j]:=by rw[AS,At a];rfl
 unfold CX;rw[b,c];exact List.set_set_perm hi a
structure EF (d:α) (a b:Nat) (l r:List α):Prop where
 perm:r.Perm l
 out:∀k,k<a\/b<=k->r.getD k d=l.getD k d
 inn:∀i,a<=i->i<b->∃j,a<=j/\j<b/\r.getD i d=l.getD j d
theorem EF.len {a b:Nat} {l r:List α} (h:EF d a b l r):r.length=l.length:=h.perm.length_eq
theorem EF.refl (a b:Nat) (l:List α):EF d a b l l:=⟨List.Perm.refl _,λ_ _=>rfl,λi h1 c=>⟨i,h1,c,rfl⟩⟩
theorem EF.trans {a b:Nat} {l r s:List α} (h:EF d a b l r) (c:EF d a b r s):EF d a b l s:=⟨c.perm.trans h.perm,λk hk=>(c.out k hk).trans (h.out k hk),λi h1 g=>by
 obtain⟨j,m,n,e⟩:=c.inn i h1 g;obtain⟨k,o,p,f⟩:=h.inn j m n;exact⟨k,o,p,e.trans f⟩⟩
theorem EF.mono {a b c b':Nat} {l r:List α} (h:EF d a b l r) (ha:c<=a) (g:b<=b'):EF d c b' l r:=⟨h.perm,λk hk=>h.out k (by omega),λi h1 f=>by
 by_cases hi:a<=i/\i<b
 ·obtain⟨j,m,n,e⟩:=h.inn i hi.1 hi.2;exact⟨j,by omega,by omega,e⟩
 ·exact⟨i,h1,f,h.out i (by omega)⟩⟩
theorem EF.swap {a b:Nat} (l:List α) {i j:Nat} (g:a<=i) (h:i<b) (m:a<=j) (n:j<b) (q:b<=l.length):EF d a b l (CX d l i j):=by
 have f:=IY (d:=d) (l:=l) (i:=i) (j:=j) (by omega) (by omega);refine⟨A0e (by omega) (by omega),λk hk=>?_,λk o p=>?_⟩
 ·rw[f k,An (by omega),An (by omega)]
 ·rw[f k];by_cases c:k=j
  ·rw[BY c];exact⟨i,g,h,rfl⟩
  ·rw[An c];by_cases e:k=i
   ·rw[BY e];exact⟨j,m,n,rfl⟩
   ·rw[An e];exact⟨k,o,p,rfl⟩
def k8 (o:α->α->Int) (d:α) (l:List α):Prop:=∀i j,i<l.length->j<l.length->i≠j->o (l.getD i d) (l.getD j d)≠0
theorem xE (g:SO o) (l:List α):k8 o d l↔l.Pairwise λa b=>o a b≠0:=by
 have e:∀i (h:i<l.length),l.getD i d=l[i]:=λi h=>by rw[AS,At h];rfl
 rw[UK];constructor
 ·intro h i j hi c f;have:=h i j hi c (by omega)
  rwa [e i hi,e j c]at this
 ·intro h i j hi c f;rw[e i hi,e j c];rcases Nat.lt_or_gt_of_ne f with h1|h1
  ·exact h i j hi c h1
  ·have k:=h j i c hi h1;rw[g.anti];omega
theorem k8.perm (c:SO o) {l r:List α} (h:k8 o d l) (hp:r.Perm l):k8 o d r:=by
 rw[xE c]at h ⊢;refine(hp.symm.pairwise_iff ?_).1 h;intro a b e;rw[c.anti];omega
theorem k8.lt (c:SO o) {l:List α} (h:k8 o d l) {i j:Nat} (hi:i<l.length) (b:j<l.length) (a:i≠j) (hn:¬o (l.getD i d) (l.getD j d)<0):o (l.getD j d) (l.getD i d)<0:=by
 have h1:=h i j hi b a;rw[c.anti];omega
def SI (o:α->α->Int) (d:α) (a b:Nat) (l:List α):Prop:=∀i j,a<=i->i<j->j<b->o (l.getD i d) (l.getD j d)<0
theorem c8 (a:Nat) (l:List α):SI o d a (a+1) l:=λi j h1 b c=>by omega
theorem A3m (g:SO o) {a b:Nat} {l:List α} (h:SI o d a b l) (m:a<b) (c:o (l.getD (b-1) d) (l.getD b d)<0):SI o d a (b+1) l:=by
 intro i j h1 e k;by_cases f:j=b
 ·subst f;by_cases hi:i=j-1
  ·rw[hi];exact c
  ·exact g.trans (h i (j-1) h1 (by omega) (by omega)) c
 ·exact h i j h1 e (by omega)
theorem NX {a b:Nat} {l r:List α} (h:SI o d a b l) (e:∀k,a<=k->k<b->r.getD k d=l.getD k d):SI o d a b r:=λi j h1 f c=>by
 rw[e i h1 (by omega),e j (by omega) c];exact h i j h1 f c
def nZ (o:α->α->Int) (d:α) (a i j:Nat) (m:List α):Prop:=(∀x y,a<=x->x<y->y<=i->x≠j->y≠j->o (m.getD x d) (m.getD y d)<0)/\∀y,j<y->y<=i->o (m.getD j d) (m.getD y d)<0
theorem n4 {a i:Nat} {m:List α} (h:SI o d a i m):nZ o d a i i m:=⟨λx y h0 h1 b c e=>h x y h0 h1 (by omega),λy h1 b=>by omega⟩
theorem Wy (g:SO o) {a i j:Nat} {m:List α} (h:nZ o d a i j m) (l:a<=j) (n:j<=i) (b:j=a\/o (m.getD (j-1) d) (m.getD j d)<0):SI o d a (i+1) m:=by
 intro x y h0 h1 k;by_cases c:x=j
 ·subst c;exact h.2 y h1 (by omega)
 ·by_cases e:y=j
  ·subst e;rcases b with b|b
   ·omega
   ·by_cases f:x=y-1
    ·subst f;exact b
    ·exact g.trans (h.1 x (y-1) h0 (by omega) (by omega) c (by omega)) b
  ·exact h.1 x y h0 h1 (by omega) c e
theorem Zf {a i j:Nat} {m:List α} (h:nZ o d a i j m) (h0:a<j) (q:j<=i) (hi:i<m.length) (p:o (m.getD j d) (m.getD (j-1) d)<0):nZ o d a i (j-1) (CX d m j (j-1)):=by
 have f:=IY (d:=d) (l:=m) (i:=j) (j:=j-1) (by omega) (by omega);refine⟨λx y g h1 e k n=>?_,λy h1 e=>?_⟩
 ·rw[f x,f y,An k,An n];by_cases c:x=j
  ·subst c;rw[BY rfl,An (by omega)];exact h.1 (x-1) y (by omega) (by omega) e (by omega) (by omega)
  ·rw[An c];by_cases b:y=j
   ·rw[BY b];exact h.1 x (j-1) g (by omega) (by omega) c (by omega)
   ·rw[An b];exact h.1 x y g h1 e c b
 ·rw[f (j-1),f y,BY rfl,An (by omega)];by_cases b:y=j
  ·rw[BY b];exact p
  ·rw[An b];exact h.2 y (by omega) e
def Hp (o:α->α->Int) (d:α) (f hi lo:Nat) (m:List α):Prop:=∀k c,lo<=k->(c=2*k+1\/c=2*k+2)->c<hi->o (m.getD (f+c) d) (m.getD (f+k) d)<0
structure HpX (o:α->α->Int) (d:α) (f hi lo root:Nat) (m:List α):Prop where
 le:lo<=root
 hp:∀k c,lo<=k->k≠root->(c=2*k+1\/c=2*k+2)->c<hi->o (m.getD (f+c) d) (m.getD (f+k) d)<0
 up:∀p c,lo<=p->(root=2*p+1\/root=2*p+2)->(c=2*root+1\/c=2*root+2)->c<hi->o (m.getD (f+c) d) (m.getD (f+p) d)<0
theorem A0f {f hi lo:Nat} {m:List α} (h:Hp o d f hi (lo+1) m):HpX o d f hi lo lo m:=⟨NO _,λk c h1 a b e=>h k c (by omega) b e,λp c h1 a=>by omega⟩
theorem A3n {f hi lo root:Nat} {m:List α} (h:HpX o d f hi lo root m) (e:hi<=2*root+1):Hp o d f hi lo m:=λk c h1 a b=>h.hp k c h1 (by omega) a b
theorem jB (i:SO o) {f hi lo root ch:Nat} {m:List α} (h:HpX o d f hi lo root m) (j:ch=2*root+1\/ch=2*root+2) (g:o (m.getD (f+ch) d) (m.getD (f+root) d)<0)
  (hs:∀c,(c=2*root+1\/c=2*root+2)->c<hi->c≠ch->o (m.getD (f+c) d) (m.getD (f+ch) d)<0):Hp o d f hi lo m:=λk c h1 a b=>by
 by_cases hk:k=root
 ·subst hk;by_cases e:c=ch
  ·rw[e];exact g
  ·exact i.trans (hs c a b e) g
 ·exact h.hp k c h1 hk a b
theorem jC {f hi lo root ch:Nat} {m:List α} (h:HpX o d f hi lo root m) (r:ch<hi) (hf:f+hi<=m.length) (n:ch=2*root+1\/ch=2*root+2) (t:o (m.getD (f+root) d) (m.getD (f+ch) d)<0)
  (hs:∀c,(c=2*root+1\/c=2*root+2)->c<hi->c≠ch->o (m.getD (f+c) d) (m.getD (f+ch) d)<0):HpX o d f hi lo ch (CX d m (f+root) (f+ch)):=by
 have e:=IY (d:=d) (l:=m) (i:=f+root) (j:=f+ch) (by omega) (by omega);have u:=h.le;refine⟨by omega,λk c h1 g a b=>?_,λp c h1 g a b=>?_⟩
 ·rw[e,e];by_cases hk:k=root
  ·subst hk;rw[An (show ¬f+k=f+ch by omega),BY rfl];by_cases q:c=ch
   ·rw[BY (by omega)];exact t
   ·rw[An (by omega),An (by omega)];exact hs c a b q
  ·rw[An (show ¬f+k=f+ch by omega),An (show ¬f+k=f+root by omega)];by_cases s:c=root
   ·subst s;rw[An (by omega),BY rfl];exact h.up k ch h1 a n r
   ·rw[An (by omega),An (by omega)];exact h.hp k c h1 hk a b
 ·have hp:p=root:=by omega
  subst hp;rw[e,e,An (by omega),An (by omega),An (by omega),BY rfl];exact h.hp ch c (by omega) (by omega) a b
theorem jD (b:SO o) {f hi:Nat} {m:List α} (h:Hp o d f hi 0 m):∀(n k:Nat),k<=n->0<k->k<hi->o (m.getD (f+k) d) (m.getD f d)<0
 | 0,k,h1,c,_=>by omega
 | n+1,k,h1,c,e=>by
  have a:=h ((k-1) / 2) k (by omega) (by omega) e;by_cases g:(k-1) / 2=0
  ·rw[g]at a;exact a
  ·exact b.trans a (jD b h n ((k-1) / 2) (by omega) (by omega) (by omega))
structure A0g (o:α->α->Int) (d:α) (f n i:Nat) (m:List α):Prop where
 heap:Hp o d f i 0 m
 srt:SI o d (f+i) (f+n) m
 big:∀x y,x<i->i<=y->y<n->o (m.getD (f+x) d) (m.getD (f+y) d)<0
theorem n5 {f n:Nat} {m:List α} (h:Hp o d f n 0 m):A0g o d f n n m:=⟨h,λi j h1 a b=>by omega,λx y h1 a b=>by omega⟩
theorem A0h (t:SO o) {f n i:Nat} {m:List α} (h:A0g o d f n (i+1) m) (hi:i<n) (v:f+n<=m.length) :
  HpX o d f i 0 0 (CX d m f (f+i))/\SI o d (f+i) (f+n) (CX d m f (f+i))/\∀x y,x<i->i<=y->y<n->o ((CX d m f (f+i)).getD (f+x) d) ((CX d m f (f+i)).getD (f+y) d)<0:=by
 have a:=IY (d:=d) (l:=m) (i:=f) (j:=f+i) (by omega) (by omega);have q:=jD t h.heap i;refine⟨⟨NO _,λk c h1 e b u=>?_,λp c h1 e=>by omega⟩,λx y h1 e b=>?_,λx y h1 e b=>?_⟩
 ·rw[a,a,An (by omega),An (by omega),An (by omega),An (by omega)];exact h.heap k c h1 b (by omega)
 ·rw[a,a,An (show ¬y=f+i by omega),An (show ¬y=f by omega)];by_cases g:x=f+i
  ·rw[BY g];have:=h.big 0 (y-f) (by omega) (by omega) (by omega)
   rwa [show f+0=f by omega,show f+(y-f)=y by omega]at this
  ·rw[An g,An (by omega)];exact h.srt x y (by omega) e b
 ·have key:∀z,z<i+1->i+1<=y->o (m.getD (f+z) d) (m.getD (f+y) d)<0:=λz s r=>h.big z y s r b;rw[a,a,An (show ¬f+x=f+i by omega)];by_cases r:y=i
  ·rw[BY (show f+y=f+i by omega)];by_cases g:x=0
   ·rw[BY (show f+x=f by omega)];exact q i (by omega) (by omega) (by omega)
   ·rw[An (show ¬f+x=f by omega)];exact q x (by omega) (by omega) (by omega)
  ·rw[An (show ¬f+y=f+i by omega),An (show ¬f+y=f by omega)];by_cases g:x=0
   ·rw[BY (show f+x=f by omega)];exact key i (by omega) (by omega)
   ·rw[An (show ¬f+x=f by omega)];exact key x (by omega) (by omega)
theorem A0i {f n i:Nat} {m r:List α} (hp:EF d f (f+i) m r) (hh:Hp o d f i 0 r) (hs:SI o d (f+i) (f+n) m) (c:∀x y,x<i->i<=y->y<n->o (m.getD (f+x) d) (m.getD (f+y) d)<0):A0g o d f n i r :=
 ⟨hh,NX hs λk h1 a=>hp.out k (by omega),λx y h1 a b=>by
  rw[hp.out (f+y) (by omega)];obtain⟨j,g,h,e⟩:=hp.inn (f+x) (by omega) (by omega);rw[e];have:=c (j-f) y (by omega) a b
  rwa [show f+(j-f)=j by omega]at this⟩
theorem A3o {f n:Nat} {m:List α} (h:A0g o d f n 0 m):SI o d f (f+n) m:=h.srt
structure PtI (o:α->α->Int) (d:α) (a b i j:Nat) (m:List α):Prop where
 lo:∀x,a<x->x<i->o (m.getD x d) (m.getD a d)<0
 hi:∀x,j<x->x<b->o (m.getD a d) (m.getD x d)<0
theorem jE {a b i j:Nat} {m:List α} (h:PtI o d a b i j m) (n:a<i) (q:i<j) (r:j<b) (p:b<=m.length) (h1:o (m.getD a d) (m.getD i d)<0) (k:o (m.getD j d) (m.getD a d)<0):PtI o d a b (i+1) (j-1) (CX d m i j):=by
 have c:=IY (d:=d) (l:=m) (i:=i) (j:=j) (by omega) (by omega);refine⟨λx f g=>?_,λx f g=>?_⟩
 ·rw[c x,c a,An (show ¬x=j by omega),An (show ¬a=j by omega),An (show ¬a=i by omega)];by_cases e:x=i
  ·rw[BY e];exact k
  ·rw[An e];exact h.lo x f (by omega)
 ·rw[c x,c a,An (show ¬a=j by omega),An (show ¬a=i by omega)];by_cases e:x=j
  ·rw[BY e];exact h1
  ·rw[An e,An (by omega)];exact h.hi x (by omega) g
structure PtE (o:α->α->Int) (d:α) (a b p:Nat) (m:List α):Prop where
 l:a<=p
 r:p<b
 lo:∀x,a<=x->x<p->o (m.getD x d) (m.getD p d)<0
 hi:∀x,p<x->x<b->o (m.getD p d) (m.getD x d)<0
theorem xF {a b j:Nat} {m:List α} (h:PtI o d a b (j+1) j m) (g:a<=j) (k:j<b) (p:b<=m.length):PtE o d a b j (CX d m j a):=by
 have c:=IY (d:=d) (l:=m) (i:=j) (j:=a) (by omega) (by omega);refine⟨g,k,λx n f=>?_,λx n f=>?_⟩
 ·rw[c x,c j,An (show ¬j=a by omega),BY rfl];by_cases e:x=a
  ·rw[BY e];exact h.lo j (by omega) (by omega)
  ·rw[An e,An (by omega)];exact h.lo x (by omega) (by omega)
 ·rw[c x,c j,An (show ¬x=a by omega),An (show ¬x=j by omega)];by_cases e:j=a
  ·rw[BY e];rw[e];exact h.hi x (by omega) f
  ·rw[An e,BY rfl];exact h.hi x (by omega) f
structure Cut (o:α->α->Int) (d:α) (a0 b0 a b:Nat) (m:List α):Prop where
 s1:SI o d a0 a m
 s2:SI o d b b0 m
 c1:∀x y,a0<=x->x<a->a<=y->y<b0->o (m.getD x d) (m.getD y d)<0
 c2:∀x y,a0<=x->x<b->b<=y->y<b0->o (m.getD x d) (m.getD y d)<0
 ab:a0<=a/\a<=b/\b<=b0
theorem A0k {a b:Nat} (g:a<=b) (m:List α):Cut o d a b a b m:=⟨λi j h1 c e=>by omega,λi j h1 c e=>by omega,λx y h1 c=>by omega,λx y h1 c e f=>by omega,by omega⟩
theorem Cut.pin {l n a b:Nat} {m r:List α} (h:Cut o d l n a b m) (hp:EF d a b m r):Cut o d l n a b r:=by
 obtain⟨w,B,A⟩:=h.ab;have key:∀(P:α->Prop) (lo hi:Nat),lo<=a->b<=hi->(∀y,lo<=y->y<hi->P (m.getD y d))->∀y,lo<=y->y<hi->P (r.getD y d):=λP lo hi h1 p q y c f=>by
  obtain⟨j,s,t,e⟩:=(hp.mono h1 p).inn y c f;rw[e];exact q j s t
 refine⟨NX h.s1 λk u v=>hp.out k (by omega),NX h.s2 λk u v=>hp.out k (by omega),λx y g i c f=>?_,λx y g i c f=>?_,h.ab⟩
 ·rw[hp.out x (by omega)];exact key (λz=>o (m.getD x d) z<0) a n (NO _) A (λy c f=>h.c1 x y g i c f) y c f
 ·rw[hp.out y (by omega)];exact key (λz=>o z (m.getD y d)<0) l b w (NO _) (λx g i=>h.c2 x y g i c f) x g i
theorem Cut.done {g k a b:Nat} {m:List α} (h:Cut o d g k a b m) (hs:SI o d a b m):SI o d g k m:=by
 obtain⟨n,p,q⟩:=h.ab;intro i j h1 c e;by_cases hi:i<a
 ·by_cases f:j<a
  ·exact h.s1 i j h1 c f
  ·exact h.c1 i j h1 hi (by omega) e
 ·by_cases f:j<b
  ·exact hs i j (by omega) c f
  ·by_cases l:i<b
   ·exact h.c2 i j h1 l (by omega) e
   ·exact h.s2 i j (by omega) c e
theorem Cut.left (u:SO o) {e f a b p:Nat} {m:List α} (h:Cut o d e f a b m) (hp:PtE o d a b p m) (hs:SI o d a p m):Cut o d e f (p+1) b m:=by
 obtain⟨A,B,C⟩:=h.ab;have w:=hp.l;have z:=hp.r;refine⟨λi j h1 g v=>?_,h.s2,λx y n D E q=>?_,h.c2,by omega⟩
 ·by_cases hi:i<a
  ·by_cases c:j<a
   ·exact h.s1 i j h1 g c
   ·exact h.c1 i j h1 hi (by omega) (by omega)
  ·by_cases c:j=p
   ·rw[c];exact hp.lo i (by omega) (by omega)
   ·exact hs i j (by omega) g (by omega)
 ·by_cases s:x<a
  ·exact h.c1 x y n s (by omega) q
  ·by_cases k:y<b
   ·by_cases t:x=p
    ·rw[t];exact hp.hi y (by omega) k
    ·exact u.trans (hp.lo x (by omega) (by omega)) (hp.hi y (by omega) k)
   ·exact h.c2 x y n (by omega) (by omega) q
theorem Cut.right (z:SO o) {g k a b p:Nat} {m:List α} (h:Cut o d g k a b m) (hp:PtE o d a b p m) (hs:SI o d (p+1) b m):Cut o d g k a p m:=by
 obtain⟨C,D,E⟩:=h.ab;have A:=hp.l;have B:=hp.r;refine⟨h.s1,λi j h1 n q=>?_,λx y c e t f=>h.c1 x y c e t f,λx y c e t f=>?_,by omega⟩
 ·by_cases s:j<b
  ·by_cases hi:i=p
   ·rw[hi];exact hp.hi j (by omega) s
   ·exact hs i j (by omega) n s
  ·by_cases u:i<b
   ·exact h.c2 i j (by omega) u (by omega) q
   ·exact h.s2 i j (by omega) n q
 ·by_cases w:y<b
  ·by_cases v:x<a
   ·exact h.c1 x y c v (by omega) f
   ·by_cases hyp:y=p
    ·rw[hyp];exact hp.lo x (by omega) e
    ·exact z.trans (hp.lo x (by omega) e) (hp.hi y (by omega) w)
  ·exact h.c2 x y c (by omega) (by omega) f
theorem PtE.pinL {a b p:Nat} {m r:List α} (h:PtE o d a b p m) (hp:EF d a p m r):PtE o d a b p r:=by
 have g:=h.l;have i:=h.r;refine⟨g,i,λx c f=>?_,λx c f=>?_⟩
 ·rw[hp.out p (by omega)];obtain⟨j,k,n,e⟩:=hp.inn x c f;rw[e];exact h.lo j k n
 ·rw[hp.out p (by omega),hp.out x (by omega)];exact h.hi x c f
theorem PtE.pinR {a b p:Nat} {m r:List α} (h:PtE o d a b p m) (hp:EF d (p+1) b m r):PtE o d a b p r:=by
 have g:=h.l;have i:=h.r;refine⟨g,i,λx f c=>?_,λx f c=>?_⟩
 ·rw[hp.out p (by omega),hp.out x (by omega)];exact h.lo x f c
 ·rw[hp.out p (by omega)];obtain⟨j,n,k,e⟩:=hp.inn x (by omega) c;rw[e];exact h.hi j (by omega) k
def Bf (o:α->α->Int) (d:α) (a b:Nat) (m:List α):Prop:=a=0\/∀y,a<=y->y<b->o (m.getD (a-1) d) (m.getD y d)<0
theorem Bf.pin {a b:Nat} {m r:List α} (h:Bf o d a b m) (hp:EF d a b m r):Bf o d a b r:=by
 rcases h with h|h
 ·exact .inl h
 ·by_cases h0:a=0
  ·exact .inl h0
  ·right;intro y g i;rw[hp.out (a-1) (by omega)];obtain⟨j,c,f,e⟩:=hp.inn y g i;rw[e];exact h j c f
theorem Bf.sub {a b b':Nat} {m:List α} (h:Bf o d a b m) (e:b'<=b):Bf o d a b' m:=h.imp id λh y c f=>h y c (by omega)
theorem PtE.bf {a b p:Nat} {m:List α} (h:PtE o d a b p m):Bf o d (p+1) b m:=.inr λy e c=>by
 rw[show p+1-1=p by omega];exact h.hi y (by omega) c
end
section
attribute [local go_sem] C0
def CF (a b:Int×Int):Int:=F0 a.1 b.1
theorem CN:SO CF:=⟨λa b=>by unfold CF F0;(repeat' split)<;>omega,λ{a b c} h1 d=>by
 unfold CF F0 at *
 (repeat' split at h1)<;>(repeat' split at d)<;>(repeat' split)<;>omega⟩
theorem A78 (l:List (Int×Int)) (M:l.length<=100000) (w:k8 CF (0,0) l) (a b:Nat) (H:a<=100000) (I:b<=l.length):BJ Tryz.prog 232 [.sr 1000000 AU 0 l.length,.p T3 (a:Int),.p T3 (b:Int),.fn 192] [(1000000,.arr 106 AU l)] [1000000] (λres F=>res=.raw (.tuple #[])/\∃r,F=[(1000000,.arr 106 AU r)]/\EF (0,0) a b l r/\SI CF (0,0) a b r):=by
 refine Kv [0,1,2,3,8,9,14,34] [] [] Tryz.func232 Tryz.ntmps232 (AF E7 AG) ?_;intro w0 K O0 ρ0 d O P;simp only[Ar];repeat'(first|exact trivial|refine eS rfl ?_|refine AB ?_|refine rX d ?_ ?_|refine rC ?_ ?_<;>intro e<;>try(cases e;done))
 ·omega
 ·refine AJ (ι:={s:Nat×List (Int×Int)//a+1<=s.1/\(s.1=a+1\/s.1<=b)/\EF (0,0) a b l s.2/\SI CF (0,0) a s.1 s.2}) (λs=>⟨[(0,.sr 1000000 AU 0 l.length),(1,.p T3 (a:Int)),(2,.p T3 (b:Int)),(3,.fn 192),(8,.p (.int .i64) (s.1.1:Int))],[(1000000,.arr 106 AU s.1.2)]⟩) (λs=>b-s.1.1) ⟨(a+1,l),NO _,.inl rfl,EF.refl a b l,c8 a l⟩ (AC [(1000000,.nm 1000000)] rfl rfl ?_ ?_) (λs=>?_)
  ·first|exact eN|refine eM ?_
  ·first|exact eN|refine eM ?_
  ·obtain⟨⟨i,m⟩,B,C,hp,hs⟩:=s;simp only at B C hp hs ⊢;have N:=hp.len;repeat'(first|exact trivial|refine eS rfl ?_|refine AB ?_|refine rX d ?_ ?_|refine rC ?_ ?_<;>intro e<;>try(cases e;done))
   ·have D:i<b:=by exact eV
    refine AJ (ι:={t:Nat×List (Int×Int)//a<=t.1/\t.1<=i/\EF (0,0) a b l t.2/\nZ CF (0,0) a i t.1 t.2}) (λt=>⟨[(0,.sr 1000000 AU 0 l.length),(1,.p T3 (a:Int)),(2,.p T3 (b:Int)),(3,.fn 192),(8,.p (.int .i64) (i:Int)),(9,.p (.int .i64) (t.1.1:Int))],[(1000000,.arr 106 AU t.1.2)]⟩) (λt=>t.1.1) ⟨(i,m),by omega,NO i,hp,n4 hs⟩ (AC [(1000000,.nm 1000000)] rfl rfl ?_ ?_) (λt=>?_)
    ·first|exact eN|refine eM ?_
    ·first|exact eN|refine eM ?_
    ·obtain⟨⟨j,c⟩,ha,q,g,o⟩:=t;simp only at ha q g o ⊢;have J:=g.len;have z:=w.perm CN g.perm;repeat'(first|exact trivial|refine eS rfl ?_|refine AB ?_|refine rX d ?_ ?_)
     ·dsimp only[Ty.den]at *;exact⟨λ_=>by omega,λ_=>⟨by omega,by omega⟩,λ_=>⟨by omega,by omega⟩⟩
     ·have n:a<j->((j:Int)-1).toNat=j-1:=λ_=>by omega
      refine Dp (by simp only[go_sem,Nat.reduceEqDiff,reduceCtorEq,Nat.reduceAdd,Nat.reduceSub,Nat.reduceMul,Nat.reduceLeDiff,Nat.reduceLT,Int.reduceLE,Int.reduceToNat,Int.reduceNeg,↓reduceIte];rfl) ?_ ?_
      ·intro f;simp only[AT,Fe]at f;have k:a<j:=by omega
       have u:CF (c.getD j (0,0)) (c.getD ((j:Int)-1).toNat (0,0))<0:=f.2;rw[n k]at u;have E:CX (0,0) c j (j-1)=(c.set j (c.getD (j-1) (0,0))).set (j-1) (c.getD j (0,0)):=rfl;repeat'(first|exact trivial|refine eS rfl ?_|refine AB ?_|refine rP d ?_ ?_|fail)
       (refine CV drawsAny d 16 [([0,1,5,6,7,8,9,10,11,12,13,14],15)] [2,3,4] (by kernel_rfl) (NQ ?_ ?_);(next=>exact CY);refine PY d [] ?_ ?_;(next=>exact CY);refine S8 d ?_ ?_ ?_;(next=>exact CY);(next=>exact CY))
       rw[n k];repeat'(first|exact trivial|refine eS rfl ?_|refine AB ?_|refine rX d ?_ ?_|refine rC ?_ ?_<;>intro e<;>try(cases e;done))
       ·dsimp only[Ty.den]at *;omega
       ·refine⟨⟨(j-1,CX (0,0) c j (j-1)),by simp only;omega,by simp only;omega,g.trans (EF.swap c (by omega) (by omega) (by omega) (by omega) (by omega)),Zf o k q (by omega) u⟩,by simp only;omega,AC [(1000000,.nm 1000000)] rfl rfl ?_ ?_⟩
        ·simp only;rw[E];first|exact eN|refine eM ?_
        ·simp only;rw[show ((j-1:Nat):Int)=(j:Int)-1 by omega];first|exact eN|refine eM ?_
      ·intro f;have A:j=a\/CF (c.getD (j-1) (0,0)) (c.getD j (0,0))<0:=by
        by_cases k:j=a
        ·exact .inl k
        ·right;simp only[ADt,On]at f;rw[n (by omega)]at f;rcases f with h|h
         ·omega
         ·exact z.lt CN (by omega) (by omega) (by omega) h
       repeat'(first|exact trivial|refine eS rfl ?_|refine AB ?_|refine rX d ?_ ?_|refine rC ?_ ?_<;>intro e<;>try(cases e;done))
       ·exact eV
       ·refine⟨⟨(i+1,c),by simp only;omega,.inr D,g,Wy CN o ha q A⟩,by simp only;omega,AC [(1000000,.nm 1000000)] rfl rfl ?_ ?_⟩
        ·first|exact eN|refine eM ?_
        ·first|exact eN|refine eM ?_
   ·have L:b<=i:=by exact eV
    exact fM d [] (.raw (.tuple #[])) rfl ⟨rfl,m,rfl,hp,λx y h1 v G=>hs x y h1 v (by omega)⟩
end
section
attribute [local go_sem] C0
theorem A79 (l:List (Int×Int)) (o:l.length<=100000) (a b:Nat) (h:a<b) (k:b<=l.length):BJ Tryz.prog 236 [.sr 1000000 AU 0 l.length,.p T3 (a:Int),.p T3 (b:Int),.fn 192] [(1000000,.arr 106 AU l)] [1000000] (λres g=>res=.raw (.tuple #[])/\∃r,g=[(1000000,.arr 106 AU r)]/\EF (0,0) a b l r):=by
 refine Kv [0,1,2,8,9,15] [] [] Tryz.func236 Tryz.ntmps236 AG ?_;intro w0 K O0 ρ0 c t u;simp only[Ar];repeat'(first|exact trivial|refine eS rfl ?_|refine AB ?_|refine rX c ?_ ?_|refine rC ?_ ?_<;>intro d<;>try(cases d;done))
 ·omega
 ·rw[show (b:Int)-1=((b-1:Nat):Int) by omega];refine AJ (ι:={s:Nat×Nat×List (Int×Int)//a<=s.1/\s.2.1<b/\EF (0,0) a b l s.2.2}) (λs=>⟨[(0,.sr 1000000 AU 0 l.length),(8,.p (.int .i64) (s.1.1:Int)),(9,.p (.int .i64) (s.1.2.1:Int))],[(1000000,.arr 106 AU s.1.2.2)]⟩) (λs=>s.1.2.1-s.1.1) ⟨(a,b-1,l),NO _,by simp only;omega,EF.refl a b l⟩ (AC [(1000000,.nm 1000000)] rfl rfl ?_ ?_) (λs=>?_)
  ·first|exact eN|refine eM ?_
  ·first|exact eN|refine eM ?_
  ·obtain⟨⟨i,j,m⟩,hi,e,hp⟩:=s;simp only at hi e hp ⊢;have q:=hp.len;repeat'(first|exact trivial|refine eS rfl ?_|refine AB ?_|refine rX c ?_ ?_)
   refine rC ?_ ?_<;>intro d
   ·repeat'(first|exact trivial|refine eS rfl ?_|refine AB ?_|refine rP c ?_ ?_|fail)
    have n:i<j:=by omega
    have f:CX (0,0) m i j=(m.set i (m.getD j (0,0))).set j (m.getD i (0,0)):=rfl
    (refine CV drawsAny c 14 [([0,1,4,5,6,7,8,9,10,11,12],13)] [2,3] (by kernel_rfl) (NQ ?_ ?_);(next=>exact CY);refine PY c [] ?_ ?_;(next=>exact CY);refine S8 c ?_ ?_ ?_;(next=>exact CY);(next=>exact CY))
    repeat'(first|exact trivial|refine eS rfl ?_|refine AB ?_|refine rX c ?_ ?_|refine rC ?_ ?_<;>intro d<;>try(cases d;done))
    ·omega
    ·omega
    ·refine⟨⟨(i+1,j-1,CX (0,0) m i j),by simp only;omega,by simp only;omega,hp.trans (EF.swap m (by omega) (by omega) (by omega) (by omega) (by omega))⟩,by simp only;omega,AC [(1000000,.nm 1000000)] rfl rfl ?_ ?_⟩
     ·simp only;rw[f];first|exact eN|refine eM ?_
     ·simp only;rw[show ((j-1:Nat):Int)=(j:Int)-1 by omega];first|exact eN|refine eM ?_
   ·repeat'(first|exact trivial|refine eS rfl ?_|refine AB ?_|refine rX c ?_ ?_|refine rC ?_ ?_<;>intro d<;>try(cases d;done))
    exact fM c [] (.raw (.tuple #[])) rfl ⟨rfl,m,rfl,hp⟩
theorem jF (l:List (Int×Int)) (o:l.length<=100000) (z:k8 CF (0,0) l) (lo hi f:Nat) (F:lo<=100000) (hf:f+hi<=l.length) (A:HpX CF (0,0) f hi lo lo l):BJ Tryz.prog 244 [.sr 1000000 AU 0 l.length,.p T3 (lo:Int),.p T3 (hi:Int),.p T3 (f:Int),.fn 192] [(1000000,.arr 106 AU l)] [1000000] (λres E=>res=.raw (.tuple #[])/\∃r,E=[(1000000,.arr 106 AU r)]/\EF (0,0) f (f+hi) l r/\Hp CF (0,0) f hi lo r):=by
 refine Kv [0,1,2,3,4,10,11,18,40,58] [] [] Tryz.func244 Tryz.ntmps244 (AF E7 AG) ?_;intro w0 K O0 ρ0 a H I;simp only[Ar];repeat'(first|exact trivial|refine eS rfl ?_|refine AB ?_|refine rX a ?_ ?_|refine rC ?_ ?_<;>intro d<;>try(cases d;done))
 refine AJ (ι:={s:Nat×List (Int×Int)//s.1<=lo+hi/\EF (0,0) f (f+hi) l s.2/\HpX CF (0,0) f hi lo s.1 s.2}) (λs=>⟨[(0,.sr 1000000 AU 0 l.length),(2,.p T3 (hi:Int)),(3,.p T3 (f:Int)),(4,.fn 192),(10,.p (.int .i64) (s.1.1:Int))],[(1000000,.arr 106 AU s.1.2)]⟩) (λs=>lo+hi-s.1.1) ⟨(lo,l),by omega,EF.refl _ _ l,A⟩ (AC [(1000000,.nm 1000000)] rfl rfl ?_ ?_) (λs=>?_)
 ·first|exact eN|refine eM ?_
 ·first|exact eN|refine eM ?_
 ·obtain⟨⟨root,m⟩,D,hp,k⟩:=s;simp only at D hp k ⊢;have G:=hp.len;have t:=z.perm CN hp.perm;repeat'(first|exact trivial|refine eS rfl ?_|refine AB ?_|refine rX a ?_ ?_)
  ·omega
  ·refine rC ?_ ?_<;>intro d
   ·have o:hi<=2*root+1:=by omega
    repeat'(first|exact trivial|refine eS rfl ?_|refine AB ?_|refine rX a ?_ ?_|refine rC ?_ ?_<;>intro d<;>try(cases d;done))
    exact fM a [] (.raw (.tuple #[])) rfl ⟨rfl,m,rfl,hp,A3n k o⟩
   ·have o:2*root+1<hi:=by omega
    have n:((f:Int)+(2*(root:Int)+1)).toNat=f+(2*root+1):=by omega
    have q:((f:Int)+(2*(root:Int)+1+1)).toNat=f+(2*root+2):=by omega
    have w:((f:Int)+(2*(root:Int)+1)+1).toNat=f+(2*root+2):=by omega
    have g:((f:Int)+(root:Int)).toNat=f+root:=by omega
    repeat'(first|exact trivial|refine eS rfl ?_|refine AB ?_|refine rX a ?_ ?_)
    ·dsimp only[Ty.den];exact⟨by omega,λ_=>by omega,λ_=>by omega,λ_=>by omega,λ_=>by omega,λ_=>by omega⟩
    ·refine Dp (by simp only[go_sem,Nat.reduceEqDiff,reduceCtorEq,Nat.reduceAdd,Nat.reduceSub,Nat.reduceMul,Nat.reduceLeDiff,Nat.reduceLT,Int.reduceLE,Int.reduceToNat,Int.reduceNeg,↓reduceIte];rfl) ?_ ?_
     ·intro e;simp only[AT,Fe]at e;obtain⟨hh,e⟩:=e;have C:CF (m.getD (f+(2*root+1)) (0,0)) (m.getD (f+(2*root+2)) (0,0))<0:=by rw[<-n,<-w];exact e
      have B:2*root+2<hi:=by omega
      have hs:∀c,(c=2*root+1\/c=2*root+2)->c<hi->c≠2*root+2->CF (m.getD (f+c) (0,0)) (m.getD (f+(2*root+2)) (0,0))<0:=λc h1 x y=>by
       rw[show c=2*root+1 by omega];exact C
      repeat'(first|exact trivial|refine eS rfl ?_|refine AB ?_|refine rX a ?_ ?_)
      ·omega
      ·exact CY
      ·refine Dp (by simp only[go_sem,Nat.reduceEqDiff,reduceCtorEq,Nat.reduceAdd,Nat.reduceSub,Nat.reduceMul,Nat.reduceLeDiff,Nat.reduceLT,Int.reduceLE,Int.reduceToNat,Int.reduceNeg,↓reduceIte];rfl) ?_ ?_
       ·intro b;simp only[UB,On]at b;rw[g,q]at b;have u:=t.lt CN (i:=f+root) (j:=f+(2*root+2)) (by omega) (by omega) (by omega) b;repeat'(first|exact trivial|refine eS rfl ?_|refine AB ?_|refine rX a ?_ ?_|refine rC ?_ ?_<;>intro d<;>try(cases d;done))
        exact fM a [] (.raw (.tuple #[])) rfl ⟨rfl,m,rfl,hp,jB CN k (.inr rfl) u hs⟩
       ·intro b;simp only[ADQ,Fe]at b;rw[g,q]at b;have v:CX (0,0) m (f+root) (f+(2*root+2))=(m.set (f+root) (m.getD (f+(2*root+2)) (0,0))).set (f+(2*root+2)) (m.getD (f+root) (0,0)):=rfl;repeat'(first|exact trivial|refine eS rfl ?_|refine AB ?_|refine rP a ?_ ?_|fail)
        (refine CV drawsAny a 22 [([0,1,2,3,8,9,10,11,12,13,14,15,16,17,18,19,20],21)] [4,5,6,7] (by kernel_rfl) (NQ ?_ ?_);(next=>exact CY);refine PY a [] ?_ ?_;(next=>exact CY);refine S8 a ?_ ?_ ?_;(next=>exact CY);(next=>exact CY))
        rw[g,q];repeat'(first|exact trivial|refine eS rfl ?_|refine AB ?_|refine rX a ?_ ?_|refine rC ?_ ?_<;>intro d<;>try(cases d;done))
        refine⟨⟨(2*root+2,CX (0,0) m (f+root) (f+(2*root+2))),by simp only;omega,hp.trans (EF.swap m (by omega) (by omega) (by omega) (by omega) (by omega)),jC k B (by omega) (.inr rfl) b hs⟩,by simp only;omega,AC [(1000000,.nm 1000000)] rfl rfl ?_ ?_⟩
        ·simp only;rw[v];first|exact eN|refine eM ?_
        ·simp only;rw[show ((2*root+2:Nat):Int)=2*(root:Int)+1+1 by omega];first|exact eN|refine eM ?_
     ·intro e;have hs:∀c,(c=2*root+1\/c=2*root+2)->c<hi->c≠2*root+1->CF (m.getD (f+c) (0,0)) (m.getD (f+(2*root+1)) (0,0))<0:=λc h1 x y=>by
       simp only[ADt,On]at e;have a:c=2*root+2:=by omega
       subst a;rcases e with h|h
       ·omega
       ·rw[n,w]at h;exact t.lt CN (by omega) (by omega) (by omega) h
      repeat'(first|exact trivial|refine eS rfl ?_|refine AB ?_|refine rX a ?_ ?_)
      ·exact CY
      ·refine Dp (by simp only[go_sem,Nat.reduceEqDiff,reduceCtorEq,Nat.reduceAdd,Nat.reduceSub,Nat.reduceMul,Nat.reduceLeDiff,Nat.reduceLT,Int.reduceLE,Int.reduceToNat,Int.reduceNeg,↓reduceIte];rfl) ?_ ?_
       ·intro b;simp only[UB,On]at b;rw[g,n]at b;have u:=t.lt CN (i:=f+root) (j:=f+(2*root+1)) (by omega) (by omega) (by omega) b;repeat'(first|exact trivial|refine eS rfl ?_|refine AB ?_|refine rX a ?_ ?_|refine rC ?_ ?_<;>intro d<;>try(cases d;done))
        exact fM a [] (.raw (.tuple #[])) rfl ⟨rfl,m,rfl,hp,jB CN k (.inl rfl) u hs⟩
       ·intro b;simp only[ADQ,Fe]at b;rw[g,n]at b;have v:CX (0,0) m (f+root) (f+(2*root+1))=(m.set (f+root) (m.getD (f+(2*root+1)) (0,0))).set (f+(2*root+1)) (m.getD (f+root) (0,0)):=rfl;repeat'(first|exact trivial|refine eS rfl ?_|refine AB ?_|refine rP a ?_ ?_|fail)
        (refine CV drawsAny a 22 [([0,1,2,3,8,9,10,11,12,13,14,15,16,17,18,19,20],21)] [4,5,6,7] (by kernel_rfl) (NQ ?_ ?_);(next=>exact CY);refine PY a [] ?_ ?_;(next=>exact CY);refine S8 a ?_ ?_ ?_;(next=>exact CY);(next=>exact CY))
        rw[g,n];repeat'(first|exact trivial|refine eS rfl ?_|refine AB ?_|refine rX a ?_ ?_|refine rC ?_ ?_<;>intro d<;>try(cases d;done))
        refine⟨⟨(2*root+1,CX (0,0) m (f+root) (f+(2*root+1))),by simp only;omega,hp.trans (EF.swap m (by omega) (by omega) (by omega) (by omega) (by omega)),jC k o (by omega) (.inl rfl) b hs⟩,by simp only;omega,AC [(1000000,.nm 1000000)] rfl rfl ?_ ?_⟩
        ·simp only;rw[v];first|exact eN|refine eM ?_
        ·simp only;rw[show ((2*root+1:Nat):Int)=2*(root:Int)+1 by omega];first|exact eN|refine eM ?_
end
section
attribute [local go_sem] C0
theorem A3p (l:List (Int×Int)) (L:l.length<=100000) (u:k8 CF (0,0) l) (a b:Nat) (I:a<=b) (J:b<=l.length):BJ Tryz.prog 233 [.sr 1000000 AU 0 l.length,.p T3 (a:Int),.p T3 (b:Int),.fn 192] [(1000000,.arr 106 AU l)] [1000000] (λres C=>res=.raw (.tuple #[])/\∃r,C=[(1000000,.arr 106 AU r)]/\EF (0,0) a b l r/\SI CF (0,0) a b r):=by
 refine Kv [0,1,2,3,8,9,10,11,12,21,33] [] [] Tryz.func233 Tryz.ntmps233 AG ?_;intro w0 K O0 ρ0 d M N;simp only[Ar];obtain⟨n,hn⟩:∃n,b=a+n:=⟨b-a,by omega⟩;subst hn;have t:(((a+n:Nat):Int)-(a:Int)-1).tdiv 2=(((n-1) / 2+1:Nat):Int)-1:=by
  by_cases h0:n=0
  ·subst h0;rw[show ((a+0:Nat):Int)-(a:Int)-1=-1 by omega];decide
  ·rw[oS (by omega)];omega
 have en:((a+n:Nat):Int)-(a:Int)=(n:Int):=by omega
 repeat'(first|exact trivial|refine eS rfl ?_|refine AB ?_|refine rX d ?_ ?_|refine rC ?_ ?_<;>intro e<;>try(cases e;done))
 ·omega
 ·rw[t];exact⟨by omega,by decide,by omega⟩
 ·rw[t,en];refine AJ (ι:={s:Nat×List (Int×Int)//s.1<=n+1/\EF (0,0) a (a+n) l s.2/\Hp CF (0,0) a n s.1 s.2}) (λs=>⟨[(0,.sr 1000000 AU 0 l.length),(3,.fn 192),(8,.p T3 (a:Int)),(9,.p (.int .i64) (0:Int)),(10,.p (.int .i64) (n:Int)),(11,.p (.int .i64) ((s.1.1:Int)-1))],[(1000000,.arr 106 AU s.1.2)]⟩) (λs=>s.1.1) ⟨((n-1) / 2+1,l),by simp only;omega,EF.refl _ _ l,λk c h1 G H=>by simp only at h1;omega⟩ (AC [(1000000,.nm 1000000)] rfl rfl ?_ ?_) (λs=>?_)
  ·first|exact eN|refine eM ?_
  ·first|exact eN|refine eM ?_
  ·obtain⟨⟨k,m⟩,hk,hp,q⟩:=s;simp only at hk hp q ⊢;have y:=hp.len;have x:=u.perm CN hp.perm;repeat'(first|exact trivial|refine eS rfl ?_|refine AB ?_|refine rX d ?_ ?_)
   refine rC ?_ ?_<;>intro e
   ·have f:0<k:=by omega
    have key:=jF m (by omega) x (k-1) n a (by omega) (by omega) (A0f (by rw[show k-1+1=k by omega];exact q));rw[y,show ((k-1:Nat):Int)=(k:Int)-1 by omega]at key;repeat'(first|exact trivial|refine eS rfl ?_|refine AB ?_|refine rX d ?_ ?_)
    refine cP 5 d ?_ ?_
    ·trivial
    ·refine rM d (key) [(1000000,.nm 1000000)] [] ?_ ?_ ?_
     ·first|exact eN|refine eM ?_
     ·first|exact eN|refine eM ?_
     ·rintro _ _ ⟨rfl,r,rfl,i,j⟩;refine⟨[(1000000,.nm 1000000)],.raw (.tuple #[]),[(1000000,.arr 106 AU r)],rfl,rfl,?_,?_,rfl,rfl,CR ?_⟩
      ·first|exact eN|refine eM ?_
      ·first|exact eN|refine eM ?_
      ·repeat'(first|exact trivial|refine eS rfl ?_|refine AB ?_|refine rX d ?_ ?_|refine rC ?_ ?_<;>intro e<;>try(cases e;done))
       ·omega
       ·refine⟨⟨(k-1,r),by simp only;omega,hp.trans i,j⟩,by simp only;omega,AC [(1000000,.nm 1000000)] rfl rfl ?_ ?_⟩
        ·simp only;first|exact eN|refine eM ?_
        ·simp only;rw[show ((k-1:Nat):Int)=(k:Int)-1 by omega];first|exact eN|refine eM ?_
   ·have f:k=0:=by omega
    subst f;repeat'(first|exact trivial|refine eS rfl ?_|refine AB ?_|refine rX d ?_ ?_)
    ·omega
    ·refine AJ (ι:={s:Nat×List (Int×Int)//s.1<=n/\EF (0,0) a (a+n) l s.2/\A0g CF (0,0) a n s.1 s.2}) (λs=>⟨[(0,.sr 1000000 AU 0 l.length),(3,.fn 192),(8,.p T3 (a:Int)),(9,.p (.int .i64) (0:Int)),(12,.p (.int .i64) ((s.1.1:Int)-1))],[(1000000,.arr 106 AU s.1.2)]⟩) (λs=>s.1.1) ⟨(n,m),NO _,hp,n5 q⟩ (AC [(1000000,.nm 1000000)] rfl rfl ?_ ?_) (λs=>?_)
     ·first|exact eN|refine eM ?_
     ·first|exact eN|refine eM ?_
     ·obtain⟨⟨k,c⟩,hk,g,h⟩:=s;simp only at hk g h ⊢;have w:=g.len;repeat'(first|exact trivial|refine eS rfl ?_|refine AB ?_|refine rX d ?_ ?_)
      refine rC ?_ ?_<;>intro e
      ·have f:0<k:=by omega
       have h:A0g CF (0,0) a n (k-1+1) c:=by rw[show k-1+1=k by omega];exact h
       obtain⟨D,E,F⟩:=A0h CN h (by omega) (by omega);have o:EF (0,0) a (a+n) c (CX (0,0) c a (a+(k-1))):=EF.swap c (by omega) (by omega) (by omega) (by omega) (by omega);have A:=o.len;have z:=u.perm CN (g.trans o).perm;have v:((a:Int)+((k:Int)-1)).toNat=a+(k-1):=by omega
       have B:CX (0,0) c a (a+(k-1))=(c.set a (c.getD (a+(k-1)) (0,0))).set (a+(k-1)) (c.getD a (0,0)):=rfl;have key:=jF (CX (0,0) c a (a+(k-1))) (by omega) z 0 (k-1) a (by omega) (by omega) D;rw[A,w,show ((k-1:Nat):Int)=(k:Int)-1 by omega]at key;repeat'(first|exact trivial|refine eS rfl ?_|refine AB ?_|refine rP d ?_ ?_|fail)
       (refine CV drawsAny d 18 [([0,1,6,7,8,9,10,11,12,13,14,15,16],17)] [2,3,4,5] (by kernel_rfl) (NQ ?_ ?_);(next=>exact CY);refine PY d [] ?_ ?_;(next=>exact CY);refine S8 d ?_ ?_ ?_;(next=>exact CY);(next=>exact CY))
       rw[v,<-B];repeat'(first|exact trivial|refine eS rfl ?_|refine AB ?_|refine rP d ?_ ?_|fail)
       refine cP 5 d ?_ ?_
       ·trivial
       ·refine rM d (key) [(1000000,.nm 1000000)] [] ?_ ?_ ?_
        ·first|exact eN|refine eM ?_
        ·first|exact eN|refine eM ?_
        ·rintro _ _ ⟨rfl,r,rfl,i,j⟩;refine⟨[(1000000,.nm 1000000)],.raw (.tuple #[]),[(1000000,.arr 106 AU r)],rfl,rfl,?_,?_,rfl,rfl,CR ?_⟩
         ·first|exact eN|refine eM ?_
         ·first|exact eN|refine eM ?_
         ·repeat'(first|exact trivial|refine eS rfl ?_|refine AB ?_|refine rX d ?_ ?_|refine rC ?_ ?_<;>intro e<;>try(cases e;done))
          ·omega
          ·refine⟨⟨(k-1,r),by simp only;omega,(g.trans o).trans (i.mono (NO _) (by omega)),A0i i j E F⟩,by simp only;omega,AC [(1000000,.nm 1000000)] rfl rfl ?_ ?_⟩
           ·simp only;first|exact eN|refine eM ?_
           ·simp only;rw[show ((k-1:Nat):Int)=(k:Int)-1 by omega];first|exact eN|refine eM ?_
      ·have f:k=0:=by omega
       subst f;repeat'(first|exact trivial|refine eS rfl ?_|refine AB ?_|refine rX d ?_ ?_|refine rC ?_ ?_<;>intro e<;>try(cases e;done))
       exact fM d [] (.raw (.tuple #[])) rfl ⟨rfl,c,rfl,g,A3o h⟩
end
section
attribute [local go_sem] C0
theorem A7a (l:List (Int×Int)) (ah:l.length<=100000) (O:k8 CF (0,0) l) (a b p:Nat) (hap:a<=p) (aa:p<b) (V:b<=l.length):BJ Tryz.prog 239 [.sr 1000000 AU 0 l.length,.p T3 (a:Int),.p T3 (b:Int),.p T3 (p:Int),.fn 192] [(1000000,.arr 106 AU l)] [1000000] (λres ae=>∃(q:Nat) (w:Bool) (r:List (Int×Int)),res=.tup [.p T3 (q:Int),.p .bool w]/\ae=[(1000000,.arr 106 AU r)]/\EF (0,0) a b l r/\PtE CF (0,0) a b q r):=by
 refine Kv [0,1,2,3,4,10,11,12,13,47,66,71,120,139,144] [] [] Tryz.func239 Tryz.ntmps239 (AF E7 AG) ?_;intro w0 K O0 ρ0 c ai aj;simp only[Ar];have g:EF (0,0) a b l (CX (0,0) l a p):=EF.swap l (NO _) (by omega) hap aa V;have n:CX (0,0) l a p=(l.set a (l.getD p (0,0))).set p (l.getD a (0,0)):=rfl;repeat'(first|exact trivial|refine eS rfl ?_|refine AB ?_|refine rP c ?_ ?_|fail)
 (refine CV drawsAny c 14 [([0,1,4,5,6,7,8,9,10,11,12],13)] [2,3] (by kernel_rfl) (NQ ?_ ?_);(next=>exact CY);refine PY c [] ?_ ?_;(next=>exact CY);refine S8 c ?_ ?_ ?_;(next=>exact CY);(next=>exact CY))
 rw[<-n];have y:=O.perm CN g.perm;have R:=g.len;clear n;generalize CX (0,0) l a p=m at *;repeat'(first|exact trivial|refine eS rfl ?_|refine AB ?_|refine rP c ?_ ?_|fail)
 ·exact CY
 ·rw[show (a:Int)+1=((a+1:Nat):Int) by omega,show (b:Int)-1=((b-1:Nat):Int) by omega];refine AJ (ι:={i:Nat//a<i/\i<=b/\PtI CF (0,0) a b i (b-1) m}) (λs=>⟨[(0,.sr 1000000 AU 0 l.length),(1,.p T3 (a:Int)),(4,.fn 192),(12,.p (.int .i64) (s.1:Int)),(13,.p (.int .i64) ((b-1:Nat):Int))],[(1000000,.arr 106 AU m)]⟩) (λs=>b-s.1) ⟨a+1,by omega,by omega,⟨λx h1 f=>by omega,λx h1 f=>by omega⟩⟩ (AC [(1000000,.nm 1000000)] rfl rfl ?_ ?_) (λs=>?_)
  ·first|exact eN|refine eM ?_
  ·first|exact eN|refine eM ?_
  ·obtain⟨i,E,I,t⟩:=s;simp only at E I t ⊢;repeat'(first|exact trivial|refine eS rfl ?_|refine AB ?_|refine rX c ?_ ?_)
   ·dsimp only[Ty.den];exact⟨λ_=>by omega,λ_=>by omega⟩
   ·refine Dp (by simp only[go_sem,Nat.reduceEqDiff,reduceCtorEq,Nat.reduceAdd,Nat.reduceSub,Nat.reduceMul,Nat.reduceLeDiff,Nat.reduceLT,Int.reduceLE,Int.reduceToNat,Int.reduceNeg,↓reduceIte];rfl) ?_ ?_
    ·intro d;simp only[AT,Fe]at d;obtain⟨h1,f⟩:=d;repeat'(first|exact trivial|refine eS rfl ?_|refine AB ?_|refine rX c ?_ ?_)
     ·exact CY
     ·refine⟨⟨i+1,by omega,by omega,⟨λx G H=>?_,t.hi⟩⟩,by simp only;omega,AC [(1000000,.nm 1000000)] rfl rfl ?_ ?_⟩
      ·by_cases e:x=i
       ·rw[e];exact f
       ·exact t.lo x G (by omega)
      ·first|exact eN|refine eM ?_
      ·first|exact eN|refine eM ?_
    ·intro d;have A:i<=b-1->CF (m.getD a (0,0)) (m.getD i (0,0))<0:=λh1=>y.lt CN (by omega) (by omega) (by omega) λf=>by
      simp only[ADt,On]at d;rcases d with h|h
      ·omega
      ·exact h f
     have ag:i<=b-1+1:=by omega
     repeat'(first|exact trivial|refine eS rfl ?_|refine AB ?_|refine rX c ?_ ?_)
     refine AJ (ι:={j:Nat//a<=j/\j<b/\i<=j+1/\PtI CF (0,0) a b i j m}) (λs=>⟨[(0,.sr 1000000 AU 0 l.length),(1,.p T3 (a:Int)),(4,.fn 192),(12,.p (.int .i64) (i:Int)),(13,.p (.int .i64) (s.1:Int))],[(1000000,.arr 106 AU m)]⟩) (λs=>s.1) ⟨b-1,by omega,by omega,by omega,t⟩ (AC [(1000000,.nm 1000000)] rfl rfl ?_ ?_) (λs=>?_)
     ·first|exact eN|refine eM ?_
     ·first|exact eN|refine eM ?_
     ·obtain⟨j,u,v,W,C⟩:=s;simp only at u v W C ⊢;clear d;repeat'(first|exact trivial|refine eS rfl ?_|refine AB ?_|refine rX c ?_ ?_)
      ·dsimp only[Ty.den];exact⟨λ_=>by omega,λ_=>by omega⟩
      ·refine Dp (by simp only[go_sem,Nat.reduceEqDiff,reduceCtorEq,Nat.reduceAdd,Nat.reduceSub,Nat.reduceMul,Nat.reduceLeDiff,Nat.reduceLT,Int.reduceLE,Int.reduceToNat,Int.reduceNeg,↓reduceIte];rfl) ?_ ?_
       ·intro d;simp only[AT,Fe,UB,On]at d;obtain⟨h1,f⟩:=d;have f:=y.lt CN (i:=j) (j:=a) (by omega) (by omega) (by omega) f;repeat'(first|exact trivial|refine eS rfl ?_|refine AB ?_|refine rX c ?_ ?_)
        ·exact CY
        ·refine⟨⟨j-1,by omega,by omega,by omega,⟨C.lo,λx G H=>?_⟩⟩,by simp only;omega,AC [(1000000,.nm 1000000)] rfl rfl ?_ ?_⟩
         ·by_cases e:x=j
          ·rw[e];exact f
          ·exact C.hi x (by omega) H
         ·first|exact eN|refine eM ?_
         ·simp only;rw[show ((j-1:Nat):Int)=(j:Int)-1 by omega];first|exact eN|refine eM ?_
       ·intro d;have B:i<=j->CF (m.getD j (0,0)) (m.getD a (0,0))<0:=λh1=>by
         simp only[ADt,On,ADQ,Fe]at d;rcases d with h|h
         ·omega
         ·exact h
        repeat'(first|exact trivial|refine eS rfl ?_|refine AB ?_|refine rX c ?_ ?_)
        refine rC ?_ ?_<;>intro D
        ·have Q:i=j+1:=by omega
         subst Q;have o:EF (0,0) a b m (CX (0,0) m j a):=EF.swap m u v (NO _) (by omega) (by omega);have n:CX (0,0) m j a=(m.set j (m.getD a (0,0))).set a (m.getD j (0,0)):=rfl;repeat'(first|exact trivial|refine eS rfl ?_|refine AB ?_|refine rP c ?_ ?_|fail)
         (refine CV drawsAny c 14 [([0,1,4,5,6,7,8,9,10,11,12],13)] [2,3] (by kernel_rfl) (NQ ?_ ?_);(next=>exact CY);refine PY c [] ?_ ?_;(next=>exact CY);refine S8 c ?_ ?_ ?_;(next=>exact CY);(next=>exact CY))
         rw[<-n];repeat'(first|exact trivial|refine eS rfl ?_|refine AB ?_|refine rX c ?_ ?_|refine rC ?_ ?_<;>intro D<;>try(cases D;done))
         exact fM c [.tmp 10,.tmp 11] (.tup [.p T3 (j:Int),.p .bool true]) eT ⟨j,true,_,rfl,rfl,g.trans o,xF C u v (by omega)⟩
        ·have Z:i≠j:=λe=>by
          have S:=A (by omega);have af:=B (by omega);rw[e,CN.anti]at S;omega
         have P:i<j:=by omega
         have o:EF (0,0) a b m (CX (0,0) m i j):=EF.swap m (by omega) (by omega) u v (by omega);have n:CX (0,0) m i j=(m.set i (m.getD j (0,0))).set j (m.getD i (0,0)):=rfl;have M:=jE C E P v (by omega) (A (by omega)) (B (by omega));repeat'(first|exact trivial|refine eS rfl ?_|refine AB ?_|refine rP c ?_ ?_|fail)
         (refine CV drawsAny c 14 [([0,1,4,5,6,7,8,9,10,11,12],13)] [2,3] (by kernel_rfl) (NQ ?_ ?_);(next=>exact CY);refine PY c [] ?_ ?_;(next=>exact CY);refine S8 c ?_ ?_ ?_;(next=>exact CY);(next=>exact CY))
         rw[<-n];have J:=g.trans o;have y:=O.perm CN J.perm;have R:=J.len;clear n o C t A B d g;generalize CX (0,0) m i j=ad at *;repeat'(first|exact trivial|refine eS rfl ?_|refine AB ?_|refine rX c ?_ ?_)
         ·exact CY
         ·exact CY
         ·rw[show (i:Int)+1=((i+1:Nat):Int) by omega,show (j:Int)-1=((j-1:Nat):Int) by omega];refine AJ (ι:={s:Nat×Nat×List (Int×Int)//(a<s.1/\s.1<=s.2.1+1)/\(a<=s.2.1/\s.2.1<b)/\EF (0,0) a b l s.2.2/\PtI CF (0,0) a b s.1 s.2.1 s.2.2}) (λs=>⟨[(0,.sr 1000000 AU 0 l.length),(1,.p T3 (a:Int)),(4,.fn 192),(12,.p (.int .i64) (s.1.1:Int)),(13,.p (.int .i64) (s.1.2.1:Int))],[(1000000,.arr 106 AU s.1.2.2)]⟩) (λs=>s.1.2.1+1-s.1.1) ⟨(i+1,j-1,ad),by simp only;omega,by simp only;omega,J,M⟩ (AC [(1000000,.nm 1000000)] rfl rfl ?_ ?_) (λs=>?_)
          ·first|exact eN|refine eM ?_
          ·first|exact eN|refine eM ?_
          ·clear M y R J;obtain⟨⟨i,j,m⟩,⟨E,I⟩,⟨u,v⟩,g,t⟩:=s;simp only at E I u v g t ⊢;have y:=O.perm CN g.perm;have R:=g.len;repeat'(first|exact trivial|refine eS rfl ?_|refine AB ?_|refine rX c ?_ ?_)
           refine AJ (ι:={k:Nat//a<k/\i<=k/\k<=j+1/\PtI CF (0,0) a b k j m}) (λs=>⟨[(0,.sr 1000000 AU 0 l.length),(1,.p T3 (a:Int)),(4,.fn 192),(12,.p (.int .i64) (s.1:Int)),(13,.p (.int .i64) (j:Int))],[(1000000,.arr 106 AU m)]⟩) (λs=>j+1-s.1) ⟨i,E,NO _,I,t⟩ (AC [(1000000,.nm 1000000)] rfl rfl ?_ ?_) (λs=>?_)
           ·first|exact eN|refine eM ?_
           ·first|exact eN|refine eM ?_
           ·obtain⟨k,T,X,U,L⟩:=s;simp only at T U X L ⊢;repeat'(first|exact trivial|refine eS rfl ?_|refine AB ?_|refine rX c ?_ ?_)
            ·dsimp only[Ty.den];exact⟨λ_=>by omega,λ_=>by omega⟩
            ·refine Dp (by simp only[go_sem,Nat.reduceEqDiff,reduceCtorEq,Nat.reduceAdd,Nat.reduceSub,Nat.reduceMul,Nat.reduceLeDiff,Nat.reduceLT,Int.reduceLE,Int.reduceToNat,Int.reduceNeg,↓reduceIte];rfl) ?_ ?_
             ·intro d;simp only[AT,Fe]at d;obtain⟨h1,f⟩:=d;repeat'(first|exact trivial|refine eS rfl ?_|refine AB ?_|refine rX c ?_ ?_)
              ·exact CY
              ·refine⟨⟨k+1,by omega,by omega,by omega,⟨λx G H=>?_,L.hi⟩⟩,by simp only;omega,AC [(1000000,.nm 1000000)] rfl rfl ?_ ?_⟩
               ·by_cases e:x=k
                ·rw[e];exact f
                ·exact L.lo x G (by omega)
               ·first|exact eN|refine eM ?_
               ·first|exact eN|refine eM ?_
             ·intro d;have A:k<=j->CF (m.getD a (0,0)) (m.getD k (0,0))<0:=λh1=>y.lt CN (by omega) (by omega) (by omega) λf=>by
               simp only[ADt,On]at d;rcases d with h|h
               ·omega
               ·exact h f
              repeat'(first|exact trivial|refine eS rfl ?_|refine AB ?_|refine rX c ?_ ?_)
              refine AJ (ι:={z:Nat//a<=z/\z<=j/\k<=z+1/\PtI CF (0,0) a b k z m}) (λs=>⟨[(0,.sr 1000000 AU 0 l.length),(1,.p T3 (a:Int)),(4,.fn 192),(12,.p (.int .i64) (k:Int)),(13,.p (.int .i64) (s.1:Int))],[(1000000,.arr 106 AU m)]⟩) (λs=>s.1) ⟨j,u,NO _,U,L⟩ (AC [(1000000,.nm 1000000)] rfl rfl ?_ ?_) (λs=>?_)
              ·first|exact eN|refine eM ?_
              ·first|exact eN|refine eM ?_
              ·obtain⟨z,N,ab,Y,F⟩:=s;simp only at N ab Y F ⊢;clear d;repeat'(first|exact trivial|refine eS rfl ?_|refine AB ?_|refine rX c ?_ ?_)
               ·dsimp only[Ty.den];exact⟨λ_=>by omega,λ_=>by omega⟩
               ·refine Dp (by simp only[go_sem,Nat.reduceEqDiff,reduceCtorEq,Nat.reduceAdd,Nat.reduceSub,Nat.reduceMul,Nat.reduceLeDiff,Nat.reduceLT,Int.reduceLE,Int.reduceToNat,Int.reduceNeg,↓reduceIte];rfl) ?_ ?_
                ·intro d;simp only[AT,Fe,UB,On]at d;obtain⟨h1,f⟩:=d;have f:=y.lt CN (i:=z) (j:=a) (by omega) (by omega) (by omega) f;repeat'(first|exact trivial|refine eS rfl ?_|refine AB ?_|refine rX c ?_ ?_)
                 ·exact CY
                 ·refine⟨⟨z-1,by omega,by omega,by omega,⟨F.lo,λx G H=>?_⟩⟩,by simp only;omega,AC [(1000000,.nm 1000000)] rfl rfl ?_ ?_⟩
                  ·by_cases e:x=z
                   ·rw[e];exact f
                   ·exact F.hi x (by omega) H
                  ·first|exact eN|refine eM ?_
                  ·simp only;rw[show ((z-1:Nat):Int)=(z:Int)-1 by omega];first|exact eN|refine eM ?_
                ·intro d;have B:k<=z->CF (m.getD z (0,0)) (m.getD a (0,0))<0:=λh1=>by
                  simp only[ADt,On,ADQ,Fe]at d;rcases d with h|h
                  ·omega
                  ·exact h
                 repeat'(first|exact trivial|refine eS rfl ?_|refine AB ?_|refine rX c ?_ ?_)
                 refine rC ?_ ?_<;>intro D
                 ·have Q:k=z+1:=by omega
                  subst Q;have o:EF (0,0) a b m (CX (0,0) m z a):=EF.swap m N (by omega) (NO _) (by omega) (by omega);have n:CX (0,0) m z a=(m.set z (m.getD a (0,0))).set a (m.getD z (0,0)):=rfl;repeat'(first|exact trivial|refine eS rfl ?_|refine AB ?_|refine rP c ?_ ?_|fail)
                  (refine CV drawsAny c 14 [([0,1,4,5,6,7,8,9,10,11,12],13)] [2,3] (by kernel_rfl) (NQ ?_ ?_);(next=>exact CY);refine PY c [] ?_ ?_;(next=>exact CY);refine S8 c ?_ ?_ ?_;(next=>exact CY);(next=>exact CY))
                  rw[<-n];repeat'(first|exact trivial|refine eS rfl ?_|refine AB ?_|refine rX c ?_ ?_|refine rC ?_ ?_<;>intro D<;>try(cases D;done))
                  exact fM c [.tmp 10,.tmp 11] (.tup [.p T3 (z:Int),.p .bool false]) eT ⟨z,false,_,rfl,rfl,g.trans o,xF F N (by omega) (by omega)⟩
                 ·have Z:k≠z:=λe=>by
                   have S:=A (by omega);have af:=B (by omega);rw[e,CN.anti]at S;omega
                  have P:k<z:=by omega
                  have o:EF (0,0) a b m (CX (0,0) m k z):=EF.swap m (by omega) (by omega) N (by omega) (by omega);have n:CX (0,0) m k z=(m.set k (m.getD z (0,0))).set z (m.getD k (0,0)):=rfl;have M:=jE F T P (by omega) (by omega) (A (by omega)) (B (by omega));repeat'(first|exact trivial|refine eS rfl ?_|refine AB ?_|refine rP c ?_ ?_|fail)
                  (refine CV drawsAny c 14 [([0,1,4,5,6,7,8,9,10,11,12],13)] [2,3] (by kernel_rfl) (NQ ?_ ?_);(next=>exact CY);refine PY c [] ?_ ?_;(next=>exact CY);refine S8 c ?_ ?_ ?_;(next=>exact CY);(next=>exact CY))
                  rw[<-n];repeat'(first|exact trivial|refine eS rfl ?_|refine AB ?_|refine rX c ?_ ?_)
                  ·exact CY
                  ·exact CY
                  ·refine⟨⟨(k+1,z-1,CX (0,0) m k z),by simp only;omega,by simp only;omega,g.trans o,M⟩,by simp only;omega,AC [(1000000,.nm 1000000)] rfl rfl ?_ ?_⟩
                   ·first|exact eN|refine eM ?_
                   ·simp only;rw[show ((z-1:Nat):Int)=(z:Int)-1 by omega];first|exact eN|refine eM ?_
end
section
attribute [local go_sem] C0
theorem A7b (l:List (Int×Int)) (am:l.length<=100000) (L:k8 CF (0,0) l) (a b:Nat) (ak:a<b) (al:b<=l.length) (U:Bf CF (0,0) a b l):BJ Tryz.prog 237 [.sr 1000000 AU 0 l.length,.p T3 (a:Int),.p T3 (b:Int),.fn 192] [(1000000,.arr 106 AU l)] [1000000] (λres aj=>∃(w:Bool) (r:List (Int×Int)),res=.p .bool w/\aj=[(1000000,.arr 106 AU r)]/\EF (0,0) a b l r/\(w=true->SI CF (0,0) a b r)):=by
 refine Kv [0,1,2,3,8,9,10,11,12,16,36,41,45,65,69,84,104,109,124] [] [] Tryz.func237 Tryz.ntmps237 (AF E7 AG) ?_;intro w0 K O0 ρ0 f an ao;simp only[Ar];repeat'(first|exact trivial|refine eS rfl ?_|refine AB ?_|refine rX f ?_ ?_|refine rC ?_ ?_<;>intro q<;>try(cases q;done))
 ·exact CY
 ·refine AJ (ι:={s:Nat×Nat×List (Int×Int)//(a+1<=s.1/\s.1<=b)/\s.2.1<=5/\EF (0,0) a b l s.2.2/\SI CF (0,0) a s.1 s.2.2}) (λs=>⟨[(0,.sr 1000000 AU 0 l.length),(1,.p T3 (a:Int)),(2,.p T3 (b:Int)),(3,.fn 192),(9,.p (.int .i64) (s.1.1:Int)),(10,.p (.int .i64) (s.1.2.1:Int))],[(1000000,.arr 106 AU s.1.2.2)]⟩) (λs=>5-s.1.2.1) ⟨(a+1,0,l),by simp only;omega,IS _,EF.refl a b l,c8 a l⟩ (AC [(1000000,.nm 1000000)] rfl rfl ?_ ?_) (λs=>?_)
  ·first|exact eN|refine eM ?_
  ·first|exact eN|refine eM ?_
  ·obtain⟨⟨i,t,m⟩,⟨ab,N⟩,ai,u,Q⟩:=s;simp only at ab N ai u Q ⊢;have P:=L.perm CN u.perm;have ah:=u.len;repeat'(first|exact trivial|refine eS rfl ?_|refine AB ?_|refine rX f ?_ ?_)
   refine rC ?_ ?_<;>intro q
   ·repeat'(first|exact trivial|refine eS rfl ?_|refine AB ?_|refine rX f ?_ ?_)
    refine AJ (ι:={k:Nat//i<=k/\k<=b/\SI CF (0,0) a k m}) (λs=>⟨[(0,.sr 1000000 AU 0 l.length),(1,.p T3 (a:Int)),(2,.p T3 (b:Int)),(3,.fn 192),(9,.p (.int .i64) (s.1:Int)),(10,.p (.int .i64) (t:Int))],[(1000000,.arr 106 AU m)]⟩) (λs=>b-s.1) ⟨i,NO _,N,Q⟩ (AC [(1000000,.nm 1000000)] rfl rfl ?_ ?_) (λs=>?_)
    ·first|exact eN|refine eM ?_
    ·first|exact eN|refine eM ?_
    ·obtain⟨k,ae,af,F⟩:=s;simp only at ae af F ⊢;have J:((k:Int)-1).toNat=k-1:=by omega
     repeat'(first|exact trivial|refine eS rfl ?_|refine AB ?_|refine rX f ?_ ?_)
     ·dsimp only[Ty.den];exact⟨λ_=>by omega,λ_=>by omega,λ_=>by omega⟩
     ·refine Dp (by simp only[go_sem,Nat.reduceEqDiff,reduceCtorEq,Nat.reduceAdd,Nat.reduceSub,Nat.reduceMul,Nat.reduceLeDiff,Nat.reduceLT,Int.reduceLE,Int.reduceToNat,Int.reduceNeg,↓reduceIte];rfl) ?_ ?_
      ·intro g;simp only[AT,Fe,UB,On]at g;obtain⟨h1,z⟩:=g;rw[J]at z;have z:=P.lt CN (i:=k) (j:=k-1) (by omega) (by omega) (by omega) z;repeat'(first|exact trivial|refine eS rfl ?_|refine AB ?_|refine rX f ?_ ?_)
       ·exact CY
       ·refine⟨⟨k+1,by omega,by omega,A3m CN F (by omega) z⟩,by simp only;omega,AC [(1000000,.nm 1000000)] rfl rfl ?_ ?_⟩
        ·first|exact eN|refine eM ?_
        ·first|exact eN|refine eM ?_
      ·intro g;clear g;repeat'(first|exact trivial|refine eS rfl ?_|refine AB ?_|refine rX f ?_ ?_)
       refine rC (λZ=>?_) (λZ=>?_)
       ·have O:k=b:=by omega
        subst O;repeat'(first|exact trivial|refine eS rfl ?_|refine AB ?_|refine rX f ?_ ?_|refine rC ?_ ?_<;>intro q<;>try(cases q;done))
        exact fM f [.tmp 8] (.p .bool true) eT ⟨true,m,rfl,rfl,u,λ_=>F⟩
       ·have O:k<b:=by omega
        repeat'(first|exact trivial|refine eS rfl ?_|refine AB ?_|refine rX f ?_ ?_)
        ·exact CY
        ·refine rC (λaa=>?_) (λaa=>?_)
         ·repeat'(first|exact trivial|refine eS rfl ?_|refine AB ?_|refine rX f ?_ ?_|refine rC ?_ ?_<;>intro q<;>try(cases q;done))
          exact fM f [.tmp 8] (.p .bool false) eT ⟨false,m,rfl,rfl,u,λh=>by cases h⟩
         ·have v:EF (0,0) a b m (CX (0,0) m k (k-1)):=EF.swap m (by omega) (by omega) (by omega) (by omega) (by omega);have B:CX (0,0) m k (k-1)=(m.set k (m.getD (k-1) (0,0))).set (k-1) (m.getD k (0,0)):=rfl;have R:nZ CF (0,0) a (k-1) (k-1) (CX (0,0) m k (k-1)):=⟨λx y h0 h1 z S T=>by
           have M:=IY (d:=(0,0)) (l:=m) (i:=k) (j:=k-1) (by omega) (by omega);rw[M x,M y,An S,An (show ¬x=k by omega),An T,An (show ¬y=k by omega)];exact F x y h0 h1 (by omega),λy h1 z=>by omega⟩
          repeat'(first|exact trivial|refine eS rfl ?_|refine AB ?_|refine rP f ?_ ?_|fail)
          (refine CV drawsAny f 16 [([0,1,5,6,7,8,9,10,11,12,13,14],15)] [2,3,4] (by kernel_rfl) (NQ ?_ ?_);(next=>exact CY);refine PY f [] ?_ ?_;(next=>exact CY);refine S8 f ?_ ?_ ?_;(next=>exact CY);(next=>exact CY))
          rw[J,<-B];have I:=u.trans v;clear B v P ah;generalize CX (0,0) m k (k-1)=c0 at *;refine Hu ?_;refine Pz (ι:={c:List (Int×Int)//EF (0,0) a b l c/\SI CF (0,0) a k c}) (λs=>⟨[(0,.sr 1000000 AU 0 l.length),(1,.p T3 (a:Int)),(2,.p T3 (b:Int)),(3,.fn 192),(9,.p (.int .i64) (k:Int)),(10,.p (.int .i64) (t:Int))],[(1000000,.arr 106 AU s.1)]⟩) ?_ (λs=>?_)
          ·repeat'(first|exact trivial|refine eS rfl ?_|refine AB ?_|refine rX f ?_ ?_)
           ·exact CY
           ·refine rC (λG=>?_) (λG=>?_)
            ·repeat'(first|exact trivial|refine eS rfl ?_|refine AB ?_|refine rX f ?_ ?_)
             ·exact CY
             ·rw[show (k:Int)-1=((k-1:Nat):Int) by omega];refine AJ (ι:={s:Nat×List (Int×Int)//(a<=s.1/\s.1<=k-1)/\EF (0,0) a b l s.2/\nZ CF (0,0) a (k-1) s.1 s.2}) (λs=>⟨[(0,.sr 1000000 AU 0 l.length),(1,.p T3 (a:Int)),(2,.p T3 (b:Int)),(3,.fn 192),(9,.p (.int .i64) (k:Int)),(10,.p (.int .i64) (t:Int)),(11,.p (.int .i64) (s.1.1:Int))],[(1000000,.arr 106 AU s.1.2)]⟩) (λs=>s.1.1) ⟨(k-1,c0),by simp only;omega,I,R⟩ (AC [(1000000,.nm 1000000)] rfl rfl ?_ ?_) (λs=>?_)
              ·first|exact eN|refine eM ?_
              ·first|exact eN|refine eM ?_
              ·obtain⟨⟨j,c⟩,⟨D,A⟩,n,o⟩:=s;simp only at D A n o ⊢;have X:=L.perm CN n.perm;have Y:=n.len;have C:((j:Int)-1).toNat=j-1:=by omega
               have V:=U.pin n;repeat'(first|exact trivial|refine eS rfl ?_|refine AB ?_|refine rX f ?_ ?_)
               refine rC (λH=>?_) (λH=>?_)
               ·repeat'(first|exact trivial|refine eS rfl ?_|refine AB ?_|refine rX f ?_ ?_)
                ·exact CY
                ·refine Dp (by simp only[go_sem,Nat.reduceEqDiff,reduceCtorEq,Nat.reduceAdd,Nat.reduceSub,Nat.reduceMul,Nat.reduceLeDiff,Nat.reduceLT,Int.reduceLE,Int.reduceToNat,Int.reduceNeg,↓reduceIte];rfl) ?_ ?_
                 ·intro g;simp only[UB,On]at g;rw[C]at g;have g:=X.lt CN (i:=j) (j:=j-1) (by omega) (by omega) (by omega) g;have E:=Wy CN o D A (.inr g);rw[show k-1+1=k by omega]at E;repeat'(first|exact trivial|refine eS rfl ?_|refine AB ?_|refine rX f ?_ ?_)
                  refine⟨⟨c,n,E⟩,AC [(1000000,.nm 1000000)] rfl rfl ?_ ?_⟩
                  ·first|exact eN|refine eM ?_
                  ·first|exact eN|refine eM ?_
                 ·intro g;simp only[ADQ,Fe]at g;rw[C]at g;have g:CF (c.getD j (0,0)) (c.getD (j-1) (0,0))<0:=g;have W:a<j:=by
                   refine Do λhn=>?_;have e:j=a:=by omega
                   subst e;rcases V with h|h
                   ·omega
                   ·have:=h j (NO _) (by omega);rw[CN.anti]at this;omega
                  have v:EF (0,0) a b c (CX (0,0) c j (j-1)):=EF.swap c (by omega) (by omega) (by omega) (by omega) (by omega);have B:CX (0,0) c j (j-1)=(c.set j (c.getD (j-1) (0,0))).set (j-1) (c.getD j (0,0)):=rfl;repeat'(first|exact trivial|refine eS rfl ?_|refine AB ?_|refine rP f ?_ ?_|fail)
                  (refine CV drawsAny f 16 [([0,1,5,6,7,8,9,10,11,12,13,14],15)] [2,3,4] (by kernel_rfl) (NQ ?_ ?_);(next=>exact CY);refine PY f [] ?_ ?_;(next=>exact CY);refine S8 f ?_ ?_ ?_;(next=>exact CY);(next=>exact CY))
                  rw[C,<-B];repeat'(first|exact trivial|refine eS rfl ?_|refine AB ?_|refine rX f ?_ ?_)
                  ·exact CY
                  ·refine⟨⟨(j-1,CX (0,0) c j (j-1)),by simp only;omega,n.trans v,Zf o W A (by omega) g⟩,by simp only;omega,AC [(1000000,.nm 1000000)] rfl rfl ?_ ?_⟩
                   ·first|exact eN|refine eM ?_
                   ·simp only;rw[show ((j-1:Nat):Int)=(j:Int)-1 by omega];first|exact eN|refine eM ?_
               ·have ad:j=a:=by omega
                have E:=Wy CN o D A (.inl ad);rw[show k-1+1=k by omega]at E;repeat'(first|exact trivial|refine eS rfl ?_|refine AB ?_|refine rX f ?_ ?_)
                refine⟨⟨c,n,E⟩,AC [(1000000,.nm 1000000)] rfl rfl ?_ ?_⟩
                ·first|exact eN|refine eM ?_
                ·first|exact eN|refine eM ?_
            ·have ag:k=a+1:=by omega
             repeat'(first|exact trivial|refine eS rfl ?_|refine AB ?_|refine rX f ?_ ?_)
             refine⟨⟨c0,I,by rw[ag];exact c8 a c0⟩,AC [(1000000,.nm 1000000)] rfl rfl ?_ ?_⟩
             ·first|exact eN|refine eM ?_
             ·first|exact eN|refine eM ?_
          ·obtain⟨c,n,o⟩:=s;simp only;clear I R;repeat'(first|exact trivial|refine eS rfl ?_|refine AB ?_|refine rX f ?_ ?_)
           ·exact CY
           ·refine rC (λG=>?_) (λG=>?_)
            ·repeat'(first|exact trivial|refine eS rfl ?_|refine AB ?_|refine rX f ?_ ?_)
             ·exact CY
             ·rw[show (k:Int)+1=((k+1:Nat):Int) by omega];refine AJ (ι:={s:Nat×List (Int×Int)//(k+1<=s.1/\s.1<=b)/\EF (0,0) a b l s.2/\SI CF (0,0) a k s.2}) (λs=>⟨[(0,.sr 1000000 AU 0 l.length),(1,.p T3 (a:Int)),(2,.p T3 (b:Int)),(3,.fn 192),(9,.p (.int .i64) (k:Int)),(10,.p (.int .i64) (t:Int)),(12,.p (.int .i64) (s.1.1:Int))],[(1000000,.arr 106 AU s.1.2)]⟩) (λs=>b-s.1.1) ⟨(k+1,c),by simp only;omega,n,o⟩ (AC [(1000000,.nm 1000000)] rfl rfl ?_ ?_) (λs=>?_)
              ·first|exact eN|refine eM ?_
              ·first|exact eN|refine eM ?_
              ·clear n o;obtain⟨⟨j,c⟩,⟨D,A⟩,n,o⟩:=s;simp only at D A n o ⊢;have Y:=n.len;have C:((j:Int)-1).toNat=j-1:=by omega
               repeat'(first|exact trivial|refine eS rfl ?_|refine AB ?_|refine rX f ?_ ?_)
               refine rC (λH=>?_) (λH=>?_)
               ·repeat'(first|exact trivial|refine eS rfl ?_|refine AB ?_|refine rX f ?_ ?_)
                ·exact CY
                ·refine Dp (by simp only[go_sem,Nat.reduceEqDiff,reduceCtorEq,Nat.reduceAdd,Nat.reduceSub,Nat.reduceMul,Nat.reduceLeDiff,Nat.reduceLT,Int.reduceLE,Int.reduceToNat,Int.reduceNeg,↓reduceIte];rfl) ?_ ?_
                 ·intro g;clear g;repeat'(first|exact trivial|refine eS rfl ?_|refine AB ?_|refine rX f ?_ ?_)
                  ·exact CY
                  ·refine⟨⟨(k,t+1,c),by simp only;omega,by simp only;omega,n,o⟩,by simp only;omega,AC [(1000000,.nm 1000000)] rfl rfl ?_ ?_⟩
                   ·first|exact eN|refine eM ?_
                   ·first|exact eN|refine eM ?_
                 ·intro g;clear g;have v:EF (0,0) k b c (CX (0,0) c j (j-1)):=EF.swap c (by omega) (by omega) (by omega) (by omega) (by omega);have B:CX (0,0) c j (j-1)=(c.set j (c.getD (j-1) (0,0))).set (j-1) (c.getD j (0,0)):=rfl;repeat'(first|exact trivial|refine eS rfl ?_|refine AB ?_|refine rP f ?_ ?_|fail)
                  (refine CV drawsAny f 16 [([0,1,5,6,7,8,9,10,11,12,13,14],15)] [2,3,4] (by kernel_rfl) (NQ ?_ ?_);(next=>exact CY);refine PY f [] ?_ ?_;(next=>exact CY);refine S8 f ?_ ?_ ?_;(next=>exact CY);(next=>exact CY))
                  rw[C,<-B];repeat'(first|exact trivial|refine eS rfl ?_|refine AB ?_|refine rX f ?_ ?_)
                  ·exact CY
                  ·refine⟨⟨(j+1,CX (0,0) c j (j-1)),by simp only;omega,n.trans (v.mono (by omega) (NO _)),NX o λx ap aq=>v.out x (by omega)⟩,by simp only;omega,AC [(1000000,.nm 1000000)] rfl rfl ?_ ?_⟩
                   ·first|exact eN|refine eM ?_
                   ·first|exact eN|refine eM ?_
               ·repeat'(first|exact trivial|refine eS rfl ?_|refine AB ?_|refine rX f ?_ ?_)
                ·exact CY
                ·refine⟨⟨(k,t+1,c),by simp only;omega,by simp only;omega,n,o⟩,by simp only;omega,AC [(1000000,.nm 1000000)] rfl rfl ?_ ?_⟩
                 ·first|exact eN|refine eM ?_
                 ·first|exact eN|refine eM ?_
            ·repeat'(first|exact trivial|refine eS rfl ?_|refine AB ?_|refine rX f ?_ ?_)
             ·exact CY
             ·refine⟨⟨(k,t+1,c),by simp only;omega,by simp only;omega,n,o⟩,by simp only;omega,AC [(1000000,.nm 1000000)] rfl rfl ?_ ?_⟩
              ·first|exact eN|refine eM ?_
              ·first|exact eN|refine eM ?_
   ·repeat'(first|exact trivial|refine eS rfl ?_|refine AB ?_|refine rX f ?_ ?_|refine rC ?_ ?_<;>intro q<;>try(cases q;done))
    exact fM f [.tmp 8] (.p .bool false) eT ⟨false,m,rfl,rfl,u,λh=>by cases h⟩
end
section
attribute [local go_sem] C0
def Gi (l:List (Int×Int)) (s:Nat):List (Nat×Obj):=[(1000000,.arr 106 AU l),(70,.box 3 false [.p T3 (s:Int)])]
theorem Wz (l:List (Int×Int)) (a b s:Nat) (f:a<l.length) (g:b<l.length) (hs:s<=1000):BJ Tryz.prog 251 [.sr 1000000 AU 0 l.length,.p T3 (a:Int),.p T3 (b:Int),.bp 70 [] 0,.fn 192] (Gi l s) [1000000,70] (λres e=>∃x y t:Nat,res=.tup [.p T3 (x:Int),.p T3 (y:Int)]/\e=Gi l t/\((x=a/\y=b)\/(x=b/\y=a))/\t<=s+1):=by
 refine Kv [0,1,2,3,4,10,11,22] [] [] Tryz.func251 Tryz.ntmps251 (AF E7 AG) ?_;intro w0 K O0 ρ0 c h i;simp only[Ar,Gi];repeat'(first|exact trivial|refine eS rfl ?_|refine AB ?_|refine rX c ?_ ?_|refine rC ?_ ?_<;>intro d<;>try(cases d;done))
 ·exact CY
 ·exact CY
 ·refine fM c [.tmp 10,.tmp 11] (.tup [.p T3 (b:Int),.p T3 (a:Int)]) eT ⟨b,a,s+1,rfl,?_,.inr ⟨rfl,rfl⟩,NO _⟩;rw[show ((s+1:Nat):Int)=(s:Int)+1 by omega]
 ·exact fM c [.tmp 10,.tmp 11] (.tup [.p T3 (a:Int),.p T3 (b:Int)]) eT ⟨a,b,s,rfl,rfl,.inl ⟨rfl,rfl⟩,by omega⟩
theorem c9 (l:List (Int×Int)) (a b c s:Nat) (j:a<l.length) (k:b<l.length) (cl:c<l.length) (hs:s<=900):BJ Tryz.prog 248 [.sr 1000000 AU 0 l.length,.p T3 (a:Int),.p T3 (b:Int),.p T3 (c:Int),.bp 70 [] 0,.fn 192] (Gi l s) [1000000,70] (λres m=>∃x t:Nat,res=.p T3 (x:Int)/\m=Gi l t/\(x=a\/x=b\/x=c)/\t<=s+3):=by
 refine Kv [0,1,2,3,4,5,12] [] [] Tryz.func248 Tryz.ntmps248 AG ?_;intro w0 K O0 ρ0 d q r;simp only[Ar,Gi];repeat'(first|exact trivial|refine eS rfl ?_|refine AB ?_|refine rX d ?_ ?_|refine rC ?_ ?_<;>intro e<;>try(cases e;done))
 refine cP 5 d ?_ ?_
 ·trivial
 ·refine rM d (Wz l a b s j k (by omega)) [(1000000,.nm 1000000),(70,.nm 70)] [] ?_ ?_ ?_
  ·first|exact eN|refine eM ?_
  ·simp only[Gi];first|exact eN|refine eM ?_
  ·rintro _ _ ⟨g,b1,s1,rfl,rfl,h1,u⟩;refine⟨[(1000000,.nm 1000000),(70,.nm 70)],.tup [.p T3 (g:Int),.p T3 (b1:Int)],[(1000000,.arr 106 AU l),(70,.box 3 false [.p T3 (s1:Int)])],rfl,rfl,?_,?_,rfl,rfl,?_⟩
   ·simp only[Gi];first|exact eN|refine eM ?_
   ·first|exact eN|refine eM ?_
   ·refine rL d ?_ ?_
    ·trivial
    ·repeat'(first|exact trivial|refine eS rfl ?_|refine AB ?_|refine rX d ?_ ?_|refine rC ?_ ?_<;>intro e<;>try(cases e;done))
     refine cP 5 d ?_ ?_
     ·trivial
     ·refine rM d (Wz l b1 c s1 (by omega) cl (by omega)) [(1000000,.nm 1000000),(70,.nm 70)] [] ?_ ?_ ?_
      ·first|exact eN|refine eM ?_
      ·simp only[Gi];first|exact eN|refine eM ?_
      ·rintro _ _ ⟨b2,c2,s2,rfl,rfl,n,v⟩;refine⟨[(1000000,.nm 1000000),(70,.nm 70)],.tup [.p T3 (b2:Int),.p T3 (c2:Int)],[(1000000,.arr 106 AU l),(70,.box 3 false [.p T3 (s2:Int)])],rfl,rfl,?_,?_,rfl,rfl,?_⟩
       ·simp only[Gi];first|exact eN|refine eM ?_
       ·first|exact eN|refine eM ?_
       ·refine rL d ?_ ?_
        ·trivial
        ·repeat'(first|exact trivial|refine eS rfl ?_|refine AB ?_|refine rX d ?_ ?_|refine rC ?_ ?_<;>intro e<;>try(cases e;done))
         refine cP 5 d ?_ ?_
         ·trivial
         ·refine rM d (Wz l g b2 s2 (by omega) (by omega) (by omega)) [(1000000,.nm 1000000),(70,.nm 70)] [] ?_ ?_ ?_
          ·first|exact eN|refine eM ?_
          ·simp only[Gi];first|exact eN|refine eM ?_
          ·rintro _ _ ⟨i,f,h,rfl,rfl,o,w⟩;refine⟨[(1000000,.nm 1000000),(70,.nm 70)],.tup [.p T3 (i:Int),.p T3 (f:Int)],[(1000000,.arr 106 AU l),(70,.box 3 false [.p T3 (h:Int)])],rfl,rfl,?_,?_,rfl,rfl,?_⟩
           ·simp only[Gi];first|exact eN|refine eM ?_
           ·first|exact eN|refine eM ?_
           ·refine rL d ?_ ?_
            ·trivial
            ·repeat'(first|exact trivial|refine eS rfl ?_|refine AB ?_|refine rX d ?_ ?_|refine rC ?_ ?_<;>intro e<;>try(cases e;done))
             exact fM d [.tmp 12] (.p T3 (f:Int)) eT ⟨f,h,rfl,rfl,by omega,by omega⟩
theorem dA (l:List (Int×Int)) (b s:Nat) (g:1<=b) (d:b+1<l.length) (h:l.length<=100000) (hs:s<=900):BJ Tryz.prog 247 [.sr 1000000 AU 0 l.length,.p T3 (b:Int),.bp 70 [] 0,.fn 192] (Gi l s) [1000000,70] (λres f=>∃x t:Nat,res=.p T3 (x:Int)/\f=Gi l t/\(b-1<=x/\x<=b+1)/\t<=s+3):=by
 refine Kv [0,1,2,3,8] [] [] Tryz.func247 Tryz.ntmps247 AG ?_;intro w0 K O0 ρ0 a i j;simp only[Ar,Gi];have key:=c9 l (b-1) b (b+1) s (by omega) (by omega) d hs;rw[show ((b-1:Nat):Int)=(b:Int)-1 by omega,show ((b+1:Nat):Int)=(b:Int)+1 by omega]at key;repeat'(first|exact trivial|refine eS rfl ?_|refine AB ?_|refine rX a ?_ ?_|refine rC ?_ ?_<;>intro c<;>try(cases c;done))
 refine cP 8 a ?_ ?_
 ·exact CY
 ·refine rM a (key) [(1000000,.nm 1000000),(70,.nm 70)] [] ?_ ?_ ?_
  ·first|exact eN|refine eM ?_
  ·simp only[Gi];first|exact eN|refine eM ?_
  ·rintro _ _ ⟨x,t,rfl,rfl,k,e⟩;refine⟨[(1000000,.nm 1000000),(70,.nm 70)],.p T3 (x:Int),[(1000000,.arr 106 AU l),(70,.box 3 false [.p T3 (t:Int)])],rfl,rfl,?_,?_,rfl,rfl,?_⟩
   ·simp only[Gi];first|exact eN|refine eM ?_
   ·first|exact eN|refine eM ?_
   ·refine rL a ?_ ?_
    ·trivial
    ·repeat'(first|exact trivial|refine eS rfl ?_|refine AB ?_|refine rX a ?_ ?_|refine rC ?_ ?_<;>intro c<;>try(cases c;done))
     exact fM a [.tmp 8] (.p T3 (x:Int)) eT ⟨x,t,rfl,rfl,by omega,e⟩
theorem A7c (l:List (Int×Int)) (i:l.length<=100000) (a b:Nat) (z:a+13<=b) (A:b<=l.length):BJ Tryz.prog 235 [.sr 1000000 AU 0 l.length,.p T3 (a:Int),.p T3 (b:Int),.fn 192] [(1000000,.arr 106 AU l)] [1000000] (λres y=>∃(j:Nat) (h:Int),res=.tup [.p T3 (j:Int),.p T3 h]/\y=[(1000000,.arr 106 AU l)]/\a<=j/\j<b):=by
 refine Kv [0,1,2,3,8,9,10,11,12,13,14,34,36,55,57,60] [] [] Tryz.func235 Tryz.ntmps235 AG ?_;intro w0 K O0 ρ0 c B C;simp only[Ar];obtain⟨t,v⟩:∃t,t=(b-a) / 4:=⟨_,rfl⟩;have et:((b:Int)-(a:Int)).tdiv 4=(t:Int):=by
  rw[oS (by omega)];omega
 have G:4*t<=b-a:=by omega
 have H:3<=t:=by omega
 clear v
 (refine eS rfl ?_;refine rX c ?_ ?_;(next=>first|exact trivial|exact CY))
 (refine eS rfl ?_;refine rX c ?_ ?_;(next=>first|exact trivial|exact CY))
 (refine eS rfl ?_;refine rX c ?_ ?_;(next=>first|exact trivial|exact CY))
 (refine eS rfl ?_;refine rX c ?_ ?_;(next=>first|exact trivial|exact CY|(rw[et];refine⟨⟨by decide,?_⟩,?_,?_⟩<;>omega)))
 (refine eS rfl ?_;refine rX c ?_ ?_;(next=>first|exact trivial|exact CY|(rw[et];refine⟨⟨by decide,?_⟩,?_,?_⟩<;>omega)))
 (refine eS rfl ?_;refine rX c ?_ ?_;(next=>first|exact trivial|exact CY|(rw[et];refine⟨⟨by decide,?_⟩,?_,?_⟩<;>omega)))
 rw[et,show (a:Int)+(t:Int)*1=((a+t:Nat):Int) by omega,show (a:Int)+(t:Int)*2=((a+t*2:Nat):Int) by omega,show (a:Int)+(t:Int)*3=((a+t*3:Nat):Int) by omega];refine Hu ?_;refine Pz (ι:={x:Nat×Nat//a<=x.1/\x.1<b}) (λx=>⟨[(11,.bp 11 [] 0),(13,.p T3 (x.1.1:Int))],[(1000000,.arr 106 AU l),(11,.box 3 false [.p T3 (x.1.2:Int)])]⟩) ?_ (λx=>?_)
 ·repeat'(first|exact trivial|refine eS rfl ?_|refine AB ?_|refine rX c ?_ ?_)
  refine rC ?_ ?_<;>intro k
  ·repeat'(first|exact trivial|refine eS rfl ?_|refine AB ?_|refine rX c ?_ ?_)
   refine rC (λr=>?_) (λr=>?_)
   ·repeat'(first|exact trivial|refine eS rfl ?_|refine AB ?_|refine rP c ?_ ?_|fail)
    refine cP 3 c ?_ ?_
    ·trivial
    ·refine rM c (dA l (a+t) 0 (by omega) (by omega) i (by omega)) [(1000000,.nm 1000000),(70,.nm 11)] [] ?_ ?_ ?_
     ·first|exact eN|refine eM ?_
     ·simp only[Gi];first|exact eN|refine eM ?_
     ·rintro _ _ ⟨n,s1,rfl,rfl,I,D⟩;refine⟨[(1000000,.nm 1000000),(11,.nm 70)],.p T3 (n:Int),[(1000000,.arr 106 AU l),(11,.box 3 false [.p T3 (s1:Int)])],rfl,rfl,?_,?_,rfl,rfl,?_⟩
      ·simp only[Gi];first|exact eN|refine eM ?_
      ·first|exact eN|refine eM ?_
      ·refine rL c ?_ ?_
       ·trivial
       ·repeat'(first|exact trivial|refine eS rfl ?_|refine AB ?_|refine rX c ?_ ?_)
        refine cP 3 c ?_ ?_
        ·trivial
        ·refine rM c (dA l (a+t*2) s1 (by omega) (by omega) i (by omega)) [(1000000,.nm 1000000),(70,.nm 11)] [] ?_ ?_ ?_
         ·first|exact eN|refine eM ?_
         ·simp only[Gi];first|exact eN|refine eM ?_
         ·rintro _ _ ⟨o,s2,rfl,rfl,J,E⟩;refine⟨[(1000000,.nm 1000000),(11,.nm 70)],.p T3 (o:Int),[(1000000,.arr 106 AU l),(11,.box 3 false [.p T3 (s2:Int)])],rfl,rfl,?_,?_,rfl,rfl,?_⟩
          ·simp only[Gi];first|exact eN|refine eM ?_
          ·first|exact eN|refine eM ?_
          ·refine rL c ?_ ?_
           ·trivial
           ·repeat'(first|exact trivial|refine eS rfl ?_|refine AB ?_|refine rX c ?_ ?_)
            refine cP 3 c ?_ ?_
            ·trivial
            ·refine rM c (dA l (a+t*3) s2 (by omega) (by omega) i (by omega)) [(1000000,.nm 1000000),(70,.nm 11)] [] ?_ ?_ ?_
             ·first|exact eN|refine eM ?_
             ·simp only[Gi];first|exact eN|refine eM ?_
             ·rintro _ _ ⟨q,m,rfl,rfl,L,F⟩;refine⟨[(1000000,.nm 1000000),(11,.nm 70)],.p T3 (q:Int),[(1000000,.arr 106 AU l),(11,.box 3 false [.p T3 (m:Int)])],rfl,rfl,?_,?_,rfl,rfl,?_⟩
              ·simp only[Gi];first|exact eN|refine eM ?_
              ·first|exact eN|refine eM ?_
              ·refine rL c ?_ ?_
               ·trivial
               ·repeat'(first|exact trivial|refine eS rfl ?_|refine AB ?_|refine rX c ?_ ?_)
                refine cP 5 c ?_ ?_
                ·trivial
                ·refine rM c (c9 l (n) (o) (q) m (by omega) (by omega) (by omega) (by omega)) [(1000000,.nm 1000000),(70,.nm 11)] [] ?_ ?_ ?_
                 ·first|exact eN|refine eM ?_
                 ·simp only[Gi];first|exact eN|refine eM ?_
                 ·rintro _ _ ⟨e,d,rfl,rfl,w,u⟩;refine⟨[(1000000,.nm 1000000),(11,.nm 70)],.p T3 (e:Int),[(1000000,.arr 106 AU l),(11,.box 3 false [.p T3 (d:Int)])],rfl,rfl,?_,?_,rfl,rfl,?_⟩
                  ·simp only[Gi];first|exact eN|refine eM ?_
                  ·first|exact eN|refine eM ?_
                  ·refine rL c ?_ ?_
                   ·trivial
                   ·repeat'(first|exact trivial|refine eS rfl ?_|refine AB ?_|refine rX c ?_ ?_)
                    refine⟨⟨(e,d),by simp only;omega,by simp only;omega⟩,AC [(1000000,.nm 1000000),(11,.nm 11)] rfl rfl ?_ ?_⟩
                    ·first|exact eN|refine eM ?_
                    ·first|exact eN|refine eM ?_
   ·repeat'(first|exact trivial|refine eS rfl ?_|refine AB ?_|refine rP c ?_ ?_|fail)
    refine cP 5 c ?_ ?_
    ·trivial
    ·refine rM c (c9 l (a+t) (a+t*2) (a+t*3) 0 (by omega) (by omega) (by omega) (by omega)) [(1000000,.nm 1000000),(70,.nm 11)] [] ?_ ?_ ?_
     ·first|exact eN|refine eM ?_
     ·simp only[Gi];first|exact eN|refine eM ?_
     ·rintro _ _ ⟨e,d,rfl,rfl,w,u⟩;refine⟨[(1000000,.nm 1000000),(11,.nm 70)],.p T3 (e:Int),[(1000000,.arr 106 AU l),(11,.box 3 false [.p T3 (d:Int)])],rfl,rfl,?_,?_,rfl,rfl,?_⟩
      ·simp only[Gi];first|exact eN|refine eM ?_
      ·first|exact eN|refine eM ?_
      ·refine rL c ?_ ?_
       ·trivial
       ·repeat'(first|exact trivial|refine eS rfl ?_|refine AB ?_|refine rX c ?_ ?_)
        refine⟨⟨(e,d),by simp only;omega,by simp only;omega⟩,AC [(1000000,.nm 1000000),(11,.nm 11)] rfl rfl ?_ ?_⟩
        ·first|exact eN|refine eM ?_
        ·first|exact eN|refine eM ?_
  ·exfalso;omega
 ·obtain⟨⟨j,s⟩,f,g⟩:=x;simp only at f g ⊢;repeat'(first|exact trivial|refine eS rfl ?_|refine AB ?_|refine rX c ?_ ?_|refine rC ?_ ?_<;>intro k<;>try(cases k;done))
  ·refine Ev.ent (σ':=⟨[(8,.p T3 (j:Int)),(9,.p T3 (1:Int))],[(1000000,.arr 106 AU l)]⟩) ?_ (AC [(1000000,.nm 1000000)] rfl rfl ?_ ?_)
   ·exact fM c [.tmp 8,.tmp 9] (.tup [.p T3 (j:Int),.p T3 (1:Int)]) eT ⟨j,1,rfl,rfl,f,g⟩
   ·first|exact eN|refine eM ?_
   ·first|exact eN|refine eM ?_
  ·refine Ev.ent (σ':=⟨[(8,.p T3 (j:Int)),(9,.p T3 (2:Int))],[(1000000,.arr 106 AU l)]⟩) ?_ (AC [(1000000,.nm 1000000)] rfl rfl ?_ ?_)
   ·exact fM c [.tmp 8,.tmp 9] (.tup [.p T3 (j:Int),.p T3 (2:Int)]) eT ⟨j,2,rfl,rfl,f,g⟩
   ·first|exact eN|refine eM ?_
   ·first|exact eN|refine eM ?_
  ·refine Ev.ent (σ':=⟨[(8,.p T3 (j:Int)),(9,.p T3 (0:Int))],[(1000000,.arr 106 AU l)]⟩) ?_ (AC [(1000000,.nm 1000000)] rfl rfl ?_ ?_)
   ·exact fM c [.tmp 8,.tmp 9] (.tup [.p T3 (j:Int),.p T3 (0:Int)]) eT ⟨j,0,rfl,rfl,f,g⟩
   ·first|exact eN|refine eM ?_
   ·first|exact eN|refine eM ?_
end
theorem A7d (x y:Int) (h0:0<=y) (h1:y<4611686018427387904):0<=CC .and .u64 x y/\CC .and .u64 x y<=y:=by
 have e:(IntKind.u64).bits=64:=rfl;have a:(BitVec.ofInt 64 y).toNat=y.toNat:=by
  rw[BitVec.toNat_ofInt];omega
 have d:(BitVec.ofInt 64 x &&& BitVec.ofInt 64 y).toNat<=y.toNat:=by
  rw[BitVec.toNat_and,a];exact Nat.and_le_right
 have b:CC .and .u64 x y=IntKind.u64.wrap (((BitVec.ofInt 64 x &&& BitVec.ofInt 64 y).toNat:Nat):Int):=rfl;rw[b];generalize (BitVec.ofInt 64 x &&& BitVec.ofInt 64 y).toNat=z at *;have c:IntKind.u64.wrap (z:Int)=(z:Int):=by
  have f:(z:Int)<18446744073709551616:=by omega
  have:IntKind.u64.wrap (z:Int)=(z:Int) % 18446744073709551616:=by
   first|rfl|(simp[IntKind.wrap];done)
  rw[this];omega
 rw[c];omega
theorem AD3 (z:Int):0<=IntKind.u64.wrap z/\IntKind.u64.wrap z<=18446744073709551615:=by
 have:IntKind.u64.wrap z=z % 18446744073709551616:=by
  first|rfl|(simp[IntKind.wrap];done)
 omega
theorem jG (x y:Int):0<=CC .xor .u64 x y/\CC .xor .u64 x y<=18446744073709551615:=AD3 _
theorem A3q {x:Int} (h0:0<=x) (h1:x<=18446744073709551615):0<=YO .u64 x 7/\YO .u64 x 7<=18446744073709551615:=by
 show 0<=x.fdiv 128/\x.fdiv 128<=18446744073709551615;rw[Int.fdiv_eq_ediv_of_nonneg _ (by decide)];omega
theorem A0l (x:Int) (h0:0<=x) (h1:x<256):BJ Tryz.prog 241 [.p (.int .u64) x] [] [] (λres f=>(∃n:Nat,res=.p T3 (n:Int)/\n<=8/\(1<=x.toNat->x.toNat<2 ^ n/\2 ^ n<=2*x.toNat))/\f=[]):=by
 refine Kv [0,2,4,8,14] [] [] Tryz.func241 Tryz.ntmps241 AG ?_;intro w0 K O0 ρ0 a g h;simp only[Ar];repeat'(first|exact trivial|refine eS rfl ?_|refine rX a ?_ ?_|refine rC ?_ ?_<;>intro b<;>try(cases b;done))
 all_goals first|(exfalso;omega)|skip
 refine ML [0,2] a rfl (by simp only[go_sem,Nat.reduceEqDiff,reduceCtorEq,Nat.reduceAdd,Nat.reduceSub,Nat.reduceMul,Nat.reduceLeDiff,Nat.reduceLT,Int.reduceLE,Int.reduceToNat,Int.reduceNeg,↓reduceIte,ByteArray.size,List.size_toArray,AP];rfl) ?_ ?_
 ·have hu:∀u:UInt8,((u.toNat:Nat):Int)<=255:=λu=>by have:=u.toNat_lt;omega
  have c:0<=x:=by omega
  refine⟨⟨c,by omega⟩,⟨c,?_⟩,⟨?_,?_⟩,?_,?_⟩
  ·have d:x<((256:Nat):Int):=h1;exact d
  ·exact ADD (by decide) (oF _)
  ·exact ADD (hu _) (by decide)
  ·rw[Int.zero_add];exact ADD (by decide) (oF _)
  ·rw[Int.zero_add];exact ADD (hu _) (by decide)
 ·repeat' refine eS rfl ?_
  refine fM a [.tmp 2] (.p T3 _) (by simp only[S5,zE,Rp,Yv,Jb,Kl,Jc,go_sem,Nat.reduceEqDiff,reduceCtorEq,Nat.reduceAdd,Nat.reduceSub,Nat.reduceMul,Nat.reduceLeDiff,Nat.reduceLT,Int.reduceLE,Int.reduceToNat,Int.reduceNeg,↓reduceIte];rfl) ⟨⟨_,by rw[Int.zero_add],?_⟩,rfl⟩;have e:x.toNat<256:=by omega
  generalize x.toNat=k at *;clear b;revert e;revert k;decide
theorem xG (x:Int) (h0:0<=x) (h1:x<256):BJ Tryz.prog 230 [.p (.int .u64) x] [] [] (λres d=>(∃n:Nat,res=.p T3 (n:Int)/\n<=8/\(1<=x.toNat->x.toNat<2 ^ n/\2 ^ n<=2*x.toNat))/\d=[]):=by
 refine Kv [0,2] [] [] Tryz.func230 Tryz.ntmps230 AG ?_;intro w0 K O0 ρ0 a e f;simp only[Ar];repeat'(first|exact trivial|refine eS rfl ?_|refine rX a ?_ ?_|refine rC ?_ ?_<;>intro b<;>try(cases b;done))
 refine cP 1 a ?_ ?_
 ·trivial
 ·refine rM a (A0l x h0 h1) [] [] ?_ ?_ ?_
  ·exact eN
  ·exact eN
  ·rintro _ _ ⟨⟨n,rfl,c⟩,rfl⟩;refine⟨[],.p T3 (n:Int),[],rfl,rfl,?_,?_,rfl,rfl,?_⟩
   ·exact eN
   ·exact eN
   ·refine rL a ?_ ?_
    ·trivial
    ·repeat' refine eS rfl ?_
     exact fM a [.tmp 2] (.p T3 (n:Int)) eT ⟨⟨n,rfl,c⟩,rfl⟩
theorem A7e (x:Int) (h0:1<=x) (h1:x<256):BJ Tryz.prog 245 [.p T3 x] [] [] (λres f=>(∃m:Nat,res=.p (.int .u64) (m:Int)/\x.toNat<m/\m<=2*x.toNat)/\f=[]):=by
 refine Kv [0,2] [] [] Tryz.func245 Tryz.ntmps245 AG ?_;intro w0 K O0 ρ0 a h i;simp only[Ar];repeat'(first|exact trivial|refine eS rfl ?_|refine rX a ?_ ?_)
 refine cP 2 a ?_ ?_
 ·exact CY
 ·refine rM a (xG x (by omega) h1) [] [] ?_ ?_ ?_
  ·exact eN
  ·exact eN
  ·rintro _ _ ⟨⟨n,rfl,g,d⟩,rfl⟩;obtain⟨b,c⟩:=d (by omega);refine⟨[],.p T3 (n:Int),[],rfl,rfl,?_,?_,rfl,rfl,?_⟩
   ·exact eN
   ·exact eN
   ·refine rL a ?_ ?_
    ·trivial
    ·have e:Ti .u64 1 (n:Int)=((2 ^ n:Nat):Int):=by
      clear b c;have:∀n:Fin 9,Ti .u64 1 ((n.val:Nat):Int)=((2 ^ n.val:Nat):Int):=by decide
      exact this ⟨n,by omega⟩
     rw[e];repeat' refine eS rfl ?_
     exact fM a [.tmp 2] (.p (.int .u64) ((2 ^ n:Nat):Int)) eT ⟨⟨_,rfl,b,c⟩,rfl⟩
theorem A7f (s:Int) (hs:0<=s/\s<=18446744073709551615):BJ Tryz.prog 246 [.bp 70 [] 0] [(70,.box 263 false [.p (.int .u64) s])] [70] (λres b=>∃v:Int,(0<=v/\v<=18446744073709551615)/\res=.p (.int .u64) v/\b=[(70,.box 263 false [.p (.int .u64) v])]):=by
 refine Kv [0,2] [] [] Tryz.func246 Tryz.ntmps246 AG ?_;intro w0 K O0 ρ0 a c d;simp only[Ar];repeat'(first|exact trivial|refine eS rfl ?_|refine rX a ?_ ?_)
 ·have:=jG s (Ti .u64 s 13);exact A3q this.1 this.2
 ·exact fM a [.tmp 2] (.p (.int .u64) _) eT ⟨_,jG _ _,rfl,rfl⟩
section
attribute [local go_sem] C0
theorem A7g (l:List (Int×Int)) (J:l.length<256) (a b:Nat) (F:a+8<=b) (H:b<=l.length):BJ Tryz.prog 234 [.sr 1000000 AU 0 l.length,.p T3 (a:Int),.p T3 (b:Int),.fn 192] [(1000000,.arr 106 AU l)] [1000000] (λres E=>res=.raw (.tuple #[])/\∃r,E=[(1000000,.arr 106 AU r)]/\EF (0,0) a b l r):=by
 refine Kv [0,1,2,8,9,10,11,12,17,35,45] [] [] Tryz.func234 Tryz.ntmps234 AG ?_;intro w0 K O0 ρ0 d L M;simp only[Ar];obtain⟨n,hn⟩:∃n,b=a+n:=⟨b-a,by omega⟩;subst hn;have en:((a+n:Nat):Int)-(a:Int)=(n:Int):=by omega
 obtain⟨t,D⟩:∃t,t=n / 4:=⟨_,rfl⟩;have et:(n:Int).tdiv 4=(t:Int):=by
  rw[oS (by omega)];omega
 have N:4*t<=n:=by omega
 have O:2<=t:=by omega
 clear D
 (refine eS rfl ?_;refine rX d ?_ ?_;(next=>first|exact trivial|exact CY))
 rw[en];repeat'(first|exact trivial|refine eS rfl ?_|refine AB ?_|refine rX d ?_ ?_)
 refine rC ?_ ?_<;>intro j
 ·repeat'(first|exact trivial|refine eS rfl ?_|refine AB ?_|refine rX d ?_ ?_)
  ·exact CY
  ·refine cP 1 d ?_ ?_
   ·trivial
   ·refine rM d (A7e (n:Int) (by omega) (by omega)) [] [] ?_ ?_ ?_
    ·first|exact eN|refine eM ?_
    ·first|exact eN|refine eM ?_
    ·rintro _ _ ⟨⟨m,rfl,A,B⟩,rfl⟩;rw[UG]at A B;refine⟨[],.p (.int .u64) (m:Int),[],rfl,rfl,?_,?_,rfl,rfl,?_⟩
     ·first|exact eN|refine eM ?_
     ·first|exact eN|refine eM ?_
     ·refine rL d ?_ ?_
      ·trivial
      ·repeat'(first|exact trivial|refine eS rfl ?_|refine AB ?_|refine rX d ?_ ?_)
       ·rw[et];refine⟨⟨by decide,?_⟩,?_,?_,?_⟩<;>omega
       ·rw[et,show (a:Int)+(t:Int)*2-1=((a+t*2-1:Nat):Int) by omega];refine AJ (ι:={s:Nat×Int×List (Int×Int)//(a<=s.1/\s.1<=a+t*2+2)/\(0<=s.2.1/\s.2.1<=18446744073709551615)/\EF (0,0) a (a+n) l s.2.2}) (λs=>⟨[(0,.sr 1000000 AU 0 l.length),(1,.p T3 (a:Int)),(8,.p (.int .i64) (n:Int)),(9,.bp 9 [] 0),(10,.p (.int .u64) (m:Int)),(11,.p (.int .i64) (s.1.1:Int))],[(1000000,.arr 106 AU s.1.2.2),(9,.box 263 false [.p (.int .u64) s.1.2.1])]⟩) (λs=>a+t*2+2-s.1.1) ⟨(a+t*2-1,(n:Int),l),by simp only;omega,by simp only;omega,EF.refl _ _ l⟩ (AC [(1000000,.nm 1000000),(9,.nm 9)] rfl rfl ?_ ?_) (λs=>?_)
        ·first|exact eN|refine eM ?_
        ·first|exact eN|refine eM ?_
        ·obtain⟨⟨i,x,c⟩,⟨y,z⟩,q,hp⟩:=s;simp only at y z q hp ⊢;have I:=hp.len;repeat'(first|exact trivial|refine eS rfl ?_|refine AB ?_|refine rX d ?_ ?_)
         ·rw[et];refine⟨⟨by decide,?_⟩,?_,?_,?_⟩<;>omega
         ·rw[et];refine rC (λu=>?_) (λu=>?_)
          ·refine eS rfl ?_;refine cP 0 d ?_ ?_
           ·trivial
           ·refine rM d (A7f x q) [(70,.nm 9)] [] ?_ ?_ ?_
            ·first|exact eN|refine eM ?_
            ·first|exact eN|refine eM ?_
            ·rintro _ _ ⟨v,k,rfl,rfl⟩;refine⟨[(9,.nm 70)],.p (.int .u64) v,[(9,.box 263 false [.p (.int .u64) v])],rfl,rfl,?_,?_,rfl,rfl,?_⟩
             ·first|exact eN|refine eM ?_
             ·first|exact eN|refine eM ?_
             ·have G:=A7d v ((m:Int)-1) (by omega) (by omega);refine rL d ?_ ?_
              ·exact⟨by omega,by omega⟩
              ·generalize CC .and .u64 v ((m:Int)-1)=r at *;repeat'(first|exact trivial|refine eS rfl ?_|refine AB ?_|refine rX d ?_ ?_)
               refine rC (λw=>?_) (λw=>?_)
               ·obtain⟨o,f⟩:∃o:Nat,r-(n:Int)=(o:Int):=⟨(r-(n:Int)).toNat,by omega⟩;have C:o<n:=by omega
                refine rX d ?_ ?_
                ·exact CY
                ·rw[f];have g:EF (0,0) a (a+n) c (CX (0,0) c i (a+o)):=EF.swap c (by omega) (by omega) (by omega) (by omega) (by omega);have h:CX (0,0) c i (a+o)=(c.set i (c.getD (a+o) (0,0))).set (a+o) (c.getD i (0,0)):=rfl;have e:((a:Int)+(o:Int)).toNat=a+o:=by omega
                 repeat'(first|exact trivial|refine eS rfl ?_|refine AB ?_|refine rP d ?_ ?_|fail)
                 (refine CV drawsAny d 18 [([0,1,6,7,8,9,10,11,12,13,14,15,16],17)] [2,3,4,5] (by kernel_rfl) (NQ ?_ ?_);(next=>exact CY);refine PY d [] ?_ ?_;(next=>exact CY);refine S8 d ?_ ?_ ?_;(next=>exact CY);(next=>exact CY))
                 rw[e,<-h];repeat'(first|exact trivial|refine eS rfl ?_|refine AB ?_|refine rX d ?_ ?_)
                 ·exact CY
                 ·refine⟨⟨(i+1,v,CX (0,0) c i (a+o)),by simp only;omega,k,hp.trans g⟩,by simp only;omega,AC [(1000000,.nm 1000000),(9,.nm 9)] rfl rfl ?_ ?_⟩
                  ·first|exact eN|refine eM ?_
                  ·first|exact eN|refine eM ?_
               ·obtain⟨o,f⟩:∃o:Nat,r=(o:Int):=⟨r.toNat,by omega⟩;subst f;have C:o<n:=by omega
                have g:EF (0,0) a (a+n) c (CX (0,0) c i (a+o)):=EF.swap c (by omega) (by omega) (by omega) (by omega) (by omega);have h:CX (0,0) c i (a+o)=(c.set i (c.getD (a+o) (0,0))).set (a+o) (c.getD i (0,0)):=rfl;have e:((a:Int)+(o:Int)).toNat=a+o:=by omega
                repeat'(first|exact trivial|refine eS rfl ?_|refine AB ?_|refine rP d ?_ ?_|fail)
                (refine CV drawsAny d 18 [([0,1,6,7,8,9,10,11,12,13,14,15,16],17)] [2,3,4,5] (by kernel_rfl) (NQ ?_ ?_);(next=>exact CY);refine PY d [] ?_ ?_;(next=>exact CY);refine S8 d ?_ ?_ ?_;(next=>exact CY);(next=>exact CY))
                rw[e,<-h];repeat'(first|exact trivial|refine eS rfl ?_|refine AB ?_|refine rX d ?_ ?_)
                ·exact CY
                ·refine⟨⟨(i+1,v,CX (0,0) c i (a+o)),by simp only;omega,k,hp.trans g⟩,by simp only;omega,AC [(1000000,.nm 1000000),(9,.nm 9)] rfl rfl ?_ ?_⟩
                 ·first|exact eN|refine eM ?_
                 ·first|exact eN|refine eM ?_
          ·repeat'(first|exact trivial|refine eS rfl ?_|refine AB ?_|refine rX d ?_ ?_|refine rC ?_ ?_<;>intro j<;>try(cases j;done))
           refine Ev.ent (σ':=⟨[],[(1000000,.arr 106 AU c)]⟩) ?_ (AC [(1000000,.nm 1000000)] rfl rfl ?_ ?_)
           ·exact fM d [] (.raw (.tuple #[])) rfl ⟨rfl,c,rfl,hp⟩
           ·first|exact eN|refine eM ?_
           ·first|exact eN|refine eM ?_
 ·exfalso;omega
end
section
attribute [local go_sem] C0
def jH (l:List (Int×Int)) (a b c:Nat):Prop:=BJ Tryz.prog 229 [.sr 1000000 AU 0 l.length,.p T3 (a:Int),.p T3 (b:Int),.p T3 (c:Int),.fn 192] [(1000000,.arr 106 AU l)] [1000000] (λres d=>res=.raw (.tuple #[])/\∃r,d=[(1000000,.arr 106 AU r)]/\EF (0,0) a b l r/\SI CF (0,0) a b r)
theorem A0m (l:List (Int×Int)) (az:l.length<256) (aa:k8 CF (0,0) l) (a b S:Nat) (ar:a<=b) (ay:b<=l.length) (av:S<=1000) (aq:Bf CF (0,0) a b l)
  (V:∀(l':List (Int×Int)),l'.length<256->k8 CF (0,0) l'->∀J b' an:Nat,b'-J<b-a->J<=b'->b'<=l'.length->an<=1000->Bf CF (0,0) J b' l'->jH l' J b' an):jH l a b S:=by
 unfold jH;refine Kv [0,1,2,3,4,10,11,12,13,14,15,16,17,18,19,20,25,32,39,56,75,80,97,125] [] [] Tryz.func229 Tryz.ntmps229 (AF E7 AG) ?_;intro w0 K O0 ρ0 c bb bc;simp only[Ar];repeat'(first|exact trivial|refine eS rfl ?_|refine AB ?_|refine rX c ?_ ?_)
 refine AJ (ι:={s:(Nat×Nat×Nat)×(Bool×Bool)×List (Int×Int)//Cut CF (0,0) a b s.1.1 s.1.2.1 s.2.2/\EF (0,0) a b l s.2.2/\Bf CF (0,0) s.1.1 s.1.2.1 s.2.2/\s.1.2.2<=1000}) (λs=>⟨[(0,.sr 1000000 AU 0 l.length),(1,.p T3 (s.1.1.1:Int)),(2,.p T3 (s.1.1.2.1:Int)),(3,.p T3 (s.1.1.2.2:Int)),(4,.fn 192),(10,.p .bool s.1.2.1.1),(11,.p .bool s.1.2.1.2)],[(1000000,.arr 106 AU s.1.2.2)]⟩) (λs=>s.1.1.2.1-s.1.1.1) ⟨((a,b,S),(true,true),l),A0k ar l,EF.refl a b l,aq,av⟩ (AC [(1000000,.nm 1000000)] rfl rfl ?_ ?_) (λs=>?_)
 ·first|exact eN|refine eM ?_
 ·first|exact eN|refine eM ?_
 ·obtain⟨⟨⟨d,b1,H⟩,⟨T,U⟩,m⟩,t,n,Q,ag⟩:=s;simp only at t n Q ag ⊢;obtain⟨D,ax,E⟩:=t.ab;have N:=aa.perm CN n.perm;have u:=n.len;repeat'(first|exact trivial|refine eS rfl ?_|refine AB ?_|refine rX c ?_ ?_)
  ·exact CY
  ·refine rC ?_ ?_<;>intro o
   ·have key:=A78 m (by omega) N d b1 (by omega) (by omega);rw[u]at key;repeat'(first|exact trivial|refine eS rfl ?_|refine AB ?_|refine rX c ?_ ?_)
    refine cP 4 c ?_ ?_
    ·trivial
    ·refine rM c (key) [(1000000,.nm 1000000)] [] ?_ ?_ ?_
     ·first|exact eN|refine eM ?_
     ·first|exact eN|refine eM ?_
     ·rintro _ _ ⟨rfl,r,rfl,e,g⟩;refine⟨[(1000000,.nm 1000000)],.raw (.tuple #[]),[(1000000,.arr 106 AU r)],rfl,rfl,?_,?_,rfl,rfl,CR ?_⟩
      ·first|exact eN|refine eM ?_
      ·first|exact eN|refine eM ?_
      ·repeat'(first|exact trivial|refine eS rfl ?_|refine AB ?_|refine rX c ?_ ?_|refine rC ?_ ?_<;>intro o<;>try(cases o;done))
       exact fM c [] (.raw (.tuple #[])) rfl ⟨rfl,r,rfl,n.trans (e.mono D E),(t.pin e).done g⟩
   ·have ap:d+13<=b1:=by omega
    have el:(b1:Int)-(d:Int)=((b1-d:Nat):Int):=by omega
    rw[el];repeat'(first|exact trivial|refine eS rfl ?_|refine AB ?_|refine rX c ?_ ?_)
    refine rC (λau=>?_) (λau=>?_)
    ·have key:=A3p m (by omega) N d b1 ax (by omega);rw[u]at key;repeat'(first|exact trivial|refine eS rfl ?_|refine AB ?_|refine rX c ?_ ?_)
     refine cP 4 c ?_ ?_
     ·trivial
     ·refine rM c (key) [(1000000,.nm 1000000)] [] ?_ ?_ ?_
      ·first|exact eN|refine eM ?_
      ·first|exact eN|refine eM ?_
      ·rintro _ _ ⟨rfl,r,rfl,e,g⟩;refine⟨[(1000000,.nm 1000000)],.raw (.tuple #[]),[(1000000,.arr 106 AU r)],rfl,rfl,?_,?_,rfl,rfl,CR ?_⟩
       ·first|exact eN|refine eM ?_
       ·first|exact eN|refine eM ?_
       ·repeat'(first|exact trivial|refine eS rfl ?_|refine AB ?_|refine rX c ?_ ?_|refine rC ?_ ?_<;>intro o<;>try(cases o;done))
        exact fM c [] (.raw (.tuple #[])) rfl ⟨rfl,r,rfl,n.trans (e.mono D E),(t.pin e).done g⟩
    ·have ba:0<H:=by omega
     refine pX ?_;refine Hu ?_;refine Pz (ι:={x:Nat×List (Int×Int)//x.1<=1000/\EF (0,0) d b1 m x.2}) (λx=>⟨[(0,.sr 1000000 AU 0 l.length),(1,.p T3 (d:Int)),(2,.p T3 (b1:Int)),(3,.p T3 (x.1.1:Int)),(4,.fn 192),(10,.p .bool T),(11,.p .bool U),(12,.p (.int .i64) ((b1-d:Nat):Int))],[(1000000,.arr 106 AU x.1.2)]⟩) ?_ (λx=>?_)
     ·repeat'(first|exact trivial|refine eS rfl ?_|refine AB ?_|refine rX c ?_ ?_)
      refine rC (λk=>?_) (λk=>?_)
      ·have key:=A7g m (by omega) d b1 (by omega) (by omega);rw[u]at key;refine eS rfl ?_;refine cP 4 c ?_ ?_
       ·trivial
       ·refine rM c (key) [(1000000,.nm 1000000)] [] ?_ ?_ ?_
        ·first|exact eN|refine eM ?_
        ·first|exact eN|refine eM ?_
        ·rintro _ _ ⟨rfl,r,rfl,e⟩;refine⟨[(1000000,.nm 1000000)],.raw (.tuple #[]),[(1000000,.arr 106 AU r)],rfl,rfl,?_,?_,rfl,rfl,CR ?_⟩
         ·first|exact eN|refine eM ?_
         ·first|exact eN|refine eM ?_
         ·repeat'(first|exact trivial|refine eS rfl ?_|refine AB ?_|refine rX c ?_ ?_)
          ·exact CY
          ·refine⟨⟨(H-1,r),by simp only;omega,e⟩,AC [(1000000,.nm 1000000)] rfl rfl ?_ ?_⟩
           ·first|exact eN|refine eM ?_
           ·simp only;rw[show ((H-1:Nat):Int)=(H:Int)-1 by omega];first|exact eN|refine eM ?_
      ·repeat'(first|exact trivial|refine eS rfl ?_|refine AB ?_|refine rX c ?_ ?_)
       refine⟨⟨(H,m),ag,EF.refl _ _ m⟩,AC [(1000000,.nm 1000000)] rfl rfl ?_ ?_⟩
       ·first|exact eN|refine eM ?_
       ·first|exact eN|refine eM ?_
     ·obtain⟨⟨C,i⟩,G,f⟩:=x;simp only at G f ⊢;have v:i.length=l.length:=f.len.trans u;have key:=A7c i (by omega) d b1 ap (by omega);rw[v]at key;refine eS rfl ?_;refine cP 4 c ?_ ?_
      ·trivial
      ·refine rM c (key) [(1000000,.nm 1000000)] [] ?_ ?_ ?_
       ·first|exact eN|refine eM ?_
       ·first|exact eN|refine eM ?_
       ·rintro _ _ ⟨j,hint,rfl,rfl,z,A⟩;refine⟨[(1000000,.nm 1000000)],.tup [.p T3 (j:Int),.p T3 hint],[(1000000,.arr 106 AU i)],rfl,rfl,?_,?_,rfl,rfl,?_⟩
        ·first|exact eN|refine eM ?_
        ·first|exact eN|refine eM ?_
        ·refine rL c ?_ ?_
         ·trivial
         ·refine Hu ?_;refine Pz (ι:={x:Nat×Int×List (Int×Int)//(d<=x.1/\x.1<b1)/\EF (0,0) d b1 m x.2.2}) (λx=>⟨[(0,.sr 1000000 AU 0 l.length),(1,.p T3 (d:Int)),(2,.p T3 (b1:Int)),(3,.p T3 (C:Int)),(4,.fn 192),(10,.p .bool T),(11,.p .bool U),(12,.p (.int .i64) ((b1-d:Nat):Int)),(13,.p T3 (x.1.1:Int)),(14,.p T3 x.1.2.1)],[(1000000,.arr 106 AU x.1.2.2)]⟩) ?_ (λx=>?_)
          ·repeat'(first|exact trivial|refine eS rfl ?_|refine AB ?_|refine rX c ?_ ?_)
           refine rC (λk=>?_) (λk=>?_)
           ·have key:=A79 i (by omega) d b1 (by omega) (by omega);rw[v]at key;refine eS rfl ?_;refine cP 4 c ?_ ?_
            ·trivial
            ·refine rM c (key) [(1000000,.nm 1000000)] [] ?_ ?_ ?_
             ·first|exact eN|refine eM ?_
             ·first|exact eN|refine eM ?_
             ·rintro _ _ ⟨rfl,r,rfl,e⟩;refine⟨[(1000000,.nm 1000000)],.raw (.tuple #[]),[(1000000,.arr 106 AU r)],rfl,rfl,?_,?_,rfl,rfl,CR ?_⟩
              ·first|exact eN|refine eM ?_
              ·first|exact eN|refine eM ?_
              ·repeat'(first|exact trivial|refine eS rfl ?_|refine AB ?_|refine rX c ?_ ?_)
               ·exact CY
               ·refine⟨⟨(b1-1-(j-d),1,r),by simp only;omega,f.trans e⟩,AC [(1000000,.nm 1000000)] rfl rfl ?_ ?_⟩
                ·first|exact eN|refine eM ?_
                ·simp only;rw[show ((b1-1-(j-d):Nat):Int)=(b1:Int)-1-((j:Int)-(d:Int)) by omega];first|exact eN|refine eM ?_
           ·repeat'(first|exact trivial|refine eS rfl ?_|refine AB ?_|refine rX c ?_ ?_)
            refine⟨⟨(j,hint,i),⟨z,A⟩,f⟩,AC [(1000000,.nm 1000000)] rfl rfl ?_ ?_⟩
            ·first|exact eN|refine eM ?_
            ·first|exact eN|refine eM ?_
          ·clear z A f v key;obtain⟨⟨j,hint,i⟩,⟨z,A⟩,f⟩:=x;simp only at z A f ⊢;have v:i.length=l.length:=f.len.trans u;have ah:=N.perm CN f.perm;have Y:=Q.pin f;refine Pz (ι:={x:List (Int×Int)//EF (0,0) d b1 m x}) (λx=>⟨[(0,.sr 1000000 AU 0 l.length),(1,.p T3 (d:Int)),(2,.p T3 (b1:Int)),(3,.p T3 (C:Int)),(4,.fn 192),(10,.p .bool T),(11,.p .bool U),(12,.p (.int .i64) ((b1-d:Nat):Int)),(13,.p T3 (j:Int))],[(1000000,.arr 106 AU x.1)]⟩) ?_ (λx=>?_)
           ·repeat'(first|exact trivial|refine eS rfl ?_|refine AB ?_|refine rX c ?_ ?_)
            refine rC (λk=>?_) (λk=>?_)
            ·have key:=A7b i (by omega) ah d b1 (by omega) (by omega) Y;rw[v]at key;refine eS rfl ?_;refine cP 4 c ?_ ?_
             ·trivial
             ·refine rM c (key) [(1000000,.nm 1000000)] [] ?_ ?_ ?_
              ·first|exact eN|refine eM ?_
              ·first|exact eN|refine eM ?_
              ·rintro _ _ ⟨w,r,rfl,rfl,e,g⟩;refine⟨[(1000000,.nm 1000000)],.p .bool w,[(1000000,.arr 106 AU r)],rfl,rfl,?_,?_,rfl,rfl,CR ?_⟩
               ·first|exact eN|refine eM ?_
               ·first|exact eN|refine eM ?_
               ·refine eS rfl ?_;refine rC (λaf=>?_) (λaf=>?_)
                ·repeat'(first|exact trivial|refine eS rfl ?_|refine AB ?_|refine rX c ?_ ?_|refine rC ?_ ?_<;>intro o<;>try(cases o;done))
                 have am:=f.trans e;exact fM c [] (.raw (.tuple #[])) rfl ⟨rfl,r,rfl,n.trans (am.mono D E),(t.pin am).done (g af)⟩
                ·repeat'(first|exact trivial|refine eS rfl ?_|refine AB ?_|refine rX c ?_ ?_)
                 refine⟨⟨r,f.trans e⟩,AC [(1000000,.nm 1000000)] rfl rfl ?_ ?_⟩
                 ·first|exact eN|refine eM ?_
                 ·first|exact eN|refine eM ?_
            ·repeat'(first|exact trivial|refine eS rfl ?_|refine AB ?_|refine rX c ?_ ?_)
             refine⟨⟨i,f⟩,AC [(1000000,.nm 1000000)] rfl rfl ?_ ?_⟩
             ·first|exact eN|refine eM ?_
             ·first|exact eN|refine eM ?_
           ·clear v ah Y f;obtain⟨ao,y⟩:=x;simp only;have ak:ao.length=l.length:=y.len.trans u;have ai:=N.perm CN y.perm;have R:=Q.pin y;have ad:=t.pin y;repeat'(first|exact trivial|refine eS rfl ?_|refine AB ?_|refine rX c ?_ ?_)
            ·dsimp only[Ty.den];exact⟨λ_=>by omega,λ_=>by omega,λ_=>by omega⟩
            ·refine Dp (by simp only[go_sem,Nat.reduceEqDiff,reduceCtorEq,Nat.reduceAdd,Nat.reduceSub,Nat.reduceMul,Nat.reduceLeDiff,Nat.reduceLT,Int.reduceLE,Int.reduceToNat,Int.reduceNeg,↓reduceIte];rfl) ?_ ?_
             ·intro L;exfalso;simp only[AT,Fe,UB,On]at L;obtain⟨h1,X⟩:=L;rw[show ((d:Int)-1).toNat=d-1 by omega]at X;rcases R with h|h
              ·omega
              ·exact X (h j z A)
             ·intro L;clear L;have key:=A7a ao (by omega) ai d b1 j z A (by omega);rw[ak]at key;repeat'(first|exact trivial|refine eS rfl ?_|refine AB ?_|refine rX c ?_ ?_)
              refine cP 5 c ?_ ?_
              ·trivial
              ·refine rM c (key) [(1000000,.nm 1000000)] [] ?_ ?_ ?_
               ·first|exact eN|refine eM ?_
               ·first|exact eN|refine eM ?_
               ·rintro _ _ ⟨q,w,I,rfl,rfl,P,F⟩;refine⟨[(1000000,.nm 1000000)],.tup [.p T3 (q:Int),.p .bool w],[(1000000,.arr 106 AU I)],rfl,rfl,?_,?_,rfl,rfl,?_⟩
                ·first|exact eN|refine eM ?_
                ·first|exact eN|refine eM ?_
                ·have aw:=F.l;have bd:=F.r;have O:=n.trans ((y.trans P).mono D E);have al:=O.len;have aj:=aa.perm CN O.perm;have Z:=R.pin P;have ae:=ad.pin P;clear y ak ai R ad P key;have W:(((b1-d:Nat):Int)).tdiv 8=(((b1-d) / 8:Nat):Int):=by
                  rw[oS (by omega)];omega
                 refine rL c ?_ ?_
                 ·trivial
                 ·repeat'(first|exact trivial|refine eS rfl ?_|refine AB ?_|refine rX c ?_ ?_)
                  ·exact CY
                  ·rw[W];exact⟨by decide,by omega,by omega⟩
                  ·rw[W];refine rC (λk=>?_) (λk=>?_)
                   ·have key:=V I (by omega) aj d q C (by omega) aw (by omega) G (Z.sub (by omega));unfold jH at key;rw[al]at key;repeat'(first|exact trivial|refine eS rfl ?_|refine AB ?_|refine rX c ?_ ?_)
                    refine cP 5 c ?_ ?_
                    ·trivial
                    ·refine rM c (key) [(1000000,.nm 1000000)] [] ?_ ?_ ?_
                     ·first|exact eN|refine eM ?_
                     ·first|exact eN|refine eM ?_
                     ·rintro _ _ ⟨rfl,r,rfl,e,g⟩;refine⟨[(1000000,.nm 1000000)],.raw (.tuple #[]),[(1000000,.arr 106 AU r)],rfl,rfl,?_,?_,rfl,rfl,CR ?_⟩
                      ·first|exact eN|refine eM ?_
                      ·first|exact eN|refine eM ?_
                      ·have M:=F.pinL e;have B:EF (0,0) d b1 I r:=e.mono (NO _) (by omega);repeat'(first|exact trivial|refine eS rfl ?_|refine AB ?_|refine rX c ?_ ?_)
                       ·exact CY
                       ·refine⟨⟨((q+1,b1,C),(decide ((((b1-d) / 8:Nat):Int)<=(q:Int)-(d:Int)),w),r),(ae.pin B).left CN M g,O.trans (B.mono D E),M.bf,G⟩,by simp only;omega,AC [(1000000,.nm 1000000)] rfl rfl ?_ ?_⟩
                        ·first|exact eN|refine eM ?_
                        ·first|exact eN|refine eM ?_
                   ·have key:=V I (by omega) aj (q+1) b1 C (by omega) (by omega) (by omega) G F.bf;unfold jH at key;rw[al,show ((q+1:Nat):Int)=(q:Int)+1 by omega]at key;repeat'(first|exact trivial|refine eS rfl ?_|refine AB ?_|refine rX c ?_ ?_)
                    refine cP 6 c ?_ ?_
                    ·exact CY
                    ·refine rM c (key) [(1000000,.nm 1000000)] [] ?_ ?_ ?_
                     ·first|exact eN|refine eM ?_
                     ·first|exact eN|refine eM ?_
                     ·rintro _ _ ⟨rfl,r,rfl,e,g⟩;refine⟨[(1000000,.nm 1000000)],.raw (.tuple #[]),[(1000000,.arr 106 AU r)],rfl,rfl,?_,?_,rfl,rfl,CR ?_⟩
                      ·first|exact eN|refine eM ?_
                      ·first|exact eN|refine eM ?_
                      ·have M:=F.pinR e;have B:EF (0,0) d b1 I r:=e.mono (by omega) (NO _);repeat'(first|exact trivial|refine eS rfl ?_|refine AB ?_|refine rX c ?_ ?_)
                       refine⟨⟨((d,q,C),(decide ((((b1-d) / 8:Nat):Int)<=(b1:Int)-(q:Int)),w),r),(ae.pin B).right CN M g,O.trans (B.mono D E),(Z.pin B).sub (b':=q) (by omega),G⟩,by simp only;omega,AC [(1000000,.nm 1000000)] rfl rfl ?_ ?_⟩
                       ·first|exact eN|refine eM ?_
                       ·first|exact eN|refine eM ?_
theorem A7h (l:List (Int×Int)) (i:l.length<256) (e:k8 CF (0,0) l) (a b c:Nat) (f:a<=b) (g:b<=l.length) (j:c<=1000) (d:Bf CF (0,0) a b l):jH l a b c:=by
 have key:∀(n:Nat) (l:List (Int×Int)),l.length<256->k8 CF (0,0) l->∀a b c:Nat,b-a<n->a<=b->b<=l.length->c<=1000->Bf CF (0,0) a b l->jH l a b c:=by
  intro n;induction n with
  | zero=>intro l _ _ a b c h;omega
  | succ n s =>
   intro l i e a b c hn f g j d;exact A0m l i e a b c f g j d λl' h1 m k b' t u o p q r=>s l' h1 m k b' t (by omega) o p q r
 exact key (b-a+1) l i e a b c (by omega) f g j d
end
def NdA (l:List (Int×Int)):Prop:=l.Pairwise λa b=>a.1≠b.1
def LtA (l:List (Int×Int)):Prop:=l.Pairwise λa b=>a.1<b.1
theorem Zg (x:Int×Int) (s:List (Int×Int)):∀n,(∀j,IT x s n<=j->j<n->x.1<(s.getD j (0,0)).1)/\(IT x s n=0\/¬x.1<(s.getD (IT x s n-1) (0,0)).1)
 | 0=>⟨λj h1 a=>by omega,.inl rfl⟩
 | n+1=>by
  obtain⟨h1,a⟩:=Zg x s n;unfold IT;split
  ·rename_i h;refine⟨λj b c=>?_,a⟩;by_cases e:j=n
   ·rw[e];exact h
   ·exact h1 j b (by omega)
  ·rename_i h;exact⟨λj b c=>by omega,.inr (by simpa using h)⟩
theorem A7i {s:List (Int×Int)} (hs:LtA s) {x:Int×Int} (l:∀a∈s,a.1≠x.1):LtA (O9 s x):=by
 obtain⟨h1,c⟩:=Zg x s s.length;have m:=Uo x s s.length;unfold O9;generalize IT x s s.length=p at *;have hp:=hs;unfold LtA at hp;rw[<-AEn p s,AE2]at hp;have g:∀i (h:i<s.length),s.getD i (0,0)=s[i]:=λi h=>by rw[AS,At h];rfl
 have k:∀a∈s.take p,a.1<x.1:=by
  intro a ha;rcases c with c|c
  ·subst c;simp at ha
  ·obtain⟨i,hi,rfl⟩:=AAd.1 ha;rw[ON]at hi;rw[List.getElem_take];by_cases o:p=0
   ·omega
   have f:p-1<s.length:=by omega
   rw[g (p-1) f]at c;have n:=l s[p-1] (nO f);by_cases e:i=p-1
   ·subst e;omega
   ·have:=(UK.1 hs) i (p-1) (by omega) f (by omega);omega
 have j:∀a∈s.drop p,x.1<a.1:=by
  intro a ha;obtain⟨i,hi,rfl⟩:=AAd.1 ha;rw[YE]at hi;rw[List.getElem_drop,<-g (p+i) (by omega)];exact h1 (p+i) (by omega) (by omega)
 unfold LtA;rw[UN,AE2];refine⟨hp.1,?_,λa ha b d=>?_⟩
 ·rw[List.singleton_append,UW];exact⟨j,hp.2.1⟩
 ·rcases DO.1 (by simpa using d:b∈x :: s.drop p) with rfl|d
  ·exact k a ha
  ·exact hp.2.2 a ha b d
theorem PJ {l:List (Int×Int)} (h:NdA l):LtA (Ae l):=by
 induction l using EV with
 | h0=>exact List.Pairwise.nil
 | h1 l a d =>
  unfold NdA at h;rw[AE2]at h;rw[Ha];exact A7i (d h.1) λb c=>h.2.2 b ((E6 l).mem_iff.1 c) a (by simp)
theorem A0n {l r:List (Int×Int)} (hp:r.Perm l) (h1:LtA r) (c:LtA l):r=l :=
 List.Perm.eq_of_pairwise (le:=λa b:Int×Int=>a.1<b.1) (λa b _ _ d e=>by omega) h1 c hp
theorem xH {l:List (Int×Int)} (h:LtA l):i9 l:=by
 intro i hi;have a:∀i (h:i<l.length),l.getD i (0,0)=l[i]:=λi h=>by rw[AS,At h];rfl
 rw[a i (by omega),a (i+1) hi];exact(UK.1 h) i (i+1) (by omega) hi (by omega)
theorem A3r {l:List (Int×Int)} (h:i9 l):LtA l:=by
 refine UK.2 λi j hi f k=>?_;have c:∀i (h:i<l.length),l.getD i (0,0)=l[i]:=λi h=>by rw[AS,At h];rfl
 have key:∀d i,i+d+1<l.length->(l.getD i (0,0)).1<(l.getD (i+d+1) (0,0)).1:=by
  intro d;induction d with
  | zero=>exact λi hi=>h i hi
  | succ d g =>
   intro i hi;have a:=g i (by omega);have b:=h (i+d+1) (by omega);have e:i+(d+1)+1=i+d+1+1:=by omega
   rw[e];omega
 have:=key (j-i-1) i (by omega);rw[show i+(j-i-1)+1=j by omega,c i hi,c j f]at this;exact this
theorem A9m {l:List (Int×Int)} (h:LtA l):NdA l:=h.imp λg=>by omega
theorem A9n {l:List (Int×Int)} (h:NdA l):k8 CF (0,0) l:=by
 rw[xE CN];refine h.imp λ{a b} g e=>g ?_;unfold CF F0 at e;split at e
 ·omega
 ·split at e<;>omega
theorem n6 {l r:List (Int×Int)} (h:NdA l) (hp:r.Perm l) (hs:SI CF (0,0) 0 l.length r):r=Ae l:=by
 refine A0n (hp.trans (E6 l).symm) (UK.2 λi j hi b c=>?_) (PJ h);have a:∀i (h:i<r.length),r.getD i (0,0)=r[i]:=λi h=>by rw[AS,At h];rfl
 have:=hs i j (IS _) c (by rw[<-hp.length_eq];exact b);rw[a i hi,a j b]at this;unfold CF F0 at this;split at this
 ·assumption
 ·split at this<;>omega
theorem Mh {l:List (Int×Int)} (h:NdA l):Ae (Ae l)=Ae l:=JL (xH (PJ h))
def NdF (f:List AD):Prop:=∀x∈f,NdA x.2/\x.2.length<=200
def Ds (f:List AD):List AD:=f.map λx=>(x.1,Ae x.2)
theorem GF (f:List AD):(Ds f).length=f.length:=Of _
theorem Qt (f:List AD) (n:Nat):(Ds f).getD n (0,[])=((f.getD n (0,[])).1,Ae (f.getD n (0,[])).2):=by
 unfold Ds;simp only[AS,iS];cases f[n]?<;>rfl
theorem SJ {f:List AD} (h:AW f):AW (Ds f):=by
 refine⟨by rw[GF];exact h.1,λx d=>?_⟩;obtain⟨y,e,rfl⟩:=IF.1 d;obtain⟨b,c⟩:=h.2 y e;refine⟨by simp only[Cp];exact b,λa ha=>?_⟩;rw[GF];exact c a ((E6 _).mem_iff.1 ha)
theorem A3s {f:List AD} (h:NdF f):KG (Ds f):=by
 intro x c;obtain⟨y,d,rfl⟩:=IF.1 c;obtain⟨a,b⟩:=h y d;exact⟨xH (PJ a),by simp only[Cp];exact b⟩
theorem A0o {f:List AD} (h:KG f):Ds f=f:=by
 unfold Ds
 conv=>rhs;rw[<-AFB f]
 refine UI λx a=>?_;rw[JL (h x a).1];rfl
theorem A9o {f:List AD} (h:KG f):NdF f:=λx a=>⟨A9m (A3r (h x a).1),(h x a).2⟩
theorem xI {f:List AD} (hf:NdF f) (n:Int):NdA (f.getD n.toNat (0,[])).2/\(f.getD n.toNat (0,[])).2.length<=200:=by
 by_cases h:n.toNat<f.length
 ·have a:f.getD n.toNat (0,[])∈f:=by
   rw[AS,At h];exact nO h
  exact hf _ a
 ·rw[AS,UJ (by omega)];exact⟨List.Pairwise.nil,by simp⟩
theorem TP {f:List AD} (h:NdF f):∀(k:Nat) (s:List Int×List Int) (n:Int),D9 (Ds f) k s n=D9 f k s n
 | 0,_,_=>rfl
 | k+1,s,n=>by
  rw[Fy,Fy,Qt];simp only;rw[Mh (xI h n).1];refine ADx (λg=>List.foldl g _ _) ?_;funext s a;unfold Ef;rw[TP h k s a.2]
theorem A0p {f:List AD} (h:NdF f) (r:Int):IU (Ds f) r=IU f r:=by
 have a:GU (Ds f) r=GU f r:=by
  unfold GU;rw[GF,TP h]
 unfold IU;rw[a];refine UI λn _=>?_;unfold Mc;rw[Qt];simp only;rw[Mh (xI h n).1]
theorem jI {f:List AD} (hf:AW f) (hn:NdF f) {root:Int} (h0:0<=root) (h1:root<f.length):IU f root=AN (Ds f) root:=by
 rw[<-A0p hn];exact GE (SJ hf) (A3s hn) h0 (by rw[GF];exact h1)
theorem W8 {L:Go.Loop} (h1:L.state=.ready) (a:L.pending=none):{ { L with state:=.busy } with state:=.ready,pending:=none }=L:=by
 cases L;simp_all
theorem Zh (l:List (Int×Int)):BJ Tryz.prog 191 [.p DS l] [] [] (λres b=>res=.clo 216 [1]/\b=[(1,.box 91 false [.p DS l])]):=by
 refine Kv [0,1,2] [] [] Tryz.func191 Tryz.ntmps191 AG ?_;intro w0 K O0 ρ0 a c d;simp only[Ar];repeat'(first|exact trivial|refine eS rfl ?_|refine rX a ?_ ?_)
 exact fM a [.tmp 2] (.clo 216 [1]) eT ⟨rfl,rfl⟩
def CS (l:List (Int×Int)) (L:Go.Loop) (a:Array Value) (i:Nat):List (Nat×Obj):=[(1,.box 91 false [.p DS l]),(101,.loop L),(102,.frame a [(2,.bp 2 [] 0),(6,.clo 216 [1])]),(2,.box 91 false [.sr 7 AU 0 i]),(7,.arr 106 AU (l.take i))]
theorem n7 (l:List (Int×Int)) (g:l.length<=100000) (L:Go.Loop) (b:Array Value) (f:∀i,i<l.length->Y6 Tryz.prog 101 [.p AU (l.getD i (0,0))] (CS l L b i) [1,101,102,2] (λres e=>res=.p .bool true/\e=CS l L b (i+1))) :
  BJ Tryz.prog 216 [.yl 101,.bp 1 [] 0] (CS l L b 0) [1,101,102,2] (λres e=>res=.raw (.tuple #[])/\e=CS l L b l.length):=by
 refine Kv [0,1,4,5,6,7,8,14] [] [] Tryz.func216 Tryz.ntmps216 AG ?_;intro w0 K O0 ρ0 a h j;simp only[Ar,CS];repeat'(first|exact trivial|refine eS rfl ?_|refine rX a ?_ ?_)
 refine AJ (ι:={i:Nat//i<=l.length}) (λi=>⟨[(0,.yl 101),(1,.bp 1 [] 0),(5,.p DS l),(6,.p (.int .i64) (l.length:Int)),(7,.p (.int .i64) (i.1:Int))],CS l L b i.1⟩) (λi=>l.length-i.1) ⟨0,by omega⟩ (AC [(1,.nm 1),(101,.nm 101),(102,.nm 102),(2,.nm 2),(7,.nm 7)] rfl rfl ?_ ?_) (λi=>?_)
 ·simp only[CS];exact eN
 ·exact eN
 ·obtain⟨i,hi⟩:=i;simp only[CS];repeat'(first|exact trivial|refine eS rfl ?_|refine rX a ?_ ?_|refine rC ?_ ?_<;>intro c<;>try(cases c;done))
  ·exact eV
  ·have d:i<l.length:=by exact eV
   refine cP 2 a ?_ ?_
   ·trivial
   ·refine rY 101 101 a (f i d) [(1,.nm 1),(101,.nm 101),(102,.nm 102),(2,.nm 2),(7,.nm 7)] [7] ?_ ?_ ?_
    ·exact eN
    ·simp only[CS];exact eN
    ·rintro _ _ ⟨rfl,rfl⟩;refine⟨[(1,.nm 1),(101,.nm 101),(102,.nm 102),(2,.nm 2),(7,.nm 7)],.p .bool true,CS l L b (i+1),rfl,rfl,?_,?_,rfl,rfl,?_⟩
     ·simp only[CS];exact eN
     ·exact eN
     ·simp only[CS];refine H8 [0,1,5,6,7,14] a (by simp only[go_sem,Nat.reduceEqDiff,reduceCtorEq,Nat.reduceAdd,Nat.reduceSub,Nat.reduceMul,Nat.reduceLeDiff,Nat.reduceLT,Int.reduceLE,Int.reduceToNat,Int.reduceNeg,↓reduceIte];rfl) ?_ ?_
      ·trivial
      ·repeat'(first|refine eS rfl ?_|refine AB ?_|refine rX a ?_ ?_|refine rC ?_ ?_<;>intro c<;>try(cases c;done))
       ·exact eV
       ·refine⟨⟨i+1,by omega⟩,by simp only;omega,AC [(1,.nm 1),(101,.nm 101),(102,.nm 102),(2,.nm 2),(7,.nm 7)] rfl rfl ?_ ?_⟩
        ·simp only[CS];exact eN
        ·exact eN
  ·have d:i=l.length:=by exact eV
   subst d;refine fM a [] (.raw (.tuple #[])) rfl ⟨rfl,?_⟩;simp only[CS,UE]
theorem dB (l:List (Int×Int)) (n:l.length<=100000):BJ Tryz.prog 228 [.raw (.slice none 0 0),.clo 216 [1]] [(1,.box 91 false [.p DS l])] [] (λres q=>res=.sr 7 AU 0 l.length/\q=[(7,.arr 106 AU l)]):=by
 refine fKR [0,1,2,4,5,6,7] [] [] Tryz.func228 Tryz.ntmps228 AG ?_;intro w0 K O0 ρ0 a t u;simp only[Ar];repeat'(first|exact trivial|refine eS rfl ?_|refine rX a ?_ ?_)
 refine gK a rfl rfl (by simp only[go_sem,Nat.reduceEqDiff,reduceCtorEq,Nat.reduceAdd,Nat.reduceSub,Nat.reduceMul,Nat.reduceLeDiff,Nat.reduceLT,Int.reduceLE,Int.reduceToNat,Int.reduceNeg,↓reduceIte];rfl) 101 103 102 rfl rfl rfl rfl ?_;intro L c d f g h j k o;refine⟨_,CS l L c 0,[1,101,102,2],_,[(1,.nm 1),(101,.nm 101),(102,.nm 102),(2,.nm 2),(7,.nil)],[],n7 l n L c ?_,rfl,rfl,?_,?_,rfl,?_⟩
 ·intro i hi;refine gI (fr:=102) rfl rfl d h j k g o rfl (by kernel_rfl) (by simp) rfl rfl (by kernel_rfl) (by kernel_rfl) (tyTab_ok [] [0,1,2,4,5,6,7]) AG ?_;intro y r s z x a v w m;simp only[CS,HK];repeat'(first|exact trivial|refine AB ?_|refine rX a ?_ ?_)
  refine⟨rfl,?_⟩;repeat'(first|refine eS rfl ?_|refine rX a ?_ ?_)
  ·simp only[AP];omega
  ·have e:List.take i (List.take i l)++[((l.getD i (0,0)).1,(l.getD i (0,0)).2)]=l.take (i+1):=by
    rw[Az l (0,0) hi,As (Nat.le_of_eq (by rw[ON];omega):(l.take i).length<=i)]
   refine Ev.ent (σ':=⟨[],[(1,.box 91 false [.p DS l]),(101,.loop { L with state:=.busy }),(102,.frame c [(2,.bp 2 [] 0),(6,.clo 216 [1])]),(2,.box 91 false [.sr 7 AU 0 (i+1)]),(7,.arr 106 AU (l.take (i+1)))]⟩) ?_ (AC [(1,.nm 1),(101,.nm 101),(102,.nm 102),(2,.nm 2),(7,.nm 7)] rfl rfl ?_ ?_)
   ·refine Rw a (yn:=101) rfl rfl (by simp) m ⟨rfl,?_⟩;simp only[CS,go_sem,Nat.reduceEqDiff,reduceCtorEq,Nat.reduceAdd,Nat.reduceSub,Nat.reduceMul,Nat.reduceLeDiff,Nat.reduceLT,Int.reduceLE,Int.reduceToNat,Int.reduceNeg,↓reduceIte,W8 d f]
   ·refine eM ?_;exact e
   ·exact eN
 ·simp only[BV];exact eN
 ·simp only[BV,CS];exact eN
 ·rintro _ _ ⟨rfl,rfl⟩;refine⟨[(1,.nm 1),(101,.nm 101),(102,.nm 102),(2,.nm 2),(7,.nm 7)],CS l L c l.length,L,rfl,rfl,?_,rfl,rfl,rfl,by rw[d];rfl,?_⟩
  ·simp only[CS];exact eN
  ·intro b;rw[f];simp only[EvJ,CS,BV,go_sem,Nat.reduceEqDiff,reduceCtorEq,Nat.reduceAdd,Nat.reduceSub,Nat.reduceMul,Nat.reduceLeDiff,Nat.reduceLT,Int.reduceLE,Int.reduceToNat,Int.reduceNeg,↓reduceIte];replace a:=NP (dn:=103) (b:=b) a;repeat'(first|exact trivial|refine eS rfl ?_|refine rX a ?_ ?_)
   refine Ev.ent (σ':=⟨[(4,.sr 7 AU 0 l.length)],[(7,.arr 106 AU l),(103,.dfr)]⟩) ?_ (AC [(7,.nm 7),(103,.nm 103)] rfl rfl ?_ ?_)
   ·exact QN a [.tmp 4] rfl (.inl rfl) rfl rfl (.sr 7 AU 0 l.length) eT ⟨rfl,by simp only[go_sem,Nat.reduceEqDiff,reduceCtorEq,Nat.reduceAdd,Nat.reduceSub,Nat.reduceMul,Nat.reduceLeDiff,Nat.reduceLT,Int.reduceLE,Int.reduceToNat,Int.reduceNeg,↓reduceIte]⟩
   ·exact eN
   ·exact eN
theorem n8 (l:List (Int×Int)) (b:l.length<=100000):BJ Tryz.prog 214 [.clo 216 [1]] [(1,.box 91 false [.p DS l])] [] (λres c=>res=.sr 7 AU 0 l.length/\c=[(7,.arr 106 AU l)]):=by
 refine Kv [0,2] [] [] Tryz.func214 Tryz.ntmps214 AG ?_;intro w0 K O0 ρ0 a d e;simp only[Ar];repeat'(first|exact trivial|refine eS rfl ?_|refine rX a ?_ ?_)
 refine cP 1 a ?_ ?_
 ·trivial
 ·refine rM a (dB l b) [(1,.nm 1)] [1] ?_ ?_ ?_
  ·exact eN
  ·exact eN
  ·rintro _ _ ⟨rfl,rfl⟩;refine⟨[(7,.nm 7)],.sr 7 AU 0 l.length,[(7,.arr 106 AU l)],rfl,rfl,?_,?_,rfl,rfl,?_⟩
   ·exact eN
   ·exact eN
   ·refine H8 [2] a (by simp only[go_sem,Nat.reduceEqDiff,reduceCtorEq,Nat.reduceAdd,Nat.reduceSub,Nat.reduceMul,Nat.reduceLeDiff,Nat.reduceLT,Int.reduceLE,Int.reduceToNat,Int.reduceNeg,↓reduceIte];rfl) ?_ ?_
    ·trivial
    ·repeat' refine eS rfl ?_
     exact fM a [.tmp 2] (.sr 7 AU 0 l.length) eT ⟨rfl,rfl⟩
theorem jJ (l:List (Int×Int)) (h:l.length<=200) (hs:NdA l):BJ Tryz.prog 215 [.sr 1000000 AU 0 l.length,.fn 192] [(1000000,.arr 106 AU l)] [1000000] (λres f=>res=.raw (.tuple #[])/\f=[(1000000,.arr 106 AU (Ae l))]):=by
 have d:=A9n hs;refine Kv [0,1,4] [] [] Tryz.func215 Tryz.ntmps215 AG ?_;intro w0 K O0 ρ0 a i j;simp only[Ar];repeat'(first|exact trivial|refine eS rfl ?_|refine rX a ?_ ?_)
 refine cP 4 a ?_ ?_
 ·exact eV
 ·refine rM a (xG (l.length:Int) (by omega) (by omega)) [] [] ?_ ?_ ?_
  ·exact eN
  ·exact eN
  ·rintro _ _ ⟨⟨n,rfl,g,-⟩,rfl⟩;refine⟨[],.p T3 (n:Int),[],rfl,rfl,?_,?_,rfl,rfl,?_⟩
   ·exact eN
   ·exact eN
   ·have key:=A7h l (by omega) d 0 l.length n (IS _) (NO _) (by omega) (.inl rfl);unfold jH at key;rw[show ((0:Nat):Int)=0 from rfl]at key;refine QF a 1 (by simp only[go_sem,Nat.reduceEqDiff,reduceCtorEq,Nat.reduceAdd,Nat.reduceSub,Nat.reduceMul,Nat.reduceLeDiff,Nat.reduceLT,Int.reduceLE,Int.reduceToNat,Int.reduceNeg,↓reduceIte];rfl) ?_ ?_
    ·trivial
    ·refine rM a (key) [(1000000,.nm 1000000)] [] ?_ ?_ ?_
     ·exact eN
     ·exact eN
     ·rintro _ _ ⟨rfl,r,rfl,hp,e⟩;have c:=n6 hs hp.perm e;subst c;have k:=Cp l;refine⟨[(1000000,.nm 1000000)],.raw (.tuple #[]),[(1000000,.arr 106 AU (Ae l))],rfl,rfl,?_,?_,rfl,rfl,CR ?_⟩
      ·exact eN
      ·exact eN
      ·repeat'(first|exact trivial|refine eS rfl ?_|refine AB ?_|refine rX a ?_ ?_|refine rC ?_ ?_<;>intro b<;>try(cases b;done))
       exact fM a [] (.raw (.tuple #[])) rfl ⟨rfl,rfl⟩
theorem OI (l:List (Int×Int)) (b:l.length<=200) (hs:NdA l):BJ Tryz.prog 190 [.clo 216 [1],.fn 192] [(1,.box 91 false [.p DS l])] [] (λres c=>res=.sr 7 AU 0 l.length/\c=[(7,.arr 106 AU (Ae l))]):=by
 have f:=Cp l;refine Kv [0,1,4,5] [] [] Tryz.func190 Tryz.ntmps190 AG ?_;intro w0 K O0 ρ0 a d e;simp only[Ar];repeat'(first|exact trivial|refine eS rfl ?_|refine rX a ?_ ?_)
 refine cP 1 a ?_ ?_
 ·trivial
 ·refine rM a (n8 l (by omega)) [(1,.nm 1)] [1] ?_ ?_ ?_
  ·exact eN
  ·exact eN
  ·rintro _ _ ⟨rfl,rfl⟩;refine⟨[(1000000,.nm 7)],.sr 1000000 AU 0 l.length,[(1000000,.arr 106 AU l)],rfl,rfl,?_,?_,rfl,rfl,?_⟩
   ·exact eN
   ·exact eN
   ·refine H8 [1,5] a (by simp only[go_sem,Nat.reduceEqDiff,reduceCtorEq,Nat.reduceAdd,Nat.reduceSub,Nat.reduceMul,Nat.reduceLeDiff,Nat.reduceLT,Int.reduceLE,Int.reduceToNat,Int.reduceNeg,↓reduceIte];rfl) ?_ ?_
    ·trivial
    ·repeat' refine eS rfl ?_
     refine cP 2 a ?_ ?_
     ·trivial
     ·refine rM a (jJ l b hs) [(1000000,.nm 1000000)] [] ?_ ?_ ?_
      ·exact eN
      ·exact eN
      ·rintro _ _ ⟨rfl,rfl⟩;refine⟨[(1000000,.nm 1000000)],.raw (.tuple #[]),[(1000000,.arr 106 AU (Ae l))],rfl,rfl,?_,?_,rfl,rfl,CR ?_⟩
       ·exact eN
       ·exact eN
       ·repeat'(first|exact trivial|refine eS rfl ?_|refine rX a ?_ ?_)
        refine Ev.ent (σ':=⟨[(4,.sr 7 AU 0 l.length)],[(7,.arr 106 AU (Ae l))]⟩) ?_ (AC [(7,.nm 1000000)] rfl rfl ?_ ?_)
        ·exact fM a [.tmp 4] (.sr 7 AU 0 l.length) eT ⟨rfl,rfl⟩
        ·exact eN
        ·exact eN
def Lg (f:List AD) (o:List Int):List (Nat×Obj):=[(1,.box 61 false [.sr 5 T3 0 o.length]),(2,.box 177 false [.mp 6]),(3,.box 25 true [.p FQ f]),(4,.box 178 false [.clo 189 [1,2,3,4]]),(5,.arr 3 T3 o),(6,.mapo T3 T3 (mOf o))]
theorem AD4 {f:List AD} {o:List Int} (h:KP f o):KP (Ds f) o:=⟨h.nd,λx a=>by rw[GF];exact h.rng x a⟩
theorem A8y {f:List AD} {o:List Int} (h:KP (Ds f) o):KP f o:=⟨h.nd,λx a=>by have:=h.rng x a;rwa [GF]at this⟩
theorem A0q (f:List AD) (hf:AW f) (hs:NdF f):∀(k:Nat) (o:List Int) (n:Int),KP f o->0<=n->n<f.length->n∉o->f.length-o.length<=k ->
  BJ Tryz.prog 189 [.p T3 n,.bp 1 [] 0,.bp 2 [] 0,.bp 3 [] 0,.bp 4 [] 0] (Lg f o) [1,2,3,4,6] (λres Q=>res=.raw (.tuple #[])/\Q=Lg f (DK (Ds f) k o n)):=by
 intro k;induction k with
 | zero =>
  intro o n h0 h1 A B R;have:=(h0.snoc h1 A B).len;simp only[GO,To]at this;omega
 | succ k P =>
  intro o n D u v w hk;have t:=D.snoc u v w;have I:=t.len;simp only[GO,To]at I;have S:=hf.1;refine Kv [0,1,2,3,4,7,9,25,26,27,28,39] [] [] Tryz.func189 Tryz.ntmps189 AG ?_;intro w0 K O0 ρ0 b T U;simp only[Lg,Ar];repeat'(first|exact trivial|refine eS rfl ?_|refine rX b ?_ ?_)
  ·simp only[AP];omega
  ·rw[A3l w];obtain⟨O,G⟩:=xI hs n;have s:=λa (ha:a∈Ae (f.getD n.toNat (0,[])).2)=>BE hf ((E6 _).mem_iff.1 ha);have F:DK (Ds f) (k+1) o n=(Ae (f.getD n.toNat (0,[])).2).foldl (Ad (Ds f) k) (o++[n]):=by rw[CK,Qt]
   have E:=AD4 (f:=f) t;refine cP 6 b ?_ ?_
   ·exact⟨u,v⟩
   ·generalize (f.getD n.toNat (0,[])).2=g at *;refine rM b (Zh g) [] [] ?_ ?_ ?_
    ·exact eN
    ·exact eN
    ·rintro _ _ ⟨rfl,rfl⟩;refine⟨[(50,.nm 1)],.clo 216 [50],[(50,.box 91 false [.p DS g])],rfl,rfl,?_,?_,rfl,rfl,?_⟩
     ·exact eN
     ·exact eN
     ·refine rM b (OI g G O) [(1,.nm 50)] [50] ?_ ?_ ?_
      ·exact eN
      ·exact eN
      ·rintro _ _ ⟨rfl,rfl⟩;have C:=Cp g;rw[<-C];generalize Ae g=L at *;refine⟨[(51,.nm 7)],.sr 51 AU 0 L.length,[(51,.arr 106 AU L)],rfl,rfl,?_,?_,rfl,rfl,?_⟩
       ·exact eN
       ·exact eN
       ·refine H8 [0,1,2,3,4,25,26,27] b (by simp only[go_sem,Nat.reduceEqDiff,reduceCtorEq,Nat.reduceAdd,Nat.reduceSub,Nat.reduceMul,Nat.reduceLeDiff,Nat.reduceLT,Int.reduceLE,Int.reduceToNat,Int.reduceNeg,↓reduceIte];rfl) ?_ ?_
        ·trivial
        ·have N:∀i,KP (Ds f) ((L.take i).foldl (Ad (Ds f) k) (o++[n]))/\o++[n] <+: (L.take i).foldl (Ad (Ds f) k) (o++[n]):=λi=>Ez (ED (SJ hf) k) _ _ (λa ha=>by rw[GF];exact s a (f6 ha)) E;generalize J:o++[n]=q at *;have M:q.length=o.length+1:=by rw[<-J];simp
         rw[<-M];repeat' refine eS rfl ?_
         refine AJ (ι:={i:Nat//i<=L.length}) (λi=>⟨[(0,.p T3 n),(1,.bp 1 [] 0),(2,.bp 2 [] 0),(3,.bp 3 [] 0),(4,.bp 4 [] 0),(25,.p DS L),(26,.p (.int .i64) (L.length:Int)),(27,.p (.int .i64) (i.1:Int))],Lg f ((L.take i.1).foldl (Ad (Ds f) k) q)⟩) (λi=>L.length-i.1) ⟨0,by omega⟩ (AAB [51] (AC [(1,.nm 1),(2,.nm 2),(3,.nm 3),(4,.nm 4),(5,.nm 5),(6,.nm 6)] rfl rfl ?_ ?_)) (λi=>?_)
         ·simp only[Lg,ADf,List.foldl_nil];exact eN
         ·exact eN
         ·obtain⟨i,hi⟩:=i;obtain⟨j,y⟩:=N i;replace j:=A8y j;have r:=λ(h:i<L.length)=>NW (Ad (Ds f) k) L (0,0) q h;have H:=y.length_le;generalize x:(L.take i).foldl (Ad (Ds f) k) q=c at j y r H;simp only[Lg];repeat'(first|exact trivial|refine eS rfl ?_|refine AB ?_|refine rX b ?_ ?_|refine rC ?_ ?_<;>intro d<;>try(cases d;done))
          ·exact eV
          ·have l:i<L.length:=by exact eV
           have z:=s _ (AE L (0,0) l);have m:(L.getD i (0,0)).2∉c:=by rw[Wx]at d;simpa using d
           refine cP 3 b ?_ ?_
           ·trivial
           ·refine rM b (P c (L.getD i (0,0)).2 j z.1 z.2 m (by omega)) [(1,.nm 1),(2,.nm 2),(3,.nm 3),(4,.nm 4),(5,.nm 5),(6,.nm 6)] [5] ?_ ?_ ?_
            ·exact eN
            ·simp only[Lg];exact eN
            ·rintro _ _ ⟨rfl,rfl⟩;refine⟨[(1,.nm 1),(2,.nm 2),(3,.nm 3),(4,.nm 4),(5,.nm 5),(6,.nm 6)],.raw (.tuple #[]),Lg f (DK (Ds f) k c (L.getD i (0,0)).2),rfl,rfl,?_,?_,rfl,rfl,CR ?_⟩
             ·simp only[Lg];exact eN
             ·exact eN
             ·simp only[Lg];repeat'(first|refine eS rfl ?_|refine AB ?_|refine rX b ?_ ?_)
              ·exact eV
              ·have e:Ad (Ds f) k c (L.getD i (0,0))=DK (Ds f) k c (L.getD i (0,0)).2:=An m;refine⟨⟨i+1,by omega⟩,by simp only;omega,AC [(1,.nm 1),(2,.nm 2),(3,.nm 3),(4,.nm 4),(5,.nm 5),(6,.nm 6)] rfl rfl ?_ ?_⟩
               ·simp only[r l,e];exact eN
               ·exact eN
          ·exact eV
          ·have l:i<L.length:=by exact eV
           have m:(L.getD i (0,0)).2∈c:=by rw[Wx]at d;simpa using d
           have e:Ad (Ds f) k c (L.getD i (0,0))=c:=BY m;refine⟨⟨i+1,by omega⟩,by simp only;omega,AC [(1,.nm 1),(2,.nm 2),(3,.nm 3),(4,.nm 4),(5,.nm 5),(6,.nm 6)] rfl rfl ?_ ?_⟩
           ·simp only[r l,e];exact eN
           ·exact eN
          ·have hk:L.take i=L:=As (by exact eV);rw[hk]at x;rw[F,x];exact fM b [] (.raw (.tuple #[])) rfl ⟨rfl,rfl⟩
section
def Dg:Aa:={ ins:=[Da,T3],pre:=λ(f,n,_)=>AW f/\KG f/\0<=n/\n<(List.length f:Int),out:=λ(f,n,_)=>[.p Da (AN f n)] }
attribute [local go_sem] Dg
theorem A0r {α a:Type} (g:α->a) (o:List α) (d:α) (z:a) {i:Nat} (h:i<o.length):((o.take i).map g++List.replicate (o.length-i) z).set i (g (o.getD i d))=(o.take (i+1)).map g++List.replicate (o.length-(i+1)) z:=by
 obtain⟨m,c⟩:∃m,o.length-i=m+1:=⟨o.length-i-1,by omega⟩;have e:o.length-(i+1)=m:=by omega
 have b:((o.take i).map g).length=i:=by rw[Of,ON];omega
 rw[c,e,AEo _ _ (by omega),b,AE3,AEK,AEO,Az o d h,YK];simp
def Qu:Aa:={ ins:=[Da,T3],pre:=λ(f,n,_)=>AW f/\NdF f/\0<=n/\n<(List.length f:Int),out:=λ(f,n,_)=>[.p Da (AN (Ds f) n)] }
attribute [local go_sem] Qu
theorem SK:Ab Tryz.prog 149 Qu:=by
 refine fK [0,1,2,4,5,6,7,8,9,10,11,12,22,23,24,25,38,39,40] Tryz.func149 Tryz.ntmps149 AG ?_;rintro w0 O0 ⟨f,root,u⟩ a-⟨hf,hs,r,s⟩;simp only[Qu,AL];have z:=hf.1;have j:KP f []:=⟨by simp,λx C=>by cases C⟩;obtain⟨g,H⟩:=ED (SJ hf) f.length [] root (AD4 j) r (by rw[GF];exact s) (by simp);replace g:=A8y g;have w:AN (Ds f) root=(DK (Ds f) f.length [] root).map (Di (Ds f) (DK (Ds f) f.length [] root)):=by unfold AN;rw[GF]
 rw[w];repeat'(first|exact trivial|refine eS rfl ?_|refine AB ?_|refine rX a ?_ ?_|refine rC ?_ ?_<;>intro c<;>try(cases c;done))
 refine cP 2 a ?_ ?_
 ·trivial
 ·refine rM a (A0q f hf hs (List.length f) [] root j r s (by simp) (by simp)) [(1,.nm 6),(2,.nm 5),(3,.nm 2),(4,.nm 7),(5,.nil),(6,.nm 13)] [] ?_ ?_ ?_
  ·exact eN
  ·simp only[Lg];refine eM ?_;rfl
  ·rintro _ _ ⟨rfl,rfl⟩;refine⟨[(6,.nm 1),(5,.nm 2),(2,.nm 3),(7,.nm 4),(101,.nm 5),(13,.nm 6)],.raw (.tuple #[]),[(6,.box 61 false [.sr 101 T3 0 (DK (Ds f) (List.length f) [] root).length]),(5,.box 177 false [.mp 13]),(2,.box 25 true [.p FQ f]),(7,.box 178 false [.clo 189 [6,5,2,7]]),(101,.arr 3 T3 (DK (Ds f) (List.length f) [] root)),(13,.mapo T3 T3 (mOf (DK (Ds f) (List.length f) [] root)))],rfl,rfl,?_,?_,rfl,rfl,CR ?_⟩
   ·simp only[Lg];exact eN
   ·exact eN
   ·generalize DK (Ds f) (List.length f) [] root=o at *;have G:=g.len;repeat'(first|exact trivial|refine eS rfl ?_|refine AB ?_|refine rX a ?_ ?_|refine rC ?_ ?_<;>intro c<;>try(cases c;done))
    ·simp only[AP];omega
    ·refine AJ (ι:={i:Nat//i<=o.length}) (λi=>⟨[(2,.bp 2 [] 0),(4,.bp 4 [] 0),(5,.bp 5 [] 0),(8,.bp 8 [] 0),(22,.sr 101 T3 0 o.length),(23,.p (.int .i64) (o.length:Int)),(24,.p (.int .i64) (i.1:Int))],[(8,.box 25 true [.sr 20 Ls 0 o.length]),(20,.arr 93 Ls ((o.take i.1).map (Di (Ds f) o)++List.replicate (o.length-i.1) (0,[]))),(5,.box 177 false [.mp 13]),(2,.box 25 true [.p FQ f]),(101,.arr 3 T3 o),(13,.mapo T3 T3 (mOf o)),(4,.box 25 true [.raw (.slice none 0 0)])]⟩) (λi=>o.length-i.1) ⟨0,by omega⟩ (eW [(8,.nm 8),(20,.nm 20),(5,.nm 5),(2,.nm 2),(101,.nm 101),(13,.nm 13),(4,.nm 4)]) (λi=>?_)
     ·obtain⟨i,hi⟩:=i;repeat'(first|exact trivial|refine eS rfl ?_|refine AB ?_|refine rX a ?_ ?_|refine rC ?_ ?_<;>intro c<;>try(cases c;done))
      ·exact eV
      ·have l:i<o.length:=by exact eV
       have hn:=g.rng _ (AE o 0 l);have q:Di (Ds f) o (o.getD i 0)=((f.getD (o.getD i 0).toNat (0,[])).1,(Ae (f.getD (o.getD i 0).toNat (0,[])).2).map (LJ o)):=by unfold Di;rw[Qt]
       obtain⟨t,m⟩:=xI hs (o.getD i 0);refine cP 6 a ?_ ?_
       ·exact hn
       ·have F:List.length f<=100000:=z;generalize B:o.getD i 0=n at *;generalize A:f.getD n.toNat (0,[])=x at *;obtain⟨I,d⟩:=x;simp only at t m q;refine rM a (Zh d) [] [] ?_ ?_ ?_
        ·exact eN
        ·exact eN
        ·rintro _ _ ⟨rfl,rfl⟩;refine⟨[(50,.nm 1)],.clo 216 [50],[(50,.box 91 false [.p DS d])],rfl,rfl,?_,?_,rfl,rfl,?_⟩
         ·exact eN
         ·exact eN
         ·refine rM a (OI d m t) [(1,.nm 50)] [50] ?_ ?_ ?_
          ·exact eN
          ·exact eN
          ·rintro _ _ ⟨rfl,rfl⟩;have v:=Cp d;rw[<-v];generalize E:Ae d=L at *;refine⟨[(51,.nm 7)],.sr 51 AU 0 L.length,[(51,.arr 106 AU L)],rfl,rfl,?_,?_,rfl,rfl,?_⟩
           ·exact eN
           ·exact eN
           ·refine H8 [2,4,5,8,9,10,11,22,23,24] a (by simp only[go_sem,Nat.reduceEqDiff,reduceCtorEq,Nat.reduceAdd,Nat.reduceSub,Nat.reduceMul,Nat.reduceLeDiff,Nat.reduceLT,Int.reduceLE,Int.reduceToNat,Int.reduceNeg,↓reduceIte];rfl) ?_ ?_
            ·trivial
            ·repeat'(first|exact trivial|refine eS rfl ?_|refine AB ?_|refine rX a ?_ ?_|refine rC ?_ ?_<;>intro c<;>try(cases c;done))
             refine AJ (ι:={k:Nat//k<=L.length}) (λk=>⟨[(2,.bp 2 [] 0),(4,.bp 4 [] 0),(5,.bp 5 [] 0),(8,.bp 8 [] 0),(9,.p (.int .i64) (i:Int)),(10,.p T3 n),(11,.sr 51 AU 0 L.length),(22,.sr 101 T3 0 o.length),(23,.p (.int .i64) (o.length:Int)),(24,.p (.int .i64) (i:Int)),(38,.p (.int .i64) (L.length:Int)),(39,.p (.int .i64) (k.1:Int))],[(51,.arr 106 AU ((L.take k.1).map (LJ o)++L.drop k.1)),(8,.box 25 true [.sr 20 Ls 0 o.length]),(20,.arr 93 Ls ((o.take i).map (Di (Ds f) o)++List.replicate (o.length-i) (0,[]))),(5,.box 177 false [.mp 13]),(2,.box 25 true [.p FQ f]),(101,.arr 3 T3 o),(13,.mapo T3 T3 (mOf o)),(4,.box 25 true [.raw (.slice none 0 0)])]⟩) (λk=>L.length-k.1) ⟨0,by omega⟩ (eW [(51,.nm 51),(8,.nm 8),(20,.nm 20),(5,.nm 5),(2,.nm 2),(101,.nm 101),(13,.nm 13),(4,.nm 4)]) (λk=>?_)
             ·obtain⟨k,hk⟩:=k;repeat'(first|exact trivial|refine eS rfl ?_|refine AB ?_|refine rX a ?_ ?_|refine rC ?_ ?_<;>intro c<;>try(cases c;done))
              ·exact eV
              ·exact eV
              ·have h:k<L.length:=by exact eV
               have e:=Wf (LJ o) (λb=>b) L (0,0) h (LJ o);refine⟨⟨k+1,by omega⟩,by simp only;omega,AC [(51,.nm 51),(8,.nm 8),(20,.nm 20),(5,.nm 5),(2,.nm 2),(101,.nm 101),(13,.nm 13),(4,.nm 4)] rfl rfl ?_ ?_⟩
               ·refine eM ?_;rw[e.2];rw[<-e.1];unfold LJ;rw[<-A77]
               ·exact eN
              ·exact⟨hn,by exact eV⟩
              ·exact eV
              ·have h:L.take k=L:=As (by exact eV);have y:L.drop k=[]:=By (by exact eV);refine⟨⟨i+1,by omega⟩,by simp only;omega,AC [(8,.nm 8),(20,.nm 20),(5,.nm 5),(2,.nm 2),(101,.nm 101),(13,.nm 13),(4,.nm 4)] rfl rfl ?_ ?_⟩
               ·refine eM ?_;rw[h,y,UO];have e:=A0r (Di (Ds f) o) o 0 (0,[]) l;rw[B,q]at e;rw[<-e,A,As (by simp:(L.map (LJ o)).length<=L.length)]
               ·exact eN
      ·have hk:o.take i=o:=As (by exact eV);have D:o.length-i=0:=by exact eV
       rw[hk,D];exact fI a [.cell 4 25] (by simp only[List.replicate_zero,UO];first|exact eR|refine YM ?_;exact As (by rw[Of];exact eV))
theorem dC:Ab Tryz.prog 149 Dg:=by
 refine⟨SK.1,λw O h ds d g hp=>?_⟩;obtain⟨f,n,u⟩:=ds;obtain⟨h1,a,b,c⟩:=hp;have key:=SK.2 w O h (f,n,u) d g ⟨h1,A9o a,b,c⟩;have e:Qu.out (f,n,u)=Dg.out (f,n,u):=by
  show [RV.p Da (AN (Ds f) n)]=[RV.p Da (AN f n)];rw[A0o a]
 rw[e]at key;exact key
theorem A3t:Ab Tryz.prog 128 Dg:=by
 refine fK [0,1,2,4] Tryz.func128 Tryz.ntmps128 (AF dC AG) ?_;rintro w0 O0 ⟨f,root,u⟩ a-hp;simp only[Dg,AL];repeat'(first|exact trivial|refine eS rfl ?_|refine AB ?_|refine rX a ?_ ?_|refine rC ?_ ?_<;>intro b<;>try(cases b;done))
 ·exact hp
 ·exact fI a [.cell 4 25]
end
section
attribute [local go_sem] HD iX
theorem jK {a b:Int}:F0 a b=0↔a=b:=by
 unfold F0;split
 ·constructor<;>intro h<;>omega
 ·split
  ·constructor<;>intro h<;>omega
  ·exact⟨λ_=>by omega,λ_=>rfl⟩
def YY:List Int->Int
 | []=>0
 | x :: l=>if x=0 then YY l else x
theorem jL {l:List Int} {k:Nat} (h:k<l.length):YY (l.drop k)=if l.getD k 0=0 then YY (l.drop (k+1)) else l.getD k 0:=by
 rw[TO h];have e:l.getD k 0=l[k]:=by simp[AS,h]
 rw[e];rfl
def n9:Aa:={ ins:=[Ft],pre:=λ_=>True,out:=λ(l,_)=>[.p T3 (YY l)],lend:=true }
attribute [local go_sem] n9
theorem jM:Ab Tryz.prog 225 n9:=by
 refine fK [0,2,3,5,6,7,8,9,14] Tryz.func225 Tryz.ntmps225 AG ?_;rintro w0 O0 ⟨l,u⟩ c ⟨⟨f,-⟩,-⟩ -;simp only[AP]at f;simp only[n9,AL];repeat'(first|exact trivial|refine eS rfl ?_|refine AB ?_|refine rX c ?_ ?_|refine rC ?_ ?_<;>intro b<;>try(cases b;done))
 refine AJ (ι:={k:Nat//k<=List.length l/\YY l=YY ((l:List Int).drop k)}) (λk=>⟨[(3,.p T3 0),(6,.p Ft l),(7,.p (.int .i64) (List.length l:Int)),(8,.p (.int .i64) (k.1:Int))],[]⟩) (λk=>List.length l-k.1) ⟨0,IS _,rfl⟩ (AC [] rfl rfl ?_ ?_) (λk=>?_)
 ·first|exact eN|refine eM ?_
 ·first|exact eN|refine eM ?_
 ·obtain⟨k,hk,a⟩:=k;repeat'(first|exact trivial|refine eS rfl ?_|refine AB ?_|refine rX c ?_ ?_|refine rC ?_ ?_<;>intro b<;>try(cases b;done))
  ·exact b
  ·have d:k<List.length l:=by exact eV
   rw[jL d,An b]at a;exact fI c [.tmp 2] (by rw[a];exact eR)
  ·exact eV
  ·have d:k<List.length l:=by exact eV
   rw[jL d,BY (by simpa using b)]at a;refine⟨⟨k+1,d,a⟩,by simp only;omega,AC [] rfl rfl ?_ ?_⟩
   ·first|exact eN|refine eM ?_
   ·first|exact eN|refine eM ?_
  ·have e:List.drop k (l:List Int)=[]:=By (by exact eV);rw[e]at a;have a:YY l=0:=a;exact fI c [.tmp 2] (by rw[a];exact eR)
def HN {α:Type} (c:α->α->Int):List α->List α->Int
 | [],[]=>0
 | [],_ :: _=>-1
 | _ :: _,[]=>1
 | x :: p,y :: q=>if c x y=0 then HN c p q else c x y
theorem KH {α:Type} {c:α->α->Int} (d:∀a b,c a b=0↔a=b):∀ {p q:List α},HN c p q=0↔p=q
 | [],[]=>⟨λ_=>rfl,λ_=>rfl⟩
 | [],_ :: _=>⟨λh=>by simp[HN]at h,λh=>by cases h⟩
 | _ :: _,[]=>⟨λh=>by simp[HN]at h,λh=>by cases h⟩
 | x :: p,y :: q=>by
  unfold HN;split
  ·rename_i h;rw[KH d,(d x y).1 h];exact⟨λe=>by rw[e],λe=>(List.cons.inj e).2⟩
  ·rename_i h;exact⟨λe=>absurd e h,λe=>absurd ((d x y).2 (List.cons.inj e).1) h⟩
theorem Mi {α:Type} (d:α) {l:List α} {k:Nat} (h:k<l.length):l.drop k=l.getD k d :: l.drop (k+1):=by
 rw[TO h];have e:l.getD k d=l[k]:=by simp[AS,h]
 rw[e]
theorem NY {α:Type} {c:α->α->Int} (d:α) {p q:List α} {k:Nat} (h1:k<p.length) (a:k<q.length):HN c (p.drop k) (q.drop k)=if c (p.getD k d) (q.getD k d)=0 then HN c (p.drop (k+1)) (q.drop (k+1)) else c (p.getD k d) (q.getD k d):=by
 rw[Mi d h1,Mi d a];rfl
def Fd (a b:Int×Int):Int:=YY [F0 a.1 b.1,F0 a.2 b.2]
theorem TQ (a b:Int×Int):Fd a b=0↔a=b:=by
 unfold Fd YY YY YY;constructor
 ·intro h;by_cases h1:F0 a.1 b.1=0
  ·rw[BY h1]at h;by_cases c:F0 a.2 b.2=0
   ·exact AFC (jK.1 h1) (jK.1 c)
   ·rw[An c]at h;exact absurd h c
  ·rw[An h1]at h;exact absurd h h1
 ·rintro rfl;rw[BY (jK.2 rfl),BY (jK.2 rfl)]
def dE:Aa:={ ins:=[AU,AU],pre:=λ_=>True,out:=λ(a,b,_)=>[.p T3 (Fd a b)] }
attribute [local go_sem] dE
theorem A0s:Ab Tryz.prog 227 dE:=by
 refine qJ [0,1,2,3,4] [15] [] Tryz.func227 Tryz.ntmps227 (AF Gp (AF jM AG)) ?_;rintro w0 O0 ⟨a,b,u⟩ c - -;simp only[dE,AL];repeat'(first|exact trivial|refine eS rfl ?_|refine AB ?_|refine rX c ?_ ?_|refine rC ?_ ?_<;>intro d<;>try(cases d;done))
 exact fI c [.tmp 4] (by unfold Fd;exact eR)
theorem A0t (p q:List (Int×Int)) (hp:p.length<=100000):BJ Tryz.prog 226 [.p DS p,.p DS q,.fn 227] [] [] (λres i=>res=.p T3 (HN Fd p q)/\i=[]):=by
 refine Kv [0,1,2,6,7,8,9,10,11,12,13,14,21,31,38] [] [] Tryz.func226 Tryz.ntmps226 (AF A0s AG) ?_;intro w0 K O0 ρ0 c m n;simp only[Ar];repeat'(first|exact trivial|refine eS rfl ?_|refine AB ?_|refine rX c ?_ ?_|refine rC ?_ ?_<;>intro a<;>try(cases a;done))
 refine AJ (ι:={k:Nat//k<=p.length/\k<=q.length/\HN Fd p q=HN Fd (p.drop k) (q.drop k)}) (λk=>⟨[(0,.p DS p),(1,.p DS q),(2,.fn 227),(11,.p DS p),(12,.p (.int .i64) (p.length:Int)),(13,.p (.int .i64) (k.1:Int))],[]⟩) (λk=>p.length-k.1) ⟨0,IS _,IS _,rfl⟩ (AC [] rfl rfl ?_ ?_) (λk=>?_)
 ·first|exact eN|refine eM ?_
 ·first|exact eN|refine eM ?_
 ·obtain⟨k,j,l,b⟩:=k;simp only;repeat'(first|exact trivial|refine eS rfl ?_|refine AB ?_|refine rX c ?_ ?_|refine rC ?_ ?_<;>intro a<;>try(cases a;done))
  ·exact a
  ·have d:k<p.length:=by exact eV
   have g:q.drop k=[]:=By (by exact eV);have h1:HN Fd p q=1:=by
    rw[b,g,Mi (0,0) d];rfl
   refine Ev.ent (σ':=⟨[(6,.p T3 1)],[]⟩) (fM c [.tmp 6] (.p T3 1) eT ⟨by rw[h1],rfl⟩) (AC [] rfl rfl ?_ ?_)
   ·first|exact eN|refine eM ?_
   ·first|exact eN|refine eM ?_
  ·exact a
  ·have d:k<p.length:=by exact eV
   have e:k<q.length:=by exact eV
   rw[NY (0,0) d e,An a]at b;refine Ev.ent (σ':=⟨[(6,.p T3 (Fd (p.getD k (0,0)) (q.getD k (0,0))))],[]⟩) (fM c [.tmp 6] (.p T3 (Fd (p.getD k (0,0)) (q.getD k (0,0)))) eT ⟨by rw[b],rfl⟩) (AC [] rfl rfl ?_ ?_)
   ·first|exact eN|refine eM ?_
   ·first|exact eN|refine eM ?_
  ·exact eV
  ·have d:k<p.length:=by exact eV
   have e:k<q.length:=by exact eV
   rw[NY (0,0) d e,BY (by simpa using a)]at b;refine⟨⟨k+1,d,e,b⟩,by simp only;omega,AC [] rfl rfl ?_ ?_⟩
   ·first|exact eN|refine eM ?_
   ·first|exact eN|refine eM ?_
  ·have f:p.drop k=[]:=By (by exact eV);have h1:HN Fd p q=-1:=by
    rw[b,f,Mi (0,0) (show k<q.length by exact eV)];rfl
   exact fM c [.tmp 6] (.p T3 (-1)) eT ⟨by rw[h1],rfl⟩
  ·have f:p.drop k=[]:=By (by exact eV);have h:q.drop k=[]:=By (by exact eV);have h1:HN Fd p q=0:=by
    rw[b,f,h];rfl
   exact fM c [.tmp 6] (.p T3 0) eT ⟨by rw[h1],rfl⟩
def Dl (a b:AD):Int:=if YY [F0 a.1 b.1,F0 (a.2.length:Int) (b.2.length:Int)]=0 then HN Fd a.2 b.2 else YY [F0 a.1 b.1,F0 (a.2.length:Int) (b.2.length:Int)]
theorem Qv (a b:AD):Dl a b=0↔a=b:=by
 unfold Dl;constructor
 ·intro h;split at h
  ·rename_i h1;unfold YY YY YY at h1;by_cases c:F0 a.1 b.1=0
   ·exact AFC (jK.1 c) ((KH TQ).1 h)
   ·rw[An c]at h1;exact absurd h1 c
  ·rename_i h1;exact absurd h h1
 ·rintro rfl;have h1:YY [F0 a.1 a.1,F0 (a.2.length:Int) (a.2.length:Int)]=0:=by
   unfold YY YY YY;rw[BY (jK.2 rfl),BY (jK.2 rfl)]
  rw[BY h1];exact(KH TQ).2 rfl
def Qw:Aa:={ ins:=[Ls,Ls],pre:=λ(a,_,_)=>List.length (Prod.snd (a:AD))<=100000,out:=λ(a,b,_)=>[.p T3 (Dl a b)] }
attribute [local go_sem] Qw
theorem oA:Ab Tryz.prog 210 Qw:=by
 refine qJ [0,1,2,3,4,5,21] [18] [] Tryz.func210 Tryz.ntmps210 (AF Gp (AF jM AG)) ?_;rintro w0 O0 ⟨⟨ta,la⟩,⟨tb,b⟩,u⟩ a-ha;have ha:List.length la<=100000:=ha;simp only[Qw,AL];repeat'(first|exact trivial|refine eS rfl ?_|refine AB ?_|refine rX a ?_ ?_|refine rC ?_ ?_<;>intro c<;>try(cases c;done))
 ·have h1:Dl (ta,la) (tb,b)=YY [F0 ta tb,F0 (List.length la:Int) (List.length b:Int)]:=An c;exact fI a [.tmp 4] (by rw[h1];exact eR)
 ·have h1:Dl (ta,la) (tb,b)=HN Fd la b:=BY (by simpa using c);refine cP 4 a ?_ ?_
  ·trivial
  ·refine rM a (A0t la b ha) [] [] ?_ ?_ ?_
   ·first|exact eN|refine eM ?_
   ·first|exact eN|refine eM ?_
   ·rintro _ _ ⟨rfl,rfl⟩;refine⟨[],.p T3 (HN Fd la b),[],rfl,rfl,?_,?_,rfl,rfl,?_⟩
    ·first|exact eN|refine eM ?_
    ·first|exact eN|refine eM ?_
    ·refine rL a ?_ ?_
     ·trivial
     ·repeat'(first|exact trivial|refine eS rfl ?_|refine AB ?_|refine rX a ?_ ?_|refine rC ?_ ?_<;>intro c<;>try(cases c;done))
      exact fI a [.tmp 4] (by rw[h1];exact eR)
end
section
attribute [local go_sem] HD iX Qw Qu
theorem oB (p q:List (AD)) (hp:p.length<=100000) (g:∀x∈p,x.2.length<=100000):BJ Tryz.prog 209 [.p FQ p,.p FQ q,.fn 210] [] [] (λres j=>res=.p T3 (HN Dl p q)/\j=[]):=by
 refine Kv [0,1,2,6,7,8,9,10,11,12,13,14,21,31,38] [] [] Tryz.func209 Tryz.ntmps209 (AF oA AG) ?_;intro w0 K O0 ρ0 b n o;simp only[Ar];repeat'(first|exact trivial|refine eS rfl ?_|refine rX b ?_ ?_)
 refine AJ (ι:={k:Nat//k<=p.length/\k<=q.length/\HN Dl p q=HN Dl (p.drop k) (q.drop k)}) (λk=>⟨[(0,.p FQ p),(1,.p FQ q),(2,.fn 210),(11,.p FQ p),(12,.p (.int .i64) (p.length:Int)),(13,.p (.int .i64) (k.1:Int))],[]⟩) (λk=>p.length-k.1) ⟨0,IS _,IS _,rfl⟩ (eW []) (λk=>?_)
 ·obtain⟨k,l,m,a⟩:=k;simp only;repeat'(first|exact trivial|refine eS rfl ?_|refine AB ?_|refine rX b ?_ ?_|refine rC ?_ ?_<;>intro d<;>try(cases d;done))
  ·exact d
  ·have c:k<p.length:=by exact eV
   have h:q.drop k=[]:=By (by exact eV);have h1:HN Dl p q=1:=by
    rw[a,h,Mi (0,[]) c];rfl
   exact Ev.ent (σ':=⟨[(6,.p T3 1)],[]⟩) (fM b [.tmp 6] (.p T3 1) eT ⟨by rw[h1],rfl⟩) (eW [])
  ·exact d
  ·exact g _ (AE p (0,[]) (by exact eV))
  ·have c:k<p.length:=by exact eV
   have e:k<q.length:=by exact eV
   rw[NY (0,[]) c e,An d]at a;exact Ev.ent (σ':=⟨[(6,.p T3 (Dl (p.getD k (0,[])) (q.getD k (0,[]))))],[]⟩) (fM b [.tmp 6] (.p T3 (Dl (p.getD k (0,[])) (q.getD k (0,[])))) eT ⟨by rw[a],rfl⟩) (eW [])
  ·exact eV
  ·have c:k<p.length:=by exact eV
   have e:k<q.length:=by exact eV
   rw[NY (0,[]) c e,BY (by simpa using d)]at a;exact⟨⟨k+1,c,e,a⟩,by simp only;omega,eW []⟩
  ·have f:p.drop k=[]:=By (by exact eV);have h1:HN Dl p q=-1:=by
    rw[a,f,Mi (0,[]) (show k<q.length by exact eV)];rfl
   exact fM b [.tmp 6] (.p T3 (-1)) eT ⟨by rw[h1],rfl⟩
  ·have f:p.drop k=[]:=By (by exact eV);have i:q.drop k=[]:=By (by exact eV);have h1:HN Dl p q=0:=by
    rw[a,f,i];rfl
   exact fM b [.tmp 6] (.p T3 0) eT ⟨by rw[h1],rfl⟩
def TR (a b:List AD):Int:=if F0 (a.length:Int) (b.length:Int)=0 then HN Dl a b else F0 (a.length:Int) (b.length:Int)
theorem oC (a b:List AD):TR a b=0↔a=b:=by
 unfold TR;constructor
 ·intro h;split at h
  ·exact(KH Qv).1 h
  ·rename_i h1;exact absurd h h1
 ·rintro rfl;rw[BY (jK.2 rfl)];exact(KH Qv).2 rfl
def oD:Aa:={ ins:=[Da,Da],pre:=λ(a,_,_)=>Cz a,out:=λ(a,b,_)=>[.p T3 (TR a b)] }
attribute [local go_sem] oD
theorem A3u:Ab Tryz.prog 169 oD:=by
 refine fK [0,1,2,3,4,5,14] Tryz.func169 Tryz.ntmps169 (AF Gp AG) ?_;rintro w0 O0 ⟨a,b,u⟩ c-⟨e,f⟩;simp only[oD,AL];repeat'(first|exact trivial|refine eS rfl ?_|refine rX c ?_ ?_|refine rC ?_ ?_<;>intro d<;>try(cases d;done))
 ·have h1:TR a b=F0 (List.length a:Int) (List.length b:Int):=An d;exact fI c [.tmp 4] (by rw[h1];exact eR)
 ·have h1:TR a b=HN Dl a b:=BY (by simpa using d);refine cP 4 c ?_ ?_
  ·trivial
  ·refine rM c (oB a b e f) [] [] ?_ ?_ ?_
   ·exact eN
   ·exact eN
   ·rintro _ _ ⟨rfl,rfl⟩;refine⟨[],.p T3 (HN Dl a b),[],rfl,rfl,?_,?_,rfl,rfl,?_⟩
    ·exact eN
    ·exact eN
    ·refine rL c ?_ ?_
     ·trivial
     ·repeat' refine eS rfl ?_
      exact fI c [.tmp 4] (by rw[h1];exact eR)
def Uu:Aa:={ ins:=[Da,Da],pre:=λ(a,_,_)=>Cz a,out:=λ(a,b,_)=>[.p .bool (TR a b==0)] }
attribute [local go_sem] Uu
theorem A0u:Ab Tryz.prog 122 Uu:=by
 refine fK [0,1,2,3,4] Tryz.func122 Tryz.ntmps122 (AF A3u AG) ?_;rintro w0 O0 ⟨a,b,u⟩ c-ha;simp only[Uu,AL];repeat'(first|exact trivial|refine eS rfl ?_|refine rX c ?_ ?_)
 ·exact ha
 ·exact fI c [.tmp 4]
def jN (l:List (Int×Int)):List (Int×Bool):=l.foldl (λm a=>GM T3 .bool a.1 true m) []
theorem W9 {b:Ty} (x k:Int) (v:b.den) (m:List (Int×b.den)):Be T3 b x (GM T3 b k v m)=if x=k then some v else Be T3 b x m:=by
 induction m with
 | nil=>simp[GM,Be,Hj]
 | cons y m g =>
  simp only[GM];by_cases c:Hj T3 k y.1=true
  ·rw[BY c];have d:k=y.1:=by simpa[Hj] using c
   simp only[Be,Hj,YD];by_cases a:x=k
   ·rw[BY a,BY a]
   ·rw[An a,An a,An (by rw[<-d];exact a)]
  ·rw[An c];have d:¬k=y.1:=by simpa[Hj] using c
   simp only[Be];by_cases a:Hj T3 x y.1=true
   ·have f:x=y.1:=by simpa[Hj] using a
    rw[BY a,BY a,An (by rw[f];exact λe=>d e.symm)]
   ·rw[An a,An a,g]
theorem A0v (x:Int) (l:List (Int×Int)):(Be T3 .bool x (jN l)).getD false=l.any λy=>y.1==x:=by
 induction l using EV with
 | h0=>rfl
 | h1 l a c =>
  have e:jN (l++[a])=GM T3 .bool a.1 true (jN l):=by unfold jN;rw[AEx];rfl
  rw[e,W9,AEC,<-c];by_cases h:x=a.1
  ·rw[BY h,h];simp
  ·rw[An h];have b:¬a.1=x:=λe=>h e.symm;simp[b]
def GG (x:AD) (n:Int):Int:=if x.1<0 then 2 else IQ x.2 n
def XA:Aa:={ ins:=[Ls,T3],pre:=λ_=>True,out:=λ(x,n,_)=>[.p Lr (GG x n)] }
attribute [local go_sem] XA
theorem oE:Ab Tryz.prog 148 XA:=by
 refine fK [0,1,2,4,5,7,10,13,14,15,16,32,36] Tryz.func148 Tryz.ntmps148 AG ?_;rintro w0 O0 ⟨⟨t,l⟩,n,u⟩ d ⟨⟨-,⟨o,-⟩⟩,-⟩ -;simp only[AP]at o;simp only[XA,AL];repeat'(first|exact trivial|refine eS rfl ?_|refine rX d ?_ ?_|refine rC ?_ ?_<;>intro b<;>try(cases b;done))
 ·have h1:GG (t,l) n=2:=BY b;exact fI d [.tmp 4] (by rw[h1];exact eR)
 ·have h0:GG (t,l) n=G9 n [] l:=An (AAb.2 b);rw[h0];refine AJ (ι:={k:Nat//k<=List.length l/\G9 n [] l=G9 n ((l:List (Int×Int)).take k) ((l:List (Int×Int)).drop k)}) (λk=>⟨[(1,.p T3 n),(5,.mp 11),(13,.p DS l),(14,.p (.int .i64) (List.length l:Int)),(15,.p (.int .i64) (k.1:Int))],[(11,.mapo T3 .bool (jN ((l:List (Int×Int)).take k.1)))]⟩) (λk=>List.length l-k.1) ⟨0,IS _,rfl⟩ (AC [(11,.nm 11)] rfl rfl ?_ ?_) (λk=>?_)
  ·refine eM ?_;rfl
  ·exact eN
  ·obtain⟨k,hk,f⟩:=k;have g:=λh:k<l.length=>O8 n l h;have q:=λh:k<l.length=>NW (λ(m:List (Int×Bool)) (a:Int×Int)=>GM T3 .bool a.1 true m) l (0,0) [] h;have i:=λx=>A0v x (List.take k (l:List (Int×Int)));simp only;repeat'(first|exact trivial|refine eS rfl ?_|refine AB ?_|refine rX d ?_ ?_|refine rC ?_ ?_<;>intro b<;>try(cases b;done))
   ·exact b
   ·have c:k<List.length l:=by exact eV
    have e:G9 n [] l=2:=by rw[f,g c,BY (by omega)]
    exact fI d [.tmp 4] (by rw[e];exact eR)
   ·have c:k<List.length l:=by exact eV
    rw[i]at b;have e:G9 n [] l=4:=by rw[f,g c,An (by omega),BY b]
    exact fI d [.tmp 4] (by rw[e];exact eR)
   ·exact eV
   ·have c:k<List.length l:=by exact eV
    rw[i]at b;refine⟨⟨k+1,c,by rw[f,g c,An (by omega),An (by rw[b];simp)]⟩,by simp only;omega,AC [(11,.nm 11)] rfl rfl ?_ ?_⟩
    ·refine eM ?_;exact(q c).symm
    ·exact eN
   ·have j:List.drop k (l:List (Int×Int))=[]:=By (by exact eV);have e:G9 n [] l=0:=by rw[f,j];rfl
    exact fI d [.tmp 4] (by rw[e];exact eR)
theorem jO {n:Int}:∀ {l seen:List (Int×Int)},G9 n seen l=0->(∀a∈l,∀b∈seen,b.1≠a.1)/\NdA l
 | [],_,_=>⟨λa ha=>(by cases ha),List.Pairwise.nil⟩
 | x :: l,seen,h=>by
  simp only[G9]at h;split at h
  ·cases h
  ·split at h
   ·cases h
   ·rename_i h1 g;obtain⟨c,f⟩:=jO h;refine⟨λa ha b d=>?_,UW.2 ⟨λa ha e=>c a ha x (by simp) e,f⟩⟩;rcases DO.1 ha with rfl|ha
    ·intro e;exact g (UF.2 ⟨b,d,by simp[e]⟩)
    ·exact c a ha b (by simp[d])
theorem jP {m:Int}:∀ {f:List AD},HA m f=0->∀x∈f,NdA x.2
 | [],_,x,b=>by cases b
 | y :: f,h,x,b=>by
  simp only[HA]at h;split at h
  ·cases h
  ·split at h
   ·rename_i h1 a;exact absurd h a
   ·rename_i h1 a;have a:IQ y.2 m=0:=Do a;rcases DO.1 b with rfl|b
    ·exact(jO a).2
    ·exact jP h x b
def TS (f:List AD):Prop:=∀x∈f,x.2.length<=200
theorem jQ {f:List AD} (h:CJ f=0) (hs:TS f):NdF f:=by
 unfold CJ at h;split at h
 ·cases h
 ·split at h
  ·cases h
  ·exact λx a=>⟨jP h x a,hs x a⟩
def Qx:Aa:={ ins:=[Da],pre:=λ(f,_)=>TS f,out:=λ(f,_)=>[.p Da (BG f).1,.p Lr (BG f).2] }
attribute [local go_sem] Qx
theorem A0w:Ab Tryz.prog 107 Qx:=by
 refine fK [0,1,2,3,5,6,10,15,18,19,20,21,30] Tryz.func107 Tryz.ntmps107 (AF oE (AF SK AG)) ?_;rintro w0 O0 ⟨f,u⟩ c ⟨⟨n,-⟩,-⟩ hs;simp only[AP]at n;have hs:TS f:=hs;have l:Wh f:=λx o=>UD (hs x o) (by omega);simp only[Qx,AL];repeat'(first|exact trivial|refine eS rfl ?_|refine rX c ?_ ?_|refine rC ?_ ?_<;>intro a<;>try(cases a;done))
 ·have h1:CJ f=1:=by
   have h:f.length=0:=by exact eV
   unfold CJ;rw[BY h]
  have e:BG f=([],1):=by unfold BG;rw[h1];rfl
  exact fI c [.cell 2 25,.tmp 3] (by rw[e];exact eR)
 ·have h1:CJ f=7:=by
   have h:¬f.length=0:=by exact eV
   have i:4096<f.length:=by exact eV
   unfold CJ;rw[An h,BY i]
  have e:BG f=([],7):=by unfold BG;rw[h1];rfl
  exact fI c [.cell 2 25,.tmp 3] (by rw[e];exact eR)
 ·have h1:CJ f=HA f.length f:=by
   have h:¬f.length=0:=by exact eV
   have i:¬4096<f.length:=by exact eV
   unfold CJ;rw[An h,An i]
  have j:0<f.length:=by exact eV
  refine AJ (ι:={k:Nat//k<=f.length/\HA f.length (f.drop k)=CJ f}) (λk=>⟨[(1,.bp 1 [] 0),(2,.bp 2 [] 0),(18,.p FQ f),(19,.p (.int .i64) (f.length:Int)),(20,.p (.int .i64) (k.1:Int))],[(1,.box 25 true [.p FQ f]),(2,.box 25 true [.raw (.slice none 0 0)])]⟩) (λk=>f.length-k.1) ⟨0,by simp[h1]⟩ (eW [(1,.nm 1),(2,.nm 2)]) (λk=>?_)
  ·obtain⟨k,hk,hf⟩:=k;simp only;repeat'(first|exact trivial|refine eS rfl ?_|refine AB ?_|refine rX c ?_ ?_|refine rC ?_ ?_<;>intro a<;>try(cases a;done))
   ·exact a
   ·have g:k<f.length:=by exact eV
    have a:¬GG (f.getD k (0,[])) f.length=0:=a;have m:CJ f=GG (f.getD k (0,[])) f.length:=by
     rw[<-hf,IR _ _ g];unfold GG at a ⊢;by_cases b:(f.getD k (0,[])).1<0
     ·rw[BY b,BY b]
     ·rw[An b]at a;rw[An b,An b,BY a]
    have e:BG f=([],GG (f.getD k (0,[])) f.length):=by unfold BG;rw[m,An a]
    exact fI c [.cell 2 25,.tmp 3] (by rw[e];exact eR)
   ·exact eV
   ·have g:k<f.length:=by exact eV
    have a:GG (f.getD k (0,[])) f.length=0:=by simpa using a
    refine⟨⟨k+1,g,?_⟩,by simp only;omega,AC [(1,.nm 1),(2,.nm 2)] rfl rfl ?_ ?_⟩
    ·rw[<-hf,IR _ _ g];unfold GG at a;by_cases b:(f.getD k (0,[])).1<0
     ·rw[BY b]at a;cases a
     ·rw[An b]at a;rw[An b,An (by rw[a];simp)]
    ·exact eN
    ·exact eN
   ·have d:CJ f=0:=by rw[<-hf,By (by exact eV)];rfl
    exact⟨(IW d l).1,jQ d hs,IN.2 j⟩
   ·have d:CJ f=0:=by rw[<-hf,By (by exact eV)];rfl
    have e:BG f=(AN (Ds f) 0,0):=by unfold BG;rw[BY d,jI (IW d l).1 (jQ d hs) (AEu 0) (IN.2 j)]
    exact fI c [.cell 2 25,.tmp 3] (by rw[e];exact eR)
end
def Lh (h:AH) (f:Int):Int:=(h.2.getD f.toNat (ByteArray.empty,0)).2
def Mj (h:AH) (n:Int):List (Int×Int)->Eb->Option Eb
 | [],s=>some s
 | a :: l,s=>(DJ h s n (Lh h a.1)).bind (Mj h n l)
def Np (h:AH) (n:Int):List (Int×Int)->Eb->Option Eb
 | [],s=>some s
 | a :: l,s=>if (CB h (s.1.getD n.toNat 0) a.1).2=true then (DJ h s a.2 (CB h (s.1.getD n.toNat 0) a.1).1).bind (Np h n l) else none
def Li (h:AH) (f:List AD) (n:Int) (s:Eb):Option Eb:=(Mj h n (f.getD n.toNat (0,[])).2 s).bind (Np h n (f.getD n.toNat (0,[])).2)
def wlF (h:AH) (f:List AD):Nat->Nat->Eb->Option (List Int)
 | 0,_,_=>none
 | k+1,i,s=>if i<s.2.length then (Li h f (s.2.getD i 0) s).bind (wlF h f k (i+1)) else some s.1
def Bd (f:List AD):List Int:=f.map λx=>x.1
def Eg (f:List AD):List Int:=(List.range f.length).map λi:Nat=>(i:Int)
def FC (f:List AD) (ty:List Int):List AD:=(List.range f.length).map λi=>(ty.getD i 0,(f.getD i (0,[])).2)
structure eI (h:AH):Prop where
 int:∀x∈h.2,0<=x.2/\x.2<(h.1.length:Int)
 val:∀t∈h.1,∀p∈t.2.2.2,0<=p.2/\p.2<(h.1.length:Int)
structure Nq (h:AH) (m:Nat) (s:Eb):Prop where
 len:s.1.length=m
 ty:∀t∈s.1,0<=t/\t<(h.1.length:Int)
 wt:∀n∈s.2,0<=n/\n<(m:Int)
theorem Nq.get {h:AH} {m:Nat} {s:Eb} (hs:Nq h m s) {n:Int} (n0:0<=n) (n1:n<(m:Int)):0<=s.1.getD n.toNat 0/\s.1.getD n.toNat 0<(h.1.length:Int):=by
 have a:n.toNat<s.1.length:=by rw[hs.len];omega
 rw[AS,At a];exact hs.ty _ (nO a)
def A0x (h:AH) (t:Int):Nat:=((List.range h.1.length).filter λi:Nat=>BA h t (i:Int)).length
def Zi (h:AH) (ty:List Int):Nat:=(ty.map (A0x h)).sum
theorem Zj {α:Type} {p q:α->Bool}:∀ {l:List α},(∀x∈l,q x=true->p x=true)->(∃b∈l,p b=true/\q b=false)->(l.filter q).length<(l.filter p).length
 | [],_,⟨b,c,_⟩=>by cases c
 | x :: l,h1,⟨b,c,f,g⟩=>by
  have i:∀ {l:List α},(∀x∈l,q x=true->p x=true)->(l.filter q).length<=(l.filter p).length:=by
   intro l h;induction l with
   | nil=>exact NO _
   | cons y l j =>
    have e:=j λz d=>h z (OF _ d);rw[dO,dO];by_cases a:q y=true
    ·rw[BY a,BY (h y (by simp) a)];simp only[OS];omega
    ·rw[An a];split
     ·simp only[OS];omega
     ·exact e
  rw[dO,dO];rcases DO.1 c with rfl|c
  ·rw[An (by rw[g];simp),BY f];have:=i λz d=>h1 z (OF _ d);simp only[OS];omega
  ·have e:=Zj (λz d=>h1 z (OF _ d)) ⟨b,c,f,g⟩;by_cases a:q x=true
   ·rw[BY a,BY (h1 x (by simp) a)];simp only[OS];omega
   ·rw[An a];split
    ·simp only[OS];omega
    ·exact e
theorem Uv {h:AH} (hk:GL h) {a:Int} (b:0<=a) (c:a<(h.1.length:Int)):BA h a a=true:=(B3 hk b c b c).2 λ_ h=>h
theorem Hb {h:AH} (hk:GL h) {a b c:Int} (d:0<=a) (e:a<(h.1.length:Int)) (f:0<=b) (b1:b<(h.1.length:Int)) (c0:0<=c) (c1:c<(h.1.length:Int)) (h1:BA h a b=true) (g:BA h b c=true):BA h a c=true :=
 (B3 hk d e c0 c1).2 λi hi=>(B3 hk d e f b1).1 h1 i ((B3 hk f b1 c0 c1).1 g i hi)
theorem A7k {h:AH} (hk:GL h) (hi:Lq h) {a m:Int} (b:0<=a) (c:a<(h.1.length:Int)) (f:0<=m) (g:m<(h.1.length:Int)) (hs:BA h a m=true) (i:m≠a):A0x h m<A0x h a:=by
 refine Zj (λx d e=>?_) ⟨a.toNat,UM.2 (by omega),?_,?_⟩
 ·have d:=UM.1 d;exact Hb hk b c f g (oF _) (by omega) hs e
 ·rw[ADu b];exact Uv hk b c
 ·rw[ADu b];cases e:BA h m a with
  | false=>rfl
  | true=>exact absurd (hi m a f g b c e hs) i
theorem xJ {α:Type} (g:α->Nat) (d:α):∀ {l:List α} {i:Nat} {v:α},i<l.length->((l.set i v).map g).sum+g (l.getD i d)=(l.map g).sum+g v
 | [],i,v,h=>by simp at h
 | x :: l,0,v,h=>by simp only[AEO,UQ,List.sum_cons,List.getD_cons_zero];omega
 | x :: l,i+1,v,h=>by
  have:=xJ g d (l:=l) (i:=i) (v:=v) (by simpa using h);simp only[AFf,UQ,List.sum_cons,List.getD_cons_succ];omega
theorem E8 {h:AH} (hk:GL h) (hi:Lq h) {m:Nat} {s b:Eb} (hs:Nq h m s) {n t:Int} (n0:0<=n) (n1:n<(m:Int)) (o:0<=t) (p:t<(h.1.length:Int)) (e:DJ h s n t=some b) :
  Nq h m b/\Zi h b.1+b.2.length<=Zi h s.1+s.2.length/\s.2.length<=b.2.length:=by
 obtain⟨c,d⟩:=hs.get n0 n1;unfold DJ at e;split at e
 ·rename_i j;obtain⟨f,g,l,r⟩:=(Me hk c d o p).1 j;generalize (Bo h (s.1.getD n.toNat 0) t).1=v at *;injection e with e
  split at e
  ·subst e;exact⟨hs,NO _,NO _⟩
  ·rename_i k;subst e;have q:=A7k hk hi c d f g l k;have i:n.toNat<s.1.length:=by rw[hs.len];omega
   have hp:=xJ (A0x h) 0 (v:=v) i;refine⟨⟨by simp only[YG];exact hs.len,λx a=>?_,λx a=>?_⟩,?_,by simp⟩
   ·rcases AE6 a with a|rfl
    ·exact hs.ty x a
    ·exact⟨f,g⟩
   ·rcases No.1 a with a|a
    ·exact hs.wt x a
    ·rw[YB.1 a];exact⟨n0,n1⟩
   ·unfold Zi;simp only[GO,To];omega
 ·cases e
def Lj (h:AH) (m:Nat) (a:Int×Int):Prop:=(0<=a.1/\a.1<(h.2.length:Int))/\0<=a.2/\a.2<(m:Int)
theorem Mk {h:AH} (hf:eI h) {f:Int} (b:0<=f) (c:f<(h.2.length:Int)):0<=Lh h f/\Lh h f<(h.1.length:Int):=by
 have a:f.toNat<h.2.length:=by omega
 unfold Lh;rw[AS,At a];exact hf.int _ (nO a)
theorem Zk {f:Int}:∀ {l:List (Int×Int)},(EK f l).2=true->(f,(EK f l).1)∈l
 | [],h=>by cases h
 | x :: l,h=>by
  unfold EK at h ⊢;split
  ·rename_i e;rw[<-e];simp
  ·rename_i e;rw[An e]at h;exact OF _ (Zk h)
theorem A0y {h:AH} {t:Int} (a:0<=t) (b:t<(h.1.length:Int)):h.1.getD t.toNat TN∈h.1:=AE h.1 TN (by omega)
theorem HE {h:AH} (hf:eI h) {t f:Int} (a:0<=t) (b:t<(h.1.length:Int)) (e:(CB h t f).2=true):0<=(CB h t f).1/\(CB h t f).1<(h.1.length:Int) :=
 hf.val _ (A0y a b) _ (Zk e)
theorem Qy {h:AH} (hk:GL h) (hi:Lq h) (hf:eI h) {m:Nat} {n:Int} (n0:0<=n) (n1:n<(m:Int)):∀ {l:List (Int×Int)} {s c:Eb},(∀a∈l,Lj h m a)->Nq h m s->Mj h n l s=some c ->
  Nq h m c/\Zi h c.1+c.2.length<=Zi h s.1+s.2.length/\s.2.length<=c.2.length
 | [],s,c,_,hs,e=>by
  injection e with e
  subst e;exact⟨hs,NO _,NO _⟩
 | a :: l,s,c,f,hs,e=>by
  unfold Mj at e;cases d:DJ h s n (Lh h a.1) with
  | none=>rw[d]at e;cases e
  | some s1 =>
   rw[d]at e;obtain⟨⟨g,i⟩,-⟩:=f a (by simp);obtain⟨o,p⟩:=Mk hf g i;obtain⟨j,r,t⟩:=E8 hk hi hs n0 n1 o p d;obtain⟨q,u,v⟩:=Qy hk hi hf n0 n1 (λb k=>f b (by simp[k])) j e;exact⟨q,by omega,by omega⟩
theorem Uw {h:AH} (hk:GL h) (hi:Lq h) (hf:eI h) {m:Nat} {n:Int} (n0:0<=n) (n1:n<(m:Int)):∀ {l:List (Int×Int)} {s c:Eb},(∀a∈l,Lj h m a)->Nq h m s->Np h n l s=some c ->
  Nq h m c/\Zi h c.1+c.2.length<=Zi h s.1+s.2.length/\s.2.length<=c.2.length
 | [],s,c,_,hs,e=>by
  injection e with e
  subst e;exact⟨hs,NO _,NO _⟩
 | a :: l,s,c,g,hs,e=>by
  unfold Np at e;split at e
  ·rename_i o;obtain⟨j,f⟩:=hs.get n0 n1;obtain⟨p,q⟩:=HE hf j f o;cases d:DJ h s a.2 (CB h (s.1.getD n.toNat 0) a.1).1 with
   | none=>rw[d]at e;cases e
   | some s1 =>
    rw[d]at e;obtain⟨-,i,b1⟩:=g a (by simp);obtain⟨f,t,u⟩:=E8 hk hi hs i b1 p q d;obtain⟨r,v,w⟩:=Uw hk hi hf n0 n1 (λb k=>g b (by simp[k])) f e;exact⟨r,by omega,by omega⟩
  ·cases e
def PK (h:AH) (f:List AD):Prop:=∀x∈f,∀a∈x.2,Lj h f.length a
theorem Ml {h:AH} {f:List AD} (ha:PK h f) {n:Int} (n0:0<=n) (n1:n<(f.length:Int)):∀a∈(f.getD n.toNat (0,[])).2,Lj h f.length a:=ha _ (AE f (0,[]) (by omega))
theorem XB {h:AH} (hk:GL h) (hi:Lq h) (hf:eI h) {f:List AD} (ha:PK h f) {n:Int} (n0:0<=n) (n1:n<(f.length:Int)) {s a:Eb} (hs:Nq h f.length s) (e:Li h f n s=some a) :
  Nq h f.length a/\Zi h a.1+a.2.length<=Zi h s.1+s.2.length/\s.2.length<=a.2.length:=by
 unfold Li at e;cases b:Mj h n (f.getD n.toNat (0,[])).2 s with
 | none=>rw[b]at e;cases e
 | some s1 =>
  rw[b]at e;obtain⟨c,g,i⟩:=Qy hk hi hf n0 n1 (Ml ha n0 n1) hs b;obtain⟨d,j,k⟩:=Uw hk hi hf n0 n1 (Ml ha n0 n1) c e;exact⟨d,by omega,by omega⟩
theorem A7l (h:AH) (t:Int):A0x h t<=h.1.length:=by
 unfold A0x;exact UD (YH _ _) (by simp)
theorem A3v (h:AH):∀ty:List Int,Zi h ty<=ty.length*h.1.length
 | []=>by simp[Zi]
 | t :: ty=>by
  have h1:=A3v h ty;have a:=A7l h t;unfold Zi at h1 ⊢;simp only[UQ,List.sum_cons,OS,AET,Nat.one_mul];omega
def OJ (h:AH) (f:List AD):Nat:=f.length*h.1.length+f.length+1
def IZ (h:AH) (f:List AD):Option (List Int):=wlF h f (OJ h f) 0 (Bd f,Eg f)
def Gj (h:AH) (f:List AD):List AD×Bool:=match IZ h f with
 | some ty=>(FC f ty,true)
 | none=>([],false)
theorem A3w {h:AH} {f:List AD} (a:∀x∈f,0<=x.1/\x.1<(h.1.length:Int)):Nq h f.length (Bd f,Eg f):=by
 refine⟨by simp[Bd],λt h1=>?_,λn hn=>?_⟩
 ·obtain⟨x,b,rfl⟩:=IF.1 h1;exact a x b
 ·obtain⟨i,hi,rfl⟩:=IF.1 hn;have:=UM.1 hi;omega
theorem A3x (h:AH) (f:List AD):Zi h (Bd f)+(Eg f).length+1<=OJ h f:=by
 have:=A3v h (Bd f);unfold OJ;rw[show (Bd f).length=f.length by simp[Bd]]at this;rw[show (Eg f).length=f.length by simp[Eg]];omega
section
attribute [local go_sem] Dg
def A3y (a:Int->Int×Int->Bool) (f:List AD) (i:Nat):AD:=((f.getD i (0,[])).1,(f.getD i (0,[])).2.filter (a (i:Int)))
def GV (a:Int->Int×Int->Bool) (f:List AD) (i:Nat):List AD:=(List.range i).map (A3y a f)
def XC (a:Int->Int×Int->Bool) (f:List AD):List AD:=AN (GV a f f.length) 0
theorem KI (a:Int->Int×Int->Bool) (f:List AD) (i:Nat):(GV a f i).length=i:=by simp[GV]
theorem Ia (l:List (Int×Int)):i9 l↔l.Pairwise (λa b=>a.1<b.1):=by
 constructor
 ·intro h;rw[UK];have key:∀d i,i+d+1<l.length->(l.getD i (0,0)).1<(l.getD (i+d+1) (0,0)).1:=by
   intro d;induction d with
   | zero=>intro i hi;exact h i hi
   | succ d e =>
    intro i hi;have h1:=e i (by omega);have f:=h (i+d+1) (by omega);have:i+(d+1)+1=i+d+1+1:=by omega
    rw[this];omega
  intro i j hi c g;have h1:=key (j-i-1) i (by omega);rw[show i+(j-i-1)+1=j by omega]at h1;simpa[AS,hi,c] using h1
 ·intro h i hi;rw[UK]at h;have:=h i (i+1) (by omega) hi (by omega);simpa[AS,hi,show i<l.length by omega] using this
theorem jR {l:List (Int×Int)} (h:i9 l) (p:Int×Int->Bool):i9 (l.filter p):=by
 rw[Ia]at h ⊢;exact h.sublist List.filter_sublist
theorem Zl {f:List AD} (hf:AW f) (hs:KG f) (d:Int->Int×Int->Bool):AW (GV d f f.length)/\KG (GV d f f.length):=by
 have e:∀i,i<f.length->f.getD i (0,[])∈f:=λi hi=>AE f (0,[]) hi;refine⟨⟨by rw[KI];exact hf.1,λx c=>?_⟩,λx c=>?_⟩
 ·obtain⟨i,hi,rfl⟩:=IF.1 c;have hi:i<f.length:=UM.1 hi;obtain⟨h1,b⟩:=hf.2 _ (e i hi);rw[KI];exact⟨UD (YH _ _) h1,λa ha=>b a (ADv.1 ha).1⟩
 ·obtain⟨i,hi,rfl⟩:=IF.1 c;have hi:i<f.length:=UM.1 hi;obtain⟨h1,b⟩:=hs _ (e i hi);exact⟨jR h1 _,UD (YH _ _) b⟩
theorem Mm (p:Int×Int->Bool) (l:List (Int×Int)) {k:Nat} (h:k<l.length):(l.take (k+1)).filter p=(l.take k).filter p++(if p (l.getD k (0,0)) then [l.getD k (0,0)] else []):=by
 rw[Az l (0,0) h,AEq]
 congr 1
 rw[dO,AEB]
def Lk (l:List Int):List (Int×Bool):=l.foldl (λm x=>GM T3 .bool x true m) []
theorem oG {b:Ty} (x k:Int) (v:b.den) (m:List (Int×b.den)):Be T3 b x (GM T3 b k v m)=if x=k then some v else Be T3 b x m:=by
 induction m with
 | nil=>simp[GM,Be,Hj]
 | cons y m g =>
  simp only[GM];by_cases c:Hj T3 k y.1=true
  ·rw[BY c];have d:k=y.1:=by simpa[Hj] using c
   simp only[Be,Hj,YD];by_cases a:x=k
   ·rw[BY a,BY a]
   ·rw[An a,An a,An (by rw[<-d];exact a)]
  ·rw[An c];have d:¬k=y.1:=by simpa[Hj] using c
   simp only[Be];by_cases a:Hj T3 x y.1=true
   ·have f:x=y.1:=by simpa[Hj] using a
    rw[BY a,BY a,An (by rw[f];exact λe=>d e.symm)]
   ·rw[An a,An a,g]
theorem A7m (l:List Int) (x:Int):(Be T3 .bool x (Lk l)).getD false=w3 l x:=by
 induction l using EV with
 | h0=>rfl
 | h1 l a c =>
  have e:Lk (l++[a])=GM T3 .bool a true (Lk l):=by simp[Lk]
  rw[e,oG];by_cases b:x=a
  ·rw[BY b];subst b;simp[w3]
  ·rw[An b,c];simp only[w3,AEC,List.any_cons,List.any_nil,Bool.or_false];have:(a==x)=false:=by simpa using λe=>b e.symm
   rw[this,Bool.or_false]
end
theorem KJ {x y:Int} {xs ys:List Int} (h:LH (x :: xs) (y :: ys)=0):x=y/\LH xs ys=0:=by
 simp only[LH]at h;split at h
 ·cases h
 ·split at h
  ·cases h
  ·exact⟨by omega,h⟩
theorem XD:∀ {l m:List (Int×Int)} {r s:List Int},l.length=m.length->LH (l.flatMap (λa=>[a.1,a.2])++r) (m.flatMap (λa=>[a.1,a.2])++s)=0->l=m/\LH r s=0
 | [],[],_,_,_,h=>⟨rfl,by simpa using h⟩
 | [],_ :: _,_,_,b,_=>by simp at b
 | _ :: _,[],_,_,b,_=>by simp at b
 | (c,d) :: l,(b1,b2) :: m,r,s,b,h=>by
  have h:LH (c :: d :: (l.flatMap (λa=>[a.1,a.2])++r)) (b1 :: b2 :: (m.flatMap (λa=>[a.1,a.2])++s))=0:=by simpa using h
  obtain⟨e,i⟩:=KJ h;obtain⟨f,j⟩:=KJ i;obtain⟨g,k⟩:=XD (l:=l) (m:=m) (by simpa using b) j;exact⟨by rw[e,f,g],k⟩
theorem XE:∀ {l m:List AD} {r s:List Int},l.length=m.length->LH (l.flatMap WY++r) (m.flatMap WY++s)=0->l=m/\LH r s=0
 | [],[],_,_,_,h=>⟨rfl,by simpa using h⟩
 | [],_ :: _,_,_,b,_=>by simp at b
 | _ :: _,[],_,_,b,_=>by simp at b
 | (d,c) :: l,(b1,b2) :: m,r,s,b,h=>by
  have h:LH (d :: (c.length:Int) :: (c.flatMap (λa=>[a.1,a.2])++(l.flatMap WY++r))) (b1 :: (b2.length:Int) :: (b2.flatMap (λa=>[a.1,a.2])++(m.flatMap WY++s)))=0:=by simpa[WY] using h
  obtain⟨e,i⟩:=KJ h;obtain⟨o,j⟩:=KJ i;obtain⟨f,k⟩:=XD (l:=c) (m:=b2) (by omega) j;obtain⟨g,n⟩:=XE (l:=l) (m:=m) (by simpa using b) k;exact⟨by rw[e,f,g],n⟩
theorem JM {a b:List AD} (h:Cy a b=0):a=b:=by
 unfold Cy B2 at h;obtain⟨h1,c⟩:=KJ h;have:=XE (l:=a) (m:=b) (r:=[]) (s:=[]) (by omega) (by simpa using c);exact this.1
theorem Zm:∀l:List Int,LH l l=0
 | []=>rfl
 | x :: l=>by simp[LH,Zm l]
theorem EW (a:List AD):Cy a a=0:=Zm _
theorem XF (x:Int×Int) (s:List (Int×Int)):∀n,(∀j,IT x s n<=j->j<n->x.1<(s.getD j (0,0)).1)/\(0<IT x s n->(s.getD (IT x s n-1) (0,0)).1<=x.1)
 | 0=>⟨λj h1 b=>by omega,λh=>by simp[IT]at h⟩
 | n+1=>by
  obtain⟨h1,b⟩:=XF x s n;unfold IT;split
  ·rename_i c;refine⟨λj a d=>?_,b⟩;by_cases e:j=n
   ·subst e;exact c
   ·exact h1 j a (by omega)
  ·rename_i c;exact⟨λj a d=>by omega,λ_=>by simp only[Nat.add_sub_cancel];omega⟩
theorem A9p {l:List (Int×Int)} (h:l.Pairwise (λa b=>a.1<=b.1)) {i j:Nat} (d:i<=j) (c:j<l.length):(l.getD i (0,0)).1<=(l.getD j (0,0)).1:=by
 rcases Nat.eq_or_lt_of_le d with rfl|e
 ·exact AEu _
 ·rw[UK]at h;have:=h i j (by omega) c e;simpa[AS,c,show i<l.length by omega] using this
theorem jS {s:List (Int×Int)} (h:s.Pairwise (λa b=>a.1<=b.1)) (x:Int×Int):(O9 s x).Pairwise (λa b=>a.1<=b.1):=by
 obtain⟨h1,g⟩:=XF x s s.length;have hp:=Uo x s s.length;unfold O9;generalize IT x s s.length=p at *;rw[AE2,AE2];have f:∀a∈s.take p,a.1<=x.1:=λa ha=>by
  obtain⟨i,hi,rfl⟩:=AAd.1 ha;rw[ON]at hi;have k:=A9p h (i:=i) (j:=p-1) (by omega) (by omega);have l:=g (by omega);have e:(s.take p)[i].1=(s.getD i (0,0)).1:=by simp[AS,show i<s.length by omega]
  rw[e];omega
 have d:∀b∈s.drop p,x.1<=b.1:=λb c=>by
  obtain⟨i,hi,rfl⟩:=AAd.1 c;rw[YE]at hi;have k:=h1 (p+i) (by omega) (by omega);have e:(s.drop p)[i].1=(s.getD (p+i) (0,0)).1:=by simp[AS,show p+i<s.length by omega]
  rw[e];omega
 refine⟨⟨h.sublist (List.take_sublist _ _),by simp,λa ha b c=>?_⟩,h.sublist (List.drop_sublist _ _),λa ha b c=>?_⟩
 ·have:b=x:=by simpa using c
  rw[this];exact f a ha
 ·rcases No.1 ha with ha|ha
  ·exact ADD (f a ha) (d b c)
  ·have:a=x:=by simpa using ha
   rw[this];exact d b c
theorem Tw (l:List (Int×Int)):(Ae l).Pairwise (λa b=>a.1<=b.1):=by
 induction l using EV with
 | h0=>exact List.Pairwise.nil
 | h1 l a c=>rw[Ha];exact jS c a
theorem TT {n:Int}:∀ {l seen:List (Int×Int)},G9 n seen l=0->(l.map (·.1)).Nodup/\∀a∈l,∀b∈seen,b.1≠a.1
 | [],_,_=>⟨by simp,λa ha=>by cases ha⟩
 | x :: l,seen,h=>by
  simp only[G9]at h;split at h
  ·cases h
  ·split at h
   ·cases h
   ·rename_i h1 d;obtain⟨g,f⟩:=TT h;have d:∀b∈seen,b.1≠x.1:=λb c e=>d (UF.2 ⟨b,c,by simp[e]⟩);refine⟨?_,λa ha b c=>?_⟩
    ·rw[UQ,aT];refine⟨λi=>?_,g⟩;obtain⟨a,ha,e⟩:=IF.1 i;exact f a ha x (by simp) e.symm
    ·rcases DO.1 ha with rfl|ha
     ·exact d b c
     ·exact f a ha b (by simp[c])
theorem XG {m:Int}:∀ {f:List AD},HA m f=0->∀x∈f,IQ x.2 m=0
 | [],_,x,a=>by cases a
 | y :: f,h,x,a=>by
  simp only[HA]at h;split at h
  ·cases h
  ·split at h
   ·rename_i h1 b;exact absurd h b
   ·rename_i h1 b;rcases DO.1 a with rfl|a
    ·exact Do b
    ·exact XG h x a
theorem A0z {l:List (Int×Int)} (h:l.Pairwise (λa b=>a.1<=b.1)) (hn:(l.map (·.1)).Nodup):l.Pairwise (λa b=>a.1<b.1):=by
 rw[List.Nodup,ADy]at hn;refine(h.and hn).imp λ{a b} c=>?_;have h1:=c.1;have d:¬a.1=b.1:=c.2;omega
theorem Mn {f:List AD} (h:EA f=true):AW f/\KG f/\0<f.length/\Fb f=true:=by
 unfold EA at h;simp only[AT,YD]at h;obtain⟨⟨e,_⟩,c,d⟩:=h;obtain⟨t,g⟩:=JH e;have r:Wh f:=λx b=>UD (g x b) (by omega);have a:CJ f=0:=by
  unfold BG at c;split at c
  ·assumption
  ·exact c
 obtain⟨o,h0⟩:=IW a r;have k:(BG f).1=IU f 0:=by unfold BG;rw[BY a]
 rw[k]at d;have l:=JM d;refine⟨o,λx b=>⟨?_,UD (g x b) (by omega)⟩,h0,e⟩;rw[<-l]at b;obtain⟨n,_,rfl⟩:=IF.1 b;rw[Ia];have j:((f.getD n.toNat (0,[])).2.map (·.1)).Nodup:=by
  by_cases p:n.toNat<f.length
  ·have q:f.getD n.toNat (0,[])∈f:=AE f (0,[]) p;have m:HA f.length f=0:=by
    unfold CJ at a;split at a
    ·cases a
    ·split at a
     ·cases a
     ·exact a
   exact(TT (XG m _ q)).1
  ·rw[AS,UJ (by omega)];simp
 have s:=A0z (Tw (f.getD n.toNat (0,[])).2) (((E6 _).map (·.1)).nodup_iff.2 j);unfold Mc;simp only;rw[ADy];exact s.imp λi=>i
section
attribute [local go_sem] Qx Uu OH Wj
theorem A9q (a b:List AD):(Cy a b==0)=(TR a b==0):=by
 rw[AEa,YD,YD,oC];exact⟨JM,λe=>by rw[e];exact EW b⟩
def Qz:Aa:={ ins:=[ER,Da],pre:=λ(_,f,_)=>Cz f/\TS f,out:=λ(h,f,_)=>[.p Lr (BP h f)] }
attribute [local go_sem] Qz
theorem Zn:Ab Tryz.prog 66 Qz:=by
 refine fK [0,1,2,3,4,5,6,8,10,17,20,21,22,23,31,33,34,35,36,44,50] Tryz.func66 Tryz.ntmps66 (AF A0w (AF A0u AG)) ?_;rintro w0 O0 ⟨⟨b,hf⟩,f,u⟩ d-⟨hs,n⟩;have hs:Cz f:=hs;have n:TS f:=n;simp only[Qz,AL];repeat'(first|exact trivial|refine eS rfl ?_|refine rX d ?_ ?_|refine rC ?_ ?_<;>intro a<;>try(cases a;done))
 ·exact n
 ·have h1:BP (b,hf) f=(BG f).2:=by unfold BP;rw[BY a]
  exact fI d [.tmp 4] (by rw[h1];exact eR)
 ·have t:(BG f).2=0:=by simpa using a
  have x:=TM hs.2;have w:=hs.1;have g:BP (b,hf) f=if f.all (Us (b,hf))=false then 2 else if (TR f (BG f).1==0)=false then 3 else 0:=by unfold BP;rw[An (by rw[t];simp),A9q f (BG f).1]
  refine AJ (ι:={i:Nat//i<=f.length/\(f.take i).all (Us (b,hf))=true}) (λi=>⟨[(2,.bp 2 [] 0),(3,.bp 3 [] 0),(5,.bp 5 [] 0),(20,.p FQ f),(21,.p (.int .i64) (f.length:Int)),(22,.p (.int .i64) (i.1:Int))],[(2,.box 31 true [.p Tr b,.p WB hf]),(3,.box 25 true [.p FQ f]),(5,.box 25 true [.p FQ (BG f).1])]⟩) (λi=>f.length-i.1) ⟨0,by simp⟩ (eW [(2,.nm 2),(3,.nm 3),(5,.nm 5)]) (λi=>?_)
  ·obtain⟨i,hi,l⟩:=i;have r:=λh:i<f.length=>Ge f (0,[]) (Us (b,hf)) h;simp only;repeat'(first|exact trivial|refine eS rfl ?_|refine rX d ?_ ?_|refine rC ?_ ?_<;>intro a<;>try(cases a;done))
   ·exact a
   ·have c:i<f.length:=IN.1 (by assumption);have e:f.all (Us (b,hf))=false:=by
     rw[ADW];refine⟨_,AE f (0,[]) c,?_⟩;unfold Us;rw[ADY (AAb.2 a)];simp
    rw[BY e]at g;exact fI d [.tmp 4] (by rw[g];exact eR)
   ·have c:i<f.length:=IN.1 (by assumption);have o:=AE f (0,[]) c;have q:Us (b,hf) (f.getD i (0,[]))=(f.getD i (0,[])).2.all (w4 (b,hf)):=by
     unfold Us;rw[ADX (show (f.getD i (0,[])).1<(b.length:Int) from a)];rfl
    have v:(f.getD i (0,[])).2.length<=100000:=hs.2 _ o;refine AJ (ι:={k:Nat//k<=(f.getD i (0,[])).2.length/\((f.getD i (0,[])).2.take k).all (w4 (b,hf))=true}) (λk=>⟨[(2,.bp 2 [] 0),(3,.bp 3 [] 0),(5,.bp 5 [] 0),(20,.p FQ f),(21,.p (.int .i64) (f.length:Int)),(22,.p (.int .i64) (i:Int)),(33,.p DS (f.getD i (0,[])).2),(34,.p (.int .i64) ((f.getD i (0,[])).2.length:Int)),(35,.p (.int .i64) (k.1:Int))],[(2,.box 31 true [.p Tr b,.p WB hf]),(3,.box 25 true [.p FQ f]),(5,.box 25 true [.p FQ (BG f).1])]⟩) (λk=>(f.getD i (0,[])).2.length-k.1) ⟨0,by simp⟩ (eW [(2,.nm 2),(3,.nm 3),(5,.nm 5)]) (λk=>?_)
    ·obtain⟨k,hk,m⟩:=k;have s:=λh:k<(f.getD i (0,[])).2.length=>Ge (f.getD i (0,[])).2 (0,0) (w4 (b,hf)) h;simp only;repeat'(first|exact trivial|refine eS rfl ?_|refine AB ?_|refine rX d ?_ ?_|refine rC ?_ ?_<;>intro a<;>try(cases a;done))
     ·exact a
     ·have j:k<(f.getD i (0,[])).2.length:=IN.1 (by assumption);have e:f.all (Us (b,hf))=false:=by
       rw[ADW];refine⟨_,o,?_⟩;rw[q,ADW.2 ⟨_,AE (f.getD i (0,[])).2 (0,0) j,by unfold w4;rw[ADY (AAb.2 a)];simp⟩];simp
      rw[BY e]at g;exact fI d [.tmp 4] (by rw[g];exact eR)
     ·exact eV
     ·have j:k<(f.getD i (0,[])).2.length:=IN.1 (by assumption);refine⟨⟨k+1,j,?_⟩,by simp only;omega,AC [(2,.nm 2),(3,.nm 3),(5,.nm 5)] rfl rfl ?_ ?_⟩
      ·rw[s j,m];unfold w4;exact ADX a
      ·exact eN
      ·exact eN
     ·exact eV
     ·have j:(f.getD i (0,[])).2.take k=(f.getD i (0,[])).2:=As (UA.1 a);rw[j]at m;refine⟨⟨i+1,c,?_⟩,by simp only;omega,AC [(2,.nm 2),(3,.nm 3),(5,.nm 5)] rfl rfl ?_ ?_⟩
      ·rw[r c,l,q,m];rfl
      ·exact eN
      ·exact eN
   ·exact hs
   ·have c:f.take i=f:=As (UA.1 (by assumption));rw[c]at l;rw[An (by rw[l];simp),BY (by simpa using a)]at g;exact fI d [.tmp 4] (by rw[g];exact eR)
   ·have c:f.take i=f:=As (UA.1 (by assumption));rw[c]at l;rw[An (by rw[l];simp),An (by rw[a];simp)]at g;exact fI d [.tmp 4] (by rw[g];exact eR)
end
section
attribute [local go_sem] Qz OH Wj
def FG (h:AH) (f:List AD) (t:Int):List (Int×Int)->Int
 | []=>0
 | a :: l=>if (CB h t a.1).2=false then 10 else if BA h (CB h t a.1).1 (f.getD a.2.toNat (0,[])).1=false then 11 else FG h f t l
def Dt (h:AH) (f:List AD):List AD->Int
 | []=>0
 | x :: l=>if FG h f x.1 x.2=0 then Dt h f l else FG h f x.1 x.2
def Ai (h:AH) (f:List AD):Int:=if BP h f=0 then Dt h f f else BP h f
structure Chk (h:AH) (f:List AD):Prop where
 ty:∀x∈f,0<=x.1/\x.1<(h.1.length:Int)
 arc:∀x∈f,∀a∈x.2,Lj h f.length a
theorem A3z {h:AH} {f:List AD} (e:BP h f=0):Chk h f:=by
 have h1:(BG f).2=0:=by
  refine Do λhn=>?_;unfold BP at e;rw[BY hn]at e;exact hn e
 have c:CJ f=0:=by
  refine Do λhn=>?_;unfold BG at h1;rw[An hn]at h1;exact hn h1
 have d:f.all (Us h)=true:=by
  cases k:f.all (Us h) with
  | true=>rfl
  | false =>
   unfold BP at e;rw[An (by rw[h1];simp),BY k]at e;cases e
 have j:HA f.length f=0:=by
  unfold CJ at c;split at c
  ·cases c
  ·split at c
   ·cases c
   ·exact c
 have g:=IV j;rw[Is]at d;have i:∀x∈f,x.1<(h.1.length:Int)/\∀a∈x.2,a.1<(h.2.length:Int):=λx b=>by
  have:=d x b;unfold Us at this;rw[AT,Fe,Is]at this;exact⟨this.1,λa ha=>by have:=this.2 a ha;unfold w4 at this;simpa using this⟩
 exact⟨λx b=>⟨(g x b).1,(i x b).1⟩,λx b a ha=>by
  obtain⟨l,m,n⟩:=(g x b).2 a ha;exact⟨⟨l,(i x b).2 a ha⟩,m,n⟩⟩
theorem OK (h:AH) (f l:List AD) {k:Nat} (hk:k<l.length):Dt h f (l.drop k)=if FG h f (l.getD k (0,[])).1 (l.getD k (0,[])).2=0 then Dt h f (l.drop (k+1)) else FG h f (l.getD k (0,[])).1 (l.getD k (0,[])).2:=by
 rw[Mi (0,[]) hk];rfl
theorem TV (h:AH) (f:List AD) (t:Int) (l:List (Int×Int)) {k:Nat} (hk:k<l.length):FG h f t (l.drop k)=if (CB h t (l.getD k (0,0)).1).2=false then 10 else if BA h (CB h t (l.getD k (0,0)).1).1 (f.getD (l.getD k (0,0)).2.toNat (0,[])).1=false then 11 else FG h f t (l.drop (k+1)):=by
 rw[Mi (0,0) hk];rfl
def Q0:Aa:={ ins:=[ER,Da],pre:=λ(h,f,_)=>eI h/\Cz f/\TS f,out:=λ(h,f,_)=>[.p Lr (Ai h f)] }
attribute [local go_sem] Q0
theorem A0A:Ab Tryz.prog 34 Q0:=by
 refine fK [0,1,2,3,4,5,7,9,10,11,16,19,20,21,22,26,27,28,29,42,53] Tryz.func34 Tryz.ntmps34 (AF Zn (AF xD (AF cX AG))) ?_;rintro w0 O0 ⟨⟨a,hf⟩,f,u⟩ e-⟨o,hs,s⟩;have o:eI (a,hf):=o;have hs:Cz f:=hs;have s:TS f:=s;have K:=hs.1;simp only[Q0,AL];repeat'(first|exact trivial|refine eS rfl ?_|refine rX e ?_ ?_|refine rC ?_ ?_<;>intro b<;>try(cases b;done))
 ·exact⟨hs,s⟩
 ·have j:Ai (a,hf) f=BP (a,hf) f:=An b;exact fI e [.tmp 4] (by rw[j];exact eR)
 ·have C:BP (a,hf) f=0:=by simpa using b
  have j:Ai (a,hf) f=Dt (a,hf) f f:=BY C;obtain⟨A,E⟩:=A3z C;refine AJ (ι:={i:Nat//i<=f.length/\Dt (a,hf) f f=Dt (a,hf) f (f.drop i)}) (λi=>⟨[(2,.bp 2 [] 0),(3,.bp 3 [] 0),(19,.p FQ f),(20,.p (.int .i64) (f.length:Int)),(21,.p (.int .i64) (i.1:Int))],[(2,.box 31 true [.p Tr a,.p WB hf]),(3,.box 25 true [.p FQ f])]⟩) (λi=>f.length-i.1) ⟨0,IS _,rfl⟩ (eW [(2,.nm 2),(3,.nm 3)]) (λi=>?_)
  ·obtain⟨i,hi,g⟩:=i;have I:=λh:i<f.length=>OK (a,hf) f f h;have H:=λh:i<f.length=>AE f (0,[]) h;simp only;repeat'(first|exact trivial|refine eS rfl ?_|refine rX e ?_ ?_|refine rC ?_ ?_<;>intro b<;>try(cases b;done))
   ·exact b
   ·have q:i<f.length:=IN.1 b;have m:=I q;have r:=H q;obtain⟨y,z⟩:=A _ r;have B:=E _ r;have F:=hs.2 _ r;generalize M:f.getD i (0,[])=x at *;obtain⟨t,L⟩:=x;simp only at m y z B F ⊢;refine AJ (ι:={k:Nat//k<=L.length/\FG (a,hf) f t L=FG (a,hf) f t (L.drop k)}) (λk=>⟨[(2,.bp 2 [] 0),(3,.bp 3 [] 0),(7,.bp 7 [] 0),(19,.p FQ f),(20,.p (.int .i64) (f.length:Int)),(21,.p (.int .i64) (i:Int)),(26,.p DS L),(27,.p (.int .i64) (L.length:Int)),(28,.p (.int .i64) (k.1:Int))],[(7,.box 93 true [.p T3 t,.p DS L]),(2,.box 31 true [.p Tr a,.p WB hf]),(3,.box 25 true [.p FQ f])]⟩) (λk=>L.length-k.1) ⟨0,IS _,rfl⟩ (eW [(7,.nm 7),(2,.nm 2),(3,.nm 3)]) (λk=>?_)
    ·obtain⟨k,hk,c⟩:=k;have v:=λh:k<L.length=>TV (a,hf) f t L h;have G:=λh:k<L.length=>B _ (AE L (0,0) h);simp only;have J:=HE (f:=(L.getD k (0,0)).1) o y z;repeat'(first|exact trivial|refine eS rfl ?_|refine AB ?_|refine rX e ?_ ?_|refine rC ?_ ?_<;>intro b<;>try(cases b;done))
     ·exact b
     ·exact⟨y,z⟩
     ·have d:k<L.length:=by exact eV
      rw[v d,BY b]at c;have l:Ai (a,hf) f=10:=by rw[j,g,m,An (by rw[c];simp),c]
      exact fI e [.tmp 4] (by rw[l];exact eR)
     ·have d:k<L.length:=by exact eV
      obtain⟨-,D,b1⟩:=G d;exact⟨⟨D,b1⟩,J b,A _ (AE f (0,[]) (by omega))⟩
     ·have d:k<L.length:=by exact eV
      have w:(CB (a,hf) t (List.getD L k (0,0)).1).2=true:=by assumption
      rw[v d,An (by rw[w];simp),BY b]at c;have l:Ai (a,hf) f=11:=by rw[j,g,m,An (by rw[c];simp),c]
      exact fI e [.tmp 4] (by rw[l];exact eR)
     ·omega
     ·have d:k<L.length:=by exact eV
      have w:(CB (a,hf) t (List.getD L k (0,0)).1).2=true:=by assumption
      rw[v d,An (by rw[w];simp),An (by rw[b];simp)]at c;exact⟨⟨k+1,d,c⟩,by simp only;omega,eW [(7,.nm 7),(2,.nm 2),(3,.nm 3)]⟩
     ·omega
     ·have n:L.drop k=[]:=By (UA.1 b);rw[n]at c;have c:FG (a,hf) f t L=0:=c;rw[m,BY c]at g;exact⟨⟨i+1,q,g⟩,by simp only;omega,eW [(2,.nm 2),(3,.nm 3)]⟩
   ·have n:f.drop i=[]:=By (UA.1 b);rw[n]at g;have l:Ai (a,hf) f=0:=by rw[j,g];rfl
    exact fI e [.tmp 4] (by rw[l];exact eR)
theorem A3A:Ab Tryz.prog 124 OH:=by
 refine fK [0,1,2,3,6,7,8,9,19,28] Tryz.func124 Tryz.ntmps124 AG ?_;rintro w0 O0 ⟨⟨b,hf⟩,t,f,u⟩ d q ⟨j,m⟩;simp only[OH,AL];refine Ev.ent (σ':=⟨[(0,.p ER (b,hf)),(1,.p T3 t),(2,.p T3 f)],[]⟩) ?_ (AC [] rfl rfl ?_ ?_)
 ·repeat'(first|exact trivial|refine eS rfl ?_|refine rX d ?_ ?_)
  ·exact⟨j,m⟩
  ·have o:∀l,l=(List.getD b (Int.toNat t) (ByteArray.empty,[],[],[])).2.2.2->CB (b,hf) t f=EK f l:=λl e=>by rw[e];rfl
   have r:List.length (List.getD b (Int.toNat t) (ByteArray.empty,[],[],[])).2.2.2<=140737488355328:=(q.1.1.2 _ (AE (b:List G8) TN ((AEZ j).2 m))).2.2.2.1;generalize (List.getD b (Int.toNat t) (ByteArray.empty,[],[],[])).2.2.2=l at *;rw[o l rfl];refine AJ (ι:={k:Nat//k<=List.length l/\EK f l=EK f (l.drop k)}) (λk=>⟨[(2,.p T3 f),(8,.p WC l),(9,.p (.int .i64) (k.1:Int))],[]⟩) (λk=>List.length l-k.1) ⟨0,IS _,rfl⟩ (eW []) (λk=>?_)
   ·obtain⟨k,hk,a⟩:=k;have i:=λh:k<List.length l=>Wv f l h;simp only;repeat'(first|exact trivial|refine eS rfl ?_|refine AB ?_|refine rX d ?_ ?_|refine rC ?_ ?_<;>intro c<;>try(cases c;done))
    ·exact c
    ·exact IN.2 (by exact eV)
    ·have g:k<List.length l:=by exact eV
     rw[i g,BY c]at a;exact fI d [.tmp 6,.tmp 7] (by rw[a];exact eR)
    ·omega
    ·have g:k<List.length l:=by exact eV
     rw[i g,An c]at a;exact⟨⟨k+1,g,a⟩,by simp only;omega,eW []⟩
    ·have n:List.drop k (l:List (Int×Int))=[]:=By (by exact eV);rw[n]at a;have a:EK f l=(0,false):=a;exact fI d [.tmp 6,.tmp 7] (by rw[a];exact eR)
 ·exact eN
 ·exact eN
end
section
attribute [local go_sem] LI OH QP
theorem A3B {h:AH} (hk:GL h) {a b:Int} (c:0<=a) (d:a<(h.1.length:Int)) (e:0<=b) (b1:b<(h.1.length:Int)):E4 (Bb h b) (Bb h a)=BA h a b:=by
 have f:=hk.1.wds _ (CW c d);have g:=hk.1.wds _ (CW e b1);rw[AEa,Fc g f];exact(B3 hk c d e b1).symm
def dF:Aa:={ ins:=[ER,T3,T3],pre:=λ(h,a,b,_)=>(((0:Int)<=a/\a<(List.length (h:AH).1:Int))/\((0:Int)<=b/\b<(List.length (h:AH).1:Int)))/\GL h,out:=λ(h,a,b,_)=>[.p .bool (BA h a b)],lend:=true }
attribute [local go_sem] dF
theorem Mo:Ab Tryz.prog 104 dF:=by
 refine fK [0,1,2,3,6] Tryz.func104 Tryz.ntmps104 (AF R1 AG) ?_;rintro w0 O0 ⟨⟨e,hf⟩,a,b,u⟩ d-⟨⟨ha,c⟩,hk⟩;have hk:GL (e,hf):=hk;have f:=A3B hk ha.1 ha.2 c.1 c.2;have g:(Bb (e,hf) b).length<=100000:=UD (hk.1.wid _ (CW c.1 c.2)) (by omega);simp only[dF,AL];repeat'(first|exact trivial|refine eS rfl ?_|refine rX d ?_ ?_)
 ·exact⟨c,ha,g⟩
 ·exact fI d [.tmp 6] (by rw[<-f];unfold Bb;exact eR)
def Mp:Aa:={ ins:=[ER,Da],pre:=λ(h,f,_)=>eI h/\Cz f/\GL h,out:=λ(h,f,_)=>[.p Lr (Ai h f)] }
attribute [local go_sem] Mp
theorem oH:Ab Tryz.prog 69 Mp:=by
 refine fK [0,1,2,3,4,5,6,7,8,9,10,15,21,33,53,67] Tryz.func69 Tryz.ntmps69 (AF Za (AF A3A (AF Mo AG))) ?_;rintro w0 O0 ⟨⟨a,hf⟩,f,u⟩ e-⟨n,hs,r⟩;have n:eI (a,hf):=n;have hs:Cz f:=hs;have r:GL (a,hf):=r;have I:=hs.1;simp only[Mp,AL];repeat'(first|exact trivial|refine eS rfl ?_|refine rX e ?_ ?_|refine rC ?_ ?_<;>intro b<;>try(cases b;done))
 ·exact hs
 ·have j:Ai (a,hf) f=BP (a,hf) f:=An b;exact fI e [.tmp 4] (by rw[j];exact eR)
 ·have x:BP (a,hf) f=0:=by simpa using b
  have j:Ai (a,hf) f=Dt (a,hf) f f:=BY x;obtain⟨w,B⟩:=A3z x;refine AJ (ι:={i:Nat//i<=f.length/\Dt (a,hf) f f=Dt (a,hf) f (f.drop i)}) (λi=>⟨[(2,.bp 2 [] 0),(3,.bp 3 [] 0),(6,.p (.int .i64) (i.1:Int))],[(2,.box 31 true [.p Tr a,.p WB hf]),(3,.box 25 true [.p FQ f])]⟩) (λi=>f.length-i.1) ⟨0,IS _,rfl⟩ (eW [(2,.nm 2),(3,.nm 3)]) (λi=>?_)
  ·obtain⟨i,hi,g⟩:=i;have F:=λh:i<f.length=>OK (a,hf) f f h;have E:=λh:i<f.length=>AE f (0,[]) h;simp only;repeat'(first|exact trivial|refine eS rfl ?_|refine rX e ?_ ?_|refine rC ?_ ?_<;>intro b<;>try(cases b;done))
   ·exact b
   ·have o:i<f.length:=IN.1 b;have s:=F o;have q:=E o;obtain⟨y,z⟩:=w _ q;have C:=B _ q;have H:=hs.2 _ q;generalize J:(f.getD i (0,[])).2=L at *;refine AJ (ι:={k:Nat//k<=L.length/\FG (a,hf) f (f.getD i (0,[])).1 L=FG (a,hf) f (f.getD i (0,[])).1 (L.drop k)}) (λk=>⟨[(2,.bp 2 [] 0),(3,.bp 3 [] 0),(6,.p (.int .i64) (i:Int)),(7,.p DS L),(8,.p (.int .i64) (k.1:Int))],[(2,.box 31 true [.p Tr a,.p WB hf]),(3,.box 25 true [.p FQ f])]⟩) (λk=>L.length-k.1) ⟨0,IS _,rfl⟩ (eW [(2,.nm 2),(3,.nm 3)]) (λk=>?_)
    ·obtain⟨k,hk,c⟩:=k;have t:=λh:k<L.length=>TV (a,hf) f (f.getD i (0,[])).1 L h;have D:=λh:k<L.length=>C _ (AE L (0,0) h);simp only;have G:=HE (f:=(L.getD k (0,0)).1) n y z;repeat'(first|exact trivial|refine eS rfl ?_|refine AB ?_|refine rX e ?_ ?_|refine rC ?_ ?_<;>intro b<;>try(cases b;done))
     ·exact⟨by assumption,b,y,z⟩
     ·have d:k<L.length:=by exact eV
      rw[t d,BY b]at c;have l:Ai (a,hf) f=10:=by rw[j,g,s,An (by rw[c];simp),c]
      exact fI e [.tmp 4] (by rw[l];exact eR)
     ·have d:k<L.length:=by exact eV
      obtain⟨-,A,b1⟩:=D d;exact⟨by assumption,⟨A,b1⟩,⟨G b,w _ (AE f (0,[]) (by omega))⟩,r⟩
     ·have d:k<L.length:=by exact eV
      have v:(CB (a,hf) (List.getD f i (0,[])).1 (List.getD L k (0,0)).1).2=true:=by assumption
      rw[t d,An (by rw[v];simp),BY b]at c;have l:Ai (a,hf) f=11:=by rw[j,g,s,An (by rw[c];simp),c]
      exact fI e [.tmp 4] (by rw[l];exact eR)
     ·omega
     ·have d:k<L.length:=by exact eV
      have v:(CB (a,hf) (List.getD f i (0,[])).1 (List.getD L k (0,0)).1).2=true:=by assumption
      rw[t d,An (by rw[v];simp),An (by rw[b];simp)]at c;exact⟨⟨k+1,d,c⟩,by simp only;omega,eW [(2,.nm 2),(3,.nm 3)]⟩
     ·omega
     ·have m:L.drop k=[]:=By (UA.1 b);rw[m]at c;have c:FG (a,hf) f (f.getD i (0,[])).1 L=0:=c;rw[s,BY c]at g;exact⟨⟨i+1,o,g⟩,by simp only;omega,eW [(2,.nm 2),(3,.nm 3)]⟩
   ·have m:f.drop i=[]:=By (UA.1 b);rw[m]at g;have l:Ai (a,hf) f=0:=by rw[j,g];rfl
    exact fI e [.tmp 4] (by rw[l];exact eR)
end
section
attribute [local go_sem] OH
theorem oI (h:AH) (hk:GL h) (hi:Lq h) (hf:eI h) (X:h.2.length<=100000) (f:List AD) (P:AW f) (ha:PK h f) (s:Eb) (hs:Nq h f.length s) {n:Int} (n0:0<=n) (n1:n<(f.length:Int)) (T:Zi h s.1+s.2.length<=1000000000) :
  BJ Tryz.prog 170 [.bp 1 [] 0,.p Da f,.p T3 n] (EC h s) [1]
  (λres z=>(Li h f n s=none/\res=.p .bool false/\∃A,z=EC h A)\/∃A,Li h f n s=some A/\res=.p .bool true/\z=EC h A):=by
 have H:=Ml ha n0 n1;have Z:(f.getD n.toNat (0,[])).2.length<=100000:=(P.2 _ (AE f (0,[]) (by omega))).1;have O:Li h f n s=(Mj h n (f.getD n.toNat (0,[])).2 s).bind (Np h n (f.getD n.toNat (0,[])).2):=rfl;rw[O];refine Kv [0,1,2,4,6,8,10,11,12,18,19,20,21,37,44,45,46,47,76] [] [] Tryz.func170 Tryz.ntmps170 (AF xD AG) ?_;intro w0 K O0 ρ0 a aa ab;simp only[EC,Ar];repeat'(first|exact trivial|refine eS rfl ?_|refine rX a ?_ ?_)
 ·exact⟨n0,n1⟩
 ·have Y:f.getD n.toNat (0,[])=f.getD n.toNat (0,[]):=rfl;generalize M:(f.getD n.toNat (0,[])).2=L at *;refine AJ (ι:={x:Nat×Eb//x.1<=L.length/\Nq h f.length x.2/\Zi h x.2.1+x.2.2.length<=1000000000/\Mj h n L s=Mj h n (L.drop x.1) x.2}) (λx=>⟨[(0,.bp 1 [] 0),(2,.p T3 n),(4,.bp 4 [] 0),(18,.p DS L),(19,.p (.int .i64) (L.length:Int)),(20,.p (.int .i64) (x.1.1:Int))],[(4,.box 25 true [.p FQ f]),(1,.box 205 true [.p ER h,.sr 2 T3 0 x.1.2.1.length,.p Ft x.1.2.2]),(2,.arr 3 T3 x.1.2.1)]⟩) (λx=>L.length-x.1.1) ⟨(0,s),IS _,hs,T,rfl⟩ (eW [(4,.nm 4),(1,.nm 1),(2,.nm 2)]) (λx=>?_)
  ·obtain⟨⟨k,s1⟩,R,r,C,i⟩:=x;simp only at R r C i ⊢;repeat'(first|exact trivial|refine eS rfl ?_|refine rX a ?_ ?_|refine rC ?_ ?_<;>intro b<;>try(cases b;done))
   ·exact b
   ·have l:k<L.length:=IN.1 b;have d:Mj h n (L.drop k) s1=(DJ h s1 n (Lh h (L.getD k (0,0)).1)).bind (Mj h n (L.drop (k+1))):=by rw[Mi (0,0) l];rfl
    obtain⟨⟨F,G⟩,u,b1⟩:=H _ (AE L (0,0) l);obtain⟨o,q⟩:=Mk hf F G;obtain⟨w,y⟩:=r.get n0 n1;refine cD 12 a ?_ ?_
    ·exact⟨F,G⟩
    ·refine rM a (i8 h hk s1 n0 (by rw[r.len];exact n1) w y o q (by omega)) [(1,.nm 1),(2,.nm 2)] [2] ?_ ?_ ?_
     ·refine eM ?_;rfl
     ·simp only[EC];exact eN
     ·rintro res z (⟨c,rfl,rfl⟩|⟨s2,c,rfl,rfl⟩)
      ·refine⟨[(1,.nm 1),(2,.nm 2)],.p .bool false,EC h s1,rfl,rfl,?_,?_,rfl,rfl,?_⟩
       ·simp only[EC];exact eN
       ·exact eN
       ·simp only[EC];refine rL a ?_ ?_
        ·trivial
        ·repeat'(first|exact trivial|refine eS rfl ?_|refine rX a ?_ ?_|refine rC ?_ ?_<;>intro b<;>try(cases b;done))
         refine Ev.ent (σ':=⟨[(6,.p .bool false)],EC h s1⟩) ?_ (AC [(1,.nm 1),(2,.nm 2)] rfl rfl ?_ ?_)
         ·exact fM a [.tmp 6] (.p .bool false) eT (.inl ⟨by rw[i,d,c];rfl,rfl,s1,rfl⟩)
         ·unfold EC;exact eN
         ·exact eN
      ·refine⟨[(1,.nm 1),(2,.nm 2)],.p .bool true,EC h s2,rfl,rfl,?_,?_,rfl,rfl,?_⟩
       ·simp only[EC];exact eN
       ·exact eN
       ·simp only[EC];refine rL a ?_ ?_
        ·trivial
        ·obtain⟨D,E,U⟩:=E8 hk hi r n0 n1 o q c;repeat'(first|refine eS rfl ?_|refine AB ?_|refine rX a ?_ ?_|refine rC ?_ ?_<;>intro b<;>try(cases b;done))
         ·omega
         ·exact⟨⟨(k+1,s2),l,D,UD E C,by rw[i,d,c];rfl⟩,by simp only;omega,eW [(4,.nm 4),(1,.nm 1),(2,.nm 2)]⟩
   ·exact⟨n0,n1⟩
   ·have B:L.drop k=[]:=By (UA.1 b);rw[B]at i;have i:Mj h n L s=some s1:=i;rw[i];have N:(List.getD f n.toNat (0,[])).2=L:=M;rw[N];refine AJ (ι:={x:Nat×Eb//x.1<=L.length/\Nq h f.length x.2/\Zi h x.2.1+x.2.2.length<=1000000000/\(some s1).bind (Np h n L)=Np h n (L.drop x.1) x.2}) (λx=>⟨[(0,.bp 1 [] 0),(2,.p T3 n),(44,.p DS L),(45,.p (.int .i64) (L.length:Int)),(46,.p (.int .i64) (x.1.1:Int))],[(1,.box 205 true [.p ER h,.sr 2 T3 0 x.1.2.1.length,.p Ft x.1.2.2]),(2,.arr 3 T3 x.1.2.1)]⟩) (λx=>L.length-x.1.1) ⟨(0,s1),IS _,r,C,rfl⟩ (eW [(1,.nm 1),(2,.nm 2)]) (λx=>?_)
    ·obtain⟨⟨j,s2⟩,Q,m,I,g⟩:=x;simp only at Q m I g ⊢;obtain⟨w,y⟩:=m.get n0 n1;repeat'(first|exact trivial|refine eS rfl ?_|refine rX a ?_ ?_|refine rC ?_ ?_<;>intro b<;>try(cases b;done))
     ·exact b
     ·exact⟨⟨n0,by rw[m.len];exact n1⟩,w,y⟩
     ·have l:j<L.length:=IN.1 b;have d:Np h n (L.drop j) s2=if (CB h (s2.1.getD n.toNat 0) (L.getD j (0,0)).1).2=true then (DJ h s2 (L.getD j (0,0)).2 (CB h (s2.1.getD n.toNat 0) (L.getD j (0,0)).1).1).bind (Np h n (L.drop (j+1))) else none:=by rw[Mi (0,0) l];rfl
      obtain⟨-,u,b1⟩:=H _ (AE L (0,0) l);have S:=λe=>HE (f:=(L.getD j (0,0)).1) hf w y e;generalize CB h (s2.1.getD n.toNat 0) (L.getD j (0,0)).1=v at *;obtain⟨t,ok⟩:=v;refine evP a 3 ?_ ?_
      ·trivial
      ·cases ok with
       | false =>
        rw[An (by simp)]at d;refine rL a ?_ ?_
        ·trivial
        ·repeat'(first|exact trivial|refine eS rfl ?_|refine rX a ?_ ?_|refine rC ?_ ?_<;>intro b<;>try(cases b;done))
         refine Ev.ent (σ':=⟨[(6,.p .bool false)],EC h s2⟩) ?_ (AC [(1,.nm 1),(2,.nm 2)] rfl rfl ?_ ?_)
         ·exact fM a [.tmp 6] (.p .bool false) eT (.inl ⟨by rw[g,d],rfl,s2,rfl⟩)
         ·unfold EC;exact eN
         ·exact eN
       | true =>
        rw[BY rfl]at d;obtain⟨o,q⟩:=S rfl;simp only at o q d;obtain⟨V,W⟩:=m.get u b1;refine rN 4 a ?_ ?_
        ·trivial
        ·refine clG a (i8 h hk s2 u (by rw[m.len];exact b1) V W o q (by omega)) [(1,.nm 1),(2,.nm 2)] [2] ?_ ?_ ?_
         ·exact eN
         ·simp only[EC];exact eN
         ·rintro res z (⟨c,rfl,rfl⟩|⟨J,c,rfl,rfl⟩)
          ·refine⟨[(1,.nm 1),(2,.nm 2)],.p .bool false,EC h s2,rfl,rfl,?_,?_,rfl,rfl,?_⟩
           ·simp only[EC];exact eN
           ·exact eN
           ·simp only[EC];refine rL a ?_ ?_
            ·trivial
            ·repeat'(first|exact trivial|refine eS rfl ?_|refine rX a ?_ ?_|refine rC ?_ ?_<;>intro b<;>try(cases b;done))
             refine Ev.ent (σ':=⟨[(6,.p .bool false)],EC h s2⟩) ?_ (AC [(1,.nm 1),(2,.nm 2)] rfl rfl ?_ ?_)
             ·exact fM a [.tmp 6] (.p .bool false) eT (.inl ⟨by rw[g,d,c];rfl,rfl,s2,rfl⟩)
             ·unfold EC;exact eN
             ·exact eN
          ·refine⟨[(1,.nm 1),(2,.nm 2)],.p .bool true,EC h J,rfl,rfl,?_,?_,rfl,rfl,?_⟩
           ·simp only[EC];exact eN
           ·exact eN
           ·simp only[EC];refine rL a ?_ ?_
            ·trivial
            ·obtain⟨D,E,U⟩:=E8 hk hi m u b1 o q c;repeat'(first|refine eS rfl ?_|refine AB ?_|refine rX a ?_ ?_|refine rC ?_ ?_<;>intro b<;>try(cases b;done))
             ·omega
             ·exact⟨⟨(j+1,J),l,D,UD E I,by rw[g,d,c];rfl⟩,by simp only;omega,eW [(1,.nm 1),(2,.nm 2)]⟩
     ·have B:L.drop j=[]:=By (UA.1 b);rw[B]at g;have g:(some s1).bind (Np h n L)=some s2:=g;refine Ev.ent (σ':=⟨[(6,.p .bool true)],EC h s2⟩) ?_ (AC [(1,.nm 1),(2,.nm 2)] rfl rfl ?_ ?_)
      ·exact fM a [.tmp 6] (.p .bool true) eT (.inr ⟨s2,g,rfl,rfl⟩)
      ·unfold EC;exact eN
      ·exact eN
end
section
def dG:Aa:={ ins:=[FQ],pre:=λ(l,_)=>List.length l<=100000,out:=λ(l,_)=>[.own 93 Ls l] }
attribute [local go_sem] dG
theorem A0B:Ab Tryz.prog 171 dG:=by
 refine fK [0,2,4] Tryz.func171 Tryz.ntmps171 AG ?_;rintro w0 O0 ⟨l,u⟩ a-d;have d:List.length l<=100000:=d;simp only[dG,AL];repeat'(first|exact trivial|refine eS rfl ?_|refine rX a ?_ ?_)
 refine cP 1 a ?_ ?_
 ·trivial
 ·refine zV a false rfl rfl ?_;intro b e;refine rL a ?_ ?_
  ·trivial
  ·repeat'(first|exact trivial|refine eS rfl ?_|refine rX a ?_ ?_|refine rC ?_ ?_<;>intro c<;>try(cases c;done))
   ·have f:l=[]:=e c;subst f;refine Ev.ent (σ':=⟨[(2,.sr 5 Ls 0 0)],[(5,.arr 93 Ls [])]⟩) ?_ (AC [(5,.nil)] rfl rfl ?_ ?_)
    ·exact Od a (.inl rfl) (rv:=.tmp 2) rfl (by simp only[LV,Jb,Hv,go_sem,Nat.reduceEqDiff,reduceCtorEq,Nat.reduceAdd,Nat.reduceSub,Nat.reduceMul,Nat.reduceLeDiff,Nat.reduceLT,Int.reduceLE,Int.reduceToNat,Int.reduceNeg,↓reduceIte])
    ·exact eN
    ·exact eN
   ·simp only[AP];omega
   ·exact Od a (.inl rfl) (rv:=.tmp 2) rfl (by simp only[LV,Jb,Hv,go_sem,Nat.reduceEqDiff,reduceCtorEq,Nat.reduceAdd,Nat.reduceSub,Nat.reduceMul,Nat.reduceLeDiff,Nat.reduceLT,Int.reduceLE,Int.reduceToNat,Int.reduceNeg,↓reduceIte])
structure A9r (h:AH) (f:List AD):Prop where
 ok:GL h
 inj:Lq h
 ft:eI h
 fl:h.2.length<=100000
 good:AW f
 arcs:PK h f
 ty:∀x∈f,0<=x.1/\x.1<(h.1.length:Int)
def SL:Aa:={ ins:=[ER,Da],pre:=λ(h,f,_)=>A9r h f,out:=λ(h,f,_)=>[.p Da (Gj h f).1,.p .bool (Gj h f).2] }
theorem Du (f:List AD) (ty:List Int):(FC f ty).length=f.length:=by simp[FC]
theorem Hi (f:List AD) (ty:List Int) {i:Nat} (h:i<f.length):(FC f ty).getD i (0,[])=(ty.getD i 0,(f.getD i (0,[])).2):=by
 unfold FC;simp[AS,h]
theorem A0C {α:Type} (F f:List α) (d:α) (b:F.length=f.length) {j:Nat} (h:j<f.length):(F.take j++f.drop j).set j (F.getD j d)=F.take (j+1)++f.drop (j+1)/\(F.take j++f.drop j).getD j d=f.getD j d:=by
 have h1:(F.take j).length=j:=by rw[ON];omega
 have a:f.drop j=f.getD j d :: f.drop (j+1):=by
  rw[TO h,AS,At h];rfl
 constructor
 ·rw[Az F d (by omega),AEo _ _ (by omega),h1,AE3,a];simp
 ·rw[AS,UT (by omega),h1,AE3,a];rfl
theorem A3C:Ab Tryz.prog 127 SL:=by
 refine fK [0,1,2,3,4,5,6,7,8,9,10,11,16,17,18,19,51,64,72,73,74] Tryz.func127 Tryz.ntmps127 (AF A0B AG) ?_;rintro w0 O0 ⟨⟨a,hf⟩,f,u⟩ c-hp;have hp:A9r (a,hf) f:=hp;have D:=A3x (a,hf) f;have w:=hp.good.1;have S:OJ (a,hf) f<=30000000:=by
  have h1:a.length<=256:=hp.ok.2;have C:f.length*a.length<=100000*256:=Nat.mul_le_mul w h1;have R:f.length*(a,hf).1.length<=100000*256:=C;unfold OJ;omega
 have J:=A3w hp.ty;simp only[SL,AL];repeat'(first|exact trivial|refine eS rfl ?_|refine rX c ?_ ?_)
 refine AJ (ι:={i:Nat//i<=f.length}) (λi=>⟨[(3,.bp 3 [] 0),(4,.bp 4 [] 0),(6,.bp 14 [] 0),(16,.p FQ f),(17,.p (.int .i64) (f.length:Int)),(18,.p (.int .i64) (i.1:Int))],[(3,.box 25 true [.p FQ f]),(4,.box 25 true [.raw (.slice none 0 0)]),(14,.box 205 true [.p ER (a,hf),.sr 31 T3 0 i.1,.sr 41 T3 0 i.1]),(31,.arr 3 T3 ((Bd f).take i.1)),(41,.arr 3 T3 ((Eg f).take i.1))]⟩) (λi=>f.length-i.1) ⟨0,IS _⟩ (eW [(3,.nm 3),(4,.nm 4),(14,.nm 14),(31,.nil),(41,.nil)]) (λi=>?_)
 ·obtain⟨i,hi⟩:=i;have tl:((Bd f).take i).length=i:=by rw[ON];simp[Bd];omega
  have X:((Eg f).take i).length=i:=by rw[ON];simp[Eg];omega
  have ts:i<f.length->(Bd f).take i++[(f.getD i (0,[])).1]=(Bd f).take (i+1):=λh=>by
   rw[Az (Bd f) 0 (by simpa[Bd] using h)];simp[Bd,AS,h]
  have P:i<f.length->(Eg f).take i++[(i:Int)]=(Eg f).take (i+1):=λh=>by
   rw[Az (Eg f) 0 (by simpa[Eg] using h)];simp[Eg,AS,h]
  repeat'(first|exact trivial|refine eS rfl ?_|refine rX c ?_ ?_|refine rC ?_ ?_<;>intro b<;>try(cases b;done))
  ·exact b
  ·have g:i<f.length:=IN.1 b;have O:=ts g;have Q:=P g;refine CV drawsAny c 9 [([1,2,3,4,5,6,7],8)] [0] (by kernel_rfl) (NQ ?_ ?_)
   ·trivial
   ·refine PY c [31] ?_ ?_
    ·simp only[AP];omega
    ·refine S8 c ?_ ?_ ?_
     ·trivial
     ·trivial
     ·repeat'(first|refine eS rfl ?_|refine AB ?_|refine rX c ?_ ?_)
      ·simp only[AP];omega
      ·omega
      ·refine⟨⟨i+1,g⟩,by simp only;omega,AC [(3,.nm 3),(4,.nm 4),(14,.nm 14),(31,.nm 31),(41,.nm 41)] rfl rfl ?_ ?_⟩
       ·simp only[<-O,<-Q];refine eM ?_;simp only[AFm,Nat.min_self,and_self]
       ·exact eN
  ·have g:i=f.length:=by
    have:=UA.1 b;omega
   subst g;have et:(Bd f).take f.length=Bd f:=As (by simp[Bd]);have v:(Eg f).take f.length=Eg f:=As (by simp[Eg]);have N:(Bd f).length=f.length:=by simp[Bd]
   have Y:(Eg f).length=f.length:=by simp[Eg]
   rw[et,v];have B:(Eg f).take f.length=Eg f:=v;refine FP [41] ?_;rw[B];refine AJ (ι:={x:Nat×Eb//Nq (a,hf) f.length x.2/\Zi (a,hf) x.2.1+x.2.2.length+1<=OJ (a,hf) f/\x.1<=x.2.2.length/\∃k,Zi (a,hf) x.2.1+x.2.2.length+1<=k+x.1/\wlF (a,hf) f k x.1 x.2=IZ (a,hf) f}) (λx=>⟨[(3,.bp 3 [] 0),(4,.bp 4 [] 0),(6,.bp 14 [] 0),(9,.p (.int .i64) (x.1.1:Int))],[(3,.box 25 true [.p FQ f]),(4,.box 25 true [.raw (.slice none 0 0)]),(14,.box 205 true [.p ER (a,hf),.sr 31 T3 0 x.1.2.1.length,.p Ft x.1.2.2]),(31,.arr 3 T3 x.1.2.1)]⟩) (λx=>Zi (a,hf) x.1.2.1+x.1.2.2.length-x.1.1) ⟨(0,Bd f,Eg f),J,D,IS _,OJ (a,hf) f,by simp only;omega,rfl⟩ (AC [(3,.nm 3),(4,.nm 4),(14,.nm 14),(31,.nm 31)] rfl rfl ?_ ?_) (λx=>?_)
   ·simp only[N];exact eN
   ·exact eN
   ·obtain⟨⟨i,s⟩,hs,I,hi,k,hk,e⟩:=x;simp only at hs I hi hk e ⊢;repeat'(first|exact trivial|refine eS rfl ?_|refine rX c ?_ ?_|refine rC ?_ ?_<;>intro b<;>try(cases b;done))
    ·have m:i<s.2.length:=IN.1 b;obtain⟨z,A⟩:=hs.wt _ (AE s.2 (0:Int) m);obtain⟨k,rfl⟩:∃t,k=t+1:=⟨k-1,by omega⟩;have r:wlF (a,hf) f (k+1) i s=(Li (a,hf) f (s.2.getD i 0) s).bind (wlF (a,hf) f k (i+1)):=BY m;rw[r]at e;refine cD 9 c ?_ ?_
     ·exact b
     ·refine rM c (oI (a,hf) hp.ok hp.inj hp.ft hp.fl f hp.good hp.arcs s hs z A (by omega)) [(1,.nm 14),(2,.nm 31)] [31] ?_ ?_ ?_
      ·exact eN
      ·simp only[EC];exact eN
      ·rintro res W (⟨l,rfl,d,rfl⟩|⟨d,l,rfl,rfl⟩)
       ·refine⟨[(14,.nm 1),(31,.nm 2)],.p .bool false,[(14,.box 205 true [.p ER (a,hf),.sr 31 T3 0 d.1.length,.p Ft d.2]),(31,.arr 3 T3 d.1)],rfl,rfl,?_,?_,rfl,rfl,?_⟩
        ·simp only[EC];exact eN
        ·exact eN
        ·refine rL c ?_ ?_
         ·trivial
         ·repeat'(first|exact trivial|refine eS rfl ?_|refine rX c ?_ ?_|refine rC ?_ ?_<;>intro b<;>try(cases b;done))
          have o:Gj (a,hf) f=([],false):=by unfold Gj;rw[<-e,l];rfl
          exact fI c [.cell 4 25,.tmp 5] (by rw[o];exact eR)
       ·obtain⟨M,U,V⟩:=XB hp.ok hp.inj hp.ft hp.arcs z A hs l;rw[l]at e;refine⟨[(14,.nm 1),(31,.nm 2)],.p .bool true,[(14,.box 205 true [.p ER (a,hf),.sr 31 T3 0 d.1.length,.p Ft d.2]),(31,.arr 3 T3 d.1)],rfl,rfl,?_,?_,rfl,rfl,?_⟩
        ·simp only[EC];exact eN
        ·exact eN
        ·refine rL c ?_ ?_
         ·trivial
         ·repeat'(first|refine eS rfl ?_|refine AB ?_|refine rX c ?_ ?_|refine rC ?_ ?_<;>intro b<;>try(cases b;done))
          ·omega
          ·exact⟨⟨(i+1,d),M,by simp only;omega,by simp only;omega,k,by simp only;omega,e⟩,by simp only;omega,eW [(3,.nm 3),(4,.nm 4),(14,.nm 14),(31,.nm 31)]⟩
    ·exact w
    ·have m:¬i<s.2.length:=λh=>by
      have:=UA.1 b;omega
     obtain⟨k,rfl⟩:∃t,k=t+1:=⟨k-1,by omega⟩;have r:wlF (a,hf) f (k+1) i s=some s.1:=An m;have o:Gj (a,hf) f=(FC f s.1,true):=by unfold Gj;rw[<-e,r]
     have q:=Du f s.1;have K:=λi h=>Hi f s.1 (i:=i) h;generalize hT:FC f s.1=F at *;have L:=hs.len;refine AJ (ι:={j:Nat//j<=f.length}) (λj=>⟨[(4,.bp 4 [] 0),(6,.bp 14 [] 0),(10,.bp 10 [] 0),(72,.p (.int .i64) (f.length:Int)),(73,.p (.int .i64) (j.1:Int))],[(10,.box 25 true [.sr 68 Ls 0 f.length]),(68,.arr 93 Ls (F.take j.1++f.drop j.1)),(4,.box 25 true [.raw (.slice none 0 0)]),(14,.box 205 true [.p ER (a,hf),.sr 31 T3 0 s.1.length,.p Ft s.2]),(31,.arr 3 T3 s.1)]⟩) (λj=>f.length-j.1) ⟨0,IS _⟩ (eW [(10,.nm 10),(68,.nm 68),(4,.nm 4),(14,.nm 14),(31,.nm 31)]) (λj=>?_)
     ·obtain⟨j,T⟩:=j;have H:=λh:j<f.length=>A0C F f (0,[]) q h;repeat'(first|exact trivial|refine eS rfl ?_|refine AB ?_|refine rX c ?_ ?_|refine rC ?_ ?_<;>intro b<;>try(cases b;done))
      ·exact⟨by rw[L];exact b,b⟩
      ·omega
      ·have n:j<f.length:=IN.1 b;obtain⟨y,G⟩:=H n;rw[K j n]at y;refine⟨⟨j+1,n⟩,by simp only;omega,AC [(10,.nm 10),(68,.nm 68),(4,.nm 4),(14,.nm 14),(31,.nm 31)] rfl rfl ?_ ?_⟩
       ·simp only[<-y];refine eM ?_;rw[G]
       ·exact eN
      ·have hF:F.take j=F:=As (by rw[q];exact UA.1 b);have E:List.drop j f=[]:=By (UA.1 b);rw[hF,E,UO];exact fI c [.cell 4 25,.tmp 5] (by rw[o];first|exact eR|refine YM ?_;exact As (by rw[q];exact NO _))
end
section
open Go
end
structure MI (m:List (Int×Bool)) (l:List Bool):Prop where
 nd:(m.map (·.1)).Nodup
 get:∀k:Int,Be T3 .bool k m=if 0<=k/\l.getD k.toNat false=true then some true else none
theorem xK (k:Int) (v:Bool):∀ {m:List (Int×Bool)},(m.map (·.1)).Nodup->((GM T3 .bool k v m).map (·.1)).Nodup/\∀x,x∈(GM T3 .bool k v m).map (·.1)->x=k\/x∈m.map (·.1)
 | [],_=>by simp[GM]
 | y :: m,h=>by
  rw[UQ,aT]at h;unfold GM;split
  ·rename_i e;have e:k=y.1:=by simpa[Hj] using e
   refine⟨?_,λx a=>?_⟩
   ·rw[UQ,aT,e];exact h
   ·rcases DO.1 a with a|a
    ·exact .inl a
    ·exact .inr (OF _ a)
  ·rename_i e;have e:¬k=y.1:=by simpa[Hj] using e
   obtain⟨c,b⟩:=xK k v h.2;refine⟨?_,λx a=>?_⟩
   ·rw[UQ,aT];refine⟨λd=>?_,c⟩;rcases b _ d with a|a
    ·exact e a.symm
    ·exact h.1 a
   ·rcases DO.1 a with a|a
    ·exact .inr (by rw[a];simp)
    ·exact(b x a).imp id λg=>OF _ g
theorem jT (k:Int):∀m:List (Int×Bool),(mH T3 .bool k m).Sublist m
 | []=>List.Sublist.refl _
 | y :: m=>by
  unfold mH;split
  ·exact List.sublist_cons_self _ _
  ·exact(jT k m).cons_cons _
theorem Zo {x:Int}:∀ {m:List (Int×Bool)},x∉m.map (·.1)->Be T3 .bool x m=none
 | [],_=>rfl
 | y :: m,h=>by
  unfold Be;rw[An (by
   intro e;have e:x=y.1:=by simpa[Hj] using e
   exact h (by rw[e];simp))]
  exact Zo λa=>h (OF _ a)
theorem Zp (x k:Int):∀ {m:List (Int×Bool)},(m.map (·.1)).Nodup->Be T3 .bool x (mH T3 .bool k m)=if x=k then none else Be T3 .bool x m
 | [],_=>by simp[mH,Be]
 | y :: m,h=>by
  rw[UQ,aT]at h;unfold mH;split
  ·rename_i e;have e:k=y.1:=by simpa[Hj] using e
   by_cases a:x=k
   ·rw[BY a,a,e];exact Zo h.1
   ·rw[An a];have c:¬x=y.1:=by rw[<-e];exact a
    simp[Be,Hj,c]
  ·rename_i e;have e:¬k=y.1:=by simpa[Hj] using e
   have f:=Zp x k h.2;by_cases b:x=y.1
   ·have d:¬x=k:=by rw[b];exact λg=>e g.symm
    rw[An d];simp[Be,Hj,b]
   ·have hn:¬Hj T3 x y.1=true:=by simpa[Hj] using b
    simp only[Be];rw[An hn,An hn,f]
theorem MI.zero:MI [] (List.replicate 0 true):=⟨List.nodup_nil,λk=>by simp[Be]⟩
theorem MI.put {m:List (Int×Bool)} {i:Nat} (h:MI m (List.replicate i true)):MI (GM T3 .bool (i:Int) true m) (List.replicate (i+1) true):=by
 refine⟨(xK _ _ h.nd).1,λ(k:Int)=>?_⟩;rw[W9,h.get];by_cases hk:k=(i:Int)
 ·rw[BY hk,BY];subst hk;refine⟨oF _,?_⟩;simp[AS,AEd]
 ·rw[An hk];have e:(0<=k/\(List.replicate i true).getD k.toNat false=true)↔(0<=k/\(List.replicate (i+1) true).getD k.toNat false=true):=by
   simp only[AS,AEd];constructor
   ·rintro⟨a,b⟩;refine⟨a,?_⟩;split at b
    ·rw[BY (by omega)];rfl
    ·simp at b
   ·rintro⟨a,b⟩;refine⟨a,?_⟩;split at b
    ·rw[BY (by omega)];rfl
    ·simp at b
  by_cases c:0<=k/\(List.replicate i true).getD k.toNat false=true
  ·rw[BY c,BY (e.1 c)]
  ·rw[An c,An λg=>c (e.2 g)]
theorem MI.del {m:List (Int×Bool)} {l:List Bool} (h:MI m l) (i:Nat):MI (mH T3 .bool (i:Int) m) (l.set i false):=by
 refine⟨h.nd.sublist ((jT _ m).map _),λ(k:Int)=>?_⟩;rw[Zp _ _ h.nd,h.get];by_cases hk:k=(i:Int)
 ·subst hk;rw[BY rfl,An];rintro⟨-,b⟩;rw[UG]at b;simp only[AS,ADz]at b;rw[BY trivial]at b;split at b<;>simp at b
 ·rw[An hk];by_cases a:0<=k
  ·have c:¬i=k.toNat:=by omega
   simp only[AS,ADz];rw[An c]
  ·rw[An λg=>a g.1,An λg=>a g.1]
theorem NZ {x:Int}:∀ {m:List (Int×Bool)},x∈m.map (·.1)->Be T3 .bool x m≠none
 | y :: m,h=>by
  unfold Be;split
  ·simp
  ·rename_i e;rcases DO.1 h with h|h
   ·exact absurd (by simp[Hj,h]) e
   ·exact NZ h
theorem MI.len {m:List (Int×Bool)} {l:List Bool} (h:MI m l):m.length<=l.length:=by
 have h1:((m.map (·.1)).map Int.toNat).Nodup:=by
  rw[List.Nodup,ADy];refine h.nd.imp_of_mem λ{a b:Int} ha d i e=>i ?_;have h1:=NZ ha;have c:=NZ d;rw[h.get]at h1 c;have n:0<=a:=Do λg=>h1 (An λq=>g q.1);have o:0<=b:=Do λg=>c (An λq=>g q.1);omega
 have:=EP l.length _ h1 (λj f=>by
  obtain⟨x,k,rfl⟩:=IF.1 f;have h1:=NZ k;rw[h.get]at h1;refine Do λhn=>h1 (An λg=>?_);have:=g.2;rw[AS,UJ (by omega)]at this;cases this)
 simpa using this
section
open Go
end
def A0D (N:List AD) (i:Nat) (v:Int×Int):List AD:=N.set i ((N.getD i (0,[])).1,(N.getD i (0,[])).2++[(v.1,(N.length:Int))])++[(v.2,[])]
theorem A3D (N:List AD) (i:Nat) (v:Int×Int):(A0D N i v).length=N.length+1:=by simp[A0D]
structure TI2 (h:AH) (m i k:Nat) (N:List AD):Prop where
 len:N.length<=m
 ty:∀x∈N,0<=x.1/\x.1<(h.1.length:Int)
 lo:∀j,j<i->(N.getD j (0,[])).2.length<=200
 at':(N.getD i (0,[])).2.length<=100+k
 hi:∀j,i<j->(N.getD j (0,[])).2.length<=100
theorem A3E {α:Type} (l:List α) (x d:α) (j:Nat):(l++[x]).getD j d=if j<l.length then l.getD j d else if j=l.length then x else d:=by
 simp only[AS];by_cases h:j<l.length
 ·rw[BY h,UR h]
 ·rw[An h,UT (by omega)];by_cases e:j=l.length
  ·rw[BY e,e,AE3];rfl
  ·rw[An e,UJ (by simp only[To];omega)];rfl
theorem Na {α:Type} (l:List α) (x d:α) {i:Nat} (h:i<l.length) (j:Nat):(l.set i x).getD j d=if j=i then x else l.getD j d:=by
 simp only[AS,ADz];by_cases e:i=j
 ·rw[BY e,BY h,BY e.symm];rfl
 ·rw[An e,An (show ¬j=i by omega)]
theorem A3F {N:List AD} {i:Nat} (h:i<N.length) (v:Int×Int) (j:Nat):(A0D N i v).getD j (0,[])=if j=i then ((N.getD i (0,[])).1,(N.getD i (0,[])).2++[(v.1,(N.length:Int))]) else if j=N.length then (v.2,[]) else N.getD j (0,[]):=by
 unfold A0D;rw[A3E,Na _ _ _ h,YG];by_cases a:j=i
 ·rw[BY a,BY (by omega),BY a]
 ·rw[An a,An a];by_cases c:j<N.length
  ·rw[BY c,An (by omega)]
  ·rw[An c];by_cases b:j=N.length
   ·rw[BY b,BY b]
   ·rw[An b,An b,AS,UJ (by omega)];rfl
theorem TI2.add {h:AH} {m i k:Nat} {N:List AD} (b:TI2 h m i k N) (hi:i<N.length) (f:4096<=m) (e:N.length<4096) {v:Int×Int} (v0:0<=v.2) (v1:v.2<(h.1.length:Int)):TI2 h m i (k+1) (A0D N i v):=by
 have c:=λj=>A3F hi v j;refine⟨by rw[A3D];omega,λx a=>?_,λj d=>?_,?_,λj d=>?_⟩
 ·unfold A0D at a;rcases No.1 a with a|a
  ·rcases AE6 a with a|rfl
   ·exact b.ty x a
   ·exact(b.ty (N.getD i (0,[])) (AE N (0,[]) hi) :)
  ·rw[YB.1 a];exact⟨v0,v1⟩
 ·rw[c,An (by omega),An (by omega)];exact b.lo j d
 ·rw[c,BY rfl];have:=b.at';simp only[GO,To];omega
 ·rw[c,An (by omega)];split
  ·simp
  ·exact b.hi j d
theorem TI2.skip {h:AH} {m i k:Nat} {N:List AD} (a:TI2 h m i k N):TI2 h m i (k+1) N:=⟨a.len,a.ty,a.lo,by have:=a.at';omega,a.hi⟩
theorem TI2.next {h:AH} {m i k:Nat} {N:List AD} (a:TI2 h m i k N) (hk:k<=100):TI2 h m (i+1) 0 N:=⟨a.len,a.ty,λj b=>by
 by_cases e:j=i
 ·have:=a.at';rw[e];omega
 ·exact a.lo j (by omega),a.hi (i+1) (by omega),λj b=>a.hi j (by omega)⟩
section
attribute [local go_sem] SL Qx
attribute [local go_sem] S9 gM ne_eq not_false_eq_true
end
section
attribute [local go_sem] KF KD LG LI
end
section
open Go
end
theorem getD_set_ne {α:Type} (l:List α) (d v:α) {i j:Nat} (h:i≠j):(l.set i v).getD j d=l.getD j d:=by
 simp only[AS];rw[List.getElem?_set_ne h]
theorem YZ {α:Type} (l:List α) (d v:α) {i:Nat} (h:i<l.length):(l.set i v).getD i d=v:=by
 simp only[AS];rw[AEQ h];rfl
section
open Go
end
section
attribute [local go_sem] Dg
end
section
attribute [local go_sem] Dg
def YN (l:List (Int×Int)) (x:Int):Int:=l.foldl (λt a=>if a.1=x then a.2 else t) (-1)
end
section
attribute [local go_sem] Jk ZZ
end
abbrev AR (f:List AD) (n:Int):List (Int×Int):=(f.getD n.toNat (0,[])).2
def EL (f:List AD):Int->List Int->Option Int
 | n,[]=>some n
 | n,x :: r=>if YN (AR f n) x<0 then none else EL f (YN (AR f n) x) r
theorem XH (f:List AD):∀(p:List Int) (n m x:Int),EL f n p=some m->EL f n (p++[x])=if YN (AR f m) x<0 then none else some (YN (AR f m) x)
 | [],n,m,x,h=>by
  simp only[EL,tO]at h;subst h;rfl
 | y :: p,n,m,x,h=>by
  simp only[EL,ADF]at h ⊢;split at h
  ·cases h
  ·rename_i a;rw[An a];exact XH f p _ m x h
theorem xL {l:List (Int×Int)} (h:l.Pairwise (λa b=>a.1<b.1)) {a:Int×Int} (ha:a∈l):YN l a.1=a.2:=by
 have k:∀(l:List (Int×Int)) (t:Int),(∀b∈l,¬b.1=a.1)->l.foldl (λt b=>if b.1=a.1 then b.2 else t) t=t:=by
  intro l;induction l with
  | nil=>intro t _;rfl
  | cons b l j =>
   intro t d;rw[OR,An (d b (by simp))];exact j t (λc i=>d c (by simp[i]))
 obtain⟨n,m,rfl⟩:=List.append_of_mem ha;rw[AE2,UW]at h;obtain⟨-,⟨f,-⟩,-⟩:=h;unfold YN;rw[AEx,OR,BY rfl];exact k m _ (λb g e=>by have:=f b g;omega)
theorem OL {f:List AD} (h:EA f=true):AN f 0=f:=by
 obtain⟨d,hs,h0,_⟩:=Mn h;unfold EA at h;simp only[AT,YD]at h;obtain⟨_,a,b⟩:=h;have c:(BG f).1=IU f 0:=by
  unfold BG at a ⊢;split at a
  ·rename_i hh;rw[BY hh]
  ·rename_i hh;exact absurd a hh
 rw[c]at b;rw[<-GE d hs (by omega) (by omega)];exact JM b
theorem oJ {b:Int->Int×Int->Bool} {f:List AD} (h:∀i,i<f.length->∀a∈(f.getD i (0,[])).2,b (i:Int) a=true):GV b f f.length=f:=by
 apply YI
 ·exact KI _ _ _
 ·intro i h1 c;have e:f.getD i (0,[])=f[i]:=by simp[AS,c]
  have:=h i c;simp only[GV,AEl,AEp,A3y];rw[List.filter_eq_self.2 this,e]
theorem oK {b:Int->Int×Int->Bool} {f:List AD} (c:EA f=true) (h:∀i,i<f.length->∀a∈(f.getD i (0,[])).2,b (i:Int) a=true):XC b f=f:=by
 unfold XC;rw[oJ h];exact OL c
theorem jU {f:List AD} (hf:AW f):∀(k:Nat) (o:List Int) (n:Int),KP f o->0<=n->n<f.length->n∉o->f.length-o.length<=k->DK f (k+1) o n=DK f k o n
 | 0,o,n,h,h0,h1,c,hk=>by
  have:=(h.snoc h0 h1 c).len;grind
 | k+1,o,n,h,h0,h1,c,hk=>by
  rw[CK,CK];have key:∀(l:List (Int×Int)) (t:List Int),(∀a∈l,0<=a.2/\a.2<(f.length:Int))->KP f t->f.length-t.length<=k->l.foldl (Ad f (k+1)) t=l.foldl (Ad f k) t:=by
   intro l;induction l with
   | nil=>intros;rfl
   | cons a l p =>
    intro t e m j;have g:=e a (by simp);have hs:Ad f (k+1) t a=Ad f k t a:=by
     unfold Ad;split
     ·rfl
     ·rename_i hn;exact jU hf k t a.2 m g.1 g.2 hn j
    have d:KP f (Ad f k t a)/\t <+: Ad f k t a:=by grind [Ad,ED]
    rw[OR,OR,hs];have:=d.2.length_le;exact p _ (λb i=>e b (by simp[i])) d.1 (by omega)
  exact key _ _ (λa ha=>BE hf ha) (h.snoc h0 h1 c) (by simp only[GO,To];omega)
theorem GH (f:List AD):KP f []:=⟨by simp,λx a=>by cases a⟩
theorem Q1 {f:List AD} (hf:AW f) {n:Int} (h0:0<=n) (h1:n<f.length):∀m,DK f (f.length+m) [] n=DK f f.length [] n
 | 0=>rfl
 | m+1=>by
  rw[<-AFo,jU hf _ [] n (GH f) h0 h1 (by simp) (by simp only[ADw];omega)];exact Q1 hf h0 h1 m
structure Iso (Q R:List AD) (ψ:Int->Int) (C:Int->Prop):Prop where
 arc:∀i,C i->AR R (ψ i)=(AR Q i).map λa=>(a.1,ψ a.2)
 cl:∀i,C i->∀a∈AR Q i,C a.2
 inj:∀i j,C i->C j->ψ i=ψ j->i=j
theorem Q2 {Q R:List AD} {c:Int->Int} {d:Int->Prop} (h:Iso Q R c d):∀(k:Nat) (t:List Int) (i:Int),(∀x∈t,d x)->d i->DK R k (t.map c) (c i)=(DK Q k t i).map c/\∀x∈DK Q k t i,d x
 | 0,t,i,f,hi=>⟨rfl,f⟩
 | k+1,t,i,f,hi=>by
  have key:∀(l:List (Int×Int)) (t:List Int),(∀a∈l,d a.2)->(∀x∈t,d x) ->
    (l.map λa=>(a.1,c a.2)).foldl (Ad R k) (t.map c)=(l.foldl (Ad Q k) t).map c/\∀x∈l.foldl (Ad Q k) t,d x:=by
   intro l;induction l with
   | nil=>intro t _ f;exact⟨rfl,f⟩
   | cons a l q =>
    intro t j f;have ha:=j a (by simp);have hs:Ad R k (t.map c) (a.1,c a.2)=(Ad Q k t a).map c/\∀x∈Ad Q k t a,d x:=by
     unfold Ad;by_cases m:a.2∈t
     ·grind
     ·have p:¬c a.2∈t.map c:=by
       intro hh;obtain⟨x,g,e⟩:=IF.1 hh;exact m (h.inj x a.2 (f x g) ha e▸g)
      rw[An m];simp only[An p];exact Q2 h k t a.2 f ha
    rw[UQ,OR,OR,hs.1];exact q _ (λb o=>j b (by simp[o])) hs.2
  rw[CK,CK];have e:t.map c++[c i]=(t++[i]).map c:=by simp
  have n:(R.getD (c i).toNat (0,[])).2=(AR Q i).map λa=>(a.1,c a.2):=h.arc i hi;rw[n,e];refine key _ _ (h.cl i hi) λx g=>?_;grind
theorem jV {o:List Int} {a:Int->Int} {x:Int} (h:∀y∈o,a y=a x->y=x):B6 (o.map a) (a x)=B6 o x:=by
 have hi:(o.map a).idxOf (a x)=o.idxOf x:=by
  induction o with
  | nil=>rfl
  | cons y o c =>
   rw[UQ,List.idxOf_cons,List.idxOf_cons];have b:=h y (by simp);by_cases e:y=x
   ·subst e;simp
   ·grind
 grind [B6]
theorem Ya {Q R:List AD} {b:Int->Int} {c:Int->Prop} (h:Iso Q R b c) (k:AW Q) (j:c 0) (h0:b 0=0) (r:0<Q.length) (s:Q.length<=R.length)
  (l:∀i,c i->(R.getD (b i).toNat (0,[])).1=(Q.getD i.toNat (0,[])).1):AN R 0=AN Q 0:=by
 have f:DK R R.length [] 0=(DK Q Q.length [] 0).map b/\∀x∈DK Q Q.length [] 0,c x:=by
  have h1:=Q2 h R.length [] 0 (λx m=>by cases m) j;rw[h0]at h1;have q:=Q1 k (n:=0) (by omega) (by omega) (R.length-Q.length)
  simp_all
 unfold AN;rw[f.1];generalize DK Q Q.length [] 0=o at *;rw[AAc];refine UI λi hi=>?_;have d:=f.2 i hi;show Di R (o.map b) (b i)=Di Q o i;unfold Di;have g:(R.getD (b i).toNat (0,[])).2=(AR Q i).map λa=>(a.1,b a.2):=h.arc i d;rw[l i d,g,AAc];refine ADx _ (UI λa ha=>?_);show (a.1,B6 (o.map b) (b a.2))=(a.1,B6 o a.2);rw[jV λy p e=>h.inj y a.2 (f.2 y p) (h.cl i d a ha) e]
structure Ord (f:List AD) (o:List Int):Prop where
 ok:KP f o
 zero:o.getD 0 0=0/\0<o.length
 cl:∀n∈o,∀a∈AR f n,a.2∈o
theorem A3G {f:List AD} (hf:AW f) (h0:0<f.length):[0] <+: DK f f.length [] 0:=by
 obtain⟨k,hk⟩:∃k,f.length=k+1:=⟨f.length-1,by omega⟩;rw[hk,CK];exact(Ez (ED hf k) _ _ (λa ha=>BE hf ha) ((GH f).snoc (by omega) (by omega) (by simp))).2
theorem A3H {f:List AD} (hf:AW f) (h0:0<f.length):Ord f (DK f f.length [] 0):=by
 have h1:=ED hf f.length [] 0 (GH f) (by omega) (by omega) (by simp);have d:=IX hf f.length [] 0 (GH f) (by omega) (by omega) (by simp) (by simp);have b:=A3G hf h0;refine⟨h1.1,?_,λn hn a ha=>?_⟩
 ·obtain⟨t,c⟩:=b;rw[<-c];exact⟨rfl,by simp⟩
 ·grind
theorem HF {o:List Int} (hn:o.Nodup) {i:Nat} (hi:i<o.length):B6 o (o.getD i 0)=(i:Int):=by grind [B6]
theorem FU {o:List Int} {x:Int} (h:x∈o):0<=B6 o x/\B6 o x<(o.length:Int)/\o.getD (B6 o x).toNat 0=x:=by
 unfold B6;rw[BY h];have a:=List.idxOf_lt_length_of_mem h
 simp_all
theorem A0E (f:List AD):(AN f 0).length=(DK f f.length [] 0).length:=by simp[AN]
theorem A0F {f:List AD} {i:Nat} (hi:i<(DK f f.length [] 0).length):(AN f 0).getD i (0,[])=Di f (DK f f.length [] 0) ((DK f f.length [] 0).getD i 0):=by grind [AN]
theorem jW (a:Int->Int×Int->Bool) {f:List AD} {n:Int} (h0:0<=n) (h1:n<f.length):(GV a f f.length).getD n.toNat (0,[])=((f.getD n.toNat (0,[])).1,(AR f n).filter (a n)):=by grind [GV,A3y]
theorem A7p (l:List (Int×Int)) (x:Int):YN l x=-1\/∃a∈l,a.1=x/\a.2=YN l x:=by
 have key:∀(l:List (Int×Int)) (t:Int),l.foldl (λt a=>if a.1=x then a.2 else t) t=t\/∃a∈l,a.1=x/\a.2=l.foldl (λt a=>if a.1=x then a.2 else t) t:=by
  intro l;induction l with
  | nil=>intro t;exact .inl rfl
  | cons b l c =>
   intro t;rw[OR];by_cases h:b.1=x
   ·rw[BY h];rcases c b.2 with e|⟨a,ha,e⟩
    ·exact .inr ⟨b,by simp,h,e.symm⟩
    ·exact .inr ⟨a,by simp[ha],e⟩
   ·rw[An h];rcases c t with e|⟨a,ha,e⟩
    ·exact .inl e
    ·exact .inr ⟨a,by simp[ha],e⟩
 exact key l (-1)
theorem A3I {l:List (Int×Int)} {x:Int} (h:0<=YN l x):∃a∈l,a.1=x/\a.2=YN l x:=by
 rcases A7p l x with e|h1
 ·omega
 ·exact h1
theorem A3J {f:List AD} (hs:KG f) (n:Int):(AR f n).Pairwise (λa b=>a.1<b.1):=(Ia _).1 (nY hs n).1
theorem A0G {f:List AD} (hf:AW f) (hs:KG f) (h0:0<f.length) (a:Int->Int×Int->Bool) {n:Int} (hn:n∈DK (GV a f f.length) f.length [] 0) :
  AR (XC a f) (B6 (DK (GV a f f.length) f.length [] 0) n)=((AR f n).filter (a n)).map (LJ (DK (GV a f f.length) f.length [] 0)):=by
 obtain⟨h,l⟩:=Zl hf hs a;have c:=KI a f f.length;have e:=A3H h (by omega);have d:=λi=>A0F (f:=GV a f f.length) (i:=i);rw[c]at e d;obtain⟨j,k,g⟩:=FU hn;have b:=e.ok.rng n hn;rw[c]at b;show ((XC a f).getD _ (0,[])).2=_;have:XC a f=AN (GV a f f.length) 0:=rfl;rw[this,d _ (by omega),g];unfold Di;rw[jW a b.1 b.2]
theorem Zq {f:List AD}:∀(p:List Int) (n:Int) (z:List Int),EL f n p=none->EL f n (p++z)=none
 | [],_,_,h=>by cases h
 | x :: p,n,z,h=>by
  simp only[EL,ADF]at h ⊢;split
  ·rfl
  ·rename_i a;rw[An a]at h;exact Zq p _ z h
theorem A0H {f:List AD} {p:List Int} {e y:Int} (h:EL f 0 (p++[e])=some y):∃x,EL f 0 p=some x/\∃a∈AR f x,a.1=e/\a.2=y:=by
 cases hh:EL f 0 p with
 | none=>rw[Zq p 0 [e] hh]at h;cases h
 | some x =>
  have b:=XH f p 0 x e hh;rw[h]at b;split at b
  ·cases b
  ·rename_i g;obtain⟨a,ha,c,d⟩:=A3I (l:=AR f x) (x:=e) (by omega);exact⟨x,rfl,a,ha,c,by rw[d];exact(Option.some.inj b).symm⟩
section
attribute [local go_sem] Wj
def Dh (l:List (Int×Int)) (e:Int):Int:=match l with
 | []=>-1
 | a :: l=>if a.1=e then a.2 else Dh l e
theorem Zr (e:Int) (l:List (Int×Int)) {k:Nat} (h:k<l.length):Dh (l.drop k) e=if (l.getD k (0,0)).1=e then (l.getD k (0,0)).2 else Dh (l.drop (k+1)) e:=by
 rw[TO h];have e:l.getD k (0,0)=l[k]:=by simp[AS,h]
 rw[e];rfl
end
section
attribute [local go_sem] Wj
structure A3K (a b:List AD) (m:List Int):Prop where
 len:m.length=a.length
 rng:∀x∈m,x<(b.length:Int)
theorem xM {n:Int} (hn:0<=n):∀ {l:List (Int×Int)} (e:Int),(∀x∈l,x.2<n)->Dh l e<n
 | [],_,_=>by simp only[Dh];omega
 | x :: l,e,h=>by
  simp only[Dh];split
  ·exact h x (by simp)
  ·exact xM hn e (λy a=>h y (by simp[a]))
theorem A3K.set {a b:List AD} {m:List Int} (h:A3K a b m) (k:Nat) {v:Int} (d:v<(b.length:Int)):A3K a b (m.set k v):=by
 refine⟨by simp[h.len],λx c=>?_⟩;rcases AE6 c with c|c
 ·exact h.rng x c
 ·rw[c];exact d
theorem A3K.get {a b:List AD} {m:List Int} (h:A3K a b m) (c:0<b.length) (k:Nat):m.getD k 0<(b.length:Int):=by
 rw[AS];cases hh:m[k]? with
 | none=>show (0:Int)<_;omega
 | some x=>exact h.rng x (gO hh)
def Dv (h:AH) (f:List AD):Prop:=∀x∈f,0<=x.1/\x.1<(h.1.length:Int)
theorem XI {f:List AD} (hf:AW f) (k:Nat):∀x∈(f.getD k (0,[])).2,0<=x.2/\x.2<(f.length:Int):=by
 intro x a;by_cases h:k<f.length
 ·exact(hf.2 _ (AE f (0,[]) h)).2 x a
 ·rw[AS,UJ (by omega)]at a;cases a
end
structure OM (h:AH) (a b:List AD) (m:Int->Int):Prop where
 zero:m 0=0
 rng:∀i,0<=i->i<(a.length:Int)->0<=m i/\m i<(b.length:Int)
 ty:∀i,0<=i->i<(a.length:Int)->BA h (a.getD i.toNat (0,[])).1 (b.getD (m i).toNat (0,[])).1=true
 arc:∀i,0<=i->i<(a.length:Int)->∀x∈AR a i,Dh (AR b (m i)) x.1=m x.2
theorem Mq {l:List (Int×Int)} (h:l.Pairwise (λa b=>a.1<b.1)) {a:Int×Int} (ha:a∈l):Dh l a.1=a.2:=by
 induction l with
 | nil=>cases ha
 | cons b l d =>
  obtain⟨h1,c⟩:=UW.1 h;simp only[Dh];rcases DO.1 ha with rfl|ha
  ·rw[BY rfl]
  ·grind
theorem Q3 {l:List (Int×Int)} {e:Int} (h:0<=Dh l e):∃a∈l,a.1=e/\a.2=Dh l e:=by
 induction l with
 | nil=>simp only[Dh]at h;omega
 | cons b l c =>
  simp only[Dh]at h ⊢;split
  ·grind
  ·grind
theorem A9s {f:List AD} (hs:KG f) {n:Int} {a:Int×Int} (ha:a∈AR f n):Dh (AR f n) a.1=a.2:=Mq (A3J hs n) ha
def RO (f:List AD):Prop:=∀i:Int,0<i->i<(f.length:Int)->∃j,0<=j/\j<i/\∃x∈AR f j,x.2=i
theorem A7q {M:List Int} {k j:Nat} {v:Int} (hk:k<M.length):(M.set k v).getD j 0=if k=j then v else M.getD j 0:=by grind
theorem Q4 {f:List AD} (hf:AW f):∀(k:Nat) (t:List Int) (n:Int),KP f t->0<=n->n<f.length->n∉t ->
  ∀q,t.length<q->q<(DK f k t n).length->∃j,j<q/\∃a∈AR f ((DK f k t n).getD j 0),a.2=(DK f k t n).getD q 0
 | 0,t,n,h,h0,h1,x,q,A,d=>by simp only[DK]at d;omega
 | k+1,t,n,h,h0,h1,x,q,A,d=>by
  have key:∀(l:List (Int×Int)) (u:List Int),(∀a∈l,a∈AR f n)->KP f u->t++[n] <+: u ->
    (∀q,t.length<q->q<u.length->∃j,j<q/\∃a∈AR f (u.getD j 0),a.2=u.getD q 0) ->
    ∀q,t.length<q->q<(l.foldl (Ad f k) u).length->∃j,j<q/\∃a∈AR f ((l.foldl (Ad f k) u).getD j 0),a.2=(l.foldl (Ad f k) u).getD q 0:=by
   intro l;induction l with
   | nil=>intro u _ _ _ hu q o c;exact hu q o c
   | cons a l G =>
    intro u y hu s E;have ha:=y a (by simp);have g:=BE hf ha;rw[OR];by_cases p:a.2∈u
    ·grind [Ad]
    ·have hs:Ad f k u a=DK f k u a.2:=by unfold Ad;rw[An p]
     rw[hs];obtain⟨C,w⟩:=ED hf k u a.2 hu g.1 g.2 p;have r:∀j,j<u.length->(DK f k u a.2).getD j 0=u.getD j 0:=λj D=>by
      obtain⟨v,m⟩:=w;rw[<-m];simp only[AS];rw[UR D]
     have F:u.getD t.length 0=n:=by
      obtain⟨v,m⟩:=s;rw[<-m];simp[AS]
     have B:t.length<u.length:=by
      have:=s.length_le;simp at this;omega
     refine G (DK f k u a.2) (λb i=>y b (by simp[i])) C (s.trans w) (λq o c=>?_);by_cases z:q<u.length
     ·obtain⟨j,H,b,i,e⟩:=E q o z;refine⟨j,H,b,?_,?_⟩
      ·rw[r j (by omega)];exact i
      ·rw[r q z];exact e
     ·by_cases d:q=u.length
      ·subst d;refine⟨t.length,B,a,?_,?_⟩
       ·rw[r _ B,F];exact ha
       ·cases k with
        | zero=>simp only[DK]at c;omega
        | succ k =>
         have hp:u++[a.2] <+: DK f (k+1) u a.2:=by
          rw[CK];exact(Ez (ED hf k) _ _ (λb i=>BE hf i) (hu.snoc g.1 g.2 p)).2
         obtain⟨v,m⟩:=hp;rw[<-m];simp[AS]
      ·exact Q4 hf k u a.2 hu g.1 g.2 p q (by omega) c
  rw[CK]at d ⊢;exact key _ (t++[n]) (λa ha=>ha) (h.snoc h0 h1 x) (AAq _) (λq o c=>by simp only[GO,To]at c;omega) q A d
theorem A7r {f:List AD} (hf:AW f) (hs:KG f) (h0:0<f.length) (b:Int->Int×Int->Bool):RO (XC b f):=by
 obtain⟨g,t⟩:=Zl hf hs b;have h:=KI b f f.length;have c:=A3H g (by omega);have k:=A0E (GV b f f.length);have m:=Q4 g (GV b f f.length).length [] 0 (GH _) (by omega) (by omega) (by simp);have q:=λn hn=>A0G hf hs h0 b (n:=n) hn;rw[h]at c k m;have r:(XC b f).length=(DK (GV b f f.length) f.length [] 0).length:=k;intro i s p;rw[r]at p;generalize DK (GV b f f.length) f.length [] 0=o at *;obtain⟨j,u,a,ha,e⟩:=m i.toNat (by simp only[ADw];omega) (by omega);have l:o.getD j 0∈o:=AE _ 0 (by omega);have d:=c.ok.rng _ l;rw[h]at d;rw[AR,jW b d.1 d.2]at ha;refine⟨(j:Int),by omega,by omega,LJ o a,?_,?_⟩
 ·have:=q _ l;rw[HF c.ok.nd (by omega)]at this;rw[this];exact IF.2 ⟨a,ha,rfl⟩
 ·show B6 o a.2=i;rw[e,HF c.ok.nd (by omega)];omega
theorem oL (x:List Int):Md x x=true:=by grind [Md,Hh,TF]
theorem SM (h:AH) (t:Int):BA h t t=true:=oL _
abbrev EX (p:List Int) (n:Int):Int:=p.getD n.toNat 0
structure Fo (p:List Int) (rk:Int->Nat):Prop where
 rng:∀n,0<=n->n<(p.length:Int)->0<=EX p n/\EX p n<(p.length:Int)
 dec:∀n,0<=n->n<(p.length:Int)->EX p n≠n->rk (EX p n)<rk n
inductive Rt (p:List Int):Int->Int->Prop
 | base {n:Int} (h:EX p n=n):Rt p n n
 | step {n r:Int} (h:EX p n≠n) (h2:Rt p (EX p n) r):Rt p n r
theorem Rt.det {p:List Int} {n r s:Int} (h:Rt p n r) (g:Rt p n s):r=s:=by
 induction h with
 | base h =>
  cases g with
  | base g=>rfl
  | step g _=>exact absurd h g
 | step h _ b =>
  cases g with
  | base g=>exact absurd g h
  | step _ a=>exact b a
theorem Rt.root {p:List Int} {n r:Int} (h:Rt p n r):EX p r=r:=by
 induction h with
 | base h=>exact h
 | step _ _ a=>exact a
theorem Fo.ex {p:List Int} {b:Int->Nat} (h:Fo p b):∀(k:Nat) (n:Int),b n<=k->0<=n->n<(p.length:Int)->∃r,Rt p n r/\0<=r/\r<(p.length:Int)
 | 0,n,hk,h0,h1=>by
  by_cases e:EX p n=n
  ·exact⟨n,.base e,h0,h1⟩
  ·have:=h.dec n h0 h1 e;omega
 | k+1,n,hk,h0,h1=>by
  by_cases e:EX p n=n
  ·exact⟨n,.base e,h0,h1⟩
  ·have g:=h.dec n h0 h1 e;have a:=h.rng n h0 h1;obtain⟨r,c,d,f⟩:=h.ex k (EX p n) (by omega) a.1 a.2;exact⟨r,.step e c,d,f⟩
theorem Fo.root {p:List Int} {a:Int->Nat} (h:Fo p a) {n:Int} (h0:0<=n) (h1:n<(p.length:Int)):∃r,Rt p n r/\0<=r/\r<(p.length:Int):=h.ex (a n) n (NO _) h0 h1
theorem DD {p:List Int} {n v:Int} (h0:0<=n) (h1:n<(p.length:Int)) (x:Int) (a:0<=x):EX (p.set n.toNat v) x=if x=n then v else EX p x:=by
 unfold EX;rw[A7q (by omega)];by_cases e:x=n
 ·subst e;rw[BY rfl,BY rfl]
 ·rw[An (by omega),An e]
def GI (p:List Int) (n:Int):List Int:=p.set n.toNat (EX p (EX p n))
theorem SP (p:List Int) (n:Int):(GI p n).length=p.length:=by simp[GI]
theorem A3L {p:List Int} {f:Int->Nat} (h:Fo p f) {n:Int} (h0:0<=n) (h1:n<(p.length:Int)) (hn:EX p n≠n):Fo (GI p n) f:=by
 have c:=h.rng n h0 h1;have g:=h.rng _ c.1 c.2;have i:=h.dec n h0 h1 hn;have j:f (EX p (EX p n))<=f (EX p n):=by
  by_cases e:EX p (EX p n)=EX p n
  ·rw[e];exact NO _
  ·exact AFd (h.dec _ c.1 c.2 e)
 refine⟨λx a b=>?_,λx a b d=>?_⟩
 ·rw[SP]at b ⊢;unfold GI;rw[DD h0 h1 x a];split
  ·exact g
  ·exact h.rng x a b
 ·rw[SP]at b;unfold GI at d ⊢;rw[DD h0 h1 x a]at d ⊢;split
  ·rename_i e;subst e;omega
  ·rename_i e;rw[An e]at d;exact h.dec x a b d
theorem jX {p:List Int} {o:Int->Nat} (h:Fo p o) {n:Int} (h0:0<=n) (h1:n<(p.length:Int)) (hn:EX p n≠n):∀(k:Nat) (x r:Int),o x<=k->0<=x->x<(p.length:Int)->Rt p x r->Rt (GI p n) x r:=by
 intro k;induction k with
 | zero =>
  intro x r hk a j i;have e:EX p x=x:=Do λe=>by have:=h.dec x a j e;omega
  have d:x≠n:=λb=>hn (b▸e);have:=i.det (.base e);rw[this];refine .base ?_;unfold GI;rw[DD h0 h1 x a,An d];exact e
 | succ k l =>
  intro x r hk a j i;by_cases e:EX p x=x
  ·have d:x≠n:=λb=>hn (b▸e);have:=i.det (.base e);rw[this];refine .base ?_;unfold GI;rw[DD h0 h1 x a,An d];exact e
  ·have u:=h.dec x a j e;have c:=h.rng x a j;have f:Rt p (EX p x) r:=by
    cases i with
    | base g=>exact absurd g e
    | step _ g=>exact g
   by_cases d:x=n
   ·subst d;by_cases b:EX p (EX p x)=EX p x
    ·have:=f.det (.base b);rw[this]at f ⊢;refine .step (r:=EX p x) ?_ ?_
     ·unfold GI;rw[DD h0 h1 x a,BY rfl,b];exact e
     ·have hp:EX (GI p x) x=EX p x:=by
       unfold GI;rw[DD h0 h1 x a,BY rfl,b]
      rw[hp];exact l _ _ (by omega) c.1 c.2 f
    ·have s:=h.dec _ c.1 c.2 b;have m:=h.rng _ c.1 c.2;have t:Rt p (EX p (EX p x)) r:=by
      cases f with
      | base g=>exact absurd g b
      | step _ g=>exact g
     have hp:EX (GI p x) x=EX p (EX p x):=by
      unfold GI;rw[DD h0 h1 x a,BY rfl]
     refine .step ?_ ?_
     ·rw[hp];intro q;rw[q]at s;omega
     ·rw[hp];exact l _ _ (by omega) m.1 m.2 t
   ·have hp:EX (GI p n) x=EX p x:=by
     unfold GI;rw[DD h0 h1 x a,An d]
    refine .step ?_ ?_
    ·rw[hp];exact e
    ·rw[hp];exact l _ _ (by omega) c.1 c.2 f
def E0 (p q:List Int):Prop:=p.length=q.length/\∀x r,0<=x->x<(p.length:Int)->(Rt p x r↔Rt q x r)
theorem E0.refl (p:List Int):E0 p p:=⟨rfl,λ_ _ _ _=>Iff.rfl⟩
theorem E0.trans {p q s:List Int} (h:E0 p q) (g:E0 q s):E0 p s :=
 ⟨h.1.trans g.1,λx r a b=>(h.2 x r a b).trans (g.2 x r a (by rw[<-h.1];exact b))⟩
theorem oM {p:List Int} {d:Int->Nat} (h:Fo p d) {n:Int} (h0:0<=n) (h1:n<(p.length:Int)) (hn:EX p n≠n):E0 p (GI p n):=by
 refine⟨(SP p n).symm,λx r b c=>⟨λa=>jX h h0 h1 hn _ x r (NO _) b c a,λa=>?_⟩⟩;obtain⟨s,hs,-,-⟩:=h.root b c;have:=jX h h0 h1 hn _ x s (NO _) b c hs;have e:=this.det a;rw[<-e];exact hs
def Zs (h:AH) (p ty:List Int) (ar:List (List (Int×Int))):List (Nat×Obj):=[(1,.box 111 true [.p ER h,.sr 2 T3 0 p.length,.sr 3 T3 0 ty.length,.sr 4 DS 0 ar.length]),(2,.arr 3 T3 p),(3,.arr 3 T3 ty),(4,.arr 91 DS ar)]
theorem dH (h:AH) (ty:List Int) (ar:List (List (Int×Int))) (d:Int->Nat) {p:List Int} (hp:Fo p d) {n:Int} (h0:0<=n) (h1:n<(p.length:Int)):BJ Tryz.prog 136 [.bp 1 [] 0,.p T3 n] (Zs h p ty ar) [1]
  (λres A=>∃(t:List Int) (r:Int),res=.p T3 r/\A=Zs h t ty ar/\Fo t d/\E0 p t/\Rt p n r):=by
 refine Kv [0,1,4,13] [] [] Tryz.func136 Tryz.ntmps136 AG ?_;intro w0 K O0 ρ0 j C D;simp only[Ar,Zs];repeat'(first|exact trivial|refine eS rfl ?_|refine rX j ?_ ?_)
 refine AJ (ι:={x:List Int×Int//Fo x.1 d/\E0 p x.1/\0<=x.2/\x.2<(p.length:Int)/\(∀r,Rt x.1 x.2 r->Rt p n r)}) (λx=>⟨[(0,.bp 1 [] 0),(1,.p T3 x.1.2)],[(1,.box 111 true [.p ER h,.sr 2 T3 0 p.length,.sr 3 T3 0 ty.length,.sr 4 DS 0 ar.length]),(2,.arr 3 T3 x.1.1),(3,.arr 3 T3 ty),(4,.arr 91 DS ar)]⟩) (λx=>d x.1.2) ⟨(p,n),hp,E0.refl p,h0,h1,λ_ g=>g⟩ (eW [(1,.nm 1),(2,.nm 2),(3,.nm 3),(4,.nm 4)]) (λx=>?_)
 ·obtain⟨⟨q,m⟩,b,hs,a,f,s⟩:=x;simp only at b hs a f s;have o:q.length=p.length:=hs.1.symm;have c:=b.rng m a (by omega);simp only;repeat'(first|exact trivial|refine eS rfl ?_|refine AB ?_|refine rX j ?_ ?_|refine rC ?_ ?_<;>intro i<;>try(cases i;done))
  ·exact⟨a,f⟩
  ·exact⟨⟨a,f⟩,⟨c.1,by rw[<-o];exact c.2⟩,a,f⟩
  ·exact⟨a,f⟩
  ·have k:EX q m≠m:=i;have B:=b.dec m a (by omega) k;have u:=b.rng _ c.1 c.2;have w:d (EX q (EX q m))<=d (EX q m):=by
    by_cases e:EX q (EX q m)=EX q m
    ·rw[e];exact NO _
    ·exact AFd (b.dec _ c.1 c.2 e)
   have v:=oM b a (by omega) k;have l:EX (GI q m) m=EX q (EX q m):=by
    unfold GI;rw[DD a (by omega) m a,BY rfl]
   refine⟨⟨(GI q m,EX q (EX q m)),A3L b a (by omega) k,hs.trans v,u.1,by rw[<-o];exact u.2,λr z=>s r ?_⟩,by simp only;omega,AC [(1,.nm 1),(2,.nm 2),(3,.nm 3),(4,.nm 4)] rfl rfl ?_ ?_⟩
   ·refine(v.2 m r a (by omega)).2 (.step ?_ ?_)
    ·rw[l];intro e;rw[e]at w;omega
    ·rw[l];exact z
   ·refine eM ?_;rfl
   ·refine eM ?_;exact l
  ·have y:EX q m=m:=by simpa using i
   refine Ev.ent (σ':=⟨[(4,.p T3 m)],Zs h q ty ar⟩) ?_ (AC [(1,.nm 1),(2,.nm 2),(3,.nm 3),(4,.nm 4)] rfl rfl ?_ ?_)
   ·exact fM j [.tmp 4] (.p T3 m) eT ⟨q,m,rfl,rfl,b,hs,s m (.base y)⟩
   ·unfold Zs;rw[o];exact eN
   ·exact eN
def Cq (b n:Nat):List Int:=(List.range n).map λi=>((b+i:Nat):Int)
def Aj (b:Nat) (l:List (Int×Int)):List (Int×Int):=l.map λa=>(a.1,a.2+(b:Int))
def DL (l:List AD) (n:Nat):List Int:=(l.take n).map λx=>x.1
def Fz (b:Nat) (l:List AD) (n:Nat):List (List (Int×Int)):=(l.take n).map λx=>Aj b x.2
theorem oO (b n:Nat):Cq b (n+1)=Cq b n++[((b+n:Nat):Int)]:=by simp[Cq,YF]
theorem KK (b n:Nat):(Cq b n).length=n:=by simp[Cq]
theorem A3M (h:AH) (p ty:List Int) (ar:List (List (Int×Int))) (l:List AD) (f:AW l) (J:p.length<=100000) (L:ty.length=p.length) (E:ar.length=p.length) :
  BJ Tryz.prog 85 [.bp 1 [] 0,.p FQ l] (Zs h p ty ar) [1]
  (λres D=>res=.raw (.tuple #[])/\D=Zs h (p++Cq p.length l.length) (ty++DL l l.length) (ar++Fz p.length l l.length)):=by
 refine Kv [0,1,4,5,6,7,9,15,16,17,18,46,47,48,49] [] [] Tryz.func85 Tryz.ntmps85 AG ?_;intro w0 K O0 ρ0 c H I;have G:=f.1;simp only[Ar,Zs];repeat'(first|exact trivial|refine eS rfl ?_|refine rX c ?_ ?_)
 refine AJ (ι:={i:Nat//i<=l.length}) (λi=>⟨[(0,.bp 1 [] 0),(4,.p (.int .i64) (p.length:Int)),(15,.p FQ l),(16,.p (.int .i64) (l.length:Int)),(17,.p (.int .i64) (i.1:Int))],[(1,.box 111 true [.p ER h,.sr 2 T3 0 (p++Cq p.length i.1).length,.sr 3 T3 0 (ty++DL l i.1).length,.sr 4 DS 0 (ar++Fz p.length l i.1).length]),(2,.arr 3 T3 (p++Cq p.length i.1)),(3,.arr 3 T3 (ty++DL l i.1)),(4,.arr 91 DS (ar++Fz p.length l i.1))]⟩) (λi=>l.length-i.1) ⟨0,IS _⟩ (AC [(1,.nm 1),(2,.nm 2),(3,.nm 3),(4,.nm 4)] rfl rfl ?_ ?_) (λi=>?_)
 ·refine eM ?_;simp[Cq,DL,Fz]
 ·exact eN
 ·obtain⟨i,hi⟩:=i;have s:=KK p.length i;have t:=oO p.length i;have y:(DL l i).length=i:=by unfold DL;rw[Of,ON];omega
  have n:(Fz p.length l i).length=i:=by unfold Fz;rw[Of,ON];omega
  have z:=λh:i<l.length=>EU (λx:AD=>x.1) l (0,[]) h;have o:=λh:i<l.length=>EU (λx:AD=>Aj p.length x.2) l (0,[]) h;simp only;repeat'(first|exact trivial|refine eS rfl ?_|refine rX c ?_ ?_|refine rC ?_ ?_<;>intro b<;>try(cases b;done))
  ·exact b
  ·refine⟨⟨by omega,by omega⟩,?_⟩;rw[s];simp only[AP];omega
  ·have d:i<l.length:=IN.1 b;refine CV drawsAny c 9 [([1,2,3,4,5,6,7],8)] [0] (by kernel_rfl) (NQ ?_ ?_)
   ·trivial
   ·refine PY c [3] ?_ ?_
    ·rw[y];simp only[AP];omega
    ·refine S8 c ?_ ?_ ?_
     ·trivial
     ·trivial
     ·have A:=z d;have q:=o d;have m:p++Cq p.length i++[(p.length:Int)+(i:Int)]=p++Cq p.length (i+1):=by
       rw[t,UN];rfl
      have eT:ty++DL l i++[(l.getD i (0,[])).1]=ty++DL l (i+1):=by
       unfold DL;rw[A,UN]
      have B:p.length+(Cq p.length i).length+1=(p++Cq p.length (i+1)).length:=by rw[GO,KK,KK];omega
      have C:ty.length+(DL l i).length+1=(ty++DL l (i+1)).length:=by rw[<-eT,GO,GO,To]
      have u:=XI f i;have N:(l.getD i (0,[])).2.length<=100000:=(f.2 _ (AE l (0,[]) d)).1;repeat'(first|exact trivial|refine eS rfl ?_|refine rX c ?_ ?_)
      rw[m,eT,B,C];generalize M:(l.getD i (0,[])).2=xs at *;refine AJ (ι:={k:Nat//k<=xs.length}) (λk=>⟨[(0,.bp 1 [] 0),(4,.p (.int .i64) (p.length:Int)),(7,.sr 61 AU 0 (Aj p.length (xs.take k.1)).length),(15,.p FQ l),(16,.p (.int .i64) (l.length:Int)),(17,.p (.int .i64) (i:Int)),(46,.p DS xs),(47,.p (.int .i64) (xs.length:Int)),(48,.p (.int .i64) (k.1:Int))],[(1,.box 111 true [.p ER h,.sr 2 T3 0 (p++Cq p.length (i+1)).length,.sr 3 T3 0 (ty++DL l (i+1)).length,.sr 4 DS 0 (ar++Fz p.length l i).length]),(2,.arr 3 T3 (p++Cq p.length (i+1))),(3,.arr 3 T3 (ty++DL l (i+1))),(4,.arr 91 DS (ar++Fz p.length l i)),(61,.arr 106 AU (Aj p.length (xs.take k.1)))]⟩) (λk=>xs.length-k.1) ⟨0,IS _⟩ (AC [(1,.nm 1),(2,.nm 2),(3,.nm 3),(4,.nm 4),(61,.nil)] rfl rfl ?_ ?_) (λk=>?_)
      ·refine eM ?_;rfl
      ·refine eM ?_;rfl
      ·obtain⟨k,hk⟩:=k;have v:(Aj p.length (xs.take k)).length=k:=by unfold Aj;rw[Of,ON];omega
       have w:=λh:k<xs.length=>EU (λa:Int×Int=>(a.1,a.2+(p.length:Int))) xs (0,0) h;have r:=λh:k<xs.length=>u _ (AE xs (0,0) h);simp only;repeat'(first|exact trivial|refine eS rfl ?_|refine AB ?_|refine rX c ?_ ?_|refine rC ?_ ?_<;>intro b<;>try(cases b;done))
       ·exact b
       ·have e:k<xs.length:=IN.1 b;have F:=r e;refine⟨⟨by omega,by omega⟩,?_⟩;rw[v];simp only[AP];omega
       ·omega
       ·have e:k<xs.length:=IN.1 b;have g:Aj p.length (xs.take (k+1))=Aj p.length (xs.take k)++[((xs.getD k (0,0)).1,(xs.getD k (0,0)).2+(p.length:Int))]:=w e;refine⟨⟨k+1,e⟩,by simp only;omega,AC [(1,.nm 1),(2,.nm 2),(3,.nm 3),(4,.nm 4),(61,.nm 61)] rfl rfl ?_ ?_⟩
        ·simp only[g];exact eN
        ·simp only[g];exact eN
       ·rw[n];simp only[AP];omega
       ·omega
       ·have e:xs.take k=xs:=As (UA.1 b);rw[e];have j:ar++Fz p.length l i++[Aj p.length xs]=ar++Fz p.length l (i+1):=by
         unfold Fz;rw[q,UN]
        refine⟨⟨i+1,d⟩,by simp only;omega,AC [(1,.nm 1),(2,.nm 2),(3,.nm 3),(4,.nm 4)] rfl rfl ?_ ?_⟩
        ·simp only[<-j];exact eN
        ·exact eN
  ·have d:i=l.length:=by omega
   subst d;refine Ev.ent (σ':=⟨[],Zs h (p++Cq p.length l.length) (ty++DL l l.length) (ar++Fz p.length l l.length)⟩) ?_ (AC [(1,.nm 1),(2,.nm 2),(3,.nm 3),(4,.nm 4)] rfl rfl ?_ ?_)
   ·exact fM c [] (.raw (.tuple #[])) rfl ⟨rfl,rfl⟩
   ·unfold Zs;exact eN
   ·exact eN
section
attribute [local go_sem] w6
def B4:List (Int×Int)->List (Int×Int)->List (Int×Int)×List (Int×Int)
 | [],y=>(y,[])
 | a :: x,[]=>(a :: x,[])
 | a :: x,b :: y =>
  if a.1<b.1 then (a :: (B4 x (b :: y)).1,(B4 x (b :: y)).2)
  else if b.1<a.1 then (b :: (B4 (a :: x) y).1,(B4 (a :: x) y).2)
  else (a :: (B4 x y).1,(a.2,b.2) :: (B4 x y).2)
termination_by x y=>x.length+y.length
structure oP (xs ys:List (Int×Int)) (W0:List (Int×Int)) (s:(List (Int×Int)×List (Int×Int))×(List (Int×Int)×List (Int×Int)×Nat)):Prop where
 hi:s.2.2.2<=s.2.2.1.length
 both:s.2.1++(B4 s.1.1 s.1.2).1=(B4 xs ys).1
 wait:s.2.2.1.take s.2.2.2++(B4 s.1.1 s.1.2).2=W0++(B4 xs ys).2
 len:s.2.1.length+s.1.1.length+s.1.2.length<=xs.length+ys.length
 num:s.2.2.2+s.1.1.length<=W0.length+xs.length
theorem AD5 {x y:List (Int×Int)} (h0:0<x.length) (h:y.length=0\/(x.getD 0 (0,0)).1<(y.getD 0 (0,0)).1):B4 x y=(x.getD 0 (0,0) :: (B4 (x.drop 1) y).1,(B4 (x.drop 1) y).2):=by
 cases x with
 | nil=>simp at h0
 | cons a x =>
  cases y with
  | nil =>
   simp only[ADT,YJ];cases x<;>simp[B4]
  | cons b y =>
   have h:a.1<b.1:=by simpa using h
   simp only[ADT,YJ];rw[B4,BY h];rfl
theorem AD6 {x y:List (Int×Int)} (h0:0<y.length) (h:x.length=0\/(y.getD 0 (0,0)).1<(x.getD 0 (0,0)).1):B4 x y=(y.getD 0 (0,0) :: (B4 x (y.drop 1)).1,(B4 x (y.drop 1)).2):=by
 cases y with
 | nil=>simp at h0
 | cons b y =>
  cases x with
  | nil=>simp[B4]
  | cons a x =>
   have h:b.1<a.1:=by simpa using h
   simp only[ADT,YJ];rw[B4,An (by omega),BY h];rfl
theorem A9t {x y:List (Int×Int)} (h0:0<x.length) (h1:0<y.length) (h:(x.getD 0 (0,0)).1=(y.getD 0 (0,0)).1):B4 x y=(x.getD 0 (0,0) :: (B4 (x.drop 1) (y.drop 1)).1,((x.getD 0 (0,0)).2,(y.getD 0 (0,0)).2) :: (B4 (x.drop 1) (y.drop 1)).2):=by
 cases x with
 | nil=>simp at h0
 | cons a x =>
  cases y with
  | nil=>simp at h1
  | cons b y =>
   have h:a.1=b.1:=by simpa using h
   simp only[ADT,YJ];rw[B4,An (by omega),An (by omega)];rfl
section
variable {xs ys W0 x y bo V:List (Int×Int)} {k:Nat}
theorem A9u (h:oP xs ys W0 ((x,y),bo,V,k)) (h0:0<x.length) (f:y.length=0\/(x.getD 0 (0,0)).1<(y.getD 0 (0,0)).1):oP xs ys W0 ((x.drop 1,y),bo++[x.getD 0 (0,0)],V,k):=by
 have e:=AD5 h0 f;obtain⟨h1,a,b,c,d⟩:=h;simp only at h1 a b c d;rw[e]at a b;exact⟨h1,by rw[UN];exact a,b,by simp only[GO,To,YE];omega,by simp only[YE];omega⟩
theorem A9v (h:oP xs ys W0 ((x,y),bo,V,k)) (h0:0<y.length) (f:x.length=0\/(y.getD 0 (0,0)).1<(x.getD 0 (0,0)).1):oP xs ys W0 ((x,y.drop 1),bo++[y.getD 0 (0,0)],V,k):=by
 have e:=AD6 h0 f;obtain⟨h1,a,b,d,c⟩:=h;simp only at h1 a b d c;rw[e]at a b;exact⟨h1,by rw[UN];exact a,b,by simp only[GO,To,YE];omega,c⟩
theorem A7s (h:oP xs ys W0 ((x,y),bo,V,k)) (h0:0<x.length) (h1:0<y.length) (g:(x.getD 0 (0,0)).1=(y.getD 0 (0,0)).1):oP xs ys W0 ((x.drop 1,y.drop 1),bo++[x.getD 0 (0,0)],V.take k++[((x.getD 0 (0,0)).2,(y.getD 0 (0,0)).2)],k+1):=by
 have e:=A9t h0 h1 g;obtain⟨c,a,b,d,f⟩:=h;simp only at c a b d f;rw[e]at a b;have i:(V.take k++[((x.getD 0 (0,0)).2,(y.getD 0 (0,0)).2)]).length=k+1:=by simp only[GO,To,ON];omega
 exact⟨by simp only[i];omega,by rw[UN];exact a,by simp only;rw[As (by omega),UN];exact b,by simp only[GO,To,YE];omega,by simp only[YE];omega⟩
end
def mgO (h:AH) (p ty:List Int) (ar:List (List (Int×Int))) (W:List (Int×Int)) (hi:Nat):List (Nat×Obj) :=
 [(1,.box 111 true [.p ER h,.sr 2 T3 0 p.length,.sr 3 T3 0 ty.length,.sr 4 DS 0 ar.length]),(2,.arr 3 T3 p),(3,.arr 3 T3 ty),(4,.arr 91 DS ar),(5,.box 108 false [.bp 1 [] 0]),(6,.box 173 false [.sr 7 Rx 0 hi]),(7,.arr 172 Rx W)]
theorem A3O (h:AH) (hh:h.1.length<=100000) (H:∀x∈h.1,x.2.1.length<=100000) (p ty:List Int) (ar:List (List (Int×Int))) (W:List (Int×Int)) (hi:Nat) (I:hi<=W.length) (O:hi<=100000000000) {a b:Int} (m:0<=a) (M:a<(p.length:Int)) (o:0<=b) (b1:b<(p.length:Int)) (U:ty.length=p.length) (N:ar.length=p.length)
  (ta:0<=ty.getD a.toNat 0/\ty.getD a.toNat 0<(h.1.length:Int)) (tb:0<=ty.getD b.toNat 0/\ty.getD b.toNat 0<(h.1.length:Int)) (P:(ar.getD a.toNat []).length<=10000000) (Q:(ar.getD b.toNat []).length<=10000000) :
  BJ Tryz.prog 134 [.p T3 a,.p T3 b,.bp 5 [] 0,.bp 6 [] 0] (mgO h p ty ar W hi) [1,5,6]
  (λres A=>((Bo h (ty.getD a.toNat 0) (ty.getD b.toNat 0)).2=false/\res=.p .bool false/\A=mgO h p ty ar W hi) \/
   ((Bo h (ty.getD a.toNat 0) (ty.getD b.toNat 0)).2=true/\res=.p .bool true/\∃n q,q<=n.length/\n.take q=W.take hi++(B4 (ar.getD a.toNat []) (ar.getD b.toNat [])).2 /\
    A=mgO h (p.set b.toNat a) (ty.set a.toNat (Bo h (ty.getD a.toNat 0) (ty.getD b.toNat 0)).1) (ar.set a.toNat (B4 (ar.getD a.toNat []) (ar.getD b.toNat [])).1) n q)):=by
 refine Kv [0,1,2,3,6,7,8,9,10,11,35,71,94,122] [] [] Tryz.func134 Tryz.ntmps134 (AF w7 AG) ?_;intro w0 K O0 ρ0 d R S;have u:a<(ty.length:Int):=by omega
 have C:b<(ty.length:Int):=by omega
 have r:a<(ar.length:Int):=by omega
 have B:b<(ar.length:Int):=by omega
 simp only[mgO,Ar];repeat'(first|exact trivial|refine eS rfl ?_|refine rX d ?_ ?_|refine rC ?_ ?_<;>intro c<;>try(cases c;done))
 ·refine⟨⟨m,u⟩,⟨o,C⟩,ta,tb,hh,H⟩
 ·refine Ev.ent (σ':=⟨[(6,.p .bool false)],mgO h p ty ar W hi⟩) ?_ (AC [(1,.nm 1),(2,.nm 2),(3,.nm 3),(4,.nm 4),(5,.nm 5),(6,.nm 6),(7,.nm 7)] rfl rfl ?_ ?_)
  ·exact fM d [.tmp 6] (.p .bool false) eT (.inl ⟨c,rfl,rfl⟩)
  ·unfold mgO;exact eN
  ·exact eN
 ·exact⟨o,b1⟩
 ·exact⟨m,u⟩
 ·exact⟨⟨m,r⟩,o,B⟩
 ·generalize T:(Bo h (ty.getD a.toNat 0) (ty.getD b.toNat 0)).1=t at *;generalize X:ar.getD a.toNat []=xs at *;generalize Y:ar.getD b.toNat []=ys at *;refine AJ (ι:={s:(List (Int×Int)×List (Int×Int))×(List (Int×Int)×List (Int×Int)×Nat)//oP xs ys (W.take hi) s}) (λs=>⟨[(0,.p T3 a),(1,.p T3 b),(2,.bp 5 [] 0),(3,.bp 6 [] 0),(9,.p DS s.1.1.1),(10,.p DS s.1.1.2),(11,.sr 11 AU 0 s.1.2.1.length)],[(1,.box 111 true [.p ER h,.sr 2 T3 0 p.length,.sr 3 T3 0 ty.length,.sr 4 DS 0 ar.length]),(2,.arr 3 T3 (p.set b.toNat a)),(3,.arr 3 T3 (ty.set a.toNat t)),(4,.arr 91 DS ar),(5,.box 108 false [.bp 1 [] 0]),(6,.box 173 false [.sr 7 Rx 0 s.1.2.2.2]),(7,.arr 172 Rx s.1.2.2.1),(11,.arr 106 AU s.1.2.1)]⟩) (λs=>s.1.1.1.length+s.1.1.2.length) ⟨((xs,ys),([],W,hi)),I,rfl,rfl,by simp,by simp only[ON];omega⟩ (eW [(1,.nm 1),(2,.nm 2),(3,.nm 3),(4,.nm 4),(5,.nm 5),(6,.nm 6),(7,.nm 7),(11,.nil)]) (λs=>?_)
  ·obtain⟨⟨⟨x,y⟩,bo,V,k⟩,i⟩:=s;have J:=i.len;have L:=i.num;have w:=i.hi;simp only[ON]at J L w ⊢;repeat'(first|exact trivial|refine eS rfl ?_|refine rX d ?_ ?_|refine rC ?_ ?_<;>intro c<;>try(cases c;done))
   ·refine⟨λh=>?_,λh=>?_⟩
    ·rw[AT,Fe]at h;exact h.2
    ·rw[AT,UB,ADC]at h;have E:=h.1;have l:y.length≠0:=λe=>E (by rw[e];rfl);exact IN.2 (ADZ l)
   ·have f:0<x.length:=by
     rcases c with c|c
     ·omega
     ·exact IN.1 c.1
    have F:y.length=0\/(x.getD 0 (0,0)).1<(y.getD 0 (0,0)).1:=by
     rcases c with c|c
     ·exact .inl (AFp c)
     ·exact .inr c.2
    refine CV drawsAny d 9 [([0,1,2,3,4],5),([],8)] [6,7] (by kernel_rfl) (NQ ?_ ?_)
    ·exact⟨IN.2 f,UA.2 f⟩
    ·refine PY d [11] ?_ ?_
     ·simp only[AP];omega
     ·refine NQ ?_ ?_
      ·exact UA.2 f
      ·refine PY d [] ?_ ?_
       ·trivial
       ·refine S8 d ?_ ?_ ?_
        ·exact UA.2 f
        ·trivial
        ·repeat'(first|refine eS rfl ?_|refine AB ?_)
         exact⟨⟨((x.drop 1,y),bo++[x.getD 0 (0,0)],V,k),A9u i f F⟩,by simp only[YE];omega,eW [(1,.nm 1),(2,.nm 2),(3,.nm 3),(4,.nm 4),(5,.nm 5),(6,.nm 6),(7,.nm 7),(11,.nm 11)]⟩
   ·have l:y.length≠0:=λe=>c.1 (by rw[e];rfl);have D:0<y.length:=ADZ l;refine⟨λh=>IN.2 D,λh=>?_⟩
    ·rw[UB,ADC]at h;have l:x.length≠0:=λe=>h (by rw[e];rfl);exact IN.2 (ADZ l)
   ·have g:0<y.length:=ADZ λe=>(by assumption:¬_/\_).1 (by rw[e];rfl);have j:x.length=0\/(y.getD 0 (0,0)).1<(x.getD 0 (0,0)).1:=by
     rcases c with c|c
     ·exact .inl (AFp c)
     ·exact .inr c
    refine CV drawsAny d 9 [([0,1,2,3,4],5),([],8)] [6,7] (by kernel_rfl) (NQ ?_ ?_)
    ·exact⟨IN.2 g,UA.2 g⟩
    ·refine PY d [11] ?_ ?_
     ·simp only[AP];omega
     ·refine NQ ?_ ?_
      ·exact UA.2 g
      ·refine PY d [] ?_ ?_
       ·trivial
       ·refine S8 d ?_ ?_ ?_
        ·exact UA.2 g
        ·trivial
        ·repeat'(first|refine eS rfl ?_|refine AB ?_)
         exact⟨⟨((x,y.drop 1),bo++[y.getD 0 (0,0)],V,k),A9v i g j⟩,by simp only[YE];omega,eW [(1,.nm 1),(2,.nm 2),(3,.nm 3),(4,.nm 4),(5,.nm 5),(6,.nm 6),(7,.nm 7),(11,.nm 11)]⟩
   ·rename_i j;have f:0<x.length:=ADZ λe=>c.1 (by rw[e];rfl);have g:0<y.length:=ADZ λe=>j.1 (by rw[e];rfl);refine⟨IN.2 f,IN.2 g,?_⟩;simp only[AP];omega
   ·rename_i j;have f:0<x.length:=ADZ λe=>c.1 (by rw[e];rfl);have g:0<y.length:=ADZ λe=>j.1 (by rw[e];rfl);have G:(x.getD 0 (0,0)).1=(y.getD 0 (0,0)).1:=Int.le_antisymm c.2 (j.2 (IN.2 f));refine CV drawsAny d 12 [([0,1,2,3,4],5),([],10),([6,7],11)] [8,9] (by kernel_rfl) (NQ ?_ ?_)
    ·exact⟨IN.2 f,UA.2 f,UA.2 g⟩
    ·refine PY d [11] ?_ ?_
     ·simp only[AP];omega
     ·refine NQ ?_ ?_
      ·exact⟨UA.2 f,UA.2 g⟩
      ·refine PY d [] ?_ ?_
       ·trivial
       ·refine NQ ?_ ?_
        ·exact⟨UA.2 f,UA.2 g⟩
        ·refine PY d [] ?_ ?_
         ·trivial
         ·refine S8 d ?_ ?_ ?_
          ·exact UA.2 g
          ·trivial
          ·repeat'(first|refine eS rfl ?_|refine AB ?_)
           exact⟨⟨((x.drop 1,y.drop 1),bo++[x.getD 0 (0,0)],V.take k++[((x.getD 0 (0,0)).2,(y.getD 0 (0,0)).2)],k+1),A7s i f g G⟩,by simp only[YE];omega,eW [(1,.nm 1),(2,.nm 2),(3,.nm 3),(4,.nm 4),(5,.nm 5),(6,.nm 6),(7,.nm 7),(11,.nm 11)]⟩
   ·exact⟨m,r⟩
   ·have f:x=[]:=UL (by omega);have g:y=[]:=UL (by omega);subst f g;have v:=i.both;have z:=i.wait;simp only[B4,UO]at v z;refine Ev.ent (σ':=⟨[(6,.p .bool true)],mgO h (p.set b.toNat a) (ty.set a.toNat t) (ar.set a.toNat bo) V k⟩) ?_ (AC [(1,.nm 1),(2,.nm 2),(3,.nm 3),(4,.nm 4),(5,.nm 5),(6,.nm 6),(7,.nm 7)] rfl rfl ?_ ?_)
    ·exact fM d [.tmp 6] (.p .bool true) eT (.inr ⟨by assumption,rfl,V,k,w,z,by rw[v];rfl⟩)
    ·unfold mgO;simp only[YG];exact eN
    ·exact eN
end
end Go.Proofs.YtapkhdkbkodbjaaGreat.Fw
