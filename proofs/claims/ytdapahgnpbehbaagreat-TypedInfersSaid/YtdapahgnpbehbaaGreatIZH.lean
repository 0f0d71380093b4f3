/- Regions in which operations on memory float among quiet ones. -/
import Derived.Test.YtdapahgnpbehbaaGreatIZG
set_option linter.unusedVariables false
set_option linter.unusedSimpArgs false
namespace Go.Proofs.YtdapahgnpbehbaaGreat.Fw
section
open Go Go.RowKit
abbrev EN:=List (Nat×AV×List (Nat×Obj))
def XY (x:Option Oper) (f:Oper→Option (Prop×EN)):Option (Prop×EN) :=
 match x with
 | some o=>f o
 | none=>none
def Vt (d:Option Nat) (r:BN) (f:Nat→Prop→AV→List (Nat×Obj)→Option (Prop×EN)):Option (Prop×EN) :=
 match d,r with
 | some d,some (vc,v,obs)=>f d vc v obs
 | _,_=>none
def XZ (d:Nat) (vc:Prop) (v:AV) (obs:List (Nat×Obj)) (r:Option (Prop×EN)):Option (Prop×EN) :=
 match r with
 | some (a,l)=>some (vc∧a,(d,v,obs) :: l)
 | none=>none
def Zh (tb:Tb) (ops:List Oper) (base:List (Nat×Obj)):List Nat→List (Nat×List (Nat×Obj))→List (Nat×AV)→Option (Prop×EN)
 | [],_,_=>some (True,[])
 | i :: Q,E,env=>XY (ops[i]?) fun o=>Vt o.dst (aq tb ⟨env,Kg false o.op base E⟩ (o.dst.getD 0) o.op) fun d vc v obs=>XZ d vc v obs (Zh tb ops base Q (Ij d obs E) ((d,v) :: env))
def Kn:EN→St→St
 | [],σ=>σ
 | (d,v,obs) :: r,σ=>Kn r ⟨(d,v) :: σ.env,obs++σ.objs⟩
def Om:EN→List (Nat×Obj)→Bool
 | [],_=>true
 | (_,_,obs) :: r,objs=>(obs.all fun p=>(lk p.1 objs).isNone)&&Om r (obs++objs)
def A0v (tb:Tb) (ops:List Oper) (Q:List Nat) (ens:EN) (τ:St):Prop:=∃vc:Prop,Zh tb ops τ.objs Q [] τ.env=some (vc,ens)∧vc∧Om ens τ.objs=true
def qs (a:List (List Nat×Nat)) (D:List Nat):List Nat:=(a.flatMap (·.1))++D
def qB1 (ops:List Oper) (anc:List (List Nat)) (L Q:List Nat):List Nat→List Nat→Bool
 | [],_=>true
 | i :: r,pre=>(match ops[i]? with
   | some o=>o.dst.isSome&&o.guard.isNone&&((De o).all fun e=>AU e L||AU e pre)&&((F2 o.op).all fun t=>Q.all fun j=>Ac ops j != some t||(AU j (anc.getD i [])&&AU j pre))&&(pre.all fun j=>Ac ops j != o.dst)&&!AU i L&&!AU i pre
   | none=>false)&&qB1 ops anc L Q r (i :: pre)
def Qb (ops:List Oper) (anc:List (List Nat)) (p0:Nat):List Nat→List (List Nat×Nat)→List Nat→Bool
 | L,[],D=>qB1 ops anc L D D []&&((List.range p0).all fun i=>AU i L||AU i D)&&decide (L.length+D.length=p0)&&decide (p0≤ops.length)&&(L.all fun i=>decide (i<p0))&&(D.all fun i=>decide (i<p0))&&((List.range ops.length).all fun i=>decide (i<p0)||(List.range i).all fun j=>AU j (anc.getD i []))
 | L,(A,l) :: a,D=>qB1 ops anc L (A++qs a D) (A++qs a D) []&&(match ops[l]? with
   | some o=>o.guard.isNone&&((De o).all fun e=>AU e L||AU e A)&&(A.all fun j=>AU j (anc.getD l []))&&!AU l L&&!AU l (A++qs a D)
   | none=>false)&&(a.all fun p=>AU l (anc.getD p.2 []))&&Qb ops anc p0 (l :: (A++L)) a D
def A0w (ops:List Oper) (anc:List (List Nat)):Bool :=
 (List.range ops.length).all fun i=>match ops[i]? with|some o=>((De o).all fun e=>decide (e<i))&&((anc.getD i []).all fun j=>AU j (De o)||(De o).any fun e=>AU j (anc.getD e []))|none=>false
structure Lp (σ σ' X:St):Prop where
 env:∀s,lk s σ'.env=(lk s X.env).or (lk s σ.env)
 objs:∀n,lk n σ'.objs=(lk n X.objs).or (lk n σ.objs)
structure XIn (ens:EN) (X:St):Prop where
 env:∀s v,lk s X.env=some v→∃obs,(s,v,obs)∈ens
 objs:∀n o,lk n X.objs=some o→∃e∈ens,(n,o)∈e.2.2
def Vu (c:Cx) (o:Oper) (σ:St) (ens:EN) (N:St→Prop):Prop :=
 ∀(X σ':St),Lp σ σ' X→XIn ens X→∀(a:Act) (w:World) (next:Act→World→Prop) (Q:Exit→Act→World→Prop),c.sat σ' a w →
  (∀τ,N τ→∀(b:Act) (w':World) (d:St),Lp τ d X→c.sat d b w'→next b w')→o.wpIn (FR c.r) 0 c.P a w next Q
def pF (c:Cx) (ops:List Oper) (Kf:St→Prop):List (List Nat×Nat)→List Nat→EN→St→Prop
 | [],D,ens,τ=>A0v c.tb ops D ens τ∧Kf (Kn ens τ)
 | (A,l) :: a,D,ens,τ=>A0v c.tb ops (A++qs a D) ens τ∧∃o,ops[l]?=some o∧Vu c o (Kn (ens.take A.length) τ) (ens.drop A.length) (fun b=>pF c ops Kf a D (ens.drop A.length) b)
def MO (Q:List Nat) (ens:EN) (i:Nat):En :=
 match lk i (Q.zip ens) with
 | some (_,v,obs)=>⟨true,v,obs⟩
 | none=>⟨true,.top,[]⟩
section
variable {ops:List Oper} {en:Nat→En} {τ:St}
theorem Oo:∀(l:List Nat),(Ah ops en τ l).env=(Ah ops en ⟨[],[]⟩ l).env++τ.env
 | []=>rfl
 | i :: r=>by
  simp only[Ah];cases Ac ops i with
  | none=>simp only[St.add];exact Oo r
  | some d=>simp only[St.add,ABe];rw[Oo r]
theorem Zi (l:List Nat):(Ah ops en τ l).objs=(Ah ops en ⟨[],[]⟩ l).objs++τ.objs:=by
 rw[Et,Et];simp
theorem pG (l:List Nat):Lp τ (Ah ops en τ l) (Ah ops en ⟨[],[]⟩ l) :=
 ⟨fun s=>by rw[Oo,Av],fun n=>by rw[Zi,Av]⟩
structure Own (ops:List Oper) (en:Nat→En) (τ:St) (Q:List Nat):Prop where
 slot:∀i∈Q,∀j∈Q,∀s,Ac ops i=some s→Ac ops j=some s→i=j
 new:∀i∈Q,∀n o,lk n (en i).obs=some o→lk n τ.objs=none
 name:∀i∈Q,∀j∈Q,∀n o o',lk n (en i).obs=some o→lk n (en j).obs=some o'→i=j
theorem pH {Q l:List Nat} (h:Own ops en τ Q) (d:∀i∈l,i∈Q) (s:Nat) (v:AV):lk s (Ah ops en τ l).env=some v↔(∃i∈l,Ac ops i=some s∧(en i).v=v)∨((∀i∈l,Ac ops i≠some s)∧lk s τ.env=some v):=by
 rw[Eu];cases hf:l.find? (fun j=>Ac ops j==some s) with
 | none =>
  have hn:∀i∈l,Ac ops i≠some s:=fun i hi=>by simpa using ABM.1 hf i hi
  constructor
  ·intro b;exact .inr ⟨hn,b⟩
  ·rintro (⟨i,hi,a,_⟩|⟨_,b⟩)
   ·exact absurd a (hn i hi)
   ·exact b
 | some j =>
  have c:=ABC hf;have a:Ac ops j=some s:=by simpa using ACA hf
  constructor
  ·intro b;cases b;exact .inl ⟨j,c,a,rfl⟩
  ·rintro (⟨i,hi,e,rfl⟩|⟨hn,_⟩)
   ·rw[h.slot i (d i hi) j (d j c) s e a]
   ·exact absurd a (hn j c)
theorem pI {Q l:List Nat} (h:Own ops en τ Q) (e:∀i∈l,i∈Q) (n:Nat) (o:Obj):lk n (Ah ops en τ l).objs=some o↔(∃i∈l,lk n (en i).obs=some o)∨((∀i∈l,lk n (en i).obs=none)∧lk n τ.objs=some o):=by
 rw[Et,Av];cases hf:lk n (l.flatMap fun j=>(en j).obs) with
 | some m =>
  obtain⟨j,c,a⟩:=cO hf;simp only[ACi];constructor
  ·intro b;cases b;exact .inl ⟨j,c,a⟩
  ·rintro (⟨i,hi,d⟩|⟨hn,_⟩)
   ·have:=h.name i (e i hi) j (e j c) n o m d a;subst this;rw[←a,d]
   ·rw[hn j c]at a;cases a
 | none =>
  have hn:=Jf hf;simp only[Option.none_or];constructor
  ·intro b;exact .inr ⟨hn,b⟩
  ·rintro (⟨k,g,f⟩|⟨_,h1⟩)
   ·rw[hn k g]at f;cases f
   ·exact h1
theorem kY {Q l A:List Nat} (h:Own ops en τ Q) (k:∀i∈l,i∈Q) (m:∀i∈A,i∈l):Lp (Ah ops en τ A) (Ah ops en τ l) (Ah ops en ⟨[],[]⟩ (l.filter fun i=>!AU i A)):=by
 have h0:Own ops en ⟨[],[]⟩ Q:=⟨h.slot,fun _ _ _ _ _=>rfl,h.name⟩;have hf:∀i∈l.filter (fun i=>!AU i A),i∈Q:=fun i hi=>k i (AAg.1 hi).1;have q:∀i∈A,i∈Q:=fun i hi=>k i (m i hi);have e:∀i,i∈l.filter (fun i=>!AU i A)↔i∈l∧i∉A:=fun i=>by
  rw[AAg];have:=AW i A;constructor
  ·rintro⟨h1,p⟩;exact⟨h1,fun r=>by rw[this.2 r]at p;cases p⟩
  ·rintro⟨h1,p⟩;refine⟨h1,?_⟩;cases t:AU i A with
   | false=>rfl
   | true=>exact absurd (this.1 t) p
 refine⟨fun s=>ACl fun v=>?_,fun n=>ACl fun o=>?_⟩
 ·rw[pH h k,Option.or_eq_some_iff,pH h0 hf,pH h q];constructor
  ·rintro (⟨i,hi,d,a⟩|⟨hn,a⟩)
   ·by_cases c:i∈A
    ·refine .inr ⟨?_,.inl ⟨i,c,d,a⟩⟩;cases b:lk s (Ah ops en ⟨[],[]⟩ (l.filter fun i=>!AU i A)).env with
     | none=>rfl
     | some u =>
      rcases (pH h0 hf s u).1 b with ⟨j,f,g,_⟩|⟨_,b⟩
      ·have:=h.slot i (k i hi) j (hf j f) s d g;subst this;exact absurd c ((e i).1 f).2
      ·cases b
    ·exact .inl (.inl ⟨i,(e i).2 ⟨hi,c⟩,d,a⟩)
   ·refine .inr ⟨?_,.inr ⟨fun i hi=>hn i (m i hi),a⟩⟩;cases b:lk s (Ah ops en ⟨[],[]⟩ (l.filter fun i=>!AU i A)).env with
    | none=>rfl
    | some u =>
     rcases (pH h0 hf s u).1 b with ⟨j,f,g,_⟩|⟨_,b⟩
     ·exact absurd g (hn j ((e j).1 f).1)
     ·cases b
  ·rintro ((⟨i,hi,d,a⟩|⟨_,a⟩)|⟨b,⟨i,hi,d,a⟩|⟨hn,a⟩⟩)
   ·exact .inl ⟨i,((e i).1 hi).1,d,a⟩
   ·cases a
   ·exact .inl ⟨i,m i hi,d,a⟩
   ·refine .inr ⟨fun i hi d=>?_,a⟩;by_cases c:i∈A
    ·exact hn i c d
    ·have:=(pH h0 hf s (en i).v).2 (.inl ⟨i,(e i).2 ⟨hi,c⟩,d,rfl⟩);rw[b]at this;cases this
 ·rw[pI h k,Option.or_eq_some_iff,pI h0 hf,pI h q];constructor
  ·rintro (⟨i,hi,a⟩|⟨hn,a⟩)
   ·by_cases c:i∈A
    ·refine .inr ⟨?_,.inl ⟨i,c,a⟩⟩;cases b:lk n (Ah ops en ⟨[],[]⟩ (l.filter fun i=>!AU i A)).objs with
     | none=>rfl
     | some u =>
      rcases (pI h0 hf n u).1 b with ⟨j,f,g⟩|⟨_,b⟩
      ·have:=h.name i (k i hi) j (hf j f) n _ _ a g;subst this;exact absurd c ((e i).1 f).2
      ·cases b
    ·exact .inl (.inl ⟨i,(e i).2 ⟨hi,c⟩,a⟩)
   ·refine .inr ⟨?_,.inr ⟨fun i hi=>hn i (m i hi),a⟩⟩;cases b:lk n (Ah ops en ⟨[],[]⟩ (l.filter fun i=>!AU i A)).objs with
    | none=>rfl
    | some u =>
     rcases (pI h0 hf n u).1 b with ⟨j,f,g⟩|⟨_,b⟩
     ·rw[hn j ((e j).1 f).1]at g;cases g
     ·cases b
  ·rintro ((⟨i,hi,a⟩|⟨_,a⟩)|⟨b,⟨i,hi,a⟩|⟨hn,a⟩⟩)
   ·exact .inl ⟨i,((e i).1 hi).1,a⟩
   ·cases a
   ·exact .inl ⟨i,m i hi,a⟩
   ·refine .inr ⟨fun i hi=>?_,a⟩;by_cases c:i∈A
    ·exact hn i c
    ·cases d:lk n (en i).obs with
     | none=>rfl
     | some u =>
      have:=(pI h0 hf n u).2 (.inl ⟨i,(e i).2 ⟨hi,c⟩,d⟩);rw[b]at this;cases this
end
def pJ (tb:Tb) (ops:List Oper) (τ:St) (en:Nat→En) (pre:List Nat) (i:Nat) (o:Oper):Prop :=
 ∃vc:Prop,aq tb ⟨(Ah ops en τ pre).env,Bo false (F2 o.op) τ.objs (ES ops en pre)⟩ (o.dst.getD 0) o.op=some (vc,(en i).v,(en i).obs)∧vc
theorem Xa {ts:List Nat} {base:List (Nat×Obj)} {d:Nat} {obs:List (Nat×Obj)} {E:List (Nat×List (Nat×Obj))}:Bo false ts base (Ij d obs E)=Bo false ts base ((d,obs) :: E):=by
 cases obs with
 | nil=>simp only[Ij,Bo,AB9];split<;>rfl
 | cons x r=>rfl
theorem pK {o:Op} {base:List (Nat×Obj)} {E:List (Nat×List (Nat×Obj))}:Kg false o base E=Bo false (F2 o) base E:=by
 cases E<;>rfl
theorem UL {tb:Tb} {ops:List Oper} {τ:St} {en:Nat→En}:∀ {Q:List Nat} {ens:EN} {pre:List Nat} {E:List (Nat×List (Nat×Obj))} {vc:Prop},Zh tb ops τ.objs Q E (Ah ops en τ pre).env=some (vc,ens)→vc →
  (∀ts,Bo false ts τ.objs E=Bo false ts τ.objs (ES ops en pre))→(∀(j i:Nat) (e:Nat×AV×List (Nat×Obj)),Q[j]?=some i→ens[j]?=some e→en i=⟨true,e.2.1,e.2.2⟩) →
  ens.length=Q.length∧∀(j i:Nat),Q[j]?=some i→∃(o:Oper) (e:Nat×AV×List (Nat×Obj)),ops[i]?=some o∧ens[j]?=some e∧Ac ops i=some e.1∧pJ tb ops τ en ((Q.take j).reverse++pre) i o
 | [],ens,pre,E,vc,h,q,g,m=>by
  simp only[Zh]at h;cases h;exact⟨rfl,fun j i h=>by simp at h⟩
 | i :: Q,ens,pre,E,vc,h,q,g,m=>by
  simp only[Zh]at h;cases b:ops[i]? with
  | none=>rw[b]at h;simp[XY]at h
  | some o =>
   rw[b]at h;simp only[XY]at h;cases a:o.dst with
   | none=>rw[a]at h;simp[Vt]at h
   | some d =>
    cases c:aq tb ⟨(Ah ops en τ pre).env,Kg false o.op τ.objs E⟩ (o.dst.getD 0) o.op with
    | none=>rw[c,a]at h;simp[Vt]at h
    | some r =>
     obtain⟨y,v,obs⟩:=r;rw[c,a]at h;simp only[Vt]at h;cases n:Zh tb ops τ.objs Q (Ij d obs E) ((d,v) :: (Ah ops en τ pre).env) with
     | none=>rw[n]at h;simp[XZ]at h
     | some p =>
      obtain⟨A,z⟩:=p;rw[n]at h;simp only[XZ]at h;cases h;have hi:=m 0 i (d,v,obs) rfl rfl;have l:Ac ops i=some d:=by simp[Ac,b,a]
      have w:(Ah ops en τ (i :: pre)).env=(d,v) :: (Ah ops en τ pre).env:=by simp[Ah,l,St.add,hi]
      have s:=UL (pre:=i :: pre) (by rw[w];exact n) q.2 (fun ts=>by
       rw[Xa];simp only[ES,tO,l,ACq,hi,Bo];rw[g ts];rfl) (fun j k e h1 f=>m (j+1) k e (by simpa using h1) (by simpa using f))
      refine⟨by simp[s.1],fun j k hk=>?_⟩;cases j with
      | zero =>
       simp only[AAj,AAo]at hk;subst hk;refine⟨o,(d,v,obs),b,rfl,l,y,?_,q.1⟩;rw[pK,g]at c;simp only[AAL,List.reverse_nil,AB9];rw[hi];exact c
      | succ j =>
       obtain⟨x,e,h1,f,t,u⟩:=s.2 j k (by simpa using hk);refine⟨x,e,h1,by simpa using f,t,?_⟩;simpa[AAu] using u
theorem Oq:∀ {ens:EN} {objs:List (Nat×Obj)},Om ens objs=true→∀(j:Nat) (e:Nat×AV×List (Nat×Obj)),ens[j]?=some e→∀n o,lk n e.2.2=some o→lk n objs=none∧∀(g:Nat) (a:Nat×AV×List (Nat×Obj)) (b:Obj),ens[g]?=some a→lk n a.2.2=some b→j=g
 | [],objs,_,j,e,h=>by simp at h
 | (d,v,obs) :: r,objs,h,j,e,f=>by
  simp only[Om,An,DO,AAx]at h;have h0:∀n o,lk n obs=some o→lk n objs=none:=fun n o hn=>h.1 _ (E9 hn);have l:=Oq h.2;have low:∀(k:Nat) a,r[k]?=some a→∀n o b,lk n obs=some o→lk n a.2.2=some b→False:=by
   intro k a hk n o b h1 c;have:=(l k a hk n b c).1;rw[Av,h1]at this;simp at this
  intro n o hn;cases j with
  | zero =>
   simp only[AAj,AAo]at f;subst f;refine⟨h0 n o hn,fun g a b h1 c=>?_⟩;cases g with
   | zero=>rfl
   | succ k=>exact(low k a (by simpa using h1) n o b hn c).elim
  | succ j =>
   have f:r[j]?=some e:=by simpa using f
   have h1:=l j e f n o hn;refine⟨?_,fun g a b c i=>?_⟩
   ·have:=h1.1;rw[Av]at this;cases m:lk n obs with
    | none=>rw[m]at this;simpa using this
    | some u=>rw[m]at this;simp at this
   ·cases g with
    | zero =>
     simp only[AAj,AAo]at c;subst c;exact(low j e f n b o i hn).elim
    | succ k=>rw[h1.2 k a b (by simpa using c) i]
end
section
open Go Go.RowKit
structure UM (ops:Array Oper) (anc:List (List Nat)):Prop where
 lt:∀i o,ops[i]?=some o→∀e∈De o,e<i
 cl:∀i o,ops[i]?=some o→∀j∈anc.getD i [],j∈De o∨∃e∈De o,j∈anc.getD e []
theorem A1n {ops:Array Oper} {anc:List (List Nat)} (h:A0w ops.toList anc=true):UM ops anc:=by
 simp only[A0w,DO,oN]at h;have hi:∀i o,ops[i]?=some o→((De o).all fun e=>decide (e<i))=true∧((anc.getD i []).all fun j=>AU j (De o)||(De o).any fun e=>AU j (anc.getD e []))=true:=by
  intro i o a;have d:i<ops.toList.length:=by
   have:=(dO.1 a).1;simpa using this
  have:=h i d;have f:ops.toList[i]?=some o:=by simpa using a
  rw[f]at this;simpa only[An] using this
 refine⟨fun i o a e b=>?_,fun i o a j c=>?_⟩
 ·have:=(hi i o a).1;simp only[DO,GO]at this;exact this e b
 ·have:=(hi i o a).2;simp only[DO,AA1,OF,AW]at this;exact this j c
section
variable {ops:Array Oper} {k:Nat} {anc:List (List Nat)} {Q:Exit→Act→World→Prop}
theorem P0 (c:UM ops anc) {listed:Array Bool} (k:∀i o,ops[i]?=some o→listed.getD i true=true→∀e∈De o,listed.getD e false=true) :
  ∀i o,ops[i]?=some o→(∀e∈De o,listed.getD e false=true)→∀j∈anc.getD i [],listed.getD j false=true:=by
 intro i;induction i using Nat.strongRecOn with
 | _ i q =>
  intro o b d j l;rcases c.cl i o b j l with h1|⟨e,f,m⟩
  ·exact d j h1
  ·have p:=c.lt i o b e f;have r:i<ops.size:=(dO.1 b).1;have h:ops[e]?=some (ops[e]'(by omega)):=AA7 (by omega);have a:=d e f;have n:listed.getD e true=true:=by
    by_cases g:e<listed.size
    ·simp[Array.getD,g]at a ⊢;exact a
    ·simp[Array.getD,g]at a
   exact q e p _ h (k e _ h n) j m
theorem Ot {F:Fence} {P:Program} (g:UM ops anc) (s:∀i o,ops[i]?=some o→k≤i→∀j,j<i→j∈anc.getD i []):∀ {rest:List Oper} {p:Nat} {listed:Array Bool} {a:Act} {w:World},ops.toList.drop p=rest→k≤p→p≤ops.size→listed.size=ops.size →
  (∀i,i<ops.size→(listed.getD i true=true↔i<p))→wpListIn F 0 P ops Q rest a w→wpAnyIn F 0 P .any ops Q rest.length listed a w
 | [],p,listed,a,w,t,L,O,v,c,d=>by
  have hp:p=ops.size:=by
   have:=AB5 List.length t;simp at this;omega
  refine⟨?_,d⟩;apply ABX.2;intro i hi;rw[DI]at hi;obtain⟨h1,o,m,_⟩:=hi;have h:i<ops.size:=(dO.1 m).1;have:=(c i h).2 (by omega);rw[h1]at this;cases this
 | o :: r,p,listed,a,w,t,L,O,v,c,d=>by
  obtain⟨f,D⟩:=UG t;have f:ops[p]?=some o:=by simpa using f
  have y:p<ops.size:=(dO.1 f).1;have n:∀e b,e<ops.size→listed.getD e b=listed.getD e true:=fun e b l=>by
   have:e<listed.size:=by omega
   simp[Array.getD,this]
  have H:∀i o,ops[i]?=some o→listed.getD i true=true→∀e∈De o,listed.getD e false=true:=by
   intro i o m h1 e l;have h:i<ops.size:=(dO.1 m).1;have A:=(c i h).1 h1;have q:=g.lt i o m e l;rw[n e false (by omega)];exact(c e (by omega)).2 (by omega)
  have R:∀i,i∈Region.ready .any ops listed→i=p:=by
   intro i hi;rw[DI]at hi;obtain⟨h1,E,x,A⟩:=hi;have h:i<ops.size:=(dO.1 x).1;have T:¬i<p:=fun M=>by rw[(c i h).2 M]at h1;cases h1
   by_cases u:i=p
   ·exact u
   ·have q:=P0 g H i E x A p (s i E x (by omega) p (by omega));rw[n p false y]at q;have:=(c p y).1 q;omega
  refine⟨fun N=>?_,fun i hi=>?_⟩
  ·exfalso;have:p∈Region.ready .any ops listed:=by
    rw[DI];refine⟨?_,o,f,fun e l=>?_⟩
    ·cases I:listed.getD p true with
     | false=>rfl
     | true=>have:=(c p y).1 I;omega
    ·have:=g.lt p o f e l;rw[n e false (by omega)];exact(c e (by omega)).2 this
   rw[N]at this;cases this
  ·have u:=R i hi;subst u;have C:∀(j:Nat),j<ops.size→((listed.setIfInBounds i true).getD j true=true↔j<i+1):=by
    intro j J;have K:j<listed.size:=by omega
    by_cases B:j=i
    ·subst B;simp[Array.getD,K]
    ·have h1:(listed.setIfInBounds i true).getD j true=listed.getD j true:=getD_set_ne true (fun e=>B e.symm);rw[h1,c j J];omega
   unfold wpOpIn;rw[f];simp only;unfold wpListIn at d;split
   ·rename_i z;rw[BY z]at d;exact Oper.wpIn_mono (fun S w' G=>Ot g s D.symm (by omega) (by omega) (by simpa using v) C G) d
   ·rename_i z;rw[At z]at d;exact⟨d.1,Ot g s D.symm (by omega) (by omega) (by simpa using v) C d.2⟩
end
structure QOk (ops:List Oper) (anc:List (List Nat)) (L Q:List Nat):Prop where
 nodup:Q.Nodup
 pos:∀(j i:Nat),Q[j]?=some i→i∉L∧∃o,ops[i]?=some o∧o.guard=none∧(∀e∈De o,e∈L∨e∈Q.take j)∧(∀t∈F2 o.op,∀k∈Q,Ac ops k=some t→k∈anc.getD i []∧k∈Q.take j)
 slot:∀i∈Q,∀j∈Q,∀s,Ac ops i=some s→Ac ops j=some s→i=j
theorem Xb {ops:List Oper} {anc:List (List Nat)} {L Q:List Nat}:∀ {r pre:List Nat},qB1 ops anc L Q r pre=true →
  (∀(j i:Nat),r[j]?=some i→i∉L∧i∉pre∧i∉r.take j∧∃o,ops[i]?=some o∧o.guard=none∧(∀e∈De o,e∈L∨e∈pre∨e∈r.take j)∧(∀t∈F2 o.op,∀k∈Q,Ac ops k=some t→k∈anc.getD i []∧(k∈pre∨k∈r.take j)) ∧
   ∀k,k∈pre∨k∈r.take j→Ac ops k≠Ac ops i)
 | [],pre,h,j,i,a=>by simp at a
 | x :: r,pre,h,j,i,a=>by
  simp only[qB1,An]at h;obtain⟨h1,C⟩:=h;cases j with
  | zero =>
   simp only[AAj,AAo]at a;subst a;cases f:ops[x]? with
   | none=>rw[f]at h1;cases h1
   | some o =>
    rw[f]at h1;simp only[An,DO,AA1,AW,ABR,To,AAx]at h1;obtain⟨⟨⟨⟨⟨⟨D,y⟩,z⟩,A⟩,B⟩,l⟩,m⟩:=h1;refine⟨fun h=>(by rw[(AW _ _).2 h]at l;cases l),fun h=>(by rw[(AW _ _).2 h]at m;cases m),by simp,o,rfl,y,fun e d=>?_,fun t g k hk c=>?_,fun k hk=>?_⟩
    ·rcases z e d with h|h
     ·exact .inl h
     ·exact .inr (.inl h)
    ·rcases A t g k hk with h|h
     ·exact absurd c h
     ·exact⟨h.1,.inl h.2⟩
    ·rcases hk with hk|hk
     ·have:=B k hk;simpa[Ac,f] using this
     ·simp at hk
  | succ j =>
   obtain⟨n,b,p,o,q,s,u,v,w⟩:=Xb C j i (by simpa using a);simp only[Do,not_or]at b;refine⟨n,b.2,by simp[AAu,b.1,p],o,q,s,fun e d=>?_,fun t g k hk c=>?_,fun k hk=>w k ?_⟩
   ·rcases u e d with h|h|h
    ·exact .inl h
    ·rcases Do.1 h with rfl|h
     ·exact .inr (.inr (by simp))
     ·exact .inr (.inl h)
    ·exact .inr (.inr (by simp[h]))
   ·obtain⟨b1,b2⟩:=v t g k hk c;refine⟨b1,?_⟩;rcases b2 with h|h
    ·rcases Do.1 h with rfl|h
     ·exact .inr (by simp)
     ·exact .inl h
    ·exact .inr (by simp[h])
   ·rcases hk with hk|hk
    ·exact .inl (by simp[hk])
    ·simp only[AAu,Do]at hk;rcases hk with rfl|hk
     ·exact .inl (by simp)
     ·exact .inr hk
theorem Xc {α:Type} {l:List α} {i j:Nat} {x:α} (h:l[i]?=some x) (a:i<j):x∈l.take j:=by
 rw[AAd];exact⟨i,by rw[iN,BY a];exact h⟩
theorem qOk {ops:List Oper} {anc:List (List Nat)} {L Q:List Nat} (h:qB1 ops anc L Q Q []=true):QOk ops anc L Q:=by
 have hs:=Xb h;have g:∀ {i j x y:Nat},Q[i]?=some x→Q[j]?=some y→i<j→x≠y∧Ac ops x≠Ac ops y:=by
  intro i j x y C D f;obtain⟨_,_,p,_,_,_,_,_,w⟩:=hs j y D;have m:=Xc C f;exact⟨fun e=>p (e▸m),w x (.inr m)⟩
 refine⟨?_,fun j i c=>?_,fun i hi j c s h1 l=>?_⟩
 ·rw[List.nodup_iff_pairwise_ne,nO];intro i j hi c f e;exact(g (AT hi) (AT c) f).1 e
 ·obtain⟨n,_,_,o,q,r,u,v,_⟩:=hs j i c;refine⟨n,o,q,r,fun e A=>?_,fun t B k hk z=>?_⟩
  ·rcases u e A with h|h|h
   ·exact .inl h
   ·cases h
   ·exact .inr h
  ·obtain⟨b1,b2⟩:=v t B k hk z;rcases b2 with h|h
   ·cases h
   ·exact⟨b1,h⟩
 ·obtain⟨a,ha⟩:=AAd.1 hi;obtain⟨b,d⟩:=AAd.1 c;rcases ABn a b with h|h|h
  ·exact absurd (h1.trans l.symm) (g ha d h).2
  ·subst h;rw[ha]at d;injection d
  ·exact absurd (l.trans h1.symm) (g d ha h).2
theorem Zj:∀ {Q:List Nat} {ens:EN},Q.Nodup→∀(j i:Nat) (e:Nat×AV×List (Nat×Obj)),Q[j]?=some i→ens[j]?=some e→MO Q ens i=⟨true,e.2.1,e.2.2⟩
 | [],ens,_,j,i,e,h,_=>by simp at h
 | x :: Q,[],_,j,i,e,_,h=>by simp at h
 | x :: Q,f :: ens,hn,j,i,e,h1,a=>by
  cases j with
  | zero =>
   simp only[AAj,AAo]at h1 a;subst h1;subst a;simp[MO,ACa,lk]
  | succ j =>
   have h1:Q[j]?=some i:=by simpa using h1
   have b:i≠x:=fun e=>by
    subst e;exact(AAc.1 hn).1 (AA9 h1)
   have:=Zj (AAc.1 hn).2 j i e h1 (by simpa using a);simp only[MO,ACa,lk,At b]at this ⊢;exact this
structure Fr (tb:Tb) (ops:List Oper) (anc:List (List Nat)) (L Q:List Nat) (ens:EN) (τ:St):Prop where
 q:QOk ops anc L Q
 len:ens.length=Q.length
 own:Own ops (MO Q ens) τ Q
 at_:∀(j i:Nat),Q[j]?=some i→∃(o:Oper) (e:Nat×AV×List (Nat×Obj)),ops[i]?=some o∧ens[j]?=some e∧Ac ops i=some e.1∧MO Q ens i=⟨true,e.2.1,e.2.2⟩∧pJ tb ops τ (MO Q ens) (Q.take j).reverse i o
theorem pL {tb:Tb} {ops:List Oper} {anc:List (List Nat)} {L Q:List Nat} {ens:EN} {τ:St} (m:QOk ops anc L Q) (h:A0v tb ops Q ens τ):Fr tb ops anc L Q ens τ:=by
 obtain⟨vc,h1,s,p⟩:=h;have g:=fun(j i:Nat) (e:Nat×AV×List (Nat×Obj))=>Zj (ens:=ens) m.nodup j i e;obtain⟨w,hf⟩:=UL (en:=MO Q ens) (pre:=[]) h1 s (fun ts=>rfl) g;have l:∀i∈Q,∃(j:Nat) (e:Nat×AV×List (Nat×Obj)),Q[j]?=some i∧ens[j]?=some e∧MO Q ens i=⟨true,e.2.1,e.2.2⟩:=by
  intro i hi;obtain⟨j,c⟩:=AAd.1 hi;obtain⟨_,e,_,d,_⟩:=hf j i c;exact⟨j,e,c,d,g j i e c d⟩
 refine⟨m,w,⟨m.slot,fun i hi n o hn=>?_,fun i hi j c n o z k f=>?_⟩,fun j i c=>?_⟩
 ·obtain⟨j,e,_,d,g⟩:=l i hi;rw[g]at hn;exact(Oq p j e d n o hn).1
 ·obtain⟨a,e,ha,d,x⟩:=l i hi;obtain⟨b,r,q,v,y⟩:=l j c;rw[x]at k;rw[y]at f;have:=(Oq p a e d n o k).2 b r z v f;subst this;rw[ha]at q;injection q
 ·obtain⟨o,e,k,f,t,u⟩:=hf j i c;exact⟨o,e,k,f,t,g j i e c f,by simpa using u⟩
theorem kZ {ops:List Oper} {en:Nat→En} {τ:St} {Q:List Nat} (h:Own ops en τ Q) {ts pre ex:List Nat} (hp:∀j∈pre,j∈Q) (e:∀j∈ex,j∈Q) (d:∀j∈pre,AU ((Ac ops j).getD 0) ts=true→j∈ex) {n:Nat} {o:Obj} :
  lk n (Bo false ts τ.objs (ES ops en pre))=some o→lk n (Ah ops en τ ex).objs=some o:=by
 rw[pI h e];induction pre with
 | nil =>
  simp only[ES,ACz,Bo];intro hn;refine .inr ⟨fun j b=>?_,hn⟩;cases a:lk n (en j).obs with
  | none=>rfl
  | some f=>have:=h.new j (e j b) n f a;rw[this]at hn;cases hn
 | cons i r c =>
  simp only[ES,tO,Bo];have c:=c (fun j b=>hp j (by simp[b])) (fun j b=>d j (by simp[b]));split
  ·rename_i g;intro hn;rw[Av]at hn;cases a:lk n (en i).obs with
   | some f =>
    rw[a]at hn;simp only[ACi]at hn;cases hn;exact .inl ⟨i,d i (by simp) (by simpa using g),a⟩
   | none =>
    rw[a]at hn;exact c (by simpa[ES] using hn)
  ·exact c
theorem Ou {p:Nat×Obj}:∀ {l:List (Nat×Obj)},p∈l→∃b,lk p.1 l=some b
 | (c,d) :: r,h=>by
  simp only[lk];by_cases a:p.1=c
  ·exact⟨d,by rw[BY a]⟩
  ·rw[At a];rcases Do.1 h with rfl|h
   ·exact absurd rfl a
   ·exact Ou h
theorem Zk {c:Cx} (A:c.Ok) {ops:List Oper} {anc:List (List Nat)} {L Q:List Nat} {ens:EN} {τ:St} (hF:Fr c.tb ops anc L Q ens τ) {ex:List Nat} (l:∀i∈ex,i∈Q) {j i:Nat} {o:Oper} (y:Q[j]?=some i) (z:ops[i]?=some o) (Z:i∉ex)
  (D:∀k∈anc.getD i [],k∈Q→k∈ex) (U:∀d,o.dst=some d→d<c.nt) {a:Act} {w:World} {next:Act→World→Prop} {Qe:Exit→Act→World→Prop} (hs:c.sat (Ah ops (MO Q ens) τ ex) a w)
  (hn:∀C w',c.sat (Ah ops (MO Q ens) τ (i :: ex)) C w'→next C w'):o.wpIn (FR c.r) 0 c.P a w next Qe:=by
 obtain⟨s,e,I,am,al,an,vc,ae,ah⟩:=hF.at_ j i y;rw[z]at I;cases I;obtain⟨_,ao,J,_,_,B⟩:=hF.q.pos j i y;rw[z]at J;cases J;have h:∀k∈(Q.take j).reverse,k∈Q:=fun k hk=>AA8 (by simpa using hk);have ad:Ops ⟨(Ah ops (MO Q ens) τ (Q.take j).reverse).env,Bo false (F2 o.op) τ.objs (ES ops (MO Q ens) (Q.take j).reverse)⟩ (Ah ops (MO Q ens) τ ex) o.op.operands.toList:=by
  intro x ai v b;cases x with
  | tmp t =>
   simp only[AZ]at b ⊢;have R:t∈F2 o.op:=ACd.2 ⟨_,ai,rfl⟩;rw[pH hF.own h]at b;rw[pH hF.own l];rcases b with ⟨k,hk,m,X⟩|⟨aa,b⟩
   ·exact .inl ⟨k,D k (B t R k (h k hk) m).1 (h k hk),m,X⟩
   ·refine .inr ⟨fun k hk m=>?_,b⟩;exact aa k (by simpa using (B t R k (l k hk) m).2) m
  | const ap=>exact b
  | global g=>exact b
  | func f=>exact b
 have ab:ZE ⟨(Ah ops (MO Q ens) τ (Q.take j).reverse).env,Bo false (F2 o.op) τ.objs (ES ops (MO Q ens) (Q.take j).reverse)⟩ (Ah ops (MO Q ens) τ ex):=by
  intro n s hn;refine kZ hF.own h l (fun k hk H=>?_) hn;obtain⟨aj,V⟩:=AAd.1 (h k hk);obtain⟨_,ak,_,_,E,_⟩:=hF.at_ aj k V;rw[E]at H;exact D k (B _ ((AW _ _).1 H) k (h k hk) E).1 (h k hk)
 have af:=Qr ab ad ae;have G:=AA9 y;have F:BQ (MO Q ens i).obs (Ah ops (MO Q ens) τ ex)=true:=by
  simp only[BQ,DO,AAx];intro p hp;obtain⟨s,M⟩:=Ou hp;cases Y:lk p.1 (Ah ops (MO Q ens) τ ex).objs with
  | none=>rfl
  | some u =>
   rcases (pI hF.own l p.1 u).1 Y with ⟨k,hk,W⟩|⟨_,S⟩
   ·have:=hF.own.name i G k (l k hk) p.1 s u M W;subst this;exact absurd hk Z
   ·rw[hF.own.new i G p.1 s M]at S;cases S
 obtain⟨ρ,N⟩:=hs;refine cF (vB A N) af ah F fun u ρ' w' ag=>hn _ _ ?_;have T:Ac ops i=o.dst:=by simp[Ac,z]
 simp only[Ah,T];exact⟨ρ',N.add A.K A.O U F ag⟩
end
section
open Go Go.RowKit
theorem Ko:∀ {l l':List Nat},l.Nodup→(∀x∈l,x∈l')→l.length≤l'.length
 | [],_,_,_=>by simp
 | x :: l,l',hn,h=>by
  have a:=h x (by simp);have:=Ko (l:=l) (l':=l'.erase x) (AAc.1 hn).2 (fun y b=>by
   have:y≠x:=fun e=>(AAc.1 hn).1 (e▸b);exact(AC1 this).2 (h y (by simp[b])))
  rw[ABp a]at this;have:=ABc a;simp only[Is];omega
theorem Hw (A:List Nat) (l:Nat) (a:List (List Nat×Nat)) (D:List Nat):qs ((A,l) :: a) D=A++qs a D:=by simp[qs]
structure A1o (ops:List Oper) (anc:List (List Nat)) (p0:Nat) (L:List Nat) (ps:List (List Nat×Nat)) (D:List Nat):Prop where
 all:∀i,i<p0→i∈L∨i∈qs ps D∨i∈ps.map (·.2)
 back:∀i,p0≤i→i<ops.length→∀j,j<i→j∈anc.getD i []
 L:∀i∈L,i<p0
 Q:∀i∈qs ps D,i<p0
 lo:∀p∈ps,p.2<p0
 p0:p0≤ops.length
theorem Rq {ops:List Oper} {anc:List (List Nat)} {p0:Nat} {L D:List Nat} (h:Qb ops anc p0 L [] D=true):QOk ops anc L D∧(∀i,i<p0→i∈L∨i∈D)∧L.length+D.length=p0∧p0≤ops.length∧(∀i∈L,i<p0)∧(∀i∈D,i<p0)∧(∀i,p0≤i→i<ops.length→∀j,j<i→j∈anc.getD i []):=by
 simp only[Qb,An,DO,oN,AA1,GO,AW]at h;obtain⟨⟨⟨⟨⟨⟨h1,a⟩,b⟩,c⟩,d⟩,e⟩,f⟩:=h;refine⟨qOk h1,a,b,c,d,e,fun i hi k j g=>?_⟩;rcases f i k with h|h
 ·omega
 ·exact h j g
theorem Iq {ops:List Oper} {anc:List (List Nat)} {p0:Nat} {L D A:List Nat} {l:Nat} {b:List (List Nat×Nat)} (h:Qb ops anc p0 L ((A,l) :: b) D=true):QOk ops anc L (A++qs b D)∧(∃o,ops[l]?=some o∧o.guard=none∧(∀e∈De o,e∈L∨e∈A))∧(∀j∈A,j∈anc.getD l [])∧l∉L∧l∉A++qs b D∧(∀p∈b,l∈anc.getD p.2 [])∧Qb ops anc p0 (l :: (A++L)) b D=true:=by
 simp only[Qb,An,DO,AW]at h;obtain⟨⟨⟨h1,a⟩,m⟩,n⟩:=h;cases f:ops[l]? with
 | none=>rw[f]at a;cases a
 | some o =>
  rw[f]at a;simp only[An,DO,AA1,AW,To,AAx]at a;obtain⟨⟨⟨⟨g,i⟩,k⟩,c⟩,d⟩:=a;exact⟨qOk h1,⟨o,rfl,g,i⟩,k,fun h=>(by rw[(AW _ _).2 h]at c;cases c),fun h=>(by rw[(AW _ _).2 h]at d;cases d),m,n⟩
theorem Rr {ops:List Oper} {anc:List (List Nat)} {p0:Nat}:∀ {b:List (List Nat×Nat)} {L D:List Nat},Qb ops anc p0 L b D=true→A1o ops anc p0 L b D
 | [],L,D,h=>by
  obtain⟨_,h1,g,c,d,e,f⟩:=Rq h;refine⟨fun i hi=>?_,f,d,by simpa[qs] using e,by simp,c⟩;rcases h1 i hi with h|h
  ·exact .inl h
  ·exact .inr (.inl (by simpa[qs] using h))
 | (A,l) :: b,L,D,h=>by
  obtain⟨_,_,_,_,_,_,h1⟩:=Iq h;have a:=Rr h1;refine⟨fun i hi=>?_,a.back,fun i hi=>a.L i (by simp[hi]),fun i hi=>?_,fun p hp=>?_,a.p0⟩
  ·rcases a.all i hi with h|h|h
   ·simp only[Do,ON]at h;rcases h with rfl|h|h
    ·exact .inr (.inr (by simp))
    ·exact .inr (.inl (by rw[Hw];simp[h]))
    ·exact .inl h
   ·exact .inr (.inl (by rw[Hw];simp[h]))
   ·exact .inr (.inr (by simp only[tO,Do];exact .inr h))
  ·rw[Hw,ON]at hi;rcases hi with hi|hi
   ·exact a.L i (by simp[hi])
   ·exact a.Q i hi
  ·rcases Do.1 hp with rfl|hp
   ·exact a.L l (by simp)
   ·exact a.lo p hp
theorem Vv {ops:List Oper} {en:Nat→En} {τ:St}:∀ {Q:List Nat} {ens:EN} {pre:List Nat},ens.length=Q.length→(∀(j i:Nat) (e:Nat×AV×List (Nat×Obj)),Q[j]?=some i→ens[j]?=some e→Ac ops i=some e.1∧en i=⟨true,e.2.1,e.2.2⟩) →
  Kn ens (Ah ops en τ pre)=Ah ops en τ (Q.reverse++pre)
 | [],[],pre,_,_=>rfl
 | [],_ :: _,_,h,_=>by simp at h
 | _ :: _,[],_,h,_=>by simp at h
 | i :: Q,(d,v,obs) :: ens,pre,f,h=>by
  obtain⟨h1,a⟩:=h 0 i (d,v,obs) rfl rfl;have:(⟨(d,v) :: (Ah ops en τ pre).env,obs++(Ah ops en τ pre).objs⟩:St)=Ah ops en τ (i :: pre):=by simp[Ah,h1,a,St.add]
  simp only[Kn];rw[this,Vv (by simpa using f) (fun j k e b c=>h (j+1) k e (by simpa using b) (by simpa using c))];simp
section
variable {c:Cx} {ops:Array Oper} {anc:List (List Nat)} {p0:Nat} {Kf:St→Prop} {Qe:Exit→Act→World→Prop}
theorem pM {a:List (List Nat×Nat)} {L D:List Nat} {ens:EN} {τ:St} (b:Qb ops.toList anc p0 L a D=true) (d:pF c ops.toList Kf a D ens τ):Fr c.tb ops.toList anc L (qs a D) ens τ:=by
 cases a with
 | nil =>
  have:qs [] D=D:=rfl;rw[this];exact pL (Rq b).1 d.1
 | cons p a =>
  obtain⟨A,l⟩:=p;rw[Hw];exact pL (Iq b).1 d.1
theorem UN (F:UM ops anc) {a:List (List Nat×Nat)} {L D:List Nat} {ex:List Nat} {listed:Array Bool} (E:Qb ops.toList anc p0 L a D=true) (z:QOk ops.toList anc L (qs a D)) (w:∀i∈ex,i∈qs a D) (O:listed.size=ops.size)
    (x:∀i,i<ops.size→(listed.getD i true=true↔i∈L∨i∈ex)) (hf:¬(a=[]∧∀i∈qs a D,i∈ex)):∃i,i∈Region.ready .any ops listed:=by
  have B:∀e b,e<ops.size→listed.getD e b=listed.getD e true:=fun e b c=>by
    have:e<listed.size:=by omega
    simp[Array.getD,this]
  have mk:∀i o,ops[i]?=some o→i∉L→i∉ex→(∀e∈De o,e∈L∨e∈ex)→i∈Region.ready .any ops listed:=by
    intro i o k h1 f C;have K:i<ops.size:=(dO.1 k).1;rw[DI];refine⟨?_,o,k,fun e c=>?_⟩
    · cases H:listed.getD i true with
      | false=>rfl
      | true => rcases (x i K).1 H with h | h
                · exact absurd h h1
                · exact absurd h f
    · have N:=F.lt i o k e c
      rw[B e false (by omega)];exact(x e (by omega)).2 (C e c)
  by_cases m:∀i∈qs a D,i∈ex
  · cases a with
    | nil=>exact absurd ⟨rfl,m⟩ hf
    | cons p a =>
      obtain⟨A,l⟩:=p;rw[Hw]at m w;obtain⟨_,⟨o,k,_,G⟩,_,h1,f,_,_⟩:=Iq E;refine⟨l,mk l o (by simpa using k) h1 (fun h=>f (w l h)) fun e c=>?_⟩;rcases G e c with h|h
      · exact .inl h
      · exact .inr (m e (by simp[h]))
  · have key:∀(n j:Nat),j≤n→(∃i,(qs a D)[j]?=some i∧i∉ex)→∃i,i∈Region.ready .any ops listed:=by
      intro n;induction n with
      | zero =>
        rintro j u ⟨i,hi,g⟩;have:j=0:=by omega
        subst this;obtain⟨r,o,s,_,t,_⟩:=z.pos 0 i hi;refine⟨i,mk i o (by simpa using s) r g fun e c=>?_⟩;rcases t e c with h|h
        · exact .inl h
        · simp at h
      | succ n M =>
        rintro j u ⟨i,hi,g⟩;by_cases y:∃d,d<j∧∃i',(qs a D)[d]?=some i'∧i'∉ex
        · obtain⟨d,h1,f⟩:=y
          exact M d (by omega) f
        · obtain⟨r,o,s,_,t,_⟩:=z.pos j i hi
          refine⟨i,mk i o (by simpa using s) r g fun e c=>?_⟩;rcases t e c with h|h
          · exact .inl h
          · right
            obtain⟨d,q⟩:=AAd.1 h;rw[iN]at q;split at q
            · rename_i I
              apply By;intro v;exact y ⟨d,I,e,q,v⟩
            · cases q
    have:∃i,i∈qs a D∧i∉ex:=by
      apply By;intro J;exact m fun i hi=>By fun v=>J ⟨i,hi,v⟩
    obtain⟨i,hi,g⟩:=this;obtain⟨j,u⟩:=AAd.1 hi;exact key j j (If _) ⟨i,u,g⟩
theorem UO (I:UM ops anc) (hT:∀τ,Kf τ→∀a w,c.sat τ a w→wpListIn (FR c.r) 0 c.P ops Qe (ops.toList.drop p0) a w) {m:Nat} {L D:List Nat} {ens:EN} {τ:St} {ex:List Nat} {listed:Array Bool} {a:Act} {w:World}
  (G:Qb ops.toList anc p0 L [] D=true) (g:pF c ops.toList Kf [] D ens τ) (O:(L++ex).Nodup) (b:∀i∈ex,i∈D) (W:m+L.length+ex.length=ops.size) (M:listed.size=ops.size) (K:∀i,i<ops.size→(listed.getD i true=true↔i∈L∨i∈ex))
  (hs:c.sat (Ah ops.toList (MO D ens) τ ex) a w) (d:∀i∈D,i∈ex):wpAnyIn (FR c.r) 0 c.P .any ops Qe m listed a w:=by
 obtain⟨q,h1,U,y,z,A,B⟩:=Rq G;have hF:=pL q g.1;have V:ex.length=D.length:=ABJ (Ko (AAF.1 O).2.1 b) (Ko q.nodup d);have N:m=(ops.toList.drop p0).length:=by
  simp only[AAP,ABb];omega
 have H:Kn ens τ=Ah ops.toList (MO D ens) τ D.reverse:=by
  have:=Vv (ops:=ops.toList) (en:=MO D ens) (τ:=τ) (pre:=[]) hF.len (fun j i e C E=>by
   obtain⟨o,T,_,f,u,x,_⟩:=hF.at_ j i C;rw[E]at f;cases f;exact⟨u,x⟩)
  simpa[Ah] using this
 have S:c.sat (Kn ens τ) a w:=by
  rw[H];have t:∀i∈D.reverse,i∈D:=fun i hi=>by simpa using hi
  have l:∀i,i∈ex↔i∈D.reverse:=fun i=>⟨fun h=>by simpa using b i h,fun h=>d i (by simpa using h)⟩;refine Rj (fun s=>ACl fun v=>?_) (fun n=>ACl fun o=>?_) hs
  ·rw[pH hF.own t,pH hF.own b];simp only[l]
  ·rw[pI hF.own t,pI hF.own b];simp only[l]
 have:=Ot (Q:=Qe) (F:=FR c.r) (P:=c.P) I (k:=p0) (fun i o R hi j J=>B i hi (by have:=(dO.1 R).1;simpa using this) j J) (rest:=ops.toList.drop p0) (p:=p0) (listed:=listed) (a:=a) (w:=w) rfl (If _) (by simpa using y) M
  (fun i hi=>by
   rw[K i hi];constructor
   ·rintro (h|h)
    ·exact z i h
    ·exact A i (b i h)
   ·intro h;rcases h1 i h with h|h
    ·exact .inl h
    ·exact .inr (d i h)) (hT _ g.2 a w S)
 rw[N];exact this
theorem vI (cm:c.Ok) (cc:∀o∈ops.toList,Ho c.nt o=true) (V:UM ops anc) (hT:∀τ,Kf τ→∀a w,c.sat τ a w→wpListIn (FR c.r) 0 c.P ops Qe (ops.toList.drop p0) a w) :
  ∀(m:Nat) (f:List (List Nat×Nat)) (L D:List Nat) (ens:EN) (τ:St) (ex:List Nat) (listed:Array Bool) (a:Act) (w:World),Qb ops.toList anc p0 L f D=true→pF c ops.toList Kf f D ens τ→(L++ex).Nodup→(∀i∈ex,i∈qs f D) →
   m+L.length+ex.length=ops.size→listed.size=ops.size→(∀i,i<ops.size→(listed.getD i true=true↔i∈L∨i∈ex))→(∀i o,ops[i]?=some o→(i∈L∨i∈ex)→∀e∈De o,e∈L∨e∈ex) →
   c.sat (Ah ops.toList (MO (qs f D) ens) τ ex) a w→wpAnyIn (FR c.r) 0 c.P .any ops Qe m listed a w:=by
 intro m;induction m with
 | zero =>
  intro f L D ens τ ex listed a w F U J E ay W G ae hs;have hF:=pM F U;by_cases hf:f=[]∧∀i∈qs f D,i∈ex
  ·obtain⟨rfl,ar⟩:=hf;exact UO V hT F U J E ay W G hs ar
  ·exfalso;obtain⟨i,hi⟩:=UN V F hF.q E W G hf;rw[DI]at hi;obtain⟨h1,o,B,_⟩:=hi;have X:i<ops.size:=(dO.1 B).1;have K:i∉L++ex:=fun h=>by
    rw[(G i X).2 (ON.1 h)]at h1;cases h1
   have R:=Rr F;have:=Dm ops.size (i :: (L++ex)) (AAc.2 ⟨K,J⟩) (fun j d=>by
    have hp:=R.p0;simp only[ABb]at hp;rcases Do.1 d with rfl|d
    ·exact X
    ·rcases ON.1 d with d|d
     ·have:=R.L j d;omega
     ·have:=R.Q j (E j d);omega)
   simp only[Is,On]at this;omega
 | succ m bn =>
  intro f L D ens τ ex listed a w F U J E ay W G ae hs;have hF:=pM F U;have R:=Rr F;have al:∀e b,e<ops.size→listed.getD e b=listed.getD e true:=fun e b C=>by
   have:e<listed.size:=by omega
   simp[Array.getD,this]
  by_cases hf:f=[]∧∀i∈qs f D,i∈ex
  ·obtain⟨rfl,ar⟩:=hf;exact UO V hT F U J E ay W G hs ar
  ·refine⟨fun cl=>?_,fun i hi=>?_⟩
   ·obtain⟨i,hi⟩:=UN V F hF.q E W G hf;rw[cl]at hi;cases hi
   ·rw[DI]at hi;obtain⟨h1,o,B,az⟩:=hi;have X:i<ops.size:=(dO.1 B).1;have K:¬(i∈L∨i∈ex):=fun h=>by rw[(G i X).2 h]at h1;cases h1
    have bc:∀e∈De o,e∈L∨e∈ex:=fun e C=>by
     have I:=V.lt i o B e C;have ba:=az e C;rw[al e false (by omega)]at ba;exact(G e (by omega)).1 ba
    have ad:∀j∈anc.getD i [],j∈L∨j∈ex:=by
     have ca:∀i o,ops[i]?=some o→listed.getD i true=true→∀e∈De o,listed.getD e false=true:=by
      intro i o B h1 e C;have X:i<ops.size:=(dO.1 B).1;have I:=V.lt i o B e C;rw[al e false (by omega)];exact(G e (by omega)).2 (ae i o B ((G i X).1 h1) e C)
     intro j d;have I:=P0 V ca i o B az j d;by_cases bg:j<ops.size
     ·rw[al j false bg]at I;exact(G j bg).1 I
     ·have:¬j<listed.size:=by omega
      simp[Array.getD,this]at I
    have ag:ops.toList[i]?=some o:=by simpa using B
    have cj:o∈ops.toList:=AA9 ag;have cb:=Bd (cc o cj);have bh:∀(S:List Nat),(∀j,j∈S↔j=i∨j∈L∨j∈ex)→∀j,j<ops.size→((listed.setIfInBounds i true).getD j true=true↔j∈S):=by
     intro S bx j d;have ch:j<listed.size:=by omega
     rw[bx];by_cases ax:j=i
     ·subst ax;simp[Array.getD,ch]
     ·have I:(listed.setIfInBounds i true).getD j true=listed.getD j true:=getD_set_ne true (fun e=>ax e.symm);rw[I,G j d];simp[ax]
    have bm:∀ {g:Option (Nat×Bool)},g=none→o.guard=g→Region.wanted o (yielded ops a.tmps)=true:=by
     intro g av e;simp[Region.wanted,e,av]
    by_cases af:i∈qs f D
    ·obtain⟨j,d⟩:=AAd.1 af;obtain⟨_,da,bi,av,_,_⟩:=hF.q.pos j i d;rw[ag]at bi;cases bi;unfold wpOpIn;rw[B];simp only;rw[BY (bm rfl av)];refine Zk cm hF E d ag (fun h=>K (.inr h)) (fun k hk ci=>?_) cb hs fun ak w' cn=>?_
     ·rcases ad k hk with h|h
      ·obtain⟨u,T⟩:=AAd.1 ci;exact absurd h (hF.q.pos u k T).1
      ·exact h
     ·refine bn f L D ens τ (i :: ex) _ ak w' F U ?_ (fun k hk=>?_) (by simp only[Is];omega) (by simpa using W) (fun k hk=>?_) (fun i' Z H aw e C=>?_) cn
      ·rw[AAF]at J ⊢;refine⟨J.1,AAc.2 ⟨fun h=>K (.inr h),J.2.1⟩,fun x t y Y=>?_⟩;rcases Do.1 Y with rfl|Y
       ·exact fun e=>K (.inl (e▸t))
       ·exact J.2.2 x t y Y
      ·rcases Do.1 hk with rfl|hk
       ·exact af
       ·exact E k hk
      ·rw[bh (i :: (L++ex)) (fun j=>by simp) k hk];simp only[Do,ON];constructor
       ·rintro (h|h|h)
        ·exact .inr (.inl h)
        ·exact .inl h
        ·exact .inr (.inr h)
       ·rintro (h|h|h)
        ·exact .inr (.inl h)
        ·exact .inl h
        ·exact .inr (.inr h)
      ·have:e∈L∨e∈ex:=by
        rcases aw with h|h
        ·exact ae i' Z H (.inl h) e C
        ·rcases Do.1 h with rfl|h
         ·rw[B]at H;cases H;exact bc e C
         ·exact ae i' Z H (.inr h) e C
       rcases this with h|h
       ·exact .inl h
       ·exact .inr (by simp[h])
    · -- no operation of the front
     have cy:¬p0≤i:=by
      intro ce;have bb:=R.back i ce (by simpa using X);cases f with
      | nil =>
       refine hf ⟨rfl,fun j d=>?_⟩;have I:=R.Q j d;rcases ad j (bb j (by omega)) with h|h
       ·obtain⟨u,T⟩:=AAd.1 d;exact absurd h (hF.q.pos u j T).1
       ·exact h
      | cons p f =>
       obtain⟨A,l⟩:=p;obtain⟨_,_,_,an,ao,_,_⟩:=Iq F;have I:=R.lo (A,l) (by simp);simp only at I;rcases ad l (bb l (by omega)) with h|h
       ·exact an h
       ·exact ao (by rw[←Hw A l];exact E l h)
     cases f with
     | nil =>
      rcases R.all i (by omega) with h|h|h
      ·exact absurd (.inl h) K
      ·exact absurd h af
      ·cases h
     | cons p f =>
      obtain⟨A,l⟩:=p;obtain⟨_,⟨ol,bj,cf,cx⟩,bt,an,ao,br,bu⟩:=Iq F;have cg:i=l:=by
       rcases R.all i (by omega) with h|h|h
       ·exact absurd (.inl h) K
       ·exact absurd h af
       ·simp only[tO,Do,Of]at h;rcases h with h|⟨p,hp,rfl⟩
        ·exact h
        ·rcases ad l (br p hp) with h|h
         ·exact absurd h an
         ·exact absurd (E l h) (by rw[Hw];exact ao)
      subst cg;rw[ag]at bj;cases bj;rw[Hw]at hF E hs af;obtain⟨cw,Z,H,bv⟩:=U;rw[ag]at H;cases H;have aa:∀j∈A,j∈ex:=fun j d=>by
       rcases ad j (bt j d) with h|h
       ·obtain⟨u,T⟩:=AAd.1 (show j∈A++qs f D by simp[d]);exact absurd h (hF.q.pos u j T).1
       ·exact h
      have ap:A.Nodup∧(qs f D).Nodup∧∀x∈A,∀y∈qs f D,x≠y:=AAF.1 hF.q.nodup;have bz:Kn (ens.take A.length) τ=Ah ops.toList (MO (A++qs f D) ens) τ A.reverse:=by
       have:=Vv (ops:=ops.toList) (en:=MO (A++qs f D) ens) (τ:=τ) (pre:=[]) (Q:=A) (ens:=ens.take A.length) (by have:=hF.len;simp only[On]at this;simp only[OR];omega) (fun j i e O z=>by
        have bf:j<A.length:=(No.1 O).1;obtain⟨o,cu,_,M,N,am,_⟩:=hF.at_ j i (by rw[AA2 bf];exact O);rw[iN,BY bf,M]at z;cases z;exact⟨N,am⟩)
       simpa[Ah] using this
      have bl:=kY (A:=A.reverse) hF.own E (fun j d=>aa j (by simpa using d));rw[←bz]at bl;have aj:∀j,j∈ex.filter (fun j=>!AU j A.reverse)↔j∈ex∧j∉A:=fun j=>by
       rw[AAg];have:=AW j A.reverse;constructor
       ·rintro⟨O,z⟩;exact⟨O,fun M=>by rw[this.2 (by simpa using M)]at z;cases z⟩
       ·rintro⟨O,z⟩;refine⟨O,?_⟩;cases ck:AU j A.reverse with
        | false=>rfl
        | true=>exact absurd (by simpa using this.1 ck) z
      have ab:∀j∈ex.filter (fun j=>!AU j A.reverse),j∈qs f D:=fun j d=>by
       have:=E j ((aj j).1 d).1;rcases ON.1 this with h|h
       ·exact absurd h ((aj j).1 d).2
       ·exact h
      have au:∀j∈qs f D,∃(u:Nat) (e:Nat×AV×List (Nat×Obj)),(qs f D)[u]?=some j∧(ens.drop A.length)[u]?=some e∧Ac ops.toList j=some e.1∧MO (A++qs f D) ens j=⟨true,e.2.1,e.2.2⟩:=by
       intro j d;obtain⟨u,T⟩:=AAd.1 d;obtain⟨o,e,_,M,N,am,_⟩:=hF.at_ (A.length+u) j (by rw[AA5 (by omega),Nat.add_sub_cancel_left];exact T);exact⟨u,e,T,by rw[AAe];exact M,N,am⟩
      have bk:Own ops.toList (MO (A++qs f D) ens) ⟨[],[]⟩ (A++qs f D):=⟨hF.own.slot,fun _ _ _ _ _=>rfl,hF.own.name⟩;have bd:∀j∈ex.filter (fun j=>!AU j A.reverse),j∈A++qs f D:=fun j d=>by simp[ab j d]
      unfold wpOpIn;rw[B];simp only;rw[BY (bm rfl cf)];refine bv _ _ bl ⟨fun s v ah=>?_,fun n Z hn=>?_⟩ a w _ _ hs fun bq bw ak w' db be co=>?_
      ·rcases (pH bk bd s v).1 ah with ⟨j,d,ai,rfl⟩|⟨_,ah⟩
       ·obtain⟨u,e,_,z,M,N⟩:=au j (ab j d);rw[ai]at M;cases M;rw[N];exact⟨e.2.2,AA9 z⟩
       ·cases ah
      ·rcases (pI bk bd n Z).1 hn with ⟨j,d,ai⟩|⟨_,ah⟩
       ·obtain⟨u,e,_,z,M,N⟩:=au j (ab j d);rw[N]at ai;exact⟨e,AA9 z,E9 ai⟩
       ·cases ah
      ·have cv:ex.length=A.length+(ex.filter (fun j=>!AU j A.reverse)).length:=by
        have cp:∀l:List Nat,l.length=(l.filter (fun j=>AU j A.reverse)).length+(l.filter (fun j=>!AU j A.reverse)).length:=by
         intro l;induction l with
         | nil=>rfl
         | cons x r cz =>
          simp only[AAr,Is];cases AU x A.reverse<;>simp<;>omega
        rw[cp ex];have cd:=(AAF.1 J).2.1;have O:(ex.filter (fun j=>AU j A.reverse)).length≤A.length:=Ko (cd.filter _) fun x t=>by
         have:=(AW _ _).1 (AAg.1 t).2;simpa using this
        have z:A.length≤(ex.filter (fun j=>AU j A.reverse)).length:=Ko ap.1 fun x t=>AAg.2 ⟨aa x t,(AW _ _).2 (by simpa using t)⟩;omega
       have aq:∀x,(x∈i :: (A++L)∨x∈ex.filter (fun j=>!AU j A.reverse))↔x=i∨x∈L∨x∈ex:=by
        intro x;rw[aj];simp only[Do,ON];constructor
        ·rintro ((h|h|h)|h)
         ·exact .inl h
         ·exact .inr (.inr (aa x h))
         ·exact .inr (.inl h)
         ·exact .inr (.inr h.1)
        ·rintro (h|h|h)
         ·exact .inl (.inl h)
         ·exact .inl (.inr (.inr h))
         ·by_cases t:x∈A
          ·exact .inl (.inr (.inl t))
          ·exact .inr ⟨h,t⟩
       refine bn f (i :: (A++L)) D (ens.drop A.length) bq (ex.filter fun j=>!AU j A.reverse) _ ak w' bu bw ?_ ab (by simp only[Is,On];omega) (by simpa using W) (fun k hk=>?_) (fun i' Z H aw e C=>?_) ?_
       ·obtain⟨n1,cs,bo⟩:=AAF.1 J;have bs:∀x∈A,x∉L:=fun x t cq=>bo x cq x (aa x t) rfl;rw[AAF];refine⟨AAc.2 ⟨fun h=>?_,AAF.2 ⟨ap.1,n1,fun x t y Y e=>bs x t (e▸Y)⟩⟩,cs.filter _,fun x t y Y e=>?_⟩
        ·rcases ON.1 h with h|h
         ·exact K (.inr (aa i h))
         ·exact K (.inl h)
        ·subst e;obtain⟨bp,ct⟩:=(aj x).1 Y;rcases Do.1 t with rfl|t
         ·exact K (.inr bp)
         ·rcases ON.1 t with t|t
          ·exact ct t
          ·exact bo x t x bp rfl
       ·rw[aq k,bh (i :: (L++ex)) (fun j=>by simp) k hk];simp
       ·rw[aq];have:e∈L∨e∈ex:=by
         rcases (aq i').1 aw with rfl|h
         ·rw[B]at H;cases H;exact bc e C
         ·exact ae i' Z H h e C
        exact .inr this
       ·have cr:∀j∈ex.filter (fun j=>!AU j A.reverse),MO (qs f D) (ens.drop A.length) j=MO (A++qs f D) ens j:=fun j d=>by
         obtain⟨u,e,O,z,_,N⟩:=au j (ab j d);rw[N];exact Zj ap.2.1 u j e O z
        have t:=pG (ops:=ops.toList) (en:=MO (qs f D) (ens.drop A.length)) (τ:=bq) (ex.filter fun j=>!AU j A.reverse);rw[Je (en:=MO (A++qs f D) ens) (σ0:=⟨[],[]⟩) cr]at t;exact Rj (fun s=>by rw[t.env,be.env]) (fun n=>by rw[t.objs,be.objs]) co
end
section
variable {c:Cx} {R:Exit→Act→World→Prop} {k:List DG} {σ:St}
theorem Cj (j:c.P.follows .mixedOrders=true) (g:c.Ok) {id:Nat} {l:List Oper} (p0:Nat) (d:List (List Nat×Nat)) (D:List Nat) (b:(A0w l (o5 l)&&Qb l (o5 l) p0 [] d D)=true) {ens:EN}
  (h:pF c l (fun τ=>GQ c R k l.toArray (l.drop p0) τ) d D ens σ):Ev c R (.run (.region id l.toArray true)) k σ:=by
 intro h1 e a w hs;simp only[Hq,Bk,DO]at h1;simp only[An]at b;refine wpIn_region_any j ?_;have hk:∀τ,GQ c R k l.toArray (l.drop p0) τ→∀a w,c.sat τ a w→wpListIn (FR c.r) 0 c.P l.toArray (Rb c R k) (l.toArray.toList.drop p0) a w:=fun τ f a w hs=>f (fun o m=>h1 o (by simpa using AAz m)) e a w hs;exact vI (ops:=l.toArray) (anc:=o5 l) g (by simpa using h1) (A1n (by simpa using b.1)) hk l.toArray.size d [] D ens σ [] (Array.replicate l.toArray.size false) a { w with drawn:=w.drawn+1 } (by simpa using b.2) (by simpa using h) (by simp) (by simp) (by simp) (by simp) (fun i hi=>by simp at hi;simp[Array.getD,hi]) (fun i o _ hi=>by simp at hi) (XP hs)
end
end
section
open Go Go.RowKit
section
variable {n:Nat} {ns:List Nat}
theorem FZ {m:Nat} (hn:n∈ns) (h:¬AU m ns=true):¬m=n:=fun e=>h ((AW _ _).2 (e▸hn))
mutual
theorem Rs (hn:n∈ns) {e:Ty} {xs:List e.den}:∀(x:AV),x.fgt ns=x→x.frz n e xs=x
 | .sr m e' lo hi,h=>by
  simp only[AV.fgt]at h
  split at h
  ·cases h
  ·rename_i hm;simp only[AV.frz,At (FZ hn hm)]
 | .ep m e' i path off,h=>by
  simp only[AV.fgt]at h
  split at h
  ·cases h
  ·rename_i hm;simp only[AV.frz,At (FZ hn hm)]
 | .nin m e' i len,h=>by
  simp only[AV.fgt]at h
  split at h
  ·cases h
  ·rename_i hm;simp only[AV.frz,At (FZ hn hm)]
 | .ag l,h=>by
  simp only[AV.fgt,AV.ag.injEq]at h
  simp only[AV.frz,frzs_of_fgt hn l h]
 | .tup l,h=>by
  simp only[AV.fgt,AV.tup.injEq]at h
  simp only[AV.frz,frzs_of_fgt hn l h]
 | .p _ _,_=>rfl
 | .pc _ _,_=>rfl
 | .raw _,_=>rfl
 | .ip _ _,_=>rfl
 | .bp _ _ _,_=>rfl
 | .fn _,_=>rfl
 | .clo _ _,_=>rfl
 | .mp _,_=>rfl
 | .yl _,_=>rfl
 | .top,_=>rfl
theorem frzs_of_fgt (hn:n∈ns) {e:Ty} {xs:List e.den}:∀(l:List AV),AV.fgts ns l=l→AV.frzs n e xs l=l
 | [],_=>rfl
 | x :: r,h=>by
  simp only[AV.fgts,ABa]at h
  simp only[AV.frzs,Rs hn x h.1,frzs_of_fgt hn r h.2]
end
mutual
theorem Ru (hn:n∈ns):∀(x:AV),x.fgt ns=x→x.drp n=x
 | .sr m e' lo hi,h=>by
  simp only[AV.fgt]at h
  split at h
  ·cases h
  ·rename_i hm;simp only[AV.drp,At (FZ hn hm)]
 | .ep m e' i path off,h=>by
  simp only[AV.fgt]at h
  split at h
  ·cases h
  ·rename_i hm;simp only[AV.drp,At (FZ hn hm)]
 | .nin m e' i len,h=>by
  simp only[AV.fgt]at h
  split at h
  ·cases h
  ·rename_i hm;simp only[AV.drp,At (FZ hn hm)]
 | .ag l,h=>by
  simp only[AV.fgt,AV.ag.injEq]at h
  simp only[AV.drp,drps_of_fgt hn l h]
 | .tup l,h=>by
  simp only[AV.fgt,AV.tup.injEq]at h
  simp only[AV.drp,drps_of_fgt hn l h]
 | .p _ _,_=>rfl
 | .pc _ _,_=>rfl
 | .raw _,_=>rfl
 | .ip _ _,_=>rfl
 | .bp _ _ _,_=>rfl
 | .fn _,_=>rfl
 | .clo _ _,_=>rfl
 | .mp _,_=>rfl
 | .yl _,_=>rfl
 | .top,_=>rfl
theorem drps_of_fgt (hn:n∈ns):∀(l:List AV),AV.fgts ns l=l→AV.drps n l=l
 | [],_=>rfl
 | x :: r,h=>by
  simp only[AV.fgts,ABa]at h
  simp only[AV.drps,Ru hn x h.1,drps_of_fgt hn r h.2]
end
end
section
variable {n:Nat} {ns tl:List Nat}
theorem Dg (a:∀n,n∈tl→n∈ns) {m:Nat} (h:¬AU m ns=true):¬AU m tl=true:=fun h1=>h ((AW _ _).2 (a _ ((AW _ _).1 h1)))
theorem c6 (c:∀n,n∈tl→n∈ns) {l:List Nat} (h:¬(l.any fun m=>AU m ns)=true):¬(l.any fun m=>AU m tl)=true:=fun h1=>by
 obtain⟨m,b,a⟩:=OF.1 h1;exact h (OF.2 ⟨m,b,(AW _ _).2 (c _ ((AW _ _).1 a))⟩)
mutual
theorem Rv (htl:∀n,n∈tl→n∈ns):∀(x:AV),x.fgt ns=x→x.fgt tl=x
 | .sr m e' lo hi,h=>by
  simp only[AV.fgt]at h
  split at h
  ·cases h
  ·rename_i hm;simp only[AV.fgt,At (Dg htl hm)]
 | .ep m e' i path off,h=>by
  simp only[AV.fgt]at h
  split at h
  ·cases h
  ·rename_i hm;simp only[AV.fgt,At (Dg htl hm)]
 | .nin m e' i len,h=>by
  simp only[AV.fgt]at h
  split at h
  ·cases h
  ·rename_i hm;simp only[AV.fgt,At (Dg htl hm)]
 | .bp m path off,h=>by
  simp only[AV.fgt]at h
  split at h
  ·cases h
  ·rename_i hm;simp only[AV.fgt,At (Dg htl hm)]
 | .mp m,h=>by
  simp only[AV.fgt]at h
  split at h
  ·cases h
  ·rename_i hm;simp only[AV.fgt,At (Dg htl hm)]
 | .yl m,h=>by
  simp only[AV.fgt]at h
  split at h
  ·cases h
  ·rename_i hm;simp only[AV.fgt,At (Dg htl hm)]
 | .clo f cs,h=>by
  simp only[AV.fgt]at h
  split at h
  ·cases h
  ·rename_i hm;simp only[AV.fgt,At (c6 htl hm)]
 | .ag l,h=>by
  simp only[AV.fgt,AV.ag.injEq]at h
  simp only[AV.fgt,fgts_of_fgt htl l h]
 | .tup l,h=>by
  simp only[AV.fgt,AV.tup.injEq]at h
  simp only[AV.fgt,fgts_of_fgt htl l h]
 | .p _ _,_=>rfl
 | .pc _ _,_=>rfl
 | .raw _,_=>rfl
 | .ip _ _,_=>rfl
 | .fn _,_=>rfl
 | .top,_=>rfl
theorem fgts_of_fgt (htl:∀n,n∈tl→n∈ns):∀(l:List AV),AV.fgts ns l=l→AV.fgts tl l=l
 | [],_=>rfl
 | x :: r,h=>by
  simp only[AV.fgts,ABa]at h
  simp only[AV.fgts,Rv htl x h.1,fgts_of_fgt htl r h.2]
end
mutual
theorem Rw (hn:n∈ns) (htl:∀n,n∈tl→n∈ns):∀(x:AV),x.fgt ns=x→x.trn n tl=x
 | .sr m e' lo hi,h=>by
  simp only[AV.fgt]at h
  split at h
  ·cases h
  ·rename_i hm;simp only[AV.trn,At (Dg htl hm)]
 | .ep m e' i path off,h=>by
  simp only[AV.fgt]at h
  split at h
  ·cases h
  ·rename_i hm;simp only[AV.trn,At (Dg htl hm)]
 | .nin m e' i len,h=>by
  simp only[AV.fgt]at h
  split at h
  ·cases h
  ·rename_i hm;simp only[AV.trn];rw[At fun h=>h.elim (FZ hn hm) (Dg htl hm)]
 | .bp m path off,h=>by
  simp only[AV.fgt]at h
  split at h
  ·cases h
  ·rename_i hm;simp only[AV.trn,At (Dg htl hm)]
 | .mp m,h=>by
  simp only[AV.fgt]at h
  split at h
  ·cases h
  ·rename_i hm;simp only[AV.trn,At (Dg htl hm)]
 | .yl m,h=>by
  simp only[AV.fgt]at h
  split at h
  ·cases h
  ·rename_i hm;simp only[AV.trn,At (Dg htl hm)]
 | .clo f cs,h=>by
  simp only[AV.fgt]at h
  split at h
  ·cases h
  ·rename_i hm;simp only[AV.trn,At (c6 htl hm)]
 | .ag l,h=>by
  simp only[AV.fgt,AV.ag.injEq]at h
  simp only[AV.trn,trns_of_fgt hn htl l h]
 | .tup l,h=>by
  simp only[AV.fgt,AV.tup.injEq]at h
  simp only[AV.trn,trns_of_fgt hn htl l h]
 | .p _ _,_=>rfl
 | .pc _ _,_=>rfl
 | .raw _,_=>rfl
 | .ip _ _,_=>rfl
 | .fn _,_=>rfl
 | .top,_=>rfl
theorem trns_of_fgt (hn:n∈ns) (htl:∀n,n∈tl→n∈ns):∀(l:List AV),AV.fgts ns l=l→AV.trns n tl l=l
 | [],_=>rfl
 | x :: r,h=>by
  simp only[AV.fgts,ABa]at h
  simp only[AV.trns,Rw hn htl x h.1,trns_of_fgt hn htl r h.2]
end
end
def Jg:AV→Bool
 | .raw _=>true
 | .p _ _=>true
 | _=>false
def Kp:Obj→Bool
 | .arr _ _ _=>true
 | .box _ _ fs=>fs.all Jg
 | _=>false
theorem Rx {n:Nat} {e:Ty} {xs:List e.den}:∀fs:List AV,fs.all Jg=true→AV.frzs n e xs fs=fs
 | [],_=>rfl
 | x :: r,h=>by
  rw[AAU,An]at h;simp only[AV.frzs,Rx r h.2];cases x<;>first|rfl|(have:=h.1;simp[Jg]at this)
theorem Ry {n:Nat}:∀fs:List AV,fs.all Jg=true→AV.drps n fs=fs
 | [],_=>rfl
 | x :: r,h=>by
  rw[AAU,An]at h;simp only[AV.drps,Ry r h.2];cases x<;>first|rfl|(have:=h.1;simp[Jg]at this)
theorem k4 {n:Nat} {e:Ty} {xs:List e.den} {o:Obj} (h:Kp o=true):Obj.frz n e xs o=o:=by
 cases o with
 | box et b fs=>simp only[Obj.frz,Rx fs h]
 | arr et a ys=>rfl
 | _=>cases h
theorem k5 {n:Nat} {o:Obj} (h:Kp o=true):Obj.drp n o=o:=by
 cases o with
 | box et b fs=>simp only[Obj.drp,Ry fs h]
 | arr et a ys=>rfl
 | _=>cases h
theorem Rz {hs:List Nat}:∀fs:List AV,fs.all Jg=true→AV.fgts hs fs=fs
 | [],_=>rfl
 | x :: r,h=>by
  rw[AAU,An]at h;simp only[AV.fgts,Rz r h.2];cases x<;>first|rfl|(have:=h.1;simp[Jg]at this)
theorem UP {hs:List Nat} {o:Obj} (h:Kp o=true):Obj.fgt hs o=o:=by
 cases o with
 | box et b fs=>simp only[Obj.fgt,Rz fs h]
 | arr et a ys=>rfl
 | _=>cases h
theorem R0 {n:Nat} {hs:List Nat}:∀fs:List AV,fs.all Jg=true→AV.trns n hs fs=fs
 | [],_=>rfl
 | x :: r,h=>by
  rw[AAU,An]at h;simp only[AV.trns,R0 r h.2];cases x<;>first|rfl|(have:=h.1;simp[Jg]at this)
theorem UQ {n:Nat} {hs:List Nat} {o:Obj} (h:Kp o=true):Obj.trn n hs o=o:=by
 cases o with
 | box et b fs=>simp only[Obj.trn,R0 fs h]
 | arr et a ys=>rfl
 | _=>cases h
structure G7 (X σ:St) (ns:List Nat):Prop where
 env:∀s v,lk s X.env=some v→v.fgt ns=v
 arr:∀n o,lk n X.objs=some o→Kp o=true
 new:∀n o,lk n X.objs=some o→lk n σ.objs=none
 nm:∀n o,lk n X.objs=some o→n∉ns
section
variable {σ σ' X:St} {ns:List Nat}
theorem Lp.lkn (b:Lp σ σ' X) (ha:G7 X σ ns) {n:Nat} (hn:n∈ns):lk n σ'.objs=lk n σ.objs:=by
 rw[b.objs];cases a:lk n X.objs with
 | none=>rfl
 | some o=>exact absurd hn (ha.nm n o a)
theorem Lp.obs (b:Lp σ σ' X) (ha:G7 X σ ns):ZE σ σ':=by
 intro n o hn;rw[b.objs];cases a:lk n X.objs with
 | none=>exact hn
 | some c=>rw[ha.new n c a]at hn;cases hn
theorem vJ {n:Nat} (b:Lp σ σ' X) (ha:G7 X σ ns) (hn:n∈ns):Lp (frz n σ) (frz n σ') X∧G7 X (frz n σ) ns:=by
 unfold frz;split
 ·exact⟨b,ha⟩
 have core:∀(e:Ty) (xs:List e.den),Lp ⟨Cu n e xs σ.env,A2 n e xs (del n σ.objs)⟩ ⟨Cu n e xs σ'.env,A2 n e xs (del n σ'.objs)⟩ X∧G7 X ⟨Cu n e xs σ.env,A2 n e xs (del n σ.objs)⟩ ns:=by
  intro e xs;refine⟨⟨fun s=>?_,fun m=>?_⟩,ha.env,ha.arr,fun m o c=>?_,ha.nm⟩
  ·simp only[LP,b.env];cases a:lk s X.env with
   | none=>rfl
   | some v=>simp[Rs hn v (ha.env s v a)]
  ·simp only[CE,OX];by_cases c:m=n
   ·subst c;cases a:lk m X.objs with
    | none=>simp
    | some o=>exact absurd hn (ha.nm m o a)
   ·simp only[At c,b.objs];cases a:lk m X.objs with
    | none=>rfl
    | some o=>exact AB5 some (k4 (ha.arr m o a))
  ·simp only[CE,OX];split
   ·rfl
   ·rw[ha.new m o c];rfl
 rw[b.lkn ha hn];unfold ZH;split
 ·exact core _ _
 ·rename_i et f k e xs d;exact core (.agg (.prod k (.slice e))) xs
 ·exact⟨b,ha⟩
theorem R1:∀ {l:List Nat} {σ σ':St},Lp σ σ' X→G7 X σ ns→(∀n∈l,n∈ns)→Lp (CS l σ) (CS l σ') X∧G7 X (CS l σ) ns
 | [],_,_,a,ha,_=>⟨a,ha⟩
 | n :: l,σ,σ',a,ha,h=>by
  obtain⟨h1,b⟩:=vJ a ha (h n (by simp));have:=R1 (l:=l) h1 b fun m c=>h m (by simp[c]);exact this
def k6 (σ σ':St) (xs:List Operand):Prop:=∀x∈xs,AZ σ' x=AZ σ x
theorem Qw (b:Lp σ σ' X) {xs:List Operand} (h:∀t∈xs.filterMap NB,lk t X.env=none):k6 σ σ' xs:=by
 intro x a;cases x with
 | tmp t =>
  simp only[AZ,b.env];rw[h t (ACd.2 ⟨_,a,rfl⟩)];rfl
 | const v=>rfl
 | global g=>rfl
 | func f=>rfl
theorem Kq:∀ {l:List (Nat×Operand)},k6 σ σ' (l.map (·.2))→Cv σ' l=Cv σ l
 | [],_=>rfl
 | (i,x) :: r,h=>by
  simp only[Cv];rw[h x (by simp),Kq (fun y a=>h y (by simp only[tO,Do];exact .inr a))]
theorem NK:∀ {l:List (Nat×Operand)},k6 σ σ' (l.map (·.2))→EX σ' l=EX σ l
 | [],_=>rfl
 | (i,x) :: r,h=>by
  simp only[EX];rw[h x (by simp),NK (fun y a=>h y (by simp only[tO,Do];exact .inr a))]
theorem Zl (b:Lp σ σ' X) (ha:G7 X σ ns) (n:Nat):CR (lk n σ'.objs)=CR (lk n σ.objs):=by
 rw[b.objs];cases a:lk n X.objs with
 | none=>rfl
 | some o =>
  rw[ha.new n o a];have:=ha.arr n o a;cases o<;>first|rfl|cases this
theorem Xd (a:Lp σ σ' X) (ha:G7 X σ ns) {op:Op} (h:k6 σ σ' op.operands.toList):B4 σ' op=B4 σ op:=by
 cases op<;>simp only[B4];case buildSlice t n parts =>
  exact Kq (fun x a=>h x (by simpa[Op.operands] using a))
 case build t parts =>
  exact NK (fun x a=>h x (by simpa[Op.operands] using a))
 case store t x y =>
  rw[h x (by simp[Op.operands]),h y (by simp[Op.operands])];unfold CD;split
  ·rw[Zl a ha]
  ·rfl
 case mapUpdate t m x y =>
  rw[h m (by simp[Op.operands]),h x (by simp[Op.operands]),h y (by simp[Op.operands])]
def Ir (σ:St):Option AV→Option AV→List Nat
 | some (.sr n _ _ _),some (.sr m _ _ _)=>if CR (lk n σ.objs)=true then [n,m] else [n]
 | some (.sr n _ _ _),_=>[n]
 | some (.nin n _ _ _),_=>[n]
 | some (.raw _),some (.sr m _ _ _)=>if CR (lk m σ.objs)=true then [m] else []
 | _,_=>[]
def Xe (σ:St):Option AV→Option AV→List Nat
 | some (.ep n _ _ _ _),some (.sr m _ _ _)=>if CR (lk n σ.objs)=true then [n,m] else []
 | _,_=>[]
def Vx (σ:St):Op→List Nat
 | .call c=>match c.callee,c.args.toList with
  | .builtin .append,[x,y]=>Ir σ (AZ σ x) (AZ σ y)
  | _,_=>[]
 | .store _ x y=>Xe σ (AZ σ x) (AZ σ y)
 | _=>[]
theorem pN {n:Nat} {e:Ty} {lo hi:Nat} {v:AV}:n∈Ir σ (some (.sr n e lo hi)) (some v):=by
 cases v<;>first|(simp[Ir];done)|(simp only[Ir];split<;>simp)
theorem c7 (f:Lp σ σ' X) (ha:G7 X σ ns) {tl:List Nat} (e:∀n,n∈tl→n∈ns) {d b:Nat} {v:AV} {g:Obj} (i:lk d X.env=none) (j:lk b X.objs=none) :
  Lp ⟨(d,v) :: Ba tl σ.env,(b,g) :: Ab tl tl σ.objs⟩ ⟨(d,v) :: Ba tl σ'.env,(b,g) :: Ab tl tl σ'.objs⟩ X:=by
 refine⟨fun s=>?_,fun m=>?_⟩
 ·simp only[lk];by_cases hs:s=d
  ·subst hs;rw[BY rfl,BY rfl,i];rfl
  ·rw[At hs,At hs,Dl,Dl,f.env];cases a:lk s X.env with
   | none=>rfl
   | some w=>simp[Rv e w (ha.env s w a)]
 ·simp only[lk];by_cases c:m=b
  ·subst c;rw[BY rfl,BY rfl,j];rfl
  ·rw[At c,At c,BR,BR,f.objs];cases a:lk m X.objs with
   | none=>rfl
   | some w =>
    rw[At fun h=>ha.nm m w a (e _ ((AW _ _).1 h))];exact AB5 some (UP (ha.arr m w a))
theorem c8 (c:Lp σ σ' X) (ha:G7 X σ ns) {n:Nat} {tl:List Nat} (hn:n∈ns) (b:∀n,n∈tl→n∈ns) {en:List (Nat×AV)} {new:List (Nat×Obj)} (d:∀s v,lk s en=some v→lk s X.env=none) (f:∀m o,lk m new=some o→lk m X.objs=none) :
  Lp ⟨en++Dp n tl σ.env,new++CJ n tl σ.objs⟩ ⟨en++Dp n tl σ'.env,new++CJ n tl σ'.objs⟩ X:=by
 refine⟨fun s=>?_,fun m=>?_⟩
 ·simp only[Av];cases hs:lk s en with
  | some v=>rw[d s v hs];rfl
  | none =>
   rw[Es,Es,c.env];cases a:lk s X.env with
   | none=>rfl
   | some w=>simp[Rw hn b w (ha.env s w a)]
 ·simp only[Av];cases e:lk m new with
  | some o=>rw[f m o e];rfl
  | none =>
   rw[Cy,Cy,c.objs];cases a:lk m X.objs with
   | none=>rfl
   | some w =>
    rw[At fun h=>ha.nm m w a (by
     rcases Do.1 ((AW _ _).1 h) with rfl|h
     ·exact hn
     ·exact b _ h)]
    exact AB5 some (UQ (ha.arr m w a))
theorem Vy {n:Nat} {o d:Obj} (c:Lp σ σ' X) (ha:G7 X σ ns) (hn:lk n σ.objs=some o) {env b:List (Nat×AV)} (f:∀s,lk s b=(lk s X.env).or (lk s env)):Lp ⟨env,upd n d σ.objs⟩ ⟨b,upd n d σ'.objs⟩ X:=by
 refine⟨f,fun m=>?_⟩;simp only[FW];have e:lk n X.objs=none:=by
  cases h:lk n X.objs with
  | none=>rfl
  | some u=>rw[ha.new n u h]at hn;cases hn
 by_cases a:m=n
 ·subst a;rw[BY rfl,BY rfl,c.objs,e];rfl
 ·rw[At a,At a,c.objs]
theorem Lp.some_lk (a:Lp σ σ' X) (ha:G7 X σ ns) {n:Nat} {o:Obj} (h:lk n σ.objs=some o):lk n σ'.objs=some o:=a.obs ha n o h
theorem k7 {tb:Tb} {op:Op} {d:Option Nat} {vc:Prop} {τ:St} (a:Lp σ σ' X) (ha:G7 X σ ns) (K:k6 σ σ' op.operands.toList) (A:∀n∈Vx σ op,n∈ns) (U:∀t,d=some t→lk t X.env=none) (T:∀n,(∃u,lk n τ.objs=some u)→lk n X.objs=none) (h:Em tb σ d op=some (vc,τ)) :
  (∃ak,Em tb σ' d op=some (vc,ak)∧Lp τ ak X)∧∀k,aq tb σ' k op=none:=by
 have R:=a.obs ha;cases op<;>simp only[Em]at h<;>try(cases h;done)
 case store t x y =>
  refine⟨?_,fun _=>rfl⟩;simp only[Em];have A:∀n∈Xe σ (AZ σ x) (AZ σ y),n∈ns:=A;rw[K x (by simp[Op.operands]),K y (by simp[Op.operands])];cases d with
  | some d=>simp[DS]at h
  | none =>
   simp only[DS]at h ⊢;generalize AZ σ x=al at h A ⊢;generalize AZ σ y=am at h A ⊢;unfold Gm at h ⊢;split at h
   ·rename_i ti n aw off v Z;try simp only
    unfold DC at h ⊢;split at h
    ·rename_i et bg fs f;rw[a.some_lk ha f];try simp only
     unfold EV at h ⊢;split at h
     ·rename_i u az h1 G;try rw[h1,G]
      try simp only
      split at h
      ·rename_i B;rw[BY B];cases h;exact⟨_,rfl,Vy a ha f a.env⟩
      ·cases h
     ·cases h
    ·cases h
   ·rename_i ti n e i aw off v Z;try simp only
    unfold DD at h ⊢;split at h
    ·rename_i et ae xs f;rw[a.some_lk ha f];try simp only
     cases aa:J0 false σ ti.ty v with
     | none=>rw[aa]at h;unfold D7 at h;split at h<;>first|(cases h;done)|(rename_i G;cases G)
     | some w =>
      rw[FE R aa];rw[aa]at h;unfold D7 at h ⊢;split at h
      ·rename_i ys w' h1 G;cases G;try rw[h1]
       try simp only
       unfold E7 at h ⊢;split at h
       ·rename_i z P;try rw[P]
        try simp only
        split at h
        ·rename_i B;rw[BY B];cases h;exact⟨_,rfl,Vy a ha f a.env⟩
        ·cases h
       ·cases h
      ·cases h
    ·rename_i et ad k F xs j f;rw[a.some_lk ha f];try simp only
     split at h
     ·rename_i m E hi;try simp only
      split at h
      ·rename_i B;rw[BY B];unfold KU at h ⊢;split at h
       ·rename_i J;rw[BY J];unfold KS at h ⊢;split at h
        ·rename_i bb af ys D;rw[a.some_lk ha D];try simp only
         split at h
         ·rename_i ap;rw[BY ap];unfold JP at h ⊢;split at h
          ·rename_i aj ab;try rw[ab]
           try simp only
           cases h;have ai:∀q,q∈[n,m]→q∈ns:=fun q c=>A q (by simp only[Xe,f,CR,AAv];exact c);refine⟨_,rfl,c8 (en:=[]) (new:=[(n,_)]) a ha (ai n (by simp)) (fun q c=>ai q (by simp at c;simp[c])) (fun s v h=>by cases h) (fun q o c=>T q ⟨o,?_⟩)⟩;simp only[lk]at c ⊢;split at c
           ·rename_i F;cases c;rw[BY F]
           ·cases c
          ·cases h
         ·cases h
        ·cases h
       ·cases h
      ·cases h
     ·cases h
    ·cases h
   ·cases h
 case mapUpdate t m x y =>
  refine⟨?_,fun _=>rfl⟩;simp only[Em];rw[K m (by simp[Op.operands]),K x (by simp[Op.operands]),K y (by simp[Op.operands])];cases d with
  | some d=>simp[DS]at h
  | none =>
   simp only[DS]at h ⊢;generalize AZ σ m=ax at h ⊢;generalize AZ σ x=al at h ⊢;generalize AZ σ y=am at h ⊢;unfold JR at h ⊢;split at h
   ·try simp only
    unfold E8 at h ⊢;split at h
    ·rename_i bf bi l f;rw[a.some_lk ha f];try simp only
     split at h
     ·rename_i B;rw[BY B];unfold Fk at h ⊢;split at h
      ·rename_i bd v1 h1 G;rw[FE R h1,FE R G];try simp only
       split at h
       ·rename_i J;rw[BY J];cases h;exact⟨_,rfl,Vy a ha f a.env⟩
       ·cases h
      ·cases h
     ·cases h
    ·cases h
   ·cases h
 case call cl =>
  obtain⟨callee,⟨args⟩,⟨argTypes⟩⟩:=cl;cases callee with
  | value g=>simp[Cp]at h
  | invoke r m=>simp[Cp]at h
  | builtin b =>
   simp only[Cp]at h;unfold DF at h;split at h
   ·rename_i x y t u;have O:AZ σ' x=AZ σ x:=K x (by simp[Op.operands,Call.operands]);have S:AZ σ' y=AZ σ y:=K y (by simp[Op.operands,Call.operands]);have A:∀n∈Ir σ (AZ σ x) (AZ σ y),n∈ns:=fun n hn=>A n (by simpa[Vx] using hn);unfold Co at h;split at h
    ·rename_i n e hi v C I;rw[C,I]at A;refine⟨?_,fun k=>by simp[aq,CY,Cn,CK,O,C]⟩;simp only[Em,Cp,DF,Co,O,C,S,I];split at h
     ·rename_i p ;have L:=U p rfl;have M:n∈ns:=A n pN;try simp only
      split at h
      ·rename_i N;rw[BY N];unfold D8 at h ⊢;split at h
       ·rename_i af av el b2 Y;try rw[Y]
        try simp only
        split at h
        ·rename_i W;rw[BY W];unfold CF at h ⊢;split at h
         ·rename_i ti et ae xs h1 f;try rw[h1]
          try rw[a.some_lk ha f]
          try simp only
          split at h
          ·rename_i ar;rw[BY ar];unfold EW at h ⊢;split at h
           ·rename_i aj ys G P;try rw[G]
            rw[Ke R P];try simp only
            cases h;refine⟨_,rfl,⟨fun s=>?_,fun m=>?_⟩⟩
            ·simp only[lk];by_cases hs:s=p
             ·subst hs;rw[BY rfl,BY rfl,L];rfl
             ·rw[At hs,At hs,Ih,Ih,a.env];cases H:lk s X.env with
              | none=>rfl
              | some w=>simp[Ru M w (ha.env s w H)]
            ·simp only[FW,Bc];have ao:lk n X.objs=none:=by
              cases H:lk n X.objs with
              | none=>rfl
              | some w=>exact absurd M (ha.nm n w H)
             by_cases D:m=n
             ·subst D;rw[BY rfl,BY rfl,a.objs,ao];rfl
             ·rw[At D,At D,a.objs];cases H:lk m X.objs with
              | none=>rfl
              | some w=>exact AB5 some (k5 (ha.arr m w H))
           ·cases h
          ·cases h
         ·rename_i ti et ad k ae xs h1 f;try rw[h1]
          try rw[a.some_lk ha f]
          try simp only
          split at h
          ·rename_i B;rw[BY B];unfold Ph at h ⊢;split at h
           ·rename_i m E au;try simp only
            unfold KT at h ⊢;split at h
            ·rename_i an ba be ay ys D;rw[a.some_lk ha D];try simp only
             split at h
             ·rename_i J;rw[BY J];unfold JQ at h ⊢;split at h
              ·rename_i aj ab;try rw[ab]
               try simp only
               cases h;refine⟨_,rfl,c7 a ha (fun q c=>A q (by simp only[Ir,f,CR,AAv];exact c)) L ?_⟩;cases H:lk n X.objs with
               | none=>rfl
               | some w=>exact absurd M (ha.nm n w H)
              ·cases h
             ·cases h
            ·cases h
           ·cases h
          ·cases h
         ·cases h
        ·cases h
       ·cases h
      ·cases h
     ·cases h
    ·rename_i n e i len v C I;rw[C,I]at A;refine⟨?_,fun k=>by simp[aq,CY,Cn,CK,O,C]⟩;simp only[Em,Cp,DF,Co,O,C,S,I];split at h
     ·rename_i p ;have L:=U p rfl;have M:n∈ns:=A n (by simp[Ir]);try simp only
      split at h
      ·rename_i N;rw[BY N];unfold Lw at h ⊢;split at h
       ·rename_i af av el b2 Y;try rw[Y]
        try simp only
        split at h
        ·rename_i W;rw[BY W];unfold Mo at h ⊢;split at h
         ·rename_i ti et ad k F xs h1 f;try rw[h1]
          try rw[a.some_lk ha f]
          try simp only
          split at h
          ·rename_i B;rw[BY B];unfold KR at h ⊢;split at h
           ·rename_i ys P;rw[Ke R P];try simp only
            split at h
            ·rename_i ag;have Q:lk p X.objs=none:=by
              refine T p ?_;cases h;exact⟨_,by simp only[lk,AAv];rfl⟩
             have V:(lk p σ'.objs).isNone=true∧ys.isEmpty=false:=⟨by rw[a.objs,Q];exact ag.1,ag.2⟩;rw[BY V];cases h;refine⟨_,rfl,c8 (en:=[(p,_)]) (new:=[(p,_),(n,_)]) a ha M (fun q c=>by cases c) (fun s v h=>?_) (fun q o c=>?_)⟩
             ·simp only[lk]at h;split at h
              ·rename_i F;rw[F];exact L
              ·cases h
             ·simp only[lk]at c;split at c
              ·rename_i F;rw[F];exact Q
              ·split at c
               ·rename_i F;rw[F];cases H:lk n X.objs with
                | none=>rfl
                | some w=>exact absurd M (ha.nm n w H)
               ·cases c
            ·cases h
           ·cases h
          ·cases h
         ·cases h
        ·cases h
       ·cases h
      ·cases h
     ·cases h
    ·rename_i v C I;rw[C,I]at A;split at h
     ·rename_i p ;have L:=U p rfl;split at h
      ·rename_i N;unfold VZ at h;split at h
       ·rename_i m E au bh offs el b Z;unfold Mq at h;split at h
        ·rename_i ti an ad k e ys h1 D;split at h
         ·rename_i B;unfold Mp at h;split at h
          ·rename_i J;have Q:lk p X.objs=none:=by
            refine T p ?_;cases h;exact⟨_,by simp only[lk,AAv];rfl⟩
           have V:(lk p σ'.objs).isNone=true:=by rw[a.objs,Q];exact J.1
           have ah:=a.some_lk ha D;refine⟨?_,fun bc=>by simp[aq,CY,Cn,CK,O,C,S,I,N,D6,Mj,ah,CR];split<;>simp[EU]⟩;cases h;simp only[Em,Cp,DF,Co,O,C,S,I,VZ,Mq,Mp];rw[BY N,Z];simp only;rw[ah,h1];simp only;rw[BY B,BY ⟨V,J.2⟩];exact⟨_,rfl,c7 a ha (fun q c=>A q (by simp only[Ir,D,CR,AAv];exact c)) L Q⟩
          ·cases h
         ·cases h
        ·cases h
       ·cases h
      ·cases h
     ·cases h
    ·cases h
   ·cases h
end
end
section
open Go Go.RowKit
def pO (o:Obj):Bool:=Kp o
def Jh (o:Oper):EN→Bool
 | []=>true
 | (d,_,_) :: r=>!AU d (F2 o.op)&&!AU d o.dst.toList&&Jh o r
def Qx (ns:List Nat) (σ:List (Nat×Obj)):List (Nat×Obj)→Bool
 | []=>true
 | (n,o) :: r=>(lk n σ).isNone&&!AU n ns&&pO o&&Qx ns σ r
def II (ns:List Nat) (σ:List (Nat×Obj)):EN→Bool
 | []=>true
 | (_,_,obs) :: r=>Qx ns σ obs&&II ns σ r
def Vz (τ:List (Nat×Obj)):List (Nat×Obj)→Bool
 | []=>true
 | (n,_) :: r=>(lk n τ).isNone&&Vz τ r
def NL (τ:List (Nat×Obj)):EN→Bool
 | []=>true
 | (_,_,obs) :: r=>Vz τ obs&&NL τ r
def It (ns:List Nat):EN→EN
 | []=>[]
 | (d,v,obs) :: r=>(d,v.fgt ns,obs) :: It ns r
def tn (σ:St) (o:Op):List Nat:=B4 σ o++Vx (CS (B4 σ o) σ) o
theorem EA {o:Oper}:∀ {ens:EN},Jh o ens=true→∀e∈ens,e.1∉F2 o.op∧o.dst≠some e.1
 | [],_,e,a=>by cases a
 | (d,v,obs) :: r,h,e,a=>by
  simp only[Jh,An,To]at h;rcases Do.1 a with rfl|a
  ·refine⟨fun b=>(by rw[(AW _ _).2 b]at h;cases h.1.1),fun b=>?_⟩;have:=h.1.2;rw[b]at this;simp[AU]at this
  ·exact EA h.2 e a
theorem NM {ns:List Nat} {σ:List (Nat×Obj)}:∀ {l:List (Nat×Obj)},Qx ns σ l=true→∀p∈l,lk p.1 σ=none∧p.1∉ns∧pO p.2=true
 | [],_,e,a=>by cases a
 | (n,o) :: r,h,p,hp=>by
  simp only[Qx,An,To,AAx]at h;rcases Do.1 hp with rfl|hp
  ·exact⟨h.1.1.1,fun b=>(by rw[(AW _ _).2 b]at h;cases h.1.1.2),h.1.2⟩
  ·exact NM h.2 p hp
theorem Ew {ns:List Nat} {σ:List (Nat×Obj)}:∀ {ens:EN},II ns σ ens=true→∀e∈ens,∀p∈e.2.2,lk p.1 σ=none∧p.1∉ns∧pO p.2=true
 | [],_,e,a=>by cases a
 | (d,v,obs) :: r,h,e,a=>by
  simp only[II,An]at h;rcases Do.1 a with rfl|a
  ·exact NM h.1
  ·exact Ew h.2 e a
theorem P6 {τ:List (Nat×Obj)}:∀ {l:List (Nat×Obj)},Vz τ l=true→∀p∈l,lk p.1 τ=none
 | [],_,e,a=>by cases a
 | (n,o) :: r,h,p,hp=>by
  simp only[Vz,An,AAx]at h;rcases Do.1 hp with rfl|hp
  ·exact h.1
  ·exact P6 h.2 p hp
theorem Ji {τ:List (Nat×Obj)}:∀ {ens:EN},NL τ ens=true→∀e∈ens,∀p∈e.2.2,lk p.1 τ=none
 | [],_,e,a=>by cases a
 | (d,v,obs) :: r,h,e,a=>by
  simp only[NL,An]at h;rcases Do.1 a with rfl|a
  ·exact P6 h.1
  ·exact Ji h.2 e a
theorem MP {ns:List Nat}:∀ {ens:EN},It ns ens=ens→∀e∈ens,e.2.1.fgt ns=e.2.1
 | [],_,e,a=>by cases a
 | (d,v,obs) :: r,h,e,a=>by
  simp only[It,ABa,ACn,and_true,true_and]at h;rcases Do.1 a with rfl|a
  ·exact h.1
  ·exact MP h.2 e a
section
variable {c:Cx} {o:Oper} {σ:St} {ens:EN} {N:St→Prop}
theorem pP {X:St} {ns:List Nat} (b:XIn ens X) (hn:II ns σ.objs ens=true) (hf:It ns ens=ens):G7 X σ ns:=by
 refine⟨fun s v hs=>?_,fun n o a=>?_,fun n o a=>?_,fun n o a=>?_⟩
 ·obtain⟨obs,d⟩:=b.env s v hs;exact MP hf _ d
 all_goals
  obtain⟨e,c,hp⟩:=b.objs n o a;have:=Ew hn e c _ hp
 ·exact this.2.2
 ·exact this.1
 ·exact this.2.1
theorem k8 (T:c.Ok) {τ:St} {vc:Prop} (ns:List Nat) (h:FM c.tb o σ=some (vc,τ)) (aa:tn σ o.op=ns) (O:Jh o ens=true) (hn:II ns σ.objs ens=true) (Y:NL τ.objs ens=true) (hf:It ns ens=ens) (U:Ho c.nt o=true) (ah:vc) (S:N τ):Vu c o σ ens N:=by
 subst aa;intro X σ' q y a w next Q hs hk
 have ha:=pP y hn hf;have H:∀t∈F2 o.op,lk t X.env=none:=fun t C=>by
  cases j:lk t X.env with
  | none=>rfl
  | some v=>obtain⟨obs,g⟩:=y.env t v j;exact absurd C (EA O _ g).1
 have F:∀t,o.dst=some t→lk t X.env=none:=fun t C=>by
  cases j:lk t X.env with
  | none=>rfl
  | some v=>obtain⟨obs,g⟩:=y.env t v j;exact absurd C (EA O _ g).2
 have I:∀n,(∃u,lk n τ.objs=some u)→lk n X.objs=none:=fun n b=>by
  cases j:lk n X.objs with
  | none=>rfl
  | some v =>
   obtain⟨e,W,hp⟩:=y.objs n v j;obtain⟨u,b⟩:=b;rw[Ji Y e W _ hp]at b;cases b
 have af:=Xd q ha (op:=o.op) (Qw q H);obtain⟨f,A⟩:=R1 (l:=B4 σ o.op) q ha (fun m g=>by simp[tn,g]);have key:∃i,FM c.tb o σ'=some (vc,i)∧Lp τ i X:=by
  have J:∀n∈Vx (CS (B4 σ o.op) σ) o.op,n∈tn σ o.op:=fun m g=>by simp[tn,g]
  unfold FM Mr at h ⊢;rw[af];generalize CS (B4 σ o.op) σ=D at h f A J;generalize CS (B4 σ o.op) σ'=E at f;have M:=Qw f H;cases B:aq c.tb D (o.dst.getD 0) o.op with
  | some r =>
   obtain⟨ai,v,obs⟩:=r;rw[B]at h;have ad:=Qr (f.obs A) (fun x q v ag=>by rw[M x q];exact ag) B;rw[ad];simp only[J2]at h ⊢;split at h
   ·rename_i K;cases h;have L:∀n,lk n (D.add v obs o.dst).objs=(lk n obs).or (lk n D.objs):=fun n=>by cases o.dst<;>simp only[St.add,Av]
    have ab:∀n,lk n (E.add v obs o.dst).objs=(lk n obs).or (lk n E.objs):=fun n=>by cases o.dst<;>simp only[St.add,Av]
    have G:∀n u,lk n obs=some u→lk n X.objs=none:=fun n u b=>I n ⟨u,by rw[L,b];rfl⟩;have Z:BQ obs E=true:=by
     simp only[BQ,DO,AAx]at K ⊢;intro p hp;obtain⟨u,b⟩:=Ou hp;rw[f.objs,G _ u b,K p hp];rfl
    rw[BY Z];refine⟨_,rfl,fun s=>?_,fun n=>?_⟩
    ·cases V:o.dst with
     | none=>simp only[St.add];exact f.env s
     | some d =>
      simp only[St.add,lk];by_cases k:s=d
      ·rw[BY k,BY k,k,F d V];rfl
      ·rw[At k,At k];exact f.env s
    ·rw[L,ab,f.objs];cases b:lk n obs with
     | none=>rfl
     | some u=>rw[G n u b];rfl
   ·cases h
  | none =>
   rw[B]at h;simp only[J2]at h;obtain⟨⟨i,h1,z⟩,R⟩:=k7 f A M J F I h;rw[R];simp only[J2];exact⟨i,h1,z⟩
 obtain⟨i,h1,z⟩:=key;exact M6 T hs h1 ah (Bd U) fun P w' ae=>hk τ S P w' i z ae
end
section
variable {c:Cx} {ops:List Oper} {Kf:St→Prop} {τ:St} {ens:EN} {vc:Prop}
theorem pQ {D:List Nat} (h:Zh c.tb ops τ.objs D [] τ.env=some (vc,ens)) (b:vc) (a:Om ens τ.objs=true) (hk:Kf (Kn ens τ)):pF c ops Kf [] D ens τ:=⟨⟨vc,h,b,a⟩,hk⟩
theorem pR {A D:List Nat} {l:Nat} {b:List (List Nat×Nat)} {o:Oper} {d:St} {a:EN} (h:Zh c.tb ops τ.objs (A++qs b D) [] τ.env=some (vc,ens)) (j:vc) (g:Om ens τ.objs=true) (i:ops[l]?=some o) (k:Kn (ens.take A.length) τ=d) (f:ens.drop A.length=a)
  (e:Vu c o d a (fun m=>pF c ops Kf b D a m)):pF c ops Kf ((A,l) :: b) D ens τ:=by
 subst k f;exact⟨⟨vc,h,j,g⟩,o,i,e⟩
end
end
section
open Go
attribute [local go_sem] XK AL List.toList_toArray Bl evG evK TS EH JS F1 FC FM Mr J2 B4 Cv LJ CD CS frz ZH Fv Cu A2 E3 BO AV.frz AV.frzs AV.drp AV.drps AV.names AV.namess aq Fy J1 JI QW H6 BP BW IY Dz He D0 Hg Hf Hh RK Ml GG JK E5 Du RL OQ nY IZ Hi KO Eh DR H9 JL D5 QX CK D6 EU OT Hj OU KP IA JM Cn CY Em DS Gm DC EV DD D7 E7 CD CR Mj OP L9 Fj H8 H7 JJ Lw Mo KR KU KS JP Ph KT JQ VZ Mq Mp AV.trn AV.trns Dp CJ Obj.trn Ir Xe Cp DF Co D8 CF EW AZ lk GS Fx Gj t7 ZG TX ZJ Pf kC kD uD AV.cells B0 IW Mk JO Mn CB Lu Ty.cell1 Hd EP DQ FL J0 Dy JH KN OO El GF Ln QU RJ KM JF VX Wq Pe Lv Ce IX RV.flat Ty.flat Ty.size St.add upd del BQ Value.oneCell' KJ Ty.dflt Hc M9 Gw NH List.take_succ_cons List.take_zero List.length_cons XT XU NG Im Kj Ge Io o0 FD LT LU LV LW Oe Og Jb Ht Rd Option.map_some Option.map_none Option.bind_some Option.getD_some Option.getD_none Option.isNone_none Option.isNone_some Bool.and_true Bool.true_and Bool.and_false Bool.false_and Bool.not_true Bool.not_false if_true if_false List.length_cons List.length_nil and_true true_and and_self List.all_cons List.all_nil List.append_nil List.nil_append List.cons_append List.getElem?_cons_zero List.getElem?_cons_succ List.getElem?_nil List.map_cons List.map_nil List.set_cons_zero List.set_cons_succ List.isEmpty_nil List.isEmpty_cons decide_true decide_false beq_self_eq_true bne_self_eq_false Nat.zero_add Nat.add_zero Nat.sub_zero Int.toNat_natCast Int.toNat_zero Int.toNat_one List.take_length List.length_append List.length_singleton true_or or_true or_self false_or or_false Ty.agg.injEq Ty.slice.injEq Ty.prod.injEq Ty.int.injEq Option.some.injEq beq_iff_eq J8 evMG evMQ o6 Gy Kg Bo Il F2 NB Ij Gx Hu Jc J7 MK L1 ML Qa Kh NC ND Ik AU Ac Op.operands Call.operands List.filterMap_cons List.filterMap_nil List.append_eq Bool.cond_false_right Bool.cond_true_left cond_true cond_false implies_true decide_eq_true_eq beq_true beq_false Bool.or_true Bool.or_false Bool.true_or Bool.false_or Option.isSome_some Array.empty_append List.append_toArray E4 LK EX Gk VY Mm E6 FU FT Hk Gl JN KQ TY ZI IR inB JR E8 Fk Ia Ak XV List.drop_zero DJ Gz Vs Ci Kl Ba AV.fgt AV.fgts Obj.fgt Ab Ap AU Df Kk Bg Ip List.any_cons List.any_nil Zh XY Vt XZ Kn Om qs List.flatMap_cons List.flatMap_nil List.cons_append tn Vx It List.take_succ_cons List.drop_succ_cons CG Cc Al FB Ja Bn EZ DV Gv Hs GH IE
end
end Go.Proofs.YtdapahgnpbehbaaGreat.Fw
