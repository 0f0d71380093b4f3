/- Regions in which operations on memory float among quiet ones. -/
import Derived.Test.YtdapahgnpbehbaaGreatIZG
set_option linter.unusedVariables false
set_option linter.unusedSimpArgs false
namespace Go.Proofs.YtdapahgnpbehbaaGreat.Fw
section
open Go Go.RowKit
abbrev EN:=List (Nat×AV×List (Nat×Obj))
def Yf (x:Option Oper) (f:Oper→Option (Prop×EN)):Option (Prop×EN) :=
 match x with
 | some o=>f o
 | none=>none
def WL (d:Option Nat) (r:BZ) (f:Nat→Prop→AV→List (Nat×Obj)→Option (Prop×EN)):Option (Prop×EN) :=
 match d,r with
 | some d,some (vc,v,obs)=>f d vc v obs
 | _,_=>none
def Yg (d:Nat) (vc:Prop) (v:AV) (obs:List (Nat×Obj)) (r:Option (Prop×EN)):Option (Prop×EN) :=
 match r with
 | some (a,l)=>some (vc∧a,(d,v,obs) :: l)
 | none=>none
def jY (tb:Tb) (ops:List Oper) (base:List (Nat×Obj)):List Nat→List (Nat×List (Nat×Obj))→List (Nat×AV)→Option (Prop×EN)
 | [],_,_=>some (True,[])
 | i :: Q,E,env=>Yf (ops[i]?) fun o=>WL o.dst (aq tb ⟨env,Lc false o.op base E⟩ (o.dst.getD 0) o.op) fun d vc v obs=>Yg d vc v obs (jY tb ops base Q (JD d obs E) ((d,v) :: env))
def Lo:EN→St→St
 | [],σ=>σ
 | (d,v,obs) :: r,σ=>Lo r ⟨(d,v) :: σ.env,obs++σ.objs⟩
def Pf:EN→List (Nat×Obj)→Bool
 | [],_=>true
 | (_,_,obs) :: r,objs=>(obs.all fun p=>(lk p.1 objs).isNone)&&Pf r (obs++objs)
def A4X (tb:Tb) (ops:List Oper) (Q:List Nat) (ens:EN) (τ:St):Prop:=∃vc:Prop,jY tb ops τ.objs Q [] τ.env=some (vc,ens)∧vc∧Pf ens τ.objs=true
def qs (a:List (List Nat×Nat)) (D:List Nat):List Nat:=(a.flatMap (·.1))++D
def qB1 (ops:List Oper) (anc:List (List Nat)) (L Q:List Nat):List Nat→List Nat→Bool
 | [],_=>true
 | i :: r,pre=>(match ops[i]? with
   | some o=>o.dst.isSome&&o.guard.isNone&&((EE o).all fun e=>AW e L||AW e pre)&&((GI o.op).all fun t=>Q.all fun j=>Ai ops j != some t||(AW j (anc.getD i [])&&AW j pre))&&(pre.all fun j=>Ai ops j != o.dst)&&!AW i L&&!AW i pre
   | none=>false)&&qB1 ops anc L Q r (i :: pre)
def Sh (ops:List Oper) (anc:List (List Nat)) (p0:Nat):List Nat→List (List Nat×Nat)→List Nat→Bool
 | L,[],D=>qB1 ops anc L D D []&&((List.range p0).all fun i=>AW i L||AW i D)&&decide (L.length+D.length=p0)&&decide (p0≤ops.length)&&(L.all fun i=>decide (i<p0))&&(D.all fun i=>decide (i<p0))&&((List.range ops.length).all fun i=>decide (i<p0)||(List.range i).all fun j=>AW j (anc.getD i []))
 | L,(A,l) :: a,D=>qB1 ops anc L (A++qs a D) (A++qs a D) []&&(match ops[l]? with
   | some o=>o.guard.isNone&&((EE o).all fun e=>AW e L||AW e A)&&(A.all fun j=>AW j (anc.getD l []))&&!AW l L&&!AW l (A++qs a D)
   | none=>false)&&(a.all fun p=>AW l (anc.getD p.2 []))&&Sh ops anc p0 (l :: (A++L)) a D
def A4Y (ops:List Oper) (anc:List (List Nat)):Bool :=
 (List.range ops.length).all fun i=>match ops[i]? with|some o=>((EE o).all fun e=>decide (e<i))&&((anc.getD i []).all fun j=>AW j (EE o)||(EE o).any fun e=>AW j (anc.getD e []))|none=>false
structure NT (σ σ' X:St):Prop where
 env:∀s,lk s σ'.env=(lk s X.env).or (lk s σ.env)
 objs:∀n,lk n σ'.objs=(lk n X.objs).or (lk n σ.objs)
structure XIn (ens:EN) (X:St):Prop where
 env:∀s v,lk s X.env=some v→∃obs,(s,v,obs)∈ens
 objs:∀n o,lk n X.objs=some o→∃e∈ens,(n,o)∈e.2.2
def Tz (c:Cx) (o:Oper) (σ:St) (ens:EN) (N:St→Prop):Prop :=
 ∀(X σ':St),NT σ σ' X→XIn ens X→∀(a:Act) (w:World) (next:Act→World→Prop) (Q:Exit→Act→World→Prop),c.sat σ' a w →
  (∀τ,N τ→∀(b:Act) (w':World) (d:St),NT τ d X→c.sat d b w'→next b w')→o.wpIn (FR c.r) 0 c.P a w next Q
def xJ (c:Cx) (ops:List Oper) (Kf:St→Prop):List (List Nat×Nat)→List Nat→EN→St→Prop
 | [],D,ens,τ=>A4X c.tb ops D ens τ∧Kf (Lo ens τ)
 | (A,l) :: a,D,ens,τ=>A4X c.tb ops (A++qs a D) ens τ∧∃o,ops[l]?=some o∧Tz c o (Lo (ens.take A.length) τ) (ens.drop A.length) (fun b=>xJ c ops Kf a D (ens.drop A.length) b)
def OL (Q:List Nat) (ens:EN) (i:Nat):En :=
 match lk i (Q.zip ens) with
 | some (_,v,obs)=>⟨true,v,obs⟩
 | none=>⟨true,.top,[]⟩
section
variable {ops:List Oper} {en:Nat→En} {τ:St}
theorem Q4:∀(l:List Nat),(Ar ops en τ l).env=(Ar ops en ⟨[],[]⟩ l).env++τ.env
 | []=>rfl
 | i :: r=>by
  simp only[Ar];cases Ai ops i with
  | none=>simp only[St.add];exact Q4 r
  | some d=>simp only[St.add,ABm];rw[Q4 r]
theorem kU (l:List Nat):(Ar ops en τ l).objs=(Ar ops en ⟨[],[]⟩ l).objs++τ.objs:=by
 rw[Fh,Fh];simp
theorem xK (l:List Nat):NT τ (Ar ops en τ l) (Ar ops en ⟨[],[]⟩ l) :=
 ⟨fun s=>by rw[Q4,A0],fun n=>by rw[kU,A0]⟩
structure Own (ops:List Oper) (en:Nat→En) (τ:St) (Q:List Nat):Prop where
 slot:∀i∈Q,∀j∈Q,∀s,Ai ops i=some s→Ai ops j=some s→i=j
 new:∀i∈Q,∀n o,lk n (en i).obs=some o→lk n τ.objs=none
 name:∀i∈Q,∀j∈Q,∀n o o',lk n (en i).obs=some o→lk n (en j).obs=some o'→i=j
theorem xL {Q l:List Nat} (h:Own ops en τ Q) (d:∀i∈l,i∈Q) (s:Nat) (v:AV):lk s (Ar ops en τ l).env=some v↔(∃i∈l,Ai ops i=some s∧(en i).v=v)∨((∀i∈l,Ai ops i≠some s)∧lk s τ.env=some v):=by
 rw[Fi];cases hf:l.find? (fun j=>Ai ops j==some s) with
 | none =>
  have hn:∀i∈l,Ai ops i≠some s:=fun i hi=>by simpa using ABS.1 hf i hi
  constructor
  ·intro b;exact .inr ⟨hn,b⟩
  ·rintro (⟨i,hi,a,_⟩|⟨_,b⟩)
   ·exact absurd a (hn i hi)
   ·exact b
 | some j =>
  have c:=ABL hf;have a:Ai ops j=some s:=by simpa using ACG hf
  constructor
  ·intro b;cases b;exact .inl ⟨j,c,a,rfl⟩
  ·rintro (⟨i,hi,e,rfl⟩|⟨hn,_⟩)
   ·rw[h.slot i (d i hi) j (d j c) s e a]
   ·exact absurd a (hn j c)
theorem xM {Q l:List Nat} (h:Own ops en τ Q) (e:∀i∈l,i∈Q) (n:Nat) (o:Obj):lk n (Ar ops en τ l).objs=some o↔(∃i∈l,lk n (en i).obs=some o)∨((∀i∈l,lk n (en i).obs=none)∧lk n τ.objs=some o):=by
 rw[Fh,A0];cases hf:lk n (l.flatMap fun j=>(en j).obs) with
 | some m =>
  obtain⟨j,c,a⟩:=o6 hf;simp only[ACt];constructor
  ·intro b;cases b;exact .inl ⟨j,c,a⟩
  ·rintro (⟨i,hi,d⟩|⟨hn,_⟩)
   ·have:=h.name i (e i hi) j (e j c) n o m d a;subst this;rw[←a,d]
   ·rw[hn j c]at a;cases a
 | none =>
  have hn:=K7 hf;simp only[Option.none_or];constructor
  ·intro b;exact .inr ⟨hn,b⟩
  ·rintro (⟨k,g,f⟩|⟨_,h1⟩)
   ·rw[hn k g]at f;cases f
   ·exact h1
theorem sU {Q l A:List Nat} (h:Own ops en τ Q) (k:∀i∈l,i∈Q) (m:∀i∈A,i∈l):NT (Ar ops en τ A) (Ar ops en τ l) (Ar ops en ⟨[],[]⟩ (l.filter fun i=>!AW i A)):=by
 have h0:Own ops en ⟨[],[]⟩ Q:=⟨h.slot,fun _ _ _ _ _=>rfl,h.name⟩;have hf:∀i∈l.filter (fun i=>!AW i A),i∈Q:=fun i hi=>k i (AAj.1 hi).1;have q:∀i∈A,i∈Q:=fun i hi=>k i (m i hi);have e:∀i,i∈l.filter (fun i=>!AW i A)↔i∈l∧i∉A:=fun i=>by
  rw[AAj];have:=AY i A;constructor
  ·rintro⟨h1,p⟩;exact⟨h1,fun r=>by rw[this.2 r]at p;cases p⟩
  ·rintro⟨h1,p⟩;refine⟨h1,?_⟩;cases t:AW i A with
   | false=>rfl
   | true=>exact absurd (this.1 t) p
 refine⟨fun s=>ACw fun v=>?_,fun n=>ACw fun o=>?_⟩
 ·rw[xL h k,Option.or_eq_some_iff,xL h0 hf,xL h q];constructor
  ·rintro (⟨i,hi,d,a⟩|⟨hn,a⟩)
   ·by_cases c:i∈A
    ·refine .inr ⟨?_,.inl ⟨i,c,d,a⟩⟩;cases b:lk s (Ar ops en ⟨[],[]⟩ (l.filter fun i=>!AW i A)).env with
     | none=>rfl
     | some u =>
      rcases (xL h0 hf s u).1 b with ⟨j,f,g,_⟩|⟨_,b⟩
      ·have:=h.slot i (k i hi) j (hf j f) s d g;subst this;exact absurd c ((e i).1 f).2
      ·cases b
    ·exact .inl (.inl ⟨i,(e i).2 ⟨hi,c⟩,d,a⟩)
   ·refine .inr ⟨?_,.inr ⟨fun i hi=>hn i (m i hi),a⟩⟩;cases b:lk s (Ar ops en ⟨[],[]⟩ (l.filter fun i=>!AW i A)).env with
    | none=>rfl
    | some u =>
     rcases (xL h0 hf s u).1 b with ⟨j,f,g,_⟩|⟨_,b⟩
     ·exact absurd g (hn j ((e j).1 f).1)
     ·cases b
  ·rintro ((⟨i,hi,d,a⟩|⟨_,a⟩)|⟨b,⟨i,hi,d,a⟩|⟨hn,a⟩⟩)
   ·exact .inl ⟨i,((e i).1 hi).1,d,a⟩
   ·cases a
   ·exact .inl ⟨i,m i hi,d,a⟩
   ·refine .inr ⟨fun i hi d=>?_,a⟩;by_cases c:i∈A
    ·exact hn i c d
    ·have:=(xL h0 hf s (en i).v).2 (.inl ⟨i,(e i).2 ⟨hi,c⟩,d,rfl⟩);rw[b]at this;cases this
 ·rw[xM h k,Option.or_eq_some_iff,xM h0 hf,xM h q];constructor
  ·rintro (⟨i,hi,a⟩|⟨hn,a⟩)
   ·by_cases c:i∈A
    ·refine .inr ⟨?_,.inl ⟨i,c,a⟩⟩;cases b:lk n (Ar ops en ⟨[],[]⟩ (l.filter fun i=>!AW i A)).objs with
     | none=>rfl
     | some u =>
      rcases (xM h0 hf n u).1 b with ⟨j,f,g⟩|⟨_,b⟩
      ·have:=h.name i (k i hi) j (hf j f) n _ _ a g;subst this;exact absurd c ((e i).1 f).2
      ·cases b
    ·exact .inl (.inl ⟨i,(e i).2 ⟨hi,c⟩,a⟩)
   ·refine .inr ⟨?_,.inr ⟨fun i hi=>hn i (m i hi),a⟩⟩;cases b:lk n (Ar ops en ⟨[],[]⟩ (l.filter fun i=>!AW i A)).objs with
    | none=>rfl
    | some u =>
     rcases (xM h0 hf n u).1 b with ⟨j,f,g⟩|⟨_,b⟩
     ·rw[hn j ((e j).1 f).1]at g;cases g
     ·cases b
  ·rintro ((⟨i,hi,a⟩|⟨_,a⟩)|⟨b,⟨i,hi,a⟩|⟨hn,a⟩⟩)
   ·exact .inl ⟨i,((e i).1 hi).1,a⟩
   ·cases a
   ·exact .inl ⟨i,m i hi,a⟩
   ·refine .inr ⟨fun i hi=>?_,a⟩;by_cases c:i∈A
    ·exact hn i c
    ·cases d:lk n (en i).obs with
     | none=>rfl
     | some u =>
      have:=(xM h0 hf n u).2 (.inl ⟨i,(e i).2 ⟨hi,c⟩,d⟩);rw[b]at this;cases this
end
def xN (tb:Tb) (ops:List Oper) (τ:St) (en:Nat→En) (pre:List Nat) (i:Nat) (o:Oper):Prop :=
 ∃vc:Prop,aq tb ⟨(Ar ops en τ pre).env,Bv false (GI o.op) τ.objs (ES ops en pre)⟩ (o.dst.getD 0) o.op=some (vc,(en i).v,(en i).obs)∧vc
theorem aJ {ts:List Nat} {base:List (Nat×Obj)} {d:Nat} {obs:List (Nat×Obj)} {E:List (Nat×List (Nat×Obj))}:Bv false ts base (JD d obs E)=Bv false ts base ((d,obs) :: E):=by
 cases obs with
 | nil=>simp only[JD,Bv,AB7];split<;>rfl
 | cons x r=>rfl
theorem xO {o:Op} {base:List (Nat×Obj)} {E:List (Nat×List (Nat×Obj))}:Lc false o base E=Bv false (GI o) base E:=by
 cases E<;>rfl
theorem Wz {tb:Tb} {ops:List Oper} {τ:St} {en:Nat→En}:∀ {Q:List Nat} {ens:EN} {pre:List Nat} {E:List (Nat×List (Nat×Obj))} {vc:Prop},jY tb ops τ.objs Q E (Ar ops en τ pre).env=some (vc,ens)→vc →
  (∀ts,Bv false ts τ.objs E=Bv false ts τ.objs (ES ops en pre))→(∀(j i:Nat) (e:Nat×AV×List (Nat×Obj)),Q[j]?=some i→ens[j]?=some e→en i=⟨true,e.2.1,e.2.2⟩) →
  ens.length=Q.length∧∀(j i:Nat),Q[j]?=some i→∃(o:Oper) (e:Nat×AV×List (Nat×Obj)),ops[i]?=some o∧ens[j]?=some e∧Ai ops i=some e.1∧xN tb ops τ en ((Q.take j).reverse++pre) i o
 | [],ens,pre,E,vc,h,q,g,m=>by
  simp only[jY]at h;cases h;exact⟨rfl,fun j i h=>by simp at h⟩
 | i :: Q,ens,pre,E,vc,h,q,g,m=>by
  simp only[jY]at h;cases b:ops[i]? with
  | none=>rw[b]at h;simp[Yf]at h
  | some o =>
   rw[b]at h;simp only[Yf]at h;cases a:o.dst with
   | none=>rw[a]at h;simp[WL]at h
   | some d =>
    cases c:aq tb ⟨(Ar ops en τ pre).env,Lc false o.op τ.objs E⟩ (o.dst.getD 0) o.op with
    | none=>rw[c,a]at h;simp[WL]at h
    | some r =>
     obtain⟨y,v,obs⟩:=r;rw[c,a]at h;simp only[WL]at h;cases n:jY tb ops τ.objs Q (JD d obs E) ((d,v) :: (Ar ops en τ pre).env) with
     | none=>rw[n]at h;simp[Yg]at h
     | some p =>
      obtain⟨A,z⟩:=p;rw[n]at h;simp only[Yg]at h;cases h;have hi:=m 0 i (d,v,obs) rfl rfl;have l:Ai ops i=some d:=by simp[Ai,b,a]
      have w:(Ar ops en τ (i :: pre)).env=(d,v) :: (Ar ops en τ pre).env:=by simp[Ar,l,St.add,hi]
      have s:=Wz (pre:=i :: pre) (by rw[w];exact n) q.2 (fun ts=>by
       rw[aJ];simp only[ES,AA1,l,ABN,hi,Bv];rw[g ts];rfl) (fun j k e h1 f=>m (j+1) k e (by simpa using h1) (by simpa using f))
      refine⟨by simp[s.1],fun j k hk=>?_⟩;cases j with
      | zero =>
       simp only[AAq,AAv]at hk;subst hk;refine⟨o,(d,v,obs),b,rfl,l,y,?_,q.1⟩;rw[xO,g]at c;simp only[AAO,List.reverse_nil,AB7];rw[hi];exact c
      | succ j =>
       obtain⟨x,e,h1,f,t,u⟩:=s.2 j k (by simpa using hk);refine⟨x,e,h1,by simpa using f,t,?_⟩;simpa[AAE] using u
theorem Q5:∀ {ens:EN} {objs:List (Nat×Obj)},Pf ens objs=true→∀(j:Nat) (e:Nat×AV×List (Nat×Obj)),ens[j]?=some e→∀n o,lk n e.2.2=some o→lk n objs=none∧∀(g:Nat) (a:Nat×AV×List (Nat×Obj)) (b:Obj),ens[g]?=some a→lk n a.2.2=some b→j=g
 | [],objs,_,j,e,h=>by simp at h
 | (d,v,obs) :: r,objs,h,j,e,f=>by
  simp only[Pf,AT,GO,AAB]at h;have h0:∀n o,lk n obs=some o→lk n objs=none:=fun n o hn=>h.1 _ (F2 hn);have l:=Q5 h.2;have low:∀(k:Nat) a,r[k]?=some a→∀n o b,lk n obs=some o→lk n a.2.2=some b→False:=by
   intro k a hk n o b h1 c;have:=(l k a hk n b c).1;rw[A0,h1]at this;simp at this
  intro n o hn;cases j with
  | zero =>
   simp only[AAq,AAv]at f;subst f;refine⟨h0 n o hn,fun g a b h1 c=>?_⟩;cases g with
   | zero=>rfl
   | succ k=>exact(low k a (by simpa using h1) n o b hn c).elim
  | succ j =>
   have f:r[j]?=some e:=by simpa using f
   have h1:=l j e f n o hn;refine⟨?_,fun g a b c i=>?_⟩
   ·have:=h1.1;rw[A0]at this;cases m:lk n obs with
    | none=>rw[m]at this;simpa using this
    | some u=>rw[m]at this;simp at this
   ·cases g with
    | zero =>
     simp only[AAq,AAv]at c;subst c;exact(low j e f n b o i hn).elim
    | succ k=>rw[h1.2 k a b (by simpa using c) i]
end
section
open Go Go.RowKit
structure W8 (ops:Array Oper) (anc:List (List Nat)):Prop where
 lt:∀i o,ops[i]?=some o→∀e∈EE o,e<i
 cl:∀i o,ops[i]?=some o→∀j∈anc.getD i [],j∈EE o∨∃e∈EE o,j∈anc.getD e []
theorem A65 {ops:Array Oper} {anc:List (List Nat)} (h:A4Y ops.toList anc=true):W8 ops anc:=by
 simp only[A4Y,GO,nO]at h;have hi:∀i o,ops[i]?=some o→((EE o).all fun e=>decide (e<i))=true∧((anc.getD i []).all fun j=>AW j (EE o)||(EE o).any fun e=>AW j (anc.getD e []))=true:=by
  intro i o a;have d:i<ops.toList.length:=by
   have:=(iF.1 a).1;simpa using this
  have:=h i d;have f:ops.toList[i]?=some o:=by simpa using a
  rw[f]at this;simpa only[AT] using this
 refine⟨fun i o a e b=>?_,fun i o a j c=>?_⟩
 ·have:=(hi i o a).1;simp only[GO,DO]at this;exact this e b
 ·have:=(hi i o a).2;simp only[GO,iS,TO,AY]at this;exact this j c
section
variable {ops:Array Oper} {k:Nat} {anc:List (List Nat)} {Q:Exit→Act→World→Prop}
theorem SB (c:W8 ops anc) {listed:Array Bool} (h:∀i o,ops[i]?=some o→listed.getD i true=true→∀e∈EE o,listed.getD e false=true) :
  ∀i o,ops[i]?=some o→(∀e∈EE o,listed.getD e false=true)→∀j∈anc.getD i [],listed.getD j false=true:=by
 intro i;induction i using Nat.strongRecOn with
 | _ i p =>
  intro o b d j k;rcases c.cl i o b j k with h1|⟨e,f,l⟩
  ·exact d j h1
  ·have n:=c.lt i o b e f;have q:i<ops.size:=(iF.1 b).1;have g:ops[e]?=some (ops[e]'(by omega)):=AAc (by omega);have a:=d e f;have m:listed.getD e true=true:=by
    by_cases hh:e<listed.size
    ·simp[Array.getD,hh]at a ⊢;exact a
    ·simp[Array.getD,hh]at a
   exact p e n _ g (h e _ g m) j l
theorem Q6 {F:Fence} {P:Program} (g:W8 ops anc) (s:∀i o,ops[i]?=some o→k≤i→∀j,j<i→j∈anc.getD i []):∀ {rest:List Oper} {p:Nat} {listed:Array Bool} {a:Act} {w:World},ops.toList.drop p=rest→k≤p→p≤ops.size→listed.size=ops.size →
  (∀i,i<ops.size→(listed.getD i true=true↔i<p))→wpListIn F 0 P ops Q rest a w→wpAnyIn F 0 P .any ops Q rest.length listed a w
 | [],p,listed,a,w,t,K,N,v,c,d=>by
  have hp:p=ops.size:=by
   have:=AAP List.length t;simp at this;omega
  refine⟨?_,d⟩;apply AC7.2;intro i hi;rw[Dm]at hi;obtain⟨h1,o,m,_⟩:=hi;have h:i<ops.size:=(iF.1 m).1;have:=(c i h).2 (by omega);rw[h1]at this;cases this
 | o :: r,p,listed,a,w,t,K,N,v,c,d=>by
  obtain⟨f,D⟩:=Wq t;have f:ops[p]?=some o:=by simpa using f
  have y:p<ops.size:=(iF.1 f).1;have n:∀e b,e<ops.size→listed.getD e b=listed.getD e true:=fun e b l=>by
   have:e<listed.size:=by omega
   simp[Array.getD,this]
  have H:∀i o,ops[i]?=some o→listed.getD i true=true→∀e∈EE o,listed.getD e false=true:=by
   intro i o m h1 e l;have h:i<ops.size:=(iF.1 m).1;have A:=(c i h).1 h1;have q:=g.lt i o m e l;rw[n e false (by omega)];exact(c e (by omega)).2 (by omega)
  have O:∀i,i∈Region.ready .any ops listed→i=p:=by
   intro i hi;rw[Dm]at hi;obtain⟨h1,E,x,A⟩:=hi;have h:i<ops.size:=(iF.1 x).1;have S:¬i<p:=fun L=>by rw[(c i h).2 L]at h1;cases h1
   by_cases u:i=p
   ·exact u
   ·have q:=SB g H i E x A p (s i E x (by omega) p (by omega));rw[n p false y]at q;have:=(c p y).1 q;omega
  refine⟨fun M=>?_,fun i hi=>?_⟩
  ·exfalso;have:p∈Region.ready .any ops listed:=by
    rw[Dm];refine⟨?_,o,f,fun e l=>?_⟩
    ·cases hh:listed.getD p true with
     | false=>rfl
     | true=>have:=(c p y).1 hh;omega
    ·have:=g.lt p o f e l;rw[n e false (by omega)];exact(c e (by omega)).2 this
   rw[M]at this;cases this
  ·have u:=O i hi;subst u;have C:∀(j:Nat),j<ops.size→((listed.setIfInBounds i true).getD j true=true↔j<i+1):=by
    intro j I;have J:j<listed.size:=by omega
    by_cases B:j=i
    ·subst B;simp[Array.getD,J]
    ·have h1:(listed.setIfInBounds i true).getD j true=listed.getD j true:=getD_set_ne true (fun e=>B e.symm);rw[h1,c j I];omega
   unfold wpOpIn;rw[f];simp only;unfold wpListIn at d;split
   ·rename_i z;rw[At z]at d;exact Oper.wpIn_mono (fun R w' G=>Q6 g s D.symm (by omega) (by omega) (by simpa using v) C G) d
   ·rename_i z;rw[As z]at d;exact⟨d.1,Q6 g s D.symm (by omega) (by omega) (by simpa using v) C d.2⟩
end
structure QOk (ops:List Oper) (anc:List (List Nat)) (L Q:List Nat):Prop where
 nodup:Q.Nodup
 pos:∀(j i:Nat),Q[j]?=some i→i∉L∧∃o,ops[i]?=some o∧o.guard=none∧(∀e∈EE o,e∈L∨e∈Q.take j)∧(∀t∈GI o.op,∀k∈Q,Ai ops k=some t→k∈anc.getD i []∧k∈Q.take j)
 slot:∀i∈Q,∀j∈Q,∀s,Ai ops i=some s→Ai ops j=some s→i=j
theorem aK {ops:List Oper} {anc:List (List Nat)} {L Q:List Nat}:∀ {r pre:List Nat},qB1 ops anc L Q r pre=true →
  (∀(j i:Nat),r[j]?=some i→i∉L∧i∉pre∧i∉r.take j∧∃o,ops[i]?=some o∧o.guard=none∧(∀e∈EE o,e∈L∨e∈pre∨e∈r.take j)∧(∀t∈GI o.op,∀k∈Q,Ai ops k=some t→k∈anc.getD i []∧(k∈pre∨k∈r.take j)) ∧
   ∀k,k∈pre∨k∈r.take j→Ai ops k≠Ai ops i)
 | [],pre,h,j,i,a=>by simp at a
 | x :: r,pre,h,j,i,a=>by
  simp only[qB1,AT]at h;obtain⟨h1,C⟩:=h;cases j with
  | zero =>
   simp only[AAq,AAv]at a;subst a;cases f:ops[x]? with
   | none=>rw[f]at h1;cases h1
   | some o =>
    rw[f]at h1;simp only[AT,GO,iS,AY,ABY,OR,AAB]at h1;obtain⟨⟨⟨⟨⟨⟨D,y⟩,z⟩,A⟩,B⟩,l⟩,m⟩:=h1;refine⟨fun h=>(by rw[(AY _ _).2 h]at l;cases l),fun h=>(by rw[(AY _ _).2 h]at m;cases m),by simp,o,rfl,y,fun e d=>?_,fun t g k hk c=>?_,fun k hk=>?_⟩
    ·rcases z e d with h|h
     ·exact .inl h
     ·exact .inr (.inl h)
    ·rcases A t g k hk with h|h
     ·exact absurd c h
     ·exact⟨h.1,.inl h.2⟩
    ·rcases hk with hk|hk
     ·have:=B k hk;simpa[Ai,f] using this
     ·simp at hk
  | succ j =>
   obtain⟨n,b,p,o,q,s,u,v,w⟩:=aK C j i (by simpa using a);simp only[By,not_or]at b;refine⟨n,b.2,by simp[AAE,b.1,p],o,q,s,fun e d=>?_,fun t g k hk c=>?_,fun k hk=>w k ?_⟩
   ·rcases u e d with h|h|h
    ·exact .inl h
    ·rcases By.1 h with rfl|h
     ·exact .inr (.inr (by simp))
     ·exact .inr (.inl h)
    ·exact .inr (.inr (by simp[h]))
   ·obtain⟨b1,b2⟩:=v t g k hk c;refine⟨b1,?_⟩;rcases b2 with h|h
    ·rcases By.1 h with rfl|h
     ·exact .inr (by simp)
     ·exact .inl h
    ·exact .inr (by simp[h])
   ·rcases hk with hk|hk
    ·exact .inl (by simp[hk])
    ·simp only[AAE,By]at hk;rcases hk with rfl|hk
     ·exact .inl (by simp)
     ·exact .inr hk
theorem aL {α:Type} {l:List α} {i j:Nat} {x:α} (h:l[i]?=some x) (a:i<j):x∈l.take j:=by
 rw[AAi];exact⟨i,by rw[oN,At a];exact h⟩
theorem qOk {ops:List Oper} {anc:List (List Nat)} {L Q:List Nat} (h:qB1 ops anc L Q Q []=true):QOk ops anc L Q:=by
 have hs:=aK h;have g:∀ {i j x y:Nat},Q[i]?=some x→Q[j]?=some y→i<j→x≠y∧Ai ops x≠Ai ops y:=by
  intro i j x y C D f;obtain⟨_,_,p,_,_,_,_,_,w⟩:=hs j y D;have m:=aL C f;exact⟨fun e=>p (e▸m),w x (.inr m)⟩
 refine⟨?_,fun j i c=>?_,fun i hi j c s h1 l=>?_⟩
 ·rw[List.nodup_iff_pairwise_ne,oF];intro i j hi c f e;exact(g (An hi) (An c) f).1 e
 ·obtain⟨n,_,_,o,q,r,u,v,_⟩:=hs j i c;refine⟨n,o,q,r,fun e A=>?_,fun t B k hk z=>?_⟩
  ·rcases u e A with h|h|h
   ·exact .inl h
   ·cases h
   ·exact .inr h
  ·obtain⟨b1,b2⟩:=v t B k hk z;rcases b2 with h|h
   ·cases h
   ·exact⟨b1,h⟩
 ·obtain⟨a,ha⟩:=AAi.1 hi;obtain⟨b,d⟩:=AAi.1 c;rcases ABv a b with h|h|h
  ·exact absurd (h1.trans l.symm) (g ha d h).2
  ·subst h;rw[ha]at d;injection d
  ·exact absurd (l.trans h1.symm) (g d ha h).2
theorem kV:∀ {Q:List Nat} {ens:EN},Q.Nodup→∀(j i:Nat) (e:Nat×AV×List (Nat×Obj)),Q[j]?=some i→ens[j]?=some e→OL Q ens i=⟨true,e.2.1,e.2.2⟩
 | [],ens,_,j,i,e,h,_=>by simp at h
 | x :: Q,[],_,j,i,e,_,h=>by simp at h
 | x :: Q,f :: ens,hn,j,i,e,h1,a=>by
  cases j with
  | zero =>
   simp only[AAq,AAv]at h1 a;subst h1;subst a;simp[OL,ACm,lk]
  | succ j =>
   have h1:Q[j]?=some i:=by simpa using h1
   have b:i≠x:=fun e=>by
    subst e;exact(AAd.1 hn).1 (AAf h1)
   have:=kV (AAd.1 hn).2 j i e h1 (by simpa using a);simp only[OL,ACm,lk,As b]at this ⊢;exact this
structure Fr (tb:Tb) (ops:List Oper) (anc:List (List Nat)) (L Q:List Nat) (ens:EN) (τ:St):Prop where
 q:QOk ops anc L Q
 len:ens.length=Q.length
 own:Own ops (OL Q ens) τ Q
 at_:∀(j i:Nat),Q[j]?=some i→∃(o:Oper) (e:Nat×AV×List (Nat×Obj)),ops[i]?=some o∧ens[j]?=some e∧Ai ops i=some e.1∧OL Q ens i=⟨true,e.2.1,e.2.2⟩∧xN tb ops τ (OL Q ens) (Q.take j).reverse i o
theorem xP {tb:Tb} {ops:List Oper} {anc:List (List Nat)} {L Q:List Nat} {ens:EN} {τ:St} (m:QOk ops anc L Q) (h:A4X tb ops Q ens τ):Fr tb ops anc L Q ens τ:=by
 obtain⟨vc,h1,s,p⟩:=h;have g:=fun(j i:Nat) (e:Nat×AV×List (Nat×Obj))=>kV (ens:=ens) m.nodup j i e;obtain⟨w,hf⟩:=Wz (en:=OL Q ens) (pre:=[]) h1 s (fun ts=>rfl) g;have l:∀i∈Q,∃(j:Nat) (e:Nat×AV×List (Nat×Obj)),Q[j]?=some i∧ens[j]?=some e∧OL Q ens i=⟨true,e.2.1,e.2.2⟩:=by
  intro i hi;obtain⟨j,c⟩:=AAi.1 hi;obtain⟨_,e,_,d,_⟩:=hf j i c;exact⟨j,e,c,d,g j i e c d⟩
 refine⟨m,w,⟨m.slot,fun i hi n o hn=>?_,fun i hi j c n o z k f=>?_⟩,fun j i c=>?_⟩
 ·obtain⟨j,e,_,d,g⟩:=l i hi;rw[g]at hn;exact(Q5 p j e d n o hn).1
 ·obtain⟨a,e,ha,d,x⟩:=l i hi;obtain⟨b,r,q,v,y⟩:=l j c;rw[x]at k;rw[y]at f;have:=(Q5 p a e d n o k).2 b r z v f;subst this;rw[ha]at q;injection q
 ·obtain⟨o,e,k,f,t,u⟩:=hf j i c;exact⟨o,e,k,f,t,g j i e c f,by simpa using u⟩
theorem sV {ops:List Oper} {en:Nat→En} {τ:St} {Q:List Nat} (h:Own ops en τ Q) {ts pre ex:List Nat} (hp:∀j∈pre,j∈Q) (e:∀j∈ex,j∈Q) (d:∀j∈pre,AW ((Ai ops j).getD 0) ts=true→j∈ex) {n:Nat} {o:Obj} :
  lk n (Bv false ts τ.objs (ES ops en pre))=some o→lk n (Ar ops en τ ex).objs=some o:=by
 rw[xM h e];induction pre with
 | nil =>
  simp only[ES,ACp,Bv];intro hn;refine .inr ⟨fun j b=>?_,hn⟩;cases a:lk n (en j).obs with
  | none=>rfl
  | some f=>have:=h.new j (e j b) n f a;rw[this]at hn;cases hn
 | cons i r c =>
  simp only[ES,AA1,Bv];have c:=c (fun j b=>hp j (by simp[b])) (fun j b=>d j (by simp[b]));split
  ·rename_i g;intro hn;rw[A0]at hn;cases a:lk n (en i).obs with
   | some f =>
    rw[a]at hn;simp only[ACt]at hn;cases hn;exact .inl ⟨i,d i (by simp) (by simpa using g),a⟩
   | none =>
    rw[a]at hn;exact c (by simpa[ES] using hn)
  ·exact c
theorem M5 {p:Nat×Obj}:∀ {l:List (Nat×Obj)},p∈l→∃b,lk p.1 l=some b
 | (c,d) :: r,h=>by
  simp only[lk];by_cases a:p.1=c
  ·exact⟨d,by rw[At a]⟩
  ·rw[As a];rcases By.1 h with rfl|h
   ·exact absurd rfl a
   ·exact M5 h
theorem kW {c:Cx} (A:c.Ok) {ops:List Oper} {anc:List (List Nat)} {L Q:List Nat} {ens:EN} {τ:St} (hF:Fr c.tb ops anc L Q ens τ) {ex:List Nat} (l:∀i∈ex,i∈Q) {j i:Nat} {o:Oper} (y:Q[j]?=some i) (z:ops[i]?=some o) (Y:i∉ex)
  (D:∀k∈anc.getD i [],k∈Q→k∈ex) (T:∀d,o.dst=some d→d<c.nt) {a:Act} {w:World} {next:Act→World→Prop} {Qe:Exit→Act→World→Prop} (hs:c.sat (Ar ops (OL Q ens) τ ex) a w)
  (hn:∀C w',c.sat (Ar ops (OL Q ens) τ (i :: ex)) C w'→next C w'):o.wpIn (FR c.r) 0 c.P a w next Qe:=by
 obtain⟨s,e,I,al,ak,am,vc,ad,ag⟩:=hF.at_ j i y;rw[z]at I;cases I;obtain⟨_,an,J,_,_,B⟩:=hF.q.pos j i y;rw[z]at J;cases J;have h:∀k∈(Q.take j).reverse,k∈Q:=fun k hk=>AA9 (by simpa using hk);have ab:Ops ⟨(Ar ops (OL Q ens) τ (Q.take j).reverse).env,Bv false (GI o.op) τ.objs (ES ops (OL Q ens) (Q.take j).reverse)⟩ (Ar ops (OL Q ens) τ ex) o.op.operands.toList:=by
  intro x ah v b;cases x with
  | tmp t =>
   simp only[Ah]at b ⊢;have R:t∈GI o.op:=ACo.2 ⟨_,ah,rfl⟩;rw[xL hF.own h]at b;rw[xL hF.own l];rcases b with ⟨k,hk,m,W⟩|⟨Z,b⟩
   ·exact .inl ⟨k,D k (B t R k (h k hk) m).1 (h k hk),m,W⟩
   ·refine .inr ⟨fun k hk m=>?_,b⟩;exact Z k (by simpa using (B t R k (l k hk) m).2) m
  | const ao=>exact b
  | global g=>exact b
  | func f=>exact b
 have aa:Ya ⟨(Ar ops (OL Q ens) τ (Q.take j).reverse).env,Bv false (GI o.op) τ.objs (ES ops (OL Q ens) (Q.take j).reverse)⟩ (Ar ops (OL Q ens) τ ex):=by
  intro n s hn;refine sV hF.own h l (fun k hk H=>?_) hn;obtain⟨ai,U⟩:=AAi.1 (h k hk);obtain⟨_,aj,_,_,E,_⟩:=hF.at_ ai k U;rw[E]at H;exact D k (B _ ((AY _ _).1 H) k (h k hk) E).1 (h k hk)
 have ae:=Sz aa ab ad;have G:=AAf y;have F:Ba (OL Q ens i).obs (Ar ops (OL Q ens) τ ex)=true:=by
  simp only[Ba,GO,AAB];intro p hp;obtain⟨s,M⟩:=M5 hp;cases X:lk p.1 (Ar ops (OL Q ens) τ ex).objs with
  | none=>rfl
  | some u =>
   rcases (xM hF.own l p.1 u).1 X with ⟨k,hk,V⟩|⟨_,hu⟩
   ·have:=hF.own.name i G k (l k hk) p.1 s u M V;subst this;exact absurd hk Y
   ·rw[hF.own.new i G p.1 s M]at hu;cases hu
 obtain⟨ρ,N⟩:=hs;refine oU (A2P A N) ae ag F fun u ρ' w' af=>hn _ _ ?_;have S:Ai ops i=o.dst:=by simp[Ai,z]
 simp only[Ar,S];exact⟨ρ',N.add A.K A.O T F af⟩
end
section
open Go Go.RowKit
theorem MB:∀ {l l':List Nat},l.Nodup→(∀x∈l,x∈l')→l.length≤l'.length
 | [],_,_,_=>by simp
 | x :: l,l',hn,h=>by
  have a:=h x (by simp);have:=MB (l:=l) (l':=l'.erase x) (AAd.1 hn).2 (fun y b=>by
   have:y≠x:=fun e=>(AAd.1 hn).1 (e▸b);exact(ACb this).2 (h y (by simp[b])))
  rw[ABw a]at this;have:=ABk a;simp only[Of];omega
theorem JJ (A:List Nat) (l:Nat) (a:List (List Nat×Nat)) (D:List Nat):qs ((A,l) :: a) D=A++qs a D:=by simp[qs]
structure A66 (ops:List Oper) (anc:List (List Nat)) (p0:Nat) (L:List Nat) (ps:List (List Nat×Nat)) (D:List Nat):Prop where
 all:∀i,i<p0→i∈L∨i∈qs ps D∨i∈ps.map (·.2)
 back:∀i,p0≤i→i<ops.length→∀j,j<i→j∈anc.getD i []
 L:∀i∈L,i<p0
 Q:∀i∈qs ps D,i<p0
 lo:∀p∈ps,p.2<p0
 p0:p0≤ops.length
theorem UA {ops:List Oper} {anc:List (List Nat)} {p0:Nat} {L D:List Nat} (h:Sh ops anc p0 L [] D=true):QOk ops anc L D∧(∀i,i<p0→i∈L∨i∈D)∧L.length+D.length=p0∧p0≤ops.length∧(∀i∈L,i<p0)∧(∀i∈D,i<p0)∧(∀i,p0≤i→i<ops.length→∀j,j<i→j∈anc.getD i []):=by
 simp only[Sh,AT,GO,nO,iS,DO,AY]at h;obtain⟨⟨⟨⟨⟨⟨h1,a⟩,b⟩,c⟩,d⟩,e⟩,f⟩:=h;refine⟨qOk h1,a,b,c,d,e,fun i hi k j g=>?_⟩;rcases f i k with h|h
 ·omega
 ·exact h j g
theorem KH {ops:List Oper} {anc:List (List Nat)} {p0:Nat} {L D A:List Nat} {l:Nat} {b:List (List Nat×Nat)} (h:Sh ops anc p0 L ((A,l) :: b) D=true):QOk ops anc L (A++qs b D)∧(∃o,ops[l]?=some o∧o.guard=none∧(∀e∈EE o,e∈L∨e∈A))∧(∀j∈A,j∈anc.getD l [])∧l∉L∧l∉A++qs b D∧(∀p∈b,l∈anc.getD p.2 [])∧Sh ops anc p0 (l :: (A++L)) b D=true:=by
 simp only[Sh,AT,GO,AY]at h;obtain⟨⟨⟨h1,a⟩,m⟩,n⟩:=h;cases f:ops[l]? with
 | none=>rw[f]at a;cases a
 | some o =>
  rw[f]at a;simp only[AT,GO,iS,AY,OR,AAB]at a;obtain⟨⟨⟨⟨g,i⟩,k⟩,c⟩,d⟩:=a;exact⟨qOk h1,⟨o,rfl,g,i⟩,k,fun h=>(by rw[(AY _ _).2 h]at c;cases c),fun h=>(by rw[(AY _ _).2 h]at d;cases d),m,n⟩
theorem UB {ops:List Oper} {anc:List (List Nat)} {p0:Nat}:∀ {b:List (List Nat×Nat)} {L D:List Nat},Sh ops anc p0 L b D=true→A66 ops anc p0 L b D
 | [],L,D,h=>by
  obtain⟨_,h1,g,c,d,e,f⟩:=UA h;refine⟨fun i hi=>?_,f,d,by simpa[qs] using e,by simp,c⟩;rcases h1 i hi with h|h
  ·exact .inl h
  ·exact .inr (.inl (by simpa[qs] using h))
 | (A,l) :: b,L,D,h=>by
  obtain⟨_,_,_,_,_,_,h1⟩:=KH h;have a:=UB h1;refine⟨fun i hi=>?_,a.back,fun i hi=>a.L i (by simp[hi]),fun i hi=>?_,fun p hp=>?_,a.p0⟩
  ·rcases a.all i hi with h|h|h
   ·simp only[By,OF]at h;rcases h with rfl|h|h
    ·exact .inr (.inr (by simp))
    ·exact .inr (.inl (by rw[JJ];simp[h]))
    ·exact .inl h
   ·exact .inr (.inl (by rw[JJ];simp[h]))
   ·exact .inr (.inr (by simp only[AA1,By];exact .inr h))
  ·rw[JJ,OF]at hi;rcases hi with hi|hi
   ·exact a.L i (by simp[hi])
   ·exact a.Q i hi
  ·rcases By.1 hp with rfl|hp
   ·exact a.L l (by simp)
   ·exact a.lo p hp
theorem Yh {ops:List Oper} {en:Nat→En} {τ:St}:∀ {Q:List Nat} {ens:EN} {pre:List Nat},ens.length=Q.length→(∀(j i:Nat) (e:Nat×AV×List (Nat×Obj)),Q[j]?=some i→ens[j]?=some e→Ai ops i=some e.1∧en i=⟨true,e.2.1,e.2.2⟩) →
  Lo ens (Ar ops en τ pre)=Ar ops en τ (Q.reverse++pre)
 | [],[],pre,_,_=>rfl
 | [],_ :: _,_,h,_=>by simp at h
 | _ :: _,[],_,h,_=>by simp at h
 | i :: Q,(d,v,obs) :: ens,pre,f,h=>by
  obtain⟨h1,a⟩:=h 0 i (d,v,obs) rfl rfl;have:(⟨(d,v) :: (Ar ops en τ pre).env,obs++(Ar ops en τ pre).objs⟩:St)=Ar ops en τ (i :: pre):=by simp[Ar,h1,a,St.add]
  simp only[Lo];rw[this,Yh (by simpa using f) (fun j k e b c=>h (j+1) k e (by simpa using b) (by simpa using c))];simp
section
variable {c:Cx} {ops:Array Oper} {anc:List (List Nat)} {p0:Nat} {Kf:St→Prop} {Qe:Exit→Act→World→Prop}
theorem xQ {a:List (List Nat×Nat)} {L D:List Nat} {ens:EN} {τ:St} (b:Sh ops.toList anc p0 L a D=true) (d:xJ c ops.toList Kf a D ens τ):Fr c.tb ops.toList anc L (qs a D) ens τ:=by
 cases a with
 | nil =>
  have:qs [] D=D:=rfl;rw[this];exact xP (UA b).1 d.1
 | cons p a =>
  obtain⟨A,l⟩:=p;rw[JJ];exact xP (KH b).1 d.1
theorem W9 (F:W8 ops anc) {a:List (List Nat×Nat)} {L D:List Nat} {ex:List Nat} {listed:Array Bool} (E:Sh ops.toList anc p0 L a D=true) (z:QOk ops.toList anc L (qs a D)) (w:∀i∈ex,i∈qs a D) (N:listed.size=ops.size)
    (x:∀i,i<ops.size→(listed.getD i true=true↔i∈L∨i∈ex)) (hf:¬(a=[]∧∀i∈qs a D,i∈ex)):∃i,i∈Region.ready .any ops listed:=by
  have B:∀e b,e<ops.size→listed.getD e b=listed.getD e true:=fun e b c=>by
    have:e<listed.size:=by omega
    simp[Array.getD,this]
  have mk:∀i o,ops[i]?=some o→i∉L→i∉ex→(∀e∈EE o,e∈L∨e∈ex)→i∈Region.ready .any ops listed:=by
    intro i o k h1 f C;have J:i<ops.size:=(iF.1 k).1;rw[Dm];refine⟨?_,o,k,fun e c=>?_⟩
    · cases hh:listed.getD i true with
      | false=>rfl
      | true => rcases (x i J).1 hh with h | h
                · exact absurd h h1
                · exact absurd h f
    · have M:=F.lt i o k e c
      rw[B e false (by omega)];exact(x e (by omega)).2 (C e c)
  by_cases m:∀i∈qs a D,i∈ex
  · cases a with
    | nil=>exact absurd ⟨rfl,m⟩ hf
    | cons p a =>
      obtain⟨A,l⟩:=p;rw[JJ]at m w;obtain⟨_,⟨o,k,_,G⟩,_,h1,f,_,_⟩:=KH E;refine⟨l,mk l o (by simpa using k) h1 (fun h=>f (w l h)) fun e c=>?_⟩;rcases G e c with h|h
      · exact .inl h
      · exact .inr (m e (by simp[h]))
  · have key:∀(n j:Nat),j≤n→(∃i,(qs a D)[j]?=some i∧i∉ex)→∃i,i∈Region.ready .any ops listed:=by
      intro n;induction n with
      | zero =>
        rintro j u ⟨i,hi,g⟩;have:j=0:=by omega
        subst this;obtain⟨r,o,s,_,t,_⟩:=z.pos 0 i hi;refine⟨i,mk i o (by simpa using s) r g fun e c=>?_⟩;rcases t e c with h|h
        · exact .inl h
        · simp at h
      | succ n K =>
        rintro j u ⟨i,hi,g⟩;by_cases y:∃d,d<j∧∃i',(qs a D)[d]?=some i'∧i'∉ex
        · obtain⟨d,h1,f⟩:=y
          exact K d (by omega) f
        · obtain⟨r,o,s,_,t,_⟩:=z.pos j i hi
          refine⟨i,mk i o (by simpa using s) r g fun e c=>?_⟩;rcases t e c with h|h
          · exact .inl h
          · right
            obtain⟨d,q⟩:=AAi.1 h;rw[oN]at q;split at q
            · rename_i H
              apply Do;intro v;exact y ⟨d,H,e,q,v⟩
            · cases q
    have:∃i,i∈qs a D∧i∉ex:=by
      apply Do;intro I;exact m fun i hi=>Do fun v=>I ⟨i,hi,v⟩
    obtain⟨i,hi,g⟩:=this;obtain⟨j,u⟩:=AAi.1 hi;exact key j j (No _) ⟨i,u,g⟩
theorem XA (I:W8 ops anc) (hT:∀τ,Kf τ→∀a w,c.sat τ a w→wpListIn (FR c.r) 0 c.P ops Qe (ops.toList.drop p0) a w) {m:Nat} {L D:List Nat} {ens:EN} {τ:St} {ex:List Nat} {listed:Array Bool} {a:Act} {w:World}
  (G:Sh ops.toList anc p0 L [] D=true) (g:xJ c ops.toList Kf [] D ens τ) (O:(L++ex).Nodup) (b:∀i∈ex,i∈D) (W:m+L.length+ex.length=ops.size) (M:listed.size=ops.size) (K:∀i,i<ops.size→(listed.getD i true=true↔i∈L∨i∈ex))
  (hs:c.sat (Ar ops.toList (OL D ens) τ ex) a w) (d:∀i∈D,i∈ex):wpAnyIn (FR c.r) 0 c.P .any ops Qe m listed a w:=by
 obtain⟨q,h1,U,y,z,A,B⟩:=UA G;have hF:=xP q g.1;have V:ex.length=D.length:=ABP (MB (AAI.1 O).2.1 b) (MB q.nodup d);have N:m=(ops.toList.drop p0).length:=by
  simp only[AA7,ABj];omega
 have H:Lo ens τ=Ar ops.toList (OL D ens) τ D.reverse:=by
  have:=Yh (ops:=ops.toList) (en:=OL D ens) (τ:=τ) (pre:=[]) hF.len (fun j i e C E=>by
   obtain⟨o,T,_,f,u,x,_⟩:=hF.at_ j i C;rw[E]at f;cases f;exact⟨u,x⟩)
  simpa[Ar] using this
 have S:c.sat (Lo ens τ) a w:=by
  rw[H];have t:∀i∈D.reverse,i∈D:=fun i hi=>by simpa using hi
  have l:∀i,i∈ex↔i∈D.reverse:=fun i=>⟨fun h=>by simpa using b i h,fun h=>d i (by simpa using h)⟩;refine Tr (fun s=>ACw fun v=>?_) (fun n=>ACw fun o=>?_) hs
  ·rw[xL hF.own t,xL hF.own b];simp only[l]
  ·rw[xM hF.own t,xM hF.own b];simp only[l]
 have:=Q6 (Q:=Qe) (F:=FR c.r) (P:=c.P) I (k:=p0) (fun i o R hi j J=>B i hi (by have:=(iF.1 R).1;simpa using this) j J) (rest:=ops.toList.drop p0) (p:=p0) (listed:=listed) (a:=a) (w:=w) rfl (No _) (by simpa using y) M
  (fun i hi=>by
   rw[K i hi];constructor
   ·rintro (h|h)
    ·exact z i h
    ·exact A i (b i h)
   ·intro h;rcases h1 i h with h|h
    ·exact .inl h
    ·exact .inr (d i h)) (hT _ g.2 a w S)
 rw[N];exact this
theorem A2W (cm:c.Ok) (cc:∀o∈ops.toList,HX c.nt o=true) (V:W8 ops anc) (hT:∀τ,Kf τ→∀a w,c.sat τ a w→wpListIn (FR c.r) 0 c.P ops Qe (ops.toList.drop p0) a w) :
  ∀(m:Nat) (f:List (List Nat×Nat)) (L D:List Nat) (ens:EN) (τ:St) (ex:List Nat) (listed:Array Bool) (a:Act) (w:World),Sh ops.toList anc p0 L f D=true→xJ c ops.toList Kf f D ens τ→(L++ex).Nodup→(∀i∈ex,i∈qs f D) →
   m+L.length+ex.length=ops.size→listed.size=ops.size→(∀i,i<ops.size→(listed.getD i true=true↔i∈L∨i∈ex))→(∀i o,ops[i]?=some o→(i∈L∨i∈ex)→∀e∈EE o,e∈L∨e∈ex) →
   c.sat (Ar ops.toList (OL (qs f D) ens) τ ex) a w→wpAnyIn (FR c.r) 0 c.P .any ops Qe m listed a w:=by
 intro m;induction m with
 | zero =>
  intro f L D ens τ ex listed a w F U J E ay W G ae hs;have hF:=xQ F U;by_cases hf:f=[]∧∀i∈qs f D,i∈ex
  ·obtain⟨rfl,ar⟩:=hf;exact XA V hT F U J E ay W G hs ar
  ·exfalso;obtain⟨i,hi⟩:=W9 V F hF.q E W G hf;rw[Dm]at hi;obtain⟨h1,o,B,_⟩:=hi;have X:i<ops.size:=(iF.1 B).1;have K:i∉L++ex:=fun h=>by
    rw[(G i X).2 (OF.1 h)]at h1;cases h1
   have R:=UB F;have:=EL ops.size (i :: (L++ex)) (AAd.2 ⟨K,J⟩) (fun j d=>by
    have hp:=R.p0;simp only[ABj]at hp;rcases By.1 d with rfl|d
    ·exact X
    ·rcases OF.1 d with d|d
     ·have:=R.L j d;omega
     ·have:=R.Q j (E j d);omega)
   simp only[Of,IN]at this;omega
 | succ m bn =>
  intro f L D ens τ ex listed a w F U J E ay W G ae hs;have hF:=xQ F U;have R:=UB F;have al:∀e b,e<ops.size→listed.getD e b=listed.getD e true:=fun e b C=>by
   have:e<listed.size:=by omega
   simp[Array.getD,this]
  by_cases hf:f=[]∧∀i∈qs f D,i∈ex
  ·obtain⟨rfl,ar⟩:=hf;exact XA V hT F U J E ay W G hs ar
  ·refine⟨fun cl=>?_,fun i hi=>?_⟩
   ·obtain⟨i,hi⟩:=W9 V F hF.q E W G hf;rw[cl]at hi;cases hi
   ·rw[Dm]at hi;obtain⟨h1,o,B,az⟩:=hi;have X:i<ops.size:=(iF.1 B).1;have K:¬(i∈L∨i∈ex):=fun h=>by rw[(G i X).2 h]at h1;cases h1
    have bc:∀e∈EE o,e∈L∨e∈ex:=fun e C=>by
     have I:=V.lt i o B e C;have ba:=az e C;rw[al e false (by omega)]at ba;exact(G e (by omega)).1 ba
    have ad:∀j∈anc.getD i [],j∈L∨j∈ex:=by
     have ca:∀i o,ops[i]?=some o→listed.getD i true=true→∀e∈EE o,listed.getD e false=true:=by
      intro i o B h1 e C;have X:i<ops.size:=(iF.1 B).1;have I:=V.lt i o B e C;rw[al e false (by omega)];exact(G e (by omega)).2 (ae i o B ((G i X).1 h1) e C)
     intro j d;have I:=SB V ca i o B az j d;by_cases bg:j<ops.size
     ·rw[al j false bg]at I;exact(G j bg).1 I
     ·have:¬j<listed.size:=by omega
      simp[Array.getD,this]at I
    have ag:ops.toList[i]?=some o:=by simpa using B
    have cj:o∈ops.toList:=AAf ag;have cb:=Bb (cc o cj);have bh:∀(S:List Nat),(∀j,j∈S↔j=i∨j∈L∨j∈ex)→∀j,j<ops.size→((listed.setIfInBounds i true).getD j true=true↔j∈S):=by
     intro S bx j d;have ch:j<listed.size:=by omega
     rw[bx];by_cases ax:j=i
     ·subst ax;simp[Array.getD,ch]
     ·have I:(listed.setIfInBounds i true).getD j true=listed.getD j true:=getD_set_ne true (fun e=>ax e.symm);rw[I,G j d];simp[ax]
    have bm:∀ {g:Option (Nat×Bool)},g=none→o.guard=g→Region.wanted o (yielded ops a.tmps)=true:=by
     intro g av e;simp[Region.wanted,e,av]
    by_cases af:i∈qs f D
    ·obtain⟨j,d⟩:=AAi.1 af;obtain⟨_,da,bi,av,_,_⟩:=hF.q.pos j i d;rw[ag]at bi;cases bi;unfold wpOpIn;rw[B];simp only;rw[At (bm rfl av)];refine kW cm hF E d ag (fun h=>K (.inr h)) (fun k hk ci=>?_) cb hs fun ak w' cn=>?_
     ·rcases ad k hk with h|h
      ·obtain⟨u,T⟩:=AAi.1 ci;exact absurd h (hF.q.pos u k T).1
      ·exact h
     ·refine bn f L D ens τ (i :: ex) _ ak w' F U ?_ (fun k hk=>?_) (by simp only[Of];omega) (by simpa using W) (fun k hk=>?_) (fun i' Z H aw e C=>?_) cn
      ·rw[AAI]at J ⊢;refine⟨J.1,AAd.2 ⟨fun h=>K (.inr h),J.2.1⟩,fun x t y Y=>?_⟩;rcases By.1 Y with rfl|Y
       ·exact fun e=>K (.inl (e▸t))
       ·exact J.2.2 x t y Y
      ·rcases By.1 hk with rfl|hk
       ·exact af
       ·exact E k hk
      ·rw[bh (i :: (L++ex)) (fun j=>by simp) k hk];simp only[By,OF];constructor
       ·rintro (h|h|h)
        ·exact .inr (.inl h)
        ·exact .inl h
        ·exact .inr (.inr h)
       ·rintro (h|h|h)
        ·exact .inr (.inl h)
        ·exact .inl h
        ·exact .inr (.inr h)
      ·have:e∈L∨e∈ex:=by
        rcases aw with h|h
        ·exact ae i' Z H (.inl h) e C
        ·rcases By.1 h with rfl|h
         ·rw[B]at H;cases H;exact bc e C
         ·exact ae i' Z H (.inr h) e C
       rcases this with h|h
       ·exact .inl h
       ·exact .inr (by simp[h])
    · -- no operation of the front
     have cy:¬p0≤i:=by
      intro ce;have bb:=R.back i ce (by simpa using X);cases f with
      | nil =>
       refine hf ⟨rfl,fun j d=>?_⟩;have I:=R.Q j d;rcases ad j (bb j (by omega)) with h|h
       ·obtain⟨u,T⟩:=AAi.1 d;exact absurd h (hF.q.pos u j T).1
       ·exact h
      | cons p f =>
       obtain⟨A,l⟩:=p;obtain⟨_,_,_,an,ao,_,_⟩:=KH F;have I:=R.lo (A,l) (by simp);simp only at I;rcases ad l (bb l (by omega)) with h|h
       ·exact an h
       ·exact ao (by rw[←JJ A l];exact E l h)
     cases f with
     | nil =>
      rcases R.all i (by omega) with h|h|h
      ·exact absurd (.inl h) K
      ·exact absurd h af
      ·cases h
     | cons p f =>
      obtain⟨A,l⟩:=p;obtain⟨_,⟨ol,bj,cf,cx⟩,bt,an,ao,br,bu⟩:=KH F;have cg:i=l:=by
       rcases R.all i (by omega) with h|h|h
       ·exact absurd (.inl h) K
       ·exact absurd h af
       ·simp only[AA1,By,IS]at h;rcases h with h|⟨p,hp,rfl⟩
        ·exact h
        ·rcases ad l (br p hp) with h|h
         ·exact absurd h an
         ·exact absurd (E l h) (by rw[JJ];exact ao)
      subst cg;rw[ag]at bj;cases bj;rw[JJ]at hF E hs af;obtain⟨cw,Z,H,bv⟩:=U;rw[ag]at H;cases H;have aa:∀j∈A,j∈ex:=fun j d=>by
       rcases ad j (bt j d) with h|h
       ·obtain⟨u,T⟩:=AAi.1 (show j∈A++qs f D by simp[d]);exact absurd h (hF.q.pos u j T).1
       ·exact h
      have ap:A.Nodup∧(qs f D).Nodup∧∀x∈A,∀y∈qs f D,x≠y:=AAI.1 hF.q.nodup;have bz:Lo (ens.take A.length) τ=Ar ops.toList (OL (A++qs f D) ens) τ A.reverse:=by
       have:=Yh (ops:=ops.toList) (en:=OL (A++qs f D) ens) (τ:=τ) (pre:=[]) (Q:=A) (ens:=ens.take A.length) (by have:=hF.len;simp only[IN]at this;simp only[OS];omega) (fun j i e O z=>by
        have bf:j<A.length:=(Ro.1 O).1;obtain⟨o,cu,_,M,N,am,_⟩:=hF.at_ j i (by rw[oS bf];exact O);rw[oN,At bf,M]at z;cases z;exact⟨N,am⟩)
       simpa[Ar] using this
      have bl:=sU (A:=A.reverse) hF.own E (fun j d=>aa j (by simpa using d));rw[←bz]at bl;have aj:∀j,j∈ex.filter (fun j=>!AW j A.reverse)↔j∈ex∧j∉A:=fun j=>by
       rw[AAj];have:=AY j A.reverse;constructor
       ·rintro⟨O,z⟩;exact⟨O,fun M=>by rw[this.2 (by simpa using M)]at z;cases z⟩
       ·rintro⟨O,z⟩;refine⟨O,?_⟩;cases ck:AW j A.reverse with
        | false=>rfl
        | true=>exact absurd (by simpa using this.1 ck) z
      have ab:∀j∈ex.filter (fun j=>!AW j A.reverse),j∈qs f D:=fun j d=>by
       have:=E j ((aj j).1 d).1;rcases OF.1 this with h|h
       ·exact absurd h ((aj j).1 d).2
       ·exact h
      have au:∀j∈qs f D,∃(u:Nat) (e:Nat×AV×List (Nat×Obj)),(qs f D)[u]?=some j∧(ens.drop A.length)[u]?=some e∧Ai ops.toList j=some e.1∧OL (A++qs f D) ens j=⟨true,e.2.1,e.2.2⟩:=by
       intro j d;obtain⟨u,T⟩:=AAi.1 d;obtain⟨o,e,_,M,N,am,_⟩:=hF.at_ (A.length+u) j (by rw[AA4 (by omega),Nat.add_sub_cancel_left];exact T);exact⟨u,e,T,by rw[AAm];exact M,N,am⟩
      have bk:Own ops.toList (OL (A++qs f D) ens) ⟨[],[]⟩ (A++qs f D):=⟨hF.own.slot,fun _ _ _ _ _=>rfl,hF.own.name⟩;have bd:∀j∈ex.filter (fun j=>!AW j A.reverse),j∈A++qs f D:=fun j d=>by simp[ab j d]
      unfold wpOpIn;rw[B];simp only;rw[At (bm rfl cf)];refine bv _ _ bl ⟨fun s v ah=>?_,fun n Z hn=>?_⟩ a w _ _ hs fun bq bw ak w' db be co=>?_
      ·rcases (xL bk bd s v).1 ah with ⟨j,d,ai,rfl⟩|⟨_,ah⟩
       ·obtain⟨u,e,_,z,M,N⟩:=au j (ab j d);rw[ai]at M;cases M;rw[N];exact⟨e.2.2,AAf z⟩
       ·cases ah
      ·rcases (xM bk bd n Z).1 hn with ⟨j,d,ai⟩|⟨_,ah⟩
       ·obtain⟨u,e,_,z,M,N⟩:=au j (ab j d);rw[N]at ai;exact⟨e,AAf z,F2 ai⟩
       ·cases ah
      ·have cv:ex.length=A.length+(ex.filter (fun j=>!AW j A.reverse)).length:=by
        have cp:∀l:List Nat,l.length=(l.filter (fun j=>AW j A.reverse)).length+(l.filter (fun j=>!AW j A.reverse)).length:=by
         intro l;induction l with
         | nil=>rfl
         | cons x r cz =>
          simp only[AAr,Of];cases AW x A.reverse<;>simp<;>omega
        rw[cp ex];have cd:=(AAI.1 J).2.1;have O:(ex.filter (fun j=>AW j A.reverse)).length≤A.length:=MB (cd.filter _) fun x t=>by
         have:=(AY _ _).1 (AAj.1 t).2;simpa using this
        have z:A.length≤(ex.filter (fun j=>AW j A.reverse)).length:=MB ap.1 fun x t=>AAj.2 ⟨aa x t,(AY _ _).2 (by simpa using t)⟩;omega
       have aq:∀x,(x∈i :: (A++L)∨x∈ex.filter (fun j=>!AW j A.reverse))↔x=i∨x∈L∨x∈ex:=by
        intro x;rw[aj];simp only[By,OF];constructor
        ·rintro ((h|h|h)|h)
         ·exact .inl h
         ·exact .inr (.inr (aa x h))
         ·exact .inr (.inl h)
         ·exact .inr (.inr h.1)
        ·rintro (h|h|h)
         ·exact .inl (.inl h)
         ·exact .inl (.inr (.inr h))
         ·by_cases t:x∈A
          ·exact .inl (.inr (.inl t))
          ·exact .inr ⟨h,t⟩
       refine bn f (i :: (A++L)) D (ens.drop A.length) bq (ex.filter fun j=>!AW j A.reverse) _ ak w' bu bw ?_ ab (by simp only[Of,IN];omega) (by simpa using W) (fun k hk=>?_) (fun i' Z H aw e C=>?_) ?_
       ·obtain⟨n1,cs,bo⟩:=AAI.1 J;have bs:∀x∈A,x∉L:=fun x t cq=>bo x cq x (aa x t) rfl;rw[AAI];refine⟨AAd.2 ⟨fun h=>?_,AAI.2 ⟨ap.1,n1,fun x t y Y e=>bs x t (e▸Y)⟩⟩,cs.filter _,fun x t y Y e=>?_⟩
        ·rcases OF.1 h with h|h
         ·exact K (.inr (aa i h))
         ·exact K (.inl h)
        ·subst e;obtain⟨bp,ct⟩:=(aj x).1 Y;rcases By.1 t with rfl|t
         ·exact K (.inr bp)
         ·rcases OF.1 t with t|t
          ·exact ct t
          ·exact bo x t x bp rfl
       ·rw[aq k,bh (i :: (L++ex)) (fun j=>by simp) k hk];simp
       ·rw[aq];have:e∈L∨e∈ex:=by
         rcases (aq i').1 aw with rfl|h
         ·rw[B]at H;cases H;exact bc e C
         ·exact ae i' Z H h e C
        exact .inr this
       ·have cr:∀j∈ex.filter (fun j=>!AW j A.reverse),OL (qs f D) (ens.drop A.length) j=OL (A++qs f D) ens j:=fun j d=>by
         obtain⟨u,e,O,z,_,N⟩:=au j (ab j d);rw[N];exact kV ap.2.1 u j e O z
        have t:=xK (ops:=ops.toList) (en:=OL (qs f D) (ens.drop A.length)) (τ:=bq) (ex.filter fun j=>!AW j A.reverse);rw[K6 (en:=OL (A++qs f D) ens) (σ0:=⟨[],[]⟩) cr]at t;exact Tr (fun s=>by rw[t.env,be.env]) (fun n=>by rw[t.objs,be.objs]) co
end
section
variable {c:Cx} {R:Exit→Act→World→Prop} {k:List Df} {σ:St}
theorem Bu (j:c.P.follows .mixedOrders=true) (g:c.Ok) {id:Nat} {l:List Oper} (p0:Nat) (d:List (List Nat×Nat)) (D:List Nat) (b:(A4Y l (xA l)&&Sh l (xA l) p0 [] d D)=true) {ens:EN}
  (h:xJ c l (fun τ=>HY c R k l.toArray (l.drop p0) τ) d D ens σ):Ev c R (.run (.region id l.toArray true)) k σ:=by
 intro h1 e a w hs;simp only[II,Bh,GO]at h1;simp only[AT]at b;refine wpIn_region_any j ?_;have hk:∀τ,HY c R k l.toArray (l.drop p0) τ→∀a w,c.sat τ a w→wpListIn (FR c.r) 0 c.P l.toArray (Sw c R k) (l.toArray.toList.drop p0) a w:=fun τ f a w hs=>f (fun o m=>h1 o (by simpa using AAJ m)) e a w hs;exact A2W (ops:=l.toArray) (anc:=xA l) g (by simpa using h1) (A65 (by simpa using b.1)) hk l.toArray.size d [] D ens σ [] (Array.replicate l.toArray.size false) a { w with drawn:=w.drawn+1 } (by simpa using b.2) (by simpa using h) (by simp) (by simp) (by simp) (by simp) (fun i hi=>by simp at hi;simp[Array.getD,hi]) (fun i o _ hi=>by simp at hi) (aD hs)
end
end
section
open Go Go.RowKit
section
variable {n:Nat} {ns:List Nat}
theorem GZ {m:Nat} (hn:n∈ns) (h:¬AW m ns=true):¬m=n:=fun e=>h ((AY _ _).2 (e▸hn))
mutual
theorem UC (hn:n∈ns) {e:Ty} {xs:List e.den}:∀(x:AV),x.fgt ns=x→x.frz n e xs=x
 | .sr m e' lo hi,h=>by
  simp only[AV.fgt]at h
  split at h
  ·cases h
  ·rename_i hm;simp only[AV.frz,As (GZ hn hm)]
 | .ep m e' i path off,h=>by
  simp only[AV.fgt]at h
  split at h
  ·cases h
  ·rename_i hm;simp only[AV.frz,As (GZ hn hm)]
 | .nin m e' i len,h=>by
  simp only[AV.fgt]at h
  split at h
  ·cases h
  ·rename_i hm;simp only[AV.frz,As (GZ hn hm)]
 | .ag l,h=>by
  simp only[AV.fgt,AV.ag.injEq]at h
  simp only[AV.frz,frzs_of_fgt hn l h]
 | .tup l,h=>by
  simp only[AV.fgt,AV.tup.injEq]at h
  simp only[AV.frz,frzs_of_fgt hn l h]
 | .p _ _,_=>rfl
 | .pc _ _,_=>rfl
 | .raw _,_=>rfl
 | .ip _ _,_=>rfl
 | .bp _ _ _,_=>rfl
 | .fn _,_=>rfl
 | .clo _ _,_=>rfl
 | .mp _,_=>rfl
 | .yl _,_=>rfl
 | .top,_=>rfl
theorem frzs_of_fgt (hn:n∈ns) {e:Ty} {xs:List e.den}:∀(l:List AV),AV.fgts ns l=l→AV.frzs n e xs l=l
 | [],_=>rfl
 | x :: r,h=>by
  simp only[AV.fgts,ABh]at h
  simp only[AV.frzs,UC hn x h.1,frzs_of_fgt hn r h.2]
end
mutual
theorem UD (hn:n∈ns):∀(x:AV),x.fgt ns=x→x.drp n=x
 | .sr m e' lo hi,h=>by
  simp only[AV.fgt]at h
  split at h
  ·cases h
  ·rename_i hm;simp only[AV.drp,As (GZ hn hm)]
 | .ep m e' i path off,h=>by
  simp only[AV.fgt]at h
  split at h
  ·cases h
  ·rename_i hm;simp only[AV.drp,As (GZ hn hm)]
 | .nin m e' i len,h=>by
  simp only[AV.fgt]at h
  split at h
  ·cases h
  ·rename_i hm;simp only[AV.drp,As (GZ hn hm)]
 | .ag l,h=>by
  simp only[AV.fgt,AV.ag.injEq]at h
  simp only[AV.drp,drps_of_fgt hn l h]
 | .tup l,h=>by
  simp only[AV.fgt,AV.tup.injEq]at h
  simp only[AV.drp,drps_of_fgt hn l h]
 | .p _ _,_=>rfl
 | .pc _ _,_=>rfl
 | .raw _,_=>rfl
 | .ip _ _,_=>rfl
 | .bp _ _ _,_=>rfl
 | .fn _,_=>rfl
 | .clo _ _,_=>rfl
 | .mp _,_=>rfl
 | .yl _,_=>rfl
 | .top,_=>rfl
theorem drps_of_fgt (hn:n∈ns):∀(l:List AV),AV.fgts ns l=l→AV.drps n l=l
 | [],_=>rfl
 | x :: r,h=>by
  simp only[AV.fgts,ABh]at h
  simp only[AV.drps,UD hn x h.1,drps_of_fgt hn r h.2]
end
end
section
variable {n:Nat} {ns tl:List Nat}
theorem EF (a:∀n,n∈tl→n∈ns) {m:Nat} (h:¬AW m ns=true):¬AW m tl=true:=fun h1=>h ((AY _ _).2 (a _ ((AY _ _).1 h1)))
theorem pE (c:∀n,n∈tl→n∈ns) {l:List Nat} (h:¬(l.any fun m=>AW m ns)=true):¬(l.any fun m=>AW m tl)=true:=fun h1=>by
 obtain⟨m,b,a⟩:=TO.1 h1;exact h (TO.2 ⟨m,b,(AY _ _).2 (c _ ((AY _ _).1 a))⟩)
mutual
theorem UE (htl:∀n,n∈tl→n∈ns):∀(x:AV),x.fgt ns=x→x.fgt tl=x
 | .sr m e' lo hi,h=>by
  simp only[AV.fgt]at h
  split at h
  ·cases h
  ·rename_i hm;simp only[AV.fgt,As (EF htl hm)]
 | .ep m e' i path off,h=>by
  simp only[AV.fgt]at h
  split at h
  ·cases h
  ·rename_i hm;simp only[AV.fgt,As (EF htl hm)]
 | .nin m e' i len,h=>by
  simp only[AV.fgt]at h
  split at h
  ·cases h
  ·rename_i hm;simp only[AV.fgt,As (EF htl hm)]
 | .bp m path off,h=>by
  simp only[AV.fgt]at h
  split at h
  ·cases h
  ·rename_i hm;simp only[AV.fgt,As (EF htl hm)]
 | .mp m,h=>by
  simp only[AV.fgt]at h
  split at h
  ·cases h
  ·rename_i hm;simp only[AV.fgt,As (EF htl hm)]
 | .yl m,h=>by
  simp only[AV.fgt]at h
  split at h
  ·cases h
  ·rename_i hm;simp only[AV.fgt,As (EF htl hm)]
 | .clo f cs,h=>by
  simp only[AV.fgt]at h
  split at h
  ·cases h
  ·rename_i hm;simp only[AV.fgt,As (pE htl hm)]
 | .ag l,h=>by
  simp only[AV.fgt,AV.ag.injEq]at h
  simp only[AV.fgt,fgts_of_fgt htl l h]
 | .tup l,h=>by
  simp only[AV.fgt,AV.tup.injEq]at h
  simp only[AV.fgt,fgts_of_fgt htl l h]
 | .p _ _,_=>rfl
 | .pc _ _,_=>rfl
 | .raw _,_=>rfl
 | .ip _ _,_=>rfl
 | .fn _,_=>rfl
 | .top,_=>rfl
theorem fgts_of_fgt (htl:∀n,n∈tl→n∈ns):∀(l:List AV),AV.fgts ns l=l→AV.fgts tl l=l
 | [],_=>rfl
 | x :: r,h=>by
  simp only[AV.fgts,ABh]at h
  simp only[AV.fgts,UE htl x h.1,fgts_of_fgt htl r h.2]
end
mutual
theorem UF (hn:n∈ns) (htl:∀n,n∈tl→n∈ns):∀(x:AV),x.fgt ns=x→x.trn n tl=x
 | .sr m e' lo hi,h=>by
  simp only[AV.fgt]at h
  split at h
  ·cases h
  ·rename_i hm;simp only[AV.trn,As (EF htl hm)]
 | .ep m e' i path off,h=>by
  simp only[AV.fgt]at h
  split at h
  ·cases h
  ·rename_i hm;simp only[AV.trn,As (EF htl hm)]
 | .nin m e' i len,h=>by
  simp only[AV.fgt]at h
  split at h
  ·cases h
  ·rename_i hm;simp only[AV.trn];rw[As fun h=>h.elim (GZ hn hm) (EF htl hm)]
 | .bp m path off,h=>by
  simp only[AV.fgt]at h
  split at h
  ·cases h
  ·rename_i hm;simp only[AV.trn,As (EF htl hm)]
 | .mp m,h=>by
  simp only[AV.fgt]at h
  split at h
  ·cases h
  ·rename_i hm;simp only[AV.trn,As (EF htl hm)]
 | .yl m,h=>by
  simp only[AV.fgt]at h
  split at h
  ·cases h
  ·rename_i hm;simp only[AV.trn,As (EF htl hm)]
 | .clo f cs,h=>by
  simp only[AV.fgt]at h
  split at h
  ·cases h
  ·rename_i hm;simp only[AV.trn,As (pE htl hm)]
 | .ag l,h=>by
  simp only[AV.fgt,AV.ag.injEq]at h
  simp only[AV.trn,trns_of_fgt hn htl l h]
 | .tup l,h=>by
  simp only[AV.fgt,AV.tup.injEq]at h
  simp only[AV.trn,trns_of_fgt hn htl l h]
 | .p _ _,_=>rfl
 | .pc _ _,_=>rfl
 | .raw _,_=>rfl
 | .ip _ _,_=>rfl
 | .fn _,_=>rfl
 | .top,_=>rfl
theorem trns_of_fgt (hn:n∈ns) (htl:∀n,n∈tl→n∈ns):∀(l:List AV),AV.fgts ns l=l→AV.trns n tl l=l
 | [],_=>rfl
 | x :: r,h=>by
  simp only[AV.fgts,ABh]at h
  simp only[AV.trns,UF hn htl x h.1,trns_of_fgt hn htl r h.2]
end
end
def K8:AV→Bool
 | .raw _=>true
 | .p _ _=>true
 | _=>false
def K9:Obj→Bool
 | .arr _ _ _=>true
 | .box _ _ fs=>fs.all K8
 | _=>false
theorem UG {n:Nat} {e:Ty} {xs:List e.den}:∀fs:List AV,fs.all K8=true→AV.frzs n e xs fs=fs
 | [],_=>rfl
 | x :: r,h=>by
  rw[AB4,AT]at h;simp only[AV.frzs,UG r h.2];cases x<;>first|rfl|(have:=h.1;simp[K8]at this)
theorem UH {n:Nat}:∀fs:List AV,fs.all K8=true→AV.drps n fs=fs
 | [],_=>rfl
 | x :: r,h=>by
  rw[AB4,AT]at h;simp only[AV.drps,UH r h.2];cases x<;>first|rfl|(have:=h.1;simp[K8]at this)
theorem sW {n:Nat} {e:Ty} {xs:List e.den} {o:Obj} (h:K9 o=true):Obj.frz n e xs o=o:=by
 cases o with
 | box et st fs=>simp only[Obj.frz,UG fs h]
 | arr et a ys=>rfl
 | _=>cases h
theorem sX {n:Nat} {o:Obj} (h:K9 o=true):Obj.drp n o=o:=by
 cases o with
 | box et st fs=>simp only[Obj.drp,UH fs h]
 | arr et a ys=>rfl
 | _=>cases h
theorem UI {hs:List Nat}:∀fs:List AV,fs.all K8=true→AV.fgts hs fs=fs
 | [],_=>rfl
 | x :: r,h=>by
  rw[AB4,AT]at h;simp only[AV.fgts,UI r h.2];cases x<;>first|rfl|(have:=h.1;simp[K8]at this)
theorem Q7 {hs:List Nat} {o:Obj} (h:K9 o=true):Obj.fgt hs o=o:=by
 cases o with
 | box et st fs=>simp only[Obj.fgt,UI fs h]
 | arr et a ys=>rfl
 | _=>cases h
theorem UJ {n:Nat} {hs:List Nat}:∀fs:List AV,fs.all K8=true→AV.trns n hs fs=fs
 | [],_=>rfl
 | x :: r,h=>by
  rw[AB4,AT]at h;simp only[AV.trns,UJ r h.2];cases x<;>first|rfl|(have:=h.1;simp[K8]at this)
theorem XB {n:Nat} {hs:List Nat} {o:Obj} (h:K9 o=true):Obj.trn n hs o=o:=by
 cases o with
 | box et st fs=>simp only[Obj.trn,UJ fs h]
 | arr et a ys=>rfl
 | _=>cases h
structure IT (X σ:St) (ns:List Nat):Prop where
 env:∀s v,lk s X.env=some v→v.fgt ns=v
 arr:∀n o,lk n X.objs=some o→K9 o=true
 new:∀n o,lk n X.objs=some o→lk n σ.objs=none
 nm:∀n o,lk n X.objs=some o→n∉ns
section
variable {σ σ' X:St} {ns:List Nat}
theorem NT.lkn (b:NT σ σ' X) (ha:IT X σ ns) {n:Nat} (hn:n∈ns):lk n σ'.objs=lk n σ.objs:=by
 rw[b.objs];cases a:lk n X.objs with
 | none=>rfl
 | some o=>exact absurd hn (ha.nm n o a)
theorem NT.obs (b:NT σ σ' X) (ha:IT X σ ns):Ya σ σ':=by
 intro n o hn;rw[b.objs];cases a:lk n X.objs with
 | none=>exact hn
 | some c=>rw[ha.new n c a]at hn;cases hn
theorem A2X {n:Nat} (b:NT σ σ' X) (ha:IT X σ ns) (hn:n∈ns):NT (frz n σ) (frz n σ') X∧IT X (frz n σ) ns:=by
 unfold frz;split
 ·exact⟨b,ha⟩
 have core:∀(e:Ty) (xs:List e.den),NT ⟨DD n e xs σ.env,A5 n e xs (del n σ.objs)⟩ ⟨DD n e xs σ'.env,A5 n e xs (del n σ'.objs)⟩ X∧IT X ⟨DD n e xs σ.env,A5 n e xs (del n σ.objs)⟩ ns:=by
  intro e xs;refine⟨⟨fun s=>?_,fun m=>?_⟩,ha.env,ha.arr,fun m o c=>?_,ha.nm⟩
  ·simp only[Mt,b.env];cases a:lk s X.env with
   | none=>rfl
   | some v=>simp[UC hn v (ha.env s v a)]
  ·simp only[CZ,Qr];by_cases c:m=n
   ·subst c;cases a:lk m X.objs with
    | none=>simp
    | some o=>exact absurd hn (ha.nm m o a)
   ·simp only[As c,b.objs];cases a:lk m X.objs with
    | none=>rfl
    | some o=>exact AAP some (sW (ha.arr m o a))
  ·simp only[CZ,Qr];split
   ·rfl
   ·rw[ha.new m o c];rfl
 rw[b.lkn ha hn];unfold Zk;split
 ·exact core _ _
 ·rename_i et f k e xs d;exact core (.agg (.prod k (.slice e))) xs
 ·exact⟨b,ha⟩
theorem UK:∀ {l:List Nat} {σ σ':St},NT σ σ' X→IT X σ ns→(∀n∈l,n∈ns)→NT (Ce l σ) (Ce l σ') X∧IT X (Ce l σ) ns
 | [],_,_,a,ha,_=>⟨a,ha⟩
 | n :: l,σ,σ',a,ha,h=>by
  obtain⟨h1,b⟩:=A2X a ha (h n (by simp));have:=UK (l:=l) h1 b fun m c=>h m (by simp[c]);exact this
def kX (σ σ':St) (xs:List Operand):Prop:=∀x∈xs,Ah σ' x=Ah σ x
theorem Pg (b:NT σ σ' X) {xs:List Operand} (h:∀t∈xs.filterMap L5,lk t X.env=none):kX σ σ' xs:=by
 intro x a;cases x with
 | tmp t =>
  simp only[Ah,b.env];rw[h t (ACo.2 ⟨_,a,rfl⟩)];rfl
 | const v=>rfl
 | global g=>rfl
 | func f=>rfl
theorem MC:∀ {l:List (Nat×Operand)},kX σ σ' (l.map (·.2))→Co σ' l=Co σ l
 | [],_=>rfl
 | (i,x) :: r,h=>by
  simp only[Co];rw[h x (by simp),MC (fun y a=>h y (by simp only[AA1,By];exact .inr a))]
theorem Ph:∀ {l:List (Nat×Operand)},kX σ σ' (l.map (·.2))→Ek σ' l=Ek σ l
 | [],_=>rfl
 | (i,x) :: r,h=>by
  simp only[Ek];rw[h x (by simp),Ph (fun y a=>h y (by simp only[AA1,By];exact .inr a))]
theorem kY (b:NT σ σ' X) (ha:IT X σ ns) (n:Nat):Cb (lk n σ'.objs)=Cb (lk n σ.objs):=by
 rw[b.objs];cases a:lk n X.objs with
 | none=>rfl
 | some o =>
  rw[ha.new n o a];have:=ha.arr n o a;cases o<;>first|rfl|cases this
theorem aM (a:NT σ σ' X) (ha:IT X σ ns) {op:Op} (h:kX σ σ' op.operands.toList):CC σ' op=CC σ op:=by
 cases op<;>simp only[CC];case buildSlice t n parts =>
  exact MC (fun x a=>h x (by simpa[Op.operands] using a))
 case build t parts =>
  exact Ph (fun x a=>h x (by simpa[Op.operands] using a))
 case store t x y =>
  rw[h x (by simp[Op.operands]),h y (by simp[Op.operands])];unfold Bz;split
  ·rw[kY a ha]
  ·rfl
 case mapUpdate t m x y =>
  rw[h m (by simp[Op.operands]),h x (by simp[Op.operands]),h y (by simp[Op.operands])]
def JK (σ:St):Option AV→Option AV→List Nat
 | some (.sr n _ _ _),some (.sr m _ _ _)=>if Cb (lk n σ.objs)=true then [n,m] else [n]
 | some (.sr n _ _ _),_=>[n]
 | some (.nin n _ _ _),_=>[n]
 | some (.raw _),some (.sr m _ _ _)=>if Cb (lk m σ.objs)=true then [m] else []
 | _,_=>[]
def Yi (σ:St):Option AV→Option AV→List Nat
 | some (.ep n _ _ _ _),some (.sr m _ _ _)=>if Cb (lk n σ.objs)=true then [n,m] else []
 | _,_=>[]
def WM (σ:St):Op→List Nat
 | .call c=>match c.callee,c.args.toList with
  | .builtin .append,[x,y]=>JK σ (Ah σ x) (Ah σ y)
  | _,_=>[]
 | .store _ x y=>Yi σ (Ah σ x) (Ah σ y)
 | _=>[]
theorem xR {n:Nat} {e:Ty} {lo hi:Nat} {v:AV}:n∈JK σ (some (.sr n e lo hi)) (some v):=by
 cases v<;>first|(simp[JK];done)|(simp only[JK];split<;>simp)
theorem pF (f:NT σ σ' X) (ha:IT X σ ns) {tl:List Nat} (e:∀n,n∈tl→n∈ns) {d b:Nat} {v:AV} {g:Obj} (i:lk d X.env=none) (j:lk b X.objs=none) :
  NT ⟨(d,v) :: BT tl σ.env,(b,g) :: Af tl tl σ.objs⟩ ⟨(d,v) :: BT tl σ'.env,(b,g) :: Af tl tl σ'.objs⟩ X:=by
 refine⟨fun s=>?_,fun m=>?_⟩
 ·simp only[lk];by_cases hs:s=d
  ·subst hs;rw[At rfl,At rfl,i];rfl
  ·rw[As hs,As hs,DK,DK,f.env];cases a:lk s X.env with
   | none=>rfl
   | some w=>simp[UE e w (ha.env s w a)]
 ·simp only[lk];by_cases c:m=b
  ·subst c;rw[At rfl,At rfl,j];rfl
  ·rw[As c,As c,BR,BR,f.objs];cases a:lk m X.objs with
   | none=>rfl
   | some w =>
    rw[As fun h=>ha.nm m w a (e _ ((AY _ _).1 h))];exact AAP some (Q7 (ha.arr m w a))
theorem pG (c:NT σ σ' X) (ha:IT X σ ns) {n:Nat} {tl:List Nat} (hn:n∈ns) (b:∀n,n∈tl→n∈ns) {en:List (Nat×AV)} {new:List (Nat×Obj)} (d:∀s v,lk s en=some v→lk s X.env=none) (f:∀m o,lk m new=some o→lk m X.objs=none) :
  NT ⟨en++Dr n tl σ.env,new++CW n tl σ.objs⟩ ⟨en++Dr n tl σ'.env,new++CW n tl σ'.objs⟩ X:=by
 refine⟨fun s=>?_,fun m=>?_⟩
 ·simp only[A0];cases hs:lk s en with
  | some v=>rw[d s v hs];rfl
  | none =>
   rw[Ff,Ff,c.env];cases a:lk s X.env with
   | none=>rfl
   | some w=>simp[UF hn b w (ha.env s w a)]
 ·simp only[A0];cases e:lk m new with
  | some o=>rw[f m o e];rfl
  | none =>
   rw[DY,DY,c.objs];cases a:lk m X.objs with
   | none=>rfl
   | some w =>
    rw[As fun h=>ha.nm m w a (by
     rcases By.1 ((AY _ _).1 h) with rfl|h
     ·exact hn
     ·exact b _ h)]
    exact AAP some (XB (ha.arr m w a))
theorem Yj {n:Nat} {o d:Obj} (c:NT σ σ' X) (ha:IT X σ ns) (hn:lk n σ.objs=some o) {env b:List (Nat×AV)} (f:∀s,lk s b=(lk s X.env).or (lk s env)):NT ⟨env,upd n d σ.objs⟩ ⟨b,upd n d σ'.objs⟩ X:=by
 refine⟨f,fun m=>?_⟩;simp only[GV];have e:lk n X.objs=none:=by
  cases h:lk n X.objs with
  | none=>rfl
  | some u=>rw[ha.new n u h]at hn;cases hn
 by_cases a:m=n
 ·subst a;rw[At rfl,At rfl,c.objs,e];rfl
 ·rw[As a,As a,c.objs]
theorem NT.some_lk (a:NT σ σ' X) (ha:IT X σ ns) {n:Nat} {o:Obj} (h:lk n σ.objs=some o):lk n σ'.objs=some o:=a.obs ha n o h
theorem sY {tb:Tb} {op:Op} {d:Option Nat} {vc:Prop} {τ:St} (a:NT σ σ' X) (ha:IT X σ ns) (K:kX σ σ' op.operands.toList) (A:∀n∈WM σ op,n∈ns) (U:∀t,d=some t→lk t X.env=none) (T:∀n,(∃u,lk n τ.objs=some u)→lk n X.objs=none) (h:FF tb σ d op=some (vc,τ)) :
  (∃ak,FF tb σ' d op=some (vc,ak)∧NT τ ak X)∧∀k,aq tb σ' k op=none:=by
 have R:=a.obs ha;cases op<;>simp only[FF]at h<;>try(cases h;done)
 case store t x y =>
  refine⟨?_,fun _=>rfl⟩;simp only[FF];have A:∀n∈Yi σ (Ah σ x) (Ah σ y),n∈ns:=A;rw[K x (by simp[Op.operands]),K y (by simp[Op.operands])];cases d with
  | some d=>simp[Di]at h
  | none =>
   simp only[Di]at h ⊢;generalize Ah σ x=al at h A ⊢;generalize Ah σ y=am at h A ⊢;unfold HH at h ⊢;split at h
   ·rename_i ti n aw off v Z;try simp only
    unfold DL at h ⊢;split at h
    ·rename_i et st fs f;rw[a.some_lk ha f];try simp only
     unfold Ei at h ⊢;split at h
     ·rename_i u az h1 G;try rw[h1,G]
      try simp only
      split at h
      ·rename_i B;rw[At B];cases h;exact⟨_,rfl,Yj a ha f a.env⟩
      ·cases h
     ·cases h
    ·cases h
   ·rename_i ti n e i aw off v Z;try simp only
    unfold DM at h ⊢;split at h
    ·rename_i et ae xs f;rw[a.some_lk ha f];try simp only
     cases aa:Kk false σ ti.ty v with
     | none=>rw[aa]at h;unfold EB at h;split at h<;>first|(cases h;done)|(rename_i G;cases G)
     | some w =>
      rw[FI R aa];rw[aa]at h;unfold EB at h ⊢;split at h
      ·rename_i ys w' h1 G;cases G;try rw[h1]
       try simp only
       unfold FE at h ⊢;split at h
       ·rename_i z P;try rw[P]
        try simp only
        split at h
        ·rename_i B;rw[At B];cases h;exact⟨_,rfl,Yj a ha f a.env⟩
        ·cases h
       ·cases h
      ·cases h
    ·rename_i et ad k F xs j f;rw[a.some_lk ha f];try simp only
     split at h
     ·rename_i m E hi;try simp only
      split at h
      ·rename_i B;rw[At B];unfold Kp at h ⊢;split at h
       ·rename_i J;rw[At J];unfold Kn at h ⊢;split at h
        ·rename_i bb af ys D;rw[a.some_lk ha D];try simp only
         split at h
         ·rename_i ap;rw[At ap];unfold Jh at h ⊢;split at h
          ·rename_i aj ab;try rw[ab]
           try simp only
           cases h;have ai:∀q,q∈[n,m]→q∈ns:=fun q c=>A q (by simp only[Yi,f,Cb,AAH];exact c);refine⟨_,rfl,pG (en:=[]) (new:=[(n,_)]) a ha (ai n (by simp)) (fun q c=>ai q (by simp at c;simp[c])) (fun s v h=>by cases h) (fun q o c=>T q ⟨o,?_⟩)⟩;simp only[lk]at c ⊢;split at c
           ·rename_i F;cases c;rw[At F]
           ·cases c
          ·cases h
         ·cases h
        ·cases h
       ·cases h
      ·cases h
     ·cases h
    ·cases h
   ·cases h
 case mapUpdate t m x y =>
  refine⟨?_,fun _=>rfl⟩;simp only[FF];rw[K m (by simp[Op.operands]),K x (by simp[Op.operands]),K y (by simp[Op.operands])];cases d with
  | some d=>simp[Di]at h
  | none =>
   simp only[Di]at h ⊢;generalize Ah σ m=ax at h ⊢;generalize Ah σ x=al at h ⊢;generalize Ah σ y=am at h ⊢;unfold Jj at h ⊢;split at h
   ·try simp only
    unfold FN at h ⊢;split at h
    ·rename_i bf bh l f;rw[a.some_lk ha f];try simp only
     split at h
     ·rename_i B;rw[At B];unfold F0 at h ⊢;split at h
      ·rename_i bd v1 h1 G;rw[FI R h1,FI R G];try simp only
       split at h
       ·rename_i J;rw[At J];cases h;exact⟨_,rfl,Yj a ha f a.env⟩
       ·cases h
      ·cases h
     ·cases h
    ·cases h
   ·cases h
 case call cl =>
  obtain⟨callee,⟨args⟩,⟨argTypes⟩⟩:=cl;cases callee with
  | value g=>simp[C0]at h
  | invoke r m=>simp[C0]at h
  | builtin b =>
   simp only[C0]at h;unfold DN at h;split at h
   ·rename_i x y t u;have O:Ah σ' x=Ah σ x:=K x (by simp[Op.operands,Call.operands]);have S:Ah σ' y=Ah σ y:=K y (by simp[Op.operands,Call.operands]);have A:∀n∈JK σ (Ah σ x) (Ah σ y),n∈ns:=fun n hn=>A n (by simpa[WM] using hn);unfold Cz at h;split at h
    ·rename_i n e hi v C I;rw[C,I]at A;refine⟨?_,fun k=>by simp[aq,Cc,Cn,CX,O,C]⟩;simp only[FF,C0,DN,Cz,O,C,S,I];split at h
     ·rename_i p ;have L:=U p rfl;have M:n∈ns:=A n xR;try simp only
      split at h
      ·rename_i N;rw[At N];unfold EC at h ⊢;split at h
       ·rename_i af av el b2 Y;try rw[Y]
        try simp only
        split at h
        ·rename_i W;rw[At W];unfold CQ at h ⊢;split at h
         ·rename_i ti et ae xs h1 f;try rw[h1]
          try rw[a.some_lk ha f]
          try simp only
          split at h
          ·rename_i ar;rw[At ar];unfold Ej at h ⊢;split at h
           ·rename_i aj ys G P;try rw[G]
            rw[L4 R P];try simp only
            cases h;refine⟨_,rfl,⟨fun s=>?_,fun m=>?_⟩⟩
            ·simp only[lk];by_cases hs:s=p
             ·subst hs;rw[At rfl,At rfl,L];rfl
             ·rw[As hs,As hs,KC,KC,a.env];cases H:lk s X.env with
              | none=>rfl
              | some w=>simp[UD M w (ha.env s w H)]
            ·simp only[GV,Bn];have ao:lk n X.objs=none:=by
              cases H:lk n X.objs with
              | none=>rfl
              | some w=>exact absurd M (ha.nm n w H)
             by_cases D:m=n
             ·subst D;rw[At rfl,At rfl,a.objs,ao];rfl
             ·rw[As D,As D,a.objs];cases H:lk m X.objs with
              | none=>rfl
              | some w=>exact AAP some (sX (ha.arr m w H))
           ·cases h
          ·cases h
         ·rename_i ti et ad k ae xs h1 f;try rw[h1]
          try rw[a.some_lk ha f]
          try simp only
          split at h
          ·rename_i B;rw[At B];unfold O8 at h ⊢;split at h
           ·rename_i m E au;try simp only
            unfold Ko at h ⊢;split at h
            ·rename_i an ba be ay ys D;rw[a.some_lk ha D];try simp only
             split at h
             ·rename_i J;rw[At J];unfold Ji at h ⊢;split at h
              ·rename_i aj ab;try rw[ab]
               try simp only
               cases h;refine⟨_,rfl,pF a ha (fun q c=>A q (by simp only[JK,f,Cb,AAH];exact c)) L ?_⟩;cases H:lk n X.objs with
               | none=>rfl
               | some w=>exact absurd M (ha.nm n w H)
              ·cases h
             ·cases h
            ·cases h
           ·cases h
          ·cases h
         ·cases h
        ·cases h
       ·cases h
      ·cases h
     ·cases h
    ·rename_i n e i len v C I;rw[C,I]at A;refine⟨?_,fun k=>by simp[aq,Cc,Cn,CX,O,C]⟩;simp only[FF,C0,DN,Cz,O,C,S,I];split at h
     ·rename_i p ;have L:=U p rfl;have M:n∈ns:=A n (by simp[JK]);try simp only
      split at h
      ·rename_i N;rw[At N];unfold Lu at h ⊢;split at h
       ·rename_i af av el b2 Y;try rw[Y]
        try simp only
        split at h
        ·rename_i W;rw[At W];unfold Nb at h ⊢;split at h
         ·rename_i ti et ad k F xs h1 f;try rw[h1]
          try rw[a.some_lk ha f]
          try simp only
          split at h
          ·rename_i B;rw[At B];unfold LX at h ⊢;split at h
           ·rename_i ys P;rw[L4 R P];try simp only
            split at h
            ·rename_i ag;have Q:lk p X.objs=none:=by
              refine T p ?_;cases h;exact⟨_,by simp only[lk,AAH];rfl⟩
             have V:(lk p σ'.objs).isNone=true∧ys.isEmpty=false:=⟨by rw[a.objs,Q];exact ag.1,ag.2⟩;rw[At V];cases h;refine⟨_,rfl,pG (en:=[(p,_)]) (new:=[(p,_),(n,_)]) a ha M (fun q c=>by cases c) (fun s v h=>?_) (fun q o c=>?_)⟩
             ·simp only[lk]at h;split at h
              ·rename_i F;rw[F];exact L
              ·cases h
             ·simp only[lk]at c;split at c
              ·rename_i F;rw[F];exact Q
              ·split at c
               ·rename_i F;rw[F];cases H:lk n X.objs with
                | none=>rfl
                | some w=>exact absurd M (ha.nm n w H)
               ·cases c
            ·cases h
           ·cases h
          ·cases h
         ·cases h
        ·cases h
       ·cases h
      ·cases h
     ·cases h
    ·rename_i v C I;rw[C,I]at A;split at h
     ·rename_i p ;have L:=U p rfl;split at h
      ·rename_i N;unfold WG at h;split at h
       ·rename_i m E au bg offs el b Z;unfold Nf at h;split at h
        ·rename_i ti an ad k e ys h1 D;split at h
         ·rename_i B;unfold Nc at h;split at h
          ·rename_i J;have Q:lk p X.objs=none:=by
            refine T p ?_;cases h;exact⟨_,by simp only[lk,AAH];rfl⟩
           have V:(lk p σ'.objs).isNone=true:=by rw[a.objs,Q];exact J.1
           have ah:=a.some_lk ha D;refine⟨?_,fun bc=>by simp[aq,Cc,Cn,CX,O,C,S,I,N,EA,Ov,ah,Cb];split<;>simp[Eh]⟩;cases h;simp only[FF,C0,DN,Cz,O,C,S,I,WG,Nf,Nc];rw[At N,Z];simp only;rw[ah,h1];simp only;rw[At B,At ⟨V,J.2⟩];exact⟨_,rfl,pF a ha (fun q c=>A q (by simp only[JK,D,Cb,AAH];exact c)) L Q⟩
          ·cases h
         ·cases h
        ·cases h
       ·cases h
      ·cases h
     ·cases h
    ·cases h
   ·cases h
end
end
section
open Go Go.RowKit
def xS (o:Obj):Bool:=K9 o
def IU (o:Oper):EN→Bool
 | []=>true
 | (d,_,_) :: r=>!AW d (GI o.op)&&!AW d o.dst.toList&&IU o r
def S4 (ns:List Nat) (σ:List (Nat×Obj)):List (Nat×Obj)→Bool
 | []=>true
 | (n,o) :: r=>(lk n σ).isNone&&!AW n ns&&xS o&&S4 ns σ r
def HN (ns:List Nat) (σ:List (Nat×Obj)):EN→Bool
 | []=>true
 | (_,_,obs) :: r=>S4 ns σ obs&&HN ns σ r
def Yk (τ:List (Nat×Obj)):List (Nat×Obj)→Bool
 | []=>true
 | (n,_) :: r=>(lk n τ).isNone&&Yk τ r
def MD (τ:List (Nat×Obj)):EN→Bool
 | []=>true
 | (_,_,obs) :: r=>Yk τ obs&&MD τ r
def Ha (ns:List Nat):EN→EN
 | []=>[]
 | (d,v,obs) :: r=>(d,v.fgt ns,obs) :: Ha ns r
def tn (σ:St) (o:Op):List Nat:=CC σ o++WM (Ce (CC σ o) σ) o
theorem DQ {o:Oper}:∀ {ens:EN},IU o ens=true→∀e∈ens,e.1∉GI o.op∧o.dst≠some e.1
 | [],_,e,a=>by cases a
 | (d,v,obs) :: r,h,e,a=>by
  simp only[IU,AT,OR]at h;rcases By.1 a with rfl|a
  ·refine⟨fun b=>(by rw[(AY _ _).2 b]at h;cases h.1.1),fun b=>?_⟩;have:=h.1.2;rw[b]at this;simp[AW]at this
  ·exact DQ h.2 e a
theorem Pi {ns:List Nat} {σ:List (Nat×Obj)}:∀ {l:List (Nat×Obj)},S4 ns σ l=true→∀p∈l,lk p.1 σ=none∧p.1∉ns∧xS p.2=true
 | [],_,e,a=>by cases a
 | (n,o) :: r,h,p,hp=>by
  simp only[S4,AT,OR,AAB]at h;rcases By.1 hp with rfl|hp
  ·exact⟨h.1.1.1,fun b=>(by rw[(AY _ _).2 b]at h;cases h.1.1.2),h.1.2⟩
  ·exact Pi h.2 p hp
theorem DR {ns:List Nat} {σ:List (Nat×Obj)}:∀ {ens:EN},HN ns σ ens=true→∀e∈ens,∀p∈e.2.2,lk p.1 σ=none∧p.1∉ns∧xS p.2=true
 | [],_,e,a=>by cases a
 | (d,v,obs) :: r,h,e,a=>by
  simp only[HN,AT]at h;rcases By.1 a with rfl|a
  ·exact Pi h.1
  ·exact DR h.2 e a
theorem SC {τ:List (Nat×Obj)}:∀ {l:List (Nat×Obj)},Yk τ l=true→∀p∈l,lk p.1 τ=none
 | [],_,e,a=>by cases a
 | (n,o) :: r,h,p,hp=>by
  simp only[Yk,AT,AAB]at h;rcases By.1 hp with rfl|hp
  ·exact h.1
  ·exact SC h.2 p hp
theorem IV {τ:List (Nat×Obj)}:∀ {ens:EN},MD τ ens=true→∀e∈ens,∀p∈e.2.2,lk p.1 τ=none
 | [],_,e,a=>by cases a
 | (d,v,obs) :: r,h,e,a=>by
  simp only[MD,AT]at h;rcases By.1 a with rfl|a
  ·exact SC h.1
  ·exact IV h.2 e a
theorem LA {ns:List Nat}:∀ {ens:EN},Ha ns ens=ens→∀e∈ens,e.2.1.fgt ns=e.2.1
 | [],_,e,a=>by cases a
 | (d,v,obs) :: r,h,e,a=>by
  simp only[Ha,ABh,ACz,and_true,true_and]at h;rcases By.1 a with rfl|a
  ·exact h.1
  ·exact LA h.2 e a
section
variable {c:Cx} {o:Oper} {σ:St} {ens:EN} {N:St→Prop}
theorem xT {X:St} {ns:List Nat} (b:XIn ens X) (hn:HN ns σ.objs ens=true) (hf:Ha ns ens=ens):IT X σ ns:=by
 refine⟨fun s v hs=>?_,fun n o a=>?_,fun n o a=>?_,fun n o a=>?_⟩
 ·obtain⟨obs,d⟩:=b.env s v hs;exact LA hf _ d
 all_goals
  obtain⟨e,c,hp⟩:=b.objs n o a;have:=DR hn e c _ hp
 ·exact this.2.2
 ·exact this.1
 ·exact this.2.1
theorem sZ (S:c.Ok) {τ:St} {vc:Prop} (ns:List Nat) (h:F1 c.tb o σ=some (vc,τ)) (Z:tn σ o.op=ns) (M:IU o ens=true) (hn:HN ns σ.objs ens=true) (W:MD τ.objs ens=true) (hf:Ha ns ens=ens) (T:HX c.nt o=true) (ag:vc) (R:N τ):Tz c o σ ens N:=by
 subst Z;intro X σ' k q a w next Q hs hk
 have ha:=xT q hn hf;have G:∀t∈GI o.op,lk t X.env=none:=fun t B=>by
  cases i:lk t X.env with
  | none=>rfl
  | some v=>obtain⟨obs,f⟩:=q.env t v i;exact absurd B (DQ M _ f).1
 have E:∀t,o.dst=some t→lk t X.env=none:=fun t B=>by
  cases i:lk t X.env with
  | none=>rfl
  | some v=>obtain⟨obs,f⟩:=q.env t v i;exact absurd B (DQ M _ f).2
 have H:∀n,(∃u,lk n τ.objs=some u)→lk n X.objs=none:=fun n hu=>by
  cases i:lk n X.objs with
  | none=>rfl
  | some v =>
   obtain⟨e,V,hp⟩:=q.objs n v i;obtain⟨u,hu⟩:=hu;rw[IV W e V _ hp]at hu;cases hu
 have ae:=aM k ha (op:=o.op) (Pg k G);obtain⟨b,z⟩:=UK (l:=CC σ o.op) k ha (fun m f=>by simp[tn,f]);have key:∃g,F1 c.tb o σ'=some (vc,g)∧NT τ g X:=by
  have I:∀n∈WM (Ce (CC σ o.op) σ) o.op,n∈tn σ o.op:=fun m f=>by simp[tn,f]
  unfold F1 Ng at h ⊢;rw[ae];generalize Ce (CC σ o.op) σ=C at h b z I;generalize Ce (CC σ o.op) σ'=D at b;have L:=Pg b G;cases A:aq c.tb C (o.dst.getD 0) o.op with
  | some r =>
   obtain⟨ah,v,obs⟩:=r;rw[A]at h;have ab:=Sz (b.obs z) (fun x k v af=>by rw[L x k];exact af) A;rw[ab];simp only[J6]at h ⊢;split at h
   ·rename_i J;cases h;have K:∀n,lk n (C.add v obs o.dst).objs=(lk n obs).or (lk n C.objs):=fun n=>by cases o.dst<;>simp only[St.add,A0]
    have aa:∀n,lk n (D.add v obs o.dst).objs=(lk n obs).or (lk n D.objs):=fun n=>by cases o.dst<;>simp only[St.add,A0]
    have F:∀n u,lk n obs=some u→lk n X.objs=none:=fun n u hu=>H n ⟨u,by rw[K,hu];rfl⟩;have Y:Ba obs D=true:=by
     simp only[Ba,GO,AAB]at J ⊢;intro p hp;obtain⟨u,hu⟩:=M5 hp;rw[b.objs,F _ u hu,J p hp];rfl
    rw[At Y];refine⟨_,rfl,fun s=>?_,fun n=>?_⟩
    ·cases U:o.dst with
     | none=>simp only[St.add];exact b.env s
     | some d =>
      simp only[St.add,lk];by_cases j:s=d
      ·rw[At j,At j,j,E d U];rfl
      ·rw[As j,As j];exact b.env s
    ·rw[K,aa,b.objs];cases hu:lk n obs with
     | none=>rfl
     | some u=>rw[F n u hu];rfl
   ·cases h
  | none =>
   rw[A]at h;simp only[J6]at h;obtain⟨⟨g,h1,y⟩,P⟩:=sY b z L I E H h;rw[P];simp only[J6];exact⟨g,h1,y⟩
 obtain⟨g,h1,y⟩:=key;exact PX S hs h1 ag (Bb T) fun O w' ad=>hk τ R O w' g y ad
theorem aN {σ σ':St}:∀ {xs:List Operand},kX σ σ' xs→IP σ' xs=IP σ xs
 | [],_=>rfl
 | x :: r,h=>by
  simp only[IP];rw[h x (by simp),aN (fun y a=>h y (by simp[a]))]
theorem Yl {σ σ':St} (h:Ya σ σ') {ren:List (Nat×Bw)} {x y:AV} (a:F5 σ ren x y):F5 σ' ren x y:=by
 cases y<;>first|exact a|exact FI h a
theorem Nk {σ σ':St} (h:Ya σ σ') {ren:List (Nat×Bw)}:∀ {l r:List AV},BH σ ren l r→BH σ' ren l r
 | [],[],_=>trivial
 | [],_ :: _,a=>a.elim
 | _ :: _,[],a=>a.elim
 | _ :: _,_ :: _,a=>⟨Yl h a.1,Nk h a.2⟩
theorem Nl {l l':List (Nat×Obj)} (h:∀n o,lk n l=some o→lk n l'=some o) {ren:List (Nat×Bw)}:∀ {r:List (Nat×Obj)},Ab l ren r→Ab l' ren r
 | [],_=>trivial
 | (m,o) :: r,a=>by
  refine⟨?_,Nl h a.2⟩;have h1:=a.1;cases hf:lk m ren with
  | none=>rw[hf]at h1;exact h1.elim
  | some f =>
   rw[hf]at h1;cases f with
   | nil=>exact h1
   | nm n =>
    simp only[F4]at h1 ⊢;cases hn:lk n l with
    | none=>rw[hn]at h1;simp only[HJ]at h1
    | some x=>rw[h n x hn,←hn];exact h1
theorem s5 (ai:c.Ok) {dst:Option Nat} {g:Operand} {xs:List Operand} {ts:Array TypeId} {ty:TypeId} {pos:String} {after:Array Edge}
  {f:FuncId} {E:List Nat} (al:Cp (Ah σ g)=some (f,E)) {as:List AV} (ah:IP σ xs=some as)
  {A:List AV} {objs:List (Nat×Obj)} {stay:List Nat} {post:AV→List (Nat×Obj)→Prop} (ad:BB c.P f A objs stay post)
  (ren:List (Nat×Bw)) (hs:List Nat) (h1:B8 ren=true) (Y:CS objs ren=true) (ao:(c.ds.pin.all fun p=>!AW p.1 hs)=true)
  (K:IU ⟨dst,.call ⟨.value g,xs.toArray,ts⟩,ty,pos,after,none⟩ ens=true) (hn:HN (Ag ren) σ.objs ens=true) (hf:Ha hs ens=ens) (aj:HX c.nt ⟨dst,.call ⟨.value g,xs.toArray,ts⟩,ty,pos,after,none⟩=true)
  (ab:BH σ ren (as++E.map fun n=>AV.bp n [] 0) A) (ae:Ab σ.objs ren objs)
  (hk:∀res x,post res x→∃(l:List (Nat×Bw)) (z:AV) (i:List (Nat×Obj)),B8 l=true∧CS i l=true∧Ab x l i∧Bc l res z ∧
   JH ren l stay hs=true∧FU (Ag ren) i σ.objs=true∧MD i ens=true∧N (CE σ (Ag ren) hs dst z i)) :
  Tz c ⟨dst,.call ⟨.value g,xs.toArray,ts⟩,ty,pos,after,none⟩ σ ens N:=by
 intro X σ' r k a w next Q aq an
 have ak:∀s v,lk s X.env=some v→v.fgt hs=v:=fun s v hs=>by
  obtain⟨obs,m⟩:=k.env s v hs;exact LA hf _ m
 have I:Ya σ σ':=by
  intro n o B;rw[r.objs];cases b:lk n X.objs with
  | none=>exact B
  | some au =>
   obtain⟨e,j,hp⟩:=k.objs n au b;rw[(DR hn e j _ hp).1]at B;cases B
 have am:∀n o,lk n X.objs=some o→n∉Ag ren:=fun n o C=>by
  obtain⟨e,j,hp⟩:=k.objs n o C;exact(DR hn e j _ hp).2.1
 have ag:∀t∈(g :: xs).filterMap L5,lk t X.env=none:=fun t D=>by
  cases b:lk t X.env with
  | none=>rfl
  | some v =>
   obtain⟨obs,m⟩:=k.env t v b;refine absurd ?_ (DQ K _ m).1;simpa[GI,Op.operands,Call.operands] using D
 have af:∀t,dst=some t→lk t X.env=none:=fun t D=>by
  cases b:lk t X.env with
  | none=>rfl
  | some v=>obtain⟨obs,m⟩:=k.env t v b;exact absurd D (DQ K _ m).2
 have J:=Pg r ag;refine Ye ai (xs:=xs) (ts:=ts) rfl rfl (by rw[J g (by simp)];exact al) (by rw[aN (fun y ar=>J y (by simp[ar]))];exact ah) ad ren h1 Y (Nk I ab) (Nl I ae) hs ao aq (Bb aj) fun res x hp=>?_;obtain⟨l,z,i,O,R,S,T,U,F,V,W⟩:=hk res x hp;have G:∀n o,lk n X.objs=some o→lk n i=none:=fun n o C=>by
  obtain⟨e,j,hp⟩:=k.objs n o C;exact IV V e j _ hp
 refine⟨l,z,i,O,R,S,T,U,?_,fun M w' ap=>an _ W M w' _ ⟨fun s=>?_,fun n=>?_⟩ ap⟩
 ·simp only[FU,GO,iS,AAB]at F ⊢;intro p hp;rcases F p hp with h|h
  ·exact .inl h
  ·right;rw[r.objs,h];cases b:lk p.1 X.objs with
   | none=>rfl
   | some u =>
    obtain⟨av,L⟩:=M5 hp;rw[G _ u b]at L;cases L
 ·have H:lk s (BT hs σ'.env)=(lk s X.env).or (lk s (BT hs σ.env)):=by
   rw[DK,DK,r.env];cases b:lk s X.env with
   | none=>rfl
   | some v=>simp[ak s v b]
  simp only[CE];cases dst with
  | none=>exact H
  | some d =>
   simp only[Jp,lk];by_cases q:s=d
   ·rw[At q,At q,q,af d rfl];rfl
   ·rw[As q,As q];exact H
 ·simp only[CE,A0,BR,r.objs];cases b:lk n X.objs with
  | none=>simp
  | some u =>
   have aa:K9 u=true:=by
    obtain⟨e,j,hp⟩:=k.objs n u b;exact(DR hn e j _ hp).2.2
   have Z:¬AW n (Ag ren)=true:=fun h=>am n _ b ((AY _ _).1 h);rw[G n _ b,As Z];exact AAP some (Q7 aa)
end
section
variable {c:Cx} {ops:List Oper} {Kf:St→Prop} {τ:St} {ens:EN} {vc:Prop}
theorem xU {D:List Nat} (h:jY c.tb ops τ.objs D [] τ.env=some (vc,ens)) (b:vc) (a:Pf ens τ.objs=true) (hk:Kf (Lo ens τ)):xJ c ops Kf [] D ens τ:=⟨⟨vc,h,b,a⟩,hk⟩
theorem xV {A D:List Nat} {l:Nat} {b:List (List Nat×Nat)} {o:Oper} {d:St} {a:EN} (h:jY c.tb ops τ.objs (A++qs b D) [] τ.env=some (vc,ens)) (j:vc) (g:Pf ens τ.objs=true) (i:ops[l]?=some o) (k:Lo (ens.take A.length) τ=d) (f:ens.drop A.length=a)
  (e:Tz c o d a (fun m=>xJ c ops Kf b D a m)):xJ c ops Kf ((A,l) :: b) D ens τ:=by
 subst k f;exact⟨⟨vc,h,j,g⟩,o,i,e⟩
end
end
section
open Go
attribute [local go_sem] Wk AM List.toList_toArray Bp evG evK TW EX Jk Fg Ex F1 Ng J6 CC Co Kq Bz Ce frz Zk GS DD A5 FQ BU AV.frz AV.frzs AV.drp AV.drps AV.names AV.namess aq GT J5 Jb Qn H5 BP BV I5 EP Hg ER Hi Hh Hj Sd NY GU I6 FT Ds Se O5 v4 I7 H8 Kl E9 Dh H9 Jd D9 Qo CX EA Eh O6 IA O7 LW IB Je Cn Cc FF Di HH DL Ei DM EB FE Bz Cb Ov O2 Lt Fz H7 H6 Jc Lu Nb LX Kp Kn Jh O8 Ko Ji WG Nf Nc AV.trn AV.trns Dr CW Obj.trn JK Yi C0 DN Cz EC CQ Ej Ah lk Gm GJ HF wC Zj TT Zm O4 oJ oK pfs AV.cells CA I3 Nx Jg Na CP Lr Ty.cell1 Hf Eg Dg Fy Kk EO J4 LV Oz Ef Gu Lq Qm Sb Ln J3 WD YK O3 Ls Cm I4 RV.flat Ty.flat Ty.size St.add upd del Ba Value.oneCell' Ki Ty.dflt He Mx Gx M4 List.take_succ_cons List.take_zero List.length_cons Wr Ws M3 X1 KG GY Hz sM Ey Kz K0 K2 K3 OG OH JC Ho Qy Option.map_some Option.map_none Option.bind_some Option.getD_some Option.getD_none Option.isNone_none Option.isNone_some Bool.and_true Bool.true_and Bool.and_false Bool.false_and Bool.not_true Bool.not_false if_true if_false List.length_cons List.length_nil and_true true_and and_self List.all_cons List.all_nil List.append_nil List.nil_append List.cons_append List.getElem?_cons_zero List.getElem?_cons_succ List.getElem?_nil List.map_cons List.map_nil List.set_cons_zero List.set_cons_succ List.isEmpty_nil List.isEmpty_cons decide_true decide_false beq_self_eq_true bne_self_eq_false Nat.zero_add Nat.add_zero Nat.sub_zero Int.toNat_natCast Int.toNat_zero Int.toNat_one List.take_length List.length_append List.length_singleton true_or or_true or_self false_or or_false Ty.agg.injEq Ty.slice.injEq Ty.prod.injEq Ty.int.injEq Option.some.injEq beq_iff_eq K4 evMG evMQ v5 HL Lc Bv JE GI L5 JD HK Hq JF KF L6 L8 L7 Qz KE Mz M0 Hy AW Ai Op.operands Call.operands List.filterMap_cons List.filterMap_nil List.append_eq Bool.cond_false_right Bool.cond_true_left cond_true cond_false implies_true decide_eq_true_eq beq_true beq_false Bool.or_true Bool.or_false Bool.true_or Bool.false_or Option.isSome_some Array.empty_append List.append_toArray K1 Kr Ek HV WF NZ FD Fa FZ IC HG Jf Km TV Zl Ja inB Jj FN F0 ID Ak Wu List.drop_zero DZ HZ WK CE Jp BT AV.fgt AV.fgts Obj.fgt Af Ag AW Cp IP BH F5 List.any_cons List.any_nil jY Yf WL Yg Lo Pf qs List.flatMap_cons List.flatMap_nil List.cons_append tn WM Ha List.take_succ_cons List.drop_succ_cons B8 CS Ab FH Jo Bc Em Dj HI Hn F4 HJ
end
end Go.Proofs.YtdapahgnpbehbaaGreat.Fw
