/- Regions in which operations on memory float among quiet ones. -/
import Derived.Test.YtdapahgnpbehbaaGreatLZG
set_option linter.unusedVariables false
set_option linter.unusedSimpArgs false
namespace Go.Proofs.YtdapahgnpbehbaaGreat.Fw
section
open Go Go.RowKit
abbrev EN:=List (Nat×AV×List (Nat×Obj))
def Y5 (x:Option Oper) (f:Oper→Option (Prop×EN)):Option (Prop×EN) :=
 match x with
 | some o=>f o
 | none=>none
def Wf (d:Option Nat) (r:Bc) (f:Nat→Prop→AV→List (Nat×Obj)→Option (Prop×EN)):Option (Prop×EN) :=
 match d,r with
 | some d,some (vc,v,obs)=>f d vc v obs
 | _,_=>none
def Y6 (d:Nat) (vc:Prop) (v:AV) (obs:List (Nat×Obj)) (r:Option (Prop×EN)):Option (Prop×EN) :=
 match r with
 | some (a,l)=>some (vc∧a,(d,v,obs) :: l)
 | none=>none
def lD (tb:Tb) (ops:List Oper) (base:List (Nat×Obj)):List Nat→List (Nat×List (Nat×Obj))→List (Nat×AV)→Option (Prop×EN)
 | [],_,_=>some (True,[])
 | i :: Q,E,env=>Y5 (ops[i]?) fun o=>Wf o.dst (aq tb ⟨env,Lq false o.op base E⟩ (o.dst.getD 0) o.op) fun d vc v obs=>Y6 d vc v obs (lD tb ops base Q (JR d obs E) ((d,v) :: env))
def L6:EN→St→St
 | [],σ=>σ
 | (d,v,obs) :: r,σ=>L6 r ⟨(d,v) :: σ.env,obs++σ.objs⟩
def Pl:EN→List (Nat×Obj)→Bool
 | [],_=>true
 | (_,_,obs) :: r,objs=>(obs.all fun p=>(lk p.1 objs).isNone)&&Pl r (obs++objs)
def A6y (tb:Tb) (ops:List Oper) (Q:List Nat) (ens:EN) (τ:St):Prop:=∃vc:Prop,lD tb ops τ.objs Q [] τ.env=some (vc,ens)∧vc∧Pl ens τ.objs=true
def qs (a:List (List Nat×Nat)) (D:List Nat):List Nat:=(a.flatMap (·.1))++D
def qB1 (ops:List Oper) (anc:List (List Nat)) (L Q:List Nat):List Nat→List Nat→Bool
 | [],_=>true
 | i :: r,pre=>(match ops[i]? with
   | some o=>o.dst.isSome&&o.guard.isNone&&((EK o).all fun e=>AY e L||AY e pre)&&((GL o.op).all fun t=>Q.all fun j=>Al ops j != some t||(AY j (anc.getD i [])&&AY j pre))&&(pre.all fun j=>Al ops j != o.dst)&&!AY i L&&!AY i pre
   | none=>false)&&qB1 ops anc L Q r (i :: pre)
def Sm (ops:List Oper) (anc:List (List Nat)) (p0:Nat):List Nat→List (List Nat×Nat)→List Nat→Bool
 | L,[],D=>qB1 ops anc L D D []&&((List.range p0).all fun i=>AY i L||AY i D)&&decide (L.length+D.length=p0)&&decide (p0≤ops.length)&&(L.all fun i=>decide (i<p0))&&(D.all fun i=>decide (i<p0))&&((List.range ops.length).all fun i=>decide (i<p0)||(List.range i).all fun j=>AY j (anc.getD i []))
 | L,(A,l) :: a,D=>qB1 ops anc L (A++qs a D) (A++qs a D) []&&(match ops[l]? with
   | some o=>o.guard.isNone&&((EK o).all fun e=>AY e L||AY e A)&&(A.all fun j=>AY j (anc.getD l []))&&!AY l L&&!AY l (A++qs a D)
   | none=>false)&&(a.all fun p=>AY l (anc.getD p.2 []))&&Sm ops anc p0 (l :: (A++L)) a D
def A6z (ops:List Oper) (anc:List (List Nat)):Bool :=
 (List.range ops.length).all fun i=>match ops[i]? with|some o=>((EK o).all fun e=>decide (e<i))&&((anc.getD i []).all fun j=>AY j (EK o)||(EK o).any fun e=>AY j (anc.getD e []))|none=>false
structure Na (σ σ' X:St):Prop where
 env:∀s,lk s σ'.env=(lk s X.env).or (lk s σ.env)
 objs:∀n,lk n σ'.objs=(lk n X.objs).or (lk n σ.objs)
structure XIn (ens:EN) (X:St):Prop where
 env:∀s v,lk s X.env=some v→∃obs,(s,v,obs)∈ens
 objs:∀n o,lk n X.objs=some o→∃e∈ens,(n,o)∈e.2.2
def UI (c:Cx) (o:Oper) (σ:St) (ens:EN) (N:St→Prop):Prop :=
 ∀(X σ':St),Na σ σ' X→XIn ens X→∀(a:Act) (w:World) (next:Act→World→Prop) (Q:Exit→Act→World→Prop),c.sat σ' a w →
  (∀τ,N τ→∀(b:Act) (w':World) (d:St),Na τ d X→c.sat d b w'→next b w')→o.wpIn (FR c.r) 0 c.P a w next Q
def zL (c:Cx) (ops:List Oper) (Kf:St→Prop):List (List Nat×Nat)→List Nat→EN→St→Prop
 | [],D,ens,τ=>A6y c.tb ops D ens τ∧Kf (L6 ens τ)
 | (A,l) :: a,D,ens,τ=>A6y c.tb ops (A++qs a D) ens τ∧∃o,ops[l]?=some o∧UI c o (L6 (ens.take A.length) τ) (ens.drop A.length) (fun b=>zL c ops Kf a D (ens.drop A.length) b)
def OT (Q:List Nat) (ens:EN) (i:Nat):En :=
 match lk i (Q.zip ens) with
 | some (_,v,obs)=>⟨true,v,obs⟩
 | none=>⟨true,.top,[]⟩
section
variable {ops:List Oper} {en:Nat→En} {τ:St}
theorem Q7:∀(l:List Nat),(Ar ops en τ l).env=(Ar ops en ⟨[],[]⟩ l).env++τ.env
 | []=>rfl
 | i :: r=>by
  simp only[Ar];cases Al ops i with
  | none=>simp only[St.add];exact Q7 r
  | some d=>simp only[St.add,ABz];rw[Q7 r]
theorem mA (l:List Nat):(Ar ops en τ l).objs=(Ar ops en ⟨[],[]⟩ l).objs++τ.objs:=by
 rw[Fq,Fq];simp
theorem zM (l:List Nat):Na τ (Ar ops en τ l) (Ar ops en ⟨[],[]⟩ l) :=
 ⟨fun s=>by rw[Q7,A1],fun n=>by rw[mA,A1]⟩
structure Own (ops:List Oper) (en:Nat→En) (τ:St) (Q:List Nat):Prop where
 slot:∀i∈Q,∀j∈Q,∀s,Al ops i=some s→Al ops j=some s→i=j
 new:∀i∈Q,∀n o,lk n (en i).obs=some o→lk n τ.objs=none
 name:∀i∈Q,∀j∈Q,∀n o o',lk n (en i).obs=some o→lk n (en j).obs=some o'→i=j
theorem zN {Q l:List Nat} (h:Own ops en τ Q) (c:∀i∈l,i∈Q) (s:Nat) (v:AV):lk s (Ar ops en τ l).env=some v↔(∃i∈l,Al ops i=some s∧(en i).v=v)∨((∀i∈l,Al ops i≠some s)∧lk s τ.env=some v):=by
 rw[Fs];cases hf:l.find? (fun j=>Al ops j==some s) with
 | none =>
  have hn:∀i∈l,Al ops i≠some s:=fun i hi=>by simpa using ACA.1 hf i hi
  constructor
  ·grind
  ·grind
 | some j =>
  have b:=ABX hf;have a:Al ops j=some s:=by simpa using ACT hf
  constructor
  ·grind
  ·rintro (⟨i,hi,d,rfl⟩|⟨hn,_⟩)
   ·rw[h.slot i (c i hi) j (c j b) s d a]
   ·exact absurd a (hn j b)
theorem zO {Q l:List Nat} (h:Own ops en τ Q) (d:∀i∈l,i∈Q) (n:Nat) (o:Obj):lk n (Ar ops en τ l).objs=some o↔(∃i∈l,lk n (en i).obs=some o)∨((∀i∈l,lk n (en i).obs=none)∧lk n τ.objs=some o):=by
 rw[Fq,A1];cases hf:lk n (l.flatMap fun j=>(en j).obs) with
 | some e =>
  obtain⟨j,c,a⟩:=qJ hf;simp only[ACD];constructor
  ·grind
  ·rintro (⟨i,hi,b⟩|⟨hn,_⟩)
   ·have:=h.name i (d i hi) j (d j c) n o e b a;subst this;rw[←a,b]
   ·rw[hn j c]at a;cases a
 | none =>
  have hn:=LI hf;simp only[Option.none_or];constructor
  ·grind
  ·grind
theorem uM {Q l A:List Nat} (h:Own ops en τ Q) (k:∀i∈l,i∈Q) (m:∀i∈A,i∈l):Na (Ar ops en τ A) (Ar ops en τ l) (Ar ops en ⟨[],[]⟩ (l.filter fun i=>!AY i A)):=by
 have h0:Own ops en ⟨[],[]⟩ Q:=⟨h.slot,fun _ _ _ _ _=>rfl,h.name⟩;have hf:∀i∈l.filter (fun i=>!AY i A),i∈Q:=fun i hi=>k i (AAk.1 hi).1;have p:∀i∈A,i∈Q:=fun i hi=>k i (m i hi);have g:∀i,i∈l.filter (fun i=>!AY i A)↔i∈l∧i∉A:=fun i=>by grind [AZ,AY]
 refine⟨fun s=>ACG fun v=>?_,fun n=>ACG fun o=>?_⟩
 ·rw[zN h k,Option.or_eq_some_iff,zN h0 hf,zN h p];constructor
  ·rintro (⟨i,hi,d,a⟩|⟨hn,a⟩)
   ·by_cases c:i∈A
    ·refine .inr ⟨?_,.inl ⟨i,c,d,a⟩⟩;cases b:lk s (Ar ops en ⟨[],[]⟩ (l.filter fun i=>!AY i A)).env with
     | none=>rfl
     | some u =>
      rcases (zN h0 hf s u).1 b with ⟨j,e,f,_⟩|⟨_,b⟩
      ·have:=h.slot i (k i hi) j (hf j e) s d f;subst this;exact absurd c ((g i).1 e).2
      ·cases b
    ·exact .inl (.inl ⟨i,(g i).2 ⟨hi,c⟩,d,a⟩)
   ·refine .inr ⟨?_,.inr ⟨fun i hi=>hn i (m i hi),a⟩⟩;cases b:lk s (Ar ops en ⟨[],[]⟩ (l.filter fun i=>!AY i A)).env with
    | none=>rfl
    | some u =>
     rcases (zN h0 hf s u).1 b with ⟨j,e,f,_⟩|⟨_,b⟩
     ·exact absurd f (hn j ((g j).1 e).1)
     ·cases b
  ·rintro ((⟨i,hi,d,a⟩|⟨_,a⟩)|⟨b,⟨i,hi,d,a⟩|⟨hn,a⟩⟩)
   ·grind
   ·cases a
   ·grind
   ·refine .inr ⟨fun i hi d=>?_,a⟩;by_cases c:i∈A
    ·exact hn i c d
    ·have:=(zN h0 hf s (en i).v).2 (.inl ⟨i,(g i).2 ⟨hi,c⟩,d,rfl⟩);rw[b]at this;cases this
 ·rw[zO h k,Option.or_eq_some_iff,zO h0 hf,zO h p];constructor
  ·rintro (⟨i,hi,a⟩|⟨hn,a⟩)
   ·by_cases c:i∈A
    ·refine .inr ⟨?_,.inl ⟨i,c,a⟩⟩;cases b:lk n (Ar ops en ⟨[],[]⟩ (l.filter fun i=>!AY i A)).objs with
     | none=>rfl
     | some u =>
      rcases (zO h0 hf n u).1 b with ⟨j,e,f⟩|⟨_,b⟩
      ·have:=h.name i (k i hi) j (hf j e) n _ _ a f;subst this;exact absurd c ((g i).1 e).2
      ·cases b
    ·exact .inl (.inl ⟨i,(g i).2 ⟨hi,c⟩,a⟩)
   ·refine .inr ⟨?_,.inr ⟨fun i hi=>hn i (m i hi),a⟩⟩;cases b:lk n (Ar ops en ⟨[],[]⟩ (l.filter fun i=>!AY i A)).objs with
    | none=>rfl
    | some u =>
     rcases (zO h0 hf n u).1 b with ⟨j,e,f⟩|⟨_,b⟩
     ·rw[hn j ((g j).1 e).1]at f;cases f
     ·cases b
  ·rintro ((⟨i,hi,a⟩|⟨_,a⟩)|⟨b,⟨i,hi,a⟩|⟨hn,a⟩⟩)
   ·grind
   ·cases a
   ·grind
   ·refine .inr ⟨fun i hi=>?_,a⟩;by_cases c:i∈A
    ·exact hn i c
    ·cases d:lk n (en i).obs with
     | none=>rfl
     | some u =>
      have:=(zO h0 hf n u).2 (.inl ⟨i,(g i).2 ⟨hi,c⟩,d⟩);rw[b]at this;cases this
end
def zP (tb:Tb) (ops:List Oper) (τ:St) (en:Nat→En) (pre:List Nat) (i:Nat) (o:Oper):Prop :=
 ∃vc:Prop,aq tb ⟨(Ar ops en τ pre).env,Bx false (GL o.op) τ.objs (ES ops en pre)⟩ (o.dst.getD 0) o.op=some (vc,(en i).v,(en i).obs)∧vc
theorem bM {ts:List Nat} {base:List (Nat×Obj)} {d:Nat} {obs:List (Nat×Obj)} {E:List (Nat×List (Nat×Obj))}:Bx false ts base (JR d obs E)=Bx false ts base ((d,obs) :: E):=by
 cases obs with
 | nil=>simp only[JR,Bx,ABo];split<;>rfl
 | cons x r=>rfl
theorem zQ {o:Op} {base:List (Nat×Obj)} {E:List (Nat×List (Nat×Obj))}:Lq false o base E=Bx false (GL o) base E:=by
 cases E<;>rfl
theorem XP {tb:Tb} {ops:List Oper} {τ:St} {en:Nat→En}:∀ {Q:List Nat} {ens:EN} {pre:List Nat} {E:List (Nat×List (Nat×Obj))} {vc:Prop},lD tb ops τ.objs Q E (Ar ops en τ pre).env=some (vc,ens)→vc →
  (∀ts,Bx false ts τ.objs E=Bx false ts τ.objs (ES ops en pre))→(∀(j i:Nat) (e:Nat×AV×List (Nat×Obj)),Q[j]?=some i→ens[j]?=some e→en i=⟨true,e.2.1,e.2.2⟩) →
  ens.length=Q.length∧∀(j i:Nat),Q[j]?=some i→∃(o:Oper) (e:Nat×AV×List (Nat×Obj)),ops[i]?=some o∧ens[j]?=some e∧Al ops i=some e.1∧zP tb ops τ en ((Q.take j).reverse++pre) i o
 | [],ens,pre,E,vc,h,q,g,m=>by grind [lD]
 | i :: Q,ens,pre,E,vc,h,q,g,m=>by
  simp only[lD]at h;cases b:ops[i]? with
  | none=>rw[b]at h;simp[Y5]at h
  | some o =>
   rw[b]at h;simp only[Y5]at h;cases a:o.dst with
   | none=>rw[a]at h;simp[Wf]at h
   | some d =>
    cases c:aq tb ⟨(Ar ops en τ pre).env,Lq false o.op τ.objs E⟩ (o.dst.getD 0) o.op with
    | none=>rw[c,a]at h;simp[Wf]at h
    | some r =>
     obtain⟨y,v,obs⟩:=r;rw[c,a]at h;simp only[Wf]at h;cases n:lD tb ops τ.objs Q (JR d obs E) ((d,v) :: (Ar ops en τ pre).env) with
     | none=>rw[n]at h;simp[Y6]at h
     | some p =>
      obtain⟨A,z⟩:=p;rw[n]at h;simp only[Y6]at h;cases h;have hi:=m 0 i (d,v,obs) rfl rfl;have l:Al ops i=some d:=by simp[Al,b,a]
      have w:(Ar ops en τ (i :: pre)).env=(d,v) :: (Ar ops en τ pre).env:=by simp[Ar,l,St.add,hi]
      have s:=XP (pre:=i :: pre) (by rw[w];exact n) q.2 (fun ts=>by
       rw[bM];simp only[ES,AA4,l,AB7,hi,Bx];rw[g ts];rfl) (fun j k e h1 f=>m (j+1) k e (by simpa using h1) (by simpa using f))
      refine⟨by simp[s.1],fun j k hk=>?_⟩;cases j with
      | zero =>
       simp only[ABg,AB9]at hk;subst hk;refine⟨o,(d,v,obs),b,rfl,l,y,?_,q.1⟩;rw[zQ,g]at c;simp only[AAX,List.reverse_nil,ABo];rw[hi];exact c
      | succ j =>
       obtain⟨x,e,h1,f,t,u⟩:=s.2 j k (by simpa using hk);refine⟨x,e,h1,by simpa using f,t,?_⟩;simpa[AAV] using u
theorem Q8:∀ {ens:EN} {objs:List (Nat×Obj)},Pl ens objs=true→∀(j:Nat) (e:Nat×AV×List (Nat×Obj)),ens[j]?=some e→∀n o,lk n e.2.2=some o→lk n objs=none∧∀(b:Nat) (a:Nat×AV×List (Nat×Obj)) (c:Obj),ens[b]?=some a→lk n a.2.2=some c→j=b
 | [],objs,_,j,e,h=>by simp at h
 | (d,v,obs) :: r,objs,h,j,e,f=>by
  simp only[Pl,As,IN,AAL]at h;have h0:∀n o,lk n obs=some o→lk n objs=none:=fun n o hn=>h.1 _ (F8 hn);have g:=Q8 h.2;grind [lk,A1]
end
section
open Go Go.RowKit
structure XQ (ops:Array Oper) (anc:List (List Nat)):Prop where
 lt:∀i o,ops[i]?=some o→∀e∈EK o,e<i
 cl:∀i o,ops[i]?=some o→∀j∈anc.getD i [],j∈EK o∨∃e∈EK o,j∈anc.getD e []
theorem A7z {ops:Array Oper} {anc:List (List Nat)} (h:A6z ops.toList anc=true):XQ ops anc:=by
 simp only[A6z,IN,oN]at h;have hi:∀i o,ops[i]?=some o→((EK o).all fun e=>decide (e<i))=true∧((anc.getD i []).all fun j=>AY j (EK o)||(EK o).any fun e=>AY j (anc.getD e []))=true:=by grind
 refine⟨fun i o a e b=>?_,fun i o a j c=>?_⟩
 ·grind
 ·grind [AZ]
section
variable {ops:Array Oper} {k:Nat} {anc:List (List Nat)} {Q:Exit→Act→World→Prop}
theorem SF (a:XQ ops anc) {listed:Array Bool} (g:∀i o,ops[i]?=some o→listed.getD i true=true→∀e∈EK o,listed.getD e false=true) :
  ∀i o,ops[i]?=some o→(∀e∈EK o,listed.getD e false=true)→∀j∈anc.getD i [],listed.getD j false=true:=by
 intro i;induction i using Nat.strongRecOn with
 | _ i l =>
  intro o b c j f;rcases a.cl i o b j f with h1|⟨e,d,h⟩
  ·exact c j h1
  ·have k:=a.lt i o b e d;grind
theorem Q9 {F:Fence} {P:Program} (g:XQ ops anc) (q:∀i o,ops[i]?=some o→k≤i→∀j,j<i→j∈anc.getD i []):∀ {rest:List Oper} {p:Nat} {listed:Array Bool} {a:Act} {w:World},ops.toList.drop p=rest→k≤p→p≤ops.size→listed.size=ops.size →
  (∀i,i<ops.size→(listed.getD i true=true↔i<p))→wpListIn F 0 P ops Q rest a w→wpAnyIn F 0 P .any ops Q rest.length listed a w
 | [],p,listed,a,w,l,C,D,m,f,c=>by
  have hp:p=ops.size:=by
   have:=AB6 List.length l;simp at this;omega
  refine⟨?_,c⟩;apply ACj.2;grind [Dr]
 | o :: r,p,listed,a,w,l,C,D,m,f,c=>by
  obtain⟨d,v⟩:=XH l;have d:ops[p]?=some o:=by simpa using d
  have E:p<ops.size:=(AAj.1 d).1;have x:∀e b,e<ops.size→listed.getD e b=listed.getD e true:=fun e b h=>by grind
  have L:∀i o,ops[i]?=some o→listed.getD i true=true→∀e∈EK o,listed.getD e false=true:=by
   intro i o u h1 e h;have H:i<ops.size:=(AAj.1 u).1;have J:=(f i H).1 h1;have K:=g.lt i o u e h;grind
  have G:∀i,i∈Region.ready .any ops listed→i=p:=by grind [Dr,SF]
  refine⟨fun M=>?_,fun i hi=>?_⟩
  ·exfalso;have:p∈Region.ready .any ops listed:=by
    rw[Dr];refine⟨?_,o,d,fun e h=>?_⟩
    ·cases hh:listed.getD p true with
     | false=>rfl
     | true=>have:=(f p E).1 hh;omega
    ·have:=g.lt p o d e h;rw[x e false (by omega)];exact(f e (by omega)).2 this
   grind
  ·have z:=G i hi;subst z;have t:∀(j:Nat),j<ops.size→((listed.setIfInBounds i true).getD j true=true↔j<i+1):=by
    intro j A;have B:j<listed.size:=by omega
    by_cases s:j=i
    ·subst s;simp[Array.getD,B]
    ·have h1:(listed.setIfInBounds i true).getD j true=listed.getD j true:=getD_set_ne true (fun e=>s e.symm);rw[h1,f j A];omega
   unfold wpOpIn;rw[d];simp only;unfold wpListIn at c;split
   ·rename_i n;rw[BY n]at c;exact Oper.wpIn_mono (fun I w' y=>Q9 g q v.symm (by omega) (by omega) (by simpa using m) t y) c
   ·rename_i n;rw[At n]at c;exact⟨c.1,Q9 g q v.symm (by omega) (by omega) (by simpa using m) t c.2⟩
end
structure QOk (ops:List Oper) (anc:List (List Nat)) (L Q:List Nat):Prop where
 nodup:Q.Nodup
 pos:∀(j i:Nat),Q[j]?=some i→i∉L∧∃o,ops[i]?=some o∧o.guard=none∧(∀e∈EK o,e∈L∨e∈Q.take j)∧(∀t∈GL o.op,∀k∈Q,Al ops k=some t→k∈anc.getD i []∧k∈Q.take j)
 slot:∀i∈Q,∀j∈Q,∀s,Al ops i=some s→Al ops j=some s→i=j
theorem bN {ops:List Oper} {anc:List (List Nat)} {L Q:List Nat}:∀ {r pre:List Nat},qB1 ops anc L Q r pre=true →
  (∀(j i:Nat),r[j]?=some i→i∉L∧i∉pre∧i∉r.take j∧∃o,ops[i]?=some o∧o.guard=none∧(∀e∈EK o,e∈L∨e∈pre∨e∈r.take j)∧(∀t∈GL o.op,∀k∈Q,Al ops k=some t→k∈anc.getD i []∧(k∈pre∨k∈r.take j)) ∧
   ∀k,k∈pre∨k∈r.take j→Al ops k≠Al ops i)
 | [],pre,h,j,i,a=>by simp at a
 | x :: r,pre,h,j,i,a=>by
  simp only[qB1,As]at h;obtain⟨h1,s⟩:=h;cases j with
  | zero =>
   simp only[ABg,AB9]at a;subst a;cases f:ops[x]? with
   | none=>rw[f]at h1;cases h1
   | some o =>
    rw[f]at h1;simp only[As,IN,AAi,AZ,ACr,bY,AAL]at h1;obtain⟨⟨⟨⟨⟨⟨A,q⟩,B⟩,C⟩,D⟩,c⟩,d⟩:=h1;refine⟨fun h=>(by rw[(AZ _ _).2 h]at c;cases c),fun h=>(by rw[(AZ _ _).2 h]at d;cases d),by simp,o,rfl,q,fun e v=>?_,fun t w k hk u=>?_,fun k hk=>?_⟩
    ·grind
    ·grind
    ·grind [Al]
  | succ j =>
   obtain⟨g,b,l,o,m,n,y,z,p⟩:=bN s j i (by simpa using a);simp only[By,not_or]at b;refine⟨g,b.2,by simp[AAV,b.1,l],o,m,n,fun e v=>?_,fun t w k hk u=>?_,fun k hk=>p k ?_⟩
   ·grind
   ·grind
   ·grind
theorem bO {α:Type} {l:List α} {i j:Nat} {x:α} (h:l[i]?=some x) (a:i<j):x∈l.take j:=by
 rw[AAw];exact⟨i,by rw[AAe,BY a];exact h⟩
theorem qOk {ops:List Oper} {anc:List (List Nat)} {L Q:List Nat} (h:qB1 ops anc L Q Q []=true):QOk ops anc L Q:=by
 have hs:=bN h;have m:∀ {i j x y:Nat},Q[i]?=some x→Q[j]?=some y→i<j→x≠y∧Al ops x≠Al ops y:=by grind [bO]
 refine⟨?_,fun j i c=>?_,fun i hi j c s h1 q=>?_⟩
 ·rw[List.nodup_iff_pairwise_ne,oR];intro i j hi c l e;exact(m (AT hi) (AT c) l).1 e
 ·obtain⟨d,_,_,o,f,g,n,p,_⟩:=hs j i c;refine⟨d,o,f,g,fun e v=>?_,fun t w k hk u=>?_⟩
  ·grind
  ·grind
 ·obtain⟨a,ha⟩:=AAw.1 hi;obtain⟨b,r⟩:=AAw.1 c;grind
theorem mB:∀ {Q:List Nat} {ens:EN},Q.Nodup→∀(j i:Nat) (e:Nat×AV×List (Nat×Obj)),Q[j]?=some i→ens[j]?=some e→OT Q ens i=⟨true,e.2.1,e.2.2⟩
 | [],ens,_,j,i,e,h,_=>by simp at h
 | x :: Q,[],_,j,i,e,_,h=>by simp at h
 | x :: Q,f :: ens,hn,j,i,e,h1,a=>by
  cases j with
  | zero =>
   simp only[ABg,AB9]at h1 a;subst h1;subst a;simp[OT,ACy,lk]
  | succ j =>
   have h1:Q[j]?=some i:=by simpa using h1
   have b:i≠x:=fun e=>by grind
   have:=mB (AAt.1 hn).2 j i e h1 (by simpa using a);simp only[OT,ACy,lk,At b]at this ⊢;exact this
structure Fr (tb:Tb) (ops:List Oper) (anc:List (List Nat)) (L Q:List Nat) (ens:EN) (τ:St):Prop where
 q:QOk ops anc L Q
 len:ens.length=Q.length
 own:Own ops (OT Q ens) τ Q
 at_:∀(j i:Nat),Q[j]?=some i→∃(o:Oper) (e:Nat×AV×List (Nat×Obj)),ops[i]?=some o∧ens[j]?=some e∧Al ops i=some e.1∧OT Q ens i=⟨true,e.2.1,e.2.2⟩∧zP tb ops τ (OT Q ens) (Q.take j).reverse i o
theorem zR {tb:Tb} {ops:List Oper} {anc:List (List Nat)} {L Q:List Nat} {ens:EN} {τ:St} (d:QOk ops anc L Q) (h:A6y tb ops Q ens τ):Fr tb ops anc L Q ens τ:=by
 obtain⟨vc,h1,p,q⟩:=h;have u:=fun(j i:Nat) (e:Nat×AV×List (Nat×Obj))=>mB (ens:=ens) d.nodup j i e;obtain⟨t,hf⟩:=XP (en:=OT Q ens) (pre:=[]) h1 p (fun ts=>rfl) u;have k:∀i∈Q,∃(j:Nat) (e:Nat×AV×List (Nat×Obj)),Q[j]?=some i∧ens[j]?=some e∧OT Q ens i=⟨true,e.2.1,e.2.2⟩:=by
  intro i hi;obtain⟨j,c⟩:=AAw.1 hi;grind
 refine⟨d,t,⟨d.slot,fun i hi n o hn=>?_,fun i hi j c n o x f g=>?_⟩,fun j i c=>?_⟩
 ·grind [Q8]
 ·obtain⟨a,e,ha,r,v⟩:=k i hi;obtain⟨b,m,l,s,w⟩:=k j c;rw[v]at f;rw[w]at g;have:=(Q8 q a e r n o f).2 b m x s g;subst this;rw[ha]at l;injection l
 ·grind
theorem uN {ops:List Oper} {en:Nat→En} {τ:St} {Q:List Nat} (h:Own ops en τ Q) {ts pre ex:List Nat} (hp:∀j∈pre,j∈Q) (e:∀j∈ex,j∈Q) (d:∀j∈pre,AY ((Al ops j).getD 0) ts=true→j∈ex) {n:Nat} {o:Obj} :
  lk n (Bx false ts τ.objs (ES ops en pre))=some o→lk n (Ar ops en τ ex).objs=some o:=by
 rw[zO h e];induction pre with
 | nil =>
  simp only[ES,ACi,Bx];intro hn;refine .inr ⟨fun j b=>?_,hn⟩;cases a:lk n (en j).obs with
  | none=>rfl
  | some f=>have:=h.new j (e j b) n f a;rw[this]at hn;cases hn
 | cons i r c =>
  simp only[ES,AA4,Bx];have c:=c (fun j b=>hp j (by simp[b])) (fun j b=>d j (by simp[b]));split
  ·rename_i g;intro hn;rw[A1]at hn;cases a:lk n (en i).obs with
   | some f =>
    rw[a]at hn;simp only[ACD]at hn;cases hn;exact .inl ⟨i,d i (by simp) (by simpa using g),a⟩
   | none =>
    rw[a]at hn;exact c (by simpa[ES] using hn)
  ·exact c
theorem NE {p:Nat×Obj}:∀ {l:List (Nat×Obj)},p∈l→∃b,lk p.1 l=some b
 | (c,d) :: r,h=>by
  simp only[lk];by_cases a:p.1=c
  ·simp_all
  ·rw[At a];rcases By.1 h with rfl|h
   ·exact absurd rfl a
   ·exact NE h
theorem mC {c:Cx} (y:c.Ok) {ops:List Oper} {anc:List (List Nat)} {L Q:List Nat} {ens:EN} {τ:St} (hF:Fr c.tb ops anc L Q ens τ) {ex:List Nat} (h:∀i∈ex,i∈Q) {j i:Nat} {o:Oper} (m:Q[j]?=some i) (s:ops[i]?=some o) (ai:i∉ex)
  (ab:∀k∈anc.getD i [],k∈Q→k∈ex) (I:∀d,o.dst=some d→d<c.nt) {a:Act} {w:World} {next:Act→World→Prop} {Qe:Exit→Act→World→Prop} (hs:c.sat (Ar ops (OT Q ens) τ ex) a w)
  (hn:∀A w',c.sat (Ar ops (OT Q ens) τ (i :: ex)) A w'→next A w'):o.wpIn (FR c.r) 0 c.P a w next Qe:=by
 obtain⟨l,e,D,ae,aa,am,vc,T,W⟩:=hF.at_ j i m;rw[s]at D;cases D;obtain⟨_,an,E,_,_,al⟩:=hF.q.pos j i m;rw[s]at E;cases E;have z:∀k∈(Q.take j).reverse,k∈Q:=fun k hk=>AAu (by simpa using hk);have S:Ops ⟨(Ar ops (OT Q ens) τ (Q.take j).reverse).env,Bx false (GL o.op) τ.objs (ES ops (OT Q ens) (Q.take j).reverse)⟩ (Ar ops (OT Q ens) τ ex) o.op.operands.toList:=by
  intro x X v b;cases x with
  | tmp t =>
   simp only[Aj]at b ⊢;have ak:t∈GL o.op:=ABB.2 ⟨_,X,rfl⟩;rw[zN hF.own z]at b;rw[zN hF.own h];rcases b with ⟨k,hk,af,ag⟩|⟨aj,b⟩
   ·grind
   ·grind
  | const ao=>exact b
  | global g=>exact b
  | func f=>exact b
 have R:Yz ⟨(Ar ops (OT Q ens) τ (Q.take j).reverse).env,Bx false (GL o.op) τ.objs (ES ops (OT Q ens) (Q.take j).reverse)⟩ (Ar ops (OT Q ens) τ ex):=by
  intro n l hn;refine uN hF.own z h (fun k hk ah=>?_) hn;obtain⟨Y,J⟩:=AAw.1 (z k hk);obtain⟨_,Z,_,_,ad,_⟩:=hF.at_ Y k J;grind [AZ]
 have U:=S3 R S T;have C:=AAB m;have B:Bd (OT Q ens i).obs (Ar ops (OT Q ens) τ ex)=true:=by
  simp only[Bd,IN,AAL];intro p hp;obtain⟨l,F⟩:=NE hp;cases N:lk p.1 (Ar ops (OT Q ens) τ ex).objs with
  | none=>rfl
  | some u =>
   rcases (zO hF.own h p.1 u).1 N with ⟨k,hk,M⟩|⟨_,hu⟩
   ·have:=hF.own.name i C k (h k hk) p.1 l u F M;grind
   ·rw[hF.own.new i C p.1 l F]at hu;cases hu
 obtain⟨ρ,G⟩:=hs;refine qA (A4f y G) U W B fun u ρ' w' V=>hn _ _ ?_;have H:Al ops i=o.dst:=by simp[Al,s]
 simp only[Ar,H];exact⟨ρ',G.add y.K y.O I B V⟩
end
section
open Go Go.RowKit
theorem MT:∀ {l l':List Nat},l.Nodup→(∀x∈l,x∈l')→l.length≤l'.length
 | [],_,_,_=>by simp
 | x :: l,l',hn,h=>by
  have b:=h x (by simp);have:=MT (l:=l) (l':=l'.erase x) (AAt.1 hn).2 (fun y a=>by
   have:y≠x:=fun e=>(AAt.1 hn).1 (e▸a);exact(ACo this).2 (h y (by simp[a])))
  grind
theorem JW (A:List Nat) (l:Nat) (a:List (List Nat×Nat)) (D:List Nat):qs ((A,l) :: a) D=A++qs a D:=by simp[qs]
structure A7A (ops:List Oper) (anc:List (List Nat)) (p0:Nat) (L:List Nat) (ps:List (List Nat×Nat)) (D:List Nat):Prop where
 all:∀i,i<p0→i∈L∨i∈qs ps D∨i∈ps.map (·.2)
 back:∀i,p0≤i→i<ops.length→∀j,j<i→j∈anc.getD i []
 L:∀i∈L,i<p0
 Q:∀i∈qs ps D,i<p0
 lo:∀p∈ps,p.2<p0
 p0:p0≤ops.length
theorem UJ {ops:List Oper} {anc:List (List Nat)} {p0:Nat} {L D:List Nat} (h:Sm ops anc p0 L [] D=true):QOk ops anc L D∧(∀i,i<p0→i∈L∨i∈D)∧L.length+D.length=p0∧p0≤ops.length∧(∀i∈L,i<p0)∧(∀i∈D,i<p0)∧(∀i,p0≤i→i<ops.length→∀j,j<i→j∈anc.getD i []):=by
 simp only[Sm,As,IN,oN,AAi,IS,AZ]at h;grind [qOk]
theorem KT {ops:List Oper} {anc:List (List Nat)} {p0:Nat} {L D A:List Nat} {l:Nat} {b:List (List Nat×Nat)} (h:Sm ops anc p0 L ((A,l) :: b) D=true):QOk ops anc L (A++qs b D)∧(∃o,ops[l]?=some o∧o.guard=none∧(∀e∈EK o,e∈L∨e∈A))∧(∀j∈A,j∈anc.getD l [])∧l∉L∧l∉A++qs b D∧(∀p∈b,l∈anc.getD p.2 [])∧Sm ops anc p0 (l :: (A++L)) b D=true:=by
 simp only[Sm,As,IN,AZ]at h;obtain⟨⟨⟨h1,a⟩,m⟩,n⟩:=h;cases f:ops[l]? with
 | none=>rw[f]at a;cases a
 | some o =>
  rw[f]at a;simp only[As,IN,AAi,AZ,bY,AAL]at a;obtain⟨⟨⟨⟨g,i⟩,k⟩,c⟩,d⟩:=a;exact⟨qOk h1,⟨o,rfl,g,i⟩,k,fun h=>(by rw[(AZ _ _).2 h]at c;cases c),fun h=>(by rw[(AZ _ _).2 h]at d;cases d),m,n⟩
theorem UK {ops:List Oper} {anc:List (List Nat)} {p0:Nat}:∀ {b:List (List Nat×Nat)} {L D:List Nat},Sm ops anc p0 L b D=true→A7A ops anc p0 L b D
 | [],L,D,h=>by
  obtain⟨_,h1,g,c,d,e,f⟩:=UJ h;refine⟨fun i hi=>?_,f,d,by simpa[qs] using e,by simp,c⟩;grind [qs]
 | (A,l) :: b,L,D,h=>by
  obtain⟨_,_,_,_,_,_,h1⟩:=KT h;have a:=UK h1;refine⟨fun i hi=>?_,a.back,fun i hi=>a.L i (by simp[hi]),fun i hi=>?_,fun p hp=>?_,a.p0⟩
  ·rcases a.all i hi with h|h|h
   ·grind [JW]
   ·grind [JW]
   ·grind
  ·rw[JW,Of]at hi;rcases hi with hi|hi
   ·exact a.L i (by simp[hi])
   ·exact a.Q i hi
  ·rcases By.1 hp with rfl|hp
   ·exact a.L l (by simp)
   ·exact a.lo p hp
theorem Y7 {ops:List Oper} {en:Nat→En} {τ:St}:∀ {Q:List Nat} {ens:EN} {pre:List Nat},ens.length=Q.length→(∀(j i:Nat) (e:Nat×AV×List (Nat×Obj)),Q[j]?=some i→ens[j]?=some e→Al ops i=some e.1∧en i=⟨true,e.2.1,e.2.2⟩) →
  L6 ens (Ar ops en τ pre)=Ar ops en τ (Q.reverse++pre)
 | [],[],pre,_,_=>rfl
 | [],_ :: _,_,h,_=>by simp at h
 | _ :: _,[],_,h,_=>by simp at h
 | i :: Q,(d,v,obs) :: ens,pre,f,h=>by
  obtain⟨h1,a⟩:=h 0 i (d,v,obs) rfl rfl;have:(⟨(d,v) :: (Ar ops en τ pre).env,obs++(Ar ops en τ pre).objs⟩:St)=Ar ops en τ (i :: pre):=by simp[Ar,h1,a,St.add]
  simp only[L6];rw[this,Y7 (by simpa using f) (fun j k e b c=>h (j+1) k e (by simpa using b) (by simpa using c))];simp
section
variable {c:Cx} {ops:Array Oper} {anc:List (List Nat)} {p0:Nat} {Kf:St→Prop} {Qe:Exit→Act→World→Prop}
theorem zS {a:List (List Nat×Nat)} {L D:List Nat} {ens:EN} {τ:St} (b:Sm ops.toList anc p0 L a D=true) (d:zL c ops.toList Kf a D ens τ):Fr c.tb ops.toList anc L (qs a D) ens τ:=by
 cases a with
 | nil =>
  have:qs [] D=D:=rfl;rw[this];exact zR (UJ b).1 d.1
 | cons p a =>
  obtain⟨A,l⟩:=p;rw[JW];exact zR (KT b).1 d.1
theorem XR (x:XQ ops anc) {a:List (List Nat×Nat)} {L D:List Nat} {ex:List Nat} {listed:Array Bool} (w:Sm ops.toList anc p0 L a D=true) (v:QOk ops.toList anc L (qs a D)) (u:∀i∈ex,i∈qs a D) (I:listed.size=ops.size)
  (H:∀i,i<ops.size→(listed.getD i true=true↔i∈L∨i∈ex)) (hf:¬(a=[]∧∀i∈qs a D,i∈ex)):∃i,i∈Region.ready .any ops listed:=by
 have C:∀e b,e<ops.size→listed.getD e b=listed.getD e true:=fun e b c=>by grind
 have mk:∀i o,ops[i]?=some o→i∉L→i∉ex→(∀e∈EK o,e∈L∨e∈ex)→i∈Region.ready .any ops listed:=by
  intro i o f h1 k E;have J:i<ops.size:=(AAj.1 f).1;rw[Dr];refine⟨?_,o,f,fun e c=>?_⟩
  ·grind
  ·have F:=x.lt i o f e c;grind
 by_cases t:∀i∈qs a D,i∈ex
 ·cases a with
  | nil=>exact absurd ⟨rfl,t⟩ hf
  | cons p a =>
   obtain⟨A,l⟩:=p;rw[JW]at t u;obtain⟨_,⟨o,f,_,y⟩,_,h1,k,_,_⟩:=KT w;refine⟨l,mk l o (by simpa using f) h1 (fun h=>k (u l h)) fun e c=>?_⟩;rcases y e c with h|h
   ·exact .inl h
   ·grind
 ·have key:∀(n j:Nat),j≤n→(∃i,(qs a D)[j]?=some i∧i∉ex)→∃i,i∈Region.ready .any ops listed:=by
   intro n;induction n with
   | zero =>
    rintro j s ⟨i,hi,d⟩;have:j=0:=by omega
    subst this;obtain⟨m,o,q,_,r,_⟩:=v.pos 0 i hi;refine⟨i,mk i o (by simpa using q) m d fun e c=>?_⟩;rcases r e c with h|h
    ·exact .inl h
    ·simp at h
   | succ n B =>
    rintro j s ⟨i,hi,d⟩;by_cases z:∃g,g<j∧∃i',(qs a D)[g]?=some i'∧i'∉ex
    ·obtain⟨g,h1,k⟩:=z;exact B g (by omega) k
    ·obtain⟨m,o,q,_,r,_⟩:=v.pos j i hi;refine⟨i,mk i o (by simpa using q) m d fun e c=>?_⟩;rcases r e c with h|h
     ·exact .inl h
     ·right;obtain⟨g,G⟩:=AAw.1 h;grind
  have:∃i,i∈qs a D∧i∉ex:=by grind
  obtain⟨i,hi,d⟩:=this;obtain⟨j,s⟩:=AAw.1 hi;exact key j j (Is _) ⟨i,s,d⟩
theorem XS (G:XQ ops anc) (hT:∀τ,Kf τ→∀a w,c.sat τ a w→wpListIn (FR c.r) 0 c.P ops Qe (ops.toList.drop p0) a w) {m:Nat} {L D:List Nat} {ens:EN} {τ:St} {ex:List Nat} {listed:Array Bool} {a:Act} {w:World}
  (C:Sm ops.toList anc p0 L [] D=true) (g:zL c ops.toList Kf [] D ens τ) (M:(L++ex).Nodup) (b:∀i∈ex,i∈D) (W:m+L.length+ex.length=ops.size) (J:listed.size=ops.size) (I:∀i,i<ops.size→(listed.getD i true=true↔i∈L∨i∈ex))
  (hs:c.sat (Ar ops.toList (OT D ens) τ ex) a w) (d:∀i∈D,i∈ex):wpAnyIn (FR c.r) 0 c.P .any ops Qe m listed a w:=by
 obtain⟨q,h1,S,y,T,U,z⟩:=UJ C;have hF:=zR q g.1;have V:ex.length=D.length:=AC1 (MT (AAN.1 M).2.1 b) (MT q.nodup d);have K:m=(ops.toList.drop p0).length:=by grind
 have E:L6 ens τ=Ar ops.toList (OT D ens) τ D.reverse:=by
  have:=Y7 (ops:=ops.toList) (en:=OT D ens) (τ:=τ) (pre:=[]) hF.len (fun j i e A B=>by
   obtain⟨o,R,_,f,u,x,_⟩:=hF.at_ j i A;rw[B]at f;cases f;exact⟨u,x⟩)
  simpa[Ar] using this
 have O:c.sat (L6 ens τ) a w:=by
  rw[E];have t:∀i∈D.reverse,i∈D:=fun i hi=>by simpa using hi
  have l:∀i,i∈ex↔i∈D.reverse:=fun i=>⟨fun h=>by simpa using b i h,fun h=>d i (by simpa using h)⟩;refine UB (fun s=>ACG fun v=>?_) (fun n=>ACG fun o=>?_) hs
  ·rw[zN hF.own t,zN hF.own b];simp only[l]
  ·rw[zO hF.own t,zO hF.own b];simp only[l]
 have:=Q9 (Q:=Qe) (F:=FR c.r) (P:=c.P) G (k:=p0) (fun i o N hi j H=>z i hi (by have:=(AAj.1 N).1;simpa using this) j H) (rest:=ops.toList.drop p0) (p:=p0) (listed:=listed) (a:=a) (w:=w) rfl (Is _) (by simpa using y) J
  (fun i hi=>by
   rw[I i hi];constructor
   ·grind
   ·intro h;rcases h1 i h with h|h
    ·exact .inl h
    ·exact .inr (d i h)) (hT _ g.2 a w O)
 rw[K];exact this
theorem A4m (ch:c.Ok) (bx:∀o∈ops.toList,Hg c.nt o=true) (ab:XQ ops anc) (hT:∀τ,Kf τ→∀a w,c.sat τ a w→wpListIn (FR c.r) 0 c.P ops Qe (ops.toList.drop p0) a w) :
  ∀(m:Nat) (f:List (List Nat×Nat)) (L D:List Nat) (ens:EN) (τ:St) (ex:List Nat) (listed:Array Bool) (a:Act) (w:World),Sm ops.toList anc p0 L f D=true→zL c ops.toList Kf f D ens τ→(L++ex).Nodup→(∀i∈ex,i∈qs f D) →
   m+L.length+ex.length=ops.size→listed.size=ops.size→(∀i,i<ops.size→(listed.getD i true=true↔i∈L∨i∈ex))→(∀i o,ops[i]?=some o→(i∈L∨i∈ex)→∀e∈EK o,e∈L∨e∈ex) →
   c.sat (Ar ops.toList (OT (qs f D) ens) τ ex) a w→wpAnyIn (FR c.r) 0 c.P .any ops Qe m listed a w:=by
 intro m;induction m with
 | zero =>
  intro f L D ens τ ex listed a w C T H B ax U O ae hs;have hF:=zS C T;by_cases hf:f=[]∧∀i∈qs f D,i∈ex
  ·obtain⟨rfl,aq⟩:=hf;exact XS ab hT C T H B ax U O hs aq
  ·exfalso;obtain⟨i,hi⟩:=XR ab C hF.q B U O hf;rw[Dr]at hi;obtain⟨h1,o,E,_⟩:=hi;have X:i<ops.size:=(AAj.1 E).1;have I:i∉L++ex:=fun h=>by grind
   have N:=UK C;have:=EX ops.size (i :: (L++ex)) (AAt.2 ⟨I,H⟩) (fun j d=>by
    have hp:=N.p0;simp only[ABM]at hp;rcases By.1 d with rfl|d
    ·exact X
    ·rcases Of.1 d with d|d
     ·have:=N.L j d;omega
     ·have:=N.Q j (B j d);omega)
   grind
 | succ m bj =>
  intro f L D ens τ ex listed a w C T H B ax U O ae hs;have hF:=zS C T;have N:=UK C;have bn:∀e b,e<ops.size→listed.getD e b=listed.getD e true:=fun e b F=>by grind
  by_cases hf:f=[]∧∀i∈qs f D,i∈ex
  ·obtain⟨rfl,aq⟩:=hf;exact XS ab hT C T H B ax U O hs aq
  ·refine⟨fun cv=>?_,fun i hi=>?_⟩
   ·obtain⟨i,hi⟩:=XR ab C hF.q B U O hf;grind
   ·rw[Dr]at hi;obtain⟨h1,o,E,cq⟩:=hi;have X:i<ops.size:=(AAj.1 E).1;have I:¬(i∈L∨i∈ex):=fun h=>by rw[(O i X).2 h]at h1;cases h1
    have az:∀e∈EK o,e∈L∨e∈ex:=fun e F=>by grind
    have ad:∀j∈anc.getD i [],j∈L∨j∈ex:=by
     have ct:∀i o,ops[i]?=some o→listed.getD i true=true→∀e∈EK o,listed.getD e false=true:=by
      intro i o E h1 e F;have X:i<ops.size:=(AAj.1 E).1;have Y:=ab.lt i o E e F;rw[bn e false (by omega)];exact(O e (by omega)).2 (ae i o E ((O i X).1 h1) e F)
     grind [SF]
    have ag:ops.toList[i]?=some o:=by simpa using E
    have cf:o∈ops.toList:=AAB ag;have bw:=Be (bx o cf);have bd:∀(S:List Nat),(∀j,j∈S↔j=i∨j∈L∨j∈ex)→∀j,j<ops.size→((listed.setIfInBounds i true).getD j true=true↔j∈S):=by
     intro S bu j d;have cd:j<listed.size:=by omega
     rw[bu];by_cases aw:j=i
     ·subst aw;simp[Array.getD,cd]
     ·have Y:(listed.setIfInBounds i true).getD j true=listed.getD j true:=getD_set_ne true (fun e=>aw e.symm);rw[Y,O j d];simp[aw]
    have bi:∀ {g:Option (Nat×Bool)},g=none→o.guard=g→Region.wanted o (yielded ops a.tmps)=true:=by
     intro g au e;simp[Region.wanted,e,au]
    by_cases af:i∈qs f D
    ·obtain⟨j,d⟩:=AAw.1 af;obtain⟨_,cy,be,au,_,_⟩:=hF.q.pos j i d;rw[ag]at be;cases be;unfold wpOpIn;rw[E];simp only;rw[BY (bi rfl au)];refine mC ch hF B d ag (fun h=>I (.inr h)) (fun k hk ce=>?_) bw hs fun ak w' ci=>?_
     ·rcases ad k hk with h|h
      ·obtain⟨u,R⟩:=AAw.1 ce;exact absurd h (hF.q.pos u k R).1
      ·exact h
     ·refine bj f L D ens τ (i :: ex) _ ak w' C T ?_ (fun k hk=>?_) (by simp only[OF];omega) (by simpa using U) (fun k hk=>?_) (fun i' W G av e F=>?_) ci
      ·rw[AAN]at H ⊢;refine⟨H.1,AAt.2 ⟨fun h=>I (.inr h),H.2.1⟩,fun x t y V=>?_⟩;rcases By.1 V with rfl|V
       ·exact fun e=>I (.inl (e▸t))
       ·exact H.2.2 x t y V
      ·rcases By.1 hk with rfl|hk
       ·exact af
       ·exact B k hk
      ·rw[bd (i :: (L++ex)) (fun j=>by simp) k hk];simp only[By,Of];constructor
       ·rintro (h|h|h)
        ·exact .inr (.inl h)
        ·exact .inl h
        ·exact .inr (.inr h)
       ·rintro (h|h|h)
        ·exact .inr (.inl h)
        ·exact .inl h
        ·exact .inr (.inr h)
      ·have:e∈L∨e∈ex:=by
        rcases av with h|h
        ·exact ae i' W G (.inl h) e F
        ·rcases By.1 h with rfl|h
         ·rw[E]at G;cases G;exact az e F
         ·exact ae i' W G (.inr h) e F
       rcases this with h|h
       ·exact .inl h
       ·exact .inr (by simp[h])
    · -- no operation of the front
     have cw:¬p0≤i:=by
      intro ca;have ay:=N.back i ca (by simpa using X);cases f with
      | nil =>
       refine hf ⟨rfl,fun j d=>?_⟩;have Y:=N.Q j d;rcases ad j (ay j (by omega)) with h|h
       ·obtain⟨u,R⟩:=AAw.1 d;exact absurd h (hF.q.pos u j R).1
       ·exact h
      | cons p f =>
       obtain⟨A,l⟩:=p;obtain⟨_,_,_,am,an,_,_⟩:=KT C;have Y:=N.lo (A,l) (by simp);simp only at Y;rcases ad l (ay l (by omega)) with h|h
       ·exact am h
       ·exact an (by rw[←JW A l];exact B l h)
     cases f with
     | nil =>
      rcases N.all i (by omega) with h|h|h
      ·exact absurd (.inl h) I
      ·exact absurd h af
      ·cases h
     | cons p f =>
      obtain⟨A,l⟩:=p;obtain⟨_,⟨ol,bf,cb,cu⟩,bq,am,an,bo,br⟩:=KT C;have cc:i=l:=by
       rcases N.all i (by omega) with h|h|h
       ·exact absurd (.inl h) I
       ·exact absurd h af
       ·simp only[AA4,By,GO]at h;rcases h with h|⟨p,hp,rfl⟩
        ·exact h
        ·rcases ad l (bo p hp) with h|h
         ·exact absurd h am
         ·exact absurd (B l h) (by rw[JW];exact an)
      subst cc;rw[ag]at bf;cases bf;rw[JW]at hF B hs af;obtain⟨cs,W,G,bs⟩:=T;rw[ag]at G;cases G;have Z:∀j∈A,j∈ex:=fun j d=>by
       rcases ad j (bq j d) with h|h
       ·obtain⟨u,R⟩:=AAw.1 (show j∈A++qs f D by simp[d]);exact absurd h (hF.q.pos u j R).1
       ·exact h
      have ao:A.Nodup∧(qs f D).Nodup∧∀x∈A,∀y∈qs f D,x≠y:=AAN.1 hF.q.nodup;have bv:L6 (ens.take A.length) τ=Ar ops.toList (OT (A++qs f D) ens) τ A.reverse:=by
       have:=Y7 (ops:=ops.toList) (en:=OT (A++qs f D) ens) (τ:=τ) (pre:=[]) (Q:=A) (ens:=ens.take A.length) (by have:=hF.len;simp only[Do]at this;simp only[OS];omega) (fun j i e M z=>by
        have bc:j<A.length:=(aT.1 M).1;obtain⟨o,cp,_,J,K,al,_⟩:=hF.at_ j i (by rw[AA5 bc];exact M);rw[AAe,BY bc,J]at z;cases z;exact⟨K,al⟩)
       simpa[Ar] using this
      have bh:=uM (A:=A.reverse) hF.own B (fun j d=>Z j (by simpa using d));rw[←bv]at bh;have aj:∀j,j∈ex.filter (fun j=>!AY j A.reverse)↔j∈ex∧j∉A:=fun j=>by
       rw[AAk];have:=AZ j A.reverse;constructor
       ·rintro⟨M,z⟩;exact⟨M,fun J=>by rw[this.2 (by simpa using J)]at z;cases z⟩
       ·rintro⟨M,z⟩;refine⟨M,?_⟩;cases cg:AY j A.reverse with
        | false=>rfl
        | true=>exact absurd (by simpa using this.1 cg) z
      have aa:∀j∈ex.filter (fun j=>!AY j A.reverse),j∈qs f D:=fun j d=>by
       have:=B j ((aj j).1 d).1;rcases Of.1 this with h|h
       ·exact absurd h ((aj j).1 d).2
       ·exact h
      have ar:∀j∈qs f D,∃(u:Nat) (e:Nat×AV×List (Nat×Obj)),(qs f D)[u]?=some j∧(ens.drop A.length)[u]?=some e∧Al ops.toList j=some e.1∧OT (A++qs f D) ens j=⟨true,e.2.1,e.2.2⟩:=by
       intro j d;obtain⟨u,R⟩:=AAw.1 d;obtain⟨o,e,_,J,K,al,_⟩:=hF.at_ (A.length+u) j (by rw[AA2 (by omega),Nat.add_sub_cancel_left];exact R);exact⟨u,e,R,by rw[AAz];exact J,K,al⟩
      have bg:Own ops.toList (OT (A++qs f D) ens) ⟨[],[]⟩ (A++qs f D):=⟨hF.own.slot,fun _ _ _ _ _=>rfl,hF.own.name⟩;have ba:∀j∈ex.filter (fun j=>!AY j A.reverse),j∈A++qs f D:=fun j d=>by simp[aa j d]
      unfold wpOpIn;rw[E];simp only;rw[BY (bi rfl cb)];refine bs _ _ bh ⟨fun s v ah=>?_,fun n W hn=>?_⟩ a w _ _ hs fun bm bt ak w' cz bb cj=>?_
      ·rcases (zN bg ba s v).1 ah with ⟨j,d,ai,rfl⟩|⟨_,ah⟩
       ·obtain⟨u,e,_,z,J,K⟩:=ar j (aa j d);rw[ai]at J;cases J;rw[K];exact⟨e.2.2,AAB z⟩
       ·cases ah
      ·rcases (zO bg ba n W).1 hn with ⟨j,d,ai⟩|⟨_,ah⟩
       ·obtain⟨u,e,_,z,J,K⟩:=ar j (aa j d);rw[K]at ai;exact⟨e,AAB z,F8 ai⟩
       ·cases ah
      ·have cr:ex.length=A.length+(ex.filter (fun j=>!AY j A.reverse)).length:=by
        have ck:∀l:List Nat,l.length=(l.filter (fun j=>AY j A.reverse)).length+(l.filter (fun j=>!AY j A.reverse)).length:=by
         intro l;induction l with
         | nil=>rfl
         | cons x r cx =>
          simp only[AAn,OF];cases AY x A.reverse<;>simp<;>omega
        rw[ck ex];have bz:=(AAN.1 H).2.1;have M:(ex.filter (fun j=>AY j A.reverse)).length≤A.length:=MT (bz.filter _) fun x t=>by
         have:=(AZ _ _).1 (AAk.1 t).2;simpa using this
        have z:A.length≤(ex.filter (fun j=>AY j A.reverse)).length:=MT ao.1 fun x t=>AAk.2 ⟨Z x t,(AZ _ _).2 (by simpa using t)⟩;omega
       have ap:∀x,(x∈i :: (A++L)∨x∈ex.filter (fun j=>!AY j A.reverse))↔x=i∨x∈L∨x∈ex:=by
        intro x;rw[aj];simp only[By,Of];constructor
        ·rintro ((h|h|h)|h)
         ·exact .inl h
         ·exact .inr (.inr (Z x h))
         ·exact .inr (.inl h)
         ·exact .inr (.inr h.1)
        ·rintro (h|h|h)
         ·exact .inl (.inl h)
         ·exact .inl (.inr (.inr h))
         ·by_cases t:x∈A
          ·exact .inl (.inr (.inl t))
          ·exact .inr ⟨h,t⟩
       refine bj f (i :: (A++L)) D (ens.drop A.length) bm (ex.filter fun j=>!AY j A.reverse) _ ak w' br bt ?_ aa (by simp only[OF,Do];omega) (by simpa using U) (fun k hk=>?_) (fun i' W G av e F=>?_) ?_
       ·obtain⟨n1,cn,bk⟩:=AAN.1 H;have bp:∀x∈A,x∉L:=fun x t cl=>bk x cl x (Z x t) rfl;rw[AAN];refine⟨AAt.2 ⟨fun h=>?_,AAN.2 ⟨ao.1,n1,fun x t y V e=>bp x t (e▸V)⟩⟩,cn.filter _,fun x t y V e=>?_⟩
        ·rcases Of.1 h with h|h
         ·exact I (.inr (Z i h))
         ·exact I (.inl h)
        ·subst e;obtain⟨bl,co⟩:=(aj x).1 V;rcases By.1 t with rfl|t
         ·exact I (.inr bl)
         ·rcases Of.1 t with t|t
          ·exact co t
          ·exact bk x t x bl rfl
       ·rw[ap k,bd (i :: (L++ex)) (fun j=>by simp) k hk];simp
       ·rw[ap];have:e∈L∨e∈ex:=by
         rcases (ap i').1 av with rfl|h
         ·rw[E]at G;cases G;exact az e F
         ·exact ae i' W G h e F
        exact .inr this
       ·have cm:∀j∈ex.filter (fun j=>!AY j A.reverse),OT (qs f D) (ens.drop A.length) j=OT (A++qs f D) ens j:=fun j d=>by
         obtain⟨u,e,M,z,_,K⟩:=ar j (aa j d);rw[K];exact mB ao.2.1 u j e M z
        have t:=zM (ops:=ops.toList) (en:=OT (qs f D) (ens.drop A.length)) (τ:=bm) (ex.filter fun j=>!AY j A.reverse);rw[LG (en:=OT (A++qs f D) ens) (σ0:=⟨[],[]⟩) cm]at t;exact UB (fun s=>by rw[t.env,bb.env]) (fun n=>by rw[t.objs,bb.objs]) cj
end
section
variable {c:Cx} {R:Exit→Act→World→Prop} {k:List Dp} {σ:St}
theorem B3 (j:c.P.follows .mixedOrders=true) (g:c.Ok) {id:Nat} {l:List Oper} (p0:Nat) (d:List (List Nat×Nat)) (D:List Nat) (b:(A6z l (zB l)&&Sm l (zB l) p0 [] d D)=true) {ens:EN}
  (h:zL c l (fun τ=>Hh c R k l.toArray (l.drop p0) τ) d D ens σ):Ev c R (.run (.region id l.toArray true)) k σ:=by
 intro h1 e a w hs;simp only[JP,Bv,IN]at h1;simp only[As]at b;refine wpIn_region_any j ?_;have hk:∀τ,Hh c R k l.toArray (l.drop p0) τ→∀a w,c.sat τ a w→wpListIn (FR c.r) 0 c.P l.toArray (Tt c R k) (l.toArray.toList.drop p0) a w:=fun τ f a w hs=>f (fun o m=>h1 o (by simpa using ABt m)) e a w hs;exact A4m (ops:=l.toArray) (anc:=zB l) g (by simpa using h1) (A7z (by simpa using b.1)) hk l.toArray.size d [] D ens σ [] (Array.replicate l.toArray.size false) a { w with drawn:=w.drawn+1 } (by simpa using b.2) (by simpa using h) (by simp) (by simp) (by simp) (by simp) (fun i hi=>by simp at hi;simp[Array.getD,hi]) (fun i o _ hi=>by simp at hi) (bH hs)
end
end
section
open Go Go.RowKit
section
variable {n:Nat} {ns:List Nat}
theorem Gf {m:Nat} (hn:n∈ns) (h:¬AY m ns=true):¬m=n:=fun e=>h ((AZ _ _).2 (e▸hn))
mutual
theorem UL (hn:n∈ns) {e:Ty} {xs:List e.den}:∀(x:AV),x.fgt ns=x→x.frz n e xs=x
 | .sr m e' lo hi,h=>by grind [AV.fgt,AV.frz,Gf]
 | .ep m e' i path off,h=>by grind [AV.fgt,AV.frz,Gf]
 | .nin m e' i len,h=>by grind [AV.fgt,AV.frz,Gf]
 | .ag l,h=>by
  simp only[AV.fgt,AV.ag.injEq]at h
  simp only[AV.frz,frzs_of_fgt hn l h]
 | .tup l,h=>by
  simp only[AV.fgt,AV.tup.injEq]at h
  simp only[AV.frz,frzs_of_fgt hn l h]
 | .p _ _,_=>rfl
 | .pc _ _,_=>rfl
 | .raw _,_=>rfl
 | .ip _ _,_=>rfl
 | .bp _ _ _,_=>rfl
 | .fn _,_=>rfl
 | .clo _ _,_=>rfl
 | .mp _,_=>rfl
 | .yl _,_=>rfl
 | .top,_=>rfl
theorem frzs_of_fgt (hn:n∈ns) {e:Ty} {xs:List e.den}:∀(l:List AV),AV.fgts ns l=l→AV.frzs n e xs l=l
 | [],_=>rfl
 | x :: r,h=>by
  simp only[AV.fgts,ABw]at h
  simp only[AV.frzs,UL hn x h.1,frzs_of_fgt hn r h.2]
end
mutual
theorem UM (hn:n∈ns):∀(x:AV),x.fgt ns=x→x.drp n=x
 | .sr m e' lo hi,h=>by grind [AV.fgt,AV.drp,Gf]
 | .ep m e' i path off,h=>by grind [AV.fgt,AV.drp,Gf]
 | .nin m e' i len,h=>by grind [AV.fgt,AV.drp,Gf]
 | .ag l,h=>by
  simp only[AV.fgt,AV.ag.injEq]at h
  simp only[AV.drp,drps_of_fgt hn l h]
 | .tup l,h=>by
  simp only[AV.fgt,AV.tup.injEq]at h
  simp only[AV.drp,drps_of_fgt hn l h]
 | .p _ _,_=>rfl
 | .pc _ _,_=>rfl
 | .raw _,_=>rfl
 | .ip _ _,_=>rfl
 | .bp _ _ _,_=>rfl
 | .fn _,_=>rfl
 | .clo _ _,_=>rfl
 | .mp _,_=>rfl
 | .yl _,_=>rfl
 | .top,_=>rfl
theorem drps_of_fgt (hn:n∈ns):∀(l:List AV),AV.fgts ns l=l→AV.drps n l=l
 | [],_=>rfl
 | x :: r,h=>by
  simp only[AV.fgts,ABw]at h
  simp only[AV.drps,UM hn x h.1,drps_of_fgt hn r h.2]
end
end
section
variable {n:Nat} {ns tl:List Nat}
theorem EL (a:∀n,n∈tl→n∈ns) {m:Nat} (h:¬AY m ns=true):¬AY m tl=true:=fun h1=>h ((AZ _ _).2 (a _ ((AZ _ _).1 h1)))
theorem qR (a:∀n,n∈tl→n∈ns) {l:List Nat} (h:¬(l.any fun m=>AY m ns)=true):¬(l.any fun m=>AY m tl)=true:=fun h1=>by grind [AZ]
mutual
theorem UN (htl:∀n,n∈tl→n∈ns):∀(x:AV),x.fgt ns=x→x.fgt tl=x
 | .sr m e' lo hi,h=>by grind [AV.fgt,EL]
 | .ep m e' i path off,h=>by grind [AV.fgt,EL]
 | .nin m e' i len,h=>by grind [AV.fgt,EL]
 | .bp m path off,h=>by grind [AV.fgt,EL]
 | .mp m,h=>by grind [AV.fgt,EL]
 | .yl m,h=>by grind [AV.fgt,EL]
 | .clo f cs,h=>by
  simp only[AV.fgt]at h
  split at h
  ·cases h
  ·rename_i hm;simp only[AV.fgt,At (qR htl hm)]
 | .ag l,h=>by
  simp only[AV.fgt,AV.ag.injEq]at h
  simp only[AV.fgt,fgts_of_fgt htl l h]
 | .tup l,h=>by
  simp only[AV.fgt,AV.tup.injEq]at h
  simp only[AV.fgt,fgts_of_fgt htl l h]
 | .p _ _,_=>rfl
 | .pc _ _,_=>rfl
 | .raw _,_=>rfl
 | .ip _ _,_=>rfl
 | .fn _,_=>rfl
 | .top,_=>rfl
theorem fgts_of_fgt (htl:∀n,n∈tl→n∈ns):∀(l:List AV),AV.fgts ns l=l→AV.fgts tl l=l
 | [],_=>rfl
 | x :: r,h=>by
  simp only[AV.fgts,ABw]at h
  simp only[AV.fgts,UN htl x h.1,fgts_of_fgt htl r h.2]
end
mutual
theorem UO (hn:n∈ns) (htl:∀n,n∈tl→n∈ns):∀(x:AV),x.fgt ns=x→x.trn n tl=x
 | .sr m e' lo hi,h=>by grind [AV.fgt,AV.trn,EL]
 | .ep m e' i path off,h=>by grind [AV.fgt,AV.trn,EL]
 | .nin m e' i len,h=>by grind [AV.fgt,AV.trn,Gf,EL]
 | .bp m path off,h=>by grind [AV.fgt,AV.trn,EL]
 | .mp m,h=>by grind [AV.fgt,AV.trn,EL]
 | .yl m,h=>by grind [AV.fgt,AV.trn,EL]
 | .clo f cs,h=>by
  simp only[AV.fgt]at h
  split at h
  ·cases h
  ·rename_i hm;simp only[AV.trn,At (qR htl hm)]
 | .ag l,h=>by
  simp only[AV.fgt,AV.ag.injEq]at h
  simp only[AV.trn,trns_of_fgt hn htl l h]
 | .tup l,h=>by
  simp only[AV.fgt,AV.tup.injEq]at h
  simp only[AV.trn,trns_of_fgt hn htl l h]
 | .p _ _,_=>rfl
 | .pc _ _,_=>rfl
 | .raw _,_=>rfl
 | .ip _ _,_=>rfl
 | .fn _,_=>rfl
 | .top,_=>rfl
theorem trns_of_fgt (hn:n∈ns) (htl:∀n,n∈tl→n∈ns):∀(l:List AV),AV.fgts ns l=l→AV.trns n tl l=l
 | [],_=>rfl
 | x :: r,h=>by
  simp only[AV.fgts,ABw]at h
  simp only[AV.trns,UO hn htl x h.1,trns_of_fgt hn htl r h.2]
end
end
def LJ:AV→Bool
 | .raw _=>true
 | .p _ _=>true
 | _=>false
def LK:Obj→Bool
 | .arr _ _ _=>true
 | .box _ _ fs=>fs.all LJ
 | _=>false
theorem UP {n:Nat} {e:Ty} {xs:List e.den}:∀fs:List AV,fs.all LJ=true→AV.frzs n e xs fs=fs
 | [],_=>rfl
 | x :: r,h=>by
  rw[ABh,As]at h;simp only[AV.frzs,UP r h.2];cases x<;>first|rfl|(have:=h.1;simp[LJ]at this)
theorem UQ {n:Nat}:∀fs:List AV,fs.all LJ=true→AV.drps n fs=fs
 | [],_=>rfl
 | x :: r,h=>by
  rw[ABh,As]at h;simp only[AV.drps,UQ r h.2];cases x<;>first|rfl|(have:=h.1;simp[LJ]at this)
theorem uP {n:Nat} {e:Ty} {xs:List e.den} {o:Obj} (h:LK o=true):Obj.frz n e xs o=o:=by
 cases o with
 | box et st fs=>simp only[Obj.frz,UP fs h]
 | arr et a ys=>rfl
 | _=>cases h
theorem uQ {n:Nat} {o:Obj} (h:LK o=true):Obj.drp n o=o:=by
 cases o with
 | box et st fs=>simp only[Obj.drp,UQ fs h]
 | arr et a ys=>rfl
 | _=>cases h
theorem UR {hs:List Nat}:∀fs:List AV,fs.all LJ=true→AV.fgts hs fs=fs
 | [],_=>rfl
 | x :: r,h=>by
  rw[ABh,As]at h;simp only[AV.fgts,UR r h.2];cases x<;>first|rfl|(have:=h.1;simp[LJ]at this)
theorem RA {hs:List Nat} {o:Obj} (h:LK o=true):Obj.fgt hs o=o:=by
 cases o with
 | box et st fs=>simp only[Obj.fgt,UR fs h]
 | arr et a ys=>rfl
 | _=>cases h
theorem US {n:Nat} {hs:List Nat}:∀fs:List AV,fs.all LJ=true→AV.trns n hs fs=fs
 | [],_=>rfl
 | x :: r,h=>by
  rw[ABh,As]at h;simp only[AV.trns,US r h.2];cases x<;>first|rfl|(have:=h.1;simp[LJ]at this)
theorem XT {n:Nat} {hs:List Nat} {o:Obj} (h:LK o=true):Obj.trn n hs o=o:=by
 cases o with
 | box et st fs=>simp only[Obj.trn,US fs h]
 | arr et a ys=>rfl
 | _=>cases h
structure IZ (X σ:St) (ns:List Nat):Prop where
 env:∀s v,lk s X.env=some v→v.fgt ns=v
 arr:∀n o,lk n X.objs=some o→LK o=true
 new:∀n o,lk n X.objs=some o→lk n σ.objs=none
 nm:∀n o,lk n X.objs=some o→n∉ns
section
variable {σ σ' X:St} {ns:List Nat}
theorem Na.lkn (b:Na σ σ' X) (ha:IZ X σ ns) {n:Nat} (hn:n∈ns):lk n σ'.objs=lk n σ.objs:=by
 rw[b.objs];cases a:lk n X.objs with
 | none=>rfl
 | some o=>exact absurd hn (ha.nm n o a)
theorem Na.obs (b:Na σ σ' X) (ha:IZ X σ ns):Yz σ σ':=by
 intro n o hn;rw[b.objs];cases a:lk n X.objs with
 | none=>exact hn
 | some c=>rw[ha.new n c a]at hn;cases hn
theorem A4n {n:Nat} (c:Na σ σ' X) (ha:IZ X σ ns) (hn:n∈ns):Na (frz n σ) (frz n σ') X∧IZ X (frz n σ) ns:=by
 unfold frz;split
 ·exact⟨c,ha⟩
 have core:∀(e:Ty) (xs:List e.den),Na ⟨DJ n e xs σ.env,A7 n e xs (del n σ.objs)⟩ ⟨DJ n e xs σ'.env,A7 n e xs (del n σ'.objs)⟩ X∧IZ X ⟨DJ n e xs σ.env,A7 n e xs (del n σ.objs)⟩ ns:=by
  intro e xs;refine⟨⟨fun s=>?_,fun m=>?_⟩,ha.env,ha.arr,fun m o b=>?_,ha.nm⟩
  ·simp only[M3,c.env];cases a:lk s X.env with
   | none=>rfl
   | some v=>simp[UL hn v (ha.env s v a)]
  ·simp only[Cc,Qu];by_cases b:m=n
   ·subst b;cases a:lk m X.objs with
    | none=>simp
    | some o=>exact absurd hn (ha.nm m o a)
   ·simp only[At b,c.objs];cases a:lk m X.objs with
    | none=>rfl
    | some o=>exact AB6 some (uP (ha.arr m o a))
  ·simp only[Cc,Qu];split
   ·rfl
   ·rw[ha.new m o b];rfl
 rw[c.lkn ha hn];unfold aD;grind
theorem UT:∀ {l:List Nat} {σ σ':St},Na σ σ' X→IZ X σ ns→(∀n∈l,n∈ns)→Na (Ck l σ) (Ck l σ') X∧IZ X (Ck l σ) ns
 | [],_,_,a,ha,_=>⟨a,ha⟩
 | n :: l,σ,σ',a,ha,h=>by
  obtain⟨h1,b⟩:=A4n a ha (h n (by simp));have:=UT (l:=l) h1 b fun m c=>h m (by simp[c]);exact this
def mD (σ σ':St) (xs:List Operand):Prop:=∀x∈xs,Aj σ' x=Aj σ x
theorem Pm (b:Na σ σ' X) {xs:List Operand} (h:∀t∈xs.filterMap MN,lk t X.env=none):mD σ σ' xs:=by
 intro x a;cases x with
 | tmp t =>
  simp only[Aj,b.env];rw[h t (ABB.2 ⟨_,a,rfl⟩)];rfl
 | const v=>rfl
 | global g=>rfl
 | func f=>rfl
theorem MU:∀ {l:List (Nat×Operand)},mD σ σ' (l.map (·.2))→Ct σ' l=Ct σ l
 | [],_=>rfl
 | (i,x) :: r,h=>by
  simp only[Ct];rw[h x (by simp),MU (fun y a=>h y (by simp only[AA4,By];exact .inr a))]
theorem Pn:∀ {l:List (Nat×Operand)},mD σ σ' (l.map (·.2))→Et σ' l=Et σ l
 | [],_=>rfl
 | (i,x) :: r,h=>by
  simp only[Et];rw[h x (by simp),Pn (fun y a=>h y (by simp only[AA4,By];exact .inr a))]
theorem mE (b:Na σ σ' X) (ha:IZ X σ ns) (n:Nat):Ci (lk n σ'.objs)=Ci (lk n σ.objs):=by
 rw[b.objs];cases a:lk n X.objs with
 | none=>rfl
 | some o =>
  rw[ha.new n o a];have:=ha.arr n o a;cases o<;>first|rfl|cases this
theorem bP (a:Na σ σ' X) (ha:IZ X σ ns) {op:Op} (h:mD σ σ' op.operands.toList):CG σ' op=CG σ op:=by
 cases op<;>simp only[CG];case buildSlice t n parts =>
  exact MU (fun x a=>h x (by simpa[Op.operands] using a))
 case build t parts =>
  exact Pn (fun x a=>h x (by simpa[Op.operands] using a))
 case store t x y =>
  rw[h x (by simp[Op.operands]),h y (by simp[Op.operands])];unfold B0;split
  ·rw[mE a ha]
  ·rfl
 case mapUpdate t m x y =>
  rw[h m (by simp[Op.operands]),h x (by simp[Op.operands]),h y (by simp[Op.operands])]
def JY (σ:St):Option AV→Option AV→List Nat
 | some (.sr n _ _ _),some (.sr m _ _ _)=>if Ci (lk n σ.objs)=true then [n,m] else [n]
 | some (.sr n _ _ _),_=>[n]
 | some (.nin n _ _ _),_=>[n]
 | some (.raw _),some (.sr m _ _ _)=>if Ci (lk m σ.objs)=true then [m] else []
 | _,_=>[]
def Y8 (σ:St):Option AV→Option AV→List Nat
 | some (.ep n _ _ _ _),some (.sr m _ _ _)=>if Ci (lk n σ.objs)=true then [n,m] else []
 | _,_=>[]
def Wg (σ:St):Op→List Nat
 | .call c=>match c.callee,c.args.toList with
  | .builtin .append,[x,y]=>JY σ (Aj σ x) (Aj σ y)
  | _,_=>[]
 | .store _ x y=>Y8 σ (Aj σ x) (Aj σ y)
 | _=>[]
theorem zT {n:Nat} {e:Ty} {lo hi:Nat} {v:AV}:n∈JY σ (some (.sr n e lo hi)) (some v):=by
 cases v<;>first|(simp[JY];done)|(simp only[JY];split<;>simp)
theorem qS (f:Na σ σ' X) (ha:IZ X σ ns) {tl:List Nat} (e:∀n,n∈tl→n∈ns) {d b:Nat} {v:AV} {g:Obj} (i:lk d X.env=none) (j:lk b X.objs=none) :
  Na ⟨(d,v) :: BV tl σ.env,(b,g) :: Af tl tl σ.objs⟩ ⟨(d,v) :: BV tl σ'.env,(b,g) :: Af tl tl σ'.objs⟩ X:=by
 refine⟨fun s=>?_,fun m=>?_⟩
 ·simp only[lk];by_cases hs:s=d
  ·grind
  ·rw[At hs,At hs,DQ,DQ,f.env];cases a:lk s X.env with
   | none=>rfl
   | some w=>simp[UN e w (ha.env s w a)]
 ·simp only[lk];by_cases c:m=b
  ·grind
  ·rw[At c,At c,BS,BS,f.objs];cases a:lk m X.objs with
   | none=>rfl
   | some w =>
    rw[At fun h=>ha.nm m w a (e _ ((AZ _ _).1 h))];exact AB6 some (RA (ha.arr m w a))
theorem qT (c:Na σ σ' X) (ha:IZ X σ ns) {n:Nat} {tl:List Nat} (hn:n∈ns) (b:∀n,n∈tl→n∈ns) {en:List (Nat×AV)} {new:List (Nat×Obj)} (d:∀s v,lk s en=some v→lk s X.env=none) (f:∀m o,lk m new=some o→lk m X.objs=none) :
  Na ⟨en++Dy n tl σ.env,new++CZ n tl σ.objs⟩ ⟨en++Dy n tl σ'.env,new++CZ n tl σ'.objs⟩ X:=by
 refine⟨fun s=>?_,fun m=>?_⟩
 ·simp only[A1];cases hs:lk s en with
  | some v=>rw[d s v hs];rfl
  | none =>
   rw[Fl,Fl,c.env];cases a:lk s X.env with
   | none=>rfl
   | some w=>simp[UO hn b w (ha.env s w a)]
 ·simp only[A1];cases e:lk m new with
  | some o=>rw[f m o e];rfl
  | none =>
   rw[Dd,Dd,c.objs];cases a:lk m X.objs with
   | none=>rfl
   | some w =>
    rw[At fun h=>ha.nm m w a (by
     rcases By.1 ((AZ _ _).1 h) with rfl|h
     ·exact hn
     ·exact b _ h)]
    exact AB6 some (XT (ha.arr m w a))
theorem Y9 {n:Nat} {o d:Obj} (c:Na σ σ' X) (ha:IZ X σ ns) (hn:lk n σ.objs=some o) {env b:List (Nat×AV)} (f:∀s,lk s b=(lk s X.env).or (lk s env)):Na ⟨env,upd n d σ.objs⟩ ⟨b,upd n d σ'.objs⟩ X:=by
 refine⟨f,fun m=>?_⟩;simp only[Ga];have e:lk n X.objs=none:=by
  cases h:lk n X.objs with
  | none=>rfl
  | some u=>rw[ha.new n u h]at hn;cases hn
 by_cases a:m=n
 ·subst a;rw[BY rfl,BY rfl,c.objs,e];rfl
 ·rw[At a,At a,c.objs]
theorem Na.some_lk (a:Na σ σ' X) (ha:IZ X σ ns) {n:Nat} {o:Obj} (h:lk n σ.objs=some o):lk n σ'.objs=some o:=a.obs ha n o h
theorem uR {tb:Tb} {op:Op} {d:Option Nat} {vc:Prop} {τ:St} (a:Na σ σ' X) (ha:IZ X σ ns) (K:mD σ σ' op.operands.toList) (A:∀n∈Wg σ op,n∈ns) (U:∀t,d=some t→lk t X.env=none) (T:∀n,(∃u,lk n τ.objs=some u)→lk n X.objs=none) (h:FK tb σ d op=some (vc,τ)) :
  (∃ak,FK tb σ' d op=some (vc,ak)∧Na τ ak X)∧∀k,aq tb σ' k op=none:=by
 have R:=a.obs ha;cases op<;>simp only[FK]at h<;>try(cases h;done)
 case store t x y =>
  refine⟨?_,fun _=>rfl⟩;simp only[FK];have A:∀n∈Y8 σ (Aj σ x) (Aj σ y),n∈ns:=A;rw[K x (by simp[Op.operands]),K y (by simp[Op.operands])];cases d with
  | some d=>simp[Dl]at h
  | none =>
   simp only[Dl]at h ⊢;generalize Aj σ x=al at h A ⊢;generalize Aj σ y=am at h A ⊢;unfold HL at h ⊢;split at h
   ·rename_i ti n aw off v Z;try simp only
    unfold DR at h ⊢;split at h
    ·rename_i et st fs f;rw[a.some_lk ha f];try simp only
     unfold Er at h ⊢;split at h
     ·rename_i u az h1 G;try rw[h1,G]
      try simp only
      split at h
      ·rename_i B;rw[BY B];cases h;exact⟨_,rfl,Y9 a ha f a.env⟩
      ·cases h
     ·cases h
    ·cases h
   ·rename_i ti n e i aw off v Z;try simp only
    unfold DS at h ⊢;split at h
    ·rename_i et ae xs f;rw[a.some_lk ha f];try simp only
     cases aa:Kv false σ ti.ty v with
     | none=>rw[aa]at h;unfold EH at h;split at h<;>first|(cases h;done)|(rename_i G;cases G)
     | some w =>
      rw[FM R aa];rw[aa]at h;unfold EH at h ⊢;split at h
      ·rename_i ys w' h1 G;cases G;try rw[h1]
       try simp only
       unfold FJ at h ⊢;split at h
       ·rename_i z P;try rw[P]
        try simp only
        split at h
        ·rename_i B;rw[BY B];cases h;exact⟨_,rfl,Y9 a ha f a.env⟩
        ·cases h
       ·cases h
      ·cases h
    ·rename_i et ad k F xs j f;rw[a.some_lk ha f];try simp only
     split at h
     ·rename_i m E hi;try simp only
      split at h
      ·rename_i B;rw[BY B];unfold K0 at h ⊢;split at h
       ·rename_i J;rw[BY J];unfold Ky at h ⊢;split at h
        ·rename_i bb af ys D;rw[a.some_lk ha D];try simp only
         split at h
         ·rename_i ap;rw[BY ap];unfold Jr at h ⊢;split at h
          ·rename_i aj ab;try rw[ab]
           try simp only
           cases h;have ai:∀q,q∈[n,m]→q∈ns:=fun q c=>A q (by simp only[Y8,f,Ci,AAQ];exact c);refine⟨_,rfl,qT (en:=[]) (new:=[(n,_)]) a ha (ai n (by simp)) (fun q c=>ai q (by simp at c;simp[c])) (fun s v h=>by cases h) (fun q o c=>T q ⟨o,?_⟩)⟩;simp only[lk]at c ⊢;split at c
           ·rename_i F;cases c;rw[BY F]
           ·cases c
          ·cases h
         ·cases h
        ·cases h
       ·cases h
      ·cases h
     ·cases h
    ·cases h
   ·cases h
 case mapUpdate t m x y =>
  refine⟨?_,fun _=>rfl⟩;simp only[FK];rw[K m (by simp[Op.operands]),K x (by simp[Op.operands]),K y (by simp[Op.operands])];cases d with
  | some d=>simp[Dl]at h
  | none =>
   simp only[Dl]at h ⊢;generalize Aj σ m=ax at h ⊢;generalize Aj σ x=al at h ⊢;generalize Aj σ y=am at h ⊢;unfold Jt at h ⊢;split at h
   ·try simp only
    unfold FT at h ⊢;split at h
    ·rename_i bf bh l f;rw[a.some_lk ha f];try simp only
     split at h
     ·rename_i B;rw[BY B];unfold F6 at h ⊢;split at h
      ·rename_i bd v1 h1 G;rw[FM R h1,FM R G];try simp only
       split at h
       ·rename_i J;rw[BY J];cases h;exact⟨_,rfl,Y9 a ha f a.env⟩
       ·cases h
      ·cases h
     ·cases h
    ·cases h
   ·cases h
 case call cl =>
  obtain⟨callee,⟨args⟩,⟨argTypes⟩⟩:=cl;cases callee with
  | value g=>simp[DF]at h
  | invoke r m=>simp[DF]at h
  | builtin b =>
   simp only[DF]at h;unfold DT at h;split at h
   ·rename_i x y t u;have O:Aj σ' x=Aj σ x:=K x (by simp[Op.operands,Call.operands]);have S:Aj σ' y=Aj σ y:=K y (by simp[Op.operands,Call.operands]);have A:∀n∈JY σ (Aj σ x) (Aj σ y),n∈ns:=fun n hn=>A n (by simpa[Wg] using hn);unfold DE at h;split at h
    ·rename_i n e hi v C I;rw[C,I]at A;refine⟨?_,fun k=>by simp[aq,Cj,Cs,Ca,O,C]⟩;simp only[FK,DF,DT,DE,O,C,S,I];split at h
     ·rename_i p ;have L:=U p rfl;have M:n∈ns:=A n zT;try simp only
      split at h
      ·rename_i N;rw[BY N];unfold EI at h ⊢;split at h
       ·rename_i af av el b2 Y;try rw[Y]
        try simp only
        split at h
        ·rename_i W;rw[BY W];unfold CV at h ⊢;split at h
         ·rename_i ti et ae xs h1 f;try rw[h1]
          try rw[a.some_lk ha f]
          try simp only
          split at h
          ·rename_i ar;rw[BY ar];unfold Es at h ⊢;split at h
           ·rename_i aj ys G P;try rw[G]
            rw[MM R P];try simp only
            cases h;refine⟨_,rfl,⟨fun s=>?_,fun m=>?_⟩⟩
            ·simp only[lk];by_cases hs:s=p
             ·subst hs;rw[BY rfl,BY rfl,L];rfl
             ·rw[At hs,At hs,KO,KO,a.env];cases H:lk s X.env with
              | none=>rfl
              | some w=>simp[UM M w (ha.env s w H)]
            ·simp only[Ga,Bo];have ao:lk n X.objs=none:=by
              cases H:lk n X.objs with
              | none=>rfl
              | some w=>exact absurd M (ha.nm n w H)
             by_cases D:m=n
             ·subst D;rw[BY rfl,BY rfl,a.objs,ao];rfl
             ·rw[At D,At D,a.objs];cases H:lk m X.objs with
              | none=>rfl
              | some w=>exact AB6 some (uQ (ha.arr m w H))
           ·cases h
          ·cases h
         ·rename_i ti et ad k ae xs h1 f;try rw[h1]
          try rw[a.some_lk ha f]
          try simp only
          split at h
          ·rename_i B;rw[BY B];unfold PN at h ⊢;split at h
           ·rename_i m E au;try simp only
            unfold Kz at h ⊢;split at h
            ·rename_i an ba be ay ys D;rw[a.some_lk ha D];try simp only
             split at h
             ·rename_i J;rw[BY J];unfold Js at h ⊢;split at h
              ·rename_i aj ab;try rw[ab]
               try simp only
               cases h;refine⟨_,rfl,qS a ha (fun q c=>A q (by simp only[JY,f,Ci,AAQ];exact c)) L ?_⟩;cases H:lk n X.objs with
               | none=>rfl
               | some w=>exact absurd M (ha.nm n w H)
              ·cases h
             ·cases h
            ·cases h
           ·cases h
          ·cases h
         ·cases h
        ·cases h
       ·cases h
      ·cases h
     ·cases h
    ·rename_i n e i len v C I;rw[C,I]at A;refine⟨?_,fun k=>by simp[aq,Cj,Cs,Ca,O,C]⟩;simp only[FK,DF,DT,DE,O,C,S,I];split at h
     ·rename_i p ;have L:=U p rfl;have M:n∈ns:=A n (by simp[JY]);try simp only
      split at h
      ·rename_i N;rw[BY N];unfold MC at h ⊢;split at h
       ·rename_i af av el b2 Y;try rw[Y]
        try simp only
        split at h
        ·rename_i W;rw[BY W];unfold Ni at h ⊢;split at h
         ·rename_i ti et ad k F xs h1 f;try rw[h1]
          try rw[a.some_lk ha f]
          try simp only
          split at h
          ·rename_i B;rw[BY B];unfold Ll at h ⊢;split at h
           ·rename_i ys P;rw[MM R P];try simp only
            split at h
            ·rename_i ag;have Q:lk p X.objs=none:=by
              refine T p ?_;cases h;exact⟨_,by simp only[lk,AAQ];rfl⟩
             have V:(lk p σ'.objs).isNone=true∧ys.isEmpty=false:=⟨by rw[a.objs,Q];exact ag.1,ag.2⟩;rw[BY V];cases h;refine⟨_,rfl,qT (en:=[(p,_)]) (new:=[(p,_),(n,_)]) a ha M (fun q c=>by cases c) (fun s v h=>?_) (fun q o c=>?_)⟩
             ·simp only[lk]at h;split at h
              ·rename_i F;rw[F];exact L
              ·cases h
             ·simp only[lk]at c;split at c
              ·rename_i F;rw[F];exact Q
              ·split at c
               ·rename_i F;rw[F];cases H:lk n X.objs with
                | none=>rfl
                | some w=>exact absurd M (ha.nm n w H)
               ·cases c
            ·cases h
           ·cases h
          ·cases h
         ·cases h
        ·cases h
       ·cases h
      ·cases h
     ·cases h
    ·rename_i v C I;rw[C,I]at A;split at h
     ·rename_i p ;have L:=U p rfl;split at h
      ·rename_i N;unfold Wa at h;split at h
       ·rename_i m E au bg offs el b Z;unfold Nk at h;split at h
        ·rename_i ti an ad k e ys h1 D;split at h
         ·rename_i B;unfold Nj at h;split at h
          ·rename_i J;have Q:lk p X.objs=none:=by
            refine T p ?_;cases h;exact⟨_,by simp only[lk,AAQ];rfl⟩
           have V:(lk p σ'.objs).isNone=true:=by rw[a.objs,Q];exact J.1
           have ah:=a.some_lk ha D;refine⟨?_,fun bc=>by simp[aq,Cj,Cs,Ca,O,C,S,I,N,EF,O6,ah,Ci];split<;>simp[Eq]⟩;cases h;simp only[FK,DF,DT,DE,O,C,S,I,Wa,Nk,Nj];rw[BY N,Z];simp only;rw[ah,h1];simp only;rw[BY B,BY ⟨V,J.2⟩];exact⟨_,rfl,qS a ha (fun q c=>A q (by simp only[JY,D,Ci,AAQ];exact c)) L Q⟩
          ·cases h
         ·cases h
        ·cases h
       ·cases h
      ·cases h
     ·cases h
    ·cases h
   ·cases h
end
end
section
open Go Go.RowKit
def zU (o:Obj):Bool:=LK o
def Ia (o:Oper):EN→Bool
 | []=>true
 | (d,_,_) :: r=>!AY d (GL o.op)&&!AY d o.dst.toList&&Ia o r
def S8 (ns:List Nat) (σ:List (Nat×Obj)):List (Nat×Obj)→Bool
 | []=>true
 | (n,o) :: r=>(lk n σ).isNone&&!AY n ns&&zU o&&S8 ns σ r
def HR (ns:List Nat) (σ:List (Nat×Obj)):EN→Bool
 | []=>true
 | (_,_,obs) :: r=>S8 ns σ obs&&HR ns σ r
def ZA (τ:List (Nat×Obj)):List (Nat×Obj)→Bool
 | []=>true
 | (n,_) :: r=>(lk n τ).isNone&&ZA τ r
def MV (τ:List (Nat×Obj)):EN→Bool
 | []=>true
 | (_,_,obs) :: r=>ZA τ obs&&MV τ r
def Hj (ns:List Nat):EN→EN
 | []=>[]
 | (d,v,obs) :: r=>(d,v.fgt ns,obs) :: Hj ns r
def tn (σ:St) (o:Op):List Nat:=CG σ o++Wg (Ck (CG σ o) σ) o
theorem DV {o:Oper}:∀ {ens:EN},Ia o ens=true→∀e∈ens,e.1∉GL o.op∧o.dst≠some e.1
 | [],_,e,a=>by cases a
 | (d,v,obs) :: r,h,e,a=>by
  simp only[Ia,As,bY]at h;rcases By.1 a with rfl|a
  ·grind [AZ,AY]
  ·exact DV h.2 e a
theorem Po {ns:List Nat} {σ:List (Nat×Obj)}:∀ {l:List (Nat×Obj)},S8 ns σ l=true→∀p∈l,lk p.1 σ=none∧p.1∉ns∧zU p.2=true
 | [],_,e,a=>by cases a
 | (n,o) :: r,h,p,hp=>by
  simp only[S8,As,bY,AAL]at h;rcases By.1 hp with rfl|hp
  ·grind [AZ]
  ·exact Po h.2 p hp
theorem DW {ns:List Nat} {σ:List (Nat×Obj)}:∀ {ens:EN},HR ns σ ens=true→∀e∈ens,∀p∈e.2.2,lk p.1 σ=none∧p.1∉ns∧zU p.2=true
 | [],_,e,a=>by cases a
 | (d,v,obs) :: r,h,e,a=>by
  simp only[HR,As]at h;rcases By.1 a with rfl|a
  ·exact Po h.1
  ·exact DW h.2 e a
theorem SG {τ:List (Nat×Obj)}:∀ {l:List (Nat×Obj)},ZA τ l=true→∀p∈l,lk p.1 τ=none
 | [],_,e,a=>by cases a
 | (n,o) :: r,h,p,hp=>by
  simp only[ZA,As,AAL]at h;rcases By.1 hp with rfl|hp
  ·exact h.1
  ·exact SG h.2 p hp
theorem Ib {τ:List (Nat×Obj)}:∀ {ens:EN},MV τ ens=true→∀e∈ens,∀p∈e.2.2,lk p.1 τ=none
 | [],_,e,a=>by cases a
 | (d,v,obs) :: r,h,e,a=>by
  simp only[MV,As]at h;rcases By.1 a with rfl|a
  ·exact SG h.1
  ·exact Ib h.2 e a
theorem LL {ns:List Nat}:∀ {ens:EN},Hj ns ens=ens→∀e∈ens,e.2.1.fgt ns=e.2.1
 | [],_,e,a=>by cases a
 | (d,v,obs) :: r,h,e,a=>by
  simp only[Hj,ABw,ACI,and_true,true_and]at h;rcases By.1 a with rfl|a
  ·exact h.1
  ·exact LL h.2 e a
section
variable {c:Cx} {o:Oper} {σ:St} {ens:EN} {N:St→Prop}
theorem zV {X:St} {ns:List Nat} (b:XIn ens X) (hn:HR ns σ.objs ens=true) (hf:Hj ns ens=ens):IZ X σ ns:=by
 refine⟨fun s v hs=>?_,fun n o a=>?_,fun n o a=>?_,fun n o a=>?_⟩
 ·obtain⟨obs,d⟩:=b.env s v hs;exact LL hf _ d
 all_goals
  obtain⟨e,c,hp⟩:=b.objs n o a;have:=DW hn e c _ hp
 ·exact this.2.2
 ·exact this.1
 ·exact this.2.1
theorem uS (ab:c.Ok) {τ:St} {vc:Prop} (ns:List Nat) (h:F7 c.tb o σ=some (vc,τ)) (U:tn σ o.op=ns) (L:Ia o ens=true) (hn:HR ns σ.objs ens=true) (S:MV τ.objs ens=true) (hf:Hj ns ens=ens) (ad:Hg c.nt o=true) (ae:vc) (aa:N τ):UI c o σ ens N:=by
 subst U;intro X σ' j k a w next Q hs hk
 have ha:=zV k hn hf;have F:∀t∈GL o.op,lk t X.env=none:=fun t A=>by
  cases g:lk t X.env with
  | none=>rfl
  | some v=>obtain⟨obs,f⟩:=k.env t v g;exact absurd A (DV L _ f).1
 have D:∀t,o.dst=some t→lk t X.env=none:=fun t A=>by
  cases g:lk t X.env with
  | none=>rfl
  | some v=>obtain⟨obs,f⟩:=k.env t v g;exact absurd A (DV L _ f).2
 have G:∀n,(∃u,lk n τ.objs=some u)→lk n X.objs=none:=fun n hu=>by
  cases g:lk n X.objs with
  | none=>rfl
  | some v =>
   obtain⟨e,R,hp⟩:=k.objs n v g;obtain⟨u,hu⟩:=hu;rw[Ib S e R _ hp]at hu;cases hu
 have Y:=bP j ha (op:=o.op) (Pm j F);obtain⟨b,y⟩:=UT (l:=CG σ o.op) j ha (fun m f=>by simp[tn,f]);have key:∃q,F7 c.tb o σ'=some (vc,q)∧Na τ q X:=by
  have H:∀n∈Wg (Ck (CG σ o.op) σ) o.op,n∈tn σ o.op:=fun m f=>by simp[tn,f]
  unfold F7 Nl at h ⊢;rw[Y];generalize Ck (CG σ o.op) σ=B at h b y H;generalize Ck (CG σ o.op) σ'=C at b;have K:=Pm b F;cases z:aq c.tb B (o.dst.getD 0) o.op with
  | some r =>
   obtain⟨af,v,obs⟩:=r;rw[z]at h;have W:=S3 (b.obs y) (fun x j v Z=>by rw[K x j];exact Z) z;rw[W];simp only[KI]at h ⊢;split at h
   ·rename_i I;cases h;have J:∀n,lk n (B.add v obs o.dst).objs=(lk n obs).or (lk n B.objs):=fun n=>by cases o.dst<;>simp only[St.add,A1]
    have V:∀n,lk n (C.add v obs o.dst).objs=(lk n obs).or (lk n C.objs):=fun n=>by cases o.dst<;>simp only[St.add,A1]
    have E:∀n u,lk n obs=some u→lk n X.objs=none:=fun n u hu=>G n ⟨u,by rw[J,hu];rfl⟩;have T:Bd obs C=true:=by
     simp only[Bd,IN,AAL]at I ⊢;intro p hp;obtain⟨u,hu⟩:=NE hp;rw[b.objs,E _ u hu,I p hp];rfl
    rw[BY T];refine⟨_,rfl,fun s=>?_,fun n=>?_⟩
    ·cases P:o.dst with
     | none=>simp only[St.add];exact b.env s
     | some d =>
      simp only[St.add,lk];by_cases i:s=d
      ·rw[BY i,BY i,i,D d P];rfl
      ·rw[At i,At i];exact b.env s
    ·rw[J,V,b.objs];cases hu:lk n obs with
     | none=>rfl
     | some u=>rw[E n u hu];rfl
   ·cases h
  | none =>
   rw[z]at h;simp only[KI]at h;obtain⟨⟨q,h1,M⟩,O⟩:=uR b y K H D G h;rw[O];simp only[KI];exact⟨q,h1,M⟩
 grind [Pd,Be]
theorem bQ {σ σ':St}:∀ {xs:List Operand},mD σ σ' xs→IW σ' xs=IW σ xs
 | [],_=>rfl
 | x :: r,h=>by
  simp only[IW];rw[h x (by simp),bQ (fun y a=>h y (by simp[a]))]
theorem ZB {σ σ':St} (h:Yz σ σ') {ren:List (Nat×Bw)} {x y:AV} (a:GB σ ren x y):GB σ' ren x y:=by
 cases y<;>first|exact a|exact FM h a
theorem Nq {σ σ':St} (h:Yz σ σ') {ren:List (Nat×Bw)}:∀ {l r:List AV},BH σ ren l r→BH σ' ren l r
 | [],[],_=>trivial
 | [],_ :: _,a=>a.elim
 | _ :: _,[],a=>a.elim
 | _ :: _,_ :: _,a=>⟨ZB h a.1,Nq h a.2⟩
theorem Nr {l l':List (Nat×Obj)} (h:∀n o,lk n l=some o→lk n l'=some o) {ren:List (Nat×Bw)}:∀ {r:List (Nat×Obj)},Aa l ren r→Aa l' ren r
 | [],_=>trivial
 | (m,o) :: r,a=>by
  refine⟨?_,Nr h a.2⟩;have h1:=a.1;cases hf:lk m ren with
  | none=>rw[hf]at h1;exact h1.elim
  | some f =>
   rw[hf]at h1;cases f with
   | nil=>exact h1
   | nm n =>
    simp only[GA]at h1 ⊢;cases hn:lk n l with
    | none=>rw[hn]at h1;simp only[HO]at h1
    | some x=>rw[h n x hn,←hn];exact h1
theorem uT (af:c.Ok) {dst:Option Nat} {g:Operand} {xs:List Operand} {ts:Array TypeId} {ty:TypeId} {pos:String} {after:Array Edge}
  {f:FuncId} {D:List Nat} (aj:Cu (Aj σ g)=some (f,D)) {as:List AV} (ae:IW σ xs=some as)
  {A:List AV} {objs:List (Nat×Obj)} {stay:List Nat} {post:AV→List (Nat×Obj)→Prop} (aa:BA c.P f A objs stay post)
  (ren:List (Nat×Bw)) (hs:List Nat) (h1:B2 ren=true) (V:CO objs ren=true) (am:(c.ds.pin.all fun p=>!AY p.1 hs)=true)
  (I:Ia ⟨dst,.call ⟨.value g,xs.toArray,ts⟩,ty,pos,after,none⟩ ens=true) (hn:HR (Ai ren) σ.objs ens=true) (hf:Hj hs ens=ens) (ag:Hg c.nt ⟨dst,.call ⟨.value g,xs.toArray,ts⟩,ty,pos,after,none⟩=true)
  (Z:BH σ ren (as++D.map fun n=>AV.bp n [] 0) A) (ab:Aa σ.objs ren objs)
  (hk:∀res r,post res r→∃(l:List (Nat×Bw)) (x:AV) (i:List (Nat×Obj)),B2 l=true∧CO i l=true∧Aa r l i∧Bg l res x ∧
   JV ren l stay hs=true∧Fb (Ai ren) i σ.objs=true∧MV i ens=true∧N (CK σ (Ai ren) hs dst x i)) :
  UI c ⟨dst,.call ⟨.value g,xs.toArray,ts⟩,ty,pos,after,none⟩ σ ens N:=by
 intro X σ' q k a w next Q ao al
 have ah:∀s v,lk s X.env=some v→v.fgt hs=v:=fun s v hs=>by
  obtain⟨obs,m⟩:=k.env s v hs;exact LL hf _ m
 have G:Yz σ σ':=by
  intro n o z;rw[q.objs];cases b:lk n X.objs with
  | none=>exact z
  | some aq =>
   obtain⟨e,j,hp⟩:=k.objs n aq b;rw[(DW hn e j _ hp).1]at z;cases z
 have ak:∀n o,lk n X.objs=some o→n∉Ai ren:=fun n o B=>by
  obtain⟨e,j,hp⟩:=k.objs n o B;exact(DW hn e j _ hp).2.1
 have ad:∀t∈(g :: xs).filterMap MN,lk t X.env=none:=fun t C=>by
  cases b:lk t X.env with
  | none=>rfl
  | some v =>
   obtain⟨obs,m⟩:=k.env t v b;refine absurd ?_ (DV I _ m).1;simpa[GL,Op.operands,Call.operands] using C
 have ar:∀t,dst=some t→lk t X.env=none:=fun t C=>by
  cases b:lk t X.env with
  | none=>rfl
  | some v=>obtain⟨obs,m⟩:=k.env t v b;exact absurd C (DV I _ m).2
 have H:=Pm q ad;refine Y4 af (xs:=xs) (ts:=ts) rfl rfl (by rw[H g (by simp)];exact aj) (by rw[bQ (fun y ap=>H y (by simp[ap]))];exact ae) aa ren h1 V (Nq G Z) (Nr G ab) hs am ao (Be ag) fun res r hp=>?_;obtain⟨l,x,i,L,M,O,R,S,E,T,U⟩:=hk res r hp;have F:∀n o,lk n X.objs=some o→lk n i=none:=fun n o B=>by
  obtain⟨e,j,hp⟩:=k.objs n o B;exact Ib T e j _ hp
 refine⟨l,x,i,L,M,O,R,S,?_,fun K w' an=>al _ U K w' _ ⟨fun s=>?_,fun n=>?_⟩ an⟩
 ·simp only[Fb,IN,AAi,AAL]at E ⊢;intro p hp;rcases E p hp with h|h
  ·exact .inl h
  ·right;rw[q.objs,h];cases b:lk p.1 X.objs with
   | none=>rfl
   | some u =>
    obtain⟨av,J⟩:=NE hp;rw[F _ u b]at J;cases J
 ·have ai:lk s (BV hs σ'.env)=(lk s X.env).or (lk s (BV hs σ.env)):=by
   rw[DQ,DQ,q.env];cases b:lk s X.env with
   | none=>rfl
   | some v=>simp[ah s v b]
  simp only[CK];cases dst with
  | none=>exact ai
  | some d =>
   simp only[Jz,lk];by_cases au:s=d
   ·grind
   ·grind
 ·simp only[CK,A1,BS,q.objs];cases b:lk n X.objs with
  | none=>simp
  | some u =>
   have Y:LK u=true:=by
    obtain⟨e,j,hp⟩:=k.objs n u b;exact(DW hn e j _ hp).2.2
   have W:¬AY n (Ai ren)=true:=fun h=>ak n _ b ((AZ _ _).1 h);rw[F n _ b,At W];exact AB6 some (RA Y)
end
section
variable {c:Cx} {ops:List Oper} {Kf:St→Prop} {τ:St} {ens:EN} {vc:Prop}
theorem zW {D:List Nat} (h:lD c.tb ops τ.objs D [] τ.env=some (vc,ens)) (b:vc) (a:Pl ens τ.objs=true) (hk:Kf (L6 ens τ)):zL c ops Kf [] D ens τ:=⟨⟨vc,h,b,a⟩,hk⟩
theorem zX {A D:List Nat} {l:Nat} {b:List (List Nat×Nat)} {o:Oper} {d:St} {a:EN} (h:lD c.tb ops τ.objs (A++qs b D) [] τ.env=some (vc,ens)) (j:vc) (g:Pl ens τ.objs=true) (i:ops[l]?=some o) (k:L6 (ens.take A.length) τ=d) (f:ens.drop A.length=a)
  (e:UI c o d a (fun m=>zL c ops Kf b D a m)):zL c ops Kf ((A,l) :: b) D ens τ:=by
 subst k f;exact⟨⟨vc,h,j,g⟩,o,i,e⟩
end
end
section
open Go
attribute [local go_sem] XB AM List.toList_toArray Br evG evK Te Ef Ju Fm E6 F7 Nl KI CG Ct K2 B0 Ck frz aD GX DJ A7 FY BW AV.frz AV.frzs AV.drp AV.drps AV.names AV.namess aq GY KH Jl Qq ID BQ BX JJ Ea Hn Eb Hq Ho Hr Si Nf GZ JK Fa Dz Sj PJ xZ JL II Kw FE Dk IJ Jn EE Qr Ca EF Eq PK IK PM Lk IL Jo Cs Cj FK Dl HL DR Er DS EH FJ B0 Ci O6 O8 MB F5 IG IE Jm MC Ni Ll K0 Ky Jr PN Kz Js Wa Nk Nj AV.trn AV.trns Dy CZ Obj.trn JY Y8 DF DT DE EI CV Es Aj lk Gr GP HJ yC aC Tc aF PI pY pZ pfs AV.cells CE JG OB Jq Nh CU L9 Ty.cell1 Hm Ep Dj F4 Kv EZ KG Lj O7 Eo Gy L8 Qp Sg L5 KF WX Yj O9 MA Cr JH RV.flat Ty.flat Ty.size St.add upd del Bd Value.oneCell' Kt Ty.dflt Hl M7 G0 ND List.take_succ_cons List.take_zero List.length_cons XI XJ NC IV KS Ge H9 uE E7 LB LC LD LE OL OM JQ Hx Q1 Option.map_some Option.map_none Option.bind_some Option.getD_some Option.getD_none Option.isNone_none Option.isNone_some Bool.and_true Bool.true_and Bool.and_false Bool.false_and Bool.not_true Bool.not_false if_true if_false List.length_cons List.length_nil and_true true_and and_self List.all_cons List.all_nil List.append_nil List.nil_append List.cons_append List.getElem?_cons_zero List.getElem?_cons_succ List.getElem?_nil List.map_cons List.map_nil List.set_cons_zero List.set_cons_succ List.isEmpty_nil List.isEmpty_cons decide_true decide_false beq_self_eq_true bne_self_eq_false Nat.zero_add Nat.add_zero Nat.sub_zero Int.toNat_natCast Int.toNat_zero Int.toNat_one List.take_length List.length_append List.length_singleton true_or or_true or_self false_or or_false Ty.agg.injEq Ty.slice.injEq Ty.prod.injEq Ty.int.injEq Option.some.injEq beq_iff_eq Lr evMG evMQ x5 HQ Lq Bx JS GL MN JR HP Hy JT KR MO MQ MP Q2 KQ M9 NA H8 AY Al Op.operands Call.operands List.filterMap_cons List.filterMap_nil List.append_eq Bool.cond_false_right Bool.cond_true_left cond_true cond_false implies_true decide_eq_true_eq beq_true beq_false Bool.or_true Bool.or_false Bool.true_or Bool.false_or Option.isSome_some Array.empty_append List.append_toArray FZ K3 Et He WZ Ng FI Fg Ff IM HK Jp Kx Td aE Jk inB Jt FT F6 X1 Ah XK List.drop_zero De Hi We CK Jz BV AV.fgt AV.fgts Obj.fgt Af Ai AY Cu IW BH GB List.any_cons List.any_nil lD Y5 Wf Y6 L6 Pl qs List.flatMap_cons List.flatMap_nil List.cons_append tn Wg Hj List.take_succ_cons List.drop_succ_cons B2 CO Aa Ex Jy Bg Ew Dm HN Hw GA HO
end
end Go.Proofs.YtdapahgnpbehbaaGreat.Fw
