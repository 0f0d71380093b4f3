/- Regions whose order Go leaves open: the rules. -/
import Derived.Test.YtdapahgnpbehbaaGreatIZE
set_option linter.unusedVariables false
set_option linter.unusedSimpArgs false
namespace Go.Proofs.YtdapahgnpbehbaaGreat.Fw
section
open Go Go.RowKit
def De (o:Oper):List Nat:=(o.after.toList.filter (Region.binds .any)).map (·.on)
def Ac (ops:List Oper) (j:Nat):Option Nat:=(ops[j]?).bind (·.dst)
def NB:Operand→Option Nat
 | .tmp t=>some t
 | _=>none
def LX (ops:List Oper) (o:Oper):List Nat:=(o.op.operands.toList.filterMap NB)++(match o.guard with|some (j,_)=>(Ac ops j).toList|none=>[])
def A1i (a b:List Nat):List Nat:=a.foldl (fun r x=>if AU x r then r else x :: r) b
def o5 (ops:List Oper):List (List Nat):=ops.foldl (fun(a:List (List Nat)) o=>a++[(De o).foldl (fun r e=>A1i (a.getD e []) (if AU e r then r else e :: r)) []]) []
def opB (ops:List Oper) (k:Nat) (anc:List (List Nat)) (i:Nat) (o:Oper):Bool :=
  (De o).all (fun e=>decide (e<i)) &&
  (anc.getD i []).all (fun j=>AU j (De o)||(De o).any fun e=>AU j (anc.getD e [])) &&
  (if i<k then o.dst.isSome&&((LX ops o).all fun t=>(List.range k).all fun j=>Ac ops j != some t||AU j (anc.getD i []))&&((List.range i).all fun j=>Ac ops j != o.dst)
   else (List.range i).all fun j=>AU j (anc.getD i []))
def ZZ (ops:List Oper) (k:Nat) (anc:List (List Nat)):Bool :=
 decide (k≤ops.length)&&(List.range ops.length).all fun i=>match ops[i]? with|some o=>opB ops k anc i o|none=>false
def J6 (ops:List Oper) (k:Nat):Bool:=ZZ ops k (o5 ops)
def kS (ops:List Oper) (k:Nat):Bool :=
 decide (k≤ops.length)&&(List.range k).all fun i=>match ops[i]? with|some o=>o.dst.isSome&&((List.range i).all fun j=>Ac ops j != o.dst)|none=>false
def Bo (q:Bool) (ts:List Nat) (base:List (Nat×Obj)):List (Nat×List (Nat×Obj))→List (Nat×Obj)
 | []=>base
 | (s,obs) :: r=>if (q||AU s ts)=true then obs++Bo q ts base r else Bo q ts base r
def F2 (o:Op):List Nat:=o.operands.toList.filterMap NB
def Kg (q:Bool) (o:Op) (base:List (Nat×Obj)):List (Nat×List (Nat×Obj))→List (Nat×Obj)
 | []=>base
 | e :: r=>Bo q (F2 o) base (e :: r)
def Ij (d:Nat) (obs:List (Nat×Obj)) (E:List (Nat×List (Nat×Obj))):List (Nat×List (Nat×Obj)) :=
 match obs with
 | []=>E
 | x :: r=>(d,x :: r) :: E
abbrev Ch:=List (Nat×Bool)
abbrev Gs:=List (Nat×(Ch×Bool×AV))
def MJ:Ch→Ch→Bool
 | [],[]=>true
 | (j,w) :: r,(a,w') :: b=>(j==a)&&(w==w')&&MJ r b
 | [],_ :: _=>false
 | _ :: _,[]=>false
theorem Kh:MJ [] []=true:=rfl
theorem NC (x:Nat×Bool) (r:Ch):MJ [] (x :: r)=false:=rfl
theorem ND (x:Nat×Bool) (r:Ch):MJ (x :: r) []=false:=rfl
theorem Ik (j a:Nat) (w w':Bool) (r b:Ch):MJ ((j,w) :: r) ((a,w') :: b)=(decide (j=a)&&(w==w')&&MJ r b):=by
 have e:(j==a)=decide (j=a):=by
  by_cases h:j=a<;>simp[h]
 show ((j==a)&&(w==w')&&MJ r b)=_;rw[e]
def Qa (a:Ch):Ch→Bool
 | []=>MJ a []
 | k :: r=>MJ a (k :: r)||Qa a r
def Il (c:Ch):Gs→List (Nat×AV)→List (Nat×AV)
 | [],env=>env
 | (s,a,_,v) :: G,env=>if Qa a c=true then (s,v) :: Il c G env else Il c G env
def Jc (j:Nat) (a:Bool):Option (Ch×Bool×AV)→Option AV→Option (Ch×Bool)
 | some (c,T,.p .bool b),_=>some ((j,a) :: c,T&&(b==a))
 | none,some (.p .bool b)=>some ([(j,a)],b==a)
 | _,_=>none
def Hu (G:Gs) (env:List (Nat×AV)) (j:Nat) (a:Bool):Option Nat→Option (Ch×Bool)
 | some s=>Jc j a (lk s G) (lk s env)
 | none=>none
def Gx (ops:List Oper) (G:Gs) (env:List (Nat×AV)) (i:Nat):Option (Nat×Bool)→Option (Ch×Bool)
 | none=>some ([],true)
 | some (j,a)=>if j<i then Hu G env j a (Ac ops j) else none
def MK (ops:List Oper) (c:Ch) (s:Nat) (w:Bool):Option (Ch×Bool×AV)→Option AV→Option AV
 | some (a,_,v),_=>if Qa a c=true then some v else match a with
  | []=>none
  | (j,w') :: r=>if w'=w∧Ac ops j=some s∧MJ r c=true then some v else none
 | none,x=>x
def J7 (ops:List Oper) (c:Ch) (G:Gs) (env:List (Nat×AV)) (s:Nat) (w:Bool):Operand→Option AV
 | .tmp t=>MK ops c s w (lk t G) (lk t env)
 | .const v=>some (GS v)
 | .func _=>none
 | .global _=>none
def ML:Option AV→Option AV→Option AV→BN
 | some (.p .bool b),some (.p .bool p),some (.p .bool q)=>some (True,.p .bool (bif b then p else q),[])
 | _,_,_=>none
def L1 (ops:List Oper) (c:Ch) (G:Gs) (env:List (Nat×AV)):Operand→Operand→Operand→BN
 | .tmp s,x,y=>ML (lk s (Il c G env)) (J7 ops c G env s true x) (J7 ops c G env s false y)
 | .const _,_,_=>none
 | .func _,_,_=>none
 | .global _,_,_=>none
def Gy:Op→Option (Operand×Operand×Operand)
 | .pick s x y=>some (s,x,y)
 | _=>none
def o6 (tb:Tb) (ops:List Oper) (q:Bool) (base:List (Nat×Obj)) (c:Ch) (G:Gs) (E:List (Nat×List (Nat×Obj))) (env:List (Nat×AV)) (o:Oper):Option (Operand×Operand×Operand)→BN
 | some (s,x,y)=>L1 ops c G env s x y
 | none=>aq tb ⟨Il c G env,Kg q o.op base E⟩ (o.dst.getD 0) o.op
mutual
def J8 (tb:Tb) (ops:List Oper) (q:Bool) (base:List (Nat×Obj)) (rest:List Oper):List Oper→Nat→List (Nat×List (Nat×Obj))→Gs→St→Cb
 | [],_,_,_,σ=>Bl tb ops rest σ
 | o :: r,i,E,G,σ=>evMG tb ops q base rest o r i E G σ (Gx ops G σ.env i o.guard)
def evMG (tb:Tb) (ops:List Oper) (q:Bool) (base:List (Nat×Obj)) (rest:List Oper) (o:Oper) (r:List Oper) (i:Nat) (E:List (Nat×List (Nat×Obj))) (G:Gs) (σ:St):Option (Ch×Bool)→Cb
 | some (c,T)=>evMQ tb ops q base rest o.dst r i E G σ c T (o6 tb ops q base c G E σ.env o (Gy o.op))
 | none=>none
def evMQ (tb:Tb) (ops:List Oper) (q:Bool) (base:List (Nat×Obj)) (rest:List Oper) (dst:Option Nat) (r:List Oper) (i:Nat) (E:List (Nat×List (Nat×Obj))) (G:Gs) (σ:St):Ch→Bool→BN→Cb
 | [],_,some (vc,v,obs)=>match dst with
  | some d=>if BQ obs σ=true then TS vc (J8 tb ops q base rest r (i+1) (Ij d obs E) G (σ.add v obs (some d))) else none
  | none=>none
 | g :: c,T,some (vc,v,[])=>match dst with
  | some d=>if (lk d σ.env).isNone=true then TS (T=true→vc) (J8 tb ops q base rest r (i+1) E ((d,g :: c,T,v) :: G) σ) else none
  | none=>none
 | _,_,_=>none
end
structure En where
 b:Bool
 v:AV
 obs:List (Nat×Obj)
def Ah (ops:List Oper) (en:Nat→En) (σ:St):List Nat→St
 | []=>σ
 | i :: r=>(Ah ops en σ r).add (en i).v (en i).obs (Ac ops i)
def Aa:Nat→List Nat
 | 0=>[]
 | i+1=>i :: Aa i
end
section
open Go Go.RowKit
section
variable {tb:Tb} {ops:List Oper} {k:Nat} {q:Bool} {anc:List (List Nat)} {σ0:St} {en:Nat→En}
def ES (ops:List Oper) (en:Nat→En) (l:List Nat):List (Nat×List (Nat×Obj)):=l.map fun j=>((Ac ops j).getD 0,(en j).obs)
def Jd (ops:List Oper) (σ:St) (b:Bool):Option (Nat×Bool)→Prop
 | none=>b=true
 | some (j,a)=>∃s,Ac ops j=some s∧((∃x,lk s σ.env=some (.p .bool x)∧b=(x==a))∨(lk s σ.env=some (.raw undef)∧b=false))
structure Rg (tb:Tb) (ops:List Oper) (q:Bool) (σ0:St) (en:Nat→En) (i:Nat) (o:Oper):Prop where
 g:Jd ops (Ah ops en σ0 (Aa i)) (en i).b o.guard
 t:(en i).b=true→∃vc:Prop,aq tb ⟨(Ah ops en σ0 (Aa i)).env,Bo q (F2 o.op) σ0.objs (ES ops en (Aa i))⟩ (o.dst.getD 0) o.op=some (vc,(en i).v,(en i).obs)∧vc∧BQ (en i).obs (Ah ops en σ0 (Aa i))=true
 f:(en i).b=false→(en i).v=.raw undef∧(en i).obs=[]
theorem Je {a:Nat→En}:∀ {l:List Nat},(∀j∈l,a j=en j)→Ah ops a σ0 l=Ah ops en σ0 l
 | [],_=>rfl
 | i :: r,h=>by
  simp only[Ah];rw[Je (fun j b=>h j (by simp[b])),h i (by simp)]
theorem A9 {i j:Nat}:j∈Aa i↔j<i:=by
 induction i with
 | zero=>simp[Aa]
 | succ i a=>simp[Aa,a];omega
theorem Et:∀(l:List Nat),(Ah ops en σ0 l).objs=(l.flatMap fun j=>(en j).obs)++σ0.objs
 | []=>rfl
 | i :: r=>by
  simp only[Ah,ABz,AAy];rw[←Et r];cases Ac ops i<;>rfl
theorem Eu (s:Nat):∀(l:List Nat),lk s (Ah ops en σ0 l).env=match l.find? (fun j=>Ac ops j==some s) with|some j=>some (en j).v|none=>lk s σ0.env
 | []=>rfl
 | i :: r=>by
  simp only[Ah,List.find?_cons];cases a:Ac ops i with
  | none =>
   simp only[St.add];rw[Eu s r];have:((none:Option Nat)==some s)=false:=rfl;rw[this]
  | some d =>
   simp only[St.add,lk];by_cases hs:s=d
   ·subst hs;simp
   ·have h1:((some d:Option Nat)==some s)=false:=by
     have:d≠s:=fun e=>hs e.symm;simpa using this
    rw[At hs,Eu s r,h1]
theorem cO {n:Nat} {o:Obj} {l:List Nat} (h:lk n (l.flatMap fun j=>(en j).obs)=some o):∃j∈l,lk n (en j).obs=some o:=by
 induction l with
 | nil=>simp[lk]at h
 | cons i r d =>
  rw[ABz,Av]at h;cases a:lk n (en i).obs with
  | some e =>
   rw[a]at h;exact⟨i,by simp,by rw[a];simpa using h⟩
  | none =>
   rw[a]at h;obtain⟨j,b,c⟩:=d (by simpa using h);exact⟨j,by simp[b],c⟩
theorem Jf {n:Nat} {l:List Nat} (h:lk n (l.flatMap fun j=>(en j).obs)=none):∀j∈l,lk n (en j).obs=none:=by
 induction l with
 | nil=>simp
 | cons i r c =>
  rw[ABz,Av]at h;cases a:lk n (en i).obs with
  | some d=>rw[a]at h;simp at h
  | none =>
   rw[a]at h;intro j b;rcases Do.1 b with rfl|b
   ·exact a
   ·exact c (by simpa using h) j b
def Sep (σ0:St) (en:Nat→En) (k:Nat):Prop :=
 (∀j,j<k→∀n o,lk n (en j).obs=some o→lk n σ0.objs=none)∧∀i j,i<k→j<k→∀n o a,lk n (en i).obs=some o→lk n (en j).obs=some a→i=j
theorem EI (i:Sep σ0 en k) {l:List Nat} (g:∀j∈l,j<k) (n:Nat) (o:Obj):lk n (Ah ops en σ0 l).objs=some o↔(∃j∈l,lk n (en j).obs=some o)∨((∀j∈l,lk n (en j).obs=none)∧lk n σ0.objs=some o):=by
 rw[Et,Av];cases h:lk n (l.flatMap fun j=>(en j).obs) with
 | some m =>
  obtain⟨j,e,a⟩:=cO h;simp only[ACi];constructor
  ·intro d;cases d;exact .inl ⟨j,e,a⟩
  ·rintro (⟨c,f,b⟩|⟨h1,_⟩)
   ·have:=i.2 j c (g j e) (g c f) n m o a b;subst this;rw[←a,b]
   ·rw[h1 j e]at a;cases a
 | none =>
  have hn:=Jf h;simp only[Option.none_or];constructor
  ·intro d;exact .inr ⟨hn,d⟩
  ·rintro (⟨c,f,b⟩|⟨_,h1⟩)
   ·rw[hn c f]at b;cases b
   ·exact h1
theorem o7 (f:Sep σ0 en k) {ts:List Nat} {l l':List Nat} (m:∀j∈l,j<k) (e:∀j∈l',j<k) (d:∀j∈l,(q||AU ((Ac ops j).getD 0) ts)=true→j∈l') {n:Nat} {o:Obj} :
  lk n (Bo q ts σ0.objs (ES ops en l))=some o→lk n (Ah ops en σ0 l').objs=some o:=by
 rw[EI f e];induction l with
 | nil =>
  simp only[ES,ACz,Bo];intro h;refine .inr ⟨fun j b=>?_,h⟩;cases a:lk n (en j).obs with
  | none=>rfl
  | some g=>have:=f.1 j (e j b) n g a;rw[this]at h;cases h
 | cons i r c =>
  simp only[ES,tO,Bo];have c:=c (fun j b=>m j (by simp[b])) (fun j b=>d j (by simp[b]));split
  ·rename_i p;intro h;rw[Av]at h;cases a:lk n (en i).obs with
   | some g =>
    rw[a]at h;simp only[ACi]at h;cases h;exact .inl ⟨i,d i (by simp) p,a⟩
   | none =>
    rw[a]at h;exact c (by simpa[ES] using h)
  ·exact c
theorem NE:∀ {a b:Ch},MJ a b=true↔a=b
 | [],[]=>by simp[MJ]
 | (j,w) :: r,(d,w') :: c=>by simp[MJ,NE (a:=r) (b:=c),and_assoc]
 | [],_ :: _=>by simp[MJ]
 | _ :: _,[]=>by simp[MJ]
def bv:AV→Bool
 | .p .bool b=>b
 | _=>false
def tr (en:Nat→En):Ch→Bool
 | []=>true
 | (j,w) :: r=>tr en r&&(bv (en j).v==w)
theorem Rh {a:Nat→En}:∀ {c:Ch},(∀k∈c,a k.1=en k.1)→tr a c=tr en c
 | [],_=>rfl
 | (j,w) :: r,h=>by
  have h1:=h (j,w) (by simp);simp only at h1;simp only[tr];rw[Rh (fun k hk=>h k (by simp[hk])),h1]
theorem Za {b:Ch}:∀ {c:Ch},Qa b c=true→tr en c=true→tr en b=true
 | [],h,a=>by simp only[Qa,NE]at h;rw[h];exact a
 | k :: r,h,a=>by
  simp only[Qa,AA1,NE]at h;rcases h with rfl|h
  ·exact a
  ·obtain⟨j,w⟩:=k;simp only[tr,An]at a;exact Za h a.1
structure Inv (ops:List Oper) (q:Bool) (σ0:St) (en:Nat→En) (i:Nat) (E:List (Nat×List (Nat×Obj))) (G:Gs) (σ:St):Prop where
 env:∀s v,lk s σ.env=some v→lk s (Ah ops en σ0 (Aa i)).env=some v
 G:∀s c T v,(s,c,T,v)∈G→T=tr en c∧(T=true→lk s (Ah ops en σ0 (Aa i)).env=some v)∧(∀k∈c,k.1<i)∧∃j,j<i∧Ac ops j=some s∧(en j).b=T
 f:∀j,j<i→(en j).b=false→(en j).v=.raw undef
 objs:σ.objs=(Ah ops en σ0 (Aa i)).objs
 E:∀ts,Bo q ts σ0.objs E=Bo q ts σ0.objs (ES ops en (Aa i))
def Zb (ops:List Oper) (k:Nat):Prop:=∀a b,a<b→b<k→Ac ops a≠Ac ops b
theorem UE (c:Zb ops k) {i j s:Nat} (e:i≤k) (d:j<i) (b:Ac ops j=some s):lk s (Ah ops en σ0 (Aa i)).env=some (en j).v:=by
 rw[Eu];have:(Aa i).find? (fun j=>Ac ops j==some s)=some j:=by
  cases hf:(Aa i).find? (fun j=>Ac ops j==some s) with
  | none =>
   have:=ABM.1 hf j (A9.2 d);simp[b]at this
  | some x =>
   have h1:=A9.1 (ABC hf);have a:=ACA hf;have a:Ac ops x=some s:=by simpa using a
   rcases ABn x j with h|h|h
   ·exact absurd (a.trans b.symm) (c x j h (by omega))
   ·rw[h]
   ·exact absurd (b.trans a.symm) (c j x h (by omega))
 rw[this]
theorem Oh {c:Ch} {s:Nat} {v:AV} {env:List (Nat×AV)}:∀ {G:Gs},lk s (Il c G env)=some v→(∃b T,(s,b,T,v)∈G∧Qa b c=true)∨lk s env=some v
 | [],h=>.inr h
 | (f,b,T,g) :: G,h=>by
  simp only[Il]at h;split at h
  ·rename_i hs;simp only[lk]at h;split at h
   ·rename_i e;subst e;cases h;exact .inl ⟨b,T,by simp,hs⟩
   ·rcases Oh h with ⟨c2,T2,d,a⟩|a
    ·exact .inl ⟨c2,T2,by simp[d],a⟩
    ·exact .inr a
  ·rcases Oh h with ⟨c2,T2,d,a⟩|a
   ·exact .inl ⟨c2,T2,by simp[d],a⟩
   ·exact .inr a
section
variable {i:Nat} {E:List (Nat×List (Nat×Obj))} {G:Gs} {σ:St}
theorem XN (a:Inv ops q σ0 en i E G σ) {c:Ch} (e:tr en c=true) {s:Nat} {v:AV} (h:lk s (Il c G σ.env)=some v):lk s (Ah ops en σ0 (Aa i)).env=some v:=by
 rcases Oh h with ⟨b,T,f,hs⟩|h
 ·obtain⟨h1,d,_⟩:=a.G s b T v f;exact d (by rw[h1];exact Za hs e)
 ·exact a.env s v h
theorem kT (n:Inv ops q σ0 en i E G σ) (p:Zb ops k) (x:i≤k) {g:Option (Nat×Bool)} {c:Ch} {T:Bool} (h:Gx ops G σ.env i g=some (c,T)) :
  Jd ops (Ah ops en σ0 (Aa i)) T g∧T=tr en c∧(∀k∈c,k.1<i):=by
 cases g with
 | none =>
  simp only[Gx]at h;cases h;exact⟨rfl,rfl,by simp⟩
 | some g =>
  obtain⟨j,A⟩:=g;simp only[Gx]at h;split at h
  ·rename_i e;cases d:Ac ops j with
   | none=>rw[d]at h;simp[Hu]at h
   | some s =>
    rw[d]at h;simp only[Hu]at h;have l:=UE (en:=en) (σ0:=σ0) p x e d;unfold Jc at h;split at h
    ·rename_i c0 r b o;cases h;obtain⟨h1,v,t,m,z,u,w⟩:=n.G s c0 r _ (E9 o);cases hT:r with
     | true =>
      have a:=v hT;rw[l]at a;injection a with a
      refine⟨⟨s,d,.inl ⟨b,by rw[l,a],by simp⟩⟩,?_,?_⟩
      ·rw[hT]at h1;simp only[tr,←h1,a,bv]
      ·intro k hk;rcases Do.1 hk with rfl|hk
       ·exact e
       ·exact t k hk
     | false =>
      have y:m=j:=by
       rcases ABn m j with h|h|h
       ·exact absurd (u.trans d.symm) (p m j h (by omega))
       ·exact h
       ·exact absurd (d.trans u.symm) (p j m h (by omega))
      subst y;have a:=n.f m e (by rw[w,hT]);refine⟨⟨s,d,.inr ⟨by rw[l,a],by simp⟩⟩,?_,?_⟩
      ·rw[hT]at h1;simp only[tr,←h1,Bool.false_and]
      ·intro k hk;rcases Do.1 hk with rfl|hk
       ·exact e
       ·exact t k hk
    ·rename_i b _ o;cases h;have a:=n.env s _ o;rw[l]at a;injection a with a
     refine⟨⟨s,d,.inl ⟨b,by rw[l,a],rfl⟩⟩,by simp[tr,a,bv],?_⟩;intro k hk;simp at hk;rw[hk];exact e
    ·cases h
  ·cases h
theorem XO (l:Inv ops q σ0 en i E G σ) (B:Zb ops k) (z:i≤k) {c:Ch} (m:tr en c=true) {s:Nat} {w:Bool} (hs:lk s (Ah ops en σ0 (Aa i)).env=some (.p .bool w)) {x:Operand} {v:AV}
  (h:J7 ops c G σ.env s w x=some v) {objs:List (Nat×Obj)}:AZ ⟨(Ah ops en σ0 (Aa i)).env,objs⟩ x=some v:=by
 cases x with
 | const x=>simp only[J7]at h;exact h
 | func f=>simp[J7]at h
 | global g=>simp[J7]at h
 | tmp t =>
  simp only[J7]at h;simp only[AZ];cases a:lk t G with
  | none =>
   rw[a]at h;exact l.env t v h
  | some e =>
   obtain⟨b,T,D⟩:=e;rw[a]at h;simp only[MK]at h;obtain⟨h1,d,o,_⟩:=l.G t b T D (E9 a);split at h
   ·rename_i A;cases h;exact d (by rw[h1];exact Za A m)
   ·cases b with
    | nil=>cases h
    | cons p r =>
     obtain⟨j,w'⟩:=p;simp only at h;split at h
     ·rename_i y;obtain⟨rfl,u,n⟩:=y;rw[NE]at n;subst n;cases h;have C:=UE (en:=en) (σ0:=σ0) B z (o (j,w') (by simp)) u;rw[C]at hs;injection hs with hs
      apply d;rw[h1];simp[tr,m,hs,bv]
     ·cases h
theorem A0q (a:Inv ops q σ0 en i E G σ) (l:Zb ops k) (j:i≤k) {c:Ch} (d:tr en c=true) {o:Oper} {vc:Prop} {v:AV} {obs:List (Nat×Obj)} (h:o6 tb ops q σ0.objs c G E σ.env o (Gy o.op)=some (vc,v,obs)) (B:vc) :
  ∃m:Prop,aq tb ⟨(Ah ops en σ0 (Aa i)).env,Bo q (F2 o.op) σ0.objs (ES ops en (Aa i))⟩ (o.dst.getD 0) o.op=some (m,v,obs)∧m:=by
 cases hp:Gy o.op with
 | none =>
  rw[hp]at h;simp only[o6]at h;refine⟨vc,Qr (σ:=⟨Il c G σ.env,Kg q o.op σ0.objs E⟩) ?_ ?_ h,B⟩
  ·intro n x hn;have:Kg q o.op σ0.objs E=Bo q (F2 o.op) σ0.objs E:=by cases E<;>rfl
   simp only at hn ⊢;rw[this,a.E]at hn;exact hn
  ·intro x _ v e;cases x with
   | tmp t=>exact XN a d e
   | const C=>exact e
   | global g=>exact e
   | func f=>exact e
 | some p =>
  obtain⟨s,x,y⟩:=p;rw[hp]at h;have A:o.op=.pick s x y:=by
   unfold Gy at hp;split at hp
   ·rename_i z;cases hp;exact z
   ·cases hp
  simp only[o6]at h;rw[A];cases s with
  | const _=>simp[L1]at h
  | func _=>simp[L1]at h
  | global _=>simp[L1]at h
  | tmp s =>
   simp only[L1]at h;unfold ML at h;split at h
   ·rename_i b p r h1 u w;cases h;have hs:=XN a d h1;refine⟨True,?_,trivial⟩;have h0:AZ ⟨(Ah ops en σ0 (Aa i)).env,Bo q (F2 (Op.pick (.tmp s) x y)) σ0.objs (ES ops en (Aa i))⟩ (.tmp s)=some (.p .bool b):=hs;simp only[aq];rw[h0];cases b with
    | true =>
     simp only[J1];rw[XO a l j d hs u];rfl
    | false =>
     simp only[J1];rw[XO a l j d hs w];rfl
   ·cases h
end
theorem Oi {rest:List Oper} (R:Zb ops k):∀ {fr:List Oper} {i:Nat} {E:List (Nat×List (Nat×Obj))} {G:Gs} {σ σ':St} {en:Nat→En} {vc:Prop},J8 tb ops q σ0.objs rest fr i E G σ=some (vc,σ')→vc→Inv ops q σ0 en i E G σ→i+fr.length=k→(∀j,j<fr.length→ops[i+j]?=fr[j]?) →
  ∃l:Nat→En,(∀j,j<i→l j=en j)∧(∀j o,i≤j→j<k→ops[j]?=some o→Rg tb ops q σ0 l j o) ∧
   ∃(D:Prop) (σ2:St),Bl tb ops rest σ2=some (D,σ')∧D∧(∀s v,lk s σ2.env=some v→lk s (Ah ops l σ0 (Aa k)).env=some v)∧σ2.objs=(Ah ops l σ0 (Aa k)).objs
 | [],i,E,G,σ,σ',en,vc,h,H,p,hk,_=>by
  simp only[J8]at h;simp at hk;subst hk;exact⟨en,fun _ _=>rfl,fun j o h1 O=>by omega,vc,σ,h,H,p.env,p.objs⟩
 | o :: r,i,E,G,σ,σ',en,vc,h,H,p,hk,ao=>by
  have am:ops[i]?=some o:=by simpa using ao 0 (by simp)
  have Q:Ac ops i=o.dst:=by simp[Ac,am]
  have W:i<k:=by simp at hk;omega
  simp only[J8]at h;cases V:Gx ops G σ.env i o.guard with
  | none=>rw[V]at h;simp[evMG]at h
  | some au =>
   obtain⟨c,T⟩:=au;obtain⟨bh,hT,ag⟩:=kT p R (ACy W) V;rw[V]at h;simp only[evMG]at h;cases Z:o6 tb ops q σ0.objs c G E σ.env o (Gy o.op) with
   | none =>
    rw[Z]at h;unfold evMQ at h;split at h
    ·rename_i U;cases U
    ·rename_i U;cases U
    ·cases h
   | some bp =>
    obtain⟨bq,v,obs⟩:=bp;rw[Z]at h;have ar:∀(d:Nat) (e:En) (M:List (Nat×List (Nat×Obj))) (N:Gs) (L:St) (F:Prop),o.dst=some d→e.b=T→(T=true→bq∧e.v=v∧e.obs=obs∧BQ obs σ=true)→(T=false→e.v=.raw undef∧e.obs=[]) →
      (∀s a,lk s L.env=some a→if s=d then a=e.v else lk s σ.env=some a)→L.objs=e.obs++σ.objs →
      (∀s A B a,(s,A,B,a)∈N→(s,A,B,a)∈G∨(s=d∧A=c∧B=T∧a=v))→(∀ts,Bo q ts σ0.objs M=Bo q ts σ0.objs ((d,e.obs) :: E)) →
      J8 tb ops q σ0.objs rest r (i+1) M N L=some (F,σ')→F →
      ∃l:Nat→En,(∀j,j<i→l j=en j)∧(∀j o,i≤j→j<k→ops[j]?=some o→Rg tb ops q σ0 l j o) ∧
       ∃(D:Prop) (σ2:St),Bl tb ops rest σ2=some (D,σ')∧D∧(∀s v,lk s σ2.env=some v→lk s (Ah ops l σ0 (Aa k)).env=some v)∧σ2.objs=(Ah ops l σ0 (Aa k)).objs:=by
     intro d e M N L F n J aj ai be bi ba ay bf bn
     let z:Nat→En:=fun j=>if j=i then e else en j
     have I:z i=e:=by simp[z]
     have heq:∀j,j<i→z j=en j:=fun j t=>by simp[z,show j≠i by omega]
     have ae:Ah ops z σ0 (Aa i)=Ah ops en σ0 (Aa i):=Je fun j t=>heq j (A9.1 t);have ad:ES ops z (Aa i)=ES ops en (Aa i):=by
      apply AAD;intro j t;rw[heq j (A9.1 t)]
     have S:Ah ops z σ0 (Aa (i+1))=(Ah ops en σ0 (Aa i)).add e.v e.obs (some d):=by
      simp only[Aa,Ah,ae,I,Q,n]
     have an:∀s a,s≠d→lk s (Ah ops en σ0 (Aa i)).env=some a→lk s (Ah ops z σ0 (Aa (i+1))).env=some a:=by
      intro s a hs u;rw[S];simp only[St.add,lk,At hs];exact u
     have ak:lk d (Ah ops z σ0 (Aa (i+1))).env=some e.v:=by
      rw[S];simp[St.add,lk]
     have bb:Inv ops q σ0 z (i+1) M N L:=by
      refine⟨fun s a u=>?_,fun s A B a w=>?_,fun j t m=>?_,?_,fun ts=>?_⟩
      ·have:=be s a u;split at this
       ·rename_i hs;rw[hs,this];exact ak
       ·rename_i hs;exact an s a hs (p.env s a this)
      ·rcases ba s A B a w with w|⟨rfl,rfl,rfl,rfl⟩
       ·obtain⟨h1,O,P,j,t,ah,m⟩:=p.G s A B a w;have bj:s≠d:=by
         rintro rfl;exact R j i t W (by rw[ah,Q,n])
        refine⟨by rw[Rh (en:=en) fun k hk=>heq _ (P k hk)];exact h1,fun hT=>an s a bj (O hT),fun k hk=>by have:=P k hk;omega,j,by omega,ah,by rw[heq j t];exact m⟩
       ·refine⟨by rw[Rh (en:=en) fun k hk=>heq _ (ag k hk)];exact hT,fun bc=>?_,fun k hk=>by have:=ag k hk;omega,i,by omega,by rw[Q,n],by rw[I];exact J⟩;rw[ak,(aj bc).2.1]
      ·by_cases X:j=i
       ·subst X;rw[I]at m ⊢;exact(ai (by rw[←J];exact m)).1
       ·rw[heq j (by omega)]at m ⊢;exact p.f j (by omega) m
      ·rw[S,bi,p.objs];rfl
      ·rw[ay];simp only[ES,Aa,tO,I,Q,n,ACq,Bo];have:=p.E ts;rw[←ad]at this;simp only[ES]at this;rw[this]
     obtain⟨l,h1,O,P⟩:=Oi R bf bn bb (by simp at hk ⊢;omega) (fun j t=>by
      have:=ao (j+1) (by simp;omega);rw[show i+(j+1)=i+1+j by omega]at this;simpa using this)
     refine⟨l,fun j t=>by rw[h1 j (by omega),heq j t],fun j bo br av Y=>?_,P⟩;by_cases X:j=i
     ·subst X;rw[am]at Y;cases Y;have K:l j=e:=by rw[h1 j (by omega),I]
      have af:Ah ops l σ0 (Aa j)=Ah ops en σ0 (Aa j):=by
       rw[←ae];exact Je fun q aa=>h1 q (by have:=A9.1 aa;omega)
      have az:ES ops l (Aa j)=ES ops en (Aa j):=by
       rw[←ad];apply AAD;intro q aa;rw[h1 q (by have:=A9.1 aa;omega)]
      refine⟨by rw[af,K,J];exact bh,fun m=>?_,fun m=>?_⟩
      ·rw[K,J]at m;obtain⟨bk,bl,bm,aq⟩:=aj m;obtain⟨D,aw,ax⟩:=A0q p R (ACy W) (by rw[←hT];exact m) Z bk;rw[K,af,az,bl,bm];exact⟨D,aw,ax,by
        simp only[BQ]at aq ⊢;rw[←p.objs];exact aq⟩
      ·rw[K,J]at m;rw[K];exact ai m
     ·exact O j bo (by omega) av Y
    cases c with
    | nil =>
     cases n:o.dst with
     | none=>rw[n]at h;simp[evMQ]at h
     | some d =>
      rw[n]at h;simp only[evMQ]at h;split at h
      ·rename_i bg;cases C:J8 tb ops q σ0.objs rest r (i+1) (Ij d obs E) G (σ.add v obs (some d)) with
       | none=>rw[C]at h;simp[TS]at h
       | some ab =>
        obtain⟨F,σ2⟩:=ab;rw[C]at h;simp only[TS]at h;cases h;have bd:T=true:=by rw[hT];rfl
        refine ar d ⟨T,v,obs⟩ _ _ _ F n rfl (fun _=>⟨H.1,rfl,rfl,bg⟩) (fun hf=>by rw[bd]at hf;cases hf) (fun s a u=>?_) rfl (fun s A B a w=>.inl w) (fun ts=>?_) C H.2
        ·simp only[St.add,lk]at u;split at u
         ·rename_i hs;cases u;simp[hs]
         ·rename_i hs;rw[At hs];exact u
        ·cases obs with
         | nil=>simp[Ij,Bo]
         | cons x y=>rfl
      ·cases h
    | cons g A =>
     cases obs with
     | cons x y=>simp[evMQ]at h
     | nil =>
      cases n:o.dst with
      | none=>rw[n]at h;simp[evMQ]at h
      | some d =>
       rw[n]at h;simp only[evMQ]at h;split at h
       ·rename_i al;cases C:J8 tb ops q σ0.objs rest r (i+1) E ((d,g :: A,T,v) :: G) σ with
        | none=>rw[C]at h;simp[TS]at h
        | some ab =>
         obtain⟨F,σ2⟩:=ab;rw[C]at h;simp only[TS]at h;cases h;refine ar d ⟨T,bif T then v else .raw undef,[]⟩ _ _ _ F n rfl (fun ap=>⟨H.1 ap,by simp[ap],rfl,by simp[BQ]⟩) (fun hf=>⟨by simp[hf],rfl⟩) (fun s a u=>?_) rfl (fun s c2 B a w=>?_) (fun ts=>?_) C H.2
         ·have:s≠d:=by
           rintro rfl;rw[u]at al;cases al
          rw[At this];exact u
         ·rcases Do.1 w with w|w
          ·cases w;exact .inr ⟨rfl,rfl,rfl,rfl⟩
          ·exact .inl w
         ·simp[Bo]
       ·cases h
end
section
variable {c:Cx} {ops:Array Oper} {k:Nat} {anc:List (List Nat)} {σ0 σ':St} {en:Nat→En} {Q:Exit→Act→World→Prop}
theorem o8 {o:Oper} {e:Edge} (b:e∈o.after) (a:Region.binds .any e=true):e.on∈De o:=by
 simp only[De,Of,AAg];exact⟨e,⟨by simpa using b,a⟩,rfl⟩
theorem DI {listed:Array Bool} {i:Nat}:i∈Region.ready .any ops listed↔listed.getD i true=false∧∃o,ops[i]?=some o∧∀e∈De o,listed.getD e false=true:=by
 rw[mem_ready];constructor
 ·rintro⟨h1,o,d,b⟩;refine⟨h1,o,d,fun e a=>?_⟩;simp only[De,Of,AAg]at a;obtain⟨x,⟨f,c⟩,rfl⟩:=a;exact b x (by simpa using f) c
 ·rintro⟨h1,o,d,b⟩;exact⟨h1,o,d,fun e a c=>b _ (o8 a c)⟩
structure UF (ops:Array Oper) (k:Nat) (anc:List (List Nat)):Prop where
 lt:∀i o,ops[i]?=some o→∀e∈De o,e<i
 cl:∀i o,ops[i]?=some o→∀j∈anc.getD i [],j∈De o∨∃e∈De o,j∈anc.getD e []
 front:∀i o,ops[i]?=some o→i<k→(∃d,o.dst=some d)∧(∀t∈LX ops.toList o,∀j,j<k→Ac ops.toList j=some t→j∈anc.getD i [])∧∀j,j<i→Ac ops.toList j≠o.dst
 back:∀i o,ops[i]?=some o→k≤i→∀j,j<i→j∈anc.getD i []
 k:k≤ops.size
theorem A1j (h:ZZ ops.toList k anc=true):UF ops k anc:=by
 simp only[ZZ,An,DO,oN,GO]at h;obtain⟨hk,h⟩:=h;have hi:∀i o,ops[i]?=some o→opB ops.toList k anc i o=true:=by
  intro i o a;have n:i<ops.toList.length:=by
   have:=(dO.1 a).1;simpa using this
  have:=h i n;have p:ops.toList[i]?=some o:=by simpa using a
  rw[p]at this;exact this
 refine⟨fun i o a e m=>?_,fun i o a j b=>?_,fun i o a d=>?_,fun i o a d j b=>?_,by simpa using hk⟩
 ·have:=hi i o a;simp only[opB,An,DO,GO]at this;exact this.1.1 e m
 ·have:=hi i o a;simp only[opB,An,DO,AA1,OF,AW]at this;exact this.1.2 j b
 ·have:=hi i o a;simp only[opB,d,AAv,An,DO,oN,AA1,AW,ABR]at this;obtain⟨_,⟨h1,f⟩,g⟩:=this;refine⟨AB2.1 h1,fun t q j b l=>?_,g⟩;rcases f t q j b with c|c
  ·exact absurd l c
  ·exact c
 ·have:=hi i o a;simp only[opB,show ¬i<k by omega,AAN,An,DO,oN,AW]at this;exact this.2 j b
theorem Ri (c:UF ops k anc) {listed:Array Bool} (l:∀i o,ops[i]?=some o→listed.getD i true=true→∀e∈De o,listed.getD e false=true) :
  ∀i o,ops[i]?=some o→(∀e∈De o,listed.getD e false=true)→∀j∈anc.getD i [],listed.getD j false=true:=by
 intro i;induction i using Nat.strongRecOn with
 | _ i r =>
  intro o b d j m;rcases c.cl i o b j m with h1|⟨e,f,n⟩
  ·exact d j h1
  ·have q:=c.lt i o b e f;have s:i<ops.size:=(dO.1 b).1;have h:ops[e]?=some (ops[e]'(by omega)):=AA7 (by omega);have a:=d e f;have p:listed.getD e true=true:=by
    by_cases g:e<listed.size
    ·simp[Array.getD,g]at a ⊢;exact a
    ·simp[Array.getD,g]at a
   exact r e q _ h (l e _ h p) j n
theorem UG {l:List Oper} {p:Nat} {o:Oper} {r:List Oper} (h:l.drop p=o :: r):l[p]?=some o∧r=l.drop (p+1):=by
 constructor
 ·have:(l.drop p)[0]?=some o:=by rw[h];rfl
  simpa[AAe] using this
 ·rw[←ABD,h];rfl
theorem NF {F:Fence} {P:Program} (f:UF ops k anc):∀ {rest:List Oper} {p:Nat} {listed:Array Bool} {a:Act} {w:World},ops.toList.drop p=rest→k≤p→p≤ops.size→listed.size=ops.size →
  (∀i,i<ops.size→(listed.getD i true=true↔i<p))→wpListIn F 0 P ops Q rest a w→wpAnyIn F 0 P .any ops Q rest.length listed a w
 | [],p,listed,a,w,s,K,N,u,c,d=>by
  have hp:p=ops.size:=by
   have:=AB5 List.length s;simp at this;omega
  refine⟨?_,d⟩;apply ABX.2;intro i hi;rw[DI]at hi;obtain⟨h1,o,m,_⟩:=hi;have h:i<ops.size:=(dO.1 m).1;have:=(c i h).2 (by omega);rw[h1]at this;cases this
 | o :: r,p,listed,a,w,s,K,N,u,c,d=>by
  obtain⟨g,C⟩:=UG s;have g:ops[p]?=some o:=by simpa using g
  have x:p<ops.size:=(dO.1 g).1;have n:∀e b,e<ops.size→listed.getD e b=listed.getD e true:=fun e b l=>by
   have:e<listed.size:=by omega
   simp[Array.getD,this]
  have G:∀i o,ops[i]?=some o→listed.getD i true=true→∀e∈De o,listed.getD e false=true:=by
   intro i o m h1 e l;have h:i<ops.size:=(dO.1 m).1;have z:=(c i h).1 h1;have q:=f.lt i o m e l;rw[n e false (by omega)];exact(c e (by omega)).2 (by omega)
  have O:∀i,i∈Region.ready .any ops listed→i=p:=by
   intro i hi;rw[DI]at hi;obtain⟨h1,D,v,z⟩:=hi;have h:i<ops.size:=(dO.1 v).1;have S:¬i<p:=fun L=>by rw[(c i h).2 L]at h1;cases h1
   by_cases t:i=p
   ·exact t
   ·have q:=Ri f G i D v z p (f.back i D v (by omega) p (by omega));rw[n p false x]at q;have:=(c p x).1 q;omega
  refine⟨fun M=>?_,fun i hi=>?_⟩
  ·exfalso;have:p∈Region.ready .any ops listed:=by
    rw[DI];refine⟨?_,o,g,fun e l=>?_⟩
    ·cases H:listed.getD p true with
     | false=>rfl
     | true=>have:=(c p x).1 H;omega
    ·have:=f.lt p o g e l;rw[n e false (by omega)];exact(c e (by omega)).2 this
   rw[M]at this;cases this
  ·have t:=O i hi;subst t;have B:∀(j:Nat),j<ops.size→((listed.setIfInBounds i true).getD j true=true↔j<i+1):=by
    intro j I;have J:j<listed.size:=by omega
    by_cases A:j=i
    ·subst A;simp[Array.getD,J]
    ·have h1:(listed.setIfInBounds i true).getD j true=listed.getD j true:=getD_set_ne true (fun e=>A e.symm);rw[h1,c j I];omega
   unfold wpOpIn;rw[g];simp only;unfold wpListIn at d;split
   ·rename_i y;rw[BY y]at d;exact Oper.wpIn_mono (fun R w' E=>NF f C.symm (by omega) (by omega) (by simpa using u) B E) d
   ·rename_i y;rw[At y]at d;exact⟨d.1,NF f C.symm (by omega) (by omega) (by simpa using u) B d.2⟩
end
end
section
open Go Go.RowKit
theorem Dm:∀(k:Nat) (l:List Nat),l.Nodup→(∀j∈l,j<k)→l.length≤k
 | 0,l,_,h=>by
  cases l with
  | nil=>simp
  | cons x r=>have:=h x (by simp);omega
 | k+1,l,hn,h=>by
  by_cases hk:k∈l
  ·have:=Dm k (l.erase k) (hn.erase k) (fun j a=>by
    have h1:=(hn.mem_erase_iff).1 a;have:=h j h1.2;have:=h1.1;omega)
   rw[ABp hk]at this;omega
  ·have:=Dm k l hn (fun j a=>by
    have:=h j a;have:j≠k:=fun e=>hk (e▸a);omega)
   omega
theorem cQ:∀(k:Nat) (l:List Nat),(∀j,j<k→j∈l)→k≤l.length
 | 0,l,_=>by simp
 | k+1,l,h=>by
  have hk:=h k (by omega);have:=cQ k (l.erase k) (fun j a=>(AC1 (by omega)).2 (h j (by omega)));rw[ABp hk]at this;have:=ABc hk;omega
theorem Rj {c:Cx} {σ σ':St} {a:Act} {w:World} (j:∀s,lk s σ'.env=lk s σ.env) (f:∀n,lk n σ'.objs=lk n σ.objs) (h:c.sat σ a w):c.sat σ' a w:=by
 obtain⟨ρ,h⟩:=h;have d:Fl σ'=Fl σ:=by
  funext n;simp only[Fl,f]
 have g:∀w,vw w c.O0 σ' ρ=vw w c.O0 σ ρ:=by
  intro w;have l:own c.O0 σ' ρ=own c.O0 σ ρ:=by
   funext b;simp only[own,d]
  simp only[vw,d,l]
 refine⟨ρ,h.frm,h.nt,h.defers,fun p hp=>by rw[d];exact h.pin p hp,?_,?_,?_,?_⟩
 ·intro n o hn;rw[g];exact h.objs n o (by rw[←f];exact hn)
 ·intro n b k i;exact h.free n b (by rw[←d];exact k) i
 ·intro n m b h1 e;rw[d]at h1 e;exact h.dist n m b h1 e
 ·intro s v hs;rw[g];exact h.env s v (by rw[←j];exact hs)
theorem XP {c:Cx} {σ:St} {a:Act} {w:World} (h:c.sat σ a w):c.sat σ a { w with drawn:=w.drawn+1 }:=by
 obtain⟨ρ,h⟩:=h;have hk:B7 (vw w c.O0 σ ρ) (vw { w with drawn:=w.drawn+1 } c.O0 σ ρ):=⟨fun _ _ h=>h,fun _ h=>h,fun _ _=>rfl,fun _ _ _=>rfl⟩;exact⟨ρ,⟨h.frm.os,h.frm.tape,h.frm.output,h.frm.size,h.frm.block⟩,h.nt,h.defers,h.pin,fun n o b=>(h.objs n o b).keeps hk fun _ _=>rfl,h.free,h.dist,fun s v hs=>(h.env s v hs).keeps hk⟩
theorem Qs {c:Cx} {σ σ':St} {a:Act} {w:World} (d:∀s v,lk s σ'.env=some v→lk s σ.env=some v) (e:∀n,lk n σ'.objs=lk n σ.objs) (h:c.sat σ a w):c.sat σ' a w:=by
 have b:c.sat ⟨σ.env,σ'.objs⟩ a w:=Rj (σ:=σ) (fun _=>rfl) e h;obtain⟨ρ,h⟩:=b;exact⟨ρ,h.frm,h.nt,h.defers,h.pin,h.objs,h.free,h.dist,fun s v hs=>h.env s v (d s v hs)⟩
theorem Ki {c:Cx} {ops:Array Oper} {σ:St} {a:Act} {w:World} (hs:c.sat σ a w) {o:Oper} {b:Bool} (h:Jd ops.toList σ b o.guard):Region.wanted o (yielded ops a.tmps)=b:=by
 cases d:o.guard with
 | none =>
  rw[d]at h;simp only[Jd]at h;simp[Region.wanted,d,h]
 | some g =>
  obtain⟨j,n⟩:=g;rw[d]at h;simp only[Jd]at h;obtain⟨s,e,h⟩:=h;rcases h with ⟨x,f,rfl⟩|⟨f,rfl⟩
  ·refine GV hs ?_;rw[d];simp only[EH];simp only[Ac]at e;rw[e];simp only[JS,f,OV]
  ·obtain⟨ρ,hs⟩:=hs;have k:a.tmps.getD s undef=undef:=hs.env s _ f;have l:(ops[j]?).bind (·.dst)=some s:=by simpa[Ac] using e
   have m:yielded ops a.tmps j=none:=by
    simp only[yielded,l,Option.bind_some];by_cases i:s<a.tmps.size
    ·have:a.tmps.getD s undef=a.tmps[s]:=by simp[Array.getD,i]
     rw[this]at k;rw[AA7 i,k];rfl
    ·rw[Array.getElem?_eq_none (by omega)]
   simp[Region.wanted,d,m]
section
variable {c:Cx} {ops:Array Oper} {k:Nat} {q:Bool} {anc:List (List Nat)} {σ0 σ':St} {en:Nat→En} {Q:Exit→Act→World→Prop}
theorem A0r (hF:∀j o,j<k→ops[j]?=some o→Rg c.tb ops.toList q σ0 en j o) (hk:k≤ops.size):Sep σ0 en k:=by
 have one:∀j,j<k→∀n o,lk n (en j).obs=some o→lk n (Ah ops.toList en σ0 (Aa j)).objs=none:=by
  intro j a n o hn;have p:ops[j]?=some (ops[j]'(by omega)):=AA7 (by omega);have h1:=hF j _ a p;cases l:(en j).b with
  | true =>
   obtain⟨_,_,_,hf⟩:=h1.t l;exact MB hf hn
  | false =>
   rw[(h1.f l).2]at hn;simp[lk]at hn
 have low:∀i j,i<j→j<k→∀n o d,lk n (en i).obs=some o→lk n (en j).obs=some d→False:=by
  intro i j m a n o d h1 g;have:=one j a n d g;rw[Et,Av]at this;cases e:lk n ((Aa j).flatMap fun j=>(en j).obs) with
  | some x=>rw[e]at this;simp at this
  | none =>
   have:=Jf e i (A9.2 m);rw[this]at h1;cases h1
 refine⟨fun j a n o hn=>?_,fun i j hi a n o d h1 g=>?_⟩
 ·have:=one j a n o hn;rw[Et,Av]at this;cases e:lk n ((Aa j).flatMap fun j=>(en j).obs) with
  | some x=>rw[e]at this;simp at this
  | none=>rw[e]at this;simpa using this
 ·rcases ABn i j with h|h|h
  ·exact(low i j h a n o d h1 g).elim
  ·exact h
  ·exact(low j i h hi n d o g h1).elim
theorem XQ (d:UF ops k anc) {l:List Nat} (g:∀j∈l,j<k) {s j:Nat} (f:j∈l) (c:Ac ops.toList j=some s):l.find? (fun j=>Ac ops.toList j==some s)=some j:=by
 have m:∀i,i∈l→Ac ops.toList i=some s→i=j:=by
  intro i hi e;have h1:=g i hi;have b:=g j f;have n:=d.k;have get:∀x,x<k→Ac ops.toList x=(ops[x]?).bind (·.dst):=fun x _=>by simp[Ac]
  rcases ABn i j with h|h|h
  ·have a:ops[j]?=some (ops[j]'(by omega)):=AA7 (by omega);have:=(d.front j _ a b).2.2 i h;rw[get j b,a]at c;rw[e]at this;exact absurd c.symm this
  ·exact h
  ·have a:ops[i]?=some (ops[i]'(by omega)):=AA7 (by omega);have:=(d.front i _ a h1).2.2 j h;rw[get i h1,a]at e;rw[c]at this;exact absurd e.symm this
 cases hf:l.find? (fun j=>Ac ops.toList j==some s) with
 | none =>
  have:=ABM.1 hf j f;simp[c]at this
 | some i =>
  have h1:=ABC hf;have b:=ACA hf;rw[m i h1 (by simpa using b)]
theorem Rk (d:UF ops k anc) {l l':List Nat} (b:∀j∈l,j<k) (e:∀j∈l',j<k) {s:Nat} (h:∀j,j<k→Ac ops.toList j=some s→j∈l∧j∈l') :
  lk s (Ah ops.toList en σ0 l).env=lk s (Ah ops.toList en σ0 l').env:=by
 rw[Eu,Eu];by_cases f:∃j,j<k∧Ac ops.toList j=some s
 ·obtain⟨j,c,a⟩:=f;have:=h j c a;rw[XQ d b this.1 a,XQ d e this.2 a]
 ·have none:∀l:List Nat,(∀j∈l,j<k)→l.find? (fun j=>Ac ops.toList j==some s)=none:=by
   intro l b;apply ABM.2;intro j c a;exact f ⟨j,b j c,by simpa using a⟩
  rw[none l b,none l' e]
theorem kU (ab:c.Ok) (C:UF ops k anc) (bm:∀o∈ops.toList,Ho c.nt o=true) (hF:∀j o,j<k→ops[j]?=some o→Rg c.tb ops.toList false σ0 en j o)
  {σ2:St} (ar:∀s v,lk s σ2.env=some v→lk s (Ah ops.toList en σ0 (Aa k)).env=some v) (au:σ2.objs=(Ah ops.toList en σ0 (Aa k)).objs) (hT:∀M w',c.sat σ2 M w'→wpListIn (FR c.r) 0 c.P ops Q (ops.toList.drop k) M w') :
  ∀(m:Nat) (ex:List Nat) (listed:Array Bool) (a:Act) (w:World),ex.Nodup→(∀j∈ex,j<k)→m+ex.length=ops.size→listed.size=ops.size→(∀i,i<ops.size→(listed.getD i true=true↔i∈ex)) →
   (∀i o,ops[i]?=some o→i∈ex→∀e∈De o,e∈ex)→c.sat (Ah ops.toList en σ0 ex) a w→wpAnyIn (FR c.r) 0 c.P .any ops Q m listed a w:=by
 have ao:=C.k;have L:=A0r hF ao;intro m;induction m with
 | zero =>
  intro ex listed a w S A bs aa E ah hs;have h1:=Dm k ex S A;have br:k=ops.size:=by omega
  by_cases D:∀j,j<k→j∈ex
  ·have ax:ops.toList.drop k=[]:=by simp[br]
   have U:c.sat σ2 a w:=Qs ar (fun _=>by rw[au]) <| Rj
    (fun s=>(Rk C A (fun j y=>A9.1 y) fun j y _=>⟨D j y,A9.2 y⟩).symm)
    (fun n=>ACl fun o=>by
     rw[EI L (fun j y=>A9.1 y),EI L A];simp only[A9];constructor
     ·rintro (⟨j,y,h⟩|⟨h1,G⟩)
      ·exact .inl ⟨j,D j y,h⟩
      ·exact .inr ⟨fun j y=>h1 j (A j y),G⟩
     ·rintro (⟨j,y,h⟩|⟨h1,G⟩)
      ·exact .inl ⟨j,A j y,h⟩
      ·exact .inr ⟨fun j y=>h1 j (D j y),G⟩) hs
   have:=NF (Q:=Q) (F:=FR c.r) (P:=c.P) C (rest:=[]) (p:=k) (listed:=listed) (a:=a) (w:=w) ax (If _) ao aa (fun i hi=>by
    rw[E i hi];exact⟨A i,D i⟩) (by rw[←ax];exact hT a w U)
   exact this
  ·exfalso;apply D;intro j y;apply By;intro ap;have:=Dm k (j :: ex) (AAc.2 ⟨ap,S⟩) (fun i hi=>by
    rcases Do.1 hi with rfl|hi
    ·exact y
    ·exact A i hi)
   simp at this;omega
 | succ m cf =>
  intro ex listed a w S A bs aa E ah hs;have W:∀e b,e<ops.size→listed.getD e b=listed.getD e true:=fun e b B=>by
   have:e<listed.size:=by omega
   simp[Array.getD,this]
  by_cases D:∀j,j<k→j∈ex
  ·have cp:ex.length=k:=ABJ (Dm k ex S A) (cQ k ex D);have U:c.sat σ2 a w:=Qs ar (fun _=>by rw[au]) <| Rj
    (fun s=>(Rk C A (fun j y=>A9.1 y) fun j y _=>⟨D j y,A9.2 y⟩).symm)
    (fun n=>ACl fun o=>by
     rw[EI L (fun j y=>A9.1 y),EI L A];simp only[A9];constructor
     ·rintro (⟨j,y,h⟩|⟨h1,G⟩)
      ·exact .inl ⟨j,D j y,h⟩
      ·exact .inr ⟨fun j y=>h1 j (A j y),G⟩
     ·rintro (⟨j,y,h⟩|⟨h1,G⟩)
      ·exact .inl ⟨j,A j y,h⟩
      ·exact .inr ⟨fun j y=>h1 j (D j y),G⟩) hs
   have:=NF (Q:=Q) (F:=FR c.r) (P:=c.P) C (rest:=ops.toList.drop k) (p:=k) (listed:=listed) (a:=a) (w:=w) rfl (If _) ao aa (fun i hi=>by
    rw[E i hi];exact⟨A i,D i⟩) (hT a w U)
   rw[show (ops.toList.drop k).length=m+1 by simp;omega]at this;exact this
  ·refine⟨fun bu=>?_,fun i hi=>?_⟩
   ·exfalso;apply D;intro j;induction j using Nat.strongRecOn with
    | _ j ch =>
     intro y;apply By;intro ap;have T:ops[j]?=some (ops[j]'(by omega)):=AA7 (by omega);have:j∈Region.ready .any ops listed:=by
      rw[DI];refine⟨?_,_,T,fun e B=>?_⟩
      ·cases bo:listed.getD j true with
       | false=>rfl
       | true=>exact absurd ((E j (by omega)).1 bo) ap
      ·have H:=C.lt j _ T e B;rw[W e false (by omega)];exact(E e (by omega)).2 (ch e H (by omega))
     rw[bu]at this;cases this
   ·rw[DI]at hi;obtain⟨h1,o,z,G⟩:=hi;have ad:i<ops.size:=(dO.1 z).1;have be:i∉ex:=fun h=>by rw[(E i ad).2 h]at h1;cases h1
    have bl:∀e∈De o,e∈ex:=fun e B=>by
     have H:=C.lt i o z e B;have av:=G e B;rw[W e false (by omega)]at av;exact(E e (by omega)).1 av
    have ag:∀j∈anc.getD i [],j∈ex:=by
     have bj:∀i o,ops[i]?=some o→listed.getD i true=true→∀e∈De o,listed.getD e false=true:=by
      intro i o z h1 e B;have ad:i<ops.size:=(dO.1 z).1;have H:=C.lt i o z e B;rw[W e false (by omega)];exact(E e (by omega)).2 (ah i o z ((E i ad).1 h1) e B)
     intro j y;have H:=Ri C bj i o z G j y;by_cases bc:j<ops.size
     ·rw[W j false bc]at H;exact(E j bc).1 H
     ·have:¬j<listed.size:=by omega
      simp[Array.getD,this]at H
    have R:i<k:=by
     apply By;intro co;exact D fun j y=>ag j (C.back i o z (by omega) j (by omega))
    have ak:=C.front i o z R;obtain⟨d,cn⟩:=ak.1;have bk:Ac ops.toList i=o.dst:=by simp[Ac,z]
    have bf:∀t∈LX ops.toList o,lk t (Ah ops.toList en σ0 ex).env=lk t (Ah ops.toList en σ0 (Aa i)).env:=by
     intro t cc;refine Rk C A (fun j y=>by have:=A9.1 y;omega) fun j y ai=>?_;have bb:=ak.2.1 t cc j y ai;refine⟨ag j bb,A9.2 ?_⟩;have:∀i o,ops[i]?=some o→∀j∈anc.getD i [],j<i:=by
      intro i;induction i using Nat.strongRecOn with
      | _ i cg =>
       intro o z j y;rcases C.cl i o z j y with af|⟨e,B,bp⟩
       ·exact C.lt i o z j af
       ·have bi:=C.lt i o z e B;have ad:i<ops.size:=(dO.1 z).1;have:=cg e bi _ (AA7 (by omega)) j bp;omega
     exact this i o z j bb
    have bw:Ops ⟨(Ah ops.toList en σ0 (Aa i)).env,Bo false (F2 o.op) σ0.objs (ES ops.toList en (Aa i))⟩ (Ah ops.toList en σ0 ex) o.op.operands.toList:=by
     intro x ce v V;cases x with
     | tmp t =>
      simp only[AZ]at V ⊢;rw[bf t (by
       simp only[LX,ON,ACd];exact .inl ⟨_,ce,rfl⟩)]
      exact V
     | const cq=>exact V
     | global g=>exact V
     | func f=>exact V
    have bv:ZE ⟨(Ah ops.toList en σ0 (Aa i)).env,Bo false (F2 o.op) σ0.objs (ES ops.toList en (Aa i))⟩ (Ah ops.toList en σ0 ex):=by
     intro n J hn;refine o7 L (fun j y=>by have:=A9.1 y;omega) A (fun j y an=>?_) hn;have Z:=A9.1 y;have T:ops[j]?=some (ops[j]'(by omega)):=AA7 (by omega);obtain⟨aq,ai⟩:=(C.front j _ T (by omega)).1;have aw:Ac ops.toList j=some aq:=by simp[Ac,T,ai]
     rw[aw]at an;simp only[ACp,ACq,AW]at an;refine ag j (ak.2.1 aq ?_ j (by omega) aw);simp only[LX,ON];exact .inl an
    have aj:=hF i o R z;have I:Jd ops.toList (Ah ops.toList en σ0 ex) (en i).b o.guard:=by
     have I:=aj.g;cases al:o.guard with
     | none=>rw[al]at I;exact I
     | some g =>
      obtain⟨j,cs⟩:=g;rw[al]at I;simp only[Jd]at I ⊢;obtain⟨s,az,I⟩:=I;refine⟨s,az,?_⟩;rw[bf s (by
       simp only[LX,al,ON,az];exact .inr (by simp))]
      exact I
    have ae:=Ki hs I;have bt:o∈ops.toList:=by
     have:o∈ops:=Array.mem_of_getElem? z;simpa using this
    have ay:=Bd (bm o bt);have bg:∀M w',c.sat ((Ah ops.toList en σ0 ex).add (en i).v (en i).obs o.dst) M w'→wpAnyIn (FR c.r) 0 c.P .any ops Q m (listed.setIfInBounds i true) M w':=by
     intro M w' U;refine cf (i :: ex) _ M w' (AAc.2 ⟨be,S⟩) (fun j y=>?_) (by simp;omega) (by simpa using aa) (fun j y=>?_) (fun i' J N am e B=>?_) (by simp only[Ah,bk];exact U)
     ·rcases Do.1 y with rfl|y
      ·exact R
      ·exact A j y
     ·have bq:j<listed.size:=by omega
      by_cases Z:j=i
      ·subst Z;simp[Array.getD,bq]
      ·have H:(listed.setIfInBounds i true).getD j true=listed.getD j true:=getD_set_ne true (fun e=>Z e.symm);rw[H,E j y];simp[Z]
     ·rcases Do.1 am with rfl|am
      ·rw[z]at N;cases N;exact bY _ (bl e B)
      ·exact bY _ (ah i' J N am e B)
    unfold wpOpIn;rw[z];simp only;cases X:(en i).b with
    | true =>
     rw[X]at ae;rw[BY ae];obtain⟨cr,bx,cd,bn⟩:=aj.t X;obtain⟨ρ,bh⟩:=hs;have bz:=Qr bv bw bx;have ba:BQ (en i).obs (Ah ops.toList en σ0 ex)=true:=by
      simp only[BQ,DO]at bn ⊢;intro p hp;have cb:∃J,lk p.1 (en i).obs=some J:=by
       have:∀(l:List (Nat×Obj)),p∈l→∃J,lk p.1 l=some J:=by
        intro l;induction l with
        | nil=>intro h;cases h
        | cons q r ci =>
         intro h;obtain⟨ck,cm⟩:=q;simp only[lk];by_cases B:p.1=ck
         ·exact⟨cm,by rw[BY B]⟩
         ·rw[At B];rcases Do.1 h with rfl|h
          ·exact absurd rfl B
          ·exact ci h
       exact this _ hp
      obtain⟨J,N⟩:=cb;have:lk p.1 (Ah ops.toList en σ0 ex).objs=none:=by
       cases bd:lk p.1 (Ah ops.toList en σ0 ex).objs with
       | none=>rfl
       | some cj =>
        rw[EI L A]at bd;rcases bd with ⟨j,y,Y⟩|⟨_,Y⟩
        ·have:=L.2 i j R (A j y) p.1 J cj N Y;subst this;exact absurd y be
        ·rw[L.1 i R p.1 J N]at Y;cases Y
      simp[this]
     exact cF (vB ab bh) bz cd ba fun u ρ' w' ca=>bg _ _ ⟨ρ',bh.add ab.K ab.O ay ba ca⟩
    | false =>
     rw[X]at ae;rw[At (by simp[ae])];refine⟨fun _ _=>trivial,?_⟩;have:=aj.f X;have af:=LQ ab hs ay;refine bg _ _ ?_;rw[this.1,this.2];exact af
end
theorem kV {c:Cx} {ops:Array Oper} {k:Nat} {σ0:St} {en:Nat→En} {Q:Exit→Act→World→Prop} (n:c.Ok) (L:∀o∈ops.toList,Ho c.nt o=true) (hF:∀j o,j<k→ops[j]?=some o→Rg c.tb ops.toList true σ0 en j o) (hk:k≤ops.size)
  {σ2:St} (F:∀s v,lk s σ2.env=some v→lk s (Ah ops.toList en σ0 (Aa k)).env=some v) (G:σ2.objs=(Ah ops.toList en σ0 (Aa k)).objs) (hT:∀d w',c.sat σ2 d w'→wpListIn (FR c.r) 0 c.P ops Q (ops.toList.drop k) d w'):∀(m i:Nat) (a:Act) (w:World),m+i=k→c.sat (Ah ops.toList en σ0 (Aa i)) a w→wpListIn (FR c.r) 0 c.P ops Q (ops.toList.drop i) a w:=by
 intro m;induction m with
 | zero =>
  intro i a w hi hs;have:i=k:=by omega
  subst this;exact hT _ _ (Qs F (fun _=>by rw[G]) hs)
 | succ m V =>
  intro i a w hi hs;have e:ops[i]?=some (ops[i]'(by omega)):=AA7 (by omega);generalize ops[i]'(by omega)=o at e;have I:ops.toList.drop i=o :: ops.toList.drop (i+1):=by
   have:i<ops.toList.length:=by simp;omega
   rw[OS this]
   congr 1
   have y:ops.toList[i]?=some o:=by simpa using e
   rw[AT this]at y;injection y
  rw[I];have q:=hF i o (by omega) e;have p:=Ki hs q.g;have M:o∈ops.toList:=by
   have:o∈ops:=Array.mem_of_getElem? e;simpa using this
  have z:=Bd (L o M);have J:Ac ops.toList i=o.dst:=by simp[Ac,e]
  have C:∀d w',c.sat ((Ah ops.toList en σ0 (Aa i)).add (en i).v (en i).obs o.dst) d w'→wpListIn (FR c.r) 0 c.P ops Q (ops.toList.drop (i+1)) d w':=by
   intro d w' T;exact V (i+1) d w' (by omega) (by simp only[Aa,Ah,J];exact T)
  unfold wpListIn;cases h:(en i).b with
  | true =>
   rw[h]at p;rw[BY p];obtain⟨W,B,U,A⟩:=q.t h;obtain⟨ρ,D⟩:=hs;have N:∀l:List Nat,Bo true (F2 o.op) σ0.objs (ES ops.toList en l)=(Ah ops.toList en σ0 l).objs:=by
    intro l;rw[Et];induction l with
    | nil=>rfl
    | cons x r E=>simp only[ES,tO,Bo,Bool.true_or,AAv,ABz,AAy]at E ⊢;rw[E]
   have R:aq c.tb (Ah ops.toList en σ0 (Aa i)) (o.dst.getD 0) o.op=some (W,(en i).v,(en i).obs):=by
    rw[N]at B;exact B
   exact cF (vB n D) R U A fun u ρ' w' S=>C _ _ ⟨ρ',D.add n.K n.O z A S⟩
  | false =>
   rw[h]at p;rw[At (by simp[p])];refine⟨fun _ _=>trivial,?_⟩;have:=q.f h;have H:=LQ n hs z;refine C _ _ ?_;rw[this.1,this.2];exact H
theorem LY {tb:Tb} {ops:List Oper} {q:Bool} {base:List (Nat×Obj)} {rest:List Oper}:∀ {fr:List Oper} {i:Nat} {E:List (Nat×List (Nat×Obj))} {G:Gs} {σ σ':St} {vc:Prop},J8 tb ops q base rest fr i E G σ=some (vc,σ')→vc →
  ∃(f j:Prop) (k:St),J8 tb ops q base [] fr i E G σ=some (f,k)∧f∧Bl tb ops rest k=some (j,σ')∧j
 | [],i,E,G,σ,σ',vc,h,e=>by
  simp only[J8]at h;exact⟨True,vc,σ,by simp only[J8,Bl],trivial,h,e⟩
 | o :: r,i,E,G,σ,σ',vc,h,e=>by
  simp only[J8]at h;cases l:Gx ops G σ.env i o.guard with
  | none=>rw[l]at h;simp[evMG]at h
  | some p =>
   obtain⟨c,T⟩:=p;rw[l]at h;simp only[evMG]at h;cases m:o6 tb ops q base c G E σ.env o (Gy o.op) with
   | none=>rw[m]at h;cases c<;>simp[evMQ]at h
   | some x =>
    obtain⟨u,v,obs⟩:=x;rw[m]at h;cases c with
    | nil =>
     cases a:o.dst with
     | none=>rw[a]at h;simp[evMQ]at h
     | some d =>
      rw[a]at h;simp only[evMQ]at h;split at h
      ·rename_i hf;cases b:J8 tb ops q base rest r (i+1) (Ij d obs E) G (σ.add v obs (some d)) with
       | none=>rw[b]at h;simp[TS]at h
       | some y =>
        obtain⟨w,σ2⟩:=y;rw[b]at h;simp only[TS]at h;cases h;obtain⟨f,j,k,h1,n,s,t⟩:=LY b e.2;exact⟨u∧f,j,k,by simp only[J8,l,evMG,m,a,evMQ,h1,TS];rw[BY hf],⟨e.1,n⟩,s,t⟩
      ·cases h
    | cons g c =>
     cases obs with
     | cons z A=>cases a:o.dst<;>rw[a]at h<;>simp[evMQ]at h
     | nil =>
      cases a:o.dst with
      | none=>rw[a]at h;simp[evMQ]at h
      | some d =>
       rw[a]at h;simp only[evMQ]at h;split at h
       ·rename_i hf;cases b:J8 tb ops q base rest r (i+1) E ((d,g :: c,T,v) :: G) σ with
        | none=>rw[b]at h;simp[TS]at h
        | some y =>
         obtain⟨w,σ2⟩:=y;rw[b]at h;simp only[TS]at h;cases h;obtain⟨f,j,k,h1,n,s,t⟩:=LY b e.2;exact⟨(T=true→u)∧f,j,k,by simp only[J8,l,evMG,m,a,evMQ,h1,TS];rw[BY hf],⟨e.1,n⟩,s,t⟩
       ·cases h
theorem A1k {ops:List Oper} {q:Bool} {σ0:St} {en:Nat→En}:Inv ops q σ0 en 0 [] [] σ0 :=
 { env:=fun _ _ h=>h,G:=fun s c T v h=>absurd h (by simp),f:=fun j a=>absurd a (by omega),objs:=rfl,E:=fun _=>rfl }
section
variable {c:Cx} {R:Exit→Act→World→Prop} {k:List DG} {σ σ':St}
def GQ (c:Cx) (R:Exit→Act→World→Prop) (k:List DG) (ops:Array Oper) (l:List Oper) (σ:St):Prop :=
 (∀o∈l,Ho c.nt o=true)→CZ c.nt k=true→∀a w,c.sat σ a w→wpListIn (FR c.r) 0 c.P ops (Rb c R k) l a w
theorem vF {ops:Array Oper} (h:Ev c R (.out .normal) k σ):GQ c R k ops [] σ:=fun _ b a w hs=>h rfl b a w hs
theorem Qt (f:c.Ok) {ops:Array Oper} {l:List Oper} (n:Nat) {vc:Prop} (h:Bl c.tb ops.toList (l.take n) σ=some (vc,σ')) (i:vc) (hk:GQ c R k ops (l.drop n) σ'):GQ c R k ops l σ:=by
 intro h1 e a w hs;have:=Oc (r:=l.drop n) f (l.take n) hs (fun o b=>h1 o (AA8 b)) h i (fun d w' g=>hk (fun o b=>h1 o (AAz b)) e d w' g)
 rwa [ABf]at this
theorem XR (z:c.P.follows .mixedOrders=true) (u:c.Ok) {id:Nat} {l:List Oper} (n:Nat) (d:J6 l (l.take n).length=true) {vc:Prop}
  (h:J8 c.tb l false σ.objs [] (l.take n) 0 [] [] σ=some (vc,σ')) (D:vc) (hk:GQ c R k l.toArray (l.drop n) σ') :
  Ev c R (.run (.region id l.toArray true)) k σ:=by
 intro h1 r a w hs;simp only[Hq,Bk,DO]at h1;have d:=A1j (ops:=l.toArray) (k:=(l.take n).length) (anc:=o5 l) (by simpa only[J6] using d);have C:Zb l (l.take n).length:=by
  intro x y E g;have m:y<l.length:=by simp at g;omega
  have A:l.toArray[y]?=some l[y]:=by simp[m]
  have:=(d.front y _ A g).2.2 x E;simpa[Ac,m] using this
 obtain⟨en,_,hF,G,σ2,f,F,s,t⟩:=Oi (ops:=l) (q:=false) (σ0:=σ) (en:=fun _=>⟨false,.top,[]⟩) C h D A1k (by simp) (fun j b=>by
  have b:j<(l.take n).length:=b;rw[AAC,iN];simp only[OR]at b;rw[BY (by omega)])
 refine wpIn_region_any z ?_;have v:l.drop (l.take n).length=l.drop n:=by
  by_cases h:n≤l.length
  ·simp[h]
  ·rw[IF (by simp;omega),IF (by omega)]
 simp only[Bl]at f;cases f;have:=kU (c:=c) (ops:=l.toArray) (k:=(l.take n).length) (σ0:=σ) (en:=en) (Q:=Rb c R k) u d (by simpa using h1)
  (fun j o b e=>hF j o (by omega) b (by simpa using e)) (σ2:=σ') s t (fun p w' B=>by
   rw[show (l.toArray.toList.drop _)=l.drop n from v];exact hk (fun o e=>h1 o (by simpa using AAz e)) r p w' B)
  l.toArray.size [] (Array.replicate l.toArray.size false) a { w with drawn:=w.drawn+1 } (by simp) (by simp) (by simp) (by simp) (fun i hi=>by simp at hi;simp[Array.getD,hi]) (fun i o _ hi=>by simp at hi) (XP hs)
 exact this
theorem Zc (t:c.Ok) {id:Nat} {l:List Oper} (n:Nat) (d:kS l (l.take n).length=true) {vc:Prop}
  (h:J8 c.tb l true σ.objs [] (l.take n) 0 [] [] σ=some (vc,σ')) (A:vc) (hk:GQ c R k l.toArray (l.drop n) σ') :
  Ev c R (.run (.region id l.toArray false)) k σ:=by
 intro h1 p a w hs;simp only[Hq,Bk,DO]at h1;simp only[kS,An,DO,oN,GO]at d;have z:Zb l (l.take n).length:=by
  intro x y B g;have i:y<l.length:=by simp at g;omega
  have:=d.2 y g;rw[AT i]at this;simp only[An,DO,oN,ABR]at this;have:=this.2 x B;simpa[Ac,i] using this
 obtain⟨en,_,hF,D,σ2,f,C,r,s⟩:=Oi (ops:=l) (q:=true) (σ0:=σ) (en:=fun _=>⟨false,.top,[]⟩) z h A A1k (by simp) (fun j b=>by
  have b:j<(l.take n).length:=b;rw[AAC,iN];simp only[OR]at b;rw[BY (by omega)])
 have u:l.drop (l.take n).length=l.drop n:=by
  by_cases h:n≤l.length
  ·simp[h]
  ·rw[IF (by simp;omega),IF (by omega)]
 refine ABZ ?_;simp only[Bl]at f;cases f;have:=kV (c:=c) (ops:=l.toArray) (k:=(l.take n).length) (σ0:=σ) (en:=en) (Q:=Rb c R k) t (by simpa using h1)
  (fun j o b e=>hF j o (by omega) b (by simpa using e)) (by simpa using d.1) (σ2:=σ') r s (fun m w' v=>by
   rw[show (l.toArray.toList.drop _)=l.drop n from u];exact hk (fun o e=>h1 o (by simpa using AAz e)) p m w' v)
  (l.take n).length 0 a w (by simp) hs
 exact this
theorem Vp (e:c.Ok) {ops:Array Oper} {l:List Oper} {vc:Prop} (h:Bl c.tb ops.toList l σ=some (vc,σ')) (g:vc) (hk:Ev c R (.out .normal) k σ'):GQ c R k ops l σ:=by
 intro h1 d a w hs;exact M7 e l hs h1 h g (fun b w' f=>hk rfl d b w' f)
theorem XS (e:c.P.follows .mixedOrders=true) (a:c.Ok) {id:Nat} {l:List Oper} (n:Nat) (d:J6 l (l.take n).length=true) {vc:Prop}
  (h:J8 c.tb l false σ.objs (l.drop n) (l.take n) 0 [] [] σ=some (vc,σ')) (f:vc) (hk:Ev c R (.out .normal) k σ') :
  Ev c R (.run (.region id l.toArray true)) k σ:=by
 obtain⟨j,m,o,h1,g,b,i⟩:=LY h f;exact XR e a n d h1 g (Vp a b i hk)
theorem Zd (a:c.Ok) {id:Nat} {l:List Oper} (n:Nat) (d:kS l (l.take n).length=true) {vc:Prop}
  (h:J8 c.tb l true σ.objs (l.drop n) (l.take n) 0 [] [] σ=some (vc,σ')) (e:vc) (hk:Ev c R (.out .normal) k σ') :
  Ev c R (.run (.region id l.toArray false)) k σ:=by
 obtain⟨i,j,m,h1,f,b,g⟩:=LY h e;exact Zc a n d h1 f (Vp a b g hk)
theorem o9 (d:c.P.follows .mixedOrders=true) (a:c.Ok) {id:Nat} {l:List Oper} (b:J6 l l.length=true) {vc:Prop}
  (h:J8 c.tb l false σ.objs [] l 0 [] [] σ=some (vc,σ')) (e:vc) (hk:Ev c R (.out .normal) k σ') :
  Ev c R (.run (.region id l.toArray true)) k σ :=
 XS d a l.length (by rw[gO];exact b) (by rw[gO,ABE];exact h) e hk
theorem pA (m:Nat) (d:c.P.follows .mixedOrders=true) (a:c.Ok) {id:Nat} {l:List Oper} (b:J6 l (l.take (l.length-m)).length=true) {vc:Prop}
  (h:J8 c.tb l false σ.objs (l.drop (l.length-m)) (l.take (l.length-m)) 0 [] [] σ=some (vc,σ')) (e:vc) (hk:Ev c R (.out .normal) k σ') :
  Ev c R (.run (.region id l.toArray true)) k σ:=XS d a _ b h e hk
theorem Ze (a:c.Ok) {id:Nat} {l:List Oper} (b:kS l l.length=true) {vc:Prop}
  (h:J8 c.tb l true σ.objs [] l 0 [] [] σ=some (vc,σ')) (d:vc) (hk:Ev c R (.out .normal) k σ') :
  Ev c R (.run (.region id l.toArray false)) k σ :=
 Zd a l.length (by rw[gO];exact b) (by rw[gO,ABE];exact h) d hk
theorem Zf (a:c.Ok) {id:Nat} {l:List Oper} (_:(l.all fun o=>o.guard.isNone)=true) {vc:Prop} (h:Bl c.tb l l σ=some (vc,σ')) (b:vc) (hk:Ev c R (.out .normal) k σ') :
  Ev c R (.run (.region id l.toArray false)) k σ:=ZW a h b hk
end
end
section
open Go Go.RowKit
theorem cR {c:Cx} {σ b σ':St} (l:List Nat) (h:CS l σ=b) (d:t9 c b σ'):t9 c σ σ':=by
 intro a w hs;obtain⟨ρ,hs⟩:=hs;exact d a w ⟨ρ,by rw[←h];exact JY hs⟩
theorem Im {α:Type} (a b:List α):(a++b).take (a.length+b.length)=a++b:=As (by simp)
theorem NG {α:Type} (a b:List α):sub (a++b) 0 (a.length+b.length)=a++b:=by rw[Gw,Im]
theorem Ge {α:Type} (a:List α) (x:α):(a++[x]).take (a.length+1)=a++[x]:=As (by simp)
theorem Kj {α:Type} (a:List α) (x:α):sub (a++[x]) 0 (a.length+1)=a++[x]:=by rw[Gw,Ge]
theorem A0s {P:Program} {tb:Tb} {w0:World} {O0:Nat→Prop} {nt:Nat} (c:(cx P tb w0 O0 nt).Ok) {fn:Func} {a:List RV} {σ:St} {e:Exit} (b:List ResultVar) (g:fn.results.toList=b) (f:e=.ret∨e=.normal) (hp:∀r∈a,∃t d,r=.p t d) (h:Lz tb σ b a) :
  Ev (cx P tb w0 O0 nt) (Rc P fn w0 O0 a) (.out e) [] σ:=oZ c f hp (by rw[g];exact h)
theorem XT:((0:Nat):Int)=0:=rfl
theorem XU (k:Nat):((k+1:Nat):Int)=(k:Int)+1:=by omega
theorem AE {α:Type} (l:List α) (d:α) {k:Nat} (h:k<l.length):l.getD k d∈l:=by
 rw[AS,AT h];exact AAf h
theorem AG {P:Program} {ty:List (Nat×TI)} {b:List Nat} {ne:List (Nat×TypeId)} {a:List Nat}:Hl P ⟨ty,[],b,ne,a⟩:=fun f c h=>by simp[lk]at h
theorem AD {P:Program} {ty:List (Nat×TI)} {c:List Nat} {ne:List (Nat×TypeId)} {b:List Nat} {f:Nat} {d:Ad} {r:List (Nat×Ad)} (h:Aj P f d) (i:Hl P ⟨ty,r,c,ne,b⟩):Hl P ⟨ty,(f,d) :: r,c,ne,b⟩:=fun g j a=>by
 simp only[lk]at a;split at a
 ·rename_i e;cases a;rw[e];exact h
 ·exact i g j a
theorem Io {α:Type} (x:α):[x].take 1=[x]:=rfl
theorem Ae {α:Type} (l:List α) (d:α) {k:Nat} (h:k<l.length):l.take (k+1)=l.take k++[l.getD k d]:=by
 rw[List.take_add_one,AS,AT h];rfl
theorem NH {α:Type} (l:List α) (q:Nat):sub l q l.length=l.drop q:=by
 unfold sub;rw[As (by simp)]
end
end Go.Proofs.YtdapahgnpbehbaaGreat.Fw
