/- Regions whose order Go leaves open: the rules. -/
import Derived.Test.YtdapahgnpbehbaaGreatLZE
set_option linter.unusedVariables false
set_option linter.unusedSimpArgs false
namespace Go.Proofs.YtdapahgnpbehbaaGreat.Fw
section
open Go Go.RowKit
def EK (o:Oper):List Nat:=(o.after.toList.filter (Region.binds .any)).map (·.on)
def Al (ops:List Oper) (j:Nat):Option Nat:=(ops[j]?).bind (·.dst)
def MN:Operand→Option Nat
 | .tmp t=>some t
 | _=>none
def M8 (ops:List Oper) (o:Oper):List Nat:=(o.op.operands.toList.filterMap MN)++(match o.guard with|some (j,_)=>(Al ops j).toList|none=>[])
def A7u (a b:List Nat):List Nat:=a.foldl (fun r x=>if AY x r then r else x :: r) b
def zB (ops:List Oper):List (List Nat):=ops.foldl (fun(a:List (List Nat)) o=>a++[(EK o).foldl (fun r e=>A7u (a.getD e []) (if AY e r then r else e :: r)) []]) []
def opB (ops:List Oper) (k:Nat) (anc:List (List Nat)) (i:Nat) (o:Oper):Bool :=
  (EK o).all (fun e=>decide (e<i)) &&
  (anc.getD i []).all (fun j=>AY j (EK o)||(EK o).any fun e=>AY j (anc.getD e [])) &&
  (if i<k then o.dst.isSome&&((M8 ops o).all fun t=>(List.range k).all fun j=>Al ops j != some t||AY j (anc.getD i []))&&((List.range i).all fun j=>Al ops j != o.dst)
   else (List.range i).all fun j=>AY j (anc.getD i []))
def lW (ops:List Oper) (k:Nat) (anc:List (List Nat)):Bool :=
 decide (k≤ops.length)&&(List.range ops.length).all fun i=>match ops[i]? with|some o=>opB ops k anc i o|none=>false
def Lp (ops:List Oper) (k:Nat):Bool:=lW ops k (zB ops)
def uG (ops:List Oper) (k:Nat):Bool :=
 decide (k≤ops.length)&&(List.range k).all fun i=>match ops[i]? with|some o=>o.dst.isSome&&((List.range i).all fun j=>Al ops j != o.dst)|none=>false
def Bx (q:Bool) (ts:List Nat) (base:List (Nat×Obj)):List (Nat×List (Nat×Obj))→List (Nat×Obj)
 | []=>base
 | (s,obs) :: r=>if (q||AY s ts)=true then obs++Bx q ts base r else Bx q ts base r
def GL (o:Op):List Nat:=o.operands.toList.filterMap MN
def Lq (q:Bool) (o:Op) (base:List (Nat×Obj)):List (Nat×List (Nat×Obj))→List (Nat×Obj)
 | []=>base
 | e :: r=>Bx q (GL o) base (e :: r)
def JR (d:Nat) (obs:List (Nat×Obj)) (E:List (Nat×List (Nat×Obj))):List (Nat×List (Nat×Obj)) :=
 match obs with
 | []=>E
 | x :: r=>(d,x :: r) :: E
abbrev Ch:=List (Nat×Bool)
abbrev Gs:=List (Nat×(Ch×Bool×AV))
def OO:Ch→Ch→Bool
 | [],[]=>true
 | (j,w) :: r,(a,w') :: b=>(j==a)&&(w==w')&&OO r b
 | [],_ :: _=>false
 | _ :: _,[]=>false
theorem KQ:OO [] []=true:=rfl
theorem M9 (x:Nat×Bool) (r:Ch):OO [] (x :: r)=false:=rfl
theorem NA (x:Nat×Bool) (r:Ch):OO (x :: r) []=false:=rfl
theorem H8 (j a:Nat) (w w':Bool) (r b:Ch):OO ((j,w) :: r) ((a,w') :: b)=(decide (j=a)&&(w==w')&&OO r b):=by grind [OO]
def Q2 (a:Ch):Ch→Bool
 | []=>OO a []
 | k :: r=>OO a (k :: r)||Q2 a r
def JS (c:Ch):Gs→List (Nat×AV)→List (Nat×AV)
 | [],env=>env
 | (s,a,_,v) :: G,env=>if Q2 a c=true then (s,v) :: JS c G env else JS c G env
def JT (j:Nat) (a:Bool):Option (Ch×Bool×AV)→Option AV→Option (Ch×Bool)
 | some (c,T,.p .bool b),_=>some ((j,a) :: c,T&&(b==a))
 | none,some (.p .bool b)=>some ([(j,a)],b==a)
 | _,_=>none
def Hy (G:Gs) (env:List (Nat×AV)) (j:Nat) (a:Bool):Option Nat→Option (Ch×Bool)
 | some s=>JT j a (lk s G) (lk s env)
 | none=>none
def HP (ops:List Oper) (G:Gs) (env:List (Nat×AV)) (i:Nat):Option (Nat×Bool)→Option (Ch×Bool)
 | none=>some ([],true)
 | some (j,a)=>if j<i then Hy G env j a (Al ops j) else none
def MO (ops:List Oper) (c:Ch) (s:Nat) (w:Bool):Option (Ch×Bool×AV)→Option AV→Option AV
 | some (a,_,v),_=>if Q2 a c=true then some v else match a with
  | []=>none
  | (j,w') :: r=>if w'=w∧Al ops j=some s∧OO r c=true then some v else none
 | none,x=>x
def KR (ops:List Oper) (c:Ch) (G:Gs) (env:List (Nat×AV)) (s:Nat) (w:Bool):Operand→Option AV
 | .tmp t=>MO ops c s w (lk t G) (lk t env)
 | .const v=>some (Gr v)
 | .func _=>none
 | .global _=>none
def MP:Option AV→Option AV→Option AV→Bc
 | some (.p .bool b),some (.p .bool p),some (.p .bool q)=>some (True,.p .bool (bif b then p else q),[])
 | _,_,_=>none
def MQ (ops:List Oper) (c:Ch) (G:Gs) (env:List (Nat×AV)):Operand→Operand→Operand→Bc
 | .tmp s,x,y=>MP (lk s (JS c G env)) (KR ops c G env s true x) (KR ops c G env s false y)
 | .const _,_,_=>none
 | .func _,_,_=>none
 | .global _,_,_=>none
def HQ:Op→Option (Operand×Operand×Operand)
 | .pick s x y=>some (s,x,y)
 | _=>none
def x5 (tb:Tb) (ops:List Oper) (q:Bool) (base:List (Nat×Obj)) (c:Ch) (G:Gs) (E:List (Nat×List (Nat×Obj))) (env:List (Nat×AV)) (o:Oper):Option (Operand×Operand×Operand)→Bc
 | some (s,x,y)=>MQ ops c G env s x y
 | none=>aq tb ⟨JS c G env,Lq q o.op base E⟩ (o.dst.getD 0) o.op
mutual
def Lr (tb:Tb) (ops:List Oper) (q:Bool) (base:List (Nat×Obj)) (rest:List Oper):List Oper→Nat→List (Nat×List (Nat×Obj))→Gs→St→DI
 | [],_,_,_,σ=>Br tb ops rest σ
 | o :: r,i,E,G,σ=>evMG tb ops q base rest o r i E G σ (HP ops G σ.env i o.guard)
def evMG (tb:Tb) (ops:List Oper) (q:Bool) (base:List (Nat×Obj)) (rest:List Oper) (o:Oper) (r:List Oper) (i:Nat) (E:List (Nat×List (Nat×Obj))) (G:Gs) (σ:St):Option (Ch×Bool)→DI
 | some (c,T)=>evMQ tb ops q base rest o.dst r i E G σ c T (x5 tb ops q base c G E σ.env o (HQ o.op))
 | none=>none
def evMQ (tb:Tb) (ops:List Oper) (q:Bool) (base:List (Nat×Obj)) (rest:List Oper) (dst:Option Nat) (r:List Oper) (i:Nat) (E:List (Nat×List (Nat×Obj))) (G:Gs) (σ:St):Ch→Bool→Bc→DI
 | [],_,some (vc,v,obs)=>match dst with
  | some d=>if Bd obs σ=true then Te vc (Lr tb ops q base rest r (i+1) (JR d obs E) G (σ.add v obs (some d))) else none
  | none=>none
 | g :: c,T,some (vc,v,[])=>match dst with
  | some d=>if (lk d σ.env).isNone=true then Te (T=true→vc) (Lr tb ops q base rest r (i+1) E ((d,g :: c,T,v) :: G) σ) else none
  | none=>none
 | _,_,_=>none
end
structure En where
 b:Bool
 v:AV
 obs:List (Nat×Obj)
def Ar (ops:List Oper) (en:Nat→En) (σ:St):List Nat→St
 | []=>σ
 | i :: r=>(Ar ops en σ r).add (en i).v (en i).obs (Al ops i)
def Ak:Nat→List Nat
 | 0=>[]
 | i+1=>i :: Ak i
end
section
open Go Go.RowKit
section
variable {tb:Tb} {ops:List Oper} {k:Nat} {q:Bool} {anc:List (List Nat)} {σ0:St} {en:Nat→En}
def ES (ops:List Oper) (en:Nat→En) (l:List Nat):List (Nat×List (Nat×Obj)):=l.map fun j=>((Al ops j).getD 0,(en j).obs)
def LF (ops:List Oper) (σ:St) (b:Bool):Option (Nat×Bool)→Prop
 | none=>b=true
 | some (j,a)=>∃s,Al ops j=some s∧((∃x,lk s σ.env=some (.p .bool x)∧b=(x==a))∨(lk s σ.env=some (.raw undef)∧b=false))
structure Tx (tb:Tb) (ops:List Oper) (q:Bool) (σ0:St) (en:Nat→En) (i:Nat) (o:Oper):Prop where
 g:LF ops (Ar ops en σ0 (Ak i)) (en i).b o.guard
 t:(en i).b=true→∃vc:Prop,aq tb ⟨(Ar ops en σ0 (Ak i)).env,Bx q (GL o.op) σ0.objs (ES ops en (Ak i))⟩ (o.dst.getD 0) o.op=some (vc,(en i).v,(en i).obs)∧vc∧Bd (en i).obs (Ar ops en σ0 (Ak i))=true
 f:(en i).b=false→(en i).v=.raw undef∧(en i).obs=[]
theorem LG {a:Nat→En}:∀ {l:List Nat},(∀j∈l,a j=en j)→Ar ops a σ0 l=Ar ops en σ0 l
 | [],_=>rfl
 | i :: r,h=>by
  simp only[Ar];rw[LG (fun j b=>h j (by simp[b])),h i (by simp)]
theorem BI {i j:Nat}:j∈Ak i↔j<i:=by
 induction i with
 | zero=>simp[Ak]
 | succ i a=>simp[Ak,a];omega
theorem Fq:∀(l:List Nat),(Ar ops en σ0 l).objs=(l.flatMap fun j=>(en j).obs)++σ0.objs
 | []=>rfl
 | i :: r=>by
  simp only[Ar,ABV,oF];rw[←Fq r];cases Al ops i<;>rfl
theorem Fs (s:Nat):∀(l:List Nat),lk s (Ar ops en σ0 l).env=match l.find? (fun j=>Al ops j==some s) with|some j=>some (en j).v|none=>lk s σ0.env
 | []=>rfl
 | i :: r=>by
  simp only[Ar,List.find?_cons];cases a:Al ops i with
  | none =>
   simp only[St.add];rw[Fs s r];have:((none:Option Nat)==some s)=false:=rfl;rw[this]
  | some d =>
   simp only[St.add,lk];by_cases hs:s=d
   ·subst hs;simp
   ·have h1:((some d:Option Nat)==some s)=false:=by
     have:d≠s:=fun e=>hs e.symm;simpa using this
    rw[At hs,Fs s r,h1]
theorem qJ {n:Nat} {o:Obj} {l:List Nat} (h:lk n (l.flatMap fun j=>(en j).obs)=some o):∃j∈l,lk n (en j).obs=some o:=by
 induction l with
 | nil=>simp[lk]at h
 | cons i r d =>
  rw[ABV,A1]at h;cases a:lk n (en i).obs with
  | some e =>
   rw[a]at h;exact⟨i,by simp,by rw[a];simpa using h⟩
  | none =>
   rw[a]at h;obtain⟨j,b,c⟩:=d (by simpa using h);exact⟨j,by simp[b],c⟩
theorem LI {n:Nat} {l:List Nat} (h:lk n (l.flatMap fun j=>(en j).obs)=none):∀j∈l,lk n (en j).obs=none:=by
 induction l with
 | nil=>simp
 | cons i r c =>
  rw[ABV,A1]at h;cases a:lk n (en i).obs with
  | some d=>rw[a]at h;simp at h
  | none =>
   rw[a]at h;intro j b;rcases By.1 b with rfl|b
   ·exact a
   ·grind
def Sep (σ0:St) (en:Nat→En) (k:Nat):Prop :=
 (∀j,j<k→∀n o,lk n (en j).obs=some o→lk n σ0.objs=none)∧∀i j,i<k→j<k→∀n o a,lk n (en i).obs=some o→lk n (en j).obs=some a→i=j
theorem E8 (g:Sep σ0 en k) {l:List Nat} (c:∀j∈l,j<k) (n:Nat) (o:Obj):lk n (Ar ops en σ0 l).objs=some o↔(∃j∈l,lk n (en j).obs=some o)∨((∀j∈l,lk n (en j).obs=none)∧lk n σ0.objs=some o):=by
 rw[Fq,A1];cases h:lk n (l.flatMap fun j=>(en j).obs) with
 | some i =>
  obtain⟨j,b,a⟩:=qJ h;simp only[ACD];constructor
  ·grind
  ·rintro (⟨d,e,f⟩|⟨h1,_⟩)
   ·have:=g.2 j d (c j b) (c d e) n i o a f;grind
   ·rw[h1 j b]at a;cases a
 | none =>
  have hn:=LI h;simp only[Option.none_or];constructor
  ·grind
  ·grind
theorem zC (f:Sep σ0 en k) {ts:List Nat} {l l':List Nat} (m:∀j∈l,j<k) (e:∀j∈l',j<k) (d:∀j∈l,(q||AY ((Al ops j).getD 0) ts)=true→j∈l') {n:Nat} {o:Obj} :
  lk n (Bx q ts σ0.objs (ES ops en l))=some o→lk n (Ar ops en σ0 l').objs=some o:=by
 rw[E8 f e];induction l with
 | nil =>
  simp only[ES,ACi,Bx];intro h;refine .inr ⟨fun j b=>?_,h⟩;cases a:lk n (en j).obs with
  | none=>rfl
  | some g=>have:=f.1 j (e j b) n g a;rw[this]at h;cases h
 | cons i r c =>
  simp only[ES,AA4,Bx];have c:=c (fun j b=>m j (by simp[b])) (fun j b=>d j (by simp[b]));split
  ·rename_i p;intro h;rw[A1]at h;cases a:lk n (en i).obs with
   | some g =>
    rw[a]at h;simp only[ACD]at h;cases h;exact .inl ⟨i,d i (by simp) p,a⟩
   | none =>
    rw[a]at h;exact c (by simpa[ES] using h)
  ·exact c
theorem Ph:∀ {a b:Ch},OO a b=true↔a=b
 | [],[]=>by simp[OO]
 | (j,w) :: r,(d,w') :: c=>by simp[OO,Ph (a:=r) (b:=c),and_assoc]
 | [],_ :: _=>by simp[OO]
 | _ :: _,[]=>by simp[OO]
def bv:AV→Bool
 | .p .bool b=>b
 | _=>false
def tr (en:Nat→En):Ch→Bool
 | []=>true
 | (j,w) :: r=>tr en r&&(bv (en j).v==w)
theorem Tz {a:Nat→En}:∀ {c:Ch},(∀k∈c,a k.1=en k.1)→tr a c=tr en c
 | [],_=>rfl
 | (j,w) :: r,h=>by
  have h1:=h (j,w) (by simp);simp only at h1;simp only[tr];rw[Tz (fun k hk=>h k (by simp[hk])),h1]
theorem lX {b:Ch}:∀ {c:Ch},Q2 b c=true→tr en c=true→tr en b=true
 | [],h,a=>by simp only[Q2,Ph]at h;rw[h];exact a
 | k :: r,h,a=>by
  simp only[Q2,AAi,Ph]at h;rcases h with rfl|h
  ·exact a
  ·obtain⟨j,w⟩:=k;simp only[tr,As]at a;exact lX h a.1
structure Inv (ops:List Oper) (q:Bool) (σ0:St) (en:Nat→En) (i:Nat) (E:List (Nat×List (Nat×Obj))) (G:Gs) (σ:St):Prop where
 env:∀s v,lk s σ.env=some v→lk s (Ar ops en σ0 (Ak i)).env=some v
 G:∀s c T v,(s,c,T,v)∈G→T=tr en c∧(T=true→lk s (Ar ops en σ0 (Ak i)).env=some v)∧(∀k∈c,k.1<i)∧∃j,j<i∧Al ops j=some s∧(en j).b=T
 f:∀j,j<i→(en j).b=false→(en j).v=.raw undef
 objs:σ.objs=(Ar ops en σ0 (Ak i)).objs
 E:∀ts,Bx q ts σ0.objs E=Bx q ts σ0.objs (ES ops en (Ak i))
def lY (ops:List Oper) (k:Nat):Prop:=∀a b,a<b→b<k→Al ops a≠Al ops b
theorem XF (hu:lY ops k) {i j s:Nat} (d:i≤k) (c:j<i) (b:Al ops j=some s):lk s (Ar ops en σ0 (Ak i)).env=some (en j).v:=by
 rw[Fs];have:(Ak i).find? (fun j=>Al ops j==some s)=some j:=by
  cases hf:(Ak i).find? (fun j=>Al ops j==some s) with
  | none =>
   have:=ACA.1 hf j (BI.2 c);simp[b]at this
  | some x =>
   have h1:=BI.1 (ABX hf);have a:=ACT hf;have a:Al ops x=some s:=by simpa using a
   rcases ACb x j with h|h|h
   ·exact absurd (a.trans b.symm) (hu x j h (by omega))
   ·rw[h]
   ·exact absurd (b.trans a.symm) (hu j x h (by omega))
 rw[this]
theorem Q3 {c:Ch} {s:Nat} {v:AV} {env:List (Nat×AV)}:∀ {G:Gs},lk s (JS c G env)=some v→(∃b T,(s,b,T,v)∈G∧Q2 b c=true)∨lk s env=some v
 | [],h=>.inr h
 | (e,b,T,f) :: G,h=>by
  simp only[JS]at h;split at h
  ·rename_i hs;simp only[lk]at h;split at h
   ·grind
   ·rcases Q3 h with ⟨c2,T2,d,a⟩|a
    ·grind
    ·exact .inr a
  ·rcases Q3 h with ⟨c2,T2,d,a⟩|a
   ·grind
   ·exact .inr a
section
variable {i:Nat} {E:List (Nat×List (Nat×Obj))} {G:Gs} {σ:St}
theorem bF (a:Inv ops q σ0 en i E G σ) {c:Ch} (f:tr en c=true) {s:Nat} {v:AV} (h:lk s (JS c G σ.env)=some v):lk s (Ar ops en σ0 (Ak i)).env=some v:=by
 rcases Q3 h with ⟨b,T,d,hs⟩|h
 ·obtain⟨h1,e,_⟩:=a.G s b T v d;grind [lX]
 ·exact a.env s v h
theorem uH (m:Inv ops q σ0 en i E G σ) (hu:lY ops k) (v:i≤k) {g:Option (Nat×Bool)} {c:Ch} {T:Bool} (h:HP ops G σ.env i g=some (c,T)) :
  LF ops (Ar ops en σ0 (Ak i)) T g∧T=tr en c∧(∀k∈c,k.1<i):=by
 cases g with
 | none =>
  simp only[HP]at h;cases h;exact⟨rfl,rfl,by simp⟩
 | some g =>
  obtain⟨j,z⟩:=g;simp only[HP]at h;split at h
  ·rename_i r;cases d:Al ops j with
   | none=>rw[d]at h;simp[Hy]at h
   | some s =>
    rw[d]at h;simp only[Hy]at h;have e:=XF (en:=en) (σ0:=σ0) hu v r d;unfold JT at h;split at h
    ·rename_i c0 o b n;cases h;obtain⟨h1,t,x,l,y,p,u⟩:=m.G s c0 o _ (F8 n);cases hT:o with
     | true =>
      have a:=t hT;rw[e]at a;injection a with a
      refine⟨⟨s,d,.inl ⟨b,by rw[e,a],by simp⟩⟩,?_,?_⟩
      ·grind [tr,bv]
      ·grind
     | false =>
      have w:l=j:=by
       rcases ACb l j with h|h|h
       ·exact absurd (p.trans d.symm) (hu l j h (by omega))
       ·exact h
       ·exact absurd (d.trans p.symm) (hu j l h (by omega))
      subst w;have a:=m.f l r (by rw[u,hT]);refine⟨⟨s,d,.inr ⟨by rw[e,a],by simp⟩⟩,?_,?_⟩
      ·grind [tr]
      ·grind
    ·rename_i b _ n;cases h;have a:=m.env s _ n;rw[e]at a;injection a with a
     refine⟨⟨s,d,.inl ⟨b,by rw[e,a],rfl⟩⟩,by simp[tr,a,bv],?_⟩;grind
    ·cases h
  ·cases h
theorem bG (d:Inv ops q σ0 en i E G σ) (hu:lY ops k) (o:i≤k) {c:Ch} (z:tr en c=true) {s:Nat} {w:Bool} (hs:lk s (Ar ops en σ0 (Ak i)).env=some (.p .bool w)) {x:Operand} {v:AV}
  (h:KR ops c G σ.env s w x=some v) {objs:List (Nat×Obj)}:Aj ⟨(Ar ops en σ0 (Ak i)).env,objs⟩ x=some v:=by
 cases x with
 | const x=>simp only[KR]at h;exact h
 | func f=>simp[KR]at h
 | global g=>simp[KR]at h
 | tmp t =>
  simp only[KR]at h;simp only[Aj];cases a:lk t G with
  | none =>
   rw[a]at h;exact d.env t v h
  | some e =>
   obtain⟨b,T,u⟩:=e;rw[a]at h;simp only[MO]at h;obtain⟨h1,y,m,_⟩:=d.G t b T u (F8 a);split at h
   ·grind [lX]
   ·cases b with
    | nil=>cases h
    | cons p r =>
     obtain⟨j,w'⟩:=p;simp only at h;split at h
     ·rename_i hh;obtain⟨rfl,n,l⟩:=hh;rw[Ph]at l;subst l;cases h;have A:=XF (en:=en) (σ0:=σ0) hu o (m (j,w') (by simp)) n;grind [tr,bv]
     ·cases h
theorem A6t (a:Inv ops q σ0 en i E G σ) (hu:lY ops k) (j:i≤k) {c:Ch} (d:tr en c=true) {o:Oper} {vc:Prop} {v:AV} {obs:List (Nat×Obj)} (h:x5 tb ops q σ0.objs c G E σ.env o (HQ o.op)=some (vc,v,obs)) (z:vc) :
  ∃l:Prop,aq tb ⟨(Ar ops en σ0 (Ak i)).env,Bx q (GL o.op) σ0.objs (ES ops en (Ak i))⟩ (o.dst.getD 0) o.op=some (l,v,obs)∧l:=by
 cases hp:HQ o.op with
 | none =>
  rw[hp]at h;simp only[x5]at h;refine⟨vc,S3 (σ:=⟨JS c G σ.env,Lq q o.op σ0.objs E⟩) ?_ ?_ h,z⟩
  ·intro n x hn;have:Lq q o.op σ0.objs E=Bx q (GL o.op) σ0.objs E:=by cases E<;>rfl
   simp only at hn ⊢;rw[this,a.E]at hn;exact hn
  ·intro x _ v e;cases x with
   | tmp t=>exact bF a d e
   | const A=>exact e
   | global g=>exact e
   | func f=>exact e
 | some p =>
  obtain⟨s,x,y⟩:=p;rw[hp]at h;have w:o.op=.pick s x y:=by
   unfold HQ at hp;grind
  simp only[x5]at h;rw[w];cases s with
  | const _=>simp[MQ]at h
  | func _=>simp[MQ]at h
  | global _=>simp[MQ]at h
  | tmp s =>
   simp only[MQ]at h;unfold MP at h;split at h
   ·rename_i b p r h1 m u;cases h;have hs:=bF a d h1;refine⟨True,?_,trivial⟩;have h0:Aj ⟨(Ar ops en σ0 (Ak i)).env,Bx q (GL (Op.pick (.tmp s) x y)) σ0.objs (ES ops en (Ak i))⟩ (.tmp s)=some (.p .bool b):=hs;simp only[aq];rw[h0];cases b with
    | true =>
     simp only[KH];rw[bG a hu j d hs m];rfl
    | false =>
     simp only[KH];rw[bG a hu j d hs u];rfl
   ·cases h
end
theorem Q4 {rest:List Oper} (hu:lY ops k):∀ {fr:List Oper} {i:Nat} {E:List (Nat×List (Nat×Obj))} {G:Gs} {σ σ':St} {en:Nat→En} {vc:Prop},Lr tb ops q σ0.objs rest fr i E G σ=some (vc,σ')→vc→Inv ops q σ0 en i E G σ→i+fr.length=k→(∀j,j<fr.length→ops[i+j]?=fr[j]?) →
  ∃l:Nat→En,(∀j,j<i→l j=en j)∧(∀j o,i≤j→j<k→ops[j]?=some o→Tx tb ops q σ0 l j o) ∧
   ∃(D:Prop) (σ2:St),Br tb ops rest σ2=some (D,σ')∧D∧(∀s v,lk s σ2.env=some v→lk s (Ar ops l σ0 (Ak k)).env=some v)∧σ2.objs=(Ar ops l σ0 (Ak k)).objs
 | [],i,E,G,σ,σ',en,vc,h,H,n,hk,_=>by
  simp only[Lr]at h;simp at hk;subst hk;exact⟨en,fun _ _=>rfl,fun j o h1 P=>by omega,vc,σ,h,H,n.env,n.objs⟩
 | o :: r,i,E,G,σ,σ',en,vc,h,H,n,hk,al=>by
  have aj:ops[i]?=some o:=by simpa using al 0 (by simp)
  have Q:Al ops i=o.dst:=by simp[Al,aj]
  have U:i<k:=by simp at hk;omega
  simp only[Lr]at h;cases S:HP ops G σ.env i o.guard with
  | none=>rw[S]at h;simp[evMG]at h
  | some ap =>
   obtain⟨c,T⟩:=ap;obtain⟨bf,hT,ab⟩:=uH n hu (ABT U) S;rw[S]at h;simp only[evMG]at h;cases W:x5 tb ops q σ0.objs c G E σ.env o (HQ o.op) with
   | none =>
    rw[W]at h;unfold evMQ at h;split at h
    ·rename_i R;cases R
    ·rename_i R;cases R
    ·cases h
   | some bm =>
    obtain⟨bn,v,obs⟩:=bm;rw[W]at h;have ao:∀(d:Nat) (e:En) (L:List (Nat×List (Nat×Obj))) (M:Gs) (K:St) (F:Prop),o.dst=some d→e.b=T→(T=true→bn∧e.v=v∧e.obs=obs∧Bd obs σ=true)→(T=false→e.v=.raw undef∧e.obs=[]) →
      (∀s a,lk s K.env=some a→if s=d then a=e.v else lk s σ.env=some a)→K.objs=e.obs++σ.objs →
      (∀s w B a,(s,w,B,a)∈M→(s,w,B,a)∈G∨(s=d∧w=c∧B=T∧a=v))→(∀ts,Bx q ts σ0.objs L=Bx q ts σ0.objs ((d,e.obs) :: E)) →
      Lr tb ops q σ0.objs rest r (i+1) L M K=some (F,σ')→F →
      ∃l:Nat→En,(∀j,j<i→l j=en j)∧(∀j o,i≤j→j<k→ops[j]?=some o→Tx tb ops q σ0 l j o) ∧
       ∃(D:Prop) (σ2:St),Br tb ops rest σ2=some (D,σ')∧D∧(∀s v,lk s σ2.env=some v→lk s (Ar ops l σ0 (Ak k)).env=some v)∧σ2.objs=(Ar ops l σ0 (Ak k)).objs:=by
     intro d e L M K F t I af ae bc bg aw au bd bl
     let u:Nat→En:=fun j=>if j=i then e else en j
     have O:u i=e:=by simp[u]
     have heq:∀j,j<i→u j=en j:=fun j z=>by simp[u,show j≠i by omega]
     have ba:Ar ops u σ0 (Ak i)=Ar ops en σ0 (Ak i):=LG fun j z=>heq j (BI.1 z);have Z:ES ops u (Ak i)=ES ops en (Ak i):=by
      apply tO;grind [BI]
     have bb:Ar ops u σ0 (Ak (i+1))=(Ar ops en σ0 (Ak i)).add e.v e.obs (some d):=by grind [Ak,Ar]
     have ak:∀s a,s≠d→lk s (Ar ops en σ0 (Ak i)).env=some a→lk s (Ar ops u σ0 (Ak (i+1))).env=some a:=by grind [St.add,lk]
     have ag:lk d (Ar ops u σ0 (Ak (i+1))).env=some e.v:=by grind [St.add,lk]
     have ax:Inv ops q σ0 u (i+1) L M K:=by
      refine⟨fun s a A=>?_,fun s w B a p=>?_,fun j z m=>?_,?_,fun ts=>?_⟩
      ·have:=bc s a A;split at this
       ·rename_i hs;rw[hs,this];exact ag
       ·rename_i hs;exact ak s a hs (n.env s a this)
      ·rcases aw s w B a p with p|⟨rfl,rfl,rfl,rfl⟩
       ·obtain⟨h1,P,N,j,z,ad,m⟩:=n.G s w B a p;have bh:s≠d:=by
         rintro rfl;exact hu j i z U (by rw[ad,Q,t])
        refine⟨by rw[Tz (en:=en) fun k hk=>heq _ (N k hk)];exact h1,fun hT=>ak s a bh (P hT),fun k hk=>by have:=N k hk;omega,j,by omega,ad,by rw[heq j z];exact m⟩
       ·refine⟨by rw[Tz (en:=en) fun k hk=>heq _ (ab k hk)];exact hT,fun ay=>?_,fun k hk=>by have:=ab k hk;omega,i,by omega,by rw[Q,t],by rw[O];exact I⟩;rw[ag,(af ay).2.1]
      ·by_cases V:j=i
       ·subst V;rw[O]at m ⊢;exact(ae (by rw[←I];exact m)).1
       ·rw[heq j (by omega)]at m ⊢;exact n.f j (by omega) m
      ·rw[bb,bg,n.objs];rfl
      ·rw[au];simp only[ES,Ak,AA4,O,Q,t,AB7,Bx];have:=n.E ts;rw[←Z]at this;simp only[ES]at this;rw[this]
     obtain⟨l,h1,P,N⟩:=Q4 hu bd bl ax (by simp at hk ⊢;omega) (fun j z=>by
      have:=al (j+1) (by simp;omega);rw[show i+(j+1)=i+1+j by omega]at this;simpa using this)
     refine⟨l,fun j z=>by rw[h1 j (by omega),heq j z],fun j bq bo bp ai=>?_,N⟩;by_cases V:j=i
     ·subst V;rw[aj]at ai;cases ai;have J:l j=e:=by rw[h1 j (by omega),O]
      have aa:Ar ops l σ0 (Ak j)=Ar ops en σ0 (Ak j):=by
       rw[←ba];exact LG fun q X=>h1 q (by have:=BI.1 X;omega)
      have av:ES ops l (Ak j)=ES ops en (Ak j):=by
       rw[←Z];apply tO;intro q X;rw[h1 q (by have:=BI.1 X;omega)]
      refine⟨by rw[aa,J,I];exact bf,fun m=>?_,fun m=>?_⟩
      ·rw[J,I]at m;obtain⟨bi,bj,bk,an⟩:=af m;obtain⟨D,aq,ar⟩:=A6t n hu (ABT U) (by rw[←hT];exact m) W bi;rw[J,aa,av,bj,bk];exact⟨D,aq,ar,by
        simp only[Bd]at an ⊢;rw[←n.objs];exact an⟩
      ·rw[J,I]at m;rw[J];exact ae m
     ·grind
    cases c with
    | nil =>
     cases t:o.dst with
     | none=>rw[t]at h;simp[evMQ]at h
     | some d =>
      rw[t]at h;simp only[evMQ]at h;split at h
      ·rename_i be;cases C:Lr tb ops q σ0.objs rest r (i+1) (JR d obs E) G (σ.add v obs (some d)) with
       | none=>rw[C]at h;simp[Te]at h
       | some Y =>
        obtain⟨F,σ2⟩:=Y;rw[C]at h;simp only[Te]at h;cases h;have az:T=true:=by rw[hT];rfl
        refine ao d ⟨T,v,obs⟩ _ _ _ F t rfl (fun _=>⟨H.1,rfl,rfl,be⟩) (fun hf=>by rw[az]at hf;cases hf) (fun s a A=>?_) rfl (fun s w B a p=>.inl p) (fun ts=>?_) C H.2
        ·simp only[St.add,lk]at A;split at A
         ·rename_i hs;cases A;simp[hs]
         ·rename_i hs;rw[At hs];exact A
        ·cases obs with
         | nil=>simp[JR,Bx]
         | cons x y=>rfl
      ·cases h
    | cons g w =>
     cases obs with
     | cons x y=>simp[evMQ]at h
     | nil =>
      cases t:o.dst with
      | none=>rw[t]at h;simp[evMQ]at h
      | some d =>
       rw[t]at h;simp only[evMQ]at h;split at h
       ·rename_i ah;cases C:Lr tb ops q σ0.objs rest r (i+1) E ((d,g :: w,T,v) :: G) σ with
        | none=>rw[C]at h;simp[Te]at h
        | some Y =>
         obtain⟨F,σ2⟩:=Y;rw[C]at h;simp only[Te]at h;cases h;refine ao d ⟨T,bif T then v else .raw undef,[]⟩ _ _ _ F t rfl (fun am=>⟨H.1 am,by simp[am],rfl,by simp[Bd]⟩) (fun hf=>⟨by simp[hf],rfl⟩) (fun s a A=>?_) rfl (fun s c2 B a p=>?_) (fun ts=>?_) C H.2
         ·have:s≠d:=by
           rintro rfl;rw[A]at ah;cases ah
          rw[At this];exact A
         ·rcases By.1 p with p|p
          ·cases p;exact .inr ⟨rfl,rfl,rfl,rfl⟩
          ·exact .inl p
         ·simp[Bx]
       ·cases h
end
section
variable {c:Cx} {ops:Array Oper} {k:Nat} {anc:List (List Nat)} {σ0 σ':St} {en:Nat→En} {Q:Exit→Act→World→Prop}
theorem zD {o:Oper} {e:Edge} (b:e∈o.after) (a:Region.binds .any e=true):e.on∈EK o:=by grind [EK]
theorem Dr {listed:Array Bool} {i:Nat}:i∈Region.ready .any ops listed↔listed.getD i true=false∧∃o,ops[i]?=some o∧∀e∈EK o,listed.getD e false=true:=by
 rw[mem_ready];grind [EK,zD]
structure XG (ops:Array Oper) (k:Nat) (anc:List (List Nat)):Prop where
 lt:∀i o,ops[i]?=some o→∀e∈EK o,e<i
 cl:∀i o,ops[i]?=some o→∀j∈anc.getD i [],j∈EK o∨∃e∈EK o,j∈anc.getD e []
 front:∀i o,ops[i]?=some o→i<k→(∃d,o.dst=some d)∧(∀t∈M8 ops.toList o,∀j,j<k→Al ops.toList j=some t→j∈anc.getD i [])∧∀j,j<i→Al ops.toList j≠o.dst
 back:∀i o,ops[i]?=some o→k≤i→∀j,j<i→j∈anc.getD i []
 k:k≤ops.size
theorem A7v (h:lW ops.toList k anc=true):XG ops k anc:=by
 simp only[lW,As,IN,oN,IS]at h;obtain⟨hk,h⟩:=h;have hi:∀i o,ops[i]?=some o→opB ops.toList k anc i o=true:=by grind
 refine⟨fun i o a e l=>?_,fun i o a j b=>?_,fun i o a c=>?_,fun i o a c j b=>?_,by simpa using hk⟩
 ·grind [opB]
 ·grind [opB,AZ]
 ·have:=hi i o a;simp only[opB,c,AAQ,As,IN,oN,AAi,AZ,ACr]at this;obtain⟨_,⟨h1,f⟩,d⟩:=this;refine⟨ABp.1 h1,fun t m j b g=>?_,d⟩;grind
 ·have:=hi i o a;simp only[opB,show ¬i<k by omega,ABk,As,IN,oN,AZ]at this;exact this.2 j b
theorem UA (a:XG ops k anc) {listed:Array Bool} (g:∀i o,ops[i]?=some o→listed.getD i true=true→∀e∈EK o,listed.getD e false=true) :
  ∀i o,ops[i]?=some o→(∀e∈EK o,listed.getD e false=true)→∀j∈anc.getD i [],listed.getD j false=true:=by
 intro i;induction i using Nat.strongRecOn with
 | _ i m =>
  intro o b c j f;rcases a.cl i o b j f with h1|⟨e,d,h⟩
  ·exact c j h1
  ·have l:=a.lt i o b e d;grind
theorem XH {l:List Oper} {p:Nat} {o:Oper} {r:List Oper} (h:l.drop p=o :: r):l[p]?=some o∧r=l.drop (p+1):=by
 constructor
 ·have:(l.drop p)[0]?=some o:=by rw[h];rfl
  grind
 ·rw[←ABY,h];rfl
theorem Pi {F:Fence} {P:Program} (f:XG ops k anc):∀ {rest:List Oper} {p:Nat} {listed:Array Bool} {a:Act} {w:World},ops.toList.drop p=rest→k≤p→p≤ops.size→listed.size=ops.size →
  (∀i,i<ops.size→(listed.getD i true=true↔i<p))→wpListIn F 0 P ops Q rest a w→wpAnyIn F 0 P .any ops Q rest.length listed a w
 | [],p,listed,a,w,m,J,L,q,d,c=>by
  have hp:p=ops.size:=by
   have:=AB6 List.length m;simp at this;omega
  refine⟨?_,c⟩;apply ACj.2;grind [Dr]
 | o :: r,p,listed,a,w,m,J,L,q,d,c=>by
  obtain⟨g,C⟩:=XH m;have g:ops[p]?=some o:=by simpa using g
  have t:p<ops.size:=(AAj.1 g).1;have x:∀e b,e<ops.size→listed.getD e b=listed.getD e true:=fun e b h=>by grind
  have G:∀i o,ops[i]?=some o→listed.getD i true=true→∀e∈EK o,listed.getD e false=true:=by
   intro i o B h1 e h;have u:i<ops.size:=(AAj.1 B).1;have y:=(d i u).1 h1;have l:=f.lt i o B e h;grind
  have M:∀i,i∈Region.ready .any ops listed→i=p:=by
   intro i hi;rw[Dr]at hi;obtain⟨h1,D,s,y⟩:=hi;have u:i<ops.size:=(AAj.1 s).1;have O:¬i<p:=fun K=>by rw[(d i u).2 K]at h1;cases h1
   by_cases n:i=p
   ·exact n
   ·have l:=UA f G i D s y p (f.back i D s (by omega) p (by omega));rw[x p false t]at l;have:=(d p t).1 l;omega
  refine⟨fun R=>?_,fun i hi=>?_⟩
  ·exfalso;have:p∈Region.ready .any ops listed:=by
    rw[Dr];refine⟨?_,o,g,fun e h=>?_⟩
    ·cases hh:listed.getD p true with
     | false=>rfl
     | true=>have:=(d p t).1 hh;omega
    ·have:=f.lt p o g e h;rw[x e false (by omega)];exact(d e (by omega)).2 this
   grind
  ·have n:=M i hi;subst n;have A:∀(j:Nat),j<ops.size→((listed.setIfInBounds i true).getD j true=true↔j<i+1):=by
    intro j H;have I:j<listed.size:=by omega
    by_cases z:j=i
    ·subst z;simp[Array.getD,I]
    ·have h1:(listed.setIfInBounds i true).getD j true=listed.getD j true:=getD_set_ne true (fun e=>z e.symm);rw[h1,d j H];omega
   unfold wpOpIn;rw[g];simp only;unfold wpListIn at c;split
   ·rename_i v;rw[BY v]at c;exact Oper.wpIn_mono (fun N w' E=>Pi f C.symm (by omega) (by omega) (by simpa using q) A E) c
   ·rename_i v;rw[At v]at c;exact⟨c.1,Pi f C.symm (by omega) (by omega) (by simpa using q) A c.2⟩
end
end
section
open Go Go.RowKit
theorem EX:∀(k:Nat) (l:List Nat),l.Nodup→(∀j∈l,j<k)→l.length≤k
 | 0,l,_,h=>by
  cases l with
  | nil=>simp
  | cons x r=>have:=h x (by simp);omega
 | k+1,l,hn,h=>by
  by_cases hk:k∈l
  ·have:=EX k (l.erase k) (hn.erase k) (fun j a=>by
    have h1:=(hn.mem_erase_iff).1 a;have:=h j h1.2;have:=h1.1;omega)
   grind
  ·have:=EX k l hn (fun j a=>by
    have:=h j a;have:j≠k:=fun e=>hk (e▸a);omega)
   omega
theorem qK:∀(k:Nat) (l:List Nat),(∀j,j<k→j∈l)→k≤l.length
 | 0,l,_=>by simp
 | k+1,l,h=>by
  have hk:=h k (by omega);have:=qK k (l.erase k) (fun j a=>(ACo (by omega)).2 (h j (by omega)));grind
theorem UB {c:Cx} {σ σ':St} {a:Act} {w:World} (j:∀s,lk s σ'.env=lk s σ.env) (f:∀n,lk n σ'.objs=lk n σ.objs) (h:c.sat σ a w):c.sat σ' a w:=by
 obtain⟨ρ,h⟩:=h;have d:Gt σ'=Gt σ:=by
  funext n;simp only[Gt,f]
 have g:∀w,vw w c.O0 σ' ρ=vw w c.O0 σ ρ:=by
  intro w;have l:own c.O0 σ' ρ=own c.O0 σ ρ:=by
   funext b;simp only[own,d]
  simp only[vw,d,l]
 refine⟨ρ,h.frm,h.nt,h.defers,fun p hp=>by rw[d];exact h.pin p hp,?_,?_,?_,?_⟩
 ·intro n o hn;rw[g];exact h.objs n o (by rw[←f];exact hn)
 ·intro n b k i;exact h.free n b (by rw[←d];exact k) i
 ·intro n m b h1 e;rw[d]at h1 e;exact h.dist n m b h1 e
 ·intro s v hs;rw[g];exact h.env s v (by rw[←j];exact hs)
theorem bH {c:Cx} {σ:St} {a:Act} {w:World} (h:c.sat σ a w):c.sat σ a { w with drawn:=w.drawn+1 }:=by
 obtain⟨ρ,h⟩:=h;have hk:CW (vw w c.O0 σ ρ) (vw { w with drawn:=w.drawn+1 } c.O0 σ ρ):=⟨fun _ _ h=>h,fun _ h=>h,fun _ _=>rfl,fun _ _ _=>rfl⟩;exact⟨ρ,⟨h.frm.os,h.frm.tape,h.frm.output,h.frm.size,h.frm.block⟩,h.nt,h.defers,h.pin,fun n o b=>(h.objs n o b).keeps hk fun _ _=>rfl,h.free,h.dist,fun s v hs=>(h.env s v hs).keeps hk⟩
theorem S4 {c:Cx} {σ σ':St} {a:Act} {w:World} (d:∀s v,lk s σ'.env=some v→lk s σ.env=some v) (e:∀n,lk n σ'.objs=lk n σ.objs) (h:c.sat σ a w):c.sat σ' a w:=by
 have b:c.sat ⟨σ.env,σ'.objs⟩ a w:=UB (σ:=σ) (fun _=>rfl) e h;obtain⟨ρ,h⟩:=b;exact⟨ρ,h.frm,h.nt,h.defers,h.pin,h.objs,h.free,h.dist,fun s v hs=>h.env s v (d s v hs)⟩
theorem MR {c:Cx} {ops:Array Oper} {σ:St} {a:Act} {w:World} (hs:c.sat σ a w) {o:Oper} {b:Bool} (h:LF ops.toList σ b o.guard):Region.wanted o (yielded ops a.tmps)=b:=by
 cases d:o.guard with
 | none =>
  rw[d]at h;simp only[LF]at h;simp[Region.wanted,d,h]
 | some g =>
  obtain⟨j,n⟩:=g;rw[d]at h;simp only[LF]at h;obtain⟨s,k,h⟩:=h;rcases h with ⟨x,e,rfl⟩|⟨e,rfl⟩
  ·refine Hu hs ?_;grind [Ef,Al,Ju,Qs]
  ·obtain⟨ρ,hs⟩:=hs;have i:a.tmps.getD s undef=undef:=hs.env s _ e;have l:(ops[j]?).bind (·.dst)=some s:=by simpa[Al] using k
   have m:yielded ops a.tmps j=none:=by
    simp only[yielded,l,Option.bind_some];by_cases f:s<a.tmps.size
    ·have:a.tmps.getD s undef=a.tmps[s]:=by simp[Array.getD,f]
     rw[this]at i;rw[AAD f,i];rfl
    ·grind
   simp[Region.wanted,d,m]
section
variable {c:Cx} {ops:Array Oper} {k:Nat} {q:Bool} {anc:List (List Nat)} {σ0 σ':St} {en:Nat→En} {Q:Exit→Act→World→Prop}
theorem A6u (hF:∀j o,j<k→ops[j]?=some o→Tx c.tb ops.toList q σ0 en j o) (hk:k≤ops.size):Sep σ0 en k:=by
 have one:∀j,j<k→∀n o,lk n (en j).obs=some o→lk n (Ar ops.toList en σ0 (Ak j)).objs=none:=by
  intro j a n o hn;have m:ops[j]?=some (ops[j]'(by omega)):=AAD (by omega);have h1:=hF j _ a m;cases g:(en j).b with
  | true =>
   obtain⟨_,_,_,hf⟩:=h1.t g;exact OD hf hn
  | false =>
   rw[(h1.f g).2]at hn;simp[lk]at hn
 have low:∀i j,i<j→j<k→∀n o d,lk n (en i).obs=some o→lk n (en j).obs=some d→False:=by
  intro i j l a n o d h1 e;have:=one j a n d e;rw[Fq,A1]at this;cases h:lk n ((Ak j).flatMap fun j=>(en j).obs) with
  | some x=>rw[h]at this;simp at this
  | none =>
   have:=LI h i (BI.2 l);rw[this]at h1;cases h1
 refine⟨fun j a n o hn=>?_,fun i j hi a n o d h1 e=>?_⟩
 ·grind [Fq,A1,lk,Ak]
 ·grind
theorem zE (b:XG ops k anc) {l:List Nat} (e:∀j∈l,j<k) {s j:Nat} (d:j∈l) (f:Al ops.toList j=some s):l.find? (fun j=>Al ops.toList j==some s)=some j:=by
 have hu:∀i,i∈l→Al ops.toList i=some s→i=j:=by
  intro i hi g;have h1:=e i hi;have a:=e j d;have m:=b.k;have get:∀x,x<k→Al ops.toList x=(ops[x]?).bind (·.dst):=fun x _=>by simp[Al]
  rcases ACb i j with h|h|h
  ·have c:ops[j]?=some (ops[j]'(by omega)):=AAD (by omega);have:=(b.front j _ c a).2.2 i h;grind
  ·exact h
  ·have c:ops[i]?=some (ops[i]'(by omega)):=AAD (by omega);have:=(b.front i _ c h1).2.2 j h;grind
 cases hf:l.find? (fun j=>Al ops.toList j==some s) with
 | none =>
  have:=ACA.1 hf j d;simp[f]at this
 | some i =>
  have h1:=ABX hf;have a:=ACT hf;rw[hu i h1 (by simpa using a)]
theorem UC (a:XG ops k anc) {l l':List Nat} (b:∀j∈l,j<k) (c:∀j∈l',j<k) {s:Nat} (h:∀j,j<k→Al ops.toList j=some s→j∈l∧j∈l') :
  lk s (Ar ops.toList en σ0 l).env=lk s (Ar ops.toList en σ0 l').env:=by
 rw[Fs,Fs];by_cases d:∃j,j<k∧Al ops.toList j=some s
 ·grind [zE]
 ·grind
theorem uI (Z:c.Ok) (A:XG ops k anc) (bj:∀o∈ops.toList,Hg c.nt o=true) (hF:∀j o,j<k→ops[j]?=some o→Tx c.tb ops.toList false σ0 en j o)
  {σ2:St} (an:∀s v,lk s σ2.env=some v→lk s (Ar ops.toList en σ0 (Ak k)).env=some v) (ao:σ2.objs=(Ar ops.toList en σ0 (Ak k)).objs) (hT:∀I w',c.sat σ2 I w'→wpListIn (FR c.r) 0 c.P ops Q (ops.toList.drop k) I w') :
  ∀(m:Nat) (ex:List Nat) (listed:Array Bool) (a:Act) (w:World),ex.Nodup→(∀j∈ex,j<k)→m+ex.length=ops.size→listed.size=ops.size→(∀i,i<ops.size→(listed.getD i true=true↔i∈ex)) →
   (∀i o,ops[i]?=some o→i∈ex→∀e∈EK o,e∈ex)→c.sat (Ar ops.toList en σ0 ex) a w→wpAnyIn (FR c.r) 0 c.P .any ops Q m listed a w:=by
 have al:=A.k;have H:=A6u hF al;intro m;induction m with
 | zero =>
  intro ex listed a w N z bo Y J ap hs;have h1:=EX k ex N z;have bn:k=ops.size:=by omega
  by_cases D:∀j,j<k→j∈ex
  ·have ar:ops.toList.drop k=[]:=by simp[bn]
   have S:c.sat σ2 a w:=S4 an (fun _=>by rw[ao]) <| UB
    (fun s=>(UC A z (fun j y=>BI.1 y) fun j y _=>⟨D j y,BI.2 y⟩).symm)
    (fun n=>ACG fun o=>by
     rw[E8 H (fun j y=>BI.1 y),E8 H z];simp only[BI];constructor
     ·grind
     ·rintro (⟨j,y,h⟩|⟨h1,U⟩)
      ·grind
      ·exact .inr ⟨fun j y=>h1 j (D j y),U⟩) hs
   have:=Pi (Q:=Q) (F:=FR c.r) (P:=c.P) A (rest:=[]) (p:=k) (listed:=listed) (a:=a) (w:=w) ar (Is _) al Y (fun i hi=>by
    rw[J i hi];exact⟨z i,D i⟩) (by rw[←ar];exact hT a w S)
   exact this
  ·exfalso;apply D;intro j y;apply DO;intro az;have:=EX k (j :: ex) (AAt.2 ⟨az,N⟩) (fun i hi=>by
    rcases By.1 hi with rfl|hi
    ·exact y
    ·exact z i hi)
   simp at this;omega
 | succ m cb =>
  intro ex listed a w N z bo Y J ap hs;have bf:∀e b,e<ops.size→listed.getD e b=listed.getD e true:=fun e b C=>by grind
  by_cases D:∀j,j<k→j∈ex
  ·have ck:ex.length=k:=AC1 (EX k ex N z) (qK k ex D);have S:c.sat σ2 a w:=S4 an (fun _=>by rw[ao]) <| UB
    (fun s=>(UC A z (fun j y=>BI.1 y) fun j y _=>⟨D j y,BI.2 y⟩).symm)
    (fun n=>ACG fun o=>by
     rw[E8 H (fun j y=>BI.1 y),E8 H z];simp only[BI];constructor
     ·grind
     ·rintro (⟨j,y,h⟩|⟨h1,U⟩)
      ·grind
      ·exact .inr ⟨fun j y=>h1 j (D j y),U⟩) hs
   have:=Pi (Q:=Q) (F:=FR c.r) (P:=c.P) A (rest:=ops.toList.drop k) (p:=k) (listed:=listed) (a:=a) (w:=w) rfl (Is _) al Y (fun i hi=>by
    rw[J i hi];exact⟨z i,D i⟩) (hT a w S)
   grind
  ·refine⟨fun bq=>?_,fun i hi=>?_⟩
   ·exfalso;apply D;intro j;induction j using Nat.strongRecOn with
    | _ j cd =>
     intro y;apply DO;intro az;have R:ops[j]?=some (ops[j]'(by omega)):=AAD (by omega);have:j∈Region.ready .any ops listed:=by
      rw[Dr];refine⟨?_,_,R,fun e C=>?_⟩
      ·grind
      ·have ab:=A.lt j _ R e C;rw[bf e false (by omega)];exact(J e (by omega)).2 (cd e ab (by omega))
     rw[bq]at this;cases this
   ·rw[Dr]at hi;obtain⟨h1,o,B,U⟩:=hi;have bd:i<ops.size:=(AAj.1 B).1;have ba:i∉ex:=fun h=>by rw[(J i bd).2 h]at h1;cases h1
    have bi:∀e∈EK o,e∈ex:=fun e C=>by grind
    have ae:∀j∈anc.getD i [],j∈ex:=by grind [EK,UA]
    have M:i<k:=by
     apply DO;intro cj;exact D fun j y=>ae j (A.back i o B (by omega) j (by omega))
    have ah:=A.front i o B M;obtain⟨d,ci⟩:=ah.1;have bh:Al ops.toList i=o.dst:=by simp[Al,B]
    have bb:∀t∈M8 ops.toList o,lk t (Ar ops.toList en σ0 ex).env=lk t (Ar ops.toList en σ0 (Ak i)).env:=by
     intro t bx;refine UC A z (fun j y=>by have:=BI.1 y;omega) fun j y af=>?_;have ax:=ah.2.1 t bx j y af;refine⟨ae j ax,BI.2 ?_⟩;have:∀i o,ops[i]?=some o→∀j∈anc.getD i [],j<i:=by
      intro i;induction i using Nat.strongRecOn with
      | _ i cc =>
       intro o B j y;rcases A.cl i o B j y with ad|⟨e,C,bl⟩
       ·exact A.lt i o B j ad
       ·have bg:=A.lt i o B e C;have bd:i<ops.size:=(AAj.1 B).1;have:=cc e bg _ (AAD (by omega)) j bl;omega
     exact this i o B j ax
    have bs:Ops ⟨(Ar ops.toList en σ0 (Ak i)).env,Bx false (GL o.op) σ0.objs (ES ops.toList en (Ak i))⟩ (Ar ops.toList en σ0 ex) o.op.operands.toList:=by
     intro x ca v T;cases x with
     | tmp t =>
      simp only[Aj]at T ⊢;rw[bb t (by
       simp only[M8,Of,ABB];exact .inl ⟨_,ca,rfl⟩)]
      exact T
     | const cm=>exact T
     | global g=>exact T
     | func f=>exact T
    have br:Yz ⟨(Ar ops.toList en σ0 (Ak i)).env,Bx false (GL o.op) σ0.objs (ES ops.toList en (Ak i))⟩ (Ar ops.toList en σ0 ex):=by
     intro n G hn;refine zC H (fun j y=>by have:=BI.1 y;omega) z (fun j y ak=>?_) hn;have X:=BI.1 y;have R:ops[j]?=some (ops[j]'(by omega)):=AAD (by omega);obtain⟨am,af⟩:=(A.front j _ R (by omega)).1;have aq:Al ops.toList j=some am:=by simp[Al,R,af]
     rw[aq]at ak;simp only[ACL,AB7,AZ]at ak;refine ae j (ah.2.1 am ?_ j (by omega) aq);simp only[M8,Of];exact .inl ak
    have ag:=hF i o M B;have E:LF ops.toList (Ar ops.toList en σ0 ex) (en i).b o.guard:=by
     have E:=ag.g;cases ai:o.guard with
     | none=>rw[ai]at E;exact E
     | some g =>
      obtain⟨j,co⟩:=g;rw[ai]at E;simp only[LF]at E ⊢;obtain⟨s,av,E⟩:=E;refine⟨s,av,?_⟩;rw[bb s (by
       simp only[M8,ai,Of,av];exact .inr (by simp))]
      exact E
    have aa:=MR hs E;have bp:o∈ops.toList:=by grind
    have au:=Be (bj o bp);have bc:∀I w',c.sat ((Ar ops.toList en σ0 ex).add (en i).v (en i).obs o.dst) I w'→wpAnyIn (FR c.r) 0 c.P .any ops Q m (listed.setIfInBounds i true) I w':=by
     intro I w' S;refine cb (i :: ex) _ I w' (AAt.2 ⟨ba,N⟩) (fun j y=>?_) (by simp;omega) (by simpa using Y) (fun j y=>?_) (fun i' G L aj e C=>?_) (by simp only[Ar,bh];exact S)
     ·rcases By.1 y with rfl|y
      ·exact M
      ·exact z j y
     ·have bm:j<listed.size:=by omega
      by_cases X:j=i
      ·subst X;simp[Array.getD,bm]
      ·have ab:(listed.setIfInBounds i true).getD j true=listed.getD j true:=getD_set_ne true (fun e=>X e.symm);rw[ab,J j y];simp[X]
     ·rcases By.1 aj with rfl|aj
      ·rw[B]at L;cases L;exact If _ (bi e C)
      ·exact If _ (ap i' G L aj e C)
    unfold wpOpIn;rw[B];simp only;cases V:(en i).b with
    | true =>
     rw[V]at aa;rw[BY aa];obtain⟨cn,bt,bz,bk⟩:=ag.t V;obtain⟨ρ,be⟩:=hs;have bu:=S3 br bs bt;have aw:Bd (en i).obs (Ar ops.toList en σ0 ex)=true:=by
      simp only[Bd,IN]at bk ⊢;intro p hp;have bw:∃G,lk p.1 (en i).obs=some G:=by
       have:∀(l:List (Nat×Obj)),p∈l→∃G,lk p.1 l=some G:=by
        intro l;induction l with
        | nil=>intro h;cases h
        | cons q r ce =>
         intro h;obtain⟨cg,ch⟩:=q;simp only[lk];by_cases C:p.1=cg
         ·exact⟨ch,by rw[BY C]⟩
         ·rw[At C];rcases By.1 h with rfl|h
          ·exact absurd rfl C
          ·exact ce h
       exact this _ hp
      obtain⟨G,L⟩:=bw;have:lk p.1 (Ar ops.toList en σ0 ex).objs=none:=by
       cases ay:lk p.1 (Ar ops.toList en σ0 ex).objs with
       | none=>rfl
       | some cf =>
        rw[E8 H z]at ay;rcases ay with ⟨j,y,W⟩|⟨_,W⟩
        ·have:=H.2 i j M (z j y) p.1 G cf L W;subst this;exact absurd y ba
        ·rw[H.1 i M p.1 G L]at W;cases W
      simp[this]
     exact qA (A4f Z be) bu bz aw fun u ρ' w' bv=>bc _ _ ⟨ρ',be.add Z.K Z.O au aw bv⟩
    | false =>
     rw[V]at aa;rw[At (by simp[aa])];refine⟨fun _ _=>trivial,?_⟩;have:=ag.f V;have ad:=M4 Z hs au;refine bc _ _ ?_;rw[this.1,this.2];exact ad
end
theorem uJ {c:Cx} {ops:Array Oper} {k:Nat} {σ0:St} {en:Nat→En} {Q:Exit→Act→World→Prop} (h:c.Ok) (I:∀o∈ops.toList,Hg c.nt o=true) (hF:∀j o,j<k→ops[j]?=some o→Tx c.tb ops.toList true σ0 en j o) (hk:k≤ops.size)
  {σ2:St} (E:∀s v,lk s σ2.env=some v→lk s (Ar ops.toList en σ0 (Ak k)).env=some v) (F:σ2.objs=(Ar ops.toList en σ0 (Ak k)).objs) (hT:∀d w',c.sat σ2 d w'→wpListIn (FR c.r) 0 c.P ops Q (ops.toList.drop k) d w'):∀(m i:Nat) (a:Act) (w:World),m+i=k→c.sat (Ar ops.toList en σ0 (Ak i)) a w→wpListIn (FR c.r) 0 c.P ops Q (ops.toList.drop i) a w:=by
 intro m;induction m with
 | zero =>
  intro i a w hi hs;have:i=k:=by omega
  subst this;exact hT _ _ (S4 E (fun _=>by rw[F]) hs)
 | succ m U =>
  intro i a w hi hs;have q:ops[i]?=some (ops[i]'(by omega)):=AAD (by omega);generalize ops[i]'(by omega)=o at q;have H:ops.toList.drop i=o :: ops.toList.drop (i+1):=by
   have:i<ops.toList.length:=by simp;omega
   rw[ON this];grind
  rw[H];have p:=hF i o (by omega) q;have n:=MR hs p.g;have J:o∈ops.toList:=by grind
  have y:=Be (I o J);have T:Al ops.toList i=o.dst:=by simp[Al,q]
  have B:∀d w',c.sat ((Ar ops.toList en σ0 (Ak i)).add (en i).v (en i).obs o.dst) d w'→wpListIn (FR c.r) 0 c.P ops Q (ops.toList.drop (i+1)) d w':=by grind [Ak,Ar]
  unfold wpListIn;cases e:(en i).b with
  | true =>
   rw[e]at n;rw[BY n];obtain⟨S,A,R,z⟩:=p.t e;obtain⟨ρ,C⟩:=hs;have L:∀l:List Nat,Bx true (GL o.op) σ0.objs (ES ops.toList en l)=(Ar ops.toList en σ0 l).objs:=by
    intro l;rw[Fq];induction l with
    | nil=>rfl
    | cons x r D=>simp only[ES,AA4,Bx,Bool.true_or,AAQ,ABV,oF]at D ⊢;rw[D]
   have M:aq c.tb (Ar ops.toList en σ0 (Ak i)) (o.dst.getD 0) o.op=some (S,(en i).v,(en i).obs):=by
    rw[L]at A;exact A
   exact qA (A4f h C) M R z fun u ρ' w' N=>B _ _ ⟨ρ',C.add h.K h.O y z N⟩
  | false =>
   rw[e]at n;rw[At (by simp[n])];refine⟨fun _ _=>trivial,?_⟩;have:=p.f e;have G:=M4 h hs y;refine B _ _ ?_;rw[this.1,this.2];exact G
theorem NB {tb:Tb} {ops:List Oper} {q:Bool} {base:List (Nat×Obj)} {rest:List Oper}:∀ {fr:List Oper} {i:Nat} {E:List (Nat×List (Nat×Obj))} {G:Gs} {σ σ':St} {vc:Prop},Lr tb ops q base rest fr i E G σ=some (vc,σ')→vc →
  ∃(e f:Prop) (j:St),Lr tb ops q base [] fr i E G σ=some (e,j)∧e∧Br tb ops rest j=some (f,σ')∧f
 | [],i,E,G,σ,σ',vc,h,k=>by grind [Lr,Br]
 | o :: r,i,E,G,σ,σ',vc,h,k=>by
  simp only[Lr]at h;cases l:HP ops G σ.env i o.guard with
  | none=>rw[l]at h;simp[evMG]at h
  | some p =>
   obtain⟨c,T⟩:=p;rw[l]at h;simp only[evMG]at h;cases m:x5 tb ops q base c G E σ.env o (HQ o.op) with
   | none=>rw[m]at h;cases c<;>simp[evMQ]at h
   | some x =>
    obtain⟨u,v,obs⟩:=x;rw[m]at h;cases c with
    | nil =>
     cases a:o.dst with
     | none=>rw[a]at h;simp[evMQ]at h
     | some d =>
      rw[a]at h;simp only[evMQ]at h;split at h
      ·rename_i hf;cases b:Lr tb ops q base rest r (i+1) (JR d obs E) G (σ.add v obs (some d)) with
       | none=>rw[b]at h;simp[Te]at h
       | some y =>
        obtain⟨w,σ2⟩:=y;rw[b]at h;simp only[Te]at h;cases h;obtain⟨e,f,j,h1,n,s,t⟩:=NB b k.2;exact⟨u∧e,f,j,by simp only[Lr,l,evMG,m,a,evMQ,h1,Te];rw[BY hf],⟨k.1,n⟩,s,t⟩
      ·cases h
    | cons g c =>
     cases obs with
     | cons z A=>cases a:o.dst<;>rw[a]at h<;>simp[evMQ]at h
     | nil =>
      cases a:o.dst with
      | none=>rw[a]at h;simp[evMQ]at h
      | some d =>
       rw[a]at h;simp only[evMQ]at h;split at h
       ·rename_i hf;cases b:Lr tb ops q base rest r (i+1) E ((d,g :: c,T,v) :: G) σ with
        | none=>rw[b]at h;simp[Te]at h
        | some y =>
         obtain⟨w,σ2⟩:=y;rw[b]at h;simp only[Te]at h;cases h;obtain⟨e,f,j,h1,n,s,t⟩:=NB b k.2;exact⟨(T=true→u)∧e,f,j,by simp only[Lr,l,evMG,m,a,evMQ,h1,Te];rw[BY hf],⟨k.1,n⟩,s,t⟩
       ·cases h
theorem A7w {ops:List Oper} {q:Bool} {σ0:St} {en:Nat→En}:Inv ops q σ0 en 0 [] [] σ0 :=
 { env:=fun _ _ h=>h,G:=fun s c T v h=>absurd h (by simp),f:=fun j a=>absurd a (by omega),objs:=rfl,E:=fun _=>rfl }
section
variable {c:Cx} {R:Exit→Act→World→Prop} {k:List Dp} {σ σ':St}
def Hh (c:Cx) (R:Exit→Act→World→Prop) (k:List Dp) (ops:Array Oper) (l:List Oper) (σ:St):Prop :=
 (∀o∈l,Hg c.nt o=true)→DG c.nt k=true→∀a w,c.sat σ a w→wpListIn (FR c.r) 0 c.P ops (Tt c R k) l a w
theorem A4j {ops:Array Oper} (h:Ev c R (.out .normal) k σ):Hh c R k ops [] σ:=fun _ b a w hs=>h rfl b a w hs
theorem S5 (f:c.Ok) {ops:Array Oper} {l:List Oper} (n:Nat) {vc:Prop} (h:Br c.tb ops.toList (l.take n) σ=some (vc,σ')) (i:vc) (hk:Hh c R k ops (l.drop n) σ'):Hh c R k ops l σ:=by
 intro h1 e a w hs;have:=Qz (r:=l.drop n) f (l.take n) hs (fun o b=>h1 o (AAu b)) h i (fun d w' g=>hk (fun o b=>h1 o (ABt b)) e d w' g)
 rwa [ABA]at this
theorem bI (z:c.P.follows .mixedOrders=true) (u:c.Ok) {id:Nat} {l:List Oper} (n:Nat) (d:Lp l (l.take n).length=true) {vc:Prop}
  (h:Lr c.tb l false σ.objs [] (l.take n) 0 [] [] σ=some (vc,σ')) (C:vc) (hk:Hh c R k l.toArray (l.drop n) σ') :
  Ev c R (.run (.region id l.toArray true)) k σ:=by
 intro h1 r a w hs;simp only[JP,Bv,IN]at h1;have d:=A7v (ops:=l.toArray) (k:=(l.take n).length) (anc:=zB l) (by simpa only[Lp] using d);have hu:lY l (l.take n).length:=by
  intro x y D g;have m:y<l.length:=by simp at g;omega
  have A:l.toArray[y]?=some l[y]:=by simp[m]
  have:=(d.front y _ A g).2.2 x D;simpa[Al,m] using this
 obtain⟨en,_,hF,F,σ2,f,E,s,t⟩:=Q4 (ops:=l) (q:=false) (σ0:=σ) (en:=fun _=>⟨false,.top,[]⟩) hu h C A7w (by simp) (fun j b=>by
  have b:j<(l.take n).length:=b;rw[AAS,AAe];simp only[OS]at b;rw[BY (by omega)])
 refine wpIn_region_any z ?_;have v:l.drop (l.take n).length=l.drop n:=by simp_all
 simp only[Br]at f;cases f;have:=uI (c:=c) (ops:=l.toArray) (k:=(l.take n).length) (σ0:=σ) (en:=en) (Q:=Tt c R k) u d (by simpa using h1)
  (fun j o b e=>hF j o (by omega) b (by simpa using e)) (σ2:=σ') s t (fun p w' B=>by
   rw[show (l.toArray.toList.drop _)=l.drop n from v];exact hk (fun o e=>h1 o (by simpa using ABt e)) r p w' B)
  l.toArray.size [] (Array.replicate l.toArray.size false) a { w with drawn:=w.drawn+1 } (by simp) (by simp) (by simp) (by simp) (fun i hi=>by simp at hi;simp[Array.getD,hi]) (fun i o _ hi=>by simp at hi) (bH hs)
 exact this
theorem lZ (r:c.Ok) {id:Nat} {l:List Oper} (n:Nat) (f:uG l (l.take n).length=true) {vc:Prop}
  (h:Lr c.tb l true σ.objs [] (l.take n) 0 [] [] σ=some (vc,σ')) (u:vc) (hk:Hh c R k l.toArray (l.drop n) σ') :
  Ev c R (.run (.region id l.toArray false)) k σ:=by
 intro h1 i a w hs;simp only[JP,Bv,IN]at h1;simp only[uG,As,IN,oN,IS]at f;have hu:lY l (l.take n).length:=by
  intro x y z A;grind [Al]
 obtain⟨en,_,hF,B,σ2,e,v,m,p⟩:=Q4 (ops:=l) (q:=true) (σ0:=σ) (en:=fun _=>⟨false,.top,[]⟩) hu h u A7w (by simp) (fun j b=>by
  have b:j<(l.take n).length:=b;rw[AAS,AAe];simp only[OS]at b;rw[BY (by omega)])
 have s:l.drop (l.take n).length=l.drop n:=by simp_all
 refine ACm ?_;simp only[Br]at e;cases e;have:=uJ (c:=c) (ops:=l.toArray) (k:=(l.take n).length) (σ0:=σ) (en:=en) (Q:=Tt c R k) r (by simpa using h1)
  (fun j o b d=>hF j o (by omega) b (by simpa using d)) (by simpa using f.1) (σ2:=σ') m p (fun g w' t=>by
   rw[show (l.toArray.toList.drop _)=l.drop n from s];exact hk (fun o d=>h1 o (by simpa using ABt d)) i g w' t)
  (l.take n).length 0 a w (by simp) hs
 exact this
theorem Y0 (e:c.Ok) {ops:Array Oper} {l:List Oper} {vc:Prop} (h:Br c.tb ops.toList l σ=some (vc,σ')) (g:vc) (hk:Ev c R (.out .normal) k σ'):Hh c R k ops l σ:=by
 intro h1 d a w hs;exact Pe e l hs h1 h g (fun b w' f=>hk rfl d b w' f)
theorem bJ (e:c.P.follows .mixedOrders=true) (a:c.Ok) {id:Nat} {l:List Oper} (n:Nat) (d:Lp l (l.take n).length=true) {vc:Prop}
  (h:Lr c.tb l false σ.objs (l.drop n) (l.take n) 0 [] [] σ=some (vc,σ')) (f:vc) (hk:Ev c R (.out .normal) k σ') :
  Ev c R (.run (.region id l.toArray true)) k σ:=by
 obtain⟨j,m,o,h1,g,b,i⟩:=NB h f;exact bI e a n d h1 g (Y0 a b i hk)
theorem l5 (a:c.Ok) {id:Nat} {l:List Oper} (n:Nat) (d:uG l (l.take n).length=true) {vc:Prop}
  (h:Lr c.tb l true σ.objs (l.drop n) (l.take n) 0 [] [] σ=some (vc,σ')) (e:vc) (hk:Ev c R (.out .normal) k σ') :
  Ev c R (.run (.region id l.toArray false)) k σ:=by
 obtain⟨i,j,m,h1,f,b,g⟩:=NB h e;exact lZ a n d h1 f (Y0 a b g hk)
theorem zF (d:c.P.follows .mixedOrders=true) (a:c.Ok) {id:Nat} {l:List Oper} (b:Lp l l.length=true) {vc:Prop}
  (h:Lr c.tb l false σ.objs [] l 0 [] [] σ=some (vc,σ')) (e:vc) (hk:Ev c R (.out .normal) k σ') :
  Ev c R (.run (.region id l.toArray true)) k σ :=
 bJ d a l.length (by rw[iS];exact b) (by rw[iS,ABN];exact h) e hk
theorem zG (m:Nat) (d:c.P.follows .mixedOrders=true) (a:c.Ok) {id:Nat} {l:List Oper} (b:Lp l (l.take (l.length-m)).length=true) {vc:Prop}
  (h:Lr c.tb l false σ.objs (l.drop (l.length-m)) (l.take (l.length-m)) 0 [] [] σ=some (vc,σ')) (e:vc) (hk:Ev c R (.out .normal) k σ') :
  Ev c R (.run (.region id l.toArray true)) k σ:=bJ d a _ b h e hk
theorem l7 (a:c.Ok) {id:Nat} {l:List Oper} (b:uG l l.length=true) {vc:Prop}
  (h:Lr c.tb l true σ.objs [] l 0 [] [] σ=some (vc,σ')) (d:vc) (hk:Ev c R (.out .normal) k σ') :
  Ev c R (.run (.region id l.toArray false)) k σ :=
 l5 a l.length (by rw[iS];exact b) (by rw[iS,ABN];exact h) d hk
theorem l8 (a:c.Ok) {id:Nat} {l:List Oper} (_:(l.all fun o=>o.guard.isNone)=true) {vc:Prop} (h:Br c.tb l l σ=some (vc,σ')) (b:vc) (hk:Ev c R (.out .normal) k σ') :
  Ev c R (.run (.region id l.toArray false)) k σ:=lS a h b hk
end
end
section
open Go Go.RowKit
theorem qL {c:Cx} {σ b σ':St} (l:List Nat) (h:Ck l σ=b) (d:y6 c b σ'):y6 c σ σ':=by
 intro a w hs;obtain⟨ρ,hs⟩:=hs;exact d a w ⟨ρ,by rw[←h];exact K9 hs⟩
theorem IV {α:Type} (a b:List α):(a++b).take (a.length+b.length)=a++b:=An (by simp)
theorem NC {α:Type} (a b:List α):sub (a++b) 0 (a.length+b.length)=a++b:=by rw[G0,IV]
theorem Ge {α:Type} (a:List α) (x:α):(a++[x]).take (a.length+1)=a++[x]:=An (by simp)
theorem KS {α:Type} (a:List α) (x:α):sub (a++[x]) 0 (a.length+1)=a++[x]:=by rw[G0,Ge]
theorem A6v {P:Program} {tb:Tb} {w0:World} {O0:Nat→Prop} {nt:Nat} (c:(cx P tb w0 O0 nt).Ok) {fn:Func} {a:List RV} {σ:St} {e:Exit} (b:List ResultVar) (g:fn.results.toList=b) (f:e=.ret∨e=.normal) (hp:∀r∈a,∃t d,r=.p t d) (h:Np tb σ b a) :
  Ev (cx P tb w0 O0 nt) (Tu P fn w0 O0 a) (.out e) [] σ:=y9 c f hp (by rw[g];exact h)
theorem XI:((0:Nat):Int)=0:=rfl
theorem XJ (k:Nat):((k+1:Nat):Int)=(k:Int)+1:=by omega
theorem AD {α:Type} (l:List α) (d:α) {k:Nat} (h:k<l.length):l.getD k d∈l:=by
 rw[AS,AT h];exact AAs h
theorem AG {P:Program} {ty:List (Nat×TI)} {b:List Nat} {ne:List (Nat×TypeId)} {a:List Nat}:JM P ⟨ty,[],b,ne,a⟩:=fun f sp h=>by simp[lk]at h
theorem AF {P:Program} {ty:List (Nat×TI)} {c:List Nat} {ne:List (Nat×TypeId)} {b:List Nat} {f:Nat} {sp:Ad} {r:List (Nat×Ad)} (h:Ag P f sp) (d:JM P ⟨ty,r,c,ne,b⟩):JM P ⟨ty,(f,sp) :: r,c,ne,b⟩:=fun g i a=>by
 simp only[lk]at a;split at a
 ·rename_i e;cases a;rw[e];exact h
 ·exact d g i a
theorem H9 {α:Type} (x:α):[x].take 1=[x]:=rfl
theorem AX {α:Type} (l:List α) (d:α) {k:Nat} (h:k<l.length):l.take (k+1)=l.take k++[l.getD k d]:=by
 rw[List.take_add_one,AS,AT h];rfl
theorem ND {α:Type} (l:List α) (q:Nat):sub l q l.length=l.drop q:=by
 unfold sub;rw[An (by simp)]
end
end Go.Proofs.YtdapahgnpbehbaaGreat.Fw
