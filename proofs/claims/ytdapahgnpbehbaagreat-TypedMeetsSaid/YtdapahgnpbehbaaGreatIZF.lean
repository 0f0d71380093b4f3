/- Regions whose order Go leaves open: the rules. -/
import Derived.Test.YtdapahgnpbehbaaGreatIZE
set_option linter.unusedVariables false
set_option linter.unusedSimpArgs false
namespace Go.Proofs.YtdapahgnpbehbaaGreat.Fw
section
open Go Go.RowKit
def EE (o:Oper):List Nat:=(o.after.toList.filter (Region.binds .any)).map (·.on)
def Ai (ops:List Oper) (j:Nat):Option Nat:=(ops[j]?).bind (·.dst)
def L5:Operand→Option Nat
 | .tmp t=>some t
 | _=>none
def My (ops:List Oper) (o:Oper):List Nat:=(o.op.operands.toList.filterMap L5)++(match o.guard with|some (j,_)=>(Ai ops j).toList|none=>[])
def A60 (a b:List Nat):List Nat:=a.foldl (fun r x=>if AW x r then r else x :: r) b
def xA (ops:List Oper):List (List Nat):=ops.foldl (fun(a:List (List Nat)) o=>a++[(EE o).foldl (fun r e=>A60 (a.getD e []) (if AW e r then r else e :: r)) []]) []
def opB (ops:List Oper) (k:Nat) (anc:List (List Nat)) (i:Nat) (o:Oper):Bool :=
  (EE o).all (fun e=>decide (e<i)) &&
  (anc.getD i []).all (fun j=>AW j (EE o)||(EE o).any fun e=>AW j (anc.getD e [])) &&
  (if i<k then o.dst.isSome&&((My ops o).all fun t=>(List.range k).all fun j=>Ai ops j != some t||AW j (anc.getD i []))&&((List.range i).all fun j=>Ai ops j != o.dst)
   else (List.range i).all fun j=>AW j (anc.getD i []))
def kM (ops:List Oper) (k:Nat) (anc:List (List Nat)):Bool :=
 decide (k≤ops.length)&&(List.range ops.length).all fun i=>match ops[i]? with|some o=>opB ops k anc i o|none=>false
def Lb (ops:List Oper) (k:Nat):Bool:=kM ops k (xA ops)
def sO (ops:List Oper) (k:Nat):Bool :=
 decide (k≤ops.length)&&(List.range k).all fun i=>match ops[i]? with|some o=>o.dst.isSome&&((List.range i).all fun j=>Ai ops j != o.dst)|none=>false
def Bv (q:Bool) (ts:List Nat) (base:List (Nat×Obj)):List (Nat×List (Nat×Obj))→List (Nat×Obj)
 | []=>base
 | (s,obs) :: r=>if (q||AW s ts)=true then obs++Bv q ts base r else Bv q ts base r
def GI (o:Op):List Nat:=o.operands.toList.filterMap L5
def Lc (q:Bool) (o:Op) (base:List (Nat×Obj)):List (Nat×List (Nat×Obj))→List (Nat×Obj)
 | []=>base
 | e :: r=>Bv q (GI o) base (e :: r)
def JD (d:Nat) (obs:List (Nat×Obj)) (E:List (Nat×List (Nat×Obj))):List (Nat×List (Nat×Obj)) :=
 match obs with
 | []=>E
 | x :: r=>(d,x :: r) :: E
abbrev Ch:=List (Nat×Bool)
abbrev Gs:=List (Nat×(Ch×Bool×AV))
def OI:Ch→Ch→Bool
 | [],[]=>true
 | (j,w) :: r,(a,w') :: b=>(j==a)&&(w==w')&&OI r b
 | [],_ :: _=>false
 | _ :: _,[]=>false
theorem KE:OI [] []=true:=rfl
theorem Mz (x:Nat×Bool) (r:Ch):OI [] (x :: r)=false:=rfl
theorem M0 (x:Nat×Bool) (r:Ch):OI (x :: r) []=false:=rfl
theorem Hy (j a:Nat) (w w':Bool) (r b:Ch):OI ((j,w) :: r) ((a,w') :: b)=(decide (j=a)&&(w==w')&&OI r b):=by
 have e:(j==a)=decide (j=a):=by
  by_cases h:j=a<;>simp[h]
 show ((j==a)&&(w==w')&&OI r b)=_;rw[e]
def Qz (a:Ch):Ch→Bool
 | []=>OI a []
 | k :: r=>OI a (k :: r)||Qz a r
def JE (c:Ch):Gs→List (Nat×AV)→List (Nat×AV)
 | [],env=>env
 | (s,a,_,v) :: G,env=>if Qz a c=true then (s,v) :: JE c G env else JE c G env
def JF (j:Nat) (a:Bool):Option (Ch×Bool×AV)→Option AV→Option (Ch×Bool)
 | some (c,T,.p .bool b),_=>some ((j,a) :: c,T&&(b==a))
 | none,some (.p .bool b)=>some ([(j,a)],b==a)
 | _,_=>none
def Hq (G:Gs) (env:List (Nat×AV)) (j:Nat) (a:Bool):Option Nat→Option (Ch×Bool)
 | some s=>JF j a (lk s G) (lk s env)
 | none=>none
def HK (ops:List Oper) (G:Gs) (env:List (Nat×AV)) (i:Nat):Option (Nat×Bool)→Option (Ch×Bool)
 | none=>some ([],true)
 | some (j,a)=>if j<i then Hq G env j a (Ai ops j) else none
def L6 (ops:List Oper) (c:Ch) (s:Nat) (w:Bool):Option (Ch×Bool×AV)→Option AV→Option AV
 | some (a,_,v),_=>if Qz a c=true then some v else match a with
  | []=>none
  | (j,w') :: r=>if w'=w∧Ai ops j=some s∧OI r c=true then some v else none
 | none,x=>x
def KF (ops:List Oper) (c:Ch) (G:Gs) (env:List (Nat×AV)) (s:Nat) (w:Bool):Operand→Option AV
 | .tmp t=>L6 ops c s w (lk t G) (lk t env)
 | .const v=>some (Gm v)
 | .func _=>none
 | .global _=>none
def L7:Option AV→Option AV→Option AV→BZ
 | some (.p .bool b),some (.p .bool p),some (.p .bool q)=>some (True,.p .bool (bif b then p else q),[])
 | _,_,_=>none
def L8 (ops:List Oper) (c:Ch) (G:Gs) (env:List (Nat×AV)):Operand→Operand→Operand→BZ
 | .tmp s,x,y=>L7 (lk s (JE c G env)) (KF ops c G env s true x) (KF ops c G env s false y)
 | .const _,_,_=>none
 | .func _,_,_=>none
 | .global _,_,_=>none
def HL:Op→Option (Operand×Operand×Operand)
 | .pick s x y=>some (s,x,y)
 | _=>none
def v5 (tb:Tb) (ops:List Oper) (q:Bool) (base:List (Nat×Obj)) (c:Ch) (G:Gs) (E:List (Nat×List (Nat×Obj))) (env:List (Nat×AV)) (o:Oper):Option (Operand×Operand×Operand)→BZ
 | some (s,x,y)=>L8 ops c G env s x y
 | none=>aq tb ⟨JE c G env,Lc q o.op base E⟩ (o.dst.getD 0) o.op
mutual
def K4 (tb:Tb) (ops:List Oper) (q:Bool) (base:List (Nat×Obj)) (rest:List Oper):List Oper→Nat→List (Nat×List (Nat×Obj))→Gs→St→DC
 | [],_,_,_,σ=>Bp tb ops rest σ
 | o :: r,i,E,G,σ=>evMG tb ops q base rest o r i E G σ (HK ops G σ.env i o.guard)
def evMG (tb:Tb) (ops:List Oper) (q:Bool) (base:List (Nat×Obj)) (rest:List Oper) (o:Oper) (r:List Oper) (i:Nat) (E:List (Nat×List (Nat×Obj))) (G:Gs) (σ:St):Option (Ch×Bool)→DC
 | some (c,T)=>evMQ tb ops q base rest o.dst r i E G σ c T (v5 tb ops q base c G E σ.env o (HL o.op))
 | none=>none
def evMQ (tb:Tb) (ops:List Oper) (q:Bool) (base:List (Nat×Obj)) (rest:List Oper) (dst:Option Nat) (r:List Oper) (i:Nat) (E:List (Nat×List (Nat×Obj))) (G:Gs) (σ:St):Ch→Bool→BZ→DC
 | [],_,some (vc,v,obs)=>match dst with
  | some d=>if Ba obs σ=true then TW vc (K4 tb ops q base rest r (i+1) (JD d obs E) G (σ.add v obs (some d))) else none
  | none=>none
 | g :: c,T,some (vc,v,[])=>match dst with
  | some d=>if (lk d σ.env).isNone=true then TW (T=true→vc) (K4 tb ops q base rest r (i+1) E ((d,g :: c,T,v) :: G) σ) else none
  | none=>none
 | _,_,_=>none
end
structure En where
 b:Bool
 v:AV
 obs:List (Nat×Obj)
def Ar (ops:List Oper) (en:Nat→En) (σ:St):List Nat→St
 | []=>σ
 | i :: r=>(Ar ops en σ r).add (en i).v (en i).obs (Ai ops i)
def Aj:Nat→List Nat
 | 0=>[]
 | i+1=>i :: Aj i
end
section
open Go Go.RowKit
section
variable {tb:Tb} {ops:List Oper} {k:Nat} {q:Bool} {anc:List (List Nat)} {σ0:St} {en:Nat→En}
def ES (ops:List Oper) (en:Nat→En) (l:List Nat):List (Nat×List (Nat×Obj)):=l.map fun j=>((Ai ops j).getD 0,(en j).obs)
def K5 (ops:List Oper) (σ:St) (b:Bool):Option (Nat×Bool)→Prop
 | none=>b=true
 | some (j,a)=>∃s,Ai ops j=some s∧((∃x,lk s σ.env=some (.p .bool x)∧b=(x==a))∨(lk s σ.env=some (.raw undef)∧b=false))
structure Tn (tb:Tb) (ops:List Oper) (q:Bool) (σ0:St) (en:Nat→En) (i:Nat) (o:Oper):Prop where
 g:K5 ops (Ar ops en σ0 (Aj i)) (en i).b o.guard
 t:(en i).b=true→∃vc:Prop,aq tb ⟨(Ar ops en σ0 (Aj i)).env,Bv q (GI o.op) σ0.objs (ES ops en (Aj i))⟩ (o.dst.getD 0) o.op=some (vc,(en i).v,(en i).obs)∧vc∧Ba (en i).obs (Ar ops en σ0 (Aj i))=true
 f:(en i).b=false→(en i).v=.raw undef∧(en i).obs=[]
theorem K6 {a:Nat→En}:∀ {l:List Nat},(∀j∈l,a j=en j)→Ar ops a σ0 l=Ar ops en σ0 l
 | [],_=>rfl
 | i :: r,h=>by
  simp only[Ar];rw[K6 (fun j b=>h j (by simp[b])),h i (by simp)]
theorem BJ {i j:Nat}:j∈Aj i↔j<i:=by
 induction i with
 | zero=>simp[Aj]
 | succ i a=>simp[Aj,a];omega
theorem Fh:∀(l:List Nat),(Ar ops en σ0 l).objs=(l.flatMap fun j=>(en j).obs)++σ0.objs
 | []=>rfl
 | i :: r=>by
  simp only[Ar,ABJ,oR];rw[←Fh r];cases Ai ops i<;>rfl
theorem Fi (s:Nat):∀(l:List Nat),lk s (Ar ops en σ0 l).env=match l.find? (fun j=>Ai ops j==some s) with|some j=>some (en j).v|none=>lk s σ0.env
 | []=>rfl
 | i :: r=>by
  simp only[Ar,List.find?_cons];cases a:Ai ops i with
  | none =>
   simp only[St.add];rw[Fi s r];have:((none:Option Nat)==some s)=false:=rfl;rw[this]
  | some d =>
   simp only[St.add,lk];by_cases hs:s=d
   ·subst hs;simp
   ·have h1:((some d:Option Nat)==some s)=false:=by
     have:d≠s:=fun e=>hs e.symm;simpa using this
    rw[As hs,Fi s r,h1]
theorem o6 {n:Nat} {o:Obj} {l:List Nat} (h:lk n (l.flatMap fun j=>(en j).obs)=some o):∃j∈l,lk n (en j).obs=some o:=by
 induction l with
 | nil=>simp[lk]at h
 | cons i r d =>
  rw[ABJ,A0]at h;cases a:lk n (en i).obs with
  | some e =>
   rw[a]at h;exact⟨i,by simp,by rw[a];simpa using h⟩
  | none =>
   rw[a]at h;obtain⟨j,b,c⟩:=d (by simpa using h);exact⟨j,by simp[b],c⟩
theorem K7 {n:Nat} {l:List Nat} (h:lk n (l.flatMap fun j=>(en j).obs)=none):∀j∈l,lk n (en j).obs=none:=by
 induction l with
 | nil=>simp
 | cons i r c =>
  rw[ABJ,A0]at h;cases a:lk n (en i).obs with
  | some d=>rw[a]at h;simp at h
  | none =>
   rw[a]at h;intro j b;rcases By.1 b with rfl|b
   ·exact a
   ·exact c (by simpa using h) j b
def Sep (σ0:St) (en:Nat→En) (k:Nat):Prop :=
 (∀j,j<k→∀n o,lk n (en j).obs=some o→lk n σ0.objs=none)∧∀i j,i<k→j<k→∀n o a,lk n (en i).obs=some o→lk n (en j).obs=some a→i=j
theorem Ez (i:Sep σ0 en k) {l:List Nat} (g:∀j∈l,j<k) (n:Nat) (o:Obj):lk n (Ar ops en σ0 l).objs=some o↔(∃j∈l,lk n (en j).obs=some o)∨((∀j∈l,lk n (en j).obs=none)∧lk n σ0.objs=some o):=by
 rw[Fh,A0];cases h:lk n (l.flatMap fun j=>(en j).obs) with
 | some m =>
  obtain⟨j,e,a⟩:=o6 h;simp only[ACt];constructor
  ·intro d;cases d;exact .inl ⟨j,e,a⟩
  ·rintro (⟨c,f,b⟩|⟨h1,_⟩)
   ·have:=i.2 j c (g j e) (g c f) n m o a b;subst this;rw[←a,b]
   ·rw[h1 j e]at a;cases a
 | none =>
  have hn:=K7 h;simp only[Option.none_or];constructor
  ·intro d;exact .inr ⟨hn,d⟩
  ·rintro (⟨c,f,b⟩|⟨_,h1⟩)
   ·rw[hn c f]at b;cases b
   ·exact h1
theorem xB (f:Sep σ0 en k) {ts:List Nat} {l l':List Nat} (m:∀j∈l,j<k) (e:∀j∈l',j<k) (d:∀j∈l,(q||AW ((Ai ops j).getD 0) ts)=true→j∈l') {n:Nat} {o:Obj} :
  lk n (Bv q ts σ0.objs (ES ops en l))=some o→lk n (Ar ops en σ0 l').objs=some o:=by
 rw[Ez f e];induction l with
 | nil =>
  simp only[ES,ACp,Bv];intro h;refine .inr ⟨fun j b=>?_,h⟩;cases a:lk n (en j).obs with
  | none=>rfl
  | some g=>have:=f.1 j (e j b) n g a;rw[this]at h;cases h
 | cons i r c =>
  simp only[ES,AA1,Bv];have c:=c (fun j b=>m j (by simp[b])) (fun j b=>d j (by simp[b]));split
  ·rename_i p;intro h;rw[A0]at h;cases a:lk n (en i).obs with
   | some g =>
    rw[a]at h;simp only[ACt]at h;cases h;exact .inl ⟨i,d i (by simp) p,a⟩
   | none =>
    rw[a]at h;exact c (by simpa[ES] using h)
  ·exact c
theorem Pb:∀ {a b:Ch},OI a b=true↔a=b
 | [],[]=>by simp[OI]
 | (j,w) :: r,(d,w') :: c=>by simp[OI,Pb (a:=r) (b:=c),and_assoc]
 | [],_ :: _=>by simp[OI]
 | _ :: _,[]=>by simp[OI]
def bv:AV→Bool
 | .p .bool b=>b
 | _=>false
def tr (en:Nat→En):Ch→Bool
 | []=>true
 | (j,w) :: r=>tr en r&&(bv (en j).v==w)
theorem Tp {a:Nat→En}:∀ {c:Ch},(∀k∈c,a k.1=en k.1)→tr a c=tr en c
 | [],_=>rfl
 | (j,w) :: r,h=>by
  have h1:=h (j,w) (by simp);simp only at h1;simp only[tr];rw[Tp (fun k hk=>h k (by simp[hk])),h1]
theorem kN {b:Ch}:∀ {c:Ch},Qz b c=true→tr en c=true→tr en b=true
 | [],h,a=>by simp only[Qz,Pb]at h;rw[h];exact a
 | k :: r,h,a=>by
  simp only[Qz,iS,Pb]at h;rcases h with rfl|h
  ·exact a
  ·obtain⟨j,w⟩:=k;simp only[tr,AT]at a;exact kN h a.1
structure Inv (ops:List Oper) (q:Bool) (σ0:St) (en:Nat→En) (i:Nat) (E:List (Nat×List (Nat×Obj))) (G:Gs) (σ:St):Prop where
 env:∀s v,lk s σ.env=some v→lk s (Ar ops en σ0 (Aj i)).env=some v
 G:∀s c T v,(s,c,T,v)∈G→T=tr en c∧(T=true→lk s (Ar ops en σ0 (Aj i)).env=some v)∧(∀k∈c,k.1<i)∧∃j,j<i∧Ai ops j=some s∧(en j).b=T
 f:∀j,j<i→(en j).b=false→(en j).v=.raw undef
 objs:σ.objs=(Ar ops en σ0 (Aj i)).objs
 E:∀ts,Bv q ts σ0.objs E=Bv q ts σ0.objs (ES ops en (Aj i))
def kO (ops:List Oper) (k:Nat):Prop:=∀a b,a<b→b<k→Ai ops a≠Ai ops b
theorem Wo (hu:kO ops k) {i j s:Nat} (d:i≤k) (c:j<i) (b:Ai ops j=some s):lk s (Ar ops en σ0 (Aj i)).env=some (en j).v:=by
 rw[Fi];have:(Aj i).find? (fun j=>Ai ops j==some s)=some j:=by
  cases hf:(Aj i).find? (fun j=>Ai ops j==some s) with
  | none =>
   have:=ABS.1 hf j (BJ.2 c);simp[b]at this
  | some x =>
   have h1:=BJ.1 (ABL hf);have a:=ACG hf;have a:Ai ops x=some s:=by simpa using a
   rcases ABv x j with h|h|h
   ·exact absurd (a.trans b.symm) (hu x j h (by omega))
   ·rw[h]
   ·exact absurd (b.trans a.symm) (hu j x h (by omega))
 rw[this]
theorem Q0 {c:Ch} {s:Nat} {v:AV} {env:List (Nat×AV)}:∀ {G:Gs},lk s (JE c G env)=some v→(∃b T,(s,b,T,v)∈G∧Qz b c=true)∨lk s env=some v
 | [],h=>.inr h
 | (f,b,T,g) :: G,h=>by
  simp only[JE]at h;split at h
  ·rename_i hs;simp only[lk]at h;split at h
   ·rename_i e;subst e;cases h;exact .inl ⟨b,T,by simp,hs⟩
   ·rcases Q0 h with ⟨c2,T2,d,a⟩|a
    ·exact .inl ⟨c2,T2,by simp[d],a⟩
    ·exact .inr a
  ·rcases Q0 h with ⟨c2,T2,d,a⟩|a
   ·exact .inl ⟨c2,T2,by simp[d],a⟩
   ·exact .inr a
section
variable {i:Nat} {E:List (Nat×List (Nat×Obj))} {G:Gs} {σ:St}
theorem aB (a:Inv ops q σ0 en i E G σ) {c:Ch} (e:tr en c=true) {s:Nat} {v:AV} (h:lk s (JE c G σ.env)=some v):lk s (Ar ops en σ0 (Aj i)).env=some v:=by
 rcases Q0 h with ⟨b,T,f,hs⟩|h
 ·obtain⟨h1,d,_⟩:=a.G s b T v f;exact d (by rw[h1];exact kN hs e)
 ·exact a.env s v h
theorem sP (n:Inv ops q σ0 en i E G σ) (hu:kO ops k) (w:i≤k) {g:Option (Nat×Bool)} {c:Ch} {T:Bool} (h:HK ops G σ.env i g=some (c,T)) :
  K5 ops (Ar ops en σ0 (Aj i)) T g∧T=tr en c∧(∀k∈c,k.1<i):=by
 cases g with
 | none =>
  simp only[HK]at h;cases h;exact⟨rfl,rfl,by simp⟩
 | some g =>
  obtain⟨j,z⟩:=g;simp only[HK]at h;split at h
  ·rename_i e;cases d:Ai ops j with
   | none=>rw[d]at h;simp[Hq]at h
   | some s =>
    rw[d]at h;simp only[Hq]at h;have l:=Wo (en:=en) (σ0:=σ0) hu w e d;unfold JF at h;split at h
    ·rename_i c0 p b o;cases h;obtain⟨h1,u,r,m,y,t,v⟩:=n.G s c0 p _ (F2 o);cases hT:p with
     | true =>
      have a:=u hT;rw[l]at a;injection a with a
      refine⟨⟨s,d,.inl ⟨b,by rw[l,a],by simp⟩⟩,?_,?_⟩
      ·rw[hT]at h1;simp only[tr,←h1,a,bv]
      ·intro k hk;rcases By.1 hk with rfl|hk
       ·exact e
       ·exact r k hk
     | false =>
      have x:m=j:=by
       rcases ABv m j with h|h|h
       ·exact absurd (t.trans d.symm) (hu m j h (by omega))
       ·exact h
       ·exact absurd (d.trans t.symm) (hu j m h (by omega))
      subst x;have a:=n.f m e (by rw[v,hT]);refine⟨⟨s,d,.inr ⟨by rw[l,a],by simp⟩⟩,?_,?_⟩
      ·rw[hT]at h1;simp only[tr,←h1,Bool.false_and]
      ·intro k hk;rcases By.1 hk with rfl|hk
       ·exact e
       ·exact r k hk
    ·rename_i b _ o;cases h;have a:=n.env s _ o;rw[l]at a;injection a with a
     refine⟨⟨s,d,.inl ⟨b,by rw[l,a],rfl⟩⟩,by simp[tr,a,bv],?_⟩;intro k hk;simp at hk;rw[hk];exact e
    ·cases h
  ·cases h
theorem aC (l:Inv ops q σ0 en i E G σ) (hu:kO ops k) (y:i≤k) {c:Ch} (m:tr en c=true) {s:Nat} {w:Bool} (hs:lk s (Ar ops en σ0 (Aj i)).env=some (.p .bool w)) {x:Operand} {v:AV}
  (h:KF ops c G σ.env s w x=some v) {objs:List (Nat×Obj)}:Ah ⟨(Ar ops en σ0 (Aj i)).env,objs⟩ x=some v:=by
 cases x with
 | const x=>simp only[KF]at h;exact h
 | func f=>simp[KF]at h
 | global g=>simp[KF]at h
 | tmp t =>
  simp only[KF]at h;simp only[Ah];cases a:lk t G with
  | none =>
   rw[a]at h;exact l.env t v h
  | some e =>
   obtain⟨b,T,B⟩:=e;rw[a]at h;simp only[L6]at h;obtain⟨h1,d,o,_⟩:=l.G t b T B (F2 a);split at h
   ·rename_i z;cases h;exact d (by rw[h1];exact kN z m)
   ·cases b with
    | nil=>cases h
    | cons p r =>
     obtain⟨j,w'⟩:=p;simp only at h;split at h
     ·rename_i hh;obtain⟨rfl,u,n⟩:=hh;rw[Pb]at n;subst n;cases h;have A:=Wo (en:=en) (σ0:=σ0) hu y (o (j,w') (by simp)) u;rw[A]at hs;injection hs with hs
      apply d;rw[h1];simp[tr,m,hs,bv]
     ·cases h
theorem A4S (a:Inv ops q σ0 en i E G σ) (hu:kO ops k) (j:i≤k) {c:Ch} (d:tr en c=true) {o:Oper} {vc:Prop} {v:AV} {obs:List (Nat×Obj)} (h:v5 tb ops q σ0.objs c G E σ.env o (HL o.op)=some (vc,v,obs)) (A:vc) :
  ∃l:Prop,aq tb ⟨(Ar ops en σ0 (Aj i)).env,Bv q (GI o.op) σ0.objs (ES ops en (Aj i))⟩ (o.dst.getD 0) o.op=some (l,v,obs)∧l:=by
 cases hp:HL o.op with
 | none =>
  rw[hp]at h;simp only[v5]at h;refine⟨vc,Sz (σ:=⟨JE c G σ.env,Lc q o.op σ0.objs E⟩) ?_ ?_ h,A⟩
  ·intro n x hn;have:Lc q o.op σ0.objs E=Bv q (GI o.op) σ0.objs E:=by cases E<;>rfl
   simp only at hn ⊢;rw[this,a.E]at hn;exact hn
  ·intro x _ v e;cases x with
   | tmp t=>exact aB a d e
   | const B=>exact e
   | global g=>exact e
   | func f=>exact e
 | some p =>
  obtain⟨s,x,y⟩:=p;rw[hp]at h;have z:o.op=.pick s x y:=by
   unfold HL at hp;split at hp
   ·rename_i w;cases hp;exact w
   ·cases hp
  simp only[v5]at h;rw[z];cases s with
  | const _=>simp[L8]at h
  | func _=>simp[L8]at h
  | global _=>simp[L8]at h
  | tmp s =>
   simp only[L8]at h;unfold L7 at h;split at h
   ·rename_i b p r h1 m u;cases h;have hs:=aB a d h1;refine⟨True,?_,trivial⟩;have h0:Ah ⟨(Ar ops en σ0 (Aj i)).env,Bv q (GI (Op.pick (.tmp s) x y)) σ0.objs (ES ops en (Aj i))⟩ (.tmp s)=some (.p .bool b):=hs;simp only[aq];rw[h0];cases b with
    | true =>
     simp only[J5];rw[aC a hu j d hs m];rfl
    | false =>
     simp only[J5];rw[aC a hu j d hs u];rfl
   ·cases h
end
theorem Q1 {rest:List Oper} (hu:kO ops k):∀ {fr:List Oper} {i:Nat} {E:List (Nat×List (Nat×Obj))} {G:Gs} {σ σ':St} {en:Nat→En} {vc:Prop},K4 tb ops q σ0.objs rest fr i E G σ=some (vc,σ')→vc→Inv ops q σ0 en i E G σ→i+fr.length=k→(∀j,j<fr.length→ops[i+j]?=fr[j]?) →
  ∃l:Nat→En,(∀j,j<i→l j=en j)∧(∀j o,i≤j→j<k→ops[j]?=some o→Tn tb ops q σ0 l j o) ∧
   ∃(D:Prop) (σ2:St),Bp tb ops rest σ2=some (D,σ')∧D∧(∀s v,lk s σ2.env=some v→lk s (Ar ops l σ0 (Aj k)).env=some v)∧σ2.objs=(Ar ops l σ0 (Aj k)).objs
 | [],i,E,G,σ,σ',en,vc,h,H,p,hk,_=>by
  simp only[K4]at h;simp at hk;subst hk;exact⟨en,fun _ _=>rfl,fun j o h1 O=>by omega,vc,σ,h,H,p.env,p.objs⟩
 | o :: r,i,E,G,σ,σ',en,vc,h,H,p,hk,an=>by
  have al:ops[i]?=some o:=by simpa using an 0 (by simp)
  have Q:Ai ops i=o.dst:=by simp[Ai,al]
  have V:i<k:=by simp at hk;omega
  simp only[K4]at h;cases U:HK ops G σ.env i o.guard with
  | none=>rw[U]at h;simp[evMG]at h
  | some ar =>
   obtain⟨c,T⟩:=ar;obtain⟨bg,hT,af⟩:=sP p hu (AC6 V) U;rw[U]at h;simp only[evMG]at h;cases Y:v5 tb ops q σ0.objs c G E σ.env o (HL o.op) with
   | none =>
    rw[Y]at h;unfold evMQ at h;split at h
    ·rename_i S;cases S
    ·rename_i S;cases S
    ·cases h
   | some bo =>
    obtain⟨bp,v,obs⟩:=bo;rw[Y]at h;have aq:∀(d:Nat) (e:En) (M:List (Nat×List (Nat×Obj))) (N:Gs) (L:St) (F:Prop),o.dst=some d→e.b=T→(T=true→bp∧e.v=v∧e.obs=obs∧Ba obs σ=true)→(T=false→e.v=.raw undef∧e.obs=[]) →
      (∀s a,lk s L.env=some a→if s=d then a=e.v else lk s σ.env=some a)→L.objs=e.obs++σ.objs →
      (∀s A B a,(s,A,B,a)∈N→(s,A,B,a)∈G∨(s=d∧A=c∧B=T∧a=v))→(∀ts,Bv q ts σ0.objs M=Bv q ts σ0.objs ((d,e.obs) :: E)) →
      K4 tb ops q σ0.objs rest r (i+1) M N L=some (F,σ')→F →
      ∃l:Nat→En,(∀j,j<i→l j=en j)∧(∀j o,i≤j→j<k→ops[j]?=some o→Tn tb ops q σ0 l j o) ∧
       ∃(D:Prop) (σ2:St),Bp tb ops rest σ2=some (D,σ')∧D∧(∀s v,lk s σ2.env=some v→lk s (Ar ops l σ0 (Aj k)).env=some v)∧σ2.objs=(Ar ops l σ0 (Aj k)).objs:=by
     intro d e M N L F n J ai ah bd bh az ax be bm
     let z:Nat→En:=fun j=>if j=i then e else en j
     have I:z i=e:=by simp[z]
     have heq:∀j,j<i→z j=en j:=fun j t=>by simp[z,show j≠i by omega]
     have ad:Ar ops z σ0 (Aj i)=Ar ops en σ0 (Aj i):=K6 fun j t=>heq j (BJ.1 t);have ab:ES ops z (Aj i)=ES ops en (Aj i):=by
      apply AA2;intro j t;rw[heq j (BJ.1 t)]
     have R:Ar ops z σ0 (Aj (i+1))=(Ar ops en σ0 (Aj i)).add e.v e.obs (some d):=by
      simp only[Aj,Ar,ad,I,Q,n]
     have am:∀s a,s≠d→lk s (Ar ops en σ0 (Aj i)).env=some a→lk s (Ar ops z σ0 (Aj (i+1))).env=some a:=by
      intro s a hs u;rw[R];simp only[St.add,lk,As hs];exact u
     have aj:lk d (Ar ops z σ0 (Aj (i+1))).env=some e.v:=by
      rw[R];simp[St.add,lk]
     have ba:Inv ops q σ0 z (i+1) M N L:=by
      refine⟨fun s a u=>?_,fun s A B a w=>?_,fun j t m=>?_,?_,fun ts=>?_⟩
      ·have:=bd s a u;split at this
       ·rename_i hs;rw[hs,this];exact aj
       ·rename_i hs;exact am s a hs (p.env s a this)
      ·rcases az s A B a w with w|⟨rfl,rfl,rfl,rfl⟩
       ·obtain⟨h1,O,P,j,t,ag,m⟩:=p.G s A B a w;have bi:s≠d:=by
         rintro rfl;exact hu j i t V (by rw[ag,Q,n])
        refine⟨by rw[Tp (en:=en) fun k hk=>heq _ (P k hk)];exact h1,fun hT=>am s a bi (O hT),fun k hk=>by have:=P k hk;omega,j,by omega,ag,by rw[heq j t];exact m⟩
       ·refine⟨by rw[Tp (en:=en) fun k hk=>heq _ (af k hk)];exact hT,fun bb=>?_,fun k hk=>by have:=af k hk;omega,i,by omega,by rw[Q,n],by rw[I];exact J⟩;rw[aj,(ai bb).2.1]
      ·by_cases W:j=i
       ·subst W;rw[I]at m ⊢;exact(ah (by rw[←J];exact m)).1
       ·rw[heq j (by omega)]at m ⊢;exact p.f j (by omega) m
      ·rw[R,bh,p.objs];rfl
      ·rw[ax];simp only[ES,Aj,AA1,I,Q,n,ABN,Bv];have:=p.E ts;rw[←ab]at this;simp only[ES]at this;rw[this]
     obtain⟨l,h1,O,P⟩:=Q1 hu be bm ba (by simp at hk ⊢;omega) (fun j t=>by
      have:=an (j+1) (by simp;omega);rw[show i+(j+1)=i+1+j by omega]at this;simpa using this)
     refine⟨l,fun j t=>by rw[h1 j (by omega),heq j t],fun j bn bq au X=>?_,P⟩;by_cases W:j=i
     ·subst W;rw[al]at X;cases X;have K:l j=e:=by rw[h1 j (by omega),I]
      have ae:Ar ops l σ0 (Aj j)=Ar ops en σ0 (Aj j):=by
       rw[←ad];exact K6 fun q Z=>h1 q (by have:=BJ.1 Z;omega)
      have ay:ES ops l (Aj j)=ES ops en (Aj j):=by
       rw[←ab];apply AA2;intro q Z;rw[h1 q (by have:=BJ.1 Z;omega)]
      refine⟨by rw[ae,K,J];exact bg,fun m=>?_,fun m=>?_⟩
      ·rw[K,J]at m;obtain⟨bj,bk,bl,ap⟩:=ai m;obtain⟨D,av,aw⟩:=A4S p hu (AC6 V) (by rw[←hT];exact m) Y bj;rw[K,ae,ay,bk,bl];exact⟨D,av,aw,by
        simp only[Ba]at ap ⊢;rw[←p.objs];exact ap⟩
      ·rw[K,J]at m;rw[K];exact ah m
     ·exact O j bn (by omega) au X
    cases c with
    | nil =>
     cases n:o.dst with
     | none=>rw[n]at h;simp[evMQ]at h
     | some d =>
      rw[n]at h;simp only[evMQ]at h;split at h
      ·rename_i bf;cases C:K4 tb ops q σ0.objs rest r (i+1) (JD d obs E) G (σ.add v obs (some d)) with
       | none=>rw[C]at h;simp[TW]at h
       | some aa =>
        obtain⟨F,σ2⟩:=aa;rw[C]at h;simp only[TW]at h;cases h;have bc:T=true:=by rw[hT];rfl
        refine aq d ⟨T,v,obs⟩ _ _ _ F n rfl (fun _=>⟨H.1,rfl,rfl,bf⟩) (fun hf=>by rw[bc]at hf;cases hf) (fun s a u=>?_) rfl (fun s A B a w=>.inl w) (fun ts=>?_) C H.2
        ·simp only[St.add,lk]at u;split at u
         ·rename_i hs;cases u;simp[hs]
         ·rename_i hs;rw[As hs];exact u
        ·cases obs with
         | nil=>simp[JD,Bv]
         | cons x y=>rfl
      ·cases h
    | cons g A =>
     cases obs with
     | cons x y=>simp[evMQ]at h
     | nil =>
      cases n:o.dst with
      | none=>rw[n]at h;simp[evMQ]at h
      | some d =>
       rw[n]at h;simp only[evMQ]at h;split at h
       ·rename_i ak;cases C:K4 tb ops q σ0.objs rest r (i+1) E ((d,g :: A,T,v) :: G) σ with
        | none=>rw[C]at h;simp[TW]at h
        | some aa =>
         obtain⟨F,σ2⟩:=aa;rw[C]at h;simp only[TW]at h;cases h;refine aq d ⟨T,bif T then v else .raw undef,[]⟩ _ _ _ F n rfl (fun ao=>⟨H.1 ao,by simp[ao],rfl,by simp[Ba]⟩) (fun hf=>⟨by simp[hf],rfl⟩) (fun s a u=>?_) rfl (fun s c2 B a w=>?_) (fun ts=>?_) C H.2
         ·have:s≠d:=by
           rintro rfl;rw[u]at ak;cases ak
          rw[As this];exact u
         ·rcases By.1 w with w|w
          ·cases w;exact .inr ⟨rfl,rfl,rfl,rfl⟩
          ·exact .inl w
         ·simp[Bv]
       ·cases h
end
section
variable {c:Cx} {ops:Array Oper} {k:Nat} {anc:List (List Nat)} {σ0 σ':St} {en:Nat→En} {Q:Exit→Act→World→Prop}
theorem xC {o:Oper} {e:Edge} (b:e∈o.after) (a:Region.binds .any e=true):e.on∈EE o:=by
 simp only[EE,IS,AAj];exact⟨e,⟨by simpa using b,a⟩,rfl⟩
theorem Dm {listed:Array Bool} {i:Nat}:i∈Region.ready .any ops listed↔listed.getD i true=false∧∃o,ops[i]?=some o∧∀e∈EE o,listed.getD e false=true:=by
 rw[mem_ready];constructor
 ·rintro⟨h1,o,d,b⟩;refine⟨h1,o,d,fun e a=>?_⟩;simp only[EE,IS,AAj]at a;obtain⟨x,⟨f,c⟩,rfl⟩:=a;exact b x (by simpa using f) c
 ·rintro⟨h1,o,d,b⟩;exact⟨h1,o,d,fun e a c=>b _ (xC a c)⟩
structure Wp (ops:Array Oper) (k:Nat) (anc:List (List Nat)):Prop where
 lt:∀i o,ops[i]?=some o→∀e∈EE o,e<i
 cl:∀i o,ops[i]?=some o→∀j∈anc.getD i [],j∈EE o∨∃e∈EE o,j∈anc.getD e []
 front:∀i o,ops[i]?=some o→i<k→(∃d,o.dst=some d)∧(∀t∈My ops.toList o,∀j,j<k→Ai ops.toList j=some t→j∈anc.getD i [])∧∀j,j<i→Ai ops.toList j≠o.dst
 back:∀i o,ops[i]?=some o→k≤i→∀j,j<i→j∈anc.getD i []
 k:k≤ops.size
theorem A61 (h:kM ops.toList k anc=true):Wp ops k anc:=by
 simp only[kM,AT,GO,nO,DO]at h;obtain⟨hk,h⟩:=h;have hi:∀i o,ops[i]?=some o→opB ops.toList k anc i o=true:=by
  intro i o a;have n:i<ops.toList.length:=by
   have:=(iF.1 a).1;simpa using this
  have:=h i n;have p:ops.toList[i]?=some o:=by simpa using a
  rw[p]at this;exact this
 refine⟨fun i o a e m=>?_,fun i o a j b=>?_,fun i o a d=>?_,fun i o a d j b=>?_,by simpa using hk⟩
 ·have:=hi i o a;simp only[opB,AT,GO,DO]at this;exact this.1.1 e m
 ·have:=hi i o a;simp only[opB,AT,GO,iS,TO,AY]at this;exact this.1.2 j b
 ·have:=hi i o a;simp only[opB,d,AAH,AT,GO,nO,iS,AY,ABY]at this;obtain⟨_,⟨h1,f⟩,g⟩:=this;refine⟨ABa.1 h1,fun t q j b l=>?_,g⟩;rcases f t q j b with c|c
  ·exact absurd l c
  ·exact c
 ·have:=hi i o a;simp only[opB,show ¬i<k by omega,AAY,AT,GO,nO,AY]at this;exact this.2 j b
theorem Tq (c:Wp ops k anc) {listed:Array Bool} (h:∀i o,ops[i]?=some o→listed.getD i true=true→∀e∈EE o,listed.getD e false=true) :
  ∀i o,ops[i]?=some o→(∀e∈EE o,listed.getD e false=true)→∀j∈anc.getD i [],listed.getD j false=true:=by
 intro i;induction i using Nat.strongRecOn with
 | _ i q =>
  intro o b d j l;rcases c.cl i o b j l with h1|⟨e,f,m⟩
  ·exact d j h1
  ·have p:=c.lt i o b e f;have r:i<ops.size:=(iF.1 b).1;have g:ops[e]?=some (ops[e]'(by omega)):=AAc (by omega);have a:=d e f;have n:listed.getD e true=true:=by
    by_cases hh:e<listed.size
    ·simp[Array.getD,hh]at a ⊢;exact a
    ·simp[Array.getD,hh]at a
   exact q e p _ g (h e _ g n) j m
theorem Wq {l:List Oper} {p:Nat} {o:Oper} {r:List Oper} (h:l.drop p=o :: r):l[p]?=some o∧r=l.drop (p+1):=by
 constructor
 ·have:(l.drop p)[0]?=some o:=by rw[h];rfl
  simpa[AAm] using this
 ·rw[←ABM,h];rfl
theorem Pc {F:Fence} {P:Program} (f:Wp ops k anc):∀ {rest:List Oper} {p:Nat} {listed:Array Bool} {a:Act} {w:World},ops.toList.drop p=rest→k≤p→p≤ops.size→listed.size=ops.size →
  (∀i,i<ops.size→(listed.getD i true=true↔i<p))→wpListIn F 0 P ops Q rest a w→wpAnyIn F 0 P .any ops Q rest.length listed a w
 | [],p,listed,a,w,s,J,M,u,c,d=>by
  have hp:p=ops.size:=by
   have:=AAP List.length s;simp at this;omega
  refine⟨?_,d⟩;apply AC7.2;intro i hi;rw[Dm]at hi;obtain⟨h1,o,m,_⟩:=hi;have h:i<ops.size:=(iF.1 m).1;have:=(c i h).2 (by omega);rw[h1]at this;cases this
 | o :: r,p,listed,a,w,s,J,M,u,c,d=>by
  obtain⟨g,C⟩:=Wq s;have g:ops[p]?=some o:=by simpa using g
  have x:p<ops.size:=(iF.1 g).1;have n:∀e b,e<ops.size→listed.getD e b=listed.getD e true:=fun e b l=>by
   have:e<listed.size:=by omega
   simp[Array.getD,this]
  have G:∀i o,ops[i]?=some o→listed.getD i true=true→∀e∈EE o,listed.getD e false=true:=by
   intro i o m h1 e l;have h:i<ops.size:=(iF.1 m).1;have z:=(c i h).1 h1;have q:=f.lt i o m e l;rw[n e false (by omega)];exact(c e (by omega)).2 (by omega)
  have N:∀i,i∈Region.ready .any ops listed→i=p:=by
   intro i hi;rw[Dm]at hi;obtain⟨h1,D,v,z⟩:=hi;have h:i<ops.size:=(iF.1 v).1;have R:¬i<p:=fun K=>by rw[(c i h).2 K]at h1;cases h1
   by_cases t:i=p
   ·exact t
   ·have q:=Tq f G i D v z p (f.back i D v (by omega) p (by omega));rw[n p false x]at q;have:=(c p x).1 q;omega
  refine⟨fun L=>?_,fun i hi=>?_⟩
  ·exfalso;have:p∈Region.ready .any ops listed:=by
    rw[Dm];refine⟨?_,o,g,fun e l=>?_⟩
    ·cases hh:listed.getD p true with
     | false=>rfl
     | true=>have:=(c p x).1 hh;omega
    ·have:=f.lt p o g e l;rw[n e false (by omega)];exact(c e (by omega)).2 this
   rw[L]at this;cases this
  ·have t:=N i hi;subst t;have B:∀(j:Nat),j<ops.size→((listed.setIfInBounds i true).getD j true=true↔j<i+1):=by
    intro j H;have I:j<listed.size:=by omega
    by_cases A:j=i
    ·subst A;simp[Array.getD,I]
    ·have h1:(listed.setIfInBounds i true).getD j true=listed.getD j true:=getD_set_ne true (fun e=>A e.symm);rw[h1,c j H];omega
   unfold wpOpIn;rw[g];simp only;unfold wpListIn at d;split
   ·rename_i y;rw[At y]at d;exact Oper.wpIn_mono (fun O w' E=>Pc f C.symm (by omega) (by omega) (by simpa using u) B E) d
   ·rename_i y;rw[As y]at d;exact⟨d.1,Pc f C.symm (by omega) (by omega) (by simpa using u) B d.2⟩
end
end
section
open Go Go.RowKit
theorem EL:∀(k:Nat) (l:List Nat),l.Nodup→(∀j∈l,j<k)→l.length≤k
 | 0,l,_,h=>by
  cases l with
  | nil=>simp
  | cons x r=>have:=h x (by simp);omega
 | k+1,l,hn,h=>by
  by_cases hk:k∈l
  ·have:=EL k (l.erase k) (hn.erase k) (fun j a=>by
    have h1:=(hn.mem_erase_iff).1 a;have:=h j h1.2;have:=h1.1;omega)
   rw[ABw hk]at this;omega
  ·have:=EL k l hn (fun j a=>by
    have:=h j a;have:j≠k:=fun e=>hk (e▸a);omega)
   omega
theorem o7:∀(k:Nat) (l:List Nat),(∀j,j<k→j∈l)→k≤l.length
 | 0,l,_=>by simp
 | k+1,l,h=>by
  have hk:=h k (by omega);have:=o7 k (l.erase k) (fun j a=>(ACb (by omega)).2 (h j (by omega)));rw[ABw hk]at this;have:=ABk hk;omega
theorem Tr {c:Cx} {σ σ':St} {a:Act} {w:World} (j:∀s,lk s σ'.env=lk s σ.env) (f:∀n,lk n σ'.objs=lk n σ.objs) (h:c.sat σ a w):c.sat σ' a w:=by
 obtain⟨ρ,h⟩:=h;have d:Gn σ'=Gn σ:=by
  funext n;simp only[Gn,f]
 have g:∀w,vw w c.O0 σ' ρ=vw w c.O0 σ ρ:=by
  intro w;have l:own c.O0 σ' ρ=own c.O0 σ ρ:=by
   funext b;simp only[own,d]
  simp only[vw,d,l]
 refine⟨ρ,h.frm,h.nt,h.defers,fun p hp=>by rw[d];exact h.pin p hp,?_,?_,?_,?_⟩
 ·intro n o hn;rw[g];exact h.objs n o (by rw[←f];exact hn)
 ·intro n b k i;exact h.free n b (by rw[←d];exact k) i
 ·intro n m b h1 e;rw[d]at h1 e;exact h.dist n m b h1 e
 ·intro s v hs;rw[g];exact h.env s v (by rw[←j];exact hs)
theorem aD {c:Cx} {σ:St} {a:Act} {w:World} (h:c.sat σ a w):c.sat σ a { w with drawn:=w.drawn+1 }:=by
 obtain⟨ρ,h⟩:=h;have hk:CR (vw w c.O0 σ ρ) (vw { w with drawn:=w.drawn+1 } c.O0 σ ρ):=⟨fun _ _ h=>h,fun _ h=>h,fun _ _=>rfl,fun _ _ _=>rfl⟩;exact⟨ρ,⟨h.frm.os,h.frm.tape,h.frm.output,h.frm.size,h.frm.block⟩,h.nt,h.defers,h.pin,fun n o b=>(h.objs n o b).keeps hk fun _ _=>rfl,h.free,h.dist,fun s v hs=>(h.env s v hs).keeps hk⟩
theorem S0 {c:Cx} {σ σ':St} {a:Act} {w:World} (d:∀s v,lk s σ'.env=some v→lk s σ.env=some v) (e:∀n,lk n σ'.objs=lk n σ.objs) (h:c.sat σ a w):c.sat σ' a w:=by
 have b:c.sat ⟨σ.env,σ'.objs⟩ a w:=Tr (σ:=σ) (fun _=>rfl) e h;obtain⟨ρ,h⟩:=b;exact⟨ρ,h.frm,h.nt,h.defers,h.pin,h.objs,h.free,h.dist,fun s v hs=>h.env s v (d s v hs)⟩
theorem L9 {c:Cx} {ops:Array Oper} {σ:St} {a:Act} {w:World} (hs:c.sat σ a w) {o:Oper} {b:Bool} (h:K5 ops.toList σ b o.guard):Region.wanted o (yielded ops a.tmps)=b:=by
 cases d:o.guard with
 | none =>
  rw[d]at h;simp only[K5]at h;simp[Region.wanted,d,h]
 | some g =>
  obtain⟨j,n⟩:=g;rw[d]at h;simp only[K5]at h;obtain⟨s,e,h⟩:=h;rcases h with ⟨x,f,rfl⟩|⟨f,rfl⟩
  ·refine Hm hs ?_;rw[d];simp only[EX];simp only[Ai]at e;rw[e];simp only[Jk,f,Qp]
  ·obtain⟨ρ,hs⟩:=hs;have k:a.tmps.getD s undef=undef:=hs.env s _ f;have l:(ops[j]?).bind (·.dst)=some s:=by simpa[Ai] using e
   have m:yielded ops a.tmps j=none:=by
    simp only[yielded,l,Option.bind_some];by_cases i:s<a.tmps.size
    ·have:a.tmps.getD s undef=a.tmps[s]:=by simp[Array.getD,i]
     rw[this]at k;rw[AAc i,k];rfl
    ·rw[Array.getElem?_eq_none (by omega)]
   simp[Region.wanted,d,m]
section
variable {c:Cx} {ops:Array Oper} {k:Nat} {q:Bool} {anc:List (List Nat)} {σ0 σ':St} {en:Nat→En} {Q:Exit→Act→World→Prop}
theorem A4T (hF:∀j o,j<k→ops[j]?=some o→Tn c.tb ops.toList q σ0 en j o) (hk:k≤ops.size):Sep σ0 en k:=by
 have one:∀j,j<k→∀n o,lk n (en j).obs=some o→lk n (Ar ops.toList en σ0 (Aj j)).objs=none:=by
  intro j a n o hn;have p:ops[j]?=some (ops[j]'(by omega)):=AAc (by omega);have h1:=hF j _ a p;cases l:(en j).b with
  | true =>
   obtain⟨_,_,_,hf⟩:=h1.t l;exact Nz hf hn
  | false =>
   rw[(h1.f l).2]at hn;simp[lk]at hn
 have low:∀i j,i<j→j<k→∀n o d,lk n (en i).obs=some o→lk n (en j).obs=some d→False:=by
  intro i j m a n o d h1 g;have:=one j a n d g;rw[Fh,A0]at this;cases e:lk n ((Aj j).flatMap fun j=>(en j).obs) with
  | some x=>rw[e]at this;simp at this
  | none =>
   have:=K7 e i (BJ.2 m);rw[this]at h1;cases h1
 refine⟨fun j a n o hn=>?_,fun i j hi a n o d h1 g=>?_⟩
 ·have:=one j a n o hn;rw[Fh,A0]at this;cases e:lk n ((Aj j).flatMap fun j=>(en j).obs) with
  | some x=>rw[e]at this;simp at this
  | none=>rw[e]at this;simpa using this
 ·rcases ABv i j with h|h|h
  ·exact(low i j h a n o d h1 g).elim
  ·exact h
  ·exact(low j i h hi n d o g h1).elim
theorem aE (d:Wp ops k anc) {l:List Nat} (g:∀j∈l,j<k) {s j:Nat} (f:j∈l) (c:Ai ops.toList j=some s):l.find? (fun j=>Ai ops.toList j==some s)=some j:=by
 have hu:∀i,i∈l→Ai ops.toList i=some s→i=j:=by
  intro i hi e;have h1:=g i hi;have b:=g j f;have m:=d.k;have get:∀x,x<k→Ai ops.toList x=(ops[x]?).bind (·.dst):=fun x _=>by simp[Ai]
  rcases ABv i j with h|h|h
  ·have a:ops[j]?=some (ops[j]'(by omega)):=AAc (by omega);have:=(d.front j _ a b).2.2 i h;rw[get j b,a]at c;rw[e]at this;exact absurd c.symm this
  ·exact h
  ·have a:ops[i]?=some (ops[i]'(by omega)):=AAc (by omega);have:=(d.front i _ a h1).2.2 j h;rw[get i h1,a]at e;rw[c]at this;exact absurd e.symm this
 cases hf:l.find? (fun j=>Ai ops.toList j==some s) with
 | none =>
  have:=ABS.1 hf j f;simp[c]at this
 | some i =>
  have h1:=ABL hf;have b:=ACG hf;rw[hu i h1 (by simpa using b)]
theorem Ts (d:Wp ops k anc) {l l':List Nat} (b:∀j∈l,j<k) (e:∀j∈l',j<k) {s:Nat} (h:∀j,j<k→Ai ops.toList j=some s→j∈l∧j∈l') :
  lk s (Ar ops.toList en σ0 l).env=lk s (Ar ops.toList en σ0 l').env:=by
 rw[Fi,Fi];by_cases f:∃j,j<k∧Ai ops.toList j=some s
 ·obtain⟨j,c,a⟩:=f;have:=h j c a;rw[aE d b this.1 a,aE d e this.2 a]
 ·have none:∀l:List Nat,(∀j∈l,j<k)→l.find? (fun j=>Ai ops.toList j==some s)=none:=by
   intro l b;apply ABS.2;intro j c a;exact f ⟨j,b j c,by simpa using a⟩
  rw[none l b,none l' e]
theorem sQ (ab:c.Ok) (C:Wp ops k anc) (bm:∀o∈ops.toList,HX c.nt o=true) (hF:∀j o,j<k→ops[j]?=some o→Tn c.tb ops.toList false σ0 en j o)
  {σ2:St} (ar:∀s v,lk s σ2.env=some v→lk s (Ar ops.toList en σ0 (Aj k)).env=some v) (au:σ2.objs=(Ar ops.toList en σ0 (Aj k)).objs) (hT:∀M w',c.sat σ2 M w'→wpListIn (FR c.r) 0 c.P ops Q (ops.toList.drop k) M w') :
  ∀(m:Nat) (ex:List Nat) (listed:Array Bool) (a:Act) (w:World),ex.Nodup→(∀j∈ex,j<k)→m+ex.length=ops.size→listed.size=ops.size→(∀i,i<ops.size→(listed.getD i true=true↔i∈ex)) →
   (∀i o,ops[i]?=some o→i∈ex→∀e∈EE o,e∈ex)→c.sat (Ar ops.toList en σ0 ex) a w→wpAnyIn (FR c.r) 0 c.P .any ops Q m listed a w:=by
 have ao:=C.k;have L:=A4T hF ao;intro m;induction m with
 | zero =>
  intro ex listed a w S A br aa E ah hs;have h1:=EL k ex S A;have bq:k=ops.size:=by omega
  by_cases D:∀j,j<k→j∈ex
  ·have ax:ops.toList.drop k=[]:=by simp[bq]
   have U:c.sat σ2 a w:=S0 ar (fun _=>by rw[au]) <| Tr
    (fun s=>(Ts C A (fun j y=>BJ.1 y) fun j y _=>⟨D j y,BJ.2 y⟩).symm)
    (fun n=>ACw fun o=>by
     rw[Ez L (fun j y=>BJ.1 y),Ez L A];simp only[BJ];constructor
     ·rintro (⟨j,y,h⟩|⟨h1,G⟩)
      ·exact .inl ⟨j,D j y,h⟩
      ·exact .inr ⟨fun j y=>h1 j (A j y),G⟩
     ·rintro (⟨j,y,h⟩|⟨h1,G⟩)
      ·exact .inl ⟨j,A j y,h⟩
      ·exact .inr ⟨fun j y=>h1 j (D j y),G⟩) hs
   have:=Pc (Q:=Q) (F:=FR c.r) (P:=c.P) C (rest:=[]) (p:=k) (listed:=listed) (a:=a) (w:=w) ax (No _) ao aa (fun i hi=>by
    rw[E i hi];exact⟨A i,D i⟩) (by rw[←ax];exact hT a w U)
   exact this
  ·exfalso;apply D;intro j y;apply Do;intro ap;have:=EL k (j :: ex) (AAd.2 ⟨ap,S⟩) (fun i hi=>by
    rcases By.1 hi with rfl|hi
    ·exact y
    ·exact A i hi)
   simp at this;omega
 | succ m ce =>
  intro ex listed a w S A br aa E ah hs;have W:∀e b,e<ops.size→listed.getD e b=listed.getD e true:=fun e b B=>by
   have:e<listed.size:=by omega
   simp[Array.getD,this]
  by_cases D:∀j,j<k→j∈ex
  ·have co:ex.length=k:=ABP (EL k ex S A) (o7 k ex D);have U:c.sat σ2 a w:=S0 ar (fun _=>by rw[au]) <| Tr
    (fun s=>(Ts C A (fun j y=>BJ.1 y) fun j y _=>⟨D j y,BJ.2 y⟩).symm)
    (fun n=>ACw fun o=>by
     rw[Ez L (fun j y=>BJ.1 y),Ez L A];simp only[BJ];constructor
     ·rintro (⟨j,y,h⟩|⟨h1,G⟩)
      ·exact .inl ⟨j,D j y,h⟩
      ·exact .inr ⟨fun j y=>h1 j (A j y),G⟩
     ·rintro (⟨j,y,h⟩|⟨h1,G⟩)
      ·exact .inl ⟨j,A j y,h⟩
      ·exact .inr ⟨fun j y=>h1 j (D j y),G⟩) hs
   have:=Pc (Q:=Q) (F:=FR c.r) (P:=c.P) C (rest:=ops.toList.drop k) (p:=k) (listed:=listed) (a:=a) (w:=w) rfl (No _) ao aa (fun i hi=>by
    rw[E i hi];exact⟨A i,D i⟩) (hT a w U)
   rw[show (ops.toList.drop k).length=m+1 by simp;omega]at this;exact this
  ·refine⟨fun bt=>?_,fun i hi=>?_⟩
   ·exfalso;apply D;intro j;induction j using Nat.strongRecOn with
    | _ j cg =>
     intro y;apply Do;intro ap;have T:ops[j]?=some (ops[j]'(by omega)):=AAc (by omega);have:j∈Region.ready .any ops listed:=by
      rw[Dm];refine⟨?_,_,T,fun e B=>?_⟩
      ·cases hh:listed.getD j true with
       | false=>rfl
       | true=>exact absurd ((E j (by omega)).1 hh) ap
      ·have H:=C.lt j _ T e B;rw[W e false (by omega)];exact(E e (by omega)).2 (cg e H (by omega))
     rw[bt]at this;cases this
   ·rw[Dm]at hi;obtain⟨h1,o,z,G⟩:=hi;have ad:i<ops.size:=(iF.1 z).1;have be:i∉ex:=fun h=>by rw[(E i ad).2 h]at h1;cases h1
    have bl:∀e∈EE o,e∈ex:=fun e B=>by
     have H:=C.lt i o z e B;have av:=G e B;rw[W e false (by omega)]at av;exact(E e (by omega)).1 av
    have ag:∀j∈anc.getD i [],j∈ex:=by
     have bj:∀i o,ops[i]?=some o→listed.getD i true=true→∀e∈EE o,listed.getD e false=true:=by
      intro i o z h1 e B;have ad:i<ops.size:=(iF.1 z).1;have H:=C.lt i o z e B;rw[W e false (by omega)];exact(E e (by omega)).2 (ah i o z ((E i ad).1 h1) e B)
     intro j y;have H:=Tq C bj i o z G j y;by_cases bc:j<ops.size
     ·rw[W j false bc]at H;exact(E j bc).1 H
     ·have:¬j<listed.size:=by omega
      simp[Array.getD,this]at H
    have R:i<k:=by
     apply Do;intro cn;exact D fun j y=>ag j (C.back i o z (by omega) j (by omega))
    have ak:=C.front i o z R;obtain⟨d,cm⟩:=ak.1;have bk:Ai ops.toList i=o.dst:=by simp[Ai,z]
    have bf:∀t∈My ops.toList o,lk t (Ar ops.toList en σ0 ex).env=lk t (Ar ops.toList en σ0 (Aj i)).env:=by
     intro t cb;refine Ts C A (fun j y=>by have:=BJ.1 y;omega) fun j y ai=>?_;have bb:=ak.2.1 t cb j y ai;refine⟨ag j bb,BJ.2 ?_⟩;have:∀i o,ops[i]?=some o→∀j∈anc.getD i [],j<i:=by
      intro i;induction i using Nat.strongRecOn with
      | _ i cf =>
       intro o z j y;rcases C.cl i o z j y with af|⟨e,B,bo⟩
       ·exact C.lt i o z j af
       ·have bi:=C.lt i o z e B;have ad:i<ops.size:=(iF.1 z).1;have:=cf e bi _ (AAc (by omega)) j bo;omega
     exact this i o z j bb
    have bv:Ops ⟨(Ar ops.toList en σ0 (Aj i)).env,Bv false (GI o.op) σ0.objs (ES ops.toList en (Aj i))⟩ (Ar ops.toList en σ0 ex) o.op.operands.toList:=by
     intro x cd v V;cases x with
     | tmp t =>
      simp only[Ah]at V ⊢;rw[bf t (by
       simp only[My,OF,ACo];exact .inl ⟨_,cd,rfl⟩)]
      exact V
     | const cp=>exact V
     | global g=>exact V
     | func f=>exact V
    have bu:Ya ⟨(Ar ops.toList en σ0 (Aj i)).env,Bv false (GI o.op) σ0.objs (ES ops.toList en (Aj i))⟩ (Ar ops.toList en σ0 ex):=by
     intro n J hn;refine xB L (fun j y=>by have:=BJ.1 y;omega) A (fun j y an=>?_) hn;have Z:=BJ.1 y;have T:ops[j]?=some (ops[j]'(by omega)):=AAc (by omega);obtain⟨aq,ai⟩:=(C.front j _ T (by omega)).1;have aw:Ai ops.toList j=some aq:=by simp[Ai,T,ai]
     rw[aw]at an;simp only[ACA,ABN,AY]at an;refine ag j (ak.2.1 aq ?_ j (by omega) aw);simp only[My,OF];exact .inl an
    have aj:=hF i o R z;have I:K5 ops.toList (Ar ops.toList en σ0 ex) (en i).b o.guard:=by
     have I:=aj.g;cases al:o.guard with
     | none=>rw[al]at I;exact I
     | some g =>
      obtain⟨j,cr⟩:=g;rw[al]at I;simp only[K5]at I ⊢;obtain⟨s,az,I⟩:=I;refine⟨s,az,?_⟩;rw[bf s (by
       simp only[My,al,OF,az];exact .inr (by simp))]
      exact I
    have ae:=L9 hs I;have bs:o∈ops.toList:=by
     have:o∈ops:=Array.mem_of_getElem? z;simpa using this
    have ay:=Bb (bm o bs);have bg:∀M w',c.sat ((Ar ops.toList en σ0 ex).add (en i).v (en i).obs o.dst) M w'→wpAnyIn (FR c.r) 0 c.P .any ops Q m (listed.setIfInBounds i true) M w':=by
     intro M w' U;refine ce (i :: ex) _ M w' (AAd.2 ⟨be,S⟩) (fun j y=>?_) (by simp;omega) (by simpa using aa) (fun j y=>?_) (fun i' J N am e B=>?_) (by simp only[Ar,bk];exact U)
     ·rcases By.1 y with rfl|y
      ·exact R
      ·exact A j y
     ·have bp:j<listed.size:=by omega
      by_cases Z:j=i
      ·subst Z;simp[Array.getD,bp]
      ·have H:(listed.setIfInBounds i true).getD j true=listed.getD j true:=getD_set_ne true (fun e=>Z e.symm);rw[H,E j y];simp[Z]
     ·rcases By.1 am with rfl|am
      ·rw[z]at N;cases N;exact ON _ (bl e B)
      ·exact ON _ (ah i' J N am e B)
    unfold wpOpIn;rw[z];simp only;cases X:(en i).b with
    | true =>
     rw[X]at ae;rw[At ae];obtain⟨cq,bw,cc,bn⟩:=aj.t X;obtain⟨ρ,bh⟩:=hs;have bx:=Sz bu bv bw;have ba:Ba (en i).obs (Ar ops.toList en σ0 ex)=true:=by
      simp only[Ba,GO]at bn ⊢;intro p hp;have ca:∃J,lk p.1 (en i).obs=some J:=by
       have:∀(l:List (Nat×Obj)),p∈l→∃J,lk p.1 l=some J:=by
        intro l;induction l with
        | nil=>intro h;cases h
        | cons q r ch =>
         intro h;obtain⟨cj,ck⟩:=q;simp only[lk];by_cases B:p.1=cj
         ·exact⟨ck,by rw[At B]⟩
         ·rw[As B];rcases By.1 h with rfl|h
          ·exact absurd rfl B
          ·exact ch h
       exact this _ hp
      obtain⟨J,N⟩:=ca;have:lk p.1 (Ar ops.toList en σ0 ex).objs=none:=by
       cases bd:lk p.1 (Ar ops.toList en σ0 ex).objs with
       | none=>rfl
       | some ci =>
        rw[Ez L A]at bd;rcases bd with ⟨j,y,Y⟩|⟨_,Y⟩
        ·have:=L.2 i j R (A j y) p.1 J ci N Y;subst this;exact absurd y be
        ·rw[L.1 i R p.1 J N]at Y;cases Y
      simp[this]
     exact oU (A2P ab bh) bx cc ba fun u ρ' w' bz=>bg _ _ ⟨ρ',bh.add ab.K ab.O ay ba bz⟩
    | false =>
     rw[X]at ae;rw[As (by simp[ae])];refine⟨fun _ _=>trivial,?_⟩;have:=aj.f X;have af:=Mu ab hs ay;refine bg _ _ ?_;rw[this.1,this.2];exact af
end
theorem sR {c:Cx} {ops:Array Oper} {k:Nat} {σ0:St} {en:Nat→En} {Q:Exit→Act→World→Prop} (n:c.Ok) (L:∀o∈ops.toList,HX c.nt o=true) (hF:∀j o,j<k→ops[j]?=some o→Tn c.tb ops.toList true σ0 en j o) (hk:k≤ops.size)
  {σ2:St} (F:∀s v,lk s σ2.env=some v→lk s (Ar ops.toList en σ0 (Aj k)).env=some v) (G:σ2.objs=(Ar ops.toList en σ0 (Aj k)).objs) (hT:∀d w',c.sat σ2 d w'→wpListIn (FR c.r) 0 c.P ops Q (ops.toList.drop k) d w'):∀(m i:Nat) (a:Act) (w:World),m+i=k→c.sat (Ar ops.toList en σ0 (Aj i)) a w→wpListIn (FR c.r) 0 c.P ops Q (ops.toList.drop i) a w:=by
 intro m;induction m with
 | zero =>
  intro i a w hi hs;have:i=k:=by omega
  subst this;exact hT _ _ (S0 F (fun _=>by rw[G]) hs)
 | succ m V =>
  intro i a w hi hs;have e:ops[i]?=some (ops[i]'(by omega)):=AAc (by omega);generalize ops[i]'(by omega)=o at e;have I:ops.toList.drop i=o :: ops.toList.drop (i+1):=by
   have:i<ops.toList.length:=by simp;omega
   rw[aS this]
   congr 1
   have y:ops.toList[i]?=some o:=by simpa using e
   rw[An this]at y;injection y
  rw[I];have q:=hF i o (by omega) e;have p:=L9 hs q.g;have M:o∈ops.toList:=by
   have:o∈ops:=Array.mem_of_getElem? e;simpa using this
  have z:=Bb (L o M);have J:Ai ops.toList i=o.dst:=by simp[Ai,e]
  have C:∀d w',c.sat ((Ar ops.toList en σ0 (Aj i)).add (en i).v (en i).obs o.dst) d w'→wpListIn (FR c.r) 0 c.P ops Q (ops.toList.drop (i+1)) d w':=by
   intro d w' T;exact V (i+1) d w' (by omega) (by simp only[Aj,Ar,J];exact T)
  unfold wpListIn;cases h:(en i).b with
  | true =>
   rw[h]at p;rw[At p];obtain⟨W,B,U,A⟩:=q.t h;obtain⟨ρ,D⟩:=hs;have N:∀l:List Nat,Bv true (GI o.op) σ0.objs (ES ops.toList en l)=(Ar ops.toList en σ0 l).objs:=by
    intro l;rw[Fh];induction l with
    | nil=>rfl
    | cons x r E=>simp only[ES,AA1,Bv,Bool.true_or,AAH,ABJ,oR]at E ⊢;rw[E]
   have R:aq c.tb (Ar ops.toList en σ0 (Aj i)) (o.dst.getD 0) o.op=some (W,(en i).v,(en i).obs):=by
    rw[N]at B;exact B
   exact oU (A2P n D) R U A fun u ρ' w' S=>C _ _ ⟨ρ',D.add n.K n.O z A S⟩
  | false =>
   rw[h]at p;rw[As (by simp[p])];refine⟨fun _ _=>trivial,?_⟩;have:=q.f h;have H:=Mu n hs z;refine C _ _ ?_;rw[this.1,this.2];exact H
theorem M2 {tb:Tb} {ops:List Oper} {q:Bool} {base:List (Nat×Obj)} {rest:List Oper}:∀ {fr:List Oper} {i:Nat} {E:List (Nat×List (Nat×Obj))} {G:Gs} {σ σ':St} {vc:Prop},K4 tb ops q base rest fr i E G σ=some (vc,σ')→vc →
  ∃(f j:Prop) (k:St),K4 tb ops q base [] fr i E G σ=some (f,k)∧f∧Bp tb ops rest k=some (j,σ')∧j
 | [],i,E,G,σ,σ',vc,h,e=>by
  simp only[K4]at h;exact⟨True,vc,σ,by simp only[K4,Bp],trivial,h,e⟩
 | o :: r,i,E,G,σ,σ',vc,h,e=>by
  simp only[K4]at h;cases l:HK ops G σ.env i o.guard with
  | none=>rw[l]at h;simp[evMG]at h
  | some p =>
   obtain⟨c,T⟩:=p;rw[l]at h;simp only[evMG]at h;cases m:v5 tb ops q base c G E σ.env o (HL o.op) with
   | none=>rw[m]at h;cases c<;>simp[evMQ]at h
   | some x =>
    obtain⟨u,v,obs⟩:=x;rw[m]at h;cases c with
    | nil =>
     cases a:o.dst with
     | none=>rw[a]at h;simp[evMQ]at h
     | some d =>
      rw[a]at h;simp only[evMQ]at h;split at h
      ·rename_i hf;cases b:K4 tb ops q base rest r (i+1) (JD d obs E) G (σ.add v obs (some d)) with
       | none=>rw[b]at h;simp[TW]at h
       | some y =>
        obtain⟨w,σ2⟩:=y;rw[b]at h;simp only[TW]at h;cases h;obtain⟨f,j,k,h1,n,s,t⟩:=M2 b e.2;exact⟨u∧f,j,k,by simp only[K4,l,evMG,m,a,evMQ,h1,TW];rw[At hf],⟨e.1,n⟩,s,t⟩
      ·cases h
    | cons g c =>
     cases obs with
     | cons z A=>cases a:o.dst<;>rw[a]at h<;>simp[evMQ]at h
     | nil =>
      cases a:o.dst with
      | none=>rw[a]at h;simp[evMQ]at h
      | some d =>
       rw[a]at h;simp only[evMQ]at h;split at h
       ·rename_i hf;cases b:K4 tb ops q base rest r (i+1) E ((d,g :: c,T,v) :: G) σ with
        | none=>rw[b]at h;simp[TW]at h
        | some y =>
         obtain⟨w,σ2⟩:=y;rw[b]at h;simp only[TW]at h;cases h;obtain⟨f,j,k,h1,n,s,t⟩:=M2 b e.2;exact⟨(T=true→u)∧f,j,k,by simp only[K4,l,evMG,m,a,evMQ,h1,TW];rw[At hf],⟨e.1,n⟩,s,t⟩
       ·cases h
theorem A62 {ops:List Oper} {q:Bool} {σ0:St} {en:Nat→En}:Inv ops q σ0 en 0 [] [] σ0 :=
 { env:=fun _ _ h=>h,G:=fun s c T v h=>absurd h (by simp),f:=fun j a=>absurd a (by omega),objs:=rfl,E:=fun _=>rfl }
section
variable {c:Cx} {R:Exit→Act→World→Prop} {k:List Df} {σ σ':St}
def HY (c:Cx) (R:Exit→Act→World→Prop) (k:List Df) (ops:Array Oper) (l:List Oper) (σ:St):Prop :=
 (∀o∈l,HX c.nt o=true)→DA c.nt k=true→∀a w,c.sat σ a w→wpListIn (FR c.r) 0 c.P ops (Sw c R k) l a w
theorem A2T {ops:Array Oper} (h:Ev c R (.out .normal) k σ):HY c R k ops [] σ:=fun _ b a w hs=>h rfl b a w hs
theorem S1 (f:c.Ok) {ops:Array Oper} {l:List Oper} (n:Nat) {vc:Prop} (h:Bp c.tb ops.toList (l.take n) σ=some (vc,σ')) (i:vc) (hk:HY c R k ops (l.drop n) σ'):HY c R k ops l σ:=by
 intro h1 e a w hs;have:=Qw (r:=l.drop n) f (l.take n) hs (fun o b=>h1 o (AA9 b)) h i (fun d w' g=>hk (fun o b=>h1 o (AAJ b)) e d w' g)
 rwa [ABn]at this
theorem aF (z:c.P.follows .mixedOrders=true) (u:c.Ok) {id:Nat} {l:List Oper} (n:Nat) (d:Lb l (l.take n).length=true) {vc:Prop}
  (h:K4 c.tb l false σ.objs [] (l.take n) 0 [] [] σ=some (vc,σ')) (C:vc) (hk:HY c R k l.toArray (l.drop n) σ') :
  Ev c R (.run (.region id l.toArray true)) k σ:=by
 intro h1 r a w hs;simp only[II,Bh,GO]at h1;have d:=A61 (ops:=l.toArray) (k:=(l.take n).length) (anc:=xA l) (by simpa only[Lb] using d);have hu:kO l (l.take n).length:=by
  intro x y D g;have m:y<l.length:=by simp at g;omega
  have A:l.toArray[y]?=some l[y]:=by simp[m]
  have:=(d.front y _ A g).2.2 x D;simpa[Ai,m] using this
 obtain⟨en,_,hF,F,σ2,f,E,s,t⟩:=Q1 (ops:=l) (q:=false) (σ0:=σ) (en:=fun _=>⟨false,.top,[]⟩) hu h C A62 (by simp) (fun j b=>by
  have b:j<(l.take n).length:=b;rw[AAM,oN];simp only[OS]at b;rw[At (by omega)])
 refine wpIn_region_any z ?_;have v:l.drop (l.take n).length=l.drop n:=by
  by_cases h:n≤l.length
  ·simp[h]
  ·rw[IF (by simp;omega),IF (by omega)]
 simp only[Bp]at f;cases f;have:=sQ (c:=c) (ops:=l.toArray) (k:=(l.take n).length) (σ0:=σ) (en:=en) (Q:=Sw c R k) u d (by simpa using h1)
  (fun j o b e=>hF j o (by omega) b (by simpa using e)) (σ2:=σ') s t (fun p w' B=>by
   rw[show (l.toArray.toList.drop _)=l.drop n from v];exact hk (fun o e=>h1 o (by simpa using AAJ e)) r p w' B)
  l.toArray.size [] (Array.replicate l.toArray.size false) a { w with drawn:=w.drawn+1 } (by simp) (by simp) (by simp) (by simp) (fun i hi=>by simp at hi;simp[Array.getD,hi]) (fun i o _ hi=>by simp at hi) (aD hs)
 exact this
theorem kP (t:c.Ok) {id:Nat} {l:List Oper} (n:Nat) (d:sO l (l.take n).length=true) {vc:Prop}
  (h:K4 c.tb l true σ.objs [] (l.take n) 0 [] [] σ=some (vc,σ')) (z:vc) (hk:HY c R k l.toArray (l.drop n) σ') :
  Ev c R (.run (.region id l.toArray false)) k σ:=by
 intro h1 p a w hs;simp only[II,Bh,GO]at h1;simp only[sO,AT,GO,nO,DO]at d;have hu:kO l (l.take n).length:=by
  intro x y A g;have i:y<l.length:=by simp at g;omega
  have:=d.2 y g;rw[An i]at this;simp only[AT,GO,nO,ABY]at this;have:=this.2 x A;simpa[Ai,i] using this
 obtain⟨en,_,hF,C,σ2,f,B,r,s⟩:=Q1 (ops:=l) (q:=true) (σ0:=σ) (en:=fun _=>⟨false,.top,[]⟩) hu h z A62 (by simp) (fun j b=>by
  have b:j<(l.take n).length:=b;rw[AAM,oN];simp only[OS]at b;rw[At (by omega)])
 have u:l.drop (l.take n).length=l.drop n:=by
  by_cases h:n≤l.length
  ·simp[h]
  ·rw[IF (by simp;omega),IF (by omega)]
 refine AC9 ?_;simp only[Bp]at f;cases f;have:=sR (c:=c) (ops:=l.toArray) (k:=(l.take n).length) (σ0:=σ) (en:=en) (Q:=Sw c R k) t (by simpa using h1)
  (fun j o b e=>hF j o (by omega) b (by simpa using e)) (by simpa using d.1) (σ2:=σ') r s (fun m w' v=>by
   rw[show (l.toArray.toList.drop _)=l.drop n from u];exact hk (fun o e=>h1 o (by simpa using AAJ e)) p m w' v)
  (l.take n).length 0 a w (by simp) hs
 exact this
theorem Yb (e:c.Ok) {ops:Array Oper} {l:List Oper} {vc:Prop} (h:Bp c.tb ops.toList l σ=some (vc,σ')) (g:vc) (hk:Ev c R (.out .normal) k σ'):HY c R k ops l σ:=by
 intro h1 d a w hs;exact PY e l hs h1 h g (fun b w' f=>hk rfl d b w' f)
theorem aG (e:c.P.follows .mixedOrders=true) (a:c.Ok) {id:Nat} {l:List Oper} (n:Nat) (d:Lb l (l.take n).length=true) {vc:Prop}
  (h:K4 c.tb l false σ.objs (l.drop n) (l.take n) 0 [] [] σ=some (vc,σ')) (f:vc) (hk:Ev c R (.out .normal) k σ') :
  Ev c R (.run (.region id l.toArray true)) k σ:=by
 obtain⟨j,m,o,h1,g,b,i⟩:=M2 h f;exact aF e a n d h1 g (Yb a b i hk)
theorem kQ (a:c.Ok) {id:Nat} {l:List Oper} (n:Nat) (d:sO l (l.take n).length=true) {vc:Prop}
  (h:K4 c.tb l true σ.objs (l.drop n) (l.take n) 0 [] [] σ=some (vc,σ')) (e:vc) (hk:Ev c R (.out .normal) k σ') :
  Ev c R (.run (.region id l.toArray false)) k σ:=by
 obtain⟨i,j,m,h1,f,b,g⟩:=M2 h e;exact kP a n d h1 f (Yb a b g hk)
theorem xD (d:c.P.follows .mixedOrders=true) (a:c.Ok) {id:Nat} {l:List Oper} (b:Lb l l.length=true) {vc:Prop}
  (h:K4 c.tb l false σ.objs [] l 0 [] [] σ=some (vc,σ')) (e:vc) (hk:Ev c R (.out .normal) k σ') :
  Ev c R (.run (.region id l.toArray true)) k σ :=
 aG d a l.length (by rw[f9];exact b) (by rw[f9,ABB];exact h) e hk
theorem xE (m:Nat) (d:c.P.follows .mixedOrders=true) (a:c.Ok) {id:Nat} {l:List Oper} (b:Lb l (l.take (l.length-m)).length=true) {vc:Prop}
  (h:K4 c.tb l false σ.objs (l.drop (l.length-m)) (l.take (l.length-m)) 0 [] [] σ=some (vc,σ')) (e:vc) (hk:Ev c R (.out .normal) k σ') :
  Ev c R (.run (.region id l.toArray true)) k σ:=aG d a _ b h e hk
theorem kR (a:c.Ok) {id:Nat} {l:List Oper} (b:sO l l.length=true) {vc:Prop}
  (h:K4 c.tb l true σ.objs [] l 0 [] [] σ=some (vc,σ')) (d:vc) (hk:Ev c R (.out .normal) k σ') :
  Ev c R (.run (.region id l.toArray false)) k σ :=
 kQ a l.length (by rw[f9];exact b) (by rw[f9,ABB];exact h) d hk
theorem kS (a:c.Ok) {id:Nat} {l:List Oper} (_:(l.all fun o=>o.guard.isNone)=true) {vc:Prop} (h:Bp c.tb l l σ=some (vc,σ')) (b:vc) (hk:Ev c R (.out .normal) k σ') :
  Ev c R (.run (.region id l.toArray false)) k σ:=kJ a h b hk
end
end
section
open Go Go.RowKit
theorem o8 {c:Cx} {σ b σ':St} (l:List Nat) (h:Ce l σ=b) (d:Ent c b σ'):Ent c σ σ':=by
 intro a w hs;obtain⟨ρ,hs⟩:=hs;exact d a w ⟨ρ,by rw[←h];exact Kx hs⟩
theorem X1 {α:Type} (a b:List α):(a++b).take (a.length+b.length)=a++b:=BY (by simp)
theorem M3 {α:Type} (a b:List α):sub (a++b) 0 (a.length+b.length)=a++b:=by rw[Gx,X1]
theorem GY {α:Type} (a:List α) (x:α):(a++[x]).take (a.length+1)=a++[x]:=BY (by simp)
theorem KG {α:Type} (a:List α) (x:α):sub (a++[x]) 0 (a.length+1)=a++[x]:=by rw[Gx,GY]
theorem A4U {P:Program} {tb:Tb} {w0:World} {O0:Nat→Prop} {nt:Nat} (c:(cx P tb w0 O0 nt).Ok) {fn:Func} {a:List RV} {σ:St} {e:Exit} (b:List ResultVar) (g:fn.results.toList=b) (f:e=.ret∨e=.normal) (hp:∀r∈a,∃t d,r=.p t d) (h:Nj tb σ b a) :
  Ev (cx P tb w0 O0 nt) (R8 P fn w0 O0 a) (.out e) [] σ:=w8 c f hp (by rw[g];exact h)
theorem Wr:((0:Nat):Int)=0:=rfl
theorem Ws (k:Nat):((k+1:Nat):Int)=(k:Int)+1:=by omega
theorem AD {α:Type} (l:List α) (d:α) {k:Nat} (h:k<l.length):l.getD k d∈l:=by
 rw[AS,An h];exact AAh h
theorem AG {P:Program} {ty:List (Nat×TI)} {b:List Nat} {ne:List (Nat×TypeId)} {a:List Nat}:I8 P ⟨ty,[],b,ne,a⟩:=fun f sp h=>by simp[lk]at h
theorem AF {P:Program} {ty:List (Nat×TI)} {c:List Nat} {ne:List (Nat×TypeId)} {b:List Nat} {f:Nat} {sp:Ae} {r:List (Nat×Ae)} (h:Ao P f sp) (d:I8 P ⟨ty,r,c,ne,b⟩):I8 P ⟨ty,(f,sp) :: r,c,ne,b⟩:=fun g i a=>by
 simp only[lk]at a;split at a
 ·rename_i e;cases a;rw[e];exact h
 ·exact d g i a
theorem Hz {α:Type} (x:α):[x].take 1=[x]:=rfl
theorem Ax {α:Type} (l:List α) (d:α) {k:Nat} (h:k<l.length):l.take (k+1)=l.take k++[l.getD k d]:=by
 rw[List.take_add_one,AS,An h];rfl
theorem M4 {α:Type} (l:List α) (q:Nat):sub l q l.length=l.drop q:=by
 unfold sub;rw[BY (by simp)]
end
end Go.Proofs.YtdapahgnpbehbaaGreat.Fw
