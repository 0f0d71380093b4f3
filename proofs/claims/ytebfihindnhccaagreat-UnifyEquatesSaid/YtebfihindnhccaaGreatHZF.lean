/- Regions whose order Go leaves open: the rules. -/
/- A statement whose order Go leaves open: what only adds may come in any order, what turns memory comes behind. -/
import Derived.Test.YtebfihindnhccaaGreatHZE
set_option linter.unusedVariables false
set_option linter.unusedSimpArgs false
namespace Go.Proofs.YtebfihindnhccaaGreat.Fw
section
open Go Go.RowKit
def Da (o:Oper):List Nat:=(o.after.toList.filter (Region.binds .any)).map (·.on)
def Af (ops:List Oper) (j:Nat):Option Nat:=(ops[j]?).bind (·.dst)
def Nh:Operand→Option Nat
 | .tmp t=>some t
 | _=>none
def LS (ops:List Oper) (o:Oper):List Nat:=(o.op.operands.toList.filterMap Nh)++(match o.guard with|some (j,_)=>(Af ops j).toList|none=>[])
def A2S (a b:List Nat):List Nat:=a.foldl (fun r x=>if AZ x r then r else x :: r) b
def rZ (ops:List Oper):List (List Nat):=ops.foldl (fun(acc:List (List Nat)) o=>acc++[(Da o).foldl (fun r e=>A2S (acc.getD e []) (if AZ e r then r else e :: r)) []]) []
def opB (ops:List Oper) (k:Nat) (anc:List (List Nat)) (i:Nat) (o:Oper):Bool :=
  (Da o).all (fun e=>decide (e<i)) &&
  (anc.getD i []).all (fun j=>AZ j (Da o)||(Da o).any fun e=>AZ j (anc.getD e [])) &&
  (if i<k then o.dst.isSome&&((LS ops o).all fun t=>(List.range k).all fun j=>Af ops j != some t||AZ j (anc.getD i []))&&((List.range i).all fun j=>Af ops j != o.dst)
   else (List.range i).all fun j=>AZ j (anc.getD i []))
def aM (ops:List Oper) (k:Nat) (anc:List (List Nat)):Bool :=
 decide (k≤ops.length)&&(List.range ops.length).all fun i=>match ops[i]? with|some o=>opB ops k anc i o|none=>false
def Ni (ops:List Oper) (k:Nat):Bool:=aM ops k (rZ ops)
def n6 (ops:List Oper) (k:Nat):Bool :=
 decide (k≤ops.length)&&(List.range k).all fun i=>match ops[i]? with|some o=>o.dst.isSome&&((List.range i).all fun j=>Af ops j != o.dst)|none=>false
def Bh (q:Bool) (ts:List Nat) (base:List (Nat×Obj)):List (Nat×List (Nat×Obj))→List (Nat×Obj)
 | []=>base
 | (s,obs) :: r=>if (q||AZ s ts)=true then obs++Bh q ts base r else Bh q ts base r
def F2 (o:Op):List Nat:=o.operands.toList.filterMap Nh
def KJ (q:Bool) (o:Op) (base:List (Nat×Obj)):List (Nat×List (Nat×Obj))→List (Nat×Obj)
 | []=>base
 | e :: r=>Bh q (F2 o) base (e :: r)
def IU (d:Nat) (obs:List (Nat×Obj)) (E:List (Nat×List (Nat×Obj))):List (Nat×List (Nat×Obj)) :=
 match obs with
 | []=>E
 | x :: r=>(d,x :: r) :: E
/-! ### Operations under a condition: their values hold where the condition does. -/
abbrev Ch:=List (Nat×Bool)
abbrev Gs:=List (Nat×(Ch×Bool×AV))
def MW:Ch→Ch→Bool
 | [],[]=>true
 | (j,w) :: r,(j',w') :: r'=>(j==j')&&(w==w')&&MW r r'
 | [],_ :: _=>false
 | _ :: _,[]=>false
theorem KK:MW [] []=true:=rfl
theorem Nj (x:Nat×Bool) (r:Ch):MW [] (x :: r)=false:=rfl
theorem Nk (x:Nat×Bool) (r:Ch):MW (x :: r) []=false:=rfl
theorem IV (j j':Nat) (w w':Bool) (r r':Ch):MW ((j,w) :: r) ((j',w') :: r')=(decide (j=j')&&(w==w')&&MW r r'):=by
 have e:(j==j')=decide (j=j'):=by
  by_cases h:j=j'<;>simp[h]
 show ((j==j')&&(w==w')&&MW r r')=_
 rw[e]
def Qw (c':Ch):Ch→Bool
 | []=>MW c' []
 | k :: r=>MW c' (k :: r)||Qw c' r
def IW (c:Ch):Gs→List (Nat×AV)→List (Nat×AV)
 | [],env=>env
 | (s,c',_,v) :: G,env=>if Qw c' c=true then (s,v) :: IW c G env else IW c G env
def JA (j:Nat) (want:Bool):Option (Ch×Bool×AV)→Option AV→Option (Ch×Bool)
 | some (c,T,.p .bool b),_=>some ((j,want) :: c,T&&(b==want))
 | none,some (.p .bool b)=>some ([(j,want)],b==want)
 | _,_=>none
def Hi (G:Gs) (env:List (Nat×AV)) (j:Nat) (want:Bool):Option Nat→Option (Ch×Bool)
 | some s=>JA j want (lk s G) (lk s env)
 | none=>none
def Gu (ops:List Oper) (G:Gs) (env:List (Nat×AV)) (i:Nat):Option (Nat×Bool)→Option (Ch×Bool)
 | none=>some ([],true)
 | some (j,want)=>if j<i then Hi G env j want (Af ops j) else none
def MX (ops:List Oper) (c:Ch) (s:Nat) (w:Bool):Option (Ch×Bool×AV)→Option AV→Option AV
 | some (c',_,v),_=>if Qw c' c=true then some v else match c' with
  | []=>none
  | (j,w') :: r=>if w'=w∧Af ops j=some s∧MW r c=true then some v else none
 | none,x=>x
def Jn (ops:List Oper) (c:Ch) (G:Gs) (env:List (Nat×AV)) (s:Nat) (w:Bool):Operand→Option AV
 | .tmp t=>MX ops c s w (lk t G) (lk t env)
 | .const v=>some (GW v)
 | .func _=>none
 | .global _=>none
def MY:Option AV→Option AV→Option AV→BO
 | some (.p .bool b),some (.p .bool p),some (.p .bool q)=>some (True,.p .bool (bif b then p else q),[])
 | _,_,_=>none
def L8 (ops:List Oper) (c:Ch) (G:Gs) (env:List (Nat×AV)):Operand→Operand→Operand→BO
 | .tmp s,x,y=>MY (lk s (IW c G env)) (Jn ops c G env s true x) (Jn ops c G env s false y)
 | .const _,_,_=>none
 | .func _,_,_=>none
 | .global _,_,_=>none
def Gv:Op→Option (Operand×Operand×Operand)
 | .pick s x y=>some (s,x,y)
 | _=>none
def r7 (tb:Tb) (ops:List Oper) (q:Bool) (base:List (Nat×Obj)) (c:Ch) (G:Gs) (E:List (Nat×List (Nat×Obj))) (env:List (Nat×AV)) (o:Oper):Option (Operand×Operand×Operand)→BO
 | some (s,x,y)=>L8 ops c G env s x y
 | none=>aq tb ⟨IW c G env,KJ q o.op base E⟩ (o.dst.getD 0) o.op
mutual
/-- The operations of the front in the order of the text, each with what it can see; then the rest. -/
def KL (tb:Tb) (ops:List Oper) (q:Bool) (base:List (Nat×Obj)) (rest:List Oper):List Oper→Nat→List (Nat×List (Nat×Obj))→Gs→St→CW
 | [],_,_,_,σ=>Bd tb ops rest σ
 | o :: r,i,E,G,σ=>evMG tb ops q base rest o r i E G σ (Gu ops G σ.env i o.guard)
def evMG (tb:Tb) (ops:List Oper) (q:Bool) (base:List (Nat×Obj)) (rest:List Oper) (o:Oper) (r:List Oper) (i:Nat) (E:List (Nat×List (Nat×Obj))) (G:Gs) (σ:St):Option (Ch×Bool)→CW
 | some (c,T)=>evMQ tb ops q base rest o.dst r i E G σ c T (r7 tb ops q base c G E σ.env o (Gv o.op))
 | none=>none
def evMQ (tb:Tb) (ops:List Oper) (q:Bool) (base:List (Nat×Obj)) (rest:List Oper) (dst:Option Nat) (r:List Oper) (i:Nat) (E:List (Nat×List (Nat×Obj))) (G:Gs) (σ:St):Ch→Bool→BO→CW
 | [],_,some (vc,v,obs)=>match dst with
  | some d=>if BT obs σ=true then T7 vc (KL tb ops q base rest r (i+1) (IU d obs E) G (σ.add v obs (some d))) else none
  | none=>none
 | g :: c,T,some (vc,v,[])=>match dst with
  | some d=>if (lk d σ.env).isNone=true then T7 (T=true→vc) (KL tb ops q base rest r (i+1) E ((d,g :: c,T,v) :: G) σ) else none
  | none=>none
 | _,_,_=>none
end
structure En where
 b:Bool
 v:AV
 obs:List (Nat×Obj)
def Aj (ops:List Oper) (en:Nat→En) (σ:St):List Nat→St
 | []=>σ
 | i :: r=>(Aj ops en σ r).add (en i).v (en i).obs (Af ops i)
def Ad:Nat→List Nat
 | 0=>[]
 | i+1=>i :: Ad i
end
/- Any order: the proof. -/
section
open Go Go.RowKit
section
variable {tb:Tb} {ops:List Oper} {k:Nat} {q:Bool} {anc:List (List Nat)} {σ0:St} {en:Nat→En}
def ES (ops:List Oper) (en:Nat→En) (l:List Nat):List (Nat×List (Nat×Obj)):=l.map fun j=>((Af ops j).getD 0,(en j).obs)
def JB (ops:List Oper) (σ:St) (b:Bool):Option (Nat×Bool)→Prop
 | none=>b=true
 | some (j,want)=>∃s,Af ops j=some s∧((∃x,lk s σ.env=some (.p .bool x)∧b=(x==want))∨(lk s σ.env=some (.raw undef)∧b=false))
structure R2 (tb:Tb) (ops:List Oper) (q:Bool) (σ0:St) (en:Nat→En) (i:Nat) (o:Oper):Prop where
 g:JB ops (Aj ops en σ0 (Ad i)) (en i).b o.guard
 t:(en i).b=true→∃vc:Prop,aq tb ⟨(Aj ops en σ0 (Ad i)).env,Bh q (F2 o.op) σ0.objs (ES ops en (Ad i))⟩ (o.dst.getD 0) o.op=some (vc,(en i).v,(en i).obs)∧vc∧BT (en i).obs (Aj ops en σ0 (Ad i))=true
 f:(en i).b=false→(en i).v=.raw undef∧(en i).obs=[]
theorem JD {en':Nat→En}:∀ {l:List Nat},(∀j∈l,en' j=en j)→Aj ops en' σ0 l=Aj ops en σ0 l
 | [],_=>rfl
 | i :: r,h=>by
  simp only[Aj]
  rw[JD (fun j hj=>h j (by simp[hj])),h i (by simp)]
theorem A7 {i j:Nat}:j∈Ad i↔j<i:=by
 induction i with
 | zero=>simp[Ad]
 | succ i ih=>simp[Ad,ih];omega
/-! ### What the states hold -/
theorem Ew:∀(l:List Nat),(Aj ops en σ0 l).objs=(l.flatMap fun j=>(en j).obs)++σ0.objs
 | []=>rfl
 | i :: r=>by
  simp only[Aj,List.flatMap_cons,List.append_assoc]
  rw[←Ew r]
  cases Af ops i<;>rfl
theorem Ex (s:Nat):∀(l:List Nat),lk s (Aj ops en σ0 l).env=match l.find? (fun j=>Af ops j==some s) with|some j=>some (en j).v|none=>lk s σ0.env
 | []=>rfl
 | i :: r=>by
  simp only[Aj,List.find?_cons]
  cases hd:Af ops i with
  | none =>
   simp only[St.add]
   rw[Ex s r]
   have:((none:Option Nat)==some s)=false:=rfl
   rw[this]
  | some d =>
   simp only[St.add,lk]
   by_cases hs:s=d
   ·subst hs;simp
   ·have h1:((some d:Option Nat)==some s)=false:=by
     have:d≠s:=fun e=>hs e.symm
     simpa using this
    rw[if_neg hs,Ex s r,h1]
theorem eD {n:Nat} {o:Obj} {l:List Nat} (h:lk n (l.flatMap fun j=>(en j).obs)=some o):∃j∈l,lk n (en j).obs=some o:=by
 induction l with
 | nil=>simp[lk]at h
 | cons i r ih =>
  rw[List.flatMap_cons,Ar]at h
  cases h':lk n (en i).obs with
  | some o' =>
   rw[h']at h
   exact⟨i,by simp,by rw[h'];simpa using h⟩
  | none =>
   rw[h']at h
   obtain⟨j,hj,hlk⟩:=ih (by simpa using h)
   exact⟨j,by simp[hj],hlk⟩
theorem JE {n:Nat} {l:List Nat} (h:lk n (l.flatMap fun j=>(en j).obs)=none):∀j∈l,lk n (en j).obs=none:=by
 induction l with
 | nil=>simp
 | cons i r ih =>
  rw[List.flatMap_cons,Ar]at h
  cases h':lk n (en i).obs with
  | some o'=>rw[h']at h;simp at h
  | none =>
   rw[h']at h
   intro j hj
   rcases List.mem_cons.1 hj with rfl|hj
   ·exact h'
   ·exact ih (by simpa using h) j hj
def Sep (σ0:St) (en:Nat→En) (k:Nat):Prop :=
 (∀j,j<k→∀n o,lk n (en j).obs=some o→lk n σ0.objs=none)∧∀i j,i<k→j<k→∀n o o',lk n (en i).obs=some o→lk n (en j).obs=some o'→i=j
theorem EB (hsep:Sep σ0 en k) {l:List Nat} (hl:∀j∈l,j<k) (n:Nat) (o:Obj):lk n (Aj ops en σ0 l).objs=some o↔(∃j∈l,lk n (en j).obs=some o)∨((∀j∈l,lk n (en j).obs=none)∧lk n σ0.objs=some o):=by
 rw[Ew,Ar]
 cases h:lk n (l.flatMap fun j=>(en j).obs) with
 | some o' =>
  obtain⟨j,hj,hlk⟩:=eD h
  simp only[Option.some_or]
  constructor
  ·intro he
   cases he
   exact .inl ⟨j,hj,hlk⟩
  ·rintro (⟨j',hj',hlk'⟩|⟨h1,_⟩)
   ·have:=hsep.2 j j' (hl j hj) (hl j' hj') n o' o hlk hlk'
    subst this
    rw[←hlk,hlk']
   ·rw[h1 j hj]at hlk;cases hlk
 | none =>
  have hn:=JE h
  simp only[Option.none_or]
  constructor
  ·intro he;exact .inr ⟨hn,he⟩
  ·rintro (⟨j',hj',hlk'⟩|⟨_,h1⟩)
   ·rw[hn j' hj']at hlk';cases hlk'
   ·exact h1
theorem r8 (hsep:Sep σ0 en k) {ts:List Nat} {l l':List Nat} (hl:∀j∈l,j<k) (hl':∀j∈l',j<k) (hA:∀j∈l,(q||AZ ((Af ops j).getD 0) ts)=true→j∈l') {n:Nat} {o:Obj} :
  lk n (Bh q ts σ0.objs (ES ops en l))=some o→lk n (Aj ops en σ0 l').objs=some o:=by
 rw[EB hsep hl']
 induction l with
 | nil =>
  simp only[ES,List.map_nil,Bh]
  intro h
  refine .inr ⟨fun j hj=>?_,h⟩
  cases h':lk n (en j).obs with
  | none=>rfl
  | some o'=>have:=hsep.1 j (hl' j hj) n o' h';rw[this]at h;cases h
 | cons i r ih =>
  simp only[ES,List.map_cons,Bh]
  have ih:=ih (fun j hj=>hl j (by simp[hj])) (fun j hj=>hA j (by simp[hj]))
  split
  ·rename_i hm
   intro h
   rw[Ar]at h
   cases h':lk n (en i).obs with
   | some o' =>
    rw[h']at h
    simp only[Option.some_or]at h
    cases h
    exact .inl ⟨i,hA i (by simp) hm,h'⟩
   | none =>
    rw[h']at h
    exact ih (by simpa[ES] using h)
  ·exact ih
/-! ### The front -/
theorem Nl:∀ {a b:Ch},MW a b=true↔a=b
 | [],[]=>by simp[MW]
 | (j,w) :: r,(j',w') :: r'=>by simp[MW,Nl (a:=r) (b:=r'),and_assoc]
 | [],_ :: _=>by simp[MW]
 | _ :: _,[]=>by simp[MW]
def bv:AV→Bool
 | .p .bool b=>b
 | _=>false
def tr (en:Nat→En):Ch→Bool
 | []=>true
 | (j,w) :: r=>tr en r&&(bv (en j).v==w)
theorem R3 {en':Nat→En}:∀ {c:Ch},(∀k∈c,en' k.1=en k.1)→tr en' c=tr en c
 | [],_=>rfl
 | (j,w) :: r,h=>by
  have h1:=h (j,w) (by simp)
  simp only at h1
  simp only[tr]
  rw[R3 (fun k hk=>h k (by simp[hk])),h1]
theorem aN {c':Ch}:∀ {c:Ch},Qw c' c=true→tr en c=true→tr en c'=true
 | [],h,ht=>by simp only[Qw,Nl]at h;rw[h];exact ht
 | k :: r,h,ht=>by
  simp only[Qw,Bool.or_eq_true,Nl]at h
  rcases h with rfl|h
  ·exact ht
  ·obtain⟨j,w⟩:=k
   simp only[tr,Bool.and_eq_true]at ht
   exact aN h ht.1
structure Inv (ops:List Oper) (q:Bool) (σ0:St) (en:Nat→En) (i:Nat) (E:List (Nat×List (Nat×Obj))) (G:Gs) (σ:St):Prop where
 env:∀s v,lk s σ.env=some v→lk s (Aj ops en σ0 (Ad i)).env=some v
 G:∀s c T v,(s,c,T,v)∈G→T=tr en c∧(T=true→lk s (Aj ops en σ0 (Ad i)).env=some v)∧(∀k∈c,k.1<i)∧∃j,j<i∧Af ops j=some s∧(en j).b=T
 f:∀j,j<i→(en j).b=false→(en j).v=.raw undef
 objs:σ.objs=(Aj ops en σ0 (Ad i)).objs
 E:∀ts,Bh q ts σ0.objs E=Bh q ts σ0.objs (ES ops en (Ad i))
def aO (ops:List Oper) (k:Nat):Prop:=∀a b,a<b→b<k→Af ops a≠Af ops b
theorem Ud (hu:aO ops k) {i j s:Nat} (hik:i≤k) (hj:j<i) (hd:Af ops j=some s):lk s (Aj ops en σ0 (Ad i)).env=some (en j).v:=by
 rw[Ex]
 have:(Ad i).find? (fun j=>Af ops j==some s)=some j:=by
  cases hf:(Ad i).find? (fun j=>Af ops j==some s) with
  | none =>
   have:=List.find?_eq_none.1 hf j (A7.2 hj)
   simp[hd]at this
  | some x =>
   have h1:=A7.1 (List.mem_of_find?_eq_some hf)
   have h2:=List.find?_some hf
   have h2:Af ops x=some s:=by simpa using h2
   rcases Nat.lt_trichotomy x j with h|h|h
   ·exact absurd (h2.trans hd.symm) (hu x j h (by omega))
   ·rw[h]
   ·exact absurd (hd.trans h2.symm) (hu j x h (by omega))
 rw[this]
theorem O1 {c:Ch} {s:Nat} {v:AV} {env:List (Nat×AV)}:∀ {G:Gs},lk s (IW c G env)=some v→(∃c' T,(s,c',T,v)∈G∧Qw c' c=true)∨lk s env=some v
 | [],h=>.inr h
 | (s',c',T,v') :: G,h=>by
  simp only[IW]at h
  split at h
  ·rename_i hs
   simp only[lk]at h
   split at h
   ·rename_i e
    subst e
    cases h
    exact .inl ⟨c',T,by simp,hs⟩
   ·rcases O1 h with ⟨c2,T2,hm,h2⟩|h2
    ·exact .inl ⟨c2,T2,by simp[hm],h2⟩
    ·exact .inr h2
  ·rcases O1 h with ⟨c2,T2,hm,h2⟩|h2
   ·exact .inl ⟨c2,T2,by simp[hm],h2⟩
   ·exact .inr h2
section
variable {i:Nat} {E:List (Nat×List (Nat×Obj))} {G:Gs} {σ:St}
theorem X3 (hI:Inv ops q σ0 en i E G σ) {c:Ch} (hc:tr en c=true) {s:Nat} {v:AV} (h:lk s (IW c G σ.env)=some v):lk s (Aj ops en σ0 (Ad i)).env=some v:=by
 rcases O1 h with ⟨c',T,hm,hs⟩|h
 ·obtain⟨h1,h2,_⟩:=hI.G s c' T v hm
  exact h2 (by rw[h1];exact aN hs hc)
 ·exact hI.env s v h
theorem n7 (hI:Inv ops q σ0 en i E G σ) (hu:aO ops k) (hik:i≤k) {g:Option (Nat×Bool)} {c:Ch} {T:Bool} (h:Gu ops G σ.env i g=some (c,T)) :
  JB ops (Aj ops en σ0 (Ad i)) T g∧T=tr en c∧(∀k∈c,k.1<i):=by
 cases g with
 | none =>
  simp only[Gu]at h
  cases h
  exact⟨rfl,rfl,by simp⟩
 | some g =>
  obtain⟨j,want⟩:=g
  simp only[Gu]at h
  split at h
  ·rename_i hj
   cases hd:Af ops j with
   | none=>rw[hd]at h;simp[Hi]at h
   | some s =>
    rw[hd]at h
    simp only[Hi]at h
    have hw:=Ud (en:=en) (σ0:=σ0) hu hik hj hd
    unfold JA at h
    split at h
    ·rename_i c0 T0 b he
     cases h
     obtain⟨h1,h2,h3,j',hj',hd',hb'⟩:=hI.G s c0 T0 _ (FD he)
     cases hT:T0 with
     | true =>
      have h4:=h2 hT
      rw[hw]at h4
      injection h4 with h4
      refine⟨⟨s,hd,.inl ⟨b,by rw[hw,h4],by simp⟩⟩,?_,?_⟩
      ·rw[hT]at h1
       simp only[tr,←h1,h4,bv]
      ·intro k hk
       rcases List.mem_cons.1 hk with rfl|hk
       ·exact hj
       ·exact h3 k hk
     | false =>
      have hjj:j'=j:=by
       rcases Nat.lt_trichotomy j' j with h|h|h
       ·exact absurd (hd'.trans hd.symm) (hu j' j h (by omega))
       ·exact h
       ·exact absurd (hd.trans hd'.symm) (hu j j' h (by omega))
      subst hjj
      have h4:=hI.f j' hj (by rw[hb',hT])
      refine⟨⟨s,hd,.inr ⟨by rw[hw,h4],by simp⟩⟩,?_,?_⟩
      ·rw[hT]at h1
       simp only[tr,←h1,Bool.false_and]
      ·intro k hk
       rcases List.mem_cons.1 hk with rfl|hk
       ·exact hj
       ·exact h3 k hk
    ·rename_i b _ he
     cases h
     have h4:=hI.env s _ he
     rw[hw]at h4
     injection h4 with h4
     refine⟨⟨s,hd,.inl ⟨b,by rw[hw,h4],rfl⟩⟩,by simp[tr,h4,bv],?_⟩
     intro k hk
     simp at hk
     rw[hk]
     exact hj
    ·cases h
  ·cases h
theorem X4 (hI:Inv ops q σ0 en i E G σ) (hu:aO ops k) (hik:i≤k) {c:Ch} (hc:tr en c=true) {s:Nat} {w:Bool} (hs:lk s (Aj ops en σ0 (Ad i)).env=some (.p .bool w)) {x:Operand} {v:AV}
  (h:Jn ops c G σ.env s w x=some v) {objs:List (Nat×Obj)}:Ap ⟨(Aj ops en σ0 (Ad i)).env,objs⟩ x=some v:=by
 cases x with
 | const x=>simp only[Jn]at h;exact h
 | func f=>simp[Jn]at h
 | global g=>simp[Jn]at h
 | tmp t =>
  simp only[Jn]at h
  simp only[Ap]
  cases hg:lk t G with
  | none =>
   rw[hg]at h
   exact hI.env t v h
  | some e =>
   obtain⟨c',T,v'⟩:=e
   rw[hg]at h
   simp only[MX]at h
   obtain⟨h1,h2,h3,_⟩:=hI.G t c' T v' (FD hg)
   split at h
   ·rename_i hsf
    cases h
    exact h2 (by rw[h1];exact aN hsf hc)
   ·cases c' with
    | nil=>cases h
    | cons p r =>
     obtain⟨j,w'⟩:=p
     simp only at h
     split at h
     ·rename_i hh
      obtain⟨rfl,hd,hr⟩:=hh
      rw[Nl]at hr
      subst hr
      cases h
      have hw:=Ud (en:=en) (σ0:=σ0) hu hik (h3 (j,w') (by simp)) hd
      rw[hw]at hs
      injection hs with hs
      apply h2
      rw[h1]
      simp[tr,hc,hs,bv]
     ·cases h
theorem A25 (hI:Inv ops q σ0 en i E G σ) (hu:aO ops k) (hik:i≤k) {c:Ch} (hc:tr en c=true) {o:Oper} {vc:Prop} {v:AV} {obs:List (Nat×Obj)} (h:r7 tb ops q σ0.objs c G E σ.env o (Gv o.op)=some (vc,v,obs)) (hvc:vc) :
  ∃vc':Prop,aq tb ⟨(Aj ops en σ0 (Ad i)).env,Bh q (F2 o.op) σ0.objs (ES ops en (Ad i))⟩ (o.dst.getD 0) o.op=some (vc',v,obs)∧vc':=by
 cases hp:Gv o.op with
 | none =>
  rw[hp]at h
  simp only[r7]at h
  refine⟨vc,RD (σ:=⟨IW c G σ.env,KJ q o.op σ0.objs E⟩) ?_ ?_ h,hvc⟩
  ·intro n x hn
   have:KJ q o.op σ0.objs E=Bh q (F2 o.op) σ0.objs E:=by cases E<;>rfl
   simp only at hn ⊢
   rw[this,hI.E]at hn
   exact hn
  ·intro x _ v hv
   cases x with
   | tmp t=>exact X3 hI hc hv
   | const v'=>exact hv
   | global g=>exact hv
   | func f=>exact hv
 | some p =>
  obtain⟨s,x,y⟩:=p
  rw[hp]at h
  have ho:o.op=.pick s x y:=by
   unfold Gv at hp
   split at hp
   ·rename_i he;cases hp;exact he
   ·cases hp
  simp only[r7]at h
  rw[ho]
  cases s with
  | const _=>simp[L8]at h
  | func _=>simp[L8]at h
  | global _=>simp[L8]at h
  | tmp s =>
   simp only[L8]at h
   unfold MY at h
   split at h
   ·rename_i b p r h1 h2 h3
    cases h
    have hs:=X3 hI hc h1
    refine⟨True,?_,trivial⟩
    have h0:Ap ⟨(Aj ops en σ0 (Ad i)).env,Bh q (F2 (Op.pick (.tmp s) x y)) σ0.objs (ES ops en (Ad i))⟩ (.tmp s)=some (.p .bool b):=hs
    simp only[aq]
    rw[h0]
    cases b with
    | true =>
     simp only[Ji]
     rw[X4 hI hu hik hc hs h2]
     rfl
    | false =>
     simp only[Ji]
     rw[X4 hI hu hik hc hs h3]
     rfl
   ·cases h
end
theorem O2 {rest:List Oper} (hu:aO ops k):∀ {fr:List Oper} {i:Nat} {E:List (Nat×List (Nat×Obj))} {G:Gs} {σ σ':St} {en:Nat→En} {vc:Prop},KL tb ops q σ0.objs rest fr i E G σ=some (vc,σ')→vc→Inv ops q σ0 en i E G σ→i+fr.length=k→(∀j,j<fr.length→ops[i+j]?=fr[j]?) →
  ∃en':Nat→En,(∀j,j<i→en' j=en j)∧(∀j o,i≤j→j<k→ops[j]?=some o→R2 tb ops q σ0 en' j o) ∧
   ∃(vc':Prop) (σ2:St),Bd tb ops rest σ2=some (vc',σ')∧vc'∧(∀s v,lk s σ2.env=some v→lk s (Aj ops en' σ0 (Ad k)).env=some v)∧σ2.objs=(Aj ops en' σ0 (Ad k)).objs
 | [],i,E,G,σ,σ',en,vc,h,hvc,hI,hk,_=>by
  simp only[KL]at h
  simp at hk
  subst hk
  exact⟨en,fun _ _=>rfl,fun j o h1 h2=>by omega,vc,σ,h,hvc,hI.env,hI.objs⟩
 | o :: r,i,E,G,σ,σ',en,vc,h,hvc,hI,hk,hops=>by
  have hoi:ops[i]?=some o:=by simpa using hops 0 (by simp)
  have hdst:Af ops i=o.dst:=by simp[Af,hoi]
  have hik:i<k:=by simp at hk;omega
  simp only[KL]at h
  cases hg:Gu ops G σ.env i o.guard with
  | none=>rw[hg]at h;simp[evMG]at h
  | some cT =>
   obtain⟨c,T⟩:=cT
   obtain⟨hgo,hT,hcl⟩:=n7 hI hu (Nat.le_of_lt hik) hg
   rw[hg]at h
   simp only[evMG]at h
   cases hop:r7 tb ops q σ0.objs c G E σ.env o (Gv o.op) with
   | none =>
    rw[hop]at h
    unfold evMQ at h
    split at h
    ·rename_i he;cases he
    ·rename_i he;cases he
    ·cases h
   | some r0 =>
    obtain⟨vc1,v,obs⟩:=r0
    rw[hop]at h
    have main:∀(d:Nat) (e:En) (E':List (Nat×List (Nat×Obj))) (G':Gs) (σ1:St) (vc2:Prop),o.dst=some d→e.b=T→(T=true→vc1∧e.v=v∧e.obs=obs∧BT obs σ=true)→(T=false→e.v=.raw undef∧e.obs=[]) →
      (∀s v',lk s σ1.env=some v'→if s=d then v'=e.v else lk s σ.env=some v')→σ1.objs=e.obs++σ.objs →
      (∀s c' T' v',(s,c',T',v')∈G'→(s,c',T',v')∈G∨(s=d∧c'=c∧T'=T∧v'=v))→(∀ts,Bh q ts σ0.objs E'=Bh q ts σ0.objs ((d,e.obs) :: E)) →
      KL tb ops q σ0.objs rest r (i+1) E' G' σ1=some (vc2,σ')→vc2 →
      ∃en':Nat→En,(∀j,j<i→en' j=en j)∧(∀j o,i≤j→j<k→ops[j]?=some o→R2 tb ops q σ0 en' j o) ∧
       ∃(vc':Prop) (σ2:St),Bd tb ops rest σ2=some (vc',σ')∧vc'∧(∀s v,lk s σ2.env=some v→lk s (Aj ops en' σ0 (Ad k)).env=some v)∧σ2.objs=(Aj ops en' σ0 (Ad k)).objs:=by
     intro d e E' G' σ1 vc2 hod heb het hef henv hobj hG hE hev hvc2
     let en1:Nat→En:=fun j=>if j=i then e else en j
     have he1:en1 i=e:=by simp[en1]
     have heq:∀j,j<i→en1 j=en j:=fun j hj=>by simp[en1,show j≠i by omega]
     have hadd:Aj ops en1 σ0 (Ad i)=Aj ops en σ0 (Ad i):=JD fun j hj=>heq j (A7.1 hj)
     have hES:ES ops en1 (Ad i)=ES ops en (Ad i):=by
      apply List.map_congr_left
      intro j hj
      rw[heq j (A7.1 hj)]
     have hadd1:Aj ops en1 σ0 (Ad (i+1))=(Aj ops en σ0 (Ad i)).add e.v e.obs (some d):=by
      simp only[Ad,Aj,hadd,he1,hdst,hod]
     have hold:∀s v',s≠d→lk s (Aj ops en σ0 (Ad i)).env=some v'→lk s (Aj ops en1 σ0 (Ad (i+1))).env=some v':=by
      intro s v' hs hl
      rw[hadd1]
      simp only[St.add,lk,if_neg hs]
      exact hl
     have hnew:lk d (Aj ops en1 σ0 (Ad (i+1))).env=some e.v:=by
      rw[hadd1]
      simp[St.add,lk]
     have hI1:Inv ops q σ0 en1 (i+1) E' G' σ1:=by
      refine⟨fun s v' hl=>?_,fun s c' T' v' hm=>?_,fun j hj hb=>?_,?_,fun ts=>?_⟩
      ·have:=henv s v' hl
       split at this
       ·rename_i hs
        rw[hs,this]
        exact hnew
       ·rename_i hs
        exact hold s v' hs (hI.env s v' this)
      ·rcases hG s c' T' v' hm with hm|⟨rfl,rfl,rfl,rfl⟩
       ·obtain⟨h1,h2,h3,j,hj,hd,hb⟩:=hI.G s c' T' v' hm
        have hsd:s≠d:=by
         rintro rfl
         exact hu j i hj hik (by rw[hd,hdst,hod])
        refine⟨by rw[R3 (en:=en) fun k hk=>heq _ (h3 k hk)];exact h1,fun hT=>hold s v' hsd (h2 hT),fun k hk=>by have:=h3 k hk;omega,j,by omega,hd,by rw[heq j hj];exact hb⟩
       ·refine⟨by rw[R3 (en:=en) fun k hk=>heq _ (hcl k hk)];exact hT,fun hT'=>?_,fun k hk=>by have:=hcl k hk;omega,i,by omega,by rw[hdst,hod],by rw[he1];exact heb⟩
        rw[hnew,(het hT').2.1]
      ·by_cases hji:j=i
       ·subst hji
        rw[he1]at hb ⊢
        exact(hef (by rw[←heb];exact hb)).1
       ·rw[heq j (by omega)]at hb ⊢
        exact hI.f j (by omega) hb
      ·rw[hadd1,hobj,hI.objs];rfl
      ·rw[hE]
       simp only[ES,Ad,List.map_cons,he1,hdst,hod,Option.getD_some,Bh]
       have:=hI.E ts
       rw[←hES]at this
       simp only[ES]at this
       rw[this]
     obtain⟨en',h1,h2,h3⟩:=O2 hu hev hvc2 hI1 (by simp at hk ⊢;omega) (fun j hj=>by
      have:=hops (j+1) (by simp;omega)
      rw[show i+(j+1)=i+1+j by omega]at this
      simpa using this)
     refine⟨en',fun j hj=>by rw[h1 j (by omega),heq j hj],fun j o' h4 h5 ho'=>?_,h3⟩
     by_cases hji:j=i
     ·subst hji
      rw[hoi]at ho'
      cases ho'
      have hen':en' j=e:=by rw[h1 j (by omega),he1]
      have hadd':Aj ops en' σ0 (Ad j)=Aj ops en σ0 (Ad j):=by
       rw[←hadd]
       exact JD fun q hq=>h1 q (by have:=A7.1 hq;omega)
      have hES':ES ops en' (Ad j)=ES ops en (Ad j):=by
       rw[←hES]
       apply List.map_congr_left
       intro q hq
       rw[h1 q (by have:=A7.1 hq;omega)]
      refine⟨by rw[hadd',hen',heb];exact hgo,fun hb=>?_,fun hb=>?_⟩
      ·rw[hen',heb]at hb
       obtain⟨hv1,hv2,hv3,hv4⟩:=het hb
       obtain⟨vc',h6,h7⟩:=A25 hI hu (Nat.le_of_lt hik) (by rw[←hT];exact hb) hop hv1
       rw[hen',hadd',hES',hv2,hv3]
       exact⟨vc',h6,h7,by
        simp only[BT]at hv4 ⊢
        rw[←hI.objs];exact hv4⟩
      ·rw[hen',heb]at hb
       rw[hen'];exact hef hb
     ·exact h2 j o' (by omega) h5 ho'
    cases c with
    | nil =>
     cases hod:o.dst with
     | none=>rw[hod]at h;simp[evMQ]at h
     | some d =>
      rw[hod]at h
      simp only[evMQ]at h
      split at h
      ·rename_i hfr
       cases hrec:KL tb ops q σ0.objs rest r (i+1) (IU d obs E) G (σ.add v obs (some d)) with
       | none=>rw[hrec]at h;simp[T7]at h
       | some r2 =>
        obtain⟨vc2,σ2⟩:=r2
        rw[hrec]at h
        simp only[T7]at h
        cases h
        have hTt:T=true:=by rw[hT];rfl
        refine main d ⟨T,v,obs⟩ _ _ _ vc2 hod rfl (fun _=>⟨hvc.1,rfl,rfl,hfr⟩) (fun hf=>by rw[hTt]at hf;cases hf) (fun s v' hl=>?_) rfl (fun s c' T' v' hm=>.inl hm) (fun ts=>?_) hrec hvc.2
        ·simp only[St.add,lk]at hl
         split at hl
         ·rename_i hs;cases hl;simp[hs]
         ·rename_i hs;rw[if_neg hs];exact hl
        ·cases obs with
         | nil=>simp[IU,Bh]
         | cons x y=>rfl
      ·cases h
    | cons g c' =>
     cases obs with
     | cons x y=>simp[evMQ]at h
     | nil =>
      cases hod:o.dst with
      | none=>rw[hod]at h;simp[evMQ]at h
      | some d =>
       rw[hod]at h
       simp only[evMQ]at h
       split at h
       ·rename_i hno
        cases hrec:KL tb ops q σ0.objs rest r (i+1) E ((d,g :: c',T,v) :: G) σ with
        | none=>rw[hrec]at h;simp[T7]at h
        | some r2 =>
         obtain⟨vc2,σ2⟩:=r2
         rw[hrec]at h
         simp only[T7]at h
         cases h
         refine main d ⟨T,bif T then v else .raw undef,[]⟩ _ _ _ vc2 hod rfl (fun ht=>⟨hvc.1 ht,by simp[ht],rfl,by simp[BT]⟩) (fun hf=>⟨by simp[hf],rfl⟩) (fun s v' hl=>?_) rfl (fun s c2 T' v' hm=>?_) (fun ts=>?_) hrec hvc.2
         ·have:s≠d:=by
           rintro rfl
           rw[hl]at hno
           cases hno
          rw[if_neg this]
          exact hl
         ·rcases List.mem_cons.1 hm with hm|hm
          ·cases hm;exact .inr ⟨rfl,rfl,rfl,rfl⟩
          ·exact .inl hm
         ·simp[Bh]
       ·cases h
end
/-! ### The order of the text against any order -/
section
variable {c:Cx} {ops:Array Oper} {k:Nat} {anc:List (List Nat)} {σ0 σ':St} {en:Nat→En} {Q:Exit→Act→World→Prop}
theorem r9 {o:Oper} {e:Edge} (he:e∈o.after) (hb:Region.binds .any e=true):e.on∈Da o:=by
 simp only[Da,List.mem_map,List.mem_filter]
 exact⟨e,⟨by simpa using he,hb⟩,rfl⟩
theorem C0 {listed:Array Bool} {i:Nat}:i∈Region.ready .any ops listed↔listed.getD i true=false∧∃o,ops[i]?=some o∧∀e∈Da o,listed.getD e false=true:=by
 rw[mem_ready]
 constructor
 ·rintro⟨h1,o,ho,h2⟩
  refine⟨h1,o,ho,fun e he=>?_⟩
  simp only[Da,List.mem_map,List.mem_filter]at he
  obtain⟨x,⟨hx,hb⟩,rfl⟩:=he
  exact h2 x (by simpa using hx) hb
 ·rintro⟨h1,o,ho,h2⟩
  exact⟨h1,o,ho,fun e he hb=>h2 _ (r9 he hb)⟩
structure Ue (ops:Array Oper) (k:Nat) (anc:List (List Nat)):Prop where
 lt:∀i o,ops[i]?=some o→∀e∈Da o,e<i
 cl:∀i o,ops[i]?=some o→∀j∈anc.getD i [],j∈Da o∨∃e∈Da o,j∈anc.getD e []
 front:∀i o,ops[i]?=some o→i<k→(∃d,o.dst=some d)∧(∀t∈LS ops.toList o,∀j,j<k→Af ops.toList j=some t→j∈anc.getD i [])∧∀j,j<i→Af ops.toList j≠o.dst
 back:∀i o,ops[i]?=some o→k≤i→∀j,j<i→j∈anc.getD i []
 k:k≤ops.size
theorem A2T (h:aM ops.toList k anc=true):Ue ops k anc:=by
 simp only[aM,Bool.and_eq_true,List.all_eq_true,List.mem_range,decide_eq_true_eq]at h
 obtain⟨hk,h⟩:=h
 have hi:∀i o,ops[i]?=some o→opB ops.toList k anc i o=true:=by
  intro i o ho
  have hlt:i<ops.toList.length:=by
   have:=(Array.getElem?_eq_some_iff.1 ho).1
   simpa using this
  have:=h i hlt
  have ho':ops.toList[i]?=some o:=by simpa using ho
  rw[ho']at this
  exact this
 refine⟨fun i o ho e he=>?_,fun i o ho j hj=>?_,fun i o ho hik=>?_,fun i o ho hik j hj=>?_,by simpa using hk⟩
 ·have:=hi i o ho
  simp only[opB,Bool.and_eq_true,List.all_eq_true,decide_eq_true_eq]at this
  exact this.1.1 e he
 ·have:=hi i o ho
  simp only[opB,Bool.and_eq_true,List.all_eq_true,Bool.or_eq_true,List.any_eq_true,Ae]at this
  exact this.1.2 j hj
 ·have:=hi i o ho
  simp only[opB,hik,if_true,Bool.and_eq_true,List.all_eq_true,List.mem_range,Bool.or_eq_true,Ae,bne_iff_ne]at this
  obtain⟨_,⟨h1,h2⟩,h3⟩:=this
  refine⟨Option.isSome_iff_exists.1 h1,fun t ht j hj hd=>?_,h3⟩
  rcases h2 t ht j hj with h4|h4
  ·exact absurd hd h4
  ·exact h4
 ·have:=hi i o ho
  simp only[opB,show ¬i<k by omega,if_false,Bool.and_eq_true,List.all_eq_true,List.mem_range,Ae]at this
  exact this.2 j hj
theorem R4 (hc:Ue ops k anc) {listed:Array Bool} (hcl:∀i o,ops[i]?=some o→listed.getD i true=true→∀e∈Da o,listed.getD e false=true) :
  ∀i o,ops[i]?=some o→(∀e∈Da o,listed.getD e false=true)→∀j∈anc.getD i [],listed.getD j false=true:=by
 intro i
 induction i using Nat.strongRecOn with
 | _ i ih =>
  intro o ho hd j hj
  rcases hc.cl i o ho j hj with h1|⟨e,he,hje⟩
  ·exact hd j h1
  ·have hlt:=hc.lt i o ho e he
   have hsz:i<ops.size:=(Array.getElem?_eq_some_iff.1 ho).1
   have hoe:ops[e]?=some (ops[e]'(by omega)):=Array.getElem?_eq_getElem (by omega)
   have hle:=hd e he
   have hle':listed.getD e true=true:=by
    by_cases hh:e<listed.size
    ·simp[Array.getD,hh]at hle ⊢;exact hle
    ·simp[Array.getD,hh]at hle
   exact ih e hlt _ hoe (hcl e _ hoe hle') j hje
theorem Uf {l:List Oper} {p:Nat} {o:Oper} {r:List Oper} (h:l.drop p=o :: r):l[p]?=some o∧r=l.drop (p+1):=by
 constructor
 ·have:(l.drop p)[0]?=some o:=by rw[h];rfl
  simpa[List.getElem?_drop] using this
 ·rw[←List.drop_drop,h];rfl
theorem Nm {F:Fence} {P:Program} (hc:Ue ops k anc):∀ {rest:List Oper} {p:Nat} {listed:Array Bool} {a:Act} {w:World},ops.toList.drop p=rest→k≤p→p≤ops.size→listed.size=ops.size →
  (∀i,i<ops.size→(listed.getD i true=true↔i<p))→wpListIn F 0 P ops Q rest a w→wpAnyIn F 0 P .any ops Q rest.length listed a w
 | [],p,listed,a,w,hd,hkp,hps,hls,hl,hQ=>by
  have hp:p=ops.size:=by
   have:=congrArg List.length hd
   simp at this
   omega
  refine⟨?_,hQ⟩
  apply List.eq_nil_iff_forall_not_mem.2
  intro i hi
  rw[C0]at hi
  obtain⟨h1,o,ho,_⟩:=hi
  have hsz:i<ops.size:=(Array.getElem?_eq_some_iff.1 ho).1
  have:=(hl i hsz).2 (by omega)
  rw[h1]at this
  cases this
 | o :: r,p,listed,a,w,hd,hkp,hps,hls,hl,hQ=>by
  obtain⟨hop,hr⟩:=Uf hd
  have hop:ops[p]?=some o:=by simpa using hop
  have hpsz:p<ops.size:=(Array.getElem?_eq_some_iff.1 hop).1
  have gd:∀e b,e<ops.size→listed.getD e b=listed.getD e true:=fun e b he=>by
   have:e<listed.size:=by omega
   simp[Array.getD,this]
  have hcl:∀i o,ops[i]?=some o→listed.getD i true=true→∀e∈Da o,listed.getD e false=true:=by
   intro i o ho h1 e he
   have hsz:i<ops.size:=(Array.getElem?_eq_some_iff.1 ho).1
   have h2:=(hl i hsz).1 h1
   have h3:=hc.lt i o ho e he
   rw[gd e false (by omega)]
   exact(hl e (by omega)).2 (by omega)
  have hready:∀i,i∈Region.ready .any ops listed→i=p:=by
   intro i hi
   rw[C0]at hi
   obtain⟨h1,o',ho',h2⟩:=hi
   have hsz:i<ops.size:=(Array.getElem?_eq_some_iff.1 ho').1
   have hge:¬i<p:=fun hlt=>by rw[(hl i hsz).2 hlt]at h1;cases h1
   by_cases hip:i=p
   ·exact hip
   ·have h3:=R4 hc hcl i o' ho' h2 p (hc.back i o' ho' (by omega) p (by omega))
    rw[gd p false hpsz]at h3
    have:=(hl p hpsz).1 h3
    omega
  refine⟨fun hnil=>?_,fun i hi=>?_⟩
  ·exfalso
   have:p∈Region.ready .any ops listed:=by
    rw[C0]
    refine⟨?_,o,hop,fun e he=>?_⟩
    ·cases hh:listed.getD p true with
     | false=>rfl
     | true=>have:=(hl p hpsz).1 hh;omega
    ·have:=hc.lt p o hop e he
     rw[gd e false (by omega)]
     exact(hl e (by omega)).2 this
   rw[hnil]at this
   cases this
  ·have hip:=hready i hi
   subst hip
   have hnext:∀(j:Nat),j<ops.size→((listed.setIfInBounds i true).getD j true=true↔j<i+1):=by
    intro j hj
    have hjl:j<listed.size:=by omega
    by_cases hji:j=i
    ·subst hji
     simp[Array.getD,hjl]
    ·have h1:(listed.setIfInBounds i true).getD j true=listed.getD j true:=getD_set_ne true (fun e=>hji e.symm)
     rw[h1,hl j hj]
     omega
   unfold wpOpIn
   rw[hop]
   simp only
   unfold wpListIn at hQ
   split
   ·rename_i hw
    rw[if_pos hw]at hQ
    exact Oper.wpIn_mono (fun a' w' h'=>Nm hc hr.symm (by omega) (by omega) (by simpa using hls) hnext h') hQ
   ·rename_i hw
    rw[if_neg hw]at hQ
    exact⟨hQ.1,Nm hc hr.symm (by omega) (by omega) (by simpa using hls) hnext hQ.2⟩
end
end
/- Any order: the rule. -/
section
open Go Go.RowKit
theorem EC:∀(k:Nat) (l:List Nat),l.Nodup→(∀j∈l,j<k)→l.length≤k
 | 0,l,_,h=>by
  cases l with
  | nil=>simp
  | cons x r=>have:=h x (by simp);omega
 | k+1,l,hn,h=>by
  by_cases hk:k∈l
  ·have:=EC k (l.erase k) (hn.erase k) (fun j hj=>by
    have h1:=(hn.mem_erase_iff).1 hj
    have:=h j h1.2
    have:=h1.1
    omega)
   rw[List.length_erase_of_mem hk]at this
   omega
  ·have:=EC k l hn (fun j hj=>by
    have:=h j hj
    have:j≠k:=fun e=>hk (e▸hj)
    omega)
   omega
theorem eE:∀(k:Nat) (l:List Nat),(∀j,j<k→j∈l)→k≤l.length
 | 0,l,_=>by simp
 | k+1,l,h=>by
  have hk:=h k (by omega)
  have:=eE k (l.erase k) (fun j hj=>(List.mem_erase_of_ne (by omega)).2 (h j (by omega)))
  rw[List.length_erase_of_mem hk]at this
  have:=List.length_pos_of_mem hk
  omega
theorem R5 {c:Cx} {σ σ':St} {a:Act} {w:World} (he:∀s,lk s σ'.env=lk s σ.env) (ho:∀n,lk n σ'.objs=lk n σ.objs) (h:c.sat σ a w):c.sat σ' a w:=by
 obtain⟨ρ,h⟩:=h
 have hliv:GP σ'=GP σ:=by
  funext n
  simp only[GP,ho]
 have hvw:∀w,vw w c.O0 σ' ρ=vw w c.O0 σ ρ:=by
  intro w
  have hown:own c.O0 σ' ρ=own c.O0 σ ρ:=by
   funext b
   simp only[own,hliv]
  simp only[vw,hliv,hown]
 refine⟨ρ,h.frm,h.nt,h.defers,fun p hp=>by rw[hliv];exact h.pin p hp,?_,?_,?_,?_⟩
 ·intro n o hn;rw[hvw];exact h.objs n o (by rw[←ho];exact hn)
 ·intro n b hl hb;exact h.free n b (by rw[←hliv];exact hl) hb
 ·intro n m b h1 h2;rw[hliv]at h1 h2;exact h.dist n m b h1 h2
 ·intro s v hs;rw[hvw];exact h.env s v (by rw[←he];exact hs)
theorem X5 {c:Cx} {σ:St} {a:Act} {w:World} (h:c.sat σ a w):c.sat σ a { w with drawn:=w.drawn+1 }:=by
 obtain⟨ρ,h⟩:=h
 have hk:CX (vw w c.O0 σ ρ) (vw { w with drawn:=w.drawn+1 } c.O0 σ ρ):=⟨fun _ _ h=>h,fun _ h=>h,fun _ _=>rfl,fun _ _ _=>rfl⟩
 exact⟨ρ,⟨h.frm.os,h.frm.tape,h.frm.output,h.frm.size,h.frm.block⟩,h.nt,h.defers,h.pin,fun n o ho=>(h.objs n o ho).keeps hk fun _ _=>rfl,h.free,h.dist,fun s v hs=>(h.env s v hs).keeps hk⟩
theorem RE {c:Cx} {σ σ':St} {a:Act} {w:World} (he:∀s v,lk s σ'.env=some v→lk s σ.env=some v) (ho:∀n,lk n σ'.objs=lk n σ.objs) (h:c.sat σ a w):c.sat σ' a w:=by
 have h2:c.sat ⟨σ.env,σ'.objs⟩ a w:=R5 (σ:=σ) (fun _=>rfl) ho h
 obtain⟨ρ,h⟩:=h2
 exact⟨ρ,h.frm,h.nt,h.defers,h.pin,h.objs,h.free,h.dist,fun s v hs=>h.env s v (he s v hs)⟩
theorem KM {c:Cx} {ops:Array Oper} {σ:St} {a:Act} {w:World} (hs:c.sat σ a w) {o:Oper} {b:Bool} (h:JB ops.toList σ b o.guard):Region.wanted o (yielded ops a.tmps)=b:=by
 cases hg:o.guard with
 | none =>
  rw[hg]at h
  simp only[JB]at h
  simp[Region.wanted,hg,h]
 | some g =>
  obtain⟨j,want⟩:=g
  rw[hg]at h
  simp only[JB]at h
  obtain⟨s,hd,h⟩:=h
  rcases h with ⟨x,hl,rfl⟩|⟨hl,rfl⟩
  ·refine GZ hs ?_
   rw[hg]
   simp only[D8]
   simp only[Af]at hd
   rw[hd]
   simp only[I2,hl,Om]
  ·obtain⟨ρ,hs⟩:=hs
   have hv:a.tmps.getD s undef=undef:=hs.env s _ hl
   have hj':(ops[j]?).bind (·.dst)=some s:=by simpa[Af] using hd
   have hy:yielded ops a.tmps j=none:=by
    simp only[yielded,hj',Option.bind_some]
    by_cases hlt:s<a.tmps.size
    ·have:a.tmps.getD s undef=a.tmps[s]:=by simp[Array.getD,hlt]
     rw[this]at hv
     rw[Array.getElem?_eq_getElem hlt,hv]
     rfl
    ·rw[Array.getElem?_eq_none (by omega)]
   simp[Region.wanted,hg,hy]
section
variable {c:Cx} {ops:Array Oper} {k:Nat} {q:Bool} {anc:List (List Nat)} {σ0 σ':St} {en:Nat→En} {Q:Exit→Act→World→Prop}
theorem A26 (hF:∀j o,j<k→ops[j]?=some o→R2 c.tb ops.toList q σ0 en j o) (hk:k≤ops.size):Sep σ0 en k:=by
 have one:∀j,j<k→∀n o,lk n (en j).obs=some o→lk n (Aj ops.toList en σ0 (Ad j)).objs=none:=by
  intro j hj n o hn
  have hoj:ops[j]?=some (ops[j]'(by omega)):=Array.getElem?_eq_getElem (by omega)
  have h1:=hF j _ hj hoj
  cases hb:(en j).b with
  | true =>
   obtain⟨_,_,_,hf⟩:=h1.t hb
   exact MP hf hn
  | false =>
   rw[(h1.f hb).2]at hn
   simp[lk]at hn
 have low:∀i j,i<j→j<k→∀n o o',lk n (en i).obs=some o→lk n (en j).obs=some o'→False:=by
  intro i j hij hj n o o' h1 h2
  have:=one j hj n o' h2
  rw[Ew,Ar]at this
  cases hl:lk n ((Ad j).flatMap fun j=>(en j).obs) with
  | some x=>rw[hl]at this;simp at this
  | none =>
   have:=JE hl i (A7.2 hij)
   rw[this]at h1
   cases h1
 refine⟨fun j hj n o hn=>?_,fun i j hi hj n o o' h1 h2=>?_⟩
 ·have:=one j hj n o hn
  rw[Ew,Ar]at this
  cases hl:lk n ((Ad j).flatMap fun j=>(en j).obs) with
  | some x=>rw[hl]at this;simp at this
  | none=>rw[hl]at this;simpa using this
 ·rcases Nat.lt_trichotomy i j with h|h|h
  ·exact(low i j h hj n o o' h1 h2).elim
  ·exact h
  ·exact(low j i h hi n o' o h2 h1).elim
theorem X6 (hc:Ue ops k anc) {l:List Nat} (hl:∀j∈l,j<k) {s j:Nat} (hj:j∈l) (hd:Af ops.toList j=some s):l.find? (fun j=>Af ops.toList j==some s)=some j:=by
 have hu:∀i,i∈l→Af ops.toList i=some s→i=j:=by
  intro i hi hdi
  have h1:=hl i hi
  have h2:=hl j hj
  have hks:=hc.k
  have get:∀x,x<k→Af ops.toList x=(ops[x]?).bind (·.dst):=fun x _=>by simp[Af]
  rcases Nat.lt_trichotomy i j with h|h|h
  ·have ho:ops[j]?=some (ops[j]'(by omega)):=Array.getElem?_eq_getElem (by omega)
   have:=(hc.front j _ ho h2).2.2 i h
   rw[get j h2,ho]at hd
   rw[hdi]at this
   exact absurd hd.symm this
  ·exact h
  ·have ho:ops[i]?=some (ops[i]'(by omega)):=Array.getElem?_eq_getElem (by omega)
   have:=(hc.front i _ ho h1).2.2 j h
   rw[get i h1,ho]at hdi
   rw[hd]at this
   exact absurd hdi.symm this
 cases hf:l.find? (fun j=>Af ops.toList j==some s) with
 | none =>
  have:=List.find?_eq_none.1 hf j hj
  simp[hd]at this
 | some i =>
  have h1:=List.mem_of_find?_eq_some hf
  have h2:=List.find?_some hf
  rw[hu i h1 (by simpa using h2)]
theorem R6 (hc:Ue ops k anc) {l l':List Nat} (hl:∀j∈l,j<k) (hl':∀j∈l',j<k) {s:Nat} (h:∀j,j<k→Af ops.toList j=some s→j∈l∧j∈l') :
  lk s (Aj ops.toList en σ0 l).env=lk s (Aj ops.toList en σ0 l').env:=by
 rw[Ex,Ex]
 by_cases hx:∃j,j<k∧Af ops.toList j=some s
 ·obtain⟨j,hj,hd⟩:=hx
  have:=h j hj hd
  rw[X6 hc hl this.1 hd,X6 hc hl' this.2 hd]
 ·have none:∀l:List Nat,(∀j∈l,j<k)→l.find? (fun j=>Af ops.toList j==some s)=none:=by
   intro l hl
   apply List.find?_eq_none.2
   intro j hj hd
   exact hx ⟨j,hl j hj,by simpa using hd⟩
  rw[none l hl,none l' hl']
theorem n8 (hok:c.Ok) (hc:Ue ops k anc) (hdst:∀o∈ops.toList,GQ c.nt o=true) (hF:∀j o,j<k→ops[j]?=some o→R2 c.tb ops.toList false σ0 en j o)
  {σ2:St} (h2e:∀s v,lk s σ2.env=some v→lk s (Aj ops.toList en σ0 (Ad k)).env=some v) (h2o:σ2.objs=(Aj ops.toList en σ0 (Ad k)).objs) (hT:∀a' w',c.sat σ2 a' w'→wpListIn (FR c.r) 0 c.P ops Q (ops.toList.drop k) a' w') :
  ∀(m:Nat) (ex:List Nat) (listed:Array Bool) (a:Act) (w:World),ex.Nodup→(∀j∈ex,j<k)→m+ex.length=ops.size→listed.size=ops.size→(∀i,i<ops.size→(listed.getD i true=true↔i∈ex)) →
   (∀i o,ops[i]?=some o→i∈ex→∀e∈Da o,e∈ex)→c.sat (Aj ops.toList en σ0 ex) a w→wpAnyIn (FR c.r) 0 c.P .any ops Q m listed a w:=by
 have hks:=hc.k
 have hsep:=A26 hF hks
 intro m
 induction m with
 | zero =>
  intro ex listed a w hnd hex hm hls hl hcl hs
  have h1:=EC k ex hnd hex
  have hkk:k=ops.size:=by omega
  by_cases hall:∀j,j<k→j∈ex
  ·have hdk:ops.toList.drop k=[]:=by simp[hkk]
   have hs':c.sat σ2 a w:=RE h2e (fun _=>by rw[h2o]) <| R5
    (fun s=>(R6 hc hex (fun j hj=>A7.1 hj) fun j hj _=>⟨hall j hj,A7.2 hj⟩).symm)
    (fun n=>Option.ext fun o=>by
     rw[EB hsep (fun j hj=>A7.1 hj),EB hsep hex]
     simp only[A7]
     constructor
     ·rintro (⟨j,hj,h⟩|⟨h1,h2⟩)
      ·exact .inl ⟨j,hall j hj,h⟩
      ·exact .inr ⟨fun j hj=>h1 j (hex j hj),h2⟩
     ·rintro (⟨j,hj,h⟩|⟨h1,h2⟩)
      ·exact .inl ⟨j,hex j hj,h⟩
      ·exact .inr ⟨fun j hj=>h1 j (hall j hj),h2⟩) hs
   have:=Nm (Q:=Q) (F:=FR c.r) (P:=c.P) hc (rest:=[]) (p:=k) (listed:=listed) (a:=a) (w:=w) hdk (Nat.le_refl _) hks hls (fun i hi=>by
    rw[hl i hi]
    exact⟨hex i,hall i⟩) (by rw[←hdk];exact hT a w hs')
   exact this
  ·exfalso
   apply hall
   intro j hj
   apply Classical.byContradiction
   intro hne
   have:=EC k (j :: ex) (List.nodup_cons.2 ⟨hne,hnd⟩) (fun i hi=>by
    rcases List.mem_cons.1 hi with rfl|hi
    ·exact hj
    ·exact hex i hi)
   simp at this
   omega
 | succ m ih =>
  intro ex listed a w hnd hex hm hls hl hcl hs
  have gd:∀e b,e<ops.size→listed.getD e b=listed.getD e true:=fun e b he=>by
   have:e<listed.size:=by omega
   simp[Array.getD,this]
  by_cases hall:∀j,j<k→j∈ex
  ·have hlen:ex.length=k:=Nat.le_antisymm (EC k ex hnd hex) (eE k ex hall)
   have hs':c.sat σ2 a w:=RE h2e (fun _=>by rw[h2o]) <| R5
    (fun s=>(R6 hc hex (fun j hj=>A7.1 hj) fun j hj _=>⟨hall j hj,A7.2 hj⟩).symm)
    (fun n=>Option.ext fun o=>by
     rw[EB hsep (fun j hj=>A7.1 hj),EB hsep hex]
     simp only[A7]
     constructor
     ·rintro (⟨j,hj,h⟩|⟨h1,h2⟩)
      ·exact .inl ⟨j,hall j hj,h⟩
      ·exact .inr ⟨fun j hj=>h1 j (hex j hj),h2⟩
     ·rintro (⟨j,hj,h⟩|⟨h1,h2⟩)
      ·exact .inl ⟨j,hex j hj,h⟩
      ·exact .inr ⟨fun j hj=>h1 j (hall j hj),h2⟩) hs
   have:=Nm (Q:=Q) (F:=FR c.r) (P:=c.P) hc (rest:=ops.toList.drop k) (p:=k) (listed:=listed) (a:=a) (w:=w) rfl (Nat.le_refl _) hks hls (fun i hi=>by
    rw[hl i hi]
    exact⟨hex i,hall i⟩) (hT a w hs')
   rw[show (ops.toList.drop k).length=m+1 by simp;omega]at this
   exact this
  ·refine⟨fun hnil=>?_,fun i hi=>?_⟩
   ·exfalso
    apply hall
    intro j
    induction j using Nat.strongRecOn with
    | _ j ihj =>
     intro hj
     apply Classical.byContradiction
     intro hne
     have hoj:ops[j]?=some (ops[j]'(by omega)):=Array.getElem?_eq_getElem (by omega)
     have:j∈Region.ready .any ops listed:=by
      rw[C0]
      refine⟨?_,_,hoj,fun e he=>?_⟩
      ·cases hh:listed.getD j true with
       | false=>rfl
       | true=>exact absurd ((hl j (by omega)).1 hh) hne
      ·have h3:=hc.lt j _ hoj e he
       rw[gd e false (by omega)]
       exact(hl e (by omega)).2 (ihj e h3 (by omega))
     rw[hnil]at this
     cases this
   ·rw[C0]at hi
    obtain⟨h1,o,ho,h2⟩:=hi
    have hsz:i<ops.size:=(Array.getElem?_eq_some_iff.1 ho).1
    have hnex:i∉ex:=fun h=>by rw[(hl i hsz).2 h]at h1;cases h1
    have hdir:∀e∈Da o,e∈ex:=fun e he=>by
     have h3:=hc.lt i o ho e he
     have h4:=h2 e he
     rw[gd e false (by omega)]at h4
     exact(hl e (by omega)).1 h4
    have hanc:∀j∈anc.getD i [],j∈ex:=by
     have hcl':∀i o,ops[i]?=some o→listed.getD i true=true→∀e∈Da o,listed.getD e false=true:=by
      intro i o ho h1 e he
      have hsz:i<ops.size:=(Array.getElem?_eq_some_iff.1 ho).1
      have h3:=hc.lt i o ho e he
      rw[gd e false (by omega)]
      exact(hl e (by omega)).2 (hcl i o ho ((hl i hsz).1 h1) e he)
     intro j hj
     have h3:=R4 hc hcl' i o ho h2 j hj
     by_cases hjs:j<ops.size
     ·rw[gd j false hjs]at h3
      exact(hl j hjs).1 h3
     ·have:¬j<listed.size:=by omega
      simp[Array.getD,this]at h3
    have hik:i<k:=by
     apply Classical.byContradiction
     intro hge
     exact hall fun j hj=>hanc j (hc.back i o ho (by omega) j (by omega))
    have hfr:=hc.front i o ho hik
    obtain⟨d,hd⟩:=hfr.1
    have hdd:Af ops.toList i=o.dst:=by simp[Af,ho]
    have hslot:∀t∈LS ops.toList o,lk t (Aj ops.toList en σ0 ex).env=lk t (Aj ops.toList en σ0 (Ad i)).env:=by
     intro t ht
     refine R6 hc hex (fun j hj=>by have:=A7.1 hj;omega) fun j hj hdj=>?_
     have hja:=hfr.2.1 t ht j hj hdj
     refine⟨hanc j hja,A7.2 ?_⟩
     have:∀i o,ops[i]?=some o→∀j∈anc.getD i [],j<i:=by
      intro i
      induction i using Nat.strongRecOn with
      | _ i ihi =>
       intro o ho j hj
       rcases hc.cl i o ho j hj with h5|⟨e,he,hje⟩
       ·exact hc.lt i o ho j h5
       ·have h6:=hc.lt i o ho e he
        have hsz:i<ops.size:=(Array.getElem?_eq_some_iff.1 ho).1
        have:=ihi e h6 _ (Array.getElem?_eq_getElem (by omega)) j hje
        omega
     exact this i o ho j hja
    have hops:Ops ⟨(Aj ops.toList en σ0 (Ad i)).env,Bh false (F2 o.op) σ0.objs (ES ops.toList en (Ad i))⟩ (Aj ops.toList en σ0 ex) o.op.operands.toList:=by
     intro x hx v hv
     cases x with
     | tmp t =>
      simp only[Ap]at hv ⊢
      rw[hslot t (by
       simp only[LS,List.mem_append,List.mem_filterMap]
       exact .inl ⟨_,hx,rfl⟩)]
      exact hv
     | const v'=>exact hv
     | global g=>exact hv
     | func f=>exact hv
    have hobs:XY ⟨(Aj ops.toList en σ0 (Ad i)).env,Bh false (F2 o.op) σ0.objs (ES ops.toList en (Ad i))⟩ (Aj ops.toList en σ0 ex):=by
     intro n o' hn
     refine r8 hsep (fun j hj=>by have:=A7.1 hj;omega) hex (fun j hj hjA=>?_) hn
     have hji:=A7.1 hj
     have hoj:ops[j]?=some (ops[j]'(by omega)):=Array.getElem?_eq_getElem (by omega)
     obtain⟨dj,hdj⟩:=(hc.front j _ hoj (by omega)).1
     have hdj':Af ops.toList j=some dj:=by simp[Af,hoj,hdj]
     rw[hdj']at hjA
     simp only[Bool.false_or,Option.getD_some,Ae]at hjA
     refine hanc j (hfr.2.1 dj ?_ j (by omega) hdj')
     simp only[LS,List.mem_append]
     exact .inl hjA
    have hfi:=hF i o hik ho
    have hg:JB ops.toList (Aj ops.toList en σ0 ex) (en i).b o.guard:=by
     have hg:=hfi.g
     cases hgd:o.guard with
     | none=>rw[hgd]at hg;exact hg
     | some g =>
      obtain⟨j,want⟩:=g
      rw[hgd]at hg
      simp only[JB]at hg ⊢
      obtain⟨s,hds,hg⟩:=hg
      refine⟨s,hds,?_⟩
      rw[hslot s (by
       simp only[LS,hgd,List.mem_append,hds]
       exact .inr (by simp))]
      exact hg
    have hw:=KM hs hg
    have hmem:o∈ops.toList:=by
     have:o∈ops:=Array.mem_of_getElem? ho
     simpa using this
    have hdo:=Ct (hdst o hmem)
    have hstep:∀a' w',c.sat ((Aj ops.toList en σ0 ex).add (en i).v (en i).obs o.dst) a' w'→wpAnyIn (FR c.r) 0 c.P .any ops Q m (listed.setIfInBounds i true) a' w':=by
     intro a' w' hs'
     refine ih (i :: ex) _ a' w' (List.nodup_cons.2 ⟨hnex,hnd⟩) (fun j hj=>?_) (by simp;omega) (by simpa using hls) (fun j hj=>?_) (fun i' o' ho' hi' e he=>?_) (by simp only[Aj,hdd];exact hs')
     ·rcases List.mem_cons.1 hj with rfl|hj
      ·exact hik
      ·exact hex j hj
     ·have hjl:j<listed.size:=by omega
      by_cases hji:j=i
      ·subst hji
       simp[Array.getD,hjl]
      ·have h3:(listed.setIfInBounds i true).getD j true=listed.getD j true:=getD_set_ne true (fun e=>hji e.symm)
       rw[h3,hl j hj]
       simp[hji]
     ·rcases List.mem_cons.1 hi' with rfl|hi'
      ·rw[ho]at ho';cases ho'
       exact List.mem_cons_of_mem _ (hdir e he)
      ·exact List.mem_cons_of_mem _ (hcl i' o' ho' hi' e he)
    unfold wpOpIn
    rw[ho]
    simp only
    cases hbb:(en i).b with
    | true =>
     rw[hbb]at hw
     rw[if_pos hw]
     obtain⟨vc1,hq,hvc1,hfresh⟩:=hfi.t hbb
     obtain⟨ρ,hsρ⟩:=hs
     have hq':=RD hobs hops hq
     have hfresh':BT (en i).obs (Aj ops.toList en σ0 ex)=true:=by
      simp only[BT,List.all_eq_true]at hfresh ⊢
      intro p hp
      have hsome:∃o',lk p.1 (en i).obs=some o':=by
       have:∀(l:List (Nat×Obj)),p∈l→∃o',lk p.1 l=some o':=by
        intro l
        induction l with
        | nil=>intro h;cases h
        | cons q r ihr =>
         intro h
         obtain⟨q1,q2⟩:=q
         simp only[lk]
         by_cases he:p.1=q1
         ·exact⟨q2,by rw[if_pos he]⟩
         ·rw[if_neg he]
          rcases List.mem_cons.1 h with rfl|h
          ·exact absurd rfl he
          ·exact ihr h
       exact this _ hp
      obtain⟨o',ho'⟩:=hsome
      have:lk p.1 (Aj ops.toList en σ0 ex).objs=none:=by
       cases hl3:lk p.1 (Aj ops.toList en σ0 ex).objs with
       | none=>rfl
       | some o2 =>
        rw[EB hsep hex]at hl3
        rcases hl3 with ⟨j,hj,hj2⟩|⟨_,hj2⟩
        ·have:=hsep.2 i j hik (hex j hj) p.1 o' o2 ho' hj2
         subst this
         exact absurd hj hnex
        ·rw[hsep.1 i hik p.1 o' ho']at hj2;cases hj2
      simp[this]
     exact dX (x9 hok hsρ) hq' hvc1 hfresh' fun u ρ' w' hqs=>hstep _ _ ⟨ρ',hsρ.add hok.K hok.O hdo hfresh' hqs⟩
    | false =>
     rw[hbb]at hw
     rw[if_neg (by simp[hw])]
     refine⟨fun _ _=>trivial,?_⟩
     have:=hfi.f hbb
     have h5:=LI hok hs hdo
     refine hstep _ _ ?_
     rw[this.1,this.2]
     exact h5
end
/-! ### The order of the text -/
theorem n9 {c:Cx} {ops:Array Oper} {k:Nat} {σ0:St} {en:Nat→En} {Q:Exit→Act→World→Prop} (hok:c.Ok) (hdst:∀o∈ops.toList,GQ c.nt o=true) (hF:∀j o,j<k→ops[j]?=some o→R2 c.tb ops.toList true σ0 en j o) (hk:k≤ops.size)
  {σ2:St} (h2e:∀s v,lk s σ2.env=some v→lk s (Aj ops.toList en σ0 (Ad k)).env=some v) (h2o:σ2.objs=(Aj ops.toList en σ0 (Ad k)).objs) (hT:∀a' w',c.sat σ2 a' w'→wpListIn (FR c.r) 0 c.P ops Q (ops.toList.drop k) a' w'):∀(m i:Nat) (a:Act) (w:World),m+i=k→c.sat (Aj ops.toList en σ0 (Ad i)) a w→wpListIn (FR c.r) 0 c.P ops Q (ops.toList.drop i) a w:=by
 intro m
 induction m with
 | zero =>
  intro i a w hi hs
  have:i=k:=by omega
  subst this
  exact hT _ _ (RE h2e (fun _=>by rw[h2o]) hs)
 | succ m ih =>
  intro i a w hi hs
  have hio:ops[i]?=some (ops[i]'(by omega)):=Array.getElem?_eq_getElem (by omega)
  generalize ops[i]'(by omega)=o at hio
  have hd:ops.toList.drop i=o :: ops.toList.drop (i+1):=by
   have:i<ops.toList.length:=by simp;omega
   rw[List.drop_eq_getElem_cons this]
   congr 1
   have h2:ops.toList[i]?=some o:=by simpa using hio
   rw[List.getElem?_eq_getElem this]at h2
   injection h2
  rw[hd]
  have hfi:=hF i o (by omega) hio
  have hw:=KM hs hfi.g
  have hmem:o∈ops.toList:=by
   have:o∈ops:=Array.mem_of_getElem? hio
   simpa using this
  have hdo:=Ct (hdst o hmem)
  have hdd:Af ops.toList i=o.dst:=by simp[Af,hio]
  have hstep:∀a' w',c.sat ((Aj ops.toList en σ0 (Ad i)).add (en i).v (en i).obs o.dst) a' w'→wpListIn (FR c.r) 0 c.P ops Q (ops.toList.drop (i+1)) a' w':=by
   intro a' w' hs'
   exact ih (i+1) a' w' (by omega) (by simp only[Ad,Aj,hdd];exact hs')
  unfold wpListIn
  cases hbb:(en i).b with
  | true =>
   rw[hbb]at hw
   rw[if_pos hw]
   obtain⟨vc1,hq,hvc1,hfresh⟩:=hfi.t hbb
   obtain⟨ρ,hsρ⟩:=hs
   have hobjs:∀l:List Nat,Bh true (F2 o.op) σ0.objs (ES ops.toList en l)=(Aj ops.toList en σ0 l).objs:=by
    intro l
    rw[Ew]
    induction l with
    | nil=>rfl
    | cons x r ihr=>simp only[ES,List.map_cons,Bh,Bool.true_or,if_true,List.flatMap_cons,List.append_assoc]at ihr ⊢;rw[ihr]
   have hq':aq c.tb (Aj ops.toList en σ0 (Ad i)) (o.dst.getD 0) o.op=some (vc1,(en i).v,(en i).obs):=by
    rw[hobjs]at hq;exact hq
   exact dX (x9 hok hsρ) hq' hvc1 hfresh fun u ρ' w' hqs=>hstep _ _ ⟨ρ',hsρ.add hok.K hok.O hdo hfresh hqs⟩
  | false =>
   rw[hbb]at hw
   rw[if_neg (by simp[hw])]
   refine⟨fun _ _=>trivial,?_⟩
   have:=hfi.f hbb
   have h5:=LI hok hs hdo
   refine hstep _ _ ?_
   rw[this.1,this.2]
   exact h5
theorem LT {tb:Tb} {ops:List Oper} {q:Bool} {base:List (Nat×Obj)} {rest:List Oper}:∀ {fr:List Oper} {i:Nat} {E:List (Nat×List (Nat×Obj))} {G:Gs} {σ σ':St} {vc:Prop},KL tb ops q base rest fr i E G σ=some (vc,σ')→vc →
  ∃(vc1 vc2:Prop) (σ1:St),KL tb ops q base [] fr i E G σ=some (vc1,σ1)∧vc1∧Bd tb ops rest σ1=some (vc2,σ')∧vc2
 | [],i,E,G,σ,σ',vc,h,hvc=>by
  simp only[KL]at h
  exact⟨True,vc,σ,by simp only[KL,Bd],trivial,h,hvc⟩
 | o :: r,i,E,G,σ,σ',vc,h,hvc=>by
  simp only[KL]at h
  cases hg:Gu ops G σ.env i o.guard with
  | none=>rw[hg]at h;simp[evMG]at h
  | some p =>
   obtain⟨c,T⟩:=p
   rw[hg]at h
   simp only[evMG]at h
   cases hq:r7 tb ops q base c G E σ.env o (Gv o.op) with
   | none=>rw[hq]at h;cases c<;>simp[evMQ]at h
   | some x =>
    obtain⟨vc0,v,obs⟩:=x
    rw[hq]at h
    cases c with
    | nil =>
     cases hd:o.dst with
     | none=>rw[hd]at h;simp[evMQ]at h
     | some d =>
      rw[hd]at h
      simp only[evMQ]at h
      split at h
      ·rename_i hf
       cases hr:KL tb ops q base rest r (i+1) (IU d obs E) G (σ.add v obs (some d)) with
       | none=>rw[hr]at h;simp[T7]at h
       | some y =>
        obtain⟨vc',σ2⟩:=y
        rw[hr]at h
        simp only[T7]at h
        cases h
        obtain⟨vc1,vc2,σ1,h1,h2,h3,h4⟩:=LT hr hvc.2
        exact⟨vc0∧vc1,vc2,σ1,by simp only[KL,hg,evMG,hq,hd,evMQ,h1,T7];rw[if_pos hf],⟨hvc.1,h2⟩,h3,h4⟩
      ·cases h
    | cons g c =>
     cases obs with
     | cons z zs=>cases hd:o.dst<;>rw[hd]at h<;>simp[evMQ]at h
     | nil =>
      cases hd:o.dst with
      | none=>rw[hd]at h;simp[evMQ]at h
      | some d =>
       rw[hd]at h
       simp only[evMQ]at h
       split at h
       ·rename_i hf
        cases hr:KL tb ops q base rest r (i+1) E ((d,g :: c,T,v) :: G) σ with
        | none=>rw[hr]at h;simp[T7]at h
        | some y =>
         obtain⟨vc',σ2⟩:=y
         rw[hr]at h
         simp only[T7]at h
         cases h
         obtain⟨vc1,vc2,σ1,h1,h2,h3,h4⟩:=LT hr hvc.2
         exact⟨(T=true→vc0)∧vc1,vc2,σ1,by simp only[KL,hg,evMG,hq,hd,evMQ,h1,T7];rw[if_pos hf],⟨hvc.1,h2⟩,h3,h4⟩
       ·cases h
theorem A2U {ops:List Oper} {q:Bool} {σ0:St} {en:Nat→En}:Inv ops q σ0 en 0 [] [] σ0 :=
 { env:=fun _ _ h=>h,G:=fun s c T v h=>absurd h (by simp),f:=fun j hj=>absurd hj (by omega),objs:=rfl,E:=fun _=>rfl }
section
variable {c:Cx} {R:Exit→Act→World→Prop} {k:List EY} {σ σ':St}
def QM (c:Cx) (R:Exit→Act→World→Prop) (k:List EY) (ops:Array Oper) (l:List Oper) (σ:St):Prop :=
 (∀o∈l,GQ c.nt o=true)→Cv c.nt k=true→∀a w,c.sat σ a w→wpListIn (FR c.r) 0 c.P ops (d8 c R k) l a w
theorem yF {ops:Array Oper} (h:Ev c R (.out .normal) k σ):QM c R k ops [] σ:=fun _ h2 a w hs=>h rfl h2 a w hs
theorem RF (hc:c.Ok) {ops:Array Oper} {l:List Oper} (n:Nat) {vc:Prop} (h:Bd c.tb ops.toList (l.take n) σ=some (vc,σ')) (hvc:vc) (hk:QM c R k ops (l.drop n) σ'):QM c R k ops l σ:=by
 intro h1 h2 a w hs
 have:=Ow (r:=l.drop n) hc (l.take n) hs (fun o ho=>h1 o (List.mem_of_mem_take ho)) h hvc (fun a' w' hs'=>hk (fun o ho=>h1 o (List.mem_of_mem_drop ho)) h2 a' w' hs')
 rwa [List.take_append_drop]at this
theorem sA (hm:c.P.follows .mixedOrders=true) (hc:c.Ok) {id:Nat} {l:List Oper} (n:Nat) (hchk:Ni l (l.take n).length=true) {vc:Prop}
  (h:KL c.tb l false σ.objs [] (l.take n) 0 [] [] σ=some (vc,σ')) (hvc:vc) (hk:QM c R k l.toArray (l.drop n) σ') :
  Ev c R (.run (.region id l.toArray true)) k σ:=by
 intro h1 h2 a w hs
 simp only[KF,CZ,List.all_eq_true]at h1
 have hchk:=A2T (ops:=l.toArray) (k:=(l.take n).length) (anc:=rZ l) (by simpa only[Ni] using hchk)
 have hu:aO l (l.take n).length:=by
  intro x y hxy hy
  have hyl:y<l.length:=by simp at hy;omega
  have hoy:l.toArray[y]?=some l[y]:=by simp[hyl]
  have:=(hchk.front y _ hoy hy).2.2 x hxy
  simpa[Af,hyl] using this
 obtain⟨en,_,hF,vc',σ2,hb,hvc',h2e,h2o⟩:=O2 (ops:=l) (q:=false) (σ0:=σ) (en:=fun _=>⟨false,.top,[]⟩) hu h hvc A2U (by simp) (fun j hj=>by
  have hj:j<(l.take n).length:=hj
  rw[Nat.zero_add,List.getElem?_take]
  simp only[List.length_take]at hj
  rw[if_pos (by omega)])
 refine wpIn_region_any hm ?_
 have hdrop:l.drop (l.take n).length=l.drop n:=by
  by_cases h:n≤l.length
  ·simp[h]
  ·rw[List.drop_eq_nil_of_le (by simp;omega),List.drop_eq_nil_of_le (by omega)]
 simp only[Bd]at hb
 cases hb
 have:=n8 (c:=c) (ops:=l.toArray) (k:=(l.take n).length) (σ0:=σ) (en:=en) (Q:=d8 c R k) hc hchk (by simpa using h1)
  (fun j o hj ho=>hF j o (by omega) hj (by simpa using ho)) (σ2:=σ') h2e h2o (fun a' w' hs'=>by
   rw[show (l.toArray.toList.drop _)=l.drop n from hdrop]
   exact hk (fun o ho=>h1 o (by simpa using List.mem_of_mem_drop ho)) h2 a' w' hs')
  l.toArray.size [] (Array.replicate l.toArray.size false) a { w with drawn:=w.drawn+1 } (by simp) (by simp) (by simp) (by simp) (fun i hi=>by simp at hi;simp[Array.getD,hi]) (fun i o _ hi=>by simp at hi) (X5 hs)
 exact this
theorem aP (hc:c.Ok) {id:Nat} {l:List Oper} (n:Nat) (hchk:n6 l (l.take n).length=true) {vc:Prop}
  (h:KL c.tb l true σ.objs [] (l.take n) 0 [] [] σ=some (vc,σ')) (hvc:vc) (hk:QM c R k l.toArray (l.drop n) σ') :
  Ev c R (.run (.region id l.toArray false)) k σ:=by
 intro h1 h2 a w hs
 simp only[KF,CZ,List.all_eq_true]at h1
 simp only[n6,Bool.and_eq_true,List.all_eq_true,List.mem_range,decide_eq_true_eq]at hchk
 have hu:aO l (l.take n).length:=by
  intro x y hxy hy
  have hyl:y<l.length:=by simp at hy;omega
  have:=hchk.2 y hy
  rw[List.getElem?_eq_getElem hyl]at this
  simp only[Bool.and_eq_true,List.all_eq_true,List.mem_range,bne_iff_ne]at this
  have:=this.2 x hxy
  simpa[Af,hyl] using this
 obtain⟨en,_,hF,vc',σ2,hb,hvc',h2e,h2o⟩:=O2 (ops:=l) (q:=true) (σ0:=σ) (en:=fun _=>⟨false,.top,[]⟩) hu h hvc A2U (by simp) (fun j hj=>by
  have hj:j<(l.take n).length:=hj
  rw[Nat.zero_add,List.getElem?_take]
  simp only[List.length_take]at hj
  rw[if_pos (by omega)])
 have hdrop:l.drop (l.take n).length=l.drop n:=by
  by_cases h:n≤l.length
  ·simp[h]
  ·rw[List.drop_eq_nil_of_le (by simp;omega),List.drop_eq_nil_of_le (by omega)]
 refine wpIn_region_list ?_
 simp only[Bd]at hb
 cases hb
 have:=n9 (c:=c) (ops:=l.toArray) (k:=(l.take n).length) (σ0:=σ) (en:=en) (Q:=d8 c R k) hc (by simpa using h1)
  (fun j o hj ho=>hF j o (by omega) hj (by simpa using ho)) (by simpa using hchk.1) (σ2:=σ') h2e h2o (fun a' w' hs'=>by
   rw[show (l.toArray.toList.drop _)=l.drop n from hdrop]
   exact hk (fun o ho=>h1 o (by simpa using List.mem_of_mem_drop ho)) h2 a' w' hs')
  (l.take n).length 0 a w (by simp) hs
 exact this
theorem WR (hc:c.Ok) {ops:Array Oper} {l:List Oper} {vc:Prop} (h:Bd c.tb ops.toList l σ=some (vc,σ')) (hvc:vc) (hk:Ev c R (.out .normal) k σ'):QM c R k ops l σ:=by
 intro h1 h2 a w hs
 exact Na hc l hs h1 h hvc (fun a' w' hs'=>hk rfl h2 a' w' hs')
theorem X7 (hm:c.P.follows .mixedOrders=true) (hc:c.Ok) {id:Nat} {l:List Oper} (n:Nat) (hchk:Ni l (l.take n).length=true) {vc:Prop}
  (h:KL c.tb l false σ.objs (l.drop n) (l.take n) 0 [] [] σ=some (vc,σ')) (hvc:vc) (hk:Ev c R (.out .normal) k σ') :
  Ev c R (.run (.region id l.toArray true)) k σ:=by
 obtain⟨vc1,vc2,σ1,h1,hvc1,h2,hvc2⟩:=LT h hvc
 exact sA hm hc n hchk h1 hvc1 (WR hc h2 hvc2 hk)
theorem aQ (hc:c.Ok) {id:Nat} {l:List Oper} (n:Nat) (hchk:n6 l (l.take n).length=true) {vc:Prop}
  (h:KL c.tb l true σ.objs (l.drop n) (l.take n) 0 [] [] σ=some (vc,σ')) (hvc:vc) (hk:Ev c R (.out .normal) k σ') :
  Ev c R (.run (.region id l.toArray false)) k σ:=by
 obtain⟨vc1,vc2,σ1,h1,hvc1,h2,hvc2⟩:=LT h hvc
 exact aP hc n hchk h1 hvc1 (WR hc h2 hvc2 hk)
theorem sB (hm:c.P.follows .mixedOrders=true) (hc:c.Ok) {id:Nat} {l:List Oper} (hchk:Ni l l.length=true) {vc:Prop}
  (h:KL c.tb l false σ.objs [] l 0 [] [] σ=some (vc,σ')) (hvc:vc) (hk:Ev c R (.out .normal) k σ') :
  Ev c R (.run (.region id l.toArray true)) k σ :=
 X7 hm hc l.length (by rw[List.take_length];exact hchk) (by rw[List.take_length,List.drop_length];exact h) hvc hk
theorem sC (m:Nat) (hm:c.P.follows .mixedOrders=true) (hc:c.Ok) {id:Nat} {l:List Oper} (hchk:Ni l (l.take (l.length-m)).length=true) {vc:Prop}
  (h:KL c.tb l false σ.objs (l.drop (l.length-m)) (l.take (l.length-m)) 0 [] [] σ=some (vc,σ')) (hvc:vc) (hk:Ev c R (.out .normal) k σ') :
  Ev c R (.run (.region id l.toArray true)) k σ:=X7 hm hc _ hchk h hvc hk
theorem aR (hc:c.Ok) {id:Nat} {l:List Oper} (hchk:n6 l l.length=true) {vc:Prop}
  (h:KL c.tb l true σ.objs [] l 0 [] [] σ=some (vc,σ')) (hvc:vc) (hk:Ev c R (.out .normal) k σ') :
  Ev c R (.run (.region id l.toArray false)) k σ :=
 aQ hc l.length (by rw[List.take_length];exact hchk) (by rw[List.take_length,List.drop_length];exact h) hvc hk
theorem aU (hc:c.Ok) {id:Nat} {l:List Oper} (_:(l.all fun o=>o.guard.isNone)=true) {vc:Prop} (h:Bd c.tb l l σ=some (vc,σ')) (hvc:vc) (hk:Ev c R (.out .normal) k σ') :
  Ev c R (.run (.region id l.toArray false)) k σ:=aJ hc h hvc hk
end
end
/- Small rules, second part. -/
section
open Go Go.RowKit
theorem eF {c:Cx} {σ σ1 σ':St} (l:List Nat) (h:CO l σ=σ1) (he:yA c σ1 σ'):yA c σ σ':=by
 intro a w hs
 obtain⟨ρ,hs⟩:=hs
 exact he a w ⟨ρ,by rw[←h];exact I6 hs⟩
theorem IX {α:Type} (a b:List α):(a++b).take (a.length+b.length)=a++b:=List.take_of_length_le (by simp)
theorem Nn {α:Type} (a b:List α):sub (a++b) 0 (a.length+b.length)=a++b:=by rw[Gt,IX]
theorem Gg {α:Type} (a:List α) (x:α):(a++[x]).take (a.length+1)=a++[x]:=List.take_of_length_le (by simp)
theorem KN {α:Type} (a:List α) (x:α):sub (a++[x]) 0 (a.length+1)=a++[x]:=by rw[Gt,Gg]
theorem AH {P:Program} {tb:Tb} {w0:World} {O0:Nat→Prop} {nt:Nat} (hc:(cx P tb w0 O0 nt).Ok) {fn:Func} {outs:List RV} {σ:St} {e:Exit} (rs:List ResultVar) (hr:fn.results.toList=rs) (he:e=.ret∨e=.normal) (hp:∀r∈outs,∃t d,r=.p t d) (h:Nb tb σ rs outs) :
  Ev (cx P tb w0 O0 nt) (eB P fn w0 O0 outs) (.out e) [] σ:=rU hc he hp (by rw[hr];exact h)
theorem X8:((0:Nat):Int)=0:=rfl
theorem X9 (k:Nat):((k+1:Nat):Int)=(k:Int)+1:=by omega
theorem AD {α:Type} (l:List α) (d:α) {k:Nat} (h:k<l.length):l.getD k d∈l:=by
 rw[List.getD_eq_getElem?_getD,List.getElem?_eq_getElem h];exact List.getElem_mem h
theorem AL {P:Program} {ty:List (Nat×TI)} {pu:List Nat} {ne:List (Nat×TypeId)}:QC P ⟨ty,[],pu,ne⟩:=fun f sp h=>by simp[lk]at h
theorem AF {P:Program} {ty:List (Nat×TI)} {pu:List Nat} {ne:List (Nat×TypeId)} {f:Nat} {sp:Ak} {r:List (Nat×Ak)} (h:Ao P f sp) (hr:QC P ⟨ty,r,pu,ne⟩):QC P ⟨ty,(f,sp) :: r,pu,ne⟩:=fun g sp' hg=>by
 simp only[lk]at hg
 split at hg
 ·rename_i e;cases hg;rw[e];exact h
 ·exact hr g sp' hg
theorem IY {α:Type} (x:α):[x].take 1=[x]:=rfl
theorem Ab {α:Type} (l:List α) (d:α) {k:Nat} (h:k<l.length):l.take (k+1)=l.take k++[l.getD k d]:=by
 rw[List.take_add_one,List.getD_eq_getElem?_getD,List.getElem?_eq_getElem h];rfl
theorem Np {α:Type} (l:List α) (q:Nat):sub l q l.length=l.drop q:=by
 unfold sub
 rw[List.take_of_length_le (by simp)]
end
end Go.Proofs.YtebfihindnhccaaGreat.Fw
