/- Regions whose order Go leaves open: the rules. -/
/- A statement whose order Go leaves open: what only adds may come in any order, what turns memory comes behind. -/
import Derived.Test.YtebfihindnhccaaGreatIZE
set_option linter.unusedVariables false
set_option linter.unusedSimpArgs false
namespace Go.Proofs.YtebfihindnhccaaGreat.Fw
section
open Go Go.RowKit
def Dq (o:Oper):List Nat:=(o.after.toList.filter (Region.binds .any)).map (·.on)
def Ak (ops:List Oper) (j:Nat):Option Nat:=(ops[j]?).bind (·.dst)
def N9:Operand→Option Nat
 | .tmp t=>some t
 | _=>none
def Lu (ops:List Oper) (o:Oper):List Nat:=(o.op.operands.toList.filterMap N9)++(match o.guard with|some (j,_)=>(Ak ops j).toList|none=>[])
def A4k (a b:List Nat):List Nat:=a.foldl (fun r x=>if Aa x r then r else x :: r) b
def uR (ops:List Oper):List (List Nat):=ops.foldl (fun(acc:List (List Nat)) o=>acc++[(Dq o).foldl (fun r e=>A4k (acc.getD e []) (if Aa e r then r else e :: r)) []]) []
def opB (ops:List Oper) (k:Nat) (anc:List (List Nat)) (i:Nat) (o:Oper):Bool :=
  (Dq o).all (fun e=>decide (e<i)) &&
  (anc.getD i []).all (fun j=>Aa j (Dq o)||(Dq o).any fun e=>Aa j (anc.getD e [])) &&
  (if i<k then o.dst.isSome&&((Lu ops o).all fun t=>(List.range k).all fun j=>Ak ops j != some t||Aa j (anc.getD i []))&&((List.range i).all fun j=>Ak ops j != o.dst)
   else (List.range i).all fun j=>Aa j (anc.getD i []))
def cZ (ops:List Oper) (k:Nat) (anc:List (List Nat)):Bool :=
 decide (k≤ops.length)&&(List.range ops.length).all fun i=>match ops[i]? with|some o=>opB ops k anc i o|none=>false
def OA (ops:List Oper) (k:Nat):Bool:=cZ ops k (uR ops)
def pY (ops:List Oper) (k:Nat):Bool :=
 decide (k≤ops.length)&&(List.range k).all fun i=>match ops[i]? with|some o=>o.dst.isSome&&((List.range i).all fun j=>Ak ops j != o.dst)|none=>false
def Bm (q:Bool) (ts:List Nat) (base:List (Nat×Obj)):List (Nat×List (Nat×Obj))→List (Nat×Obj)
 | []=>base
 | (s,obs) :: r=>if (q||Aa s ts)=true then obs++Bm q ts base r else Bm q ts base r
def GL (o:Op):List Nat:=o.operands.toList.filterMap N9
def Kj (q:Bool) (o:Op) (base:List (Nat×Obj)):List (Nat×List (Nat×Obj))→List (Nat×Obj)
 | []=>base
 | e :: r=>Bm q (GL o) base (e :: r)
def Iu (d:Nat) (obs:List (Nat×Obj)) (E:List (Nat×List (Nat×Obj))):List (Nat×List (Nat×Obj)) :=
 match obs with
 | []=>E
 | x :: r=>(d,x :: r) :: E
/-! ### Operations under a condition: their values hold where the condition does. -/
abbrev Ch:=List (Nat×Bool)
abbrev Gs:=List (Nat×(Ch×Bool×AV))
def Mu:Ch→Ch→Bool
 | [],[]=>true
 | (j,w) :: r,(j',w') :: r'=>(j==j')&&(w==w')&&Mu r r'
 | [],_ :: _=>false
 | _ :: _,[]=>false
theorem Kk:Mu [] []=true:=rfl
theorem OB (x:Nat×Bool) (r:Ch):Mu [] (x :: r)=false:=rfl
theorem OC (x:Nat×Bool) (r:Ch):Mu (x :: r) []=false:=rfl
theorem Iv (j j':Nat) (w w':Bool) (r r':Ch):Mu ((j,w) :: r) ((j',w') :: r')=(decide (j=j')&&(w==w')&&Mu r r'):=by
 have e:(j==j')=decide (j=j'):=by
  by_cases h:j=j'<;>simp[h]
 show ((j==j')&&(w==w')&&Mu r r')=_
 rw[e]
def RL (c':Ch):Ch→Bool
 | []=>Mu c' []
 | k :: r=>Mu c' (k :: r)||RL c' r
def Iw (c:Ch):Gs→List (Nat×AV)→List (Nat×AV)
 | [],env=>env
 | (s,c',_,v) :: G,env=>if RL c' c=true then (s,v) :: Iw c G env else Iw c G env
def Ja (j:Nat) (want:Bool):Option (Ch×Bool×AV)→Option AV→Option (Ch×Bool)
 | some (c,T,.p .bool b),_=>some ((j,want) :: c,T&&(b==want))
 | none,some (.p .bool b)=>some ([(j,want)],b==want)
 | _,_=>none
def Hx (G:Gs) (env:List (Nat×AV)) (j:Nat) (want:Bool):Option Nat→Option (Ch×Bool)
 | some s=>Ja j want (lk s G) (lk s env)
 | none=>none
def HH (ops:List Oper) (G:Gs) (env:List (Nat×AV)) (i:Nat):Option (Nat×Bool)→Option (Ch×Bool)
 | none=>some ([],true)
 | some (j,want)=>if j<i then Hx G env j want (Ak ops j) else none
def Mv (ops:List Oper) (c:Ch) (s:Nat) (w:Bool):Option (Ch×Bool×AV)→Option AV→Option AV
 | some (c',_,v),_=>if RL c' c=true then some v else match c' with
  | []=>none
  | (j,w') :: r=>if w'=w∧Ak ops j=some s∧Mu r c=true then some v else none
 | none,x=>x
def J8 (ops:List Oper) (c:Ch) (G:Gs) (env:List (Nat×AV)) (s:Nat) (w:Bool):Operand→Option AV
 | .tmp t=>Mv ops c s w (lk t G) (lk t env)
 | .const v=>some (Gm v)
 | .func _=>none
 | .global _=>none
def Mw:Option AV→Option AV→Option AV→BU
 | some (.p .bool b),some (.p .bool p),some (.p .bool q)=>some (True,.p .bool (bif b then p else q),[])
 | _,_,_=>none
def MZ (ops:List Oper) (c:Ch) (G:Gs) (env:List (Nat×AV)):Operand→Operand→Operand→BU
 | .tmp s,x,y=>Mw (lk s (Iw c G env)) (J8 ops c G env s true x) (J8 ops c G env s false y)
 | .const _,_,_=>none
 | .func _,_,_=>none
 | .global _,_,_=>none
def HI:Op→Option (Operand×Operand×Operand)
 | .pick s x y=>some (s,x,y)
 | _=>none
def uS (tb:Tb) (ops:List Oper) (q:Bool) (base:List (Nat×Obj)) (c:Ch) (G:Gs) (E:List (Nat×List (Nat×Obj))) (env:List (Nat×AV)) (o:Oper):Option (Operand×Operand×Operand)→BU
 | some (s,x,y)=>MZ ops c G env s x y
 | none=>aq tb ⟨Iw c G env,Kj q o.op base E⟩ (o.dst.getD 0) o.op
mutual
/-- The operations of the front in the order of the text, each with what it can see; then the rest. -/
def Kl (tb:Tb) (ops:List Oper) (q:Bool) (base:List (Nat×Obj)) (rest:List Oper):List Oper→Nat→List (Nat×List (Nat×Obj))→Gs→St→Cj
 | [],_,_,_,σ=>Bi tb ops rest σ
 | o :: r,i,E,G,σ=>evMG tb ops q base rest o r i E G σ (HH ops G σ.env i o.guard)
def evMG (tb:Tb) (ops:List Oper) (q:Bool) (base:List (Nat×Obj)) (rest:List Oper) (o:Oper) (r:List Oper) (i:Nat) (E:List (Nat×List (Nat×Obj))) (G:Gs) (σ:St):Option (Ch×Bool)→Cj
 | some (c,T)=>evMQ tb ops q base rest o.dst r i E G σ c T (uS tb ops q base c G E σ.env o (HI o.op))
 | none=>none
def evMQ (tb:Tb) (ops:List Oper) (q:Bool) (base:List (Nat×Obj)) (rest:List Oper) (dst:Option Nat) (r:List Oper) (i:Nat) (E:List (Nat×List (Nat×Obj))) (G:Gs) (σ:St):Ch→Bool→BU→Cj
 | [],_,some (vc,v,obs)=>match dst with
  | some d=>if BT obs σ=true then Uc vc (Kl tb ops q base rest r (i+1) (Iu d obs E) G (σ.add v obs (some d))) else none
  | none=>none
 | g :: c,T,some (vc,v,[])=>match dst with
  | some d=>if (lk d σ.env).isNone=true then Uc (T=true→vc) (Kl tb ops q base rest r (i+1) E ((d,g :: c,T,v) :: G) σ) else none
  | none=>none
 | _,_,_=>none
end
structure En where
 b:Bool
 v:AV
 obs:List (Nat×Obj)
def Ao (ops:List Oper) (en:Nat→En) (σ:St):List Nat→St
 | []=>σ
 | i :: r=>(Ao ops en σ r).add (en i).v (en i).obs (Ak ops i)
def Ai:Nat→List Nat
 | 0=>[]
 | i+1=>i :: Ai i
end
/- Any order: the proof. -/
section
open Go Go.RowKit
section
variable {tb:Tb} {ops:List Oper} {k:Nat} {q:Bool} {anc:List (List Nat)} {σ0:St} {en:Nat→En}
def ES (ops:List Oper) (en:Nat→En) (l:List Nat):List (Nat×List (Nat×Obj)):=l.map fun j=>((Ak ops j).getD 0,(en j).obs)
def Jb (ops:List Oper) (σ:St) (b:Bool):Option (Nat×Bool)→Prop
 | none=>b=true
 | some (j,want)=>∃s,Ak ops j=some s∧((∃x,lk s σ.env=some (.p .bool x)∧b=(x==want))∨(lk s σ.env=some (.raw undef)∧b=false))
structure ST (tb:Tb) (ops:List Oper) (q:Bool) (σ0:St) (en:Nat→En) (i:Nat) (o:Oper):Prop where
 g:Jb ops (Ao ops en σ0 (Ai i)) (en i).b o.guard
 t:(en i).b=true→∃vc:Prop,aq tb ⟨(Ao ops en σ0 (Ai i)).env,Bm q (GL o.op) σ0.objs (ES ops en (Ai i))⟩ (o.dst.getD 0) o.op=some (vc,(en i).v,(en i).obs)∧vc∧BT (en i).obs (Ao ops en σ0 (Ai i))=true
 f:(en i).b=false→(en i).v=.raw undef∧(en i).obs=[]
theorem Jc {en':Nat→En}:∀ {l:List Nat},(∀j∈l,en' j=en j)→Ao ops en' σ0 l=Ao ops en σ0 l
 | [],_=>rfl
 | i :: r,h=>by
  simp only[Ao]
  rw[Jc (fun j hj=>h j (by simp[hj])),h i (by simp)]
theorem A9 {i j:Nat}:j∈Ai i↔j<i:=by
 induction i with
 | zero=>simp[Ai]
 | succ i ih=>simp[Ai,ih];omega
/-! ### What the states hold -/
theorem FA:∀(l:List Nat),(Ao ops en σ0 l).objs=(l.flatMap fun j=>(en j).obs)++σ0.objs
 | []=>rfl
 | i :: r=>by
  simp only[Ao,List.flatMap_cons,List.append_assoc]
  rw[←FA r]
  cases Ak ops i<;>rfl
theorem FB (s:Nat):∀(l:List Nat),lk s (Ao ops en σ0 l).env=match l.find? (fun j=>Ak ops j==some s) with|some j=>some (en j).v|none=>lk s σ0.env
 | []=>rfl
 | i :: r=>by
  simp only[Ao,List.find?_cons]
  cases hd:Ak ops i with
  | none =>
   simp only[St.add]
   rw[FB s r]
   have:((none:Option Nat)==some s)=false:=rfl
   rw[this]
  | some d =>
   simp only[St.add,lk]
   by_cases hs:s=d
   ·subst hs;simp
   ·have h1:((some d:Option Nat)==some s)=false:=by
     have:d≠s:=fun e=>hs e.symm
     simpa using this
    rw[if_neg hs,FB s r,h1]
theorem gL {n:Nat} {o:Obj} {l:List Nat} (h:lk n (l.flatMap fun j=>(en j).obs)=some o):∃j∈l,lk n (en j).obs=some o:=by
 induction l with
 | nil=>simp[lk]at h
 | cons i r ih =>
  rw[List.flatMap_cons,Ax]at h
  cases h':lk n (en i).obs with
  | some o' =>
   rw[h']at h
   exact⟨i,by simp,by rw[h'];simpa using h⟩
  | none =>
   rw[h']at h
   obtain⟨j,hj,hlk⟩:=ih (by simpa using h)
   exact⟨j,by simp[hj],hlk⟩
theorem Jd {n:Nat} {l:List Nat} (h:lk n (l.flatMap fun j=>(en j).obs)=none):∀j∈l,lk n (en j).obs=none:=by
 induction l with
 | nil=>simp
 | cons i r ih =>
  rw[List.flatMap_cons,Ax]at h
  cases h':lk n (en i).obs with
  | some o'=>rw[h']at h;simp at h
  | none =>
   rw[h']at h
   intro j hj
   rcases List.mem_cons.1 hj with rfl|hj
   ·exact h'
   ·exact ih (by simpa using h) j hj
def Sep (σ0:St) (en:Nat→En) (k:Nat):Prop :=
 (∀j,j<k→∀n o,lk n (en j).obs=some o→lk n σ0.objs=none)∧∀i j,i<k→j<k→∀n o o',lk n (en i).obs=some o→lk n (en j).obs=some o'→i=j
theorem EX (hsep:Sep σ0 en k) {l:List Nat} (hl:∀j∈l,j<k) (n:Nat) (o:Obj):lk n (Ao ops en σ0 l).objs=some o↔(∃j∈l,lk n (en j).obs=some o)∨((∀j∈l,lk n (en j).obs=none)∧lk n σ0.objs=some o):=by
 rw[FA,Ax]
 cases h:lk n (l.flatMap fun j=>(en j).obs) with
 | some o' =>
  obtain⟨j,hj,hlk⟩:=gL h
  simp only[Option.some_or]
  constructor
  ·intro he
   cases he
   exact .inl ⟨j,hj,hlk⟩
  ·rintro (⟨j',hj',hlk'⟩|⟨h1,_⟩)
   ·have:=hsep.2 j j' (hl j hj) (hl j' hj') n o' o hlk hlk'
    subst this
    rw[←hlk,hlk']
   ·rw[h1 j hj]at hlk;cases hlk
 | none =>
  have hn:=Jd h
  simp only[Option.none_or]
  constructor
  ·intro he;exact .inr ⟨hn,he⟩
  ·rintro (⟨j',hj',hlk'⟩|⟨_,h1⟩)
   ·rw[hn j' hj']at hlk';cases hlk'
   ·exact h1
theorem uT (hsep:Sep σ0 en k) {ts:List Nat} {l l':List Nat} (hl:∀j∈l,j<k) (hl':∀j∈l',j<k) (hA:∀j∈l,(q||Aa ((Ak ops j).getD 0) ts)=true→j∈l') {n:Nat} {o:Obj} :
  lk n (Bm q ts σ0.objs (ES ops en l))=some o→lk n (Ao ops en σ0 l').objs=some o:=by
 rw[EX hsep hl']
 induction l with
 | nil =>
  simp only[ES,List.map_nil,Bm]
  intro h
  refine .inr ⟨fun j hj=>?_,h⟩
  cases h':lk n (en j).obs with
  | none=>rfl
  | some o'=>have:=hsep.1 j (hl' j hj) n o' h';rw[this]at h;cases h
 | cons i r ih =>
  simp only[ES,List.map_cons,Bm]
  have ih:=ih (fun j hj=>hl j (by simp[hj])) (fun j hj=>hA j (by simp[hj]))
  split
  ·rename_i hm
   intro h
   rw[Ax]at h
   cases h':lk n (en i).obs with
   | some o' =>
    rw[h']at h
    simp only[Option.some_or]at h
    cases h
    exact .inl ⟨i,hA i (by simp) hm,h'⟩
   | none =>
    rw[h']at h
    exact ih (by simpa[ES] using h)
  ·exact ih
/-! ### The front -/
theorem OD:∀ {a b:Ch},Mu a b=true↔a=b
 | [],[]=>by simp[Mu]
 | (j,w) :: r,(j',w') :: r'=>by simp[Mu,OD (a:=r) (b:=r'),and_assoc]
 | [],_ :: _=>by simp[Mu]
 | _ :: _,[]=>by simp[Mu]
def bv:AV→Bool
 | .p .bool b=>b
 | _=>false
def tr (en:Nat→En):Ch→Bool
 | []=>true
 | (j,w) :: r=>tr en r&&(bv (en j).v==w)
theorem SU {en':Nat→En}:∀ {c:Ch},(∀k∈c,en' k.1=en k.1)→tr en' c=tr en c
 | [],_=>rfl
 | (j,w) :: r,h=>by
  have h1:=h (j,w) (by simp)
  simp only at h1
  simp only[tr]
  rw[SU (fun k hk=>h k (by simp[hk])),h1]
theorem c6 {c':Ch}:∀ {c:Ch},RL c' c=true→tr en c=true→tr en c'=true
 | [],h,ht=>by simp only[RL,OD]at h;rw[h];exact ht
 | k :: r,h,ht=>by
  simp only[RL,Bool.or_eq_true,OD]at h
  rcases h with rfl|h
  ·exact ht
  ·obtain⟨j,w⟩:=k
   simp only[tr,Bool.and_eq_true]at ht
   exact c6 h ht.1
structure Inv (ops:List Oper) (q:Bool) (σ0:St) (en:Nat→En) (i:Nat) (E:List (Nat×List (Nat×Obj))) (G:Gs) (σ:St):Prop where
 env:∀s v,lk s σ.env=some v→lk s (Ao ops en σ0 (Ai i)).env=some v
 G:∀s c T v,(s,c,T,v)∈G→T=tr en c∧(T=true→lk s (Ao ops en σ0 (Ai i)).env=some v)∧(∀k∈c,k.1<i)∧∃j,j<i∧Ak ops j=some s∧(en j).b=T
 f:∀j,j<i→(en j).b=false→(en j).v=.raw undef
 objs:σ.objs=(Ao ops en σ0 (Ai i)).objs
 E:∀ts,Bm q ts σ0.objs E=Bm q ts σ0.objs (ES ops en (Ai i))
def c7 (ops:List Oper) (k:Nat):Prop:=∀a b,a<b→b<k→Ak ops a≠Ak ops b
theorem VK (hu:c7 ops k) {i j s:Nat} (hik:i≤k) (hj:j<i) (hd:Ak ops j=some s):lk s (Ao ops en σ0 (Ai i)).env=some (en j).v:=by
 rw[FB]
 have:(Ai i).find? (fun j=>Ak ops j==some s)=some j:=by
  cases hf:(Ai i).find? (fun j=>Ak ops j==some s) with
  | none =>
   have:=List.find?_eq_none.1 hf j (A9.2 hj)
   simp[hd]at this
  | some x =>
   have h1:=A9.1 (List.mem_of_find?_eq_some hf)
   have h2:=List.find?_some hf
   have h2:Ak ops x=some s:=by simpa using h2
   rcases Nat.lt_trichotomy x j with h|h|h
   ·exact absurd (h2.trans hd.symm) (hu x j h (by omega))
   ·rw[h]
   ·exact absurd (hd.trans h2.symm) (hu j x h (by omega))
 rw[this]
theorem PN {c:Ch} {s:Nat} {v:AV} {env:List (Nat×AV)}:∀ {G:Gs},lk s (Iw c G env)=some v→(∃c' T,(s,c',T,v)∈G∧RL c' c=true)∨lk s env=some v
 | [],h=>.inr h
 | (s',c',T,v') :: G,h=>by
  simp only[Iw]at h
  split at h
  ·rename_i hs
   simp only[lk]at h
   split at h
   ·rename_i e
    subst e
    cases h
    exact .inl ⟨c',T,by simp,hs⟩
   ·rcases PN h with ⟨c2,T2,hm,h2⟩|h2
    ·exact .inl ⟨c2,T2,by simp[hm],h2⟩
    ·exact .inr h2
  ·rcases PN h with ⟨c2,T2,hm,h2⟩|h2
   ·exact .inl ⟨c2,T2,by simp[hm],h2⟩
   ·exact .inr h2
section
variable {i:Nat} {E:List (Nat×List (Nat×Obj))} {G:Gs} {σ:St}
theorem Y2 (hI:Inv ops q σ0 en i E G σ) {c:Ch} (hc:tr en c=true) {s:Nat} {v:AV} (h:lk s (Iw c G σ.env)=some v):lk s (Ao ops en σ0 (Ai i)).env=some v:=by
 rcases PN h with ⟨c',T,hm,hs⟩|h
 ·obtain⟨h1,h2,_⟩:=hI.G s c' T v hm
  exact h2 (by rw[h1];exact c6 hs hc)
 ·exact hI.env s v h
theorem pZ (hI:Inv ops q σ0 en i E G σ) (hu:c7 ops k) (hik:i≤k) {g:Option (Nat×Bool)} {c:Ch} {T:Bool} (h:HH ops G σ.env i g=some (c,T)) :
  Jb ops (Ao ops en σ0 (Ai i)) T g∧T=tr en c∧(∀k∈c,k.1<i):=by
 cases g with
 | none =>
  simp only[HH]at h
  cases h
  exact⟨rfl,rfl,by simp⟩
 | some g =>
  obtain⟨j,want⟩:=g
  simp only[HH]at h
  split at h
  ·rename_i hj
   cases hd:Ak ops j with
   | none=>rw[hd]at h;simp[Hx]at h
   | some s =>
    rw[hd]at h
    simp only[Hx]at h
    have hw:=VK (en:=en) (σ0:=σ0) hu hik hj hd
    unfold Ja at h
    split at h
    ·rename_i c0 T0 b he
     cases h
     obtain⟨h1,h2,h3,j',hj',hd',hb'⟩:=hI.G s c0 T0 _ (FT he)
     cases hT:T0 with
     | true =>
      have h4:=h2 hT
      rw[hw]at h4
      injection h4 with h4
      refine⟨⟨s,hd,.inl ⟨b,by rw[hw,h4],by simp⟩⟩,?_,?_⟩
      ·rw[hT]at h1
       simp only[tr,←h1,h4,bv]
      ·intro k hk
       rcases List.mem_cons.1 hk with rfl|hk
       ·exact hj
       ·exact h3 k hk
     | false =>
      have hjj:j'=j:=by
       rcases Nat.lt_trichotomy j' j with h|h|h
       ·exact absurd (hd'.trans hd.symm) (hu j' j h (by omega))
       ·exact h
       ·exact absurd (hd.trans hd'.symm) (hu j j' h (by omega))
      subst hjj
      have h4:=hI.f j' hj (by rw[hb',hT])
      refine⟨⟨s,hd,.inr ⟨by rw[hw,h4],by simp⟩⟩,?_,?_⟩
      ·rw[hT]at h1
       simp only[tr,←h1,Bool.false_and]
      ·intro k hk
       rcases List.mem_cons.1 hk with rfl|hk
       ·exact hj
       ·exact h3 k hk
    ·rename_i b _ he
     cases h
     have h4:=hI.env s _ he
     rw[hw]at h4
     injection h4 with h4
     refine⟨⟨s,hd,.inl ⟨b,by rw[hw,h4],rfl⟩⟩,by simp[tr,h4,bv],?_⟩
     intro k hk
     simp at hk
     rw[hk]
     exact hj
    ·cases h
  ·cases h
theorem Y3 (hI:Inv ops q σ0 en i E G σ) (hu:c7 ops k) (hik:i≤k) {c:Ch} (hc:tr en c=true) {s:Nat} {w:Bool} (hs:lk s (Ao ops en σ0 (Ai i)).env=some (.p .bool w)) {x:Operand} {v:AV}
  (h:J8 ops c G σ.env s w x=some v) {objs:List (Nat×Obj)}:Av ⟨(Ao ops en σ0 (Ai i)).env,objs⟩ x=some v:=by
 cases x with
 | const x=>simp only[J8]at h;exact h
 | func f=>simp[J8]at h
 | global g=>simp[J8]at h
 | tmp t =>
  simp only[J8]at h
  simp only[Av]
  cases hg:lk t G with
  | none =>
   rw[hg]at h
   exact hI.env t v h
  | some e =>
   obtain⟨c',T,v'⟩:=e
   rw[hg]at h
   simp only[Mv]at h
   obtain⟨h1,h2,h3,_⟩:=hI.G t c' T v' (FT hg)
   split at h
   ·rename_i hsf
    cases h
    exact h2 (by rw[h1];exact c6 hsf hc)
   ·cases c' with
    | nil=>cases h
    | cons p r =>
     obtain⟨j,w'⟩:=p
     simp only at h
     split at h
     ·rename_i hh
      obtain⟨rfl,hd,hr⟩:=hh
      rw[OD]at hr
      subst hr
      cases h
      have hw:=VK (en:=en) (σ0:=σ0) hu hik (h3 (j,w') (by simp)) hd
      rw[hw]at hs
      injection hs with hs
      apply h2
      rw[h1]
      simp[tr,hc,hs,bv]
     ·cases h
theorem A3o (hI:Inv ops q σ0 en i E G σ) (hu:c7 ops k) (hik:i≤k) {c:Ch} (hc:tr en c=true) {o:Oper} {vc:Prop} {v:AV} {obs:List (Nat×Obj)} (h:uS tb ops q σ0.objs c G E σ.env o (HI o.op)=some (vc,v,obs)) (hvc:vc) :
  ∃vc':Prop,aq tb ⟨(Ao ops en σ0 (Ai i)).env,Bm q (GL o.op) σ0.objs (ES ops en (Ai i))⟩ (o.dst.getD 0) o.op=some (vc',v,obs)∧vc':=by
 cases hp:HI o.op with
 | none =>
  rw[hp]at h
  simp only[uS]at h
  refine⟨vc,Rc (σ:=⟨Iw c G σ.env,Kj q o.op σ0.objs E⟩) ?_ ?_ h,hvc⟩
  ·intro n x hn
   have:Kj q o.op σ0.objs E=Bm q (GL o.op) σ0.objs E:=by cases E<;>rfl
   simp only at hn ⊢
   rw[this,hI.E]at hn
   exact hn
  ·intro x _ v hv
   cases x with
   | tmp t=>exact Y2 hI hc hv
   | const v'=>exact hv
   | global g=>exact hv
   | func f=>exact hv
 | some p =>
  obtain⟨s,x,y⟩:=p
  rw[hp]at h
  have ho:o.op=.pick s x y:=by
   unfold HI at hp
   split at hp
   ·rename_i he;cases hp;exact he
   ·cases hp
  simp only[uS]at h
  rw[ho]
  cases s with
  | const _=>simp[MZ]at h
  | func _=>simp[MZ]at h
  | global _=>simp[MZ]at h
  | tmp s =>
   simp only[MZ]at h
   unfold Mw at h
   split at h
   ·rename_i b p r h1 h2 h3
    cases h
    have hs:=Y2 hI hc h1
    refine⟨True,?_,trivial⟩
    have h0:Av ⟨(Ao ops en σ0 (Ai i)).env,Bm q (GL (Op.pick (.tmp s) x y)) σ0.objs (ES ops en (Ai i))⟩ (.tmp s)=some (.p .bool b):=hs
    simp only[aq]
    rw[h0]
    cases b with
    | true =>
     simp only[J3]
     rw[Y3 hI hu hik hc hs h2]
     rfl
    | false =>
     simp only[J3]
     rw[Y3 hI hu hik hc hs h3]
     rfl
   ·cases h
end
theorem PO {rest:List Oper} (hu:c7 ops k):∀ {fr:List Oper} {i:Nat} {E:List (Nat×List (Nat×Obj))} {G:Gs} {σ σ':St} {en:Nat→En} {vc:Prop},Kl tb ops q σ0.objs rest fr i E G σ=some (vc,σ')→vc→Inv ops q σ0 en i E G σ→i+fr.length=k→(∀j,j<fr.length→ops[i+j]?=fr[j]?) →
  ∃en':Nat→En,(∀j,j<i→en' j=en j)∧(∀j o,i≤j→j<k→ops[j]?=some o→ST tb ops q σ0 en' j o) ∧
   ∃(vc':Prop) (σ2:St),Bi tb ops rest σ2=some (vc',σ')∧vc'∧(∀s v,lk s σ2.env=some v→lk s (Ao ops en' σ0 (Ai k)).env=some v)∧σ2.objs=(Ao ops en' σ0 (Ai k)).objs
 | [],i,E,G,σ,σ',en,vc,h,hvc,hI,hk,_=>by
  simp only[Kl]at h
  simp at hk
  subst hk
  exact⟨en,fun _ _=>rfl,fun j o h1 h2=>by omega,vc,σ,h,hvc,hI.env,hI.objs⟩
 | o :: r,i,E,G,σ,σ',en,vc,h,hvc,hI,hk,hops=>by
  have hoi:ops[i]?=some o:=by simpa using hops 0 (by simp)
  have hdst:Ak ops i=o.dst:=by simp[Ak,hoi]
  have hik:i<k:=by simp at hk;omega
  simp only[Kl]at h
  cases hg:HH ops G σ.env i o.guard with
  | none=>rw[hg]at h;simp[evMG]at h
  | some cT =>
   obtain⟨c,T⟩:=cT
   obtain⟨hgo,hT,hcl⟩:=pZ hI hu (Nat.le_of_lt hik) hg
   rw[hg]at h
   simp only[evMG]at h
   cases hop:uS tb ops q σ0.objs c G E σ.env o (HI o.op) with
   | none =>
    rw[hop]at h
    unfold evMQ at h
    split at h
    ·rename_i he;cases he
    ·rename_i he;cases he
    ·cases h
   | some r0 =>
    obtain⟨vc1,v,obs⟩:=r0
    rw[hop]at h
    have main:∀(d:Nat) (e:En) (E':List (Nat×List (Nat×Obj))) (G':Gs) (σ1:St) (vc2:Prop),o.dst=some d→e.b=T→(T=true→vc1∧e.v=v∧e.obs=obs∧BT obs σ=true)→(T=false→e.v=.raw undef∧e.obs=[]) →
      (∀s v',lk s σ1.env=some v'→if s=d then v'=e.v else lk s σ.env=some v')→σ1.objs=e.obs++σ.objs →
      (∀s c' T' v',(s,c',T',v')∈G'→(s,c',T',v')∈G∨(s=d∧c'=c∧T'=T∧v'=v))→(∀ts,Bm q ts σ0.objs E'=Bm q ts σ0.objs ((d,e.obs) :: E)) →
      Kl tb ops q σ0.objs rest r (i+1) E' G' σ1=some (vc2,σ')→vc2 →
      ∃en':Nat→En,(∀j,j<i→en' j=en j)∧(∀j o,i≤j→j<k→ops[j]?=some o→ST tb ops q σ0 en' j o) ∧
       ∃(vc':Prop) (σ2:St),Bi tb ops rest σ2=some (vc',σ')∧vc'∧(∀s v,lk s σ2.env=some v→lk s (Ao ops en' σ0 (Ai k)).env=some v)∧σ2.objs=(Ao ops en' σ0 (Ai k)).objs:=by
     intro d e E' G' σ1 vc2 hod heb het hef henv hobj hG hE hev hvc2
     let en1:Nat→En:=fun j=>if j=i then e else en j
     have he1:en1 i=e:=by simp[en1]
     have heq:∀j,j<i→en1 j=en j:=fun j hj=>by simp[en1,show j≠i by omega]
     have hadd:Ao ops en1 σ0 (Ai i)=Ao ops en σ0 (Ai i):=Jc fun j hj=>heq j (A9.1 hj)
     have hES:ES ops en1 (Ai i)=ES ops en (Ai i):=by
      apply List.map_congr_left
      intro j hj
      rw[heq j (A9.1 hj)]
     have hadd1:Ao ops en1 σ0 (Ai (i+1))=(Ao ops en σ0 (Ai i)).add e.v e.obs (some d):=by
      simp only[Ai,Ao,hadd,he1,hdst,hod]
     have hold:∀s v',s≠d→lk s (Ao ops en σ0 (Ai i)).env=some v'→lk s (Ao ops en1 σ0 (Ai (i+1))).env=some v':=by
      intro s v' hs hl
      rw[hadd1]
      simp only[St.add,lk,if_neg hs]
      exact hl
     have hnew:lk d (Ao ops en1 σ0 (Ai (i+1))).env=some e.v:=by
      rw[hadd1]
      simp[St.add,lk]
     have hI1:Inv ops q σ0 en1 (i+1) E' G' σ1:=by
      refine⟨fun s v' hl=>?_,fun s c' T' v' hm=>?_,fun j hj hb=>?_,?_,fun ts=>?_⟩
      ·have:=henv s v' hl
       split at this
       ·rename_i hs
        rw[hs,this]
        exact hnew
       ·rename_i hs
        exact hold s v' hs (hI.env s v' this)
      ·rcases hG s c' T' v' hm with hm|⟨rfl,rfl,rfl,rfl⟩
       ·obtain⟨h1,h2,h3,j,hj,hd,hb⟩:=hI.G s c' T' v' hm
        have hsd:s≠d:=by
         rintro rfl
         exact hu j i hj hik (by rw[hd,hdst,hod])
        refine⟨by rw[SU (en:=en) fun k hk=>heq _ (h3 k hk)];exact h1,fun hT=>hold s v' hsd (h2 hT),fun k hk=>by have:=h3 k hk;omega,j,by omega,hd,by rw[heq j hj];exact hb⟩
       ·refine⟨by rw[SU (en:=en) fun k hk=>heq _ (hcl k hk)];exact hT,fun hT'=>?_,fun k hk=>by have:=hcl k hk;omega,i,by omega,by rw[hdst,hod],by rw[he1];exact heb⟩
        rw[hnew,(het hT').2.1]
      ·by_cases hji:j=i
       ·subst hji
        rw[he1]at hb ⊢
        exact(hef (by rw[←heb];exact hb)).1
       ·rw[heq j (by omega)]at hb ⊢
        exact hI.f j (by omega) hb
      ·rw[hadd1,hobj,hI.objs];rfl
      ·rw[hE]
       simp only[ES,Ai,List.map_cons,he1,hdst,hod,Option.getD_some,Bm]
       have:=hI.E ts
       rw[←hES]at this
       simp only[ES]at this
       rw[this]
     obtain⟨en',h1,h2,h3⟩:=PO hu hev hvc2 hI1 (by simp at hk ⊢;omega) (fun j hj=>by
      have:=hops (j+1) (by simp;omega)
      rw[show i+(j+1)=i+1+j by omega]at this
      simpa using this)
     refine⟨en',fun j hj=>by rw[h1 j (by omega),heq j hj],fun j o' h4 h5 ho'=>?_,h3⟩
     by_cases hji:j=i
     ·subst hji
      rw[hoi]at ho'
      cases ho'
      have hen':en' j=e:=by rw[h1 j (by omega),he1]
      have hadd':Ao ops en' σ0 (Ai j)=Ao ops en σ0 (Ai j):=by
       rw[←hadd]
       exact Jc fun q hq=>h1 q (by have:=A9.1 hq;omega)
      have hES':ES ops en' (Ai j)=ES ops en (Ai j):=by
       rw[←hES]
       apply List.map_congr_left
       intro q hq
       rw[h1 q (by have:=A9.1 hq;omega)]
      refine⟨by rw[hadd',hen',heb];exact hgo,fun hb=>?_,fun hb=>?_⟩
      ·rw[hen',heb]at hb
       obtain⟨hv1,hv2,hv3,hv4⟩:=het hb
       obtain⟨vc',h6,h7⟩:=A3o hI hu (Nat.le_of_lt hik) (by rw[←hT];exact hb) hop hv1
       rw[hen',hadd',hES',hv2,hv3]
       exact⟨vc',h6,h7,by
        simp only[BT]at hv4 ⊢
        rw[←hI.objs];exact hv4⟩
      ·rw[hen',heb]at hb
       rw[hen'];exact hef hb
     ·exact h2 j o' (by omega) h5 ho'
    cases c with
    | nil =>
     cases hod:o.dst with
     | none=>rw[hod]at h;simp[evMQ]at h
     | some d =>
      rw[hod]at h
      simp only[evMQ]at h
      split at h
      ·rename_i hfr
       cases hrec:Kl tb ops q σ0.objs rest r (i+1) (Iu d obs E) G (σ.add v obs (some d)) with
       | none=>rw[hrec]at h;simp[Uc]at h
       | some r2 =>
        obtain⟨vc2,σ2⟩:=r2
        rw[hrec]at h
        simp only[Uc]at h
        cases h
        have hTt:T=true:=by rw[hT];rfl
        refine main d ⟨T,v,obs⟩ _ _ _ vc2 hod rfl (fun _=>⟨hvc.1,rfl,rfl,hfr⟩) (fun hf=>by rw[hTt]at hf;cases hf) (fun s v' hl=>?_) rfl (fun s c' T' v' hm=>.inl hm) (fun ts=>?_) hrec hvc.2
        ·simp only[St.add,lk]at hl
         split at hl
         ·rename_i hs;cases hl;simp[hs]
         ·rename_i hs;rw[if_neg hs];exact hl
        ·cases obs with
         | nil=>simp[Iu,Bm]
         | cons x y=>rfl
      ·cases h
    | cons g c' =>
     cases obs with
     | cons x y=>simp[evMQ]at h
     | nil =>
      cases hod:o.dst with
      | none=>rw[hod]at h;simp[evMQ]at h
      | some d =>
       rw[hod]at h
       simp only[evMQ]at h
       split at h
       ·rename_i hno
        cases hrec:Kl tb ops q σ0.objs rest r (i+1) E ((d,g :: c',T,v) :: G) σ with
        | none=>rw[hrec]at h;simp[Uc]at h
        | some r2 =>
         obtain⟨vc2,σ2⟩:=r2
         rw[hrec]at h
         simp only[Uc]at h
         cases h
         refine main d ⟨T,bif T then v else .raw undef,[]⟩ _ _ _ vc2 hod rfl (fun ht=>⟨hvc.1 ht,by simp[ht],rfl,by simp[BT]⟩) (fun hf=>⟨by simp[hf],rfl⟩) (fun s v' hl=>?_) rfl (fun s c2 T' v' hm=>?_) (fun ts=>?_) hrec hvc.2
         ·have:s≠d:=by
           rintro rfl
           rw[hl]at hno
           cases hno
          rw[if_neg this]
          exact hl
         ·rcases List.mem_cons.1 hm with hm|hm
          ·cases hm;exact .inr ⟨rfl,rfl,rfl,rfl⟩
          ·exact .inl hm
         ·simp[Bm]
       ·cases h
end
/-! ### The order of the text against any order -/
section
variable {c:Cx} {ops:Array Oper} {k:Nat} {anc:List (List Nat)} {σ0 σ':St} {en:Nat→En} {Q:Exit→Act→World→Prop}
theorem uU {o:Oper} {e:Edge} (he:e∈o.after) (hb:Region.binds .any e=true):e.on∈Dq o:=by
 simp only[Dq,List.mem_map,List.mem_filter]
 exact⟨e,⟨by simpa using he,hb⟩,rfl⟩
theorem DL {listed:Array Bool} {i:Nat}:i∈Region.ready .any ops listed↔listed.getD i true=false∧∃o,ops[i]?=some o∧∀e∈Dq o,listed.getD e false=true:=by
 rw[mem_ready]
 constructor
 ·rintro⟨h1,o,ho,h2⟩
  refine⟨h1,o,ho,fun e he=>?_⟩
  simp only[Dq,List.mem_map,List.mem_filter]at he
  obtain⟨x,⟨hx,hb⟩,rfl⟩:=he
  exact h2 x (by simpa using hx) hb
 ·rintro⟨h1,o,ho,h2⟩
  exact⟨h1,o,ho,fun e he hb=>h2 _ (uU he hb)⟩
structure VL (ops:Array Oper) (k:Nat) (anc:List (List Nat)):Prop where
 lt:∀i o,ops[i]?=some o→∀e∈Dq o,e<i
 cl:∀i o,ops[i]?=some o→∀j∈anc.getD i [],j∈Dq o∨∃e∈Dq o,j∈anc.getD e []
 front:∀i o,ops[i]?=some o→i<k→(∃d,o.dst=some d)∧(∀t∈Lu ops.toList o,∀j,j<k→Ak ops.toList j=some t→j∈anc.getD i [])∧∀j,j<i→Ak ops.toList j≠o.dst
 back:∀i o,ops[i]?=some o→k≤i→∀j,j<i→j∈anc.getD i []
 k:k≤ops.size
theorem A4l (h:cZ ops.toList k anc=true):VL ops k anc:=by
 simp only[cZ,Bool.and_eq_true,List.all_eq_true,List.mem_range,decide_eq_true_eq]at h
 obtain⟨hk,h⟩:=h
 have hi:∀i o,ops[i]?=some o→opB ops.toList k anc i o=true:=by
  intro i o ho
  have hlt:i<ops.toList.length:=by
   have:=(Array.getElem?_eq_some_iff.1 ho).1
   simpa using this
  have:=h i hlt
  have ho':ops.toList[i]?=some o:=by simpa using ho
  rw[ho']at this
  exact this
 refine⟨fun i o ho e he=>?_,fun i o ho j hj=>?_,fun i o ho hik=>?_,fun i o ho hik j hj=>?_,by simpa using hk⟩
 ·have:=hi i o ho
  simp only[opB,Bool.and_eq_true,List.all_eq_true,decide_eq_true_eq]at this
  exact this.1.1 e he
 ·have:=hi i o ho
  simp only[opB,Bool.and_eq_true,List.all_eq_true,Bool.or_eq_true,List.any_eq_true,Ag]at this
  exact this.1.2 j hj
 ·have:=hi i o ho
  simp only[opB,hik,if_true,Bool.and_eq_true,List.all_eq_true,List.mem_range,Bool.or_eq_true,Ag,bne_iff_ne]at this
  obtain⟨_,⟨h1,h2⟩,h3⟩:=this
  refine⟨Option.isSome_iff_exists.1 h1,fun t ht j hj hd=>?_,h3⟩
  rcases h2 t ht j hj with h4|h4
  ·exact absurd hd h4
  ·exact h4
 ·have:=hi i o ho
  simp only[opB,show ¬i<k by omega,if_false,Bool.and_eq_true,List.all_eq_true,List.mem_range,Ag]at this
  exact this.2 j hj
theorem SV (hc:VL ops k anc) {listed:Array Bool} (hcl:∀i o,ops[i]?=some o→listed.getD i true=true→∀e∈Dq o,listed.getD e false=true) :
  ∀i o,ops[i]?=some o→(∀e∈Dq o,listed.getD e false=true)→∀j∈anc.getD i [],listed.getD j false=true:=by
 intro i
 induction i using Nat.strongRecOn with
 | _ i ih =>
  intro o ho hd j hj
  rcases hc.cl i o ho j hj with h1|⟨e,he,hje⟩
  ·exact hd j h1
  ·have hlt:=hc.lt i o ho e he
   have hsz:i<ops.size:=(Array.getElem?_eq_some_iff.1 ho).1
   have hoe:ops[e]?=some (ops[e]'(by omega)):=Array.getElem?_eq_getElem (by omega)
   have hle:=hd e he
   have hle':listed.getD e true=true:=by
    by_cases hh:e<listed.size
    ·simp[Array.getD,hh]at hle ⊢;exact hle
    ·simp[Array.getD,hh]at hle
   exact ih e hlt _ hoe (hcl e _ hoe hle') j hje
theorem VM {l:List Oper} {p:Nat} {o:Oper} {r:List Oper} (h:l.drop p=o :: r):l[p]?=some o∧r=l.drop (p+1):=by
 constructor
 ·have:(l.drop p)[0]?=some o:=by rw[h];rfl
  simpa[List.getElem?_drop] using this
 ·rw[←List.drop_drop,h];rfl
theorem OE {F:Fence} {P:Program} (hc:VL ops k anc):∀ {rest:List Oper} {p:Nat} {listed:Array Bool} {a:Act} {w:World},ops.toList.drop p=rest→k≤p→p≤ops.size→listed.size=ops.size →
  (∀i,i<ops.size→(listed.getD i true=true↔i<p))→wpListIn F 0 P ops Q rest a w→wpAnyIn F 0 P .any ops Q rest.length listed a w
 | [],p,listed,a,w,hd,hkp,hps,hls,hl,hQ=>by
  have hp:p=ops.size:=by
   have:=congrArg List.length hd
   simp at this
   omega
  refine⟨?_,hQ⟩
  apply List.eq_nil_iff_forall_not_mem.2
  intro i hi
  rw[DL]at hi
  obtain⟨h1,o,ho,_⟩:=hi
  have hsz:i<ops.size:=(Array.getElem?_eq_some_iff.1 ho).1
  have:=(hl i hsz).2 (by omega)
  rw[h1]at this
  cases this
 | o :: r,p,listed,a,w,hd,hkp,hps,hls,hl,hQ=>by
  obtain⟨hop,hr⟩:=VM hd
  have hop:ops[p]?=some o:=by simpa using hop
  have hpsz:p<ops.size:=(Array.getElem?_eq_some_iff.1 hop).1
  have gd:∀e b,e<ops.size→listed.getD e b=listed.getD e true:=fun e b he=>by
   have:e<listed.size:=by omega
   simp[Array.getD,this]
  have hcl:∀i o,ops[i]?=some o→listed.getD i true=true→∀e∈Dq o,listed.getD e false=true:=by
   intro i o ho h1 e he
   have hsz:i<ops.size:=(Array.getElem?_eq_some_iff.1 ho).1
   have h2:=(hl i hsz).1 h1
   have h3:=hc.lt i o ho e he
   rw[gd e false (by omega)]
   exact(hl e (by omega)).2 (by omega)
  have hready:∀i,i∈Region.ready .any ops listed→i=p:=by
   intro i hi
   rw[DL]at hi
   obtain⟨h1,o',ho',h2⟩:=hi
   have hsz:i<ops.size:=(Array.getElem?_eq_some_iff.1 ho').1
   have hge:¬i<p:=fun hlt=>by rw[(hl i hsz).2 hlt]at h1;cases h1
   by_cases hip:i=p
   ·exact hip
   ·have h3:=SV hc hcl i o' ho' h2 p (hc.back i o' ho' (by omega) p (by omega))
    rw[gd p false hpsz]at h3
    have:=(hl p hpsz).1 h3
    omega
  refine⟨fun hnil=>?_,fun i hi=>?_⟩
  ·exfalso
   have:p∈Region.ready .any ops listed:=by
    rw[DL]
    refine⟨?_,o,hop,fun e he=>?_⟩
    ·cases hh:listed.getD p true with
     | false=>rfl
     | true=>have:=(hl p hpsz).1 hh;omega
    ·have:=hc.lt p o hop e he
     rw[gd e false (by omega)]
     exact(hl e (by omega)).2 this
   rw[hnil]at this
   cases this
  ·have hip:=hready i hi
   subst hip
   have hnext:∀(j:Nat),j<ops.size→((listed.setIfInBounds i true).getD j true=true↔j<i+1):=by
    intro j hj
    have hjl:j<listed.size:=by omega
    by_cases hji:j=i
    ·subst hji
     simp[Array.getD,hjl]
    ·have h1:(listed.setIfInBounds i true).getD j true=listed.getD j true:=getD_set_ne true (fun e=>hji e.symm)
     rw[h1,hl j hj]
     omega
   unfold wpOpIn
   rw[hop]
   simp only
   unfold wpListIn at hQ
   split
   ·rename_i hw
    rw[if_pos hw]at hQ
    exact Oper.wpIn_mono (fun a' w' h'=>OE hc hr.symm (by omega) (by omega) (by simpa using hls) hnext h') hQ
   ·rename_i hw
    rw[if_neg hw]at hQ
    exact⟨hQ.1,OE hc hr.symm (by omega) (by omega) (by simpa using hls) hnext hQ.2⟩
end
end
/- Any order: the rule. -/
section
open Go Go.RowKit
theorem EY:∀(k:Nat) (l:List Nat),l.Nodup→(∀j∈l,j<k)→l.length≤k
 | 0,l,_,h=>by
  cases l with
  | nil=>simp
  | cons x r=>have:=h x (by simp);omega
 | k+1,l,hn,h=>by
  by_cases hk:k∈l
  ·have:=EY k (l.erase k) (hn.erase k) (fun j hj=>by
    have h1:=(hn.mem_erase_iff).1 hj
    have:=h j h1.2
    have:=h1.1
    omega)
   rw[List.length_erase_of_mem hk]at this
   omega
  ·have:=EY k l hn (fun j hj=>by
    have:=h j hj
    have:j≠k:=fun e=>hk (e▸hj)
    omega)
   omega
theorem gM:∀(k:Nat) (l:List Nat),(∀j,j<k→j∈l)→k≤l.length
 | 0,l,_=>by simp
 | k+1,l,h=>by
  have hk:=h k (by omega)
  have:=gM k (l.erase k) (fun j hj=>(List.mem_erase_of_ne (by omega)).2 (h j (by omega)))
  rw[List.length_erase_of_mem hk]at this
  have:=List.length_pos_of_mem hk
  omega
theorem SW {c:Cx} {σ σ':St} {a:Act} {w:World} (he:∀s,lk s σ'.env=lk s σ.env) (ho:∀n,lk n σ'.objs=lk n σ.objs) (h:c.sat σ a w):c.sat σ' a w:=by
 obtain⟨ρ,h⟩:=h
 have hliv:GZ σ'=GZ σ:=by
  funext n
  simp only[GZ,ho]
 have hvw:∀w,vw w c.O0 σ' ρ=vw w c.O0 σ ρ:=by
  intro w
  have hown:own c.O0 σ' ρ=own c.O0 σ ρ:=by
   funext b
   simp only[own,hliv]
  simp only[vw,hliv,hown]
 refine⟨ρ,h.frm,h.nt,h.defers,fun p hp=>by rw[hliv];exact h.pin p hp,?_,?_,?_,?_⟩
 ·intro n o hn;rw[hvw];exact h.objs n o (by rw[←ho];exact hn)
 ·intro n b hl hb;exact h.free n b (by rw[←hliv];exact hl) hb
 ·intro n m b h1 h2;rw[hliv]at h1 h2;exact h.dist n m b h1 h2
 ·intro s v hs;rw[hvw];exact h.env s v (by rw[←he];exact hs)
theorem Y4 {c:Cx} {σ:St} {a:Act} {w:World} (h:c.sat σ a w):c.sat σ a { w with drawn:=w.drawn+1 }:=by
 obtain⟨ρ,h⟩:=h
 have hk:Ck (vw w c.O0 σ ρ) (vw { w with drawn:=w.drawn+1 } c.O0 σ ρ):=⟨fun _ _ h=>h,fun _ h=>h,fun _ _=>rfl,fun _ _ _=>rfl⟩
 exact⟨ρ,⟨h.frm.os,h.frm.tape,h.frm.output,h.frm.size,h.frm.block⟩,h.nt,h.defers,h.pin,fun n o ho=>(h.objs n o ho).keeps hk fun _ _=>rfl,h.free,h.dist,fun s v hs=>(h.env s v hs).keeps hk⟩
theorem Rd {c:Cx} {σ σ':St} {a:Act} {w:World} (he:∀s v,lk s σ'.env=some v→lk s σ.env=some v) (ho:∀n,lk n σ'.objs=lk n σ.objs) (h:c.sat σ a w):c.sat σ' a w:=by
 have h2:c.sat ⟨σ.env,σ'.objs⟩ a w:=SW (σ:=σ) (fun _=>rfl) ho h
 obtain⟨ρ,h⟩:=h2
 exact⟨ρ,h.frm,h.nt,h.defers,h.pin,h.objs,h.free,h.dist,fun s v hs=>h.env s v (he s v hs)⟩
theorem Km {c:Cx} {ops:Array Oper} {σ:St} {a:Act} {w:World} (hs:c.sat σ a w) {o:Oper} {b:Bool} (h:Jb ops.toList σ b o.guard):Region.wanted o (yielded ops a.tmps)=b:=by
 cases hg:o.guard with
 | none =>
  rw[hg]at h
  simp only[Jb]at h
  simp[Region.wanted,hg,h]
 | some g =>
  obtain⟨j,want⟩:=g
  rw[hg]at h
  simp only[Jb]at h
  obtain⟨s,hd,h⟩:=h
  rcases h with ⟨x,hl,rfl⟩|⟨hl,rfl⟩
  ·refine Gq hs ?_
   rw[hg]
   simp only[EU]
   simp only[Ak]at hd
   rw[hd]
   simp only[JT,hl,PC]
  ·obtain⟨ρ,hs⟩:=hs
   have hv:a.tmps.getD s undef=undef:=hs.env s _ hl
   have hj':(ops[j]?).bind (·.dst)=some s:=by simpa[Ak] using hd
   have hy:yielded ops a.tmps j=none:=by
    simp only[yielded,hj',Option.bind_some]
    by_cases hlt:s<a.tmps.size
    ·have:a.tmps.getD s undef=a.tmps[s]:=by simp[Array.getD,hlt]
     rw[this]at hv
     rw[Array.getElem?_eq_getElem hlt,hv]
     rfl
    ·rw[Array.getElem?_eq_none (by omega)]
   simp[Region.wanted,hg,hy]
section
variable {c:Cx} {ops:Array Oper} {k:Nat} {q:Bool} {anc:List (List Nat)} {σ0 σ':St} {en:Nat→En} {Q:Exit→Act→World→Prop}
theorem A3p (hF:∀j o,j<k→ops[j]?=some o→ST c.tb ops.toList q σ0 en j o) (hk:k≤ops.size):Sep σ0 en k:=by
 have one:∀j,j<k→∀n o,lk n (en j).obs=some o→lk n (Ao ops.toList en σ0 (Ai j)).objs=none:=by
  intro j hj n o hn
  have hoj:ops[j]?=some (ops[j]'(by omega)):=Array.getElem?_eq_getElem (by omega)
  have h1:=hF j _ hj hoj
  cases hb:(en j).b with
  | true =>
   obtain⟨_,_,_,hf⟩:=h1.t hb
   exact Mn hf hn
  | false =>
   rw[(h1.f hb).2]at hn
   simp[lk]at hn
 have low:∀i j,i<j→j<k→∀n o o',lk n (en i).obs=some o→lk n (en j).obs=some o'→False:=by
  intro i j hij hj n o o' h1 h2
  have:=one j hj n o' h2
  rw[FA,Ax]at this
  cases hl:lk n ((Ai j).flatMap fun j=>(en j).obs) with
  | some x=>rw[hl]at this;simp at this
  | none =>
   have:=Jd hl i (A9.2 hij)
   rw[this]at h1
   cases h1
 refine⟨fun j hj n o hn=>?_,fun i j hi hj n o o' h1 h2=>?_⟩
 ·have:=one j hj n o hn
  rw[FA,Ax]at this
  cases hl:lk n ((Ai j).flatMap fun j=>(en j).obs) with
  | some x=>rw[hl]at this;simp at this
  | none=>rw[hl]at this;simpa using this
 ·rcases Nat.lt_trichotomy i j with h|h|h
  ·exact(low i j h hj n o o' h1 h2).elim
  ·exact h
  ·exact(low j i h hi n o' o h2 h1).elim
theorem Y5 (hc:VL ops k anc) {l:List Nat} (hl:∀j∈l,j<k) {s j:Nat} (hj:j∈l) (hd:Ak ops.toList j=some s):l.find? (fun j=>Ak ops.toList j==some s)=some j:=by
 have hu:∀i,i∈l→Ak ops.toList i=some s→i=j:=by
  intro i hi hdi
  have h1:=hl i hi
  have h2:=hl j hj
  have hks:=hc.k
  have get:∀x,x<k→Ak ops.toList x=(ops[x]?).bind (·.dst):=fun x _=>by simp[Ak]
  rcases Nat.lt_trichotomy i j with h|h|h
  ·have ho:ops[j]?=some (ops[j]'(by omega)):=Array.getElem?_eq_getElem (by omega)
   have:=(hc.front j _ ho h2).2.2 i h
   rw[get j h2,ho]at hd
   rw[hdi]at this
   exact absurd hd.symm this
  ·exact h
  ·have ho:ops[i]?=some (ops[i]'(by omega)):=Array.getElem?_eq_getElem (by omega)
   have:=(hc.front i _ ho h1).2.2 j h
   rw[get i h1,ho]at hdi
   rw[hd]at this
   exact absurd hdi.symm this
 cases hf:l.find? (fun j=>Ak ops.toList j==some s) with
 | none =>
  have:=List.find?_eq_none.1 hf j hj
  simp[hd]at this
 | some i =>
  have h1:=List.mem_of_find?_eq_some hf
  have h2:=List.find?_some hf
  rw[hu i h1 (by simpa using h2)]
theorem SX (hc:VL ops k anc) {l l':List Nat} (hl:∀j∈l,j<k) (hl':∀j∈l',j<k) {s:Nat} (h:∀j,j<k→Ak ops.toList j=some s→j∈l∧j∈l') :
  lk s (Ao ops.toList en σ0 l).env=lk s (Ao ops.toList en σ0 l').env:=by
 rw[FB,FB]
 by_cases hx:∃j,j<k∧Ak ops.toList j=some s
 ·obtain⟨j,hj,hd⟩:=hx
  have:=h j hj hd
  rw[Y5 hc hl this.1 hd,Y5 hc hl' this.2 hd]
 ·have none:∀l:List Nat,(∀j∈l,j<k)→l.find? (fun j=>Ak ops.toList j==some s)=none:=by
   intro l hl
   apply List.find?_eq_none.2
   intro j hj hd
   exact hx ⟨j,hl j hj,by simpa using hd⟩
  rw[none l hl,none l' hl']
theorem p4 (hok:c.Ok) (hc:VL ops k anc) (hdst:∀o∈ops.toList,HD c.nt o=true) (hF:∀j o,j<k→ops[j]?=some o→ST c.tb ops.toList false σ0 en j o)
  {σ2:St} (h2e:∀s v,lk s σ2.env=some v→lk s (Ao ops.toList en σ0 (Ai k)).env=some v) (h2o:σ2.objs=(Ao ops.toList en σ0 (Ai k)).objs) (hT:∀a' w',c.sat σ2 a' w'→wpListIn (FR c.r) 0 c.P ops Q (ops.toList.drop k) a' w') :
  ∀(m:Nat) (ex:List Nat) (listed:Array Bool) (a:Act) (w:World),ex.Nodup→(∀j∈ex,j<k)→m+ex.length=ops.size→listed.size=ops.size→(∀i,i<ops.size→(listed.getD i true=true↔i∈ex)) →
   (∀i o,ops[i]?=some o→i∈ex→∀e∈Dq o,e∈ex)→c.sat (Ao ops.toList en σ0 ex) a w→wpAnyIn (FR c.r) 0 c.P .any ops Q m listed a w:=by
 have hks:=hc.k
 have hsep:=A3p hF hks
 intro m
 induction m with
 | zero =>
  intro ex listed a w hnd hex hm hls hl hcl hs
  have h1:=EY k ex hnd hex
  have hkk:k=ops.size:=by omega
  by_cases hall:∀j,j<k→j∈ex
  ·have hdk:ops.toList.drop k=[]:=by simp[hkk]
   have hs':c.sat σ2 a w:=Rd h2e (fun _=>by rw[h2o]) <| SW
    (fun s=>(SX hc hex (fun j hj=>A9.1 hj) fun j hj _=>⟨hall j hj,A9.2 hj⟩).symm)
    (fun n=>Option.ext fun o=>by
     rw[EX hsep (fun j hj=>A9.1 hj),EX hsep hex]
     simp only[A9]
     constructor
     ·rintro (⟨j,hj,h⟩|⟨h1,h2⟩)
      ·exact .inl ⟨j,hall j hj,h⟩
      ·exact .inr ⟨fun j hj=>h1 j (hex j hj),h2⟩
     ·rintro (⟨j,hj,h⟩|⟨h1,h2⟩)
      ·exact .inl ⟨j,hex j hj,h⟩
      ·exact .inr ⟨fun j hj=>h1 j (hall j hj),h2⟩) hs
   have:=OE (Q:=Q) (F:=FR c.r) (P:=c.P) hc (rest:=[]) (p:=k) (listed:=listed) (a:=a) (w:=w) hdk (Nat.le_refl _) hks hls (fun i hi=>by
    rw[hl i hi]
    exact⟨hex i,hall i⟩) (by rw[←hdk];exact hT a w hs')
   exact this
  ·exfalso
   apply hall
   intro j hj
   apply Classical.byContradiction
   intro hne
   have:=EY k (j :: ex) (List.nodup_cons.2 ⟨hne,hnd⟩) (fun i hi=>by
    rcases List.mem_cons.1 hi with rfl|hi
    ·exact hj
    ·exact hex i hi)
   simp at this
   omega
 | succ m ih =>
  intro ex listed a w hnd hex hm hls hl hcl hs
  have gd:∀e b,e<ops.size→listed.getD e b=listed.getD e true:=fun e b he=>by
   have:e<listed.size:=by omega
   simp[Array.getD,this]
  by_cases hall:∀j,j<k→j∈ex
  ·have hlen:ex.length=k:=Nat.le_antisymm (EY k ex hnd hex) (gM k ex hall)
   have hs':c.sat σ2 a w:=Rd h2e (fun _=>by rw[h2o]) <| SW
    (fun s=>(SX hc hex (fun j hj=>A9.1 hj) fun j hj _=>⟨hall j hj,A9.2 hj⟩).symm)
    (fun n=>Option.ext fun o=>by
     rw[EX hsep (fun j hj=>A9.1 hj),EX hsep hex]
     simp only[A9]
     constructor
     ·rintro (⟨j,hj,h⟩|⟨h1,h2⟩)
      ·exact .inl ⟨j,hall j hj,h⟩
      ·exact .inr ⟨fun j hj=>h1 j (hex j hj),h2⟩
     ·rintro (⟨j,hj,h⟩|⟨h1,h2⟩)
      ·exact .inl ⟨j,hex j hj,h⟩
      ·exact .inr ⟨fun j hj=>h1 j (hall j hj),h2⟩) hs
   have:=OE (Q:=Q) (F:=FR c.r) (P:=c.P) hc (rest:=ops.toList.drop k) (p:=k) (listed:=listed) (a:=a) (w:=w) rfl (Nat.le_refl _) hks hls (fun i hi=>by
    rw[hl i hi]
    exact⟨hex i,hall i⟩) (hT a w hs')
   rw[show (ops.toList.drop k).length=m+1 by simp;omega]at this
   exact this
  ·refine⟨fun hnil=>?_,fun i hi=>?_⟩
   ·exfalso
    apply hall
    intro j
    induction j using Nat.strongRecOn with
    | _ j ihj =>
     intro hj
     apply Classical.byContradiction
     intro hne
     have hoj:ops[j]?=some (ops[j]'(by omega)):=Array.getElem?_eq_getElem (by omega)
     have:j∈Region.ready .any ops listed:=by
      rw[DL]
      refine⟨?_,_,hoj,fun e he=>?_⟩
      ·cases hh:listed.getD j true with
       | false=>rfl
       | true=>exact absurd ((hl j (by omega)).1 hh) hne
      ·have h3:=hc.lt j _ hoj e he
       rw[gd e false (by omega)]
       exact(hl e (by omega)).2 (ihj e h3 (by omega))
     rw[hnil]at this
     cases this
   ·rw[DL]at hi
    obtain⟨h1,o,ho,h2⟩:=hi
    have hsz:i<ops.size:=(Array.getElem?_eq_some_iff.1 ho).1
    have hnex:i∉ex:=fun h=>by rw[(hl i hsz).2 h]at h1;cases h1
    have hdir:∀e∈Dq o,e∈ex:=fun e he=>by
     have h3:=hc.lt i o ho e he
     have h4:=h2 e he
     rw[gd e false (by omega)]at h4
     exact(hl e (by omega)).1 h4
    have hanc:∀j∈anc.getD i [],j∈ex:=by
     have hcl':∀i o,ops[i]?=some o→listed.getD i true=true→∀e∈Dq o,listed.getD e false=true:=by
      intro i o ho h1 e he
      have hsz:i<ops.size:=(Array.getElem?_eq_some_iff.1 ho).1
      have h3:=hc.lt i o ho e he
      rw[gd e false (by omega)]
      exact(hl e (by omega)).2 (hcl i o ho ((hl i hsz).1 h1) e he)
     intro j hj
     have h3:=SV hc hcl' i o ho h2 j hj
     by_cases hjs:j<ops.size
     ·rw[gd j false hjs]at h3
      exact(hl j hjs).1 h3
     ·have:¬j<listed.size:=by omega
      simp[Array.getD,this]at h3
    have hik:i<k:=by
     apply Classical.byContradiction
     intro hge
     exact hall fun j hj=>hanc j (hc.back i o ho (by omega) j (by omega))
    have hfr:=hc.front i o ho hik
    obtain⟨d,hd⟩:=hfr.1
    have hdd:Ak ops.toList i=o.dst:=by simp[Ak,ho]
    have hslot:∀t∈Lu ops.toList o,lk t (Ao ops.toList en σ0 ex).env=lk t (Ao ops.toList en σ0 (Ai i)).env:=by
     intro t ht
     refine SX hc hex (fun j hj=>by have:=A9.1 hj;omega) fun j hj hdj=>?_
     have hja:=hfr.2.1 t ht j hj hdj
     refine⟨hanc j hja,A9.2 ?_⟩
     have:∀i o,ops[i]?=some o→∀j∈anc.getD i [],j<i:=by
      intro i
      induction i using Nat.strongRecOn with
      | _ i ihi =>
       intro o ho j hj
       rcases hc.cl i o ho j hj with h5|⟨e,he,hje⟩
       ·exact hc.lt i o ho j h5
       ·have h6:=hc.lt i o ho e he
        have hsz:i<ops.size:=(Array.getElem?_eq_some_iff.1 ho).1
        have:=ihi e h6 _ (Array.getElem?_eq_getElem (by omega)) j hje
        omega
     exact this i o ho j hja
    have hops:Ops ⟨(Ao ops.toList en σ0 (Ai i)).env,Bm false (GL o.op) σ0.objs (ES ops.toList en (Ai i))⟩ (Ao ops.toList en σ0 ex) o.op.operands.toList:=by
     intro x hx v hv
     cases x with
     | tmp t =>
      simp only[Av]at hv ⊢
      rw[hslot t (by
       simp only[Lu,List.mem_append,List.mem_filterMap]
       exact .inl ⟨_,hx,rfl⟩)]
      exact hv
     | const v'=>exact hv
     | global g=>exact hv
     | func f=>exact hv
    have hobs:YU ⟨(Ao ops.toList en σ0 (Ai i)).env,Bm false (GL o.op) σ0.objs (ES ops.toList en (Ai i))⟩ (Ao ops.toList en σ0 ex):=by
     intro n o' hn
     refine uT hsep (fun j hj=>by have:=A9.1 hj;omega) hex (fun j hj hjA=>?_) hn
     have hji:=A9.1 hj
     have hoj:ops[j]?=some (ops[j]'(by omega)):=Array.getElem?_eq_getElem (by omega)
     obtain⟨dj,hdj⟩:=(hc.front j _ hoj (by omega)).1
     have hdj':Ak ops.toList j=some dj:=by simp[Ak,hoj,hdj]
     rw[hdj']at hjA
     simp only[Bool.false_or,Option.getD_some,Ag]at hjA
     refine hanc j (hfr.2.1 dj ?_ j (by omega) hdj')
     simp only[Lu,List.mem_append]
     exact .inl hjA
    have hfi:=hF i o hik ho
    have hg:Jb ops.toList (Ao ops.toList en σ0 ex) (en i).b o.guard:=by
     have hg:=hfi.g
     cases hgd:o.guard with
     | none=>rw[hgd]at hg;exact hg
     | some g =>
      obtain⟨j,want⟩:=g
      rw[hgd]at hg
      simp only[Jb]at hg ⊢
      obtain⟨s,hds,hg⟩:=hg
      refine⟨s,hds,?_⟩
      rw[hslot s (by
       simp only[Lu,hgd,List.mem_append,hds]
       exact .inr (by simp))]
      exact hg
    have hw:=Km hs hg
    have hmem:o∈ops.toList:=by
     have:o∈ops:=Array.mem_of_getElem? ho
     simpa using this
    have hdo:=Cb (hdst o hmem)
    have hstep:∀a' w',c.sat ((Ao ops.toList en σ0 ex).add (en i).v (en i).obs o.dst) a' w'→wpAnyIn (FR c.r) 0 c.P .any ops Q m (listed.setIfInBounds i true) a' w':=by
     intro a' w' hs'
     refine ih (i :: ex) _ a' w' (List.nodup_cons.2 ⟨hnex,hnd⟩) (fun j hj=>?_) (by simp;omega) (by simpa using hls) (fun j hj=>?_) (fun i' o' ho' hi' e he=>?_) (by simp only[Ao,hdd];exact hs')
     ·rcases List.mem_cons.1 hj with rfl|hj
      ·exact hik
      ·exact hex j hj
     ·have hjl:j<listed.size:=by omega
      by_cases hji:j=i
      ·subst hji
       simp[Array.getD,hjl]
      ·have h3:(listed.setIfInBounds i true).getD j true=listed.getD j true:=getD_set_ne true (fun e=>hji e.symm)
       rw[h3,hl j hj]
       simp[hji]
     ·rcases List.mem_cons.1 hi' with rfl|hi'
      ·rw[ho]at ho';cases ho'
       exact List.mem_cons_of_mem _ (hdir e he)
      ·exact List.mem_cons_of_mem _ (hcl i' o' ho' hi' e he)
    unfold wpOpIn
    rw[ho]
    simp only
    cases hbb:(en i).b with
    | true =>
     rw[hbb]at hw
     rw[if_pos hw]
     obtain⟨vc1,hq,hvc1,hfresh⟩:=hfi.t hbb
     obtain⟨ρ,hsρ⟩:=hs
     have hq':=Rc hobs hops hq
     have hfresh':BT (en i).obs (Ao ops.toList en σ0 ex)=true:=by
      simp only[BT,List.all_eq_true]at hfresh ⊢
      intro p hp
      have hsome:∃o',lk p.1 (en i).obs=some o':=by
       have:∀(l:List (Nat×Obj)),p∈l→∃o',lk p.1 l=some o':=by
        intro l
        induction l with
        | nil=>intro h;cases h
        | cons q r ihr =>
         intro h
         obtain⟨q1,q2⟩:=q
         simp only[lk]
         by_cases he:p.1=q1
         ·exact⟨q2,by rw[if_pos he]⟩
         ·rw[if_neg he]
          rcases List.mem_cons.1 h with rfl|h
          ·exact absurd rfl he
          ·exact ihr h
       exact this _ hp
      obtain⟨o',ho'⟩:=hsome
      have:lk p.1 (Ao ops.toList en σ0 ex).objs=none:=by
       cases hl3:lk p.1 (Ao ops.toList en σ0 ex).objs with
       | none=>rfl
       | some o2 =>
        rw[EX hsep hex]at hl3
        rcases hl3 with ⟨j,hj,hj2⟩|⟨_,hj2⟩
        ·have:=hsep.2 i j hik (hex j hj) p.1 o' o2 ho' hj2
         subst this
         exact absurd hj hnex
        ·rw[hsep.1 i hik p.1 o' ho']at hj2;cases hj2
      simp[this]
     exact gE (A0b hok hsρ) hq' hvc1 hfresh' fun u ρ' w' hqs=>hstep _ _ ⟨ρ',hsρ.add hok.K hok.O hdo hfresh' hqs⟩
    | false =>
     rw[hbb]at hw
     rw[if_neg (by simp[hw])]
     refine⟨fun _ _=>trivial,?_⟩
     have:=hfi.f hbb
     have h5:=Ll hok hs hdo
     refine hstep _ _ ?_
     rw[this.1,this.2]
     exact h5
end
/-! ### The order of the text -/
theorem p5 {c:Cx} {ops:Array Oper} {k:Nat} {σ0:St} {en:Nat→En} {Q:Exit→Act→World→Prop} (hok:c.Ok) (hdst:∀o∈ops.toList,HD c.nt o=true) (hF:∀j o,j<k→ops[j]?=some o→ST c.tb ops.toList true σ0 en j o) (hk:k≤ops.size)
  {σ2:St} (h2e:∀s v,lk s σ2.env=some v→lk s (Ao ops.toList en σ0 (Ai k)).env=some v) (h2o:σ2.objs=(Ao ops.toList en σ0 (Ai k)).objs) (hT:∀a' w',c.sat σ2 a' w'→wpListIn (FR c.r) 0 c.P ops Q (ops.toList.drop k) a' w'):∀(m i:Nat) (a:Act) (w:World),m+i=k→c.sat (Ao ops.toList en σ0 (Ai i)) a w→wpListIn (FR c.r) 0 c.P ops Q (ops.toList.drop i) a w:=by
 intro m
 induction m with
 | zero =>
  intro i a w hi hs
  have:i=k:=by omega
  subst this
  exact hT _ _ (Rd h2e (fun _=>by rw[h2o]) hs)
 | succ m ih =>
  intro i a w hi hs
  have hio:ops[i]?=some (ops[i]'(by omega)):=Array.getElem?_eq_getElem (by omega)
  generalize ops[i]'(by omega)=o at hio
  have hd:ops.toList.drop i=o :: ops.toList.drop (i+1):=by
   have:i<ops.toList.length:=by simp;omega
   rw[List.drop_eq_getElem_cons this]
   congr 1
   have h2:ops.toList[i]?=some o:=by simpa using hio
   rw[List.getElem?_eq_getElem this]at h2
   injection h2
  rw[hd]
  have hfi:=hF i o (by omega) hio
  have hw:=Km hs hfi.g
  have hmem:o∈ops.toList:=by
   have:o∈ops:=Array.mem_of_getElem? hio
   simpa using this
  have hdo:=Cb (hdst o hmem)
  have hdd:Ak ops.toList i=o.dst:=by simp[Ak,hio]
  have hstep:∀a' w',c.sat ((Ao ops.toList en σ0 (Ai i)).add (en i).v (en i).obs o.dst) a' w'→wpListIn (FR c.r) 0 c.P ops Q (ops.toList.drop (i+1)) a' w':=by
   intro a' w' hs'
   exact ih (i+1) a' w' (by omega) (by simp only[Ai,Ao,hdd];exact hs')
  unfold wpListIn
  cases hbb:(en i).b with
  | true =>
   rw[hbb]at hw
   rw[if_pos hw]
   obtain⟨vc1,hq,hvc1,hfresh⟩:=hfi.t hbb
   obtain⟨ρ,hsρ⟩:=hs
   have hobjs:∀l:List Nat,Bm true (GL o.op) σ0.objs (ES ops.toList en l)=(Ao ops.toList en σ0 l).objs:=by
    intro l
    rw[FA]
    induction l with
    | nil=>rfl
    | cons x r ihr=>simp only[ES,List.map_cons,Bm,Bool.true_or,if_true,List.flatMap_cons,List.append_assoc]at ihr ⊢;rw[ihr]
   have hq':aq c.tb (Ao ops.toList en σ0 (Ai i)) (o.dst.getD 0) o.op=some (vc1,(en i).v,(en i).obs):=by
    rw[hobjs]at hq;exact hq
   exact gE (A0b hok hsρ) hq' hvc1 hfresh fun u ρ' w' hqs=>hstep _ _ ⟨ρ',hsρ.add hok.K hok.O hdo hfresh hqs⟩
  | false =>
   rw[hbb]at hw
   rw[if_neg (by simp[hw])]
   refine⟨fun _ _=>trivial,?_⟩
   have:=hfi.f hbb
   have h5:=Ll hok hs hdo
   refine hstep _ _ ?_
   rw[this.1,this.2]
   exact h5
theorem Lv {tb:Tb} {ops:List Oper} {q:Bool} {base:List (Nat×Obj)} {rest:List Oper}:∀ {fr:List Oper} {i:Nat} {E:List (Nat×List (Nat×Obj))} {G:Gs} {σ σ':St} {vc:Prop},Kl tb ops q base rest fr i E G σ=some (vc,σ')→vc →
  ∃(vc1 vc2:Prop) (σ1:St),Kl tb ops q base [] fr i E G σ=some (vc1,σ1)∧vc1∧Bi tb ops rest σ1=some (vc2,σ')∧vc2
 | [],i,E,G,σ,σ',vc,h,hvc=>by
  simp only[Kl]at h
  exact⟨True,vc,σ,by simp only[Kl,Bi],trivial,h,hvc⟩
 | o :: r,i,E,G,σ,σ',vc,h,hvc=>by
  simp only[Kl]at h
  cases hg:HH ops G σ.env i o.guard with
  | none=>rw[hg]at h;simp[evMG]at h
  | some p =>
   obtain⟨c,T⟩:=p
   rw[hg]at h
   simp only[evMG]at h
   cases hq:uS tb ops q base c G E σ.env o (HI o.op) with
   | none=>rw[hq]at h;cases c<;>simp[evMQ]at h
   | some x =>
    obtain⟨vc0,v,obs⟩:=x
    rw[hq]at h
    cases c with
    | nil =>
     cases hd:o.dst with
     | none=>rw[hd]at h;simp[evMQ]at h
     | some d =>
      rw[hd]at h
      simp only[evMQ]at h
      split at h
      ·rename_i hf
       cases hr:Kl tb ops q base rest r (i+1) (Iu d obs E) G (σ.add v obs (some d)) with
       | none=>rw[hr]at h;simp[Uc]at h
       | some y =>
        obtain⟨vc',σ2⟩:=y
        rw[hr]at h
        simp only[Uc]at h
        cases h
        obtain⟨vc1,vc2,σ1,h1,h2,h3,h4⟩:=Lv hr hvc.2
        exact⟨vc0∧vc1,vc2,σ1,by simp only[Kl,hg,evMG,hq,hd,evMQ,h1,Uc];rw[if_pos hf],⟨hvc.1,h2⟩,h3,h4⟩
      ·cases h
    | cons g c =>
     cases obs with
     | cons z zs=>cases hd:o.dst<;>rw[hd]at h<;>simp[evMQ]at h
     | nil =>
      cases hd:o.dst with
      | none=>rw[hd]at h;simp[evMQ]at h
      | some d =>
       rw[hd]at h
       simp only[evMQ]at h
       split at h
       ·rename_i hf
        cases hr:Kl tb ops q base rest r (i+1) E ((d,g :: c,T,v) :: G) σ with
        | none=>rw[hr]at h;simp[Uc]at h
        | some y =>
         obtain⟨vc',σ2⟩:=y
         rw[hr]at h
         simp only[Uc]at h
         cases h
         obtain⟨vc1,vc2,σ1,h1,h2,h3,h4⟩:=Lv hr hvc.2
         exact⟨(T=true→vc0)∧vc1,vc2,σ1,by simp only[Kl,hg,evMG,hq,hd,evMQ,h1,Uc];rw[if_pos hf],⟨hvc.1,h2⟩,h3,h4⟩
       ·cases h
theorem A4m {ops:List Oper} {q:Bool} {σ0:St} {en:Nat→En}:Inv ops q σ0 en 0 [] [] σ0 :=
 { env:=fun _ _ h=>h,G:=fun s c T v h=>absurd h (by simp),f:=fun j hj=>absurd hj (by omega),objs:=rfl,E:=fun _=>rfl }
section
variable {c:Cx} {R:Exit→Act→World→Prop} {k:List D0} {σ σ':St}
def NY (c:Cx) (R:Exit→Act→World→Prop) (k:List D0) (ops:Array Oper) (l:List Oper) (σ:St):Prop :=
 (∀o∈l,HD c.nt o=true)→Cr c.nt k=true→∀a w,c.sat σ a w→wpListIn (FR c.r) 0 c.P ops (RZ c R k) l a w
theorem A0h {ops:Array Oper} (h:Ev c R (.out .normal) k σ):NY c R k ops [] σ:=fun _ h2 a w hs=>h rfl h2 a w hs
theorem Re (hc:c.Ok) {ops:Array Oper} {l:List Oper} (n:Nat) {vc:Prop} (h:Bi c.tb ops.toList (l.take n) σ=some (vc,σ')) (hvc:vc) (hk:NY c R k ops (l.drop n) σ'):NY c R k ops l σ:=by
 intro h1 h2 a w hs
 have:=PH (r:=l.drop n) hc (l.take n) hs (fun o ho=>h1 o (List.mem_of_mem_take ho)) h hvc (fun a' w' hs'=>hk (fun o ho=>h1 o (List.mem_of_mem_drop ho)) h2 a' w' hs')
 rwa [List.take_append_drop]at this
theorem uV (hm:c.P.follows .mixedOrders=true) (hc:c.Ok) {id:Nat} {l:List Oper} (n:Nat) (hchk:OA l (l.take n).length=true) {vc:Prop}
  (h:Kl c.tb l false σ.objs [] (l.take n) 0 [] [] σ=some (vc,σ')) (hvc:vc) (hk:NY c R k l.toArray (l.drop n) σ') :
  Ev c R (.run (.region id l.toArray true)) k σ:=by
 intro h1 h2 a w hs
 simp only[Hv,Bz,List.all_eq_true]at h1
 have hchk:=A4l (ops:=l.toArray) (k:=(l.take n).length) (anc:=uR l) (by simpa only[OA] using hchk)
 have hu:c7 l (l.take n).length:=by
  intro x y hxy hy
  have hyl:y<l.length:=by simp at hy;omega
  have hoy:l.toArray[y]?=some l[y]:=by simp[hyl]
  have:=(hchk.front y _ hoy hy).2.2 x hxy
  simpa[Ak,hyl] using this
 obtain⟨en,_,hF,vc',σ2,hb,hvc',h2e,h2o⟩:=PO (ops:=l) (q:=false) (σ0:=σ) (en:=fun _=>⟨false,.top,[]⟩) hu h hvc A4m (by simp) (fun j hj=>by
  have hj:j<(l.take n).length:=hj
  rw[Nat.zero_add,List.getElem?_take]
  simp only[List.length_take]at hj
  rw[if_pos (by omega)])
 refine wpIn_region_any hm ?_
 have hdrop:l.drop (l.take n).length=l.drop n:=by
  by_cases h:n≤l.length
  ·simp[h]
  ·rw[List.drop_eq_nil_of_le (by simp;omega),List.drop_eq_nil_of_le (by omega)]
 simp only[Bi]at hb
 cases hb
 have:=p4 (c:=c) (ops:=l.toArray) (k:=(l.take n).length) (σ0:=σ) (en:=en) (Q:=RZ c R k) hc hchk (by simpa using h1)
  (fun j o hj ho=>hF j o (by omega) hj (by simpa using ho)) (σ2:=σ') h2e h2o (fun a' w' hs'=>by
   rw[show (l.toArray.toList.drop _)=l.drop n from hdrop]
   exact hk (fun o ho=>h1 o (by simpa using List.mem_of_mem_drop ho)) h2 a' w' hs')
  l.toArray.size [] (Array.replicate l.toArray.size false) a { w with drawn:=w.drawn+1 } (by simp) (by simp) (by simp) (by simp) (fun i hi=>by simp at hi;simp[Array.getD,hi]) (fun i o _ hi=>by simp at hi) (Y4 hs)
 exact this
theorem c8 (hc:c.Ok) {id:Nat} {l:List Oper} (n:Nat) (hchk:pY l (l.take n).length=true) {vc:Prop}
  (h:Kl c.tb l true σ.objs [] (l.take n) 0 [] [] σ=some (vc,σ')) (hvc:vc) (hk:NY c R k l.toArray (l.drop n) σ') :
  Ev c R (.run (.region id l.toArray false)) k σ:=by
 intro h1 h2 a w hs
 simp only[Hv,Bz,List.all_eq_true]at h1
 simp only[pY,Bool.and_eq_true,List.all_eq_true,List.mem_range,decide_eq_true_eq]at hchk
 have hu:c7 l (l.take n).length:=by
  intro x y hxy hy
  have hyl:y<l.length:=by simp at hy;omega
  have:=hchk.2 y hy
  rw[List.getElem?_eq_getElem hyl]at this
  simp only[Bool.and_eq_true,List.all_eq_true,List.mem_range,bne_iff_ne]at this
  have:=this.2 x hxy
  simpa[Ak,hyl] using this
 obtain⟨en,_,hF,vc',σ2,hb,hvc',h2e,h2o⟩:=PO (ops:=l) (q:=true) (σ0:=σ) (en:=fun _=>⟨false,.top,[]⟩) hu h hvc A4m (by simp) (fun j hj=>by
  have hj:j<(l.take n).length:=hj
  rw[Nat.zero_add,List.getElem?_take]
  simp only[List.length_take]at hj
  rw[if_pos (by omega)])
 have hdrop:l.drop (l.take n).length=l.drop n:=by
  by_cases h:n≤l.length
  ·simp[h]
  ·rw[List.drop_eq_nil_of_le (by simp;omega),List.drop_eq_nil_of_le (by omega)]
 refine wpIn_region_list ?_
 simp only[Bi]at hb
 cases hb
 have:=p5 (c:=c) (ops:=l.toArray) (k:=(l.take n).length) (σ0:=σ) (en:=en) (Q:=RZ c R k) hc (by simpa using h1)
  (fun j o hj ho=>hF j o (by omega) hj (by simpa using ho)) (by simpa using hchk.1) (σ2:=σ') h2e h2o (fun a' w' hs'=>by
   rw[show (l.toArray.toList.drop _)=l.drop n from hdrop]
   exact hk (fun o ho=>h1 o (by simpa using List.mem_of_mem_drop ho)) h2 a' w' hs')
  (l.take n).length 0 a w (by simp) hs
 exact this
theorem XE (hc:c.Ok) {ops:Array Oper} {l:List Oper} {vc:Prop} (h:Bi c.tb ops.toList l σ=some (vc,σ')) (hvc:vc) (hk:Ev c R (.out .normal) k σ'):NY c R k ops l σ:=by
 intro h1 h2 a w hs
 exact Nw hc l hs h1 h hvc (fun a' w' hs'=>hk rfl h2 a' w' hs')
theorem Y6 (hm:c.P.follows .mixedOrders=true) (hc:c.Ok) {id:Nat} {l:List Oper} (n:Nat) (hchk:OA l (l.take n).length=true) {vc:Prop}
  (h:Kl c.tb l false σ.objs (l.drop n) (l.take n) 0 [] [] σ=some (vc,σ')) (hvc:vc) (hk:Ev c R (.out .normal) k σ') :
  Ev c R (.run (.region id l.toArray true)) k σ:=by
 obtain⟨vc1,vc2,σ1,h1,hvc1,h2,hvc2⟩:=Lv h hvc
 exact uV hm hc n hchk h1 hvc1 (XE hc h2 hvc2 hk)
theorem c9 (hc:c.Ok) {id:Nat} {l:List Oper} (n:Nat) (hchk:pY l (l.take n).length=true) {vc:Prop}
  (h:Kl c.tb l true σ.objs (l.drop n) (l.take n) 0 [] [] σ=some (vc,σ')) (hvc:vc) (hk:Ev c R (.out .normal) k σ') :
  Ev c R (.run (.region id l.toArray false)) k σ:=by
 obtain⟨vc1,vc2,σ1,h1,hvc1,h2,hvc2⟩:=Lv h hvc
 exact c8 hc n hchk h1 hvc1 (XE hc h2 hvc2 hk)
theorem uW (hm:c.P.follows .mixedOrders=true) (hc:c.Ok) {id:Nat} {l:List Oper} (hchk:OA l l.length=true) {vc:Prop}
  (h:Kl c.tb l false σ.objs [] l 0 [] [] σ=some (vc,σ')) (hvc:vc) (hk:Ev c R (.out .normal) k σ') :
  Ev c R (.run (.region id l.toArray true)) k σ :=
 Y6 hm hc l.length (by rw[List.take_length];exact hchk) (by rw[List.take_length,List.drop_length];exact h) hvc hk
theorem uX (m:Nat) (hm:c.P.follows .mixedOrders=true) (hc:c.Ok) {id:Nat} {l:List Oper} (hchk:OA l (l.take (l.length-m)).length=true) {vc:Prop}
  (h:Kl c.tb l false σ.objs (l.drop (l.length-m)) (l.take (l.length-m)) 0 [] [] σ=some (vc,σ')) (hvc:vc) (hk:Ev c R (.out .normal) k σ') :
  Ev c R (.run (.region id l.toArray true)) k σ:=Y6 hm hc _ hchk h hvc hk
theorem dA (hc:c.Ok) {id:Nat} {l:List Oper} (hchk:pY l l.length=true) {vc:Prop}
  (h:Kl c.tb l true σ.objs [] l 0 [] [] σ=some (vc,σ')) (hvc:vc) (hk:Ev c R (.out .normal) k σ') :
  Ev c R (.run (.region id l.toArray false)) k σ :=
 c9 hc l.length (by rw[List.take_length];exact hchk) (by rw[List.take_length,List.drop_length];exact h) hvc hk
theorem dB (hc:c.Ok) {id:Nat} {l:List Oper} (_:(l.all fun o=>o.guard.isNone)=true) {vc:Prop} (h:Bi c.tb l l σ=some (vc,σ')) (hvc:vc) (hk:Ev c R (.out .normal) k σ') :
  Ev c R (.run (.region id l.toArray false)) k σ:=cV hc h hvc hk
end
end
/- Small rules, second part. -/
section
open Go Go.RowKit
theorem gP {c:Cx} {σ σ1 σ':St} (l:List Nat) (h:CZ l σ=σ1) (he:Ent c σ1 σ'):Ent c σ σ':=by
 intro a w hs
 obtain⟨ρ,hs⟩:=hs
 exact he a w ⟨ρ,by rw[←h];exact JW hs⟩
theorem Ix {α:Type} (a b:List α):(a++b).take (a.length+b.length)=a++b:=List.take_of_length_le (by simp)
theorem OG {α:Type} (a b:List α):sub (a++b) 0 (a.length+b.length)=a++b:=by rw[HG,Ix]
theorem Gy {α:Type} (a:List α) (x:α):(a++[x]).take (a.length+1)=a++[x]:=List.take_of_length_le (by simp)
theorem Kn {α:Type} (a:List α) (x:α):sub (a++[x]) 0 (a.length+1)=a++[x]:=by rw[HG,Gy]
theorem AH {P:Program} {tb:Tb} {w0:World} {O0:Nat→Prop} {nt:Nat} (hc:(cx P tb w0 O0 nt).Ok) {fn:Func} {outs:List RV} {σ:St} {e:Exit} (rs:List ResultVar) (hr:fn.results.toList=rs) (he:e=.ret∨e=.normal) (hp:∀r∈outs,∃t d,r=.p t d) (h:Nx tb σ rs outs) :
  Ev (cx P tb w0 O0 nt) (Yw P fn w0 O0 outs) (.out e) [] σ:=uN hc he hp (by rw[hr];exact h)
theorem Y7:((0:Nat):Int)=0:=rfl
theorem Y8 (k:Nat):((k+1:Nat):Int)=(k:Int)+1:=by omega
theorem AD {α:Type} (l:List α) (d:α) {k:Nat} (h:k<l.length):l.getD k d∈l:=by
 rw[List.getD_eq_getElem?_getD,List.getElem?_eq_getElem h];exact List.getElem_mem h
theorem AJ {P:Program} {ty:List (Nat×TI)} {pu:List Nat} {ne:List (Nat×TypeId)}:MY P ⟨ty,[],pu,ne⟩:=fun f sp h=>by simp[lk]at h
theorem AF {P:Program} {ty:List (Nat×TI)} {pu:List Nat} {ne:List (Nat×TypeId)} {f:Nat} {sp:Af} {r:List (Nat×Af)} (h:Al P f sp) (hr:MY P ⟨ty,r,pu,ne⟩):MY P ⟨ty,(f,sp) :: r,pu,ne⟩:=fun g sp' hg=>by
 simp only[lk]at hg
 split at hg
 ·rename_i e;cases hg;rw[e];exact h
 ·exact hr g sp' hg
theorem Iy {α:Type} (x:α):[x].take 1=[x]:=rfl
theorem Ac {α:Type} (l:List α) (d:α) {k:Nat} (h:k<l.length):l.take (k+1)=l.take k++[l.getD k d]:=by
 rw[List.take_add_one,List.getD_eq_getElem?_getD,List.getElem?_eq_getElem h];rfl
theorem OH {α:Type} (l:List α) (q:Nat):sub l q l.length=l.drop q:=by
 unfold sub
 rw[List.take_of_length_le (by simp)]
end
end Go.Proofs.YtebfihindnhccaaGreat.Fw
