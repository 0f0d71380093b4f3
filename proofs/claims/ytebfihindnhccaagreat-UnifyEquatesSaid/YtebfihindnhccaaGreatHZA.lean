/- Typed values, how they lie in memory, the executor's words and the table of types: what they mean. -/
/- Typed pure values and how they lie in memory: the words of the symbolic executor. Nothing here speaks of one program. -/
import Derived.ProofKit
import Derived.Orders
import Derived.Laws.AppendOwn
import Derived.Laws.MakeOwn
import Derived.Laws.OwnMore
set_option linter.unusedVariables false
set_option linter.unusedSimpArgs false
namespace Go.Proofs.YtebfihindnhccaaGreat.Fw
section
open Go
inductive Ty where
 | int (k:IntKind)
 | bool
 | str
 | slice (e:Ty)
 | prod (a b:Ty)
 | agg (t:Ty)
 /-- a pointer (0), a function (1), a map (2): as a pure value it is nil -/
 | ref (k:Nat)
 deriving DecidableEq
def Jv:Nat→Value
 | 0=>.pointer none
 | 1=>.nilFunc
 | _=>.map none
@[reducible] def Ty.den:Ty→Type
 | .int _=>Int
 | .bool=>Bool
 | .str=>ByteArray
 | .slice e=>List e.den
 | .prod a b=>a.den×b.den
 | .agg t=>t.den
 | .ref _=>Unit
def Ty.size:Ty→Nat
 | .prod a b=>a.size+b.size
 | .agg t=>t.size
 | .int _=>1
 | .bool=>1
 | .str=>1
 | .slice _=>1
 | .ref _=>1
def Ty.dflt:(t:Ty)→t.den
 | .int _=>(0:Int)
 | .bool=>false
 | .str=>ByteArray.empty
 | .slice _=>[]
 | .prod a b=>(a.dflt,b.dflt)
 | .agg t=>t.dflt
 | .ref _=>()
def Ty.zero:Ty→List Value
 | .int k=>[.int k 0]
 | .bool=>[.bool false]
 | .str=>[.string ByteArray.empty]
 | .slice _=>[.slice none 0 0]
 | .prod a b=>a.zero++b.zero
 | .agg t=>t.zero
 | .ref k=>[Jv k]
def Ty.wrap:Ty→List Value→Value
 | .agg _,cs=>.agg cs.toArray
 | .prod _ _,cs=>.agg cs.toArray
 | .int _,cs=>cs.headD undef
 | .bool,cs=>cs.headD undef
 | .str,cs=>cs.headD undef
 | .slice _,cs=>cs.headD undef
 | .ref _,cs=>cs.headD undef
def K8 (k:IntKind) (n:Int):Prop:=k.min≤n∧n≤k.max
def AP:Nat:=140737488355328
def Be (w:World) (O:Nat→Prop):(t:Ty)→List Value→t.den→Prop
 | .int k,cs,d=>cs=[.int k d]∧K8 k d
 | .bool,cs,d=>cs=[.bool d]
 | .str,cs,d=>cs=[.string d]∧ByteArray.size d≤AP
 | .slice e,cs,d=>∃(a:Option Addr) (c:Nat),cs=[.slice a (List.length d) c]∧List.length d≤c∧List.length d≤AP ∧
   (d=[]∨∃ad:Addr,a=some ad∧¬O ad.block ∧
    ∀(i:Nat) (x:e.den),d[i]?=some x→∃es:List Value,es.length=e.size∧(∀(j:Nat) (v:Value),es[j]?=some v→w.cell? (ad.add (i*e.size+j))=some v)∧Be w O e es x)
 | .prod a b,cs,d=>∃c1 c2:List Value,cs=c1++c2∧Be w O a c1 d.1∧Be w O b c2 d.2
 | .agg t,cs,d=>Be w O t cs d
 | .ref k,cs,_=>cs=[Jv k]
def Bf (w:World) (O:Nat→Prop) (t:Ty) (v:Value) (d:t.den):Prop:=∃cs,Be w O t cs d∧v=t.wrap cs
theorem Bu (a:Addr) (n:Nat):(a.add n).block=a.block:=by unfold Addr.add;split<;>rfl
theorem Cn (a:Addr) (i j:Nat):(a.add i).add j=a.add (i+j):=by
 unfold Addr.add
 by_cases hi:i=0<;>by_cases hj:j=0<;>simp[hi,hj,Nat.add_assoc]
theorem K9 (a:Addr):a.add 0=a:=rfl
theorem Xa (g j:Nat):(⟨g,0,none⟩:Addr).add j=⟨g,j,none⟩:=by
 unfold Addr.add;split<;>simp_all
theorem IH (g i j:Nat):(⟨g,i,none⟩:Addr).add j=⟨g,i+j,none⟩:=by
 unfold Addr.add;split<;>simp_all
theorem Ty.size_pos:∀t:Ty,0<t.size
 | .int _=>by simp[Ty.size]
 | .bool=>by simp[Ty.size]
 | .str=>by simp[Ty.size]
 | .slice _=>by simp[Ty.size]
 | .ref _=>by simp[Ty.size]
 | .prod a b=>by have:=a.size_pos;simp[Ty.size];omega
 | .agg t=>by simpa[Ty.size] using t.size_pos
theorem Be.length {w:World} {O:Nat→Prop}:∀ {t:Ty} {cs:List Value} {d:t.den},Be w O t cs d→cs.length=t.size
 | .int _,_,_,h=>by obtain⟨rfl,_⟩:=h;rfl
 | .bool,_,_,h=>by have h:_=_:=h;subst h;rfl
 | .str,_,_,h=>by obtain⟨rfl,_⟩:=h;rfl
 | .slice _,_,_,h=>by obtain⟨_,_,rfl,_⟩:=h;rfl
 | .ref _,_,_,h=>by have h:_=_:=h;subst h;rfl
 | .prod a b,_,_,h=>by
  obtain⟨c1,c2,rfl,h1,h2⟩:=h
  simp[Ty.size,Be.length h1,Be.length h2]
 | .agg t,_,_,h=>by
  have h:Be w O t _ _:=h
  simpa[Ty.size] using Be.length h
theorem Be.one {w:World} {O:Nat→Prop}:∀ {t:Ty} {cs:List Value} {d:t.den},Be w O t cs d→∀v∈cs,v.oneCell'=true
 | .int _,_,_,h=>by obtain⟨rfl,_⟩:=h;simp[Value.oneCell']
 | .bool,_,_,h=>by have h:_=_:=h;subst h;simp[Value.oneCell']
 | .str,_,_,h=>by obtain⟨rfl,_⟩:=h;simp[Value.oneCell']
 | .slice _,_,_,h=>by obtain⟨_,_,rfl,_⟩:=h;simp[Value.oneCell']
 | .ref k,_,_,h=>by
  have h:_=[Jv k]:=h
  subst h
  match k with
  | 0=>simp[Value.oneCell',Jv]
  | 1=>simp[Value.oneCell',Jv]
  | _+2=>simp[Value.oneCell',Jv]
 | .prod a b,_,_,h=>by
  obtain⟨c1,c2,rfl,h1,h2⟩:=h
  intro v hv
  rcases List.mem_append.1 hv with hv|hv
  ·exact Be.one h1 v hv
  ·exact Be.one h2 v hv
 | .agg t,_,_,h=>by
  have h:Be w O t _ _:=h
  exact Be.one h
theorem Be.mono {w w':World} {O O':Nat→Prop} (hO:∀b,b<w.heap.size→¬O b→¬O' b) (hw:∀b,b<w.heap.size→¬O b→w'.heap[b]?=w.heap[b]?) :
  ∀ {t:Ty} {cs:List Value} {d:t.den},Be w O t cs d→Be w' O' t cs d
 | .int _,_,_,h=>h
 | .bool,_,_,h=>h
 | .str,_,_,h=>h
 | .ref _,_,_,h=>h
 | .slice e,_,d,h=>by
  obtain⟨a,c,rfl,h1,h2,h3⟩:=h
  refine⟨a,c,rfl,h1,h2,?_⟩
  rcases h3 with h3|⟨ad,rfl,hO1,hx⟩
  ·exact .inl h3
  ·by_cases hd:d=[]
   ·exact .inl hd
   ·have hlt:ad.block<w.heap.size:=by
     obtain⟨x,r,rfl⟩:∃x r,d=x :: r:=List.exists_cons_of_ne_nil hd
     obtain⟨es,hl,hc,_⟩:=hx 0 x rfl
     have hp:=e.size_pos
     have:es[0]?=some (es[0]'(by omega)):=List.getElem?_eq_getElem (by omega)
     have:=block_lt_of_cell (hc 0 _ this)
     rwa [Bu]at this
    refine .inr ⟨ad,rfl,hO _ hlt hO1,fun i x hi=>?_⟩
    obtain⟨es,hl,hc,hr⟩:=hx i x hi
    refine⟨es,hl,fun j v hj=>?_,Be.mono hO hw hr⟩
    rw[World.cell?_of_block (w:=w) (w':=w')]
    ·exact hc j v hj
    ·rw[Bu];exact hw _ hlt hO1
 | .prod a b,_,_,h=>by
  obtain⟨c1,c2,rfl,h1,h2⟩:=h
  exact⟨c1,c2,rfl,Be.mono hO hw h1,Be.mono hO hw h2⟩
 | .agg t,_,_,h=>by
  have h:Be w O t _ _:=h
  exact(Be.mono hO hw h:Be w' O' t _ _)
theorem Bf.mono {w w':World} {O O':Nat→Prop} (hO:∀b,b<w.heap.size→¬O b→¬O' b) (hw:∀b,b<w.heap.size→¬O b→w'.heap[b]?=w.heap[b]?)
  {t:Ty} {v:Value} {d:t.den} (h:Bf w O t v d):Bf w' O' t v d :=
 let ⟨cs,h1,h2⟩:=h
 ⟨cs,h1.mono hO hw,h2⟩
theorem Be.zero (w:World) (O:Nat→Prop):∀t:Ty,Be w O t t.zero t.dflt
 | .int k=>⟨rfl,by cases k<;>exact⟨by decide,by decide⟩⟩
 | .bool=>rfl
 | .str=>⟨rfl,by simp[Ty.dflt,AP]⟩
 | .slice _=>⟨none,0,rfl,by simp[Ty.dflt],by simp[Ty.dflt,AP],.inl rfl⟩
 | .ref _=>rfl
 | .prod a b=>⟨_,_,rfl,Be.zero w O a,Be.zero w O b⟩
 | .agg t=>(Be.zero w O t:Be w O t _ _)
end
/- The symbolic executor: abstract values, objects, states, and what one operation does to them. Definitions alone. -/
section
open Go
structure PV where
 t:Ty
 d:t.den
def BH (t:Ty) (p:PV):Option t.den:=if h:p.t=t then some (h▸p.d) else none
theorem Fv (t:Ty) (d:t.den):BH t ⟨t,d⟩=some d:=by simp[BH]
def GC:(t:Ty)→Nat→t.den→Option PV
 | .prod a _,0,d=>some ⟨a,d.1⟩
 | .prod _ b,k+1,d=>GC b k d.2
 | .int k,0,d=>some ⟨.int k,d⟩
 | .bool,0,d=>some ⟨.bool,d⟩
 | .str,0,d=>some ⟨.str,d⟩
 | .slice e,0,d=>some ⟨.slice e,d⟩
 | .agg t,0,d=>some ⟨.agg t,d⟩
 | .ref k,0,d=>some ⟨.ref k,d⟩
 | _,_,_=>none
def Lv:(t:Ty)→Nat→t.den→PV→Option t.den
 | .prod a _,0,d,x=>(BH a x).map fun y=>(y,d.2)
 | .prod _ b,k+1,d,x=>(Lv b k d.2 x).map fun y=>(d.1,y)
 | .int k,0,_,x=>BH (.int k) x
 | .bool,0,_,x=>BH .bool x
 | .str,0,_,x=>BH .str x
 | .slice e,0,_,x=>BH (.slice e) x
 | .agg t,0,_,x=>BH (.agg t) x
 | .ref k,0,_,x=>BH (.ref k) x
 | _,_,_,_=>none
def Ir:Ty→Nat→Option Nat
 | .prod _ _,0=>some 0
 | .prod a b,k+1=>(Ir b k).map (a.size + ·)
 | .int _,0=>some 0
 | .bool,0=>some 0
 | .str,0=>some 0
 | .slice _,0=>some 0
 | .agg _,0=>some 0
 | .ref _,0=>some 0
 | _,_=>none
def Vu:Ty→Nat→Option Ty
 | .prod a _,0=>some a
 | .prod _ b,k+1=>Vu b k
 | .int k,0=>some (.int k)
 | .bool,0=>some .bool
 | .str,0=>some .str
 | .slice e,0=>some (.slice e)
 | .agg t,0=>some (.agg t)
 | .ref k,0=>some (.ref k)
 | _,_=>none
def Qq:List Nat→(t:Ty)→t.den→Option PV
 | [],t,d=>some ⟨t,d⟩
 | k :: r,.agg t,d=>match GC t k d with
  | some pv=>Qq r pv.t pv.d
  | none=>none
 | _ :: _,_,_=>none
def Rh:List Nat→(t:Ty)→t.den→PV→Option t.den
 | [],t,_,x=>BH t x
 | k :: r,.agg t,d,x=>match GC t k d with
  | some pv=>match Rh r pv.t pv.d x with
   | some y=>Lv t k d ⟨pv.t,y⟩
   | none=>none
  | none=>none
 | _ :: _,_,_,_=>none
def Jy:List Nat→Ty→Option Nat
 | [],_=>some 0
 | k :: r,.agg t=>match Ir t k,Vu t k with
  | some o,some u=>(Jy r u).map (o + ·)
  | _,_=>none
 | _ :: _,_=>none
inductive AV where
 /-- a pure value -/
 | p (t:Ty) (d:t.den)
 /-- just this value -/
 | raw (v:Value)
 /-- the places lo .. hi of the owned array n -/
 | sr (n:Nat) (e:Ty) (lo hi:Nat)
 /-- a pointer into element i of the owned array n -/
 | ep (n:Nat) (e:Ty) (i:Nat) (path:List Nat) (off:Nat)
 /-- a pointer to memory that holds a pure value -/
 | ip (t:Ty) (d:t.den)
 /-- a pointer into the box n -/
 | bp (n:Nat) (path:List Nat) (off:Nat)
 | fn (f:FuncId)
 /-- a closure; its variables are the boxes -/
 | clo (f:FuncId) (ns:List Nat)
 /-- the map n -/
 | mp (n:Nat)
 /-- the function by which a round of the loop n is run -/
 | yl (n:Nat)
 /-- the inner slice of row i of the nested array n: its elements, its length -/
 | nin (n:Nat) (e:Ty) (i len:Nat)
 /-- a struct with these fields -/
 | ag (l:List AV)
 | tup (l:List AV)
 /-- nothing is known -/
 | top
inductive Obj where
 | arr (et:TypeId) (e:Ty) (xs:List e.den)
 | box (et:TypeId) (st:Bool) (fs:List AV)
 /-- a map's entries, in their order -/
 | mapo (k v:Ty) (l:List (k.den×v.den))
 /-- rows that end in a slice of their own each; 'h': the row whose slice is elsewhere just now -/
 | nest (et iet:TypeId) (k e:Ty) (xs:List (k.den×List e.den)) (h:Option Nat)
 /-- a caller's frame: its slots as they were, and what they mean -/
 | frame (tm:Array Value) (fs:List (Nat×AV))
 /-- the record of a range over a function -/
 | loop (L:Go.Loop)
 /-- the block of the calls that such a loop defers: none -/
 | dfr
structure St where
 env:List (Nat×AV)
 objs:List (Nat×Obj)
def lk {α:Type}:Nat→List (Nat×α)→Option α
 | _,[]=>none
 | k,(j,v) :: r=>if k=j then some v else lk k r
def T6 {α:Type}:Nat→List (Nat×α)→List (Nat×α)
 | _,[]=>[]
 | k,(j,v) :: r=>if k=j then T6 k r else (j,v) :: T6 k r
def upd {α:Type}:Nat→α→List (Nat×α)→List (Nat×α)
 | _,_,[]=>[]
 | k,u,(j,v) :: r=>if k=j then (j,u) :: upd k u r else (j,v) :: upd k u r
def sub {α:Type} (xs:List α) (lo hi:Nat):List α:=(xs.drop lo).take (hi-lo)
theorem HW {α:Type} (xs:List α):sub xs 0 xs.length=xs:=by simp[sub]
structure TI where
 ty:Ty
 offs:List (Nat×Nat):=[]
 el:TypeId:=0
 bytes:Nat
inductive RV where
 | p (t:Ty) (d:t.den)
 | own (et:TypeId) (e:Ty) (xs:List e.den)
@[reducible] def Jz:List Ty→Type
 | []=>Unit
 | t :: r=>t.den×Jz r
def Ty.flat:Ty→Bool
 | .slice _=>false
 | .prod a b=>a.flat&&b.flat
 | .agg t=>t.flat
 | .int _=>true
 | .bool=>true
 | .str=>true
 | .ref _=>true
def RV.flat:RV→Bool
 | .p t _=>t.flat
 | .own _ _ _=>false
structure Ak where
 ins:List Ty
 lend:Bool:=false
 pre:Jz ins→Prop
 out:Jz ins→List RV
structure Tb where
 ty:List (Nat×TI)
 fns:List (Nat×Ak)
 /-- slots whose new slices are written no more -/
 pure:List Nat:=[]
 /-- slots whose new slices are nested arrays; the type of their rows' elements -/
 nests:List (Nat×TypeId):=[]
def inB (n:Nat):List Nat→Bool
 | []=>false
 | m :: r=>if n=m then true else inB n r
def GW:Value→AV
 | .int k n=>if k.min≤n∧n≤k.max then .p (.int k) n else .raw (.int k n)
 | .bool b=>.p .bool b
 | .string s=>if s.size≤AP then .p .str s else .raw (.string s)
 | v=>.raw v
def Ap (σ:St):Operand→Option AV
 | .tmp t=>lk t σ.env
 | .const v=>some (GW v)
 | .func f=>some (.fn f)
 | .global _=>none
def Pt (e:Ty) (lo hi:Nat):Option Obj→Option (List e.den)
 | some (.arr _ e' xs)=>BH (.slice e) ⟨.slice e',sub xs lo hi⟩
 | some (.nest _ _ k e' xs none)=>BH (.slice e) ⟨.slice (.agg (.prod k (.slice e'))),sub xs lo hi⟩
 | _=>none
def Oh (e:Ty) (i:Nat):Option Obj→Option (List e.den)
 | some (.nest _ _ k e' xs none)=>BH (.slice e) ⟨.slice e',(xs.getD i (k.dflt,[])).2⟩
 | _=>none
def Eg (l:Bool) (σ:St):(t:Ty)→AV→Option t.den
 | t,.p u d=>BH t ⟨u,d⟩
 | .slice e,.sr n e' lo hi=>if l=true∧e'=e then Pt e lo hi (lk n σ.objs) else none
 | .slice e,.nin n e' i _=>if l=true∧e'=e then Oh e i (lk n σ.objs) else none
 | .slice _,.raw (.slice none 0 0)=>some []
 | _,_=>none
def J0 {α β:Type}:Option α→Option β→Option (α×β)
 | some a,some b=>some (a,b)
 | _,_=>none
def It (l:Bool) (σ:St):List AV→(t:Ty)→Option t.den
 | [],_=>none
 | [x],t=>Eg l σ t x
 | x :: y :: r,.prod a b=>J0 (Eg l σ a x) (It l σ (y :: r) b)
 | _ :: _ :: _,_=>none
def MN (l:Bool) (σ:St):(t:Ty)→AV→Option t.den
 | .agg t,.ag fs=>It l σ fs t
 | t,x=>Eg l σ t x
def AZ (n:Nat):List Nat→Bool
 | []=>false
 | m :: r=>if n=m then true else AZ n r
theorem Ae (n:Nat):∀l:List Nat,AZ n l=true↔n∈l
 | []=>by simp[AZ]
 | m :: r=>by
  simp only[AZ,List.mem_cons]
  split
  ·rename_i h;simp[h]
  ·rename_i h;simp[h,Ae n r]
/-! ### Names that are forgotten -/
mutual
def AV.fgt (hs:List Nat):AV→AV
 | .sr m e lo hi=>if AZ m hs=true then .top else .sr m e lo hi
 | .ep m e i path off=>if AZ m hs=true then .top else .ep m e i path off
 | .nin m e i len=>if AZ m hs=true then .top else .nin m e i len
 | .bp m path off=>if AZ m hs=true then .top else .bp m path off
 | .mp m=>if AZ m hs=true then .top else .mp m
 | .yl m=>if AZ m hs=true then .top else .yl m
 | .clo f ns=>if (ns.any fun n=>AZ n hs)=true then .top else .clo f ns
 | .ag l=>.ag (AV.fgts hs l)
 | .tup l=>.tup (AV.fgts hs l)
 | .p t d=>.p t d
 | .raw v=>.raw v
 | .ip t d=>.ip t d
 | .fn f=>.fn f
 | .top=>.top
def AV.fgts (hs:List Nat):List AV→List AV
 | []=>[]
 | x :: r=>AV.fgt hs x :: AV.fgts hs r
end
def Co (hs:List Nat):List (Nat×AV)→List (Nat×AV)
 | []=>[]
 | (s,x) :: r=>(s,x.fgt hs) :: Co hs r
def Obj.fgt (hs:List Nat):Obj→Obj
 | .arr et e xs=>.arr et e xs
 | .box et st fs=>.box et st (AV.fgts hs fs)
 | .mapo k v l=>.mapo k v l
 | .nest et iet k e xs h=>.nest et iet k e xs h
 | .frame tm fs=>.frame tm (Co hs fs)
 | .loop L=>.loop L
 | .dfr=>.dfr
def BD (hd hs:List Nat):List (Nat×Obj)→List (Nat×Obj)
 | []=>[]
 | (n,o) :: r=>if AZ n hd=true then BD hd hs r else (n,o.fgt hs) :: BD hd hs r
mutual
/-- The nested array n has turned within (its inner slices), the names 'hs' are no more. -/
def AV.trn (n:Nat) (hs:List Nat):AV→AV
 | .nin m e i len=>if m=n∨AZ m hs=true then .top else .nin m e i len
 | .sr m e lo hi=>if AZ m hs=true then .top else .sr m e lo hi
 | .ep m e i path off=>if AZ m hs=true then .top else .ep m e i path off
 | .bp m path off=>if AZ m hs=true then .top else .bp m path off
 | .mp m=>if AZ m hs=true then .top else .mp m
 | .yl m=>if AZ m hs=true then .top else .yl m
 | .clo f ns=>if (ns.any fun n=>AZ n hs)=true then .top else .clo f ns
 | .ag l=>.ag (AV.trns n hs l)
 | .tup l=>.tup (AV.trns n hs l)
 | .p t d=>.p t d
 | .raw v=>.raw v
 | .ip t d=>.ip t d
 | .fn f=>.fn f
 | .top=>.top
def AV.trns (n:Nat) (hs:List Nat):List AV→List AV
 | []=>[]
 | x :: r=>AV.trn n hs x :: AV.trns n hs r
end
def Dg (n:Nat) (hs:List Nat):List (Nat×AV)→List (Nat×AV)
 | []=>[]
 | (s,x) :: r=>(s,x.trn n hs) :: Dg n hs r
def Obj.trn (n:Nat) (hs:List Nat):Obj→Obj
 | .arr et e xs=>.arr et e xs
 | .box et st fs=>.box et st (AV.trns n hs fs)
 | .mapo k v l=>.mapo k v l
 | .nest et iet k e xs h=>.nest et iet k e xs h
 | .frame tm fs=>.frame tm (Dg n hs fs)
 | .loop L=>.loop L
 | .dfr=>.dfr
def B9 (n:Nat) (hs:List Nat):List (Nat×Obj)→List (Nat×Obj)
 | []=>[]
 | (m,o) :: r=>if AZ m (n :: hs)=true then B9 n hs r else (m,o.trn n hs) :: B9 n hs r
def CM:Option Obj→Bool
 | some (.nest _ _ _ _ _ _)=>true
 | _=>false
def Qr (σ:St) (e:Ty):AV→Option (List e.den)
 | .sr n e' lo hi=>if CM (lk n σ.objs)=true then none else MN true σ (.slice e) (.sr n e' lo hi)
 | x=>MN true σ (.slice e) x
end
/- The symbolic executor, second part: operations, regions. Definitions alone. -/
section
open Go
def Am (x y:ByteArray):Bool:=x.toList==y.toList
def GN (x y:ByteArray):Bool:=Op.bytesLess x.toList y.toList
def CF (op:BinOp) (k:IntKind) (x y:Int):Int :=
 k.wrap (match op with
  | .and=>((BitVec.ofInt k.bits x &&& BitVec.ofInt k.bits y).toNat:Int)
  | .or=>((BitVec.ofInt k.bits x ||| BitVec.ofInt k.bits y).toNat:Int)
  | .xor=>((BitVec.ofInt k.bits x ^^^ BitVec.ofInt k.bits y).toNat:Int)
  | _=>((BitVec.ofInt k.bits x &&& ~~~BitVec.ofInt k.bits y).toNat:Int))
def Vv (k:IntKind) (x y:Int):Int:=k.wrap (x*2 ^ (min y.toNat k.bits))
def Xb (k:IntKind) (x y:Int):Int:=x.fdiv (2 ^ (min y.toNat k.bits))
def Z2 (k:IntKind) (a b:Int):BinOp→Prop×AV
 | .add=>(K8 k (a+b),.p (.int k) (a+b))
 | .sub=>(K8 k (a-b),.p (.int k) (a-b))
 | .mul=>(K8 k (a*b),.p (.int k) (a*b))
 | .quo=>(b≠0∧K8 k (a.tdiv b),.p (.int k) (a.tdiv b))
 | .rem=>(b≠0∧K8 k (a.tmod b),.p (.int k) (a.tmod b))
 | .and=>(True,.p (.int k) (CF .and k a b))
 | .or=>(True,.p (.int k) (CF .or k a b))
 | .xor=>(True,.p (.int k) (CF .xor k a b))
 | .andNot=>(True,.p (.int k) (CF .andNot k a b))
 | .shl=>(False,.top)
 | .shr=>(False,.top)
 | .eql=>(True,.p .bool (a==b))
 | .neq=>(True,.p .bool (a != b))
 | .lss=>(True,.p .bool (decide (a<b)))
 | .leq=>(True,.p .bool (decide (a≤b)))
 | .gtr=>(True,.p .bool (decide (b<a)))
 | .geq=>(True,.p .bool (decide (b≤a)))
def UA (a b:ByteArray):BinOp→Prop×AV
 | .add=>(a.size+b.size≤AP,.p .str (a++b))
 | .eql=>(True,.p .bool (Am a b))
 | .neq=>(True,.p .bool (!Am a b))
 | .lss=>(True,.p .bool (GN a b))
 | .leq=>(True,.p .bool (GN a b||Am a b))
 | .gtr=>(True,.p .bool (!(GN a b||Am a b)))
 | .geq=>(True,.p .bool (!GN a b))
 | _=>(False,.top)
def w9 (op:BinOp) (k:IntKind) (a:Int) (k':IntKind) (b:Int):Prop×AV :=
 match op with
 | .shl=>(0≤b,.p (.int k) (Vv k a b))
 | .shr=>(0≤b∧K8 k (Xb k a b),.p (.int k) (Xb k a b))
 | op=>if k=k' then Z2 k a b op else (False,.top)
def nL:Ty→AV
 | .slice _=>.raw (.slice none 0 0)
 | .ref k=>.raw (Jv k)
 | t=>.p t t.dflt
def nM:Ty→List AV
 | .prod a b=>nL a :: nM b
 | t=>[nL t]
def xC:(t:Ty)→t.den→List AV
 | .prod a b,d=>.p a d.1 :: xC b d.2
 | .int k,d=>[.p (.int k) d]
 | .bool,d=>[.p .bool d]
 | .str,d=>[.p .str d]
 | .slice e,d=>[.p (.slice e) d]
 | .agg t,d=>[.p (.agg t) d]
 | .ref k,d=>[.p (.ref k) d]
def AV.cells:AV→Nat
 | .p t _=>t.size
 | .ag _=>0
 | .tup _=>0
 | _=>1
def Bo:List AV→Nat→Nat
 | _,0=>0
 | [],_+1=>0
 | x :: r,k+1=>x.cells+Bo r k
def II (st:Bool) (fs:List AV):List Nat→Option AV
 | []=>if st then some (.ag fs) else fs[0]?
 | [k]=>if st then fs[k]? else none
 | k :: r=>if st then match fs[k]? with
   | some (.p t d)=>(Qq r t d).map fun pv=>.p pv.t pv.d
   | _=>none
  else none
def M8 (fs:List AV):List Nat→Option Nat
 | []=>some 0
 | k :: r=>match fs[k]? with
  | some (.p t _)=>(Jy r t).map (Bo fs k + ·)
  | some _=>if r.isEmpty then some (Bo fs k) else none
  | none=>none
def Ty.cell1:Ty→Bool
 | .agg _=>false
 | .prod _ _=>false
 | .int _=>true
 | .bool=>true
 | .str=>true
 | .slice _=>true
 | .ref _=>true
def B2 (ty:Ty):AV→Bool
 | .p t _=>ty=t
 | .ag l=>match ty with|.agg t=>Bo l l.length==t.size|_=>false
 | .tup _=>false
 | .top=>false
 | .raw u=>u.oneCell'&&ty.cell1
 | _=>ty.cell1
def L1 (ty:Ty):AV→Bool
 | .top=>ty.cell1
 | x=>B2 ty x
def Fx (n:Nat):Bool:=decide (1000000≤n)
mutual
def AV.frz (n:Nat) (e:Ty) (xs:List e.den):AV→AV
 | .sr m e' lo hi=>if m=n then (if e'=e then .p (.slice e) (sub xs lo hi) else .top) else .sr m e' lo hi
 | .ep m e' i path off=>if m=n then .top else .ep m e' i path off
 | .nin m e' i len=>if m=n then .top else .nin m e' i len
 | .ag l=>.ag (AV.frzs n e xs l)
 | .tup l=>.tup (AV.frzs n e xs l)
 | .p t d=>.p t d
 | .raw v=>.raw v
 | .ip t d=>.ip t d
 | .bp m path off=>.bp m path off
 | .fn f=>.fn f
 | .clo f ns=>.clo f ns
 | .mp n=>.mp n
 | .yl n=>.yl n
 | .top=>.top
def AV.frzs (n:Nat) (e:Ty) (xs:List e.den):List AV→List AV
 | []=>[]
 | x :: r=>AV.frz n e xs x :: AV.frzs n e xs r
end
def Cp (n:Nat) (e:Ty) (xs:List e.den):List (Nat×AV)→List (Nat×AV)
 | []=>[]
 | (s,x) :: r=>(s,x.frz n e xs) :: Cp n e xs r
def A3 (n:Nat) (e:Ty) (xs:List e.den):List (Nat×Obj)→List (Nat×Obj)
 | []=>[]
 | (m,.arr et e' ys) :: r=>(m,.arr et e' ys) :: A3 n e xs r
 | (m,.box et st fs) :: r=>(m,.box et st (AV.frzs n e xs fs)) :: A3 n e xs r
 | (m,.mapo k v l) :: r=>(m,.mapo k v l) :: A3 n e xs r
 | (m,.nest et iet k e' ys h) :: r=>(m,.nest et iet k e' ys h) :: A3 n e xs r
 | (m,.frame tm fs) :: r=>(m,.frame tm (Cp n e xs fs)) :: A3 n e xs r
 | (m,.loop L) :: r=>(m,.loop L) :: A3 n e xs r
 | (m,.dfr) :: r=>(m,.dfr) :: A3 n e xs r
def Z3 (n:Nat) (σ:St):Option Obj→St
 | some (.arr _ e xs)=>⟨Cp n e xs σ.env,A3 n e xs (T6 n σ.objs)⟩
 | some (.nest _ _ k e xs none)=>⟨Cp n (.agg (.prod k (.slice e))) xs σ.env,A3 n (.agg (.prod k (.slice e))) xs (T6 n σ.objs)⟩
 | _=>σ
def frz (n:Nat) (σ:St):St:=if Fx n=true then σ else Z3 n σ (lk n σ.objs)
mutual
/-- All but one who looked at the array n know nothing of it now. -/
def AV.drp (n:Nat):AV→AV
 | .sr m e' lo hi=>if m=n then .top else .sr m e' lo hi
 | .ep m e' i path off=>if m=n then .top else .ep m e' i path off
 | .nin m e' i len=>if m=n then .top else .nin m e' i len
 | .ag l=>.ag (AV.drps n l)
 | .tup l=>.tup (AV.drps n l)
 | .p t d=>.p t d
 | .raw v=>.raw v
 | .ip t d=>.ip t d
 | .bp m path off=>.bp m path off
 | .fn f=>.fn f
 | .clo f ns=>.clo f ns
 | .mp n=>.mp n
 | .yl n=>.yl n
 | .top=>.top
def AV.drps (n:Nat):List AV→List AV
 | []=>[]
 | x :: r=>AV.drp n x :: AV.drps n r
end
def E6 (n:Nat):List (Nat×AV)→List (Nat×AV)
 | []=>[]
 | (s,x) :: r=>(s,x.drp n) :: E6 n r
def Bb (n:Nat):List (Nat×Obj)→List (Nat×Obj)
 | []=>[]
 | (m,.arr et e' ys) :: r=>(m,.arr et e' ys) :: Bb n r
 | (m,.box et st fs) :: r=>(m,.box et st (AV.drps n fs)) :: Bb n r
 | (m,.mapo k v l) :: r=>(m,.mapo k v l) :: Bb n r
 | (m,.nest et iet k e' ys h) :: r=>(m,.nest et iet k e' ys h) :: Bb n r
 | (m,.frame tm fs) :: r=>(m,.frame tm (E6 n fs)) :: Bb n r
 | (m,.loop L) :: r=>(m,.loop L) :: Bb n r
 | (m,.dfr) :: r=>(m,.dfr) :: Bb n r
mutual
def AV.names:AV→List Nat
 | .sr m _ _ _=>[m]
 | .ag l=>AV.namess l
 | .tup l=>AV.namess l
 | .p _ _=>[]
 | .raw _=>[]
 | .ip _ _=>[]
 | .bp _ _ _=>[]
 | .ep _ _ _ _ _=>[]
 | .nin _ _ _ _=>[]
 | .fn _=>[]
 | .clo _ _=>[]
 | .mp _=>[]
 | .yl _=>[]
 | .top=>[]
def AV.namess:List AV→List Nat
 | []=>[]
 | x :: r=>x.names++AV.namess r
end
def Fy (σ:St):Option Operand→Option (Option AV)
 | none=>some none
 | some x=>(Ap σ x).map some
def EK (σ:St) (e:Ty):Nat→List (Nat×Operand)→Option (List e.den)
 | _,[]=>some []
 | k,(i,x) :: r=>if i=k then match Ap σ x with
   | some av=>match MN false σ e av,EK σ e (k+1) r with
    | some y,some ys=>some (y :: ys)
    | _,_=>none
   | none=>none
  else none
def HX:AV→Bool
 | .p (.prod _ _) _=>false
 | .p _ _=>true
 | .raw u=>u.oneCell'
 | .ag _=>false
 | .tup _=>false
 | .top=>false
 | _=>true
def E7 (σ:St):Option AV→Option AV→Option AV
 | some (.p t _),some (.ag l)=>(MN false σ t (.ag l)).map fun d=>.p t d
 | _,x=>x
def DI (σ:St) (offs:List (Nat×Nat)):List AV→List (Nat×Operand)→Option (List AV)
 | fs,[]=>some fs
 | fs,(i,x) :: r=>match E7 σ fs[i]? (Ap σ x) with
  | some av=>if HX av=true∧(fs[i]?.map AV.cells)=some av.cells∧offs[i]?=some (Bo fs i,av.cells) then DI σ offs (fs.set i av) r else none
  | none=>none
def FX (l:Bool) (σ:St):(ts:List Ty)→List Operand→Option (Jz ts)
 | [],[]=>some ()
 | t :: ts,x :: xs=>match Ap σ x with
  | some av=>match MN l σ t av,FX l σ ts xs with
   | some y,some ys=>some (y,ys)
   | _,_=>none
  | none=>none
 | _,_=>none
def Xc (name:Nat):RV→AV
 | .p t d=>.p t d
 | .own _ e xs=>.sr name e 0 xs.length
def Pu (name:Nat):RV→List (Nat×Obj)
 | .p _ _=>[]
 | .own et e xs=>[(name,.arr et e xs)]
def L2:Nat→List RV→List AV
 | _,[]=>[]
 | n,r :: l=>Xc n r :: L2 (n+10000) l
def CY:Nat→List RV→List (Nat×Obj)
 | _,[]=>[]
 | n,r :: l=>Pu n r++CY (n+10000) l
def IJ (name:Nat):List RV→AV
 | []=>.raw (.tuple #[])
 | [r]=>Xc name r
 | l=>.tup (L2 name l)
/-! Maps -/
def UN:(t:Ty)→t.den→t.den→Bool
 | .int _,a,b=>(a:Int)==b
 | .bool,a,b=>(a:Bool)==b
 | .str,a,b=>(a:ByteArray)==b
 | .prod t u,a,b=>UN t a.1 b.1&&UN u a.2 b.2
 | .agg t,a,b=>UN t a b
 | .slice _,_,_=>false
 | .ref _,_,_=>false
def Z4:Ty→Bool
 | .prod (.int _) (.int _)=>true
 | _=>false
def UB:Ty→Bool
 | .int _=>true
 | .bool=>true
 | .str=>true
 | .prod _ _=>false
 | .agg t=>Z4 t
 | .slice _=>false
 | .ref _=>false
def Pv (kt vt:Ty) (k:kt.den):List (kt.den×vt.den)→Option vt.den
 | []=>none
 | x :: r=>if UN kt k x.1=true then some x.2 else Pv kt vt k r
def Xd (kt vt:Ty) (k:kt.den) (v:vt.den):List (kt.den×vt.den)→List (kt.den×vt.den)
 | []=>[(k,v)]
 | x :: r=>if UN kt k x.1=true then (k,v) :: r else x :: Xd kt vt k v r
abbrev BO:=Option (Prop×AV×List (Nat×Obj))
def Gj (x:AV) (lo hi:Option AV):BO :=
 match x,lo,hi with
 | .p (.slice e) l,none,some (.p (.int _) h)=>some (0≤h∧h≤l.length,.p (.slice e) (sub l 0 h.toNat),[])
 | .p (.slice e) l,some (.p (.int _) a),none=>some (0≤a∧a≤l.length,.p (.slice e) (sub l a.toNat l.length),[])
 | .p (.slice e) l,some (.p (.int _) a),some (.p (.int _) h)=>some (0≤a∧a≤h∧h≤l.length,.p (.slice e) (sub l a.toNat h.toNat),[])
 | .p .str s,none,some (.p (.int _) h)=>some (0≤h∧h≤s.size,.p .str (s.extract 0 h.toNat),[])
 | .p .str s,some (.p (.int _) a),none=>some (0≤a∧a≤s.size,.p .str (s.extract a.toNat s.size),[])
 | .p .str s,some (.p (.int _) a),some (.p (.int _) h)=>some (0≤a∧a≤h∧h≤s.size,.p .str (s.extract a.toNat h.toNat),[])
 | .sr n e b c,none,some (.p (.int _) h)=>some (0≤h∧h≤(c-b:Nat),.sr n e b (b+h.toNat),[])
 | .sr n e b c,some (.p (.int _) a),none=>some (0≤a∧a≤(c-b:Nat),.sr n e (b+a.toNat) c,[])
 | .sr n e b c,some (.p (.int _) a),some (.p (.int _) h)=>some (0≤a∧a≤h∧h≤(c-b:Nat),.sr n e (b+a.toNat) (b+h.toNat),[])
 | _,_,_=>none
def Fz:Option AV→BO
 | some v=>some (True,v,[])
 | none=>none
def Ji:Option AV→Option AV→Option AV→BO
 | some (.p .bool true),x,_=>Fz x
 | some (.p .bool false),_,y=>Fz y
 | _,_,_=>none
def Iu (d:Nat) (t:TypeId):Option TI→BO
 | some ⟨.agg u,_,_,_⟩=>some (True,.bp d [] 0,[(d,.box t true (nM u))])
 | some ⟨.int k,_,_,_⟩=>some (True,.bp d [] 0,[(d,.box t false [nL (.int k)])])
 | some ⟨.bool,_,_,_⟩=>some (True,.bp d [] 0,[(d,.box t false [nL .bool])])
 | some ⟨.str,_,_,_⟩=>some (True,.bp d [] 0,[(d,.box t false [nL .str])])
 | some ⟨.slice e,_,_,_⟩=>some (True,.bp d [] 0,[(d,.box t false [nL (.slice e)])])
 | some ⟨.ref k,_,_,_⟩=>some (True,.bp d [] 0,[(d,.box t false [nL (.ref k)])])
 | _=>none
def Qs (d:Nat) (t:TypeId):Option TI→Option AV→BO
 | some ⟨.agg u,_,_,_⟩,some (.p (.agg u') v)=>if u=u' then some (True,.bp d [] 0,[(d,.box t true (xC u' v))]) else none
 | some ⟨.agg u,_,_,_⟩,some (.ag l)=>if l.map AV.cells=(nM u).map AV.cells then some (True,.bp d [] 0,[(d,.box t true l)]) else none
 | some ⟨.int k,_,_,_⟩,some v=>if B2 (.int k) v then some (True,.bp d [] 0,[(d,.box t false [v])]) else none
 | some ⟨.bool,_,_,_⟩,some v=>if B2 .bool v then some (True,.bp d [] 0,[(d,.box t false [v])]) else none
 | some ⟨.str,_,_,_⟩,some v=>if B2 .str v then some (True,.bp d [] 0,[(d,.box t false [v])]) else none
 | some ⟨.slice e,_,_,_⟩,some v=>if B2 (.slice e) v then some (True,.bp d [] 0,[(d,.box t false [v])]) else none
 | some ⟨.ref k,_,_,_⟩,some v=>if B2 (.ref k) v then some (True,.bp d [] 0,[(d,.box t false [v])]) else none
 | _,_=>none
def Hq (σ:St) (parts:List (Nat×Operand)):Option TI→BO
 | some ⟨.agg u,offs,_,_⟩=>Fz ((DI σ offs (nM u) parts).map AV.ag)
 | _=>none
def BP (pu:Bool) (d:Nat) (n:Nat) (el:TypeId) (e:Ty):Option (List e.den)→BO
 | some xs=>some (xs.length=n∧n*e.size≤16777216,if pu then .p (.slice e) xs else .sr d e 0 n,if pu then [] else [(d,.arr el e xs)])
 | none=>none
def BN (pu:Bool) (σ:St) (d:Nat) (n:Nat) (parts:List (Nat×Operand)):Option TI→BO
 | some ⟨.slice e,_,el,_⟩=>BP pu d n el e (EK σ e 0 parts)
 | _=>none
def J1 (d:Nat) (el iet:TypeId) (n:Nat) (k e:Ty):Option k.den→AV→BO
 | some a,.raw (.slice none 0 0)=>some (n=1∧k.size+1≤16777216,.sr d (.agg (.prod k (.slice e))) 0 1,[(d,.nest el iet k e [(a,[])] none)])
 | _,_=>none
def Hr (σ:St) (d:Nat) (el iet:TypeId) (n:Nat):Ty→Option AV→BO
 | .agg (.prod k (.slice e)),some (.ag [x,y])=>J1 d el iet n k e (Eg false σ k x) y
 | _,_=>none
def Hs (σ:St) (d:Nat) (iet:TypeId) (n:Nat):List (Nat×Operand)→Option TI→BO
 | [(0,x)],some ⟨.slice t,_,el,_⟩=>Hr σ d el iet n t (Ap σ x)
 | _,_=>none
def Ft (tb:Tb) (σ:St) (d:Nat) (n:Nat) (parts:List (Nat×Operand)) (ti:Option TI):Option TypeId→BO
 | some iet=>Hs σ d iet n parts ti
 | none=>BN (inB d tb.pure) σ d n parts ti
def HY (ty:Ty) (fs:List AV) (path:List Nat) (off:Nat):Option AV→BO
 | some v=>if B2 ty v=true∧M8 fs path=some off then some (True,v,[]) else none
 | none=>none
def EL (ty:Ty) (path:List Nat) (off:Nat):Option Obj→BO
 | some (.box _ st fs)=>HY ty fs path off (II st fs path)
 | _=>none
def HZ (ty e:Ty) (path:List Nat) (off:Nat):Option PV→BO
 | some ⟨t,d⟩=>if ty=t∧Jy path e=some off then some (True,.p t d,[]) else none
 | none=>none
def Ha (ty e:Ty) (i:Nat) (path:List Nat) (off:Nat):Option (List e.den)→BO
 | some ys=>HZ ty e path off (Qq path e (ys.getD i e.dflt))
 | none=>none
def MO (n:Nat) (ty:Ty) (i off:Nat) (k e:Ty) (x:k.den×List e.den):List Nat→BO
 | [0]=>if ty=k∧off=0 then some (True,.p k x.1,[]) else none
 | [1]=>if ty=.slice e∧off=k.size then some (True,.nin n e i x.2.length,[]) else none
 | _=>none
def EM (n:Nat) (ty e:Ty) (i:Nat) (path:List Nat) (off:Nat):Option Obj→BO
 | some (.arr _ e' xs)=>Ha ty e i path off (BH (.slice e) ⟨.slice e',xs⟩)
 | some (.nest _ _ k e' xs none)=>if e=.agg (.prod k (.slice e')) then MO n ty i off k e' (xs.getD i (k.dflt,[])) path else none
 | _=>none
def IK (σ:St):Option TI→Option AV→BO
 | some ti,some (.bp n path off)=>EL ti.ty path off (lk n σ.objs)
 | some ti,some (.ep n e i path off)=>EM n ti.ty e i path off (lk n σ.objs)
 | some ti,some (.ip u v)=>if ti.ty=u then some (True,.p u v,[]) else none
 | _,_=>none
def Hb (o:Option (Nat×Nat)) (o':Option Nat):Option PV→BO
 | some ⟨t,d⟩=>if o.map (·.1)=o' then some (True,.ip t d,[]) else none
 | none=>none
def Ri (v:Nat→AV):Option (Nat×Nat)→BO
 | some (k,_)=>some (True,v k,[])
 | none=>none
def M9 (f:Nat) (o:Option (Nat×Nat)):AV→BO
 | .bp n path off=>Ri (fun k=>.bp n (path++[f]) (off+k)) o
 | .ep n e i path off=>Ri (fun k=>.ep n e i (path++[f]) (off+k)) o
 | .ip (.agg u) v=>Hb o (Ir u f) (GC u f v)
 | _=>none
def GD (f:Nat):Option TI→Option AV→BO
 | some ⟨.agg _,offs,0,_⟩,some x=>M9 f offs[f]? x
 | _,_=>none
def Iv (offs:List (Nat×Nat)) (x:AV):AV→BO
 | .p (.int _) k=>if 0≤k then M9 k.toNat offs[k.toNat]? x else none
 | _=>none
def E8:Option TI→Option AV→Option AV→BO
 | some ⟨.slice e,_,_,_⟩,some (.p (.slice e') l),some (.p (.int _) k)=>if e=e' then some (0≤k∧k<l.length,.ip e' (l.getD k.toNat e'.dflt),[]) else none
 | some ⟨.slice e,_,_,_⟩,some (.sr n e' lo hi),some (.p (.int _) k)=>if e=e' then some (0≤k∧k<(hi-lo:Nat),.ep n e' (lo+k.toNat) [] 0,[]) else none
 | some ⟨.agg _,offs,_+1,_⟩,some x,some i=>Iv offs x i
 | _,_,_=>none
def Dl:Option TI→Option AV→Option AV→BO
 | some ⟨.str,_,_,_⟩,some (.p .str s),some (.p (.int _) k)=>some (0≤k∧k<s.size,.p (.int .u8) ((s.data.getD k.toNat 0).toNat:Int),[])
 | _,_,_=>none
def Rj:Option AV→BO
 | some (.bp n path off)=>some (True,.bp n path off,[])
 | some (.ip t v)=>some (True,.ip t v,[])
 | some (.ep n e i path off)=>some (True,.ep n e i path off,[])
 | _=>none
def Z5 (a b:Bool):BinOp→BO
 | .eql=>some (True,.p .bool (a==b),[])
 | .neq=>some (True,.p .bool (a != b),[])
 | _=>none
def Pw:Option TI→Bool
 | some ⟨.bool,_,_,_⟩=>true
 | _=>false
def Oi (op:BinOp) (ti:Option TI):Option AV→Option AV→BO
 | some (.p (.int k) a),some (.p (.int k') b)=>some ((w9 op k a k' b).1,(w9 op k a k' b).2,[])
 | some (.p .str a),some (.p .str b)=>some ((UA a b op).1,(UA a b op).2,[])
 | some (.p .bool a),some (.p .bool b)=>if Pw ti=true then Z5 a b op else none
 | _,_=>none
def qS:UnOp→Option AV→BO
 | .not,some (.p .bool b)=>some (True,.p .bool (!b),[])
 | .neg,some (.p (.int k) a)=>some (K8 k (0-a),.p (.int k) (0-a),[])
 | _,_=>none
def IL:Option TI→Option TI→Option AV→BO
 | some ⟨.int _,_,_,_⟩,some ⟨.int k,_,_,_⟩,some (.p (.int _) a)=>some (K8 k a,.p (.int k) a,[])
 | _,_,_=>none
def J2 (d:Nat) (el:TypeId) (e:Ty) (n m:Int):Option TI→BO
 | some ti=>some (n=m∧0≤n∧n.toNat*ti.bytes≤AP,.sr d e 0 n.toNat,[(d,.arr el e (List.replicate n.toNat e.dflt))])
 | none=>none
def Hc (tb:Tb) (d:Nat):Option TI→Option AV→Option AV→BO
 | some ⟨.slice e,_,el,_⟩,some (.p (.int .i64) n),some (.p (.int .i64) m)=>J2 d el e n m (lk el tb.ty)
 | _,_,_=>none
def Eh:Option TI→Option AV→Option (Option AV)→Option (Option AV)→BO
 | some ⟨.slice e,_,_,_⟩,some (.p (.slice e') l),some a,some h=>if e=e' then Gj (.p (.slice e') l) a h else none
 | some ⟨.slice e,_,_,_⟩,some (.sr n e' b c),some a,some h=>if e=e' then Gj (.sr n e' b c) a h else none
 | some ⟨.str,_,_,_⟩,some (.p .str s),some a,some h=>Gj (.p .str s) a h
 | _,_,_,_=>none
def Ds (i:Nat):Option AV→BO
 | some (.tup l)=>Fz l[i]?
 | _=>none
def Qt:Option TI→Option AV→BO
 | some ⟨.slice _,_,_,_⟩,some (.p (.slice _) l)=>some (True,.p (.int .i64) (l.length:Int),[])
 | some ⟨.slice _,_,_,_⟩,some (.sr _ _ lo hi)=>some (True,.p (.int .i64) ((hi-lo:Nat):Int),[])
 | some ⟨.slice _,_,_,_⟩,some (.nin _ _ _ len)=>some (True,.p (.int .i64) (len:Int),[])
 | some ⟨.slice _,_,_,_⟩,some (.raw (.slice none 0 0))=>some (True,.p (.int .i64) (0:Int),[])
 | some ⟨.str,_,_,_⟩,some (.p .str s)=>some (True,.p (.int .i64) (s.size:Int),[])
 | _,_=>none
def ET (d:Nat) (el:TypeId) (e:Ty):Option TI→Option (List e.den)→BO
 | some ti,some ys=>some (ys.length*ti.bytes≤AP,.sr d e 0 ys.length,[(d,.arr el e ys)])
 | _,_=>none
def Dt (tb:Tb) (σ:St) (d:Nat) (v:AV):Option TI→BO
 | some ⟨.slice e,_,el,_⟩=>ET d el e (lk el tb.ty) (Qr σ e v)
 | _=>none
def CA (tb:Tb) (σ:St) (d:Nat) (t u:TypeId):Option AV→Option AV→BO
 | some (.raw (.slice none 0 0)),some v=>if t=u then Dt tb σ d v (lk t tb.ty) else none
 | _,_=>none
def Oj:Option AV→Option AV→BO
 | some (.p (.int k) a),some (.p (.int k') b)=>if k=k' then some (True,.p (.int k) (if b<a then b else a),[]) else none
 | _,_=>none
def Ol:Option AV→Option AV→BO
 | some (.p (.int k) a),some (.p (.int k') b)=>if k=k' then some (True,.p (.int k) (if a<b then b else a),[]) else none
 | _,_=>none
def Iw (d:Nat) (sp:Ak):Option (Jz sp.ins)→BO
 | some ds=>if sp.lend=false∨(sp.out ds).all RV.flat=true then some (sp.pre ds,IJ d (sp.out ds),CY d (sp.out ds)) else none
 | none=>none
def Ht (σ:St) (d:Nat) (xs:List Operand):Option Ak→BO
 | some sp=>Iw d sp (FX sp.lend σ sp.ins xs)
 | none=>none
def J3 (tb:Tb) (σ:St) (d:Nat) (xs:List Operand):Option AV→BO
 | some (.fn f)=>Ht σ d xs (lk f tb.fns)
 | _=>none
def Cd (tb:Tb) (σ:St) (d:Nat):Builtin→List Operand→List TypeId→BO
 | .len,[x],[t]=>Qt (lk t tb.ty) (Ap σ x)
 | .append,[x,y],[t,u]=>CA tb σ d t u (Ap σ x) (Ap σ y)
 | .min,[x,y],[_,_]=>Oj (Ap σ x) (Ap σ y)
 | .max,[x,y],[_,_]=>Ol (Ap σ x) (Ap σ y)
 | _,_,_=>none
def Gk (σ:St):List Operand→Option (List Nat)
 | []=>some []
 | x :: r=>match Ap σ x,Gk σ r with
  | some (.bp n [] 0),some ns=>some (n :: ns)
  | _,_=>none
def NA (f:FuncId):Option (List Nat)→BO
 | some ns=>some (True,.clo f ns,[])
 | none=>none
def Vx (σ:St) (fn:Fn) (first captured:List Operand):BO :=
 match fn,first with
 | .func f,[]=>NA f (Gk σ captured)
 | _,_=>none
def Fc (d:Nat):Option TI→Option TI→BO
 | some tk,some te=>some (True,.mp d,[(d,.mapo tk.ty te.ty [])])
 | _,_=>none
def Fd (tb:Tb) (d:Nat):List (Nat×Nat)→BO
 | [(k,e)]=>Fc d (lk k tb.ty) (lk e tb.ty)
 | _=>none
def E9 (tb:Tb) (d:Nat):Option TI→BO
 | some ⟨.ref 2,offs,_,_⟩=>Fd tb d offs
 | _=>none
def J4 (vt:Ty) (ok:Bool) (r:Option vt.den):BO :=
 if ok then some (True,.tup [.p vt (r.getD vt.dflt),.p .bool r.isSome],[]) else some (True,.p vt (r.getD vt.dflt),[])
def Ix (kt vt:Ty) (l:List (kt.den×vt.den)) (ok:Bool):Option kt.den→BO
 | some k=>if UB kt=true then J4 vt ok (Pv kt vt k l) else none
 | none=>none
def Gl (tb:Tb) (σ:St) (kid eid:Nat) (x:AV) (ok:Bool):Option Obj→BO
 | some (.mapo kt vt l)=>if (lk kid tb.ty).map TI.ty=some kt∧(lk kid tb.ty).map TI.el=some 0∧(lk eid tb.ty).map TI.ty=some vt then Ix kt vt l ok (MN false σ kt x) else none
 | _=>none
def Hd (tb:Tb) (σ:St) (ok:Bool):Option TI→Option AV→Option AV→BO
 | some ⟨.ref 2,[(k,e)],_,_⟩,some (.mp n),some x=>Gl tb σ k e x ok (lk n σ.objs)
 | _,_,_=>none
def CU (tb:Tb) (σ:St) (d:Nat) (xs:List Operand) (ts:List TypeId):Callee→BO
 | .builtin b=>Cd tb σ d b xs ts
 | .value g=>J3 tb σ d xs (Ap σ g)
 | _=>none
def aq (tb:Tb) (σ:St) (d:Nat):Op→BO
 | .move x=>Fz (Ap σ x)
 | .assign x=>Fz (Ap σ x)
 | .pick c x y=>Ji (Ap σ c) (Ap σ x) (Ap σ y)
 | .alloc t=>Iu d t (lk t tb.ty)
 | .box t x=>Qs d t (lk t tb.ty) (Ap σ x)
 | .build t parts=>Hq σ parts.toList (lk t tb.ty)
 | .buildSlice t n parts=>Ft tb σ d n parts.toList (lk t tb.ty) (lk d tb.nests)
 | .load t x=>IK σ (lk t tb.ty) (Ap σ x)
 | .fieldAddr s x f=>GD f (lk s tb.ty) (Ap σ x)
 | .indexAddr t x i=>E8 (lk t tb.ty) (Ap σ x) (Ap σ i)
 | .index t x i=>Dl (lk t tb.ty) (Ap σ x) (Ap σ i)
 | .nilCheck x=>Rj (Ap σ x)
 | .binOp op t x y _=>Oi op (lk t tb.ty) (Ap σ x) (Ap σ y)
 | .unOp op _ x=>qS op (Ap σ x)
 | .convert s t x=>IL (lk s tb.ty) (lk t tb.ty) (Ap σ x)
 | .makeSlice t l c=>Hc tb d (lk t tb.ty) (Ap σ l) (Ap σ c)
 | .slice t x lo hi none=>Eh (lk t tb.ty) (Ap σ x) (Fy σ lo) (Fy σ hi)
 | .extract x i=>Ds i (Ap σ x)
 | .call c=>CU tb σ d c.args.toList c.argTypes.toList c.callee
 | .makeFunc fn first captured=>Vx σ fn first.toList captured.toList
 | .makeMap t none=>E9 tb d (lk t tb.ty)
 | .lookup t x i ok=>Hd tb σ ok (lk t tb.ty) (Ap σ x) (Ap σ i)
 | _=>none
def NB:AV→Bool
 | .ag _=>false
 | _=>true
def Iy (st:Bool) (fs:List AV) (v:AV):List Nat→Option (List AV)
 | []=>if st then match v with
   | .p (.agg u) d=>some (xC u d)
   | .ag l=>some l
   | _=>none
  else if NB v then some [v] else none
 | [k]=>if st&&NB v then some (fs.set k v) else none
 | k :: r=>if st then match fs[k]?,v with
   | some (.p t d),.p u x=>(Rh r t d ⟨u,x⟩).map fun y=>fs.set k (.p t y)
   | _,_=>none
  else none
abbrev CW:=Option (Prop×St)
def EU (σ:St) (n:Nat) (et:TypeId) (st:Bool) (ty:Ty) (fs:List AV) (path:List Nat) (off:Nat) (v:AV):Option AV→Option (List AV)→CW
 | some u,some fs'=>if L1 ty u=true∧B2 ty v=true∧M8 fs path=some off∧fs'.map AV.cells=fs.map AV.cells then some (True,⟨σ.env,upd n (.box et st fs') σ.objs⟩) else none
 | _,_=>none
def DJ (σ:St) (n:Nat) (ty:Ty) (path:List Nat) (off:Nat) (v:AV):Option Obj→CW
 | some (.box et st fs)=>EU σ n et st ty fs path off v (II st fs path) (Iy st fs v path)
 | _=>none
def FA (σ:St) (n:Nat) (et:TypeId) (e:Ty) (i:Nat) (path:List Nat) (off:Nat) (ys:List e.den):Option e.den→CW
 | some z=>if Jy path e=some off then some (True,⟨σ.env,upd n (.arr et e (ys.set i z)) σ.objs⟩) else none
 | none=>none
def Du (σ:St) (n:Nat) (et:TypeId) (ty e:Ty) (i:Nat) (path:List Nat) (off:Nat):Option (List e.den)→Option ty.den→CW
 | some ys,some w=>FA σ n et e i path off ys (Rh path e (ys.getD i e.dflt) ⟨ty,w⟩)
 | _,_=>none
/-! A nested array's row -/
def J5 (σ:St) (d n:Nat) (et iet:TypeId) (k e:Ty) (xs:List (k.den×List e.den)) (i bytes:Nat):Option (List e.den)→CW
 | some ys=>if (lk d σ.objs).isNone=true then some (((xs.getD i (k.dflt,[])).2.length+ys.length)*bytes≤AP,
   ⟨(d,.sr d e 0 ((xs.getD i (k.dflt,[])).2.length+ys.length)) :: Dg n [] σ.env,(d,.arr iet e ((xs.getD i (k.dflt,[])).2++ys)) :: (n,.nest et iet k e xs (some i)) :: B9 n [] σ.objs⟩) else none
 | none=>none
def NC (σ:St) (d n:Nat) (el:TypeId) (e':Ty) (i:Nat) (v:AV):Option TI→Option Obj→CW
 | some ti,some (.nest et iet k e xs none)=>if e'=e∧iet=el∧Fx n=false then J5 σ d n et iet k e xs i ti.bytes (Qr σ e v) else none
 | _,_=>none
def L3 (tb:Tb) (σ:St) (d n:Nat) (e':Ty) (i:Nat) (v:AV):Option TI→CW
 | some ⟨.slice e,_,el,_⟩=>if e'=e then NC σ d n el e i v (lk el tb.ty) (lk n σ.objs) else none
 | _=>none
def Iz (σ:St) (n m:Nat) (et iet:TypeId) (k e:Ty) (xs:List (k.den×List e.den)) (i hi:Nat):Option (List e.den)→CW
 | some ys=>some (hi=ys.length,⟨Dg n [m] σ.env,(n,.nest et iet k e (xs.set i ((xs.getD i (k.dflt,[])).1,ys)) none) :: B9 n [m] σ.objs⟩)
 | none=>none
def J6 (σ:St) (n m:Nat) (et iet:TypeId) (k e:Ty) (xs:List (k.den×List e.den)) (i hi:Nat):Option Obj→CW
 | some (.arr jet e2 ys)=>if jet=iet∧Fx m=false∧Fx n=false then Iz σ n m et iet k e xs i hi (BH (.slice e) ⟨.slice e2,ys⟩) else none
 | _=>none
def I0 (σ:St) (d n m:Nat) (et iet:TypeId) (k e:Ty) (hi hi' bytes:Nat) (xs:List (k.den×List e.den)):Option (List (k.den×List e.den))→CW
 | some ys=>some (hi=xs.length∧hi'=ys.length∧(xs.length+ys.length)*bytes≤AP,
   ⟨(d,.sr n (.agg (.prod k (.slice e))) 0 (xs.length+ys.length)) :: Co [n,m] σ.env,(n,.nest et iet k e (xs++ys) none) :: BD [n,m] [n,m] σ.objs⟩)
 | none=>none
def J7 (σ:St) (d n m:Nat) (et iet:TypeId) (k e:Ty) (hi hi' bytes:Nat) (xs:List (k.den×List e.den)):Option Obj→CW
 | some (.nest _ iet' k' e' ys none)=>if iet'=iet∧n≠m∧Fx m=false then I0 σ d n m et iet k e hi hi' bytes xs (BH (.slice (.agg (.prod k (.slice e)))) ⟨.slice (.agg (.prod k' (.slice e'))),ys⟩) else none
 | _=>none
def Px (σ:St) (d n:Nat) (et iet:TypeId) (k e:Ty) (hi bytes:Nat) (xs:List (k.den×List e.den)):AV→CW
 | .sr m _ 0 hi'=>J7 σ d n m et iet k e hi hi' bytes xs (lk m σ.objs)
 | _=>none
def ND (σ:St) (d m:Nat) (el iet:TypeId) (k e:Ty) (ys:List (k.den×List e.den)) (hi' bytes:Nat):CW :=
 if (lk d σ.objs).isNone=true∧Fx m=false then some (hi'=ys.length∧ys.length*bytes≤AP,
  ⟨(d,.sr d (.agg (.prod k (.slice e))) 0 ys.length) :: Co [m] σ.env,(d,.nest el iet k e ys none) :: BD [m] [m] σ.objs⟩) else none
def NE (σ:St) (d m:Nat) (el:TypeId) (t:Ty) (hi':Nat):Option TI→Option Obj→CW
 | some ti,some (.nest _ iet k e ys none)=>if t=.agg (.prod k (.slice e)) then ND σ d m el iet k e ys hi' ti.bytes else none
 | _,_=>none
def Vy (tb:Tb) (σ:St) (d:Nat):AV→Option TI→CW
 | .sr m _ 0 hi',some ⟨.slice t,_,el,_⟩=>NE σ d m el t hi' (lk el tb.ty) (lk m σ.objs)
 | _,_=>none
def J8 (σ:St) (n m:Nat) (ty:Ty) (et iet:TypeId) (k e:Ty) (xs:List (k.den×List e.den)) (i hi:Nat) (path:List Nat) (off:Nat):CW :=
 if ty=.slice e∧path=[1]∧off=k.size then J6 σ n m et iet k e xs i hi (lk m σ.objs) else none
def DK (σ:St) (n:Nat) (ty e:Ty) (i:Nat) (path:List Nat) (off:Nat) (v:AV):Option Obj→CW
 | some (.arr et e' xs)=>Du σ n et ty e i path off (BH (.slice e) ⟨.slice e',xs⟩) (MN false σ ty v)
 | some (.nest et iet k e' xs (some j))=>match v with
  | .sr m E 0 hi=>if e=.agg (.prod k (.slice e'))∧i=j∧E=e' then J8 σ n m ty et iet k e' xs i hi path off else none
  | _=>none
 | _=>none
def Gm (σ:St):Option TI→Option AV→Option AV→CW
 | some ti,some (.bp n path off),some v=>DJ σ n ti.ty path off v (lk n σ.objs)
 | some ti,some (.ep n e i path off),some v=>DK σ n ti.ty e i path off v (lk n σ.objs)
 | _,_,_=>none
def EV (σ:St) (d n:Nat) (et:TypeId) (e:Ty) (hi:Nat) (bytes:Nat):Option (List e.den)→Option (List e.den)→CW
 | some zs,some ys=>some ((hi+ys.length)*bytes≤AP,⟨(d,.sr n e 0 (hi+ys.length)) :: E6 n σ.env,upd n (.arr et e (zs.take hi++ys)) (Bb n σ.objs)⟩)
 | _,_=>none
def CN (σ:St) (d n:Nat) (el:TypeId) (e:Ty) (hi:Nat) (v:AV) (ys:Option (List e.den)):Option TI→Option Obj→CW
 | some ti,some (.arr et e' xs)=>if et=el then EV σ d n et e hi ti.bytes (BH (.slice e) ⟨.slice e',xs⟩) ys else none
 | some ti,some (.nest et iet k e' xs none)=>if et=el∧e=.agg (.prod k (.slice e')) then Px σ d n et iet k e' hi ti.bytes xs v else none
 | _,_=>none
def Dv (tb:Tb) (σ:St) (d:Nat) (n:Nat) (e':Ty) (hi:Nat) (v:AV):Option TI→CW
 | some ⟨.slice e,_,el,_⟩=>if e=e' then CN σ d n el e hi v (Qr σ e v) (lk el tb.ty) (lk n σ.objs) else none
 | _=>none
def Ce (tb:Tb) (σ:St) (d:Option Nat) (t u:TypeId):Option AV→Option AV→CW
 | some (.sr n e 0 hi),some v=>match d with
  | some d=>if t=u∧Fx n=false then Dv tb σ d n e hi v (lk t tb.ty) else none
  | none=>none
 | some (.nin n e i _),some v=>match d with
  | some d=>if t=u then L3 tb σ d n e i v (lk t tb.ty) else none
  | none=>none
 | some (.raw (.slice none 0 0)),some v=>match d with
  | some d=>if t=u then Vy tb σ d v (lk t tb.ty) else none
  | none=>none
 | _,_=>none
def Cy (tb:Tb) (σ:St) (d:Option Nat):Builtin→List Operand→List TypeId→CW
 | .append,[x,y],[t,u]=>Ce tb σ d t u (Ap σ x) (Ap σ y)
 | _,_,_=>none
def Cf (tb:Tb) (σ:St) (d:Option Nat) (xs:List Operand) (ts:List TypeId):Callee→CW
 | .builtin b=>Cy tb σ d b xs ts
 | _=>none
def Fu (σ:St) (n:Nat) (kt vt:Ty) (l:List (kt.den×vt.den)):Option kt.den→Option vt.den→CW
 | some k,some v=>if UB kt=true then some (True,⟨σ.env,upd n (.mapo kt vt (Xd kt vt k v l)) σ.objs⟩) else none
 | _,_=>none
def FB (tb:Tb) (σ:St) (n:Nat) (kid:Nat) (x y:AV):Option Obj→CW
 | some (.mapo kt vt l)=>if (lk kid tb.ty).map TI.ty=some kt∧(lk kid tb.ty).map TI.el=some 0 then Fu σ n kt vt l (MN false σ kt x) (MN false σ vt y) else none
 | _=>none
def I1 (tb:Tb) (σ:St):Option TI→Option AV→Option AV→Option AV→CW
 | some ⟨.ref 2,[(k,_)],_,_⟩,some (.mp n),some x,some y=>FB tb σ n k x y (lk n σ.objs)
 | _,_,_,_=>none
def DL (r:CW):Option Nat→CW
 | none=>r
 | some _=>none
def Er (tb:Tb) (σ:St) (d:Option Nat):Op→CW
 | .store t x y=>DL (Gm σ (lk t tb.ty) (Ap σ x) (Ap σ y)) d
 | .mapUpdate t m x y=>DL (I1 tb σ (lk t tb.ty) (Ap σ m) (Ap σ x) (Ap σ y)) d
 | .call c=>Cf tb σ d c.args.toList c.argTypes.toList c.callee
 | _=>none
def St.add (σ:St) (v:AV) (obs:List (Nat×Obj)):Option Nat→St
 | some d=>⟨(d,v) :: σ.env,obs++σ.objs⟩
 | none=>⟨σ.env,obs++σ.objs⟩
def LA:Option AV→List Nat
 | some v=>v.names
 | none=>[]
def Cq (σ:St):List (Nat×Operand)→List Nat
 | []=>[]
 | (_,x) :: r=>LA (Ap σ x)++Cq σ r
def LB:Option AV→List Nat
 | some (.ag l)=>AV.namess l
 | _=>[]
def EW (σ:St):List (Nat×Operand)→List Nat
 | []=>[]
 | (_,x) :: r=>LB (Ap σ x)++EW σ r
def B4 (σ:St):Option AV→Option AV→List Nat
 | some (.ep n _ _ _ _),some v=>if CM (lk n σ.objs)=true then [] else v.names
 | _,_=>[]
def IM:Option AV→Option AV→Option AV→List Nat
 | some (.mp _),some v,some u=>v.names++u.names
 | _,_,_=>[]
def Bv (σ:St):Op→List Nat
 | .buildSlice _ _ parts=>Cq σ parts.toList
 | .build _ parts=>EW σ parts.toList
 | .store _ x y=>B4 σ (Ap σ x) (Ap σ y)
 | .mapUpdate _ m x y=>IM (Ap σ m) (Ap σ x) (Ap σ y)
 | _=>[]
def CO:List Nat→St→St
 | [],σ=>σ
 | n :: r,σ=>CO r (frz n σ)
def BT (obs:List (Nat×Obj)) (σ:St):Bool:=obs.all fun p=>(lk p.1 σ.objs).isNone
def Jj (tb:Tb) (σ:St) (o:Oper):BO→CW
 | some (vc,v,obs)=>if BT obs σ=true then some (vc,σ.add v obs o.dst) else none
 | none=>Er tb σ o.dst o.op
def NF (tb:Tb) (o:Oper) (σ:St):CW:=Jj tb σ o (aq tb σ (o.dst.getD 0) o.op)
def FC (tb:Tb) (o:Oper) (σ:St):CW:=NF tb o (CO (Bv σ o.op) σ)
def Om (want:Bool):Option AV→Option Bool
 | some (.p .bool b)=>some (b==want)
 | _=>none
def I2 (σ:St) (want:Bool):Option Tmp→Option Bool
 | some g=>Om want (lk g σ.env)
 | none=>none
def D8 (ops:List Oper) (σ:St):Option (Nat×Bool)→Option Bool
 | none=>some true
 | some (j,want)=>I2 σ want ((ops[j]?).bind (·.dst))
def T7 (vc:Prop):CW→CW
 | some (vc',σ)=>some (vc∧vc',σ)
 | none=>none
mutual
/-- Operations in the order of the text. -/
def Bd (tb:Tb) (ops:List Oper):List Oper→St→CW
 | [],σ=>some (True,σ)
 | o :: r,σ=>evG tb ops o r σ (D8 ops σ o.guard)
def evG (tb:Tb) (ops:List Oper) (o:Oper) (r:List Oper) (σ:St):Option Bool→CW
 | some true=>evK tb ops r (FC tb o σ)
 | some false=>Bd tb ops r (σ.add (.raw undef) [] o.dst)
 | none=>none
def evK (tb:Tb) (ops:List Oper) (r:List Oper):CW→CW
 | some (vc,σ)=>T7 vc (Bd tb ops r σ)
 | none=>none
end
end
/- What an abstract state says of a frame and a world; that it is kept where nothing that it speaks of turns. -/
section
open Go Go.RowKit
theorem D9 {w:World} {b:Nat} {o:_root_.Go.Obj} (h:w.heap[b]?=some o):b<w.heap.size:=by
 rcases Nat.lt_or_ge b w.heap.size with h'|h'
 ·exact h'
 ·simp[Array.getElem?_eq_none h']at h
def blk:Value→Option Nat
 | .slice (some a) _ _=>some a.block
 | .pointer (some a)=>some a.block
 | .map (some b)=>some b
 | _=>none
def bk (v:Value) (b:Nat):Prop:=blk v=some b∨∃vs:Array Value,v=.tuple vs∧∃x∈vs.toList,blk x=some b
theorem J9 {a:Option Addr} {m c b:Nat}:bk (.slice a m c) b↔blk (.slice a m c)=some b:=by
 constructor
 ·intro h
  rcases h with h|⟨_,h,_⟩
  ·exact h
  ·cases h
 ·exact .inl
def plc:Value→Value
 | .tuple vs=>vs.getD 0 undef
 | v=>v
def Cr (loc:Value) (sz lo hi:Nat) (v:Value):Prop :=
 ∃(a:Option Addr) (m c:Nat),loc=.slice a m c∧lo≤hi∧hi≤m∧∃(a':Option Addr) (c':Nat),v=.slice a' (hi-lo) c'∧hi-lo≤c'∧(lo=0→a'=a∧c'=c)∧(lo<hi→a'=a.map (·.add (lo*sz)))
structure Vw where
 w:World
 /-- blocks that no pure value looks at -/
 O:Nat→Prop
 /-- names that live -/
 L:Nat→Prop
 /-- where they lie -/
 ρ:Nat→Value
def Rk (V:Vw):AV→Value→Prop
 | .p t d,v=>Bf V.w V.O t v d
 | .raw u,v=>v=u
 | .sr n e lo hi,v=>V.L n∧Cr (plc (V.ρ n)) e.size lo hi v
 | .ep n e i _ off,v=>V.L n∧∃g m c:Nat,plc (V.ρ n)=.slice (some ⟨g,0,none⟩) m c∧i<m∧v=.pointer (some ⟨g,i*e.size+off,none⟩)
 | .nin n _ i len,v=>V.L n∧∃(vs:Array Value) (a:Option Addr) (c:Nat),V.ρ n=.tuple vs∧vs[i+1]?=some v∧v=.slice a len c
 | .ip t d,v=>∃(ad:Addr) (cs:List Value),v=.pointer (some ad)∧¬V.O ad.block∧(∀(j:Nat) (u:Value),cs[j]?=some u→V.w.cell? (ad.add j)=some u)∧Be V.w V.O t cs d
 | .bp n _ off,v=>V.L n∧∃b:Nat,V.ρ n=.pointer (some ⟨b,0,none⟩)∧v=.pointer (some ⟨b,off,none⟩)
 | .fn f,v=>v=.func (.func f) #[] #[]
 | .clo f ns,v=>v=.func (.func f) #[] (ns.map V.ρ).toArray∧∀n∈ns,V.L n∧∃b:Nat,V.ρ n=.pointer (some ⟨b,0,none⟩)
 | .mp n,v=>V.L n∧∃b:Nat,V.ρ n=.map (some b)∧v=.map (some b)
 | .yl n,v=>V.L n∧∃b:Nat,V.ρ n=.pointer (some ⟨b,0,none⟩)∧v=.func (.yield b) #[] #[]
 | .top,_=>True
 | .ag _,_=>False
 | .tup _,_=>False
def L4 (V:Vw):AV→List Value→Prop
 | .p t d,cs=>Be V.w V.O t cs d
 | av,cs=>∃v,cs=[v]∧v.oneCell'=true∧Rk V av v
def Cz (V:Vw):List AV→List Value→Prop
 | [],cs=>cs=[]
 | x :: r,cs=>∃c1 c2:List Value,cs=c1++c2∧L4 V x c1∧Cz V r c2
def Py (V:Vw):AV→Value→Prop
 | .ag l,v=>∃cs:List Value,v=.agg cs.toArray∧Cz V l cs
 | x,v=>Rk V x v
def QQQ (V:Vw):List AV→List Value→Prop
 | [],vs=>vs=[]
 | x :: r,vs=>∃(v:Value) (l:List Value),vs=v :: l∧Py V x v∧QQQ V r l
theorem Py.of1 {V:Vw} {x:AV} {v:Value} (h:Rk V x v):Py V x v:=by
 cases x
 case ag l=>exact h.elim
 all_goals exact h
def B1 (V:Vw):AV→Value→Prop
 | .ag l,v=>∃cs:List Value,v=.agg cs.toArray∧Cz V l cs
 | .tup l,v=>∃vs:List Value,v=.tuple vs.toArray∧QQQ V l vs
 | av,v=>Rk V av v
theorem qT {V:Vw} {x:AV} {v:Value} (h:Py V x v):B1 V x v:=by
 cases x
 case tup l=>exact(show False from h).elim
 all_goals exact h
def DG (w:World) (O:Nat→Prop) (e:Ty) (cells:List Value) (xs:List e.den):Prop :=
 ∀(i:Nat) (x:e.den),xs[i]?=some x→∃es:List Value,es.length=e.size∧(∀(j:Nat) (u:Value),es[j]?=some u→cells[i*e.size+j]?=some u)∧Be w O e es x
def NG (w:World) (O:Nat→Prop) (k v:Ty):List MapEntry→List (k.den×v.den)→Prop
 | [],[]=>True
 | e :: es,x :: xs=>Bf w O k e.key x.1∧Bf w O v e.val x.2∧NG w O k v es xs
 | _,_=>False
def UC (V:Vw) (et:TypeId) (e:Ty) (xs:List e.den) (loc:Value):Prop:=xs.length≤AP∧∃cells:List Value,V.w.ownsRow 0 et e.size loc xs.length cells∧DG V.w V.O e cells xs
def Vz (V:Vw) (iet:TypeId) (k e:Ty) (hole:Bool) (cells:List Value) (i:Nat) (x:k.den×List e.den) (u:Value):Prop :=
 ∃(c1:List Value) (v:Value),(∀(j:Nat) (z:Value),(c1++[v])[j]?=some z→cells[i*(k.size+1)+j]?=some z)∧Be V.w V.O k c1 x.1 ∧
  ((hole=true∧u=.slice none 0 0)∨(hole=false∧v=u∧UC V iet e x.2 u))
structure Jk (V:Vw) (et iet:TypeId) (k e:Ty) (xs:List (k.den×List e.den)) (h:Option Nat) (o:Value) (ins:List Value) (cells:List Value):Prop where
 max:xs.length≤AP
 len:ins.length=xs.length
 own:V.w.ownsRow 0 et (k.size+1) o xs.length cells
 row:∀(i:Nat) (x:k.den×List e.den) (u:Value),xs[i]?=some x→ins[i]?=some u→Vz V iet k e (h==some i) cells i x u
 dist:∀(i j b:Nat) (u v:Value),ins[i]?=some u→ins[j]?=some v→blk u=some b→blk v=some b→i=j
 out:∀(i b:Nat) (u:Value),ins[i]?=some u→blk u=some b→blk o≠some b
def Shp (loc o:Value) (ins:List Value):Prop:=loc=.tuple (o :: ins).toArray∨(loc=.slice none 0 0∧o=.slice none 0 0∧ins=[])
def A2 (V:Vw):Obj→Value→Prop
 | .arr et e xs,loc=>UC V et e xs loc
 | .nest et iet k e xs h,loc=>∃(o:Value) (ins cells:List Value),Shp loc o ins∧Jk V et iet k e xs h o ins cells
 | .box et st fs,loc=>(st=false→fs.length=1)∧∃(b:Nat) (cs:List Value),loc=.pointer (some ⟨b,0,none⟩)∧V.w.heap[b]?=some (.cells cs.toArray et (0,0))∧Cz V fs cs
 | .mapo k v l,loc=>∃(b:Nat) (es:Array MapEntry) (clock:Nat),loc=.map (some b)∧V.w.heap[b]?=some (.map es clock)∧NG V.w V.O k v es.toList l
 | .frame tm fs,loc=>loc=.pointer none∧∀s x,lk s fs=some x→B1 V x (tm.getD s undef)
 | .loop L,loc=>∃b:Nat,loc=.pointer (some ⟨b,0,none⟩)∧V.w.heap[b]?=some (.loop L)
 | .dfr,loc=>∃b:Nat,loc=.pointer (some ⟨b,0,none⟩)∧V.w.heap[b]?=some (.deferred (some []))
structure Frm (K:Nat→Prop) (w0 w:World):Prop where
 os:w.os=w0.os
 tape:w.tape=w0.tape
 output:w.output=w0.output
 size:w0.heap.size≤w.heap.size
 block:∀k,K k→w.heap[k]?=w0.heap[k]?
def GP (σ:St) (n:Nat):Prop:=∃o,lk n σ.objs=some o
def own (O0:Nat→Prop) (σ:St) (ρ:Nat→Value) (b:Nat):Prop:=O0 b∨∃n,GP σ n∧bk (ρ n) b
def vw (w:World) (O0:Nat→Prop) (σ:St) (ρ:Nat→Value):Vw:=⟨w,own O0 σ ρ,GP σ,ρ⟩
def A1N:Value→Bool
 | .slice _ _ _=>false
 | .tuple _=>false
 | _=>true
structure Fp where
 ds:List Deferred:=[]
 pin:List (Nat×Value):=[]
structure B6 (w0:World) (K O0:Nat→Prop) (nt:Nat) (ds:Fp) (σ:St) (ρ:Nat→Value) (a:Act) (w:World):Prop where
 frm:Frm K w0 w
 nt:a.tmps.size=nt
 defers:a.defers=ds.ds
 pin:∀p∈ds.pin,GP σ p.1∧ρ p.1=p.2∧(A1N p.2=true∨Fx p.1=true)
 objs:∀n o,lk n σ.objs=some o→A2 (vw w O0 σ ρ) o (ρ n)
 free:∀n b,GP σ n→bk (ρ n) b→¬K b∧¬O0 b
 dist:∀n m b,GP σ n→GP σ m→bk (ρ n) b→bk (ρ m) b→n=m
 env:∀s v,lk s σ.env=some v→B1 (vw w O0 σ ρ) v (a.tmps.getD s undef)
/-! ### Kept -/
structure CX (V V':Vw):Prop where
 O:∀b,b<V.w.heap.size→¬V.O b→¬V'.O b
 L:∀n,V.L n→V'.L n
 ρ:∀n,V.L n→V'.ρ n=V.ρ n
 heap:∀b,b<V.w.heap.size→¬V.O b→V'.w.heap[b]?=V.w.heap[b]?
theorem Rk.keeps {V V':Vw} (h:CX V V'):∀ {x:AV} {v:Value},Rk V x v→Rk V' x v
 | .p _ _,_,hx=>Bf.mono h.O h.heap hx
 | .raw _,_,hx=>hx
 | .sr n e lo hi,_,⟨hL,hs⟩=>⟨h.L n hL,by rw[h.ρ n hL];exact hs⟩
 | .ep n e i _ off,_,⟨hL,hs⟩=>⟨h.L n hL,by rw[h.ρ n hL];exact hs⟩
 | .nin n _ i len,_,⟨hL,hs⟩=>⟨h.L n hL,by rw[h.ρ n hL];exact hs⟩
 | .ip t d,_,⟨ad,cs,hv,hO,hc,hr⟩=>by
  have hlt:ad.block<V.w.heap.size:=by
   have hp:=t.size_pos
   have hl:=hr.length
   have:=block_lt_of_cell (hc 0 (cs[0]'(by omega)) (List.getElem?_eq_getElem (by omega)))
   rwa [Bu]at this
  refine⟨ad,cs,hv,h.O _ hlt hO,fun j u hj=>?_,Be.mono h.O h.heap hr⟩
  rw[World.cell?_of_block (w:=V.w) (w':=V'.w)]
  ·exact hc j u hj
  ·rw[Bu];exact h.heap _ hlt hO
 | .bp n _ off,_,⟨hL,hs⟩=>⟨h.L n hL,by rw[h.ρ n hL];exact hs⟩
 | .fn _,_,hx=>hx
 | .clo f ns,_,⟨hv,hs⟩=>by
  refine⟨?_,fun n hn=>⟨h.L n (hs n hn).1,by rw[h.ρ n (hs n hn).1];exact(hs n hn).2⟩⟩
  rw[hv]
  congr 2
  exact List.map_congr_left fun n hn=>(h.ρ n (hs n hn).1).symm
 | .mp n,_,⟨hL,hs⟩=>⟨h.L n hL,by rw[h.ρ n hL];exact hs⟩
 | .yl n,_,⟨hL,hs⟩=>⟨h.L n hL,by rw[h.ρ n hL];exact hs⟩
 | .top,_,_=>trivial
 | .ag _,_,hx=>hx
 | .tup _,_,hx=>hx
theorem L4.keeps {V V':Vw} (h:CX V V') {x:AV} {cs:List Value} (hx:L4 V x cs):L4 V' x cs:=by
 cases x
 case p t d=>exact(Be.mono h.O h.heap hx:Be V'.w V'.O t cs d)
 all_goals
  obtain⟨v,h1,h2,h3⟩:=hx
  exact⟨v,h1,h2,h3.keeps h⟩
theorem Cz.keeps {V V':Vw} (h:CX V V'):∀ {l:List AV} {cs:List Value},Cz V l cs→Cz V' l cs
 | [],_,hx=>hx
 | _ :: _,_,⟨c1,c2,e,h1,h2⟩=>⟨c1,c2,e,h1.keeps h,h2.keeps h⟩
theorem Py.keeps {V V':Vw} (h:CX V V') {x:AV} {v:Value} (hx:Py V x v):Py V' x v:=by
 cases x
 case ag l=>obtain⟨cs,h1,h2⟩:=hx;exact⟨cs,h1,h2.keeps h⟩
 all_goals exact Py.of1 (Rk.keeps h hx)
theorem QQQ.keeps {V V':Vw} (h:CX V V'):∀ {l:List AV} {vs:List Value},QQQ V l vs→QQQ V' l vs
 | [],_,hx=>hx
 | _ :: _,_,⟨v,l,e,h1,h2⟩=>⟨v,l,e,h1.keeps h,h2.keeps h⟩
theorem B1.keeps {V V':Vw} (h:CX V V') {x:AV} {v:Value} (hx:B1 V x v):B1 V' x v:=by
 cases x
 case ag l=>obtain⟨cs,h1,h2⟩:=hx;exact⟨cs,h1,h2.keeps h⟩
 case tup l=>obtain⟨cs,h1,h2⟩:=hx;exact⟨cs,h1,h2.keeps h⟩
 all_goals
  simp only[B1]at hx ⊢
  exact Rk.keeps h hx
theorem DG.keeps {V V':Vw} (h:CX V V') {e:Ty} {cells:List Value} {xs:List e.den} (hx:DG V.w V.O e cells xs):DG V'.w V'.O e cells xs:=fun i x hi =>
 let ⟨es,h1,h2,h3⟩:=hx i x hi
 ⟨es,h1,h2,Be.mono h.O h.heap h3⟩
theorem NG.mono {w w':World} {O O':Nat→Prop} (hO:∀b,b<w.heap.size→¬O b→¬O' b) (hw:∀b,b<w.heap.size→¬O b→w'.heap[b]?=w.heap[b]?) {k v:Ty} :
  ∀ {es:List MapEntry} {l:List (k.den×v.den)},NG w O k v es l→NG w' O' k v es l
 | [],[],h=>h
 | [],_ :: _,h=>h.elim
 | _ :: _,[],h=>h.elim
 | _ :: _,_ :: _,⟨h1,h2,h3⟩=>⟨h1.mono hO hw,h2.mono hO hw,h3.mono hO hw⟩
theorem Hu {w w':World} {et:TypeId} {sz n:Nat} {loc:Value} {cells:List Value} (hb:∀b,blk loc=some b→w'.heap[b]?=w.heap[b]?) (h:w.ownsRow 0 et sz loc n cells):w'.ownsRow 0 et sz loc n cells:=by
 obtain⟨h1,h2⟩:=h
 refine⟨h1,?_⟩
 rcases h2 with h2|⟨g,cap,cur,rfl,r1,r2,r3⟩
 ·exact .inl h2
 ·exact .inr ⟨g,cap,cur,rfl,r1,(hb g rfl).trans r2,r3⟩
theorem UC.keeps {V V':Vw} (h:CX V V') {et:TypeId} {e:Ty} {xs:List e.den} {loc:Value} (hb:∀b,blk loc=some b→V'.w.heap[b]?=V.w.heap[b]?) (hx:UC V et e xs loc):UC V' et e xs loc:=by
 obtain⟨hm,cells,h1,he⟩:=hx
 exact⟨hm,cells,Hu hb h1,he.keeps h⟩
theorem Vz.keeps {V V':Vw} (h:CX V V') {iet:TypeId} {k e:Ty} {hole:Bool} {cells:List Value} {i:Nat} {x:k.den×List e.den} {u:Value} (hb:∀b,blk u=some b→V'.w.heap[b]?=V.w.heap[b]?) (hx:Vz V iet k e hole cells i x u):Vz V' iet k e hole cells i x u:=by
 obtain⟨c1,v,h1,h2,h3⟩:=hx
 refine⟨c1,v,h1,Be.mono h.O h.heap h2,?_⟩
 rcases h3 with h3|⟨h3,h4,h5⟩
 ·exact .inl h3
 ·exact .inr ⟨h3,h4,h5.keeps h hb⟩
theorem Az {o:Value} {ins:List Value} {b:Nat}:bk (.tuple (o :: ins).toArray) b↔blk o=some b∨∃(i:Nat) (u:Value),ins[i]?=some u∧blk u=some b:=by
 constructor
 ·rintro (h|⟨vs,h,x,hx,hb⟩)
  ·cases h
  ·injection h with h
   subst h
   simp only[List.mem_cons]at hx
   rcases hx with rfl|hx
   ·exact .inl hb
   ·obtain⟨i,hi⟩:=List.getElem?_of_mem hx
    exact .inr ⟨i,x,hi,hb⟩
 ·rintro (h|⟨i,u,hi,hb⟩)
  ·exact .inr ⟨_,rfl,o,by simp,h⟩
  ·exact .inr ⟨_,rfl,u,by simp[List.mem_of_getElem? hi],hb⟩
theorem Shp.bk {loc o:Value} {ins:List Value} {b:Nat} (h:Shp loc o ins):bk loc b↔bk (.tuple (o :: ins).toArray) b:=by
 rcases h with rfl|⟨rfl,rfl,rfl⟩
 ·exact Iff.rfl
 ·rw[Az,J9]
  simp[blk]
theorem Shp.plc {loc o:Value} {ins:List Value} (h:Shp loc o ins):plc loc=o:=by
 rcases h with rfl|⟨rfl,rfl,rfl⟩<;>rfl
theorem Shp.tup {loc o:Value} {ins:List Value} {vs:Array Value} (h:Shp loc o ins) (hv:loc=.tuple vs):vs=(o :: ins).toArray:=by
 subst hv
 rcases h with h|⟨h,_⟩
 ·injection h
 ·cases h
theorem Jk.keeps {V V':Vw} (h:CX V V') {et iet:TypeId} {k e:Ty} {xs:List (k.den×List e.den)} {hl:Option Nat} {o:Value} {ins cells:List Value} (hb:∀b,bk (.tuple (o :: ins).toArray) b→V'.w.heap[b]?=V.w.heap[b]?) (hx:Jk V et iet k e xs hl o ins cells):Jk V' et iet k e xs hl o ins cells :=
 ⟨hx.max,hx.len,Hu (fun b h1=>hb b (Az.2 (.inl h1))) hx.own,fun i x u h1 h2=>(hx.row i x u h1 h2).keeps h (fun b h3=>hb b (Az.2 (.inr ⟨i,u,h2,h3⟩))),hx.dist,hx.out⟩
theorem Rl {w:World} {et:TypeId} {sz n b:Nat} {loc:Value} {cells:List Value} (h:w.ownsRow 0 et sz loc n cells) (hb:blk loc=some b):b<w.heap.size:=by
 rcases h.2 with ⟨rfl,_⟩|⟨g,cap,cur,rfl,r1,r2,r3⟩
 ·simp[blk]at hb
 ·simp[blk]at hb;subst hb;exact D9 r2
theorem Jk.block_lt {V:Vw} {et iet:TypeId} {k e:Ty} {xs:List (k.den×List e.den)} {hl:Option Nat} {o:Value} {ins cells:List Value} (hx:Jk V et iet k e xs hl o ins cells) {b:Nat} (hb:bk (.tuple (o :: ins).toArray) b):b<V.w.heap.size:=by
 rcases Az.1 hb with h1|⟨i,u,h1,h2⟩
 ·exact Rl hx.own h1
 ·have hi:i<xs.length:=by have:=(List.getElem?_eq_some_iff.1 h1).1;rw[hx.len]at this;exact this
  obtain⟨c1,v,_,_,h3⟩:=hx.row i xs[i] u (List.getElem?_eq_getElem hi) h1
  rcases h3 with ⟨_,h3⟩|⟨_,_,_,ic,h3,_⟩
  ·rw[h3]at h2;simp[blk]at h2
  ·exact Rl h3 h2
theorem A2.keeps {V V':Vw} (h:CX V V') {o:Obj} {loc:Value} (hb:∀b,bk loc b→V'.w.heap[b]?=V.w.heap[b]?) (hx:A2 V o loc):A2 V' o loc:=by
 cases o with
 | arr et e xs =>
  obtain⟨hm,cells,⟨h1,h2⟩,he⟩:=hx
  refine⟨hm,cells,⟨h1,?_⟩,he.keeps h⟩
  rcases h2 with h2|⟨g,cap,cur,rfl,r1,r2,r3⟩
  ·exact .inl h2
  ·exact .inr ⟨g,cap,cur,rfl,r1,(hb g (.inl rfl)).trans r2,r3⟩
 | box et st fs =>
  obtain⟨h0,b,cs,rfl,h1,h2⟩:=hx
  exact⟨h0,b,cs,rfl,(hb b (.inl rfl)).trans h1,h2.keeps h⟩
 | nest et iet k e xs hl =>
  obtain⟨o,ins,cells,hs,h1⟩:=hx
  exact⟨o,ins,cells,hs,h1.keeps h fun b hb'=>hb b (hs.bk.2 hb')⟩
 | mapo k v l =>
  obtain⟨b,es,cl,rfl,h1,h2⟩:=hx
  exact⟨b,es,cl,rfl,(hb b (.inl rfl)).trans h1,h2.mono h.O h.heap⟩
 | frame tm fs =>
  obtain⟨h0,h1⟩:=hx
  exact⟨h0,fun s x hs=>(h1 s x hs).keeps h⟩
 | loop L =>
  obtain⟨b,rfl,h1⟩:=hx
  exact⟨b,rfl,(hb b (.inl rfl)).trans h1⟩
 | dfr =>
  obtain⟨b,rfl,h1⟩:=hx
  exact⟨b,rfl,(hb b (.inl rfl)).trans h1⟩
theorem A2.block_lt {V:Vw} {o:Obj} {loc:Value} (hx:A2 V o loc) {b:Nat} (hb:bk loc b):b<V.w.heap.size:=by
 cases o with
 | arr et e xs =>
  obtain⟨hm,cells,⟨h1,h2⟩,he⟩:=hx
  rcases h2 with ⟨rfl,_⟩|⟨g,cap,cur,rfl,r1,r2,r3⟩
  ·simp[bk,blk]at hb
  ·simp[bk,blk]at hb;subst hb;exact D9 r2
 | box et st fs =>
  obtain⟨h0,b',cs,rfl,h1,h2⟩:=hx
  simp[bk,blk]at hb;subst hb;exact D9 h1
 | nest et iet k e xs hl =>
  obtain⟨o,ins,cells,hs,h1⟩:=hx
  exact h1.block_lt (hs.bk.1 hb)
 | mapo k v l =>
  obtain⟨b',es,cl,rfl,h1,h2⟩:=hx
  simp[bk,blk]at hb;subst hb;exact D9 h1
 | frame tm fs =>
  obtain⟨rfl,h1⟩:=hx
  simp[bk,blk]at hb
 | loop L =>
  obtain⟨b',rfl,h1⟩:=hx
  simp[bk,blk]at hb;subst hb;exact D9 h1
 | dfr =>
  obtain⟨b',rfl,h1⟩:=hx
  simp[bk,blk]at hb;subst hb;exact D9 h1
/-! ### Lookups -/
section
variable {α:Type}
theorem Ar (k:Nat):∀(l r:List (Nat×α)),lk k (l++r)=(lk k l).or (lk k r)
 | [],_=>by simp[lk]
 | (j,v) :: l,r=>by
  simp only[List.cons_append,lk]
  split
  ·simp
  ·exact Ar k l r
theorem Fe (k n:Nat) (u:α):∀l:List (Nat×α),lk k (upd n u l)=if k=n then (lk n l).map (fun _=>u) else lk k l
 | []=>by simp[lk,upd]
 | (j,v) :: l=>by
  simp only[upd]
  by_cases hn:n=j
  ·subst hn
   by_cases hk:k=n
   ·subst hk;simp[lk]
   ·simp[lk,hk,Fe k n u l]
  ·simp only[if_neg hn,lk]
   by_cases hk:k=n
   ·subst hk;simp[hn,Fe k k u l]
   ·by_cases hkj:k=j
    ·subst hkj;simp[hk]
    ·simp[hk,hkj,Fe k n u l]
theorem Oo (k n:Nat):∀l:List (Nat×α),lk k (T6 n l)=if k=n then none else lk k l
 | []=>by simp[lk,T6]
 | (j,v) :: l=>by
  simp only[T6]
  by_cases hn:n=j
  ·subst hn
   rw[if_pos rfl,Oo k n l]
   by_cases hk:k=n<;>simp[lk,hk]
  ·rw[if_neg hn]
   simp only[lk,Oo k n l]
   by_cases hk:k=n
   ·subst hk;simp[hn]
   ·simp[hk]
end
end
/- A step that only adds: the abstract state holds behind it. -/
section
open Go Go.RowKit
def Dh (σ:St) (obs:List (Nat×Obj)):St:=⟨σ.env,obs++σ.objs⟩
structure QS (w:World) (O0:Nat→Prop) (σ:St) (ρ:Nat→Value) (v:AV) (obs:List (Nat×Obj)) (u:Value) (ρ':Nat→Value) (w':World):Prop where
 below:Below w.heap.size w w'
 rho:∀n,lk n obs=none→ρ' n=ρ n
 av:B1 (vw w' O0 (Dh σ obs) ρ') v u
 obj:∀n o,lk n obs=some o→A2 (vw w' O0 (Dh σ obs) ρ') o (ρ' n)
 new:∀n o b,lk n obs=some o→bk (ρ' n) b→w.heap.size≤b
 dist:∀n m o o' b,lk n obs=some o→lk m obs=some o'→bk (ρ' n) b→bk (ρ' m) b→n=m
theorem FD {α:Type} {k:Nat} {v:α}:∀ {l:List (Nat×α)},lk k l=some v→(k,v)∈l
 | (j,u) :: l,h=>by
  simp only[lk]at h
  split at h
  ·rename_i e;cases h;subst e;simp
  ·exact List.mem_cons_of_mem _ (FD h)
theorem MP {obs:List (Nat×Obj)} {σ:St} (h:BT obs σ=true) {n:Nat} {o:Obj} (hn:lk n obs=some o):lk n σ.objs=none:=by
 simp only[BT,List.all_eq_true]at h
 simpa using h _ (FD hn)
theorem KA {σ:St} {obs:List (Nat×Obj)} {n:Nat} (h:GP (Dh σ obs) n):(∃o,lk n obs=some o)∨(lk n obs=none∧GP σ n):=by
 obtain⟨o,h⟩:=h
 simp only[Dh,Ar]at h
 cases h':lk n obs with
 | some o'=>exact .inl ⟨o',rfl⟩
 | none=>rw[h']at h;exact .inr ⟨rfl,o,by simpa using h⟩
theorem V0 {σ:St} {obs:List (Nat×Obj)} (hf:BT obs σ=true) {n:Nat} (h:GP σ n):GP (Dh σ obs) n∧lk n obs=none:=by
 obtain⟨o,h⟩:=h
 have hn:lk n obs=none:=by
  cases h':lk n obs with
  | none=>rfl
  | some o'=>have:=MP hf h';rw[this]at h;cases h
 exact⟨⟨o,by simp[Dh,Ar,hn,h]⟩,hn⟩
theorem I3 {w w':World} {O0:Nat→Prop} {σ:St} {ρ ρ':Nat→Value} {obs:List (Nat×Obj)} (hf:BT obs σ=true)
  (hb:Below w.heap.size w w') (hr:∀n,lk n obs=none→ρ' n=ρ n) (hn:∀n o b,lk n obs=some o→bk (ρ' n) b→w.heap.size≤b) :
  CX (vw w O0 σ ρ) (vw w' O0 (Dh σ obs) ρ') where
 O:=by
  intro b hlt hO hO'
  rcases hO' with h0|⟨n,hl,hb'⟩
  ·exact hO (.inl h0)
  ·rcases KA hl with ⟨o,ho⟩|⟨hno,hl'⟩
   ·have:=hn n o b ho hb'
    have hlt:b<w.heap.size:=hlt
    omega
   ·exact hO (.inr ⟨n,hl',by rw[←hr n hno];exact hb'⟩)
 L:=fun n h=>(V0 hf h).1
 ρ:=fun n h=>hr n (V0 hf h).2
 heap:=fun b hlt _=>hb.block b hlt
theorem QS.keeps {w w':World} {O0:Nat→Prop} {σ:St} {ρ ρ':Nat→Value} {v:AV} {u:Value} {obs:List (Nat×Obj)} (hf:BT obs σ=true) (h:QS w O0 σ ρ v obs u ρ' w') :
  CX (vw w O0 σ ρ) (vw w' O0 (Dh σ obs) ρ'):=I3 hf h.below h.rho h.new
theorem Frm.below {K:Nat→Prop} {w0 w w':World} (h:Frm K w0 w) (hb:Below w.heap.size w w') (hK:∀b,K b→b<w0.heap.size):Frm K w0 w' where
 os:=hb.os.trans h.os
 tape:=hb.tape.trans h.tape
 output:=hb.output.trans h.output
 size:=Nat.le_trans h.size hb.size
 block:=fun k hk=>(hb.block k (Nat.lt_of_lt_of_le (hK k hk) h.size)).trans (h.block k hk)
theorem NH (a:Act) (dst:Option Tmp) (u:Value):(a.put dst u).tmps.size=a.tmps.size:=by
 cases dst<;>simp[Act.put]
theorem I4 (a:Act) (dst:Option Tmp) (u:Value):(a.put dst u).defers=a.defers:=by cases dst<;>rfl
theorem NI (a:Act) (d:Nat) (u:Value) (s:Nat) (hd:d<a.tmps.size):(a.put (some d) u).tmps.getD s undef=if s=d then u else a.tmps.getD s undef:=by
 by_cases h:s=d
 ·subst h;simp[Act.put,hd]
 ·have:¬d=s:=fun e=>h e.symm
  simp[Act.put,h,this,Array.getElem?_setIfInBounds]
theorem B6.add {w0:World} {K O0:Nat→Prop} {nt:Nat} {ds:Fp} {σ:St} {ρ:Nat→Value} {a:Act} {w:World} (h:B6 w0 K O0 nt ds σ ρ a w)
  (hK:∀b,K b→b<w0.heap.size) (hO:∀b,O0 b→b<w0.heap.size) {dst:Option Nat} (hd:∀d,dst=some d→d<nt)
  {v:AV} {obs:List (Nat×Obj)} {u:Value} {ρ':Nat→Value} {w':World} (hf:BT obs σ=true) (hq:QS w O0 σ ρ v obs u ρ' w') :
  B6 w0 K O0 nt ds (σ.add v obs dst) ρ' (a.put dst u) w':=by
 have hk:=hq.keeps hf
 have hobjs:(σ.add v obs dst).objs=obs++σ.objs:=by cases dst<;>rfl
 have hliv:∀n,GP (σ.add v obs dst) n↔GP (Dh σ obs) n:=fun n=>by simp[GP,hobjs,Dh]
 have hvw:vw w' O0 (σ.add v obs dst) ρ'=vw w' O0 (Dh σ obs) ρ':=by
  have hl:GP (σ.add v obs dst)=GP (Dh σ obs):=funext fun n=>propext (hliv n)
  have ho:own O0 (σ.add v obs dst) ρ'=own O0 (Dh σ obs) ρ':=by
   funext b
   simp only[own,hl]
  simp only[vw,hl,ho]
 refine⟨h.frm.below hq.below hK,by rw[NH];exact h.nt,by rw[I4];exact h.defers,fun p hp=>?_,?_,?_,?_,?_⟩
 ·obtain⟨h1,h2,h3⟩:=h.pin p hp
  have h4:=V0 hf h1
  exact⟨(hliv p.1).2 h4.1,(hq.rho _ h4.2).trans h2,h3⟩
 ·intro n o ho
  rw[hobjs,Ar]at ho
  rw[hvw]
  cases h':lk n obs with
  | some o'=>rw[h']at ho;cases ho;exact hq.obj n _ h'
  | none =>
   rw[h']at ho
   have ho':lk n σ.objs=some o:=by simpa using ho
   rw[hq.rho n h']
   refine(h.objs n o ho').keeps hk fun b hb=>?_
   exact hq.below.block b ((h.objs n o ho').block_lt hb)
 ·intro n b hl hb
  rcases KA ((hliv n).1 hl) with ⟨o,ho⟩|⟨hno,hl'⟩
  ·have hge:=hq.new n o b ho hb
   have:=h.frm.size
   exact⟨fun hk'=>by have:=hK b hk';omega,fun hk'=>by have:=hO b hk';omega⟩
  ·rw[hq.rho n hno]at hb
   exact h.free n b hl' hb
 ·intro n m b hl hl' hb hb'
  rcases KA ((hliv n).1 hl) with ⟨o,ho⟩|⟨hno,hn⟩<;>rcases KA ((hliv m).1 hl') with ⟨o',ho'⟩|⟨hno',hn'⟩
  ·exact hq.dist n m o o' b ho ho' hb hb'
  ·have h1:=hq.new n o b ho hb
   rw[hq.rho m hno']at hb'
   obtain⟨o2,h2⟩:=hn'
   have:=(h.objs m o2 h2).block_lt hb'
   have:b<w.heap.size:=this
   omega
  ·have h1:=hq.new m o' b ho' hb'
   rw[hq.rho n hno]at hb
   obtain⟨o2,h2⟩:=hn
   have:=(h.objs n o2 h2).block_lt hb
   have:b<w.heap.size:=this
   omega
  ·rw[hq.rho n hno]at hb
   rw[hq.rho m hno']at hb'
   exact h.dist n m b hn hn' hb hb'
 ·intro s x hs
  rw[hvw]
  cases dst with
  | none=>exact(h.env s x hs).keeps hk
  | some d =>
   simp only[St.add,lk]at hs
   rw[NI a d u s (by rw[h.nt];exact hd d rfl)]
   split at hs
   ·rename_i e;cases hs;rw[if_pos e];exact hq.av
   ·rename_i e;rw[if_neg e];exact(h.env s x hs).keeps hk
theorem QS.still {w:World} {O0:Nat→Prop} {σ:St} {ρ:Nat→Value} {v:AV} {u:Value} (h:B1 (vw w O0 σ ρ) v u):QS w O0 σ ρ v [] u ρ w where
 below:=Below.refl _ _
 rho:=fun _ _=>rfl
 av:=h
 obj:=fun _ _ h=>by cases h
 new:=fun _ _ _ h=>by cases h
 dist:=fun _ _ _ _ _ h=>by cases h
def EA (ρ:Nat→Value) (n:Nat) (x:Value):Nat→Value:=fun m=>if m=n then x else ρ m
theorem BU (ρ:Nat→Value) (n:Nat) (x:Value):EA ρ n x n=x:=by simp[EA]
theorem QS.one {w w':World} {O0:Nat→Prop} {σ:St} {ρ:Nat→Value} {v:AV} {u loc:Value} {n:Nat} {o:Obj} (hb:Below w.heap.size w w')
  (hnew:∀b,bk loc b→w.heap.size≤b)
  (hav:B1 (vw w' O0 (Dh σ [(n,o)]) (EA ρ n loc)) v u)
  (hobj:A2 (vw w' O0 (Dh σ [(n,o)]) (EA ρ n loc)) o loc):QS w O0 σ ρ v [(n,o)] u (EA ρ n loc) w' where
 below:=hb
 rho:=fun m hm=>by
  simp only[lk]at hm
  split at hm
  ·cases hm
  ·rename_i e;simp[EA,e]
 av:=hav
 obj:=fun m o' hm=>by
  simp only[lk]at hm
  split at hm
  ·rename_i e;cases hm;subst e;rw[BU];exact hobj
  ·cases hm
 new:=fun m o' b hm hb'=>by
  simp only[lk]at hm
  split at hm
  ·rename_i e;subst e;rw[BU]at hb';exact hnew b hb'
  ·cases hm
 dist:=fun m m' o1 o2 b h1 h2 _ _=>by
  simp only[lk]at h1 h2
  split at h1
  ·split at h2
   ·omega
   ·cases h2
  ·cases h1
end
/- What the executor reads off an abstract value is so. -/
section
open Go Go.RowKit
theorem A4 {t:Ty} {p:PV} {d:t.den} (h:BH t p=some d):p=⟨t,d⟩:=by
 obtain⟨u,x⟩:=p
 simp only[BH]at h
 split at h
 ·rename_i e
  subst e
  simpa using h
 ·cases h
theorem BQ {e e':Ty} {xs:List e'.den} {ys:List e.den} (h:BH (.slice e) ⟨.slice e',xs⟩=some ys):e'=e∧HEq xs ys:=by
 have h':=A4 h
 injection h' with h1 h2
 injection h1 with h1
 exact⟨h1,h2⟩
theorem MQ {α:Type} (xs:List α) {lo hi:Nat} (h:hi≤xs.length):(sub xs lo hi).length=hi-lo:=by
 simp[sub];omega
theorem WA {α:Type} (xs:List α) (lo hi i:Nat) {x:α} (h:(sub xs lo hi)[i]?=some x):xs[lo+i]?=some x∧i<hi-lo:=by
 simp only[sub,List.getElem?_take,List.getElem?_drop]at h
 split at h
 ·rename_i hi';exact⟨h,hi'⟩
 ·cases h
theorem dQ {w:World} {O':Nat→Prop} {et:TypeId} {e:Ty} {xs:List e.den} {loc v:Value} {cells:List Value} {lo hi:Nat} (hsr:∀b,blk loc=some b→¬O' b)
  (hm:xs.length≤AP) (how:w.ownsRow 0 et e.size loc xs.length cells) (hel:DG w O' e cells xs) (hv:Cr loc e.size lo hi v):Be w O' (.slice e) [v] (sub xs lo hi):=by
 obtain⟨a,m,c,hloc,hlo,hhi,a',c',rfl,hc',h0,h1⟩:=hv
 have hmx:m=xs.length:=by
  rcases how.2 with ⟨he,hn⟩|⟨g,cap,cur,he,_⟩
  ·rw[hloc]at he;injection he;omega
  ·rw[hloc]at he;injection he
 subst hmx
 have hl:=MQ xs (lo:=lo) hhi
 refine⟨a',c',by rw[hl],by rw[hl];exact hc',by rw[hl];omega,?_⟩
 by_cases hlt:lo<hi
 ·right
  rcases how.2 with ⟨he,hn⟩|⟨g,cap,cur,he,r⟩
  ·omega
  ·have hcell:=World.ownsRow.cells how (g:=g) (by rw[he];rfl)
   have ha:a=some ⟨g,0,none⟩:=by rw[hloc]at he;injection he
   subst ha
   refine⟨_,h1 hlt,hsr _ (by rw[he];simp only[blk,Bu]),fun i x hi'=>?_⟩
   obtain⟨hx,hlt'⟩:=WA xs lo hi i hi'
   obtain⟨es,hes,hc,hr⟩:=hel (lo+i) x hx
   refine⟨es,hes,fun j u hj=>?_,hr⟩
   have:=hcell _ u (hc j u hj)
   rw[Cn]
   rwa [Nat.add_mul,Nat.add_assoc]at this
 ·left
  have:(sub xs lo hi).length=0:=by rw[hl];omega
  exact List.eq_nil_of_length_eq_zero this
theorem GX {w:World} {base:Nat} {et:TypeId} {sz n:Nat} {s:Value} {xs:List Value} (h:w.ownsRow base et sz s n xs):plc s=s:=by
 rcases h.2 with ⟨rfl,_⟩|⟨g,cap,cur,rfl,_⟩<;>rfl
theorem Q7 {V:Vw} {et:TypeId} {e:Ty} {xs:List e.den} {loc:Value} (h:A2 V (.arr et e xs) loc):plc loc=loc:=by
 obtain⟨_,_,h,_⟩:=h
 exact GX h
theorem WB {V:Vw} {O':Nat→Prop} (hO:∀b,¬V.O b→¬O' b) {et:TypeId} {e:Ty} {xs:List e.den} {loc v:Value} {lo hi:Nat} (hsr:∀b,blk loc=some b→¬O' b)
  (ho:A2 V (.arr et e xs) loc) (hv:Cr (plc loc) e.size lo hi v):Be V.w O' (.slice e) [v] (sub xs lo hi):=by
 rw[Q7 ho]at hv
 obtain⟨hm,cells,how,hel⟩:=ho
 exact dQ hsr hm how (fun i x hi=>let ⟨es,h1,h2,h3⟩:=hel i x hi;⟨es,h1,h2,h3.mono (fun b _ hb=>hO b hb) (fun _ _ _=>rfl)⟩) hv
theorem Ff {w:World} {et:TypeId} {sz n:Nat} {s:Value} {xs:List Value} (h:w.ownsRow 0 et sz s n xs):Cr s sz 0 n s:=by
 rcases h.2 with ⟨rfl,hn⟩|⟨g,cap,cur,rfl,_,_,hcap,_⟩
 ·exact⟨none,0,0,rfl,by omega,by omega,none,0,by rw[hn],by omega,fun _=>⟨rfl,rfl⟩,fun h=>by omega⟩
 ·exact⟨some ⟨g,0,none⟩,n,cap,rfl,by omega,by omega,some ⟨g,0,none⟩,cap,by simp,by omega,fun _=>⟨rfl,rfl⟩,fun _=>by simp[K9]⟩
theorem UO {V:Vw} {O':Nat→Prop} (hO:∀b,¬V.O b→¬O' b) {et:TypeId} {e:Ty} {xs:List e.den} {u:Value} (hsr:∀b,blk u=some b→¬O' b) (h:UC V et e xs u):Be V.w O' (.slice e) [u] xs:=by
 have h1:=h
 obtain⟨_,_,how,_⟩:=h1
 have:=WB (V:=V) hO hsr (et:=et) (e:=e) (xs:=xs) (loc:=u) h (by rw[GX how];exact Ff how)
 rwa [HW]at this
theorem MR {V:Vw} {O':Nat→Prop} (hO:∀b,¬V.O b→¬O' b) {et iet:TypeId} {k e:Ty} {xs:List (k.den×List e.den)} {o:Value} {ins cells:List Value} (h:Jk V et iet k e xs none o ins cells)
  (hsr:∀(i b:Nat) (u:Value),ins[i]?=some u→blk u=some b→¬O' b):DG V.w O' (.agg (.prod k (.slice e))) cells xs:=by
 intro i x hi
 have hlt:i<ins.length:=by rw[h.len];exact(List.getElem?_eq_some_iff.1 hi).1
 obtain⟨c1,v,h1,h2,h3⟩:=h.row i x ins[i] hi (List.getElem?_eq_getElem hlt)
 rcases h3 with ⟨h3,_⟩|⟨_,rfl,h4⟩
 ·cases h3
 ·have hr:=UO hO (fun b hb=>hsr i b _ (List.getElem?_eq_getElem hlt) hb) h4
  refine⟨c1++[ins[i]],by simp[Ty.size,h2.length],h1,?_⟩
  exact(⟨c1,[ins[i]],rfl,h2.mono (fun b _ hb=>hO b hb) (fun _ _ _=>rfl),hr⟩:Be V.w O' (.prod k (.slice e)) _ x)
theorem Xe {V:Vw} {O':Nat→Prop} (hO:∀b,¬V.O b→¬O' b) {et iet:TypeId} {k e:Ty} {xs:List (k.den×List e.den)} {loc v:Value} {lo hi:Nat} (hsr:∀b,bk loc b→¬O' b)
  (ho:A2 V (.nest et iet k e xs none) loc) (hv:Cr (plc loc) (k.size+1) lo hi v):Be V.w O' (.slice (.agg (.prod k (.slice e)))) [v] (sub (α:=k.den×List e.den) xs lo hi):=by
 obtain⟨o,ins,cells,hs,h⟩:=ho
 rw[hs.plc]at hv
 exact dQ (e:=.agg (.prod k (.slice e))) (xs:=xs) (fun b hb=>hsr b (hs.bk.2 (Az.2 (.inl hb)))) h.max h.own (MR hO h fun i b u h1 h2=>hsr b (hs.bk.2 (Az.2 (.inr ⟨i,u,h1,h2⟩)))) hv
theorem UP {V:Vw} {ob:Obj} {loc:Value} {a:Option Addr} {m c:Nat} (ho:A2 V ob loc) (h:plc loc=.slice a m c):∃et sz cells,V.w.ownsRow 0 et sz (.slice a m c) m cells∧m≤AP:=by
 cases ob with
 | arr et e xs =>
  have h1:=Q7 ho
  obtain⟨hm,cells,how,_⟩:=ho
  rw[h1]at h
  subst h
  have hm':m=xs.length:=by
   rcases how.2 with ⟨he,hn⟩|⟨g,cap,cur,he,_⟩
   ·injection he;omega
   ·injection he
  subst hm'
  exact⟨et,_,cells,how,hm⟩
 | nest et iet k e xs hl =>
  obtain⟨o,ins,cells,hs,hN⟩:=ho
  rw[hs.plc]at h
  subst h
  have how:=hN.own
  have hm':m=xs.length:=by
   rcases how.2 with ⟨he,hn⟩|⟨g,cap,cur,he,_⟩
   ·injection he;omega
   ·injection he
  subst hm'
  exact⟨et,_,cells,how,hN.max⟩
 | box et st fs=>obtain⟨_,b,cs,rfl,_⟩:=ho;cases h
 | mapo k v l=>obtain⟨b,_,_,rfl,_⟩:=ho;cases h
 | frame tm fs=>obtain⟨rfl,_⟩:=ho;cases h
 | loop L=>obtain⟨b,rfl,_⟩:=ho;cases h
 | dfr=>obtain⟨b,rfl,_⟩:=ho;cases h
theorem LD {V V':Vw} (hw:V'.w=V.w) (hO:V'.O=V.O) {et iet:TypeId} {k e:Ty} {xs:List (k.den×List e.den)} {h:Option Nat} {loc:Value} (ho:A2 V (.nest et iet k e xs h) loc):A2 V' (.nest et iet k e xs h) loc:=by
 obtain⟨o,ins,cells,hl,hN⟩:=ho
 refine⟨o,ins,cells,hl,hN.max,hN.len,by rw[hw];exact hN.own,fun i x u h1 h2=>?_,hN.dist,hN.out⟩
 obtain⟨c1,v,h3,h4,h5⟩:=hN.row i x u h1 h2
 refine⟨c1,v,h3,by rw[hw,hO];exact h4,?_⟩
 rcases h5 with h5|⟨h5,h6,hm,ic,h7,h8⟩
 ·exact .inl h5
 ·exact .inr ⟨h5,h6,hm,ic,by rw[hw];exact h7,by rw[hw,hO];exact h8⟩
theorem nN {V V':Vw} (hw:V'.w=V.w) (hO:∀b,¬V.O b→¬V'.O b) {et iet:TypeId} {k e:Ty} {xs:List (k.den×List e.den)} {h:Option Nat} {loc:Value} (ho:A2 V (.nest et iet k e xs h) loc):A2 V' (.nest et iet k e xs h) loc:=by
 obtain⟨o,ins,cells,hl,hN⟩:=ho
 refine⟨o,ins,cells,hl,hN.max,hN.len,by rw[hw];exact hN.own,fun i x u h1 h2=>?_,hN.dist,hN.out⟩
 obtain⟨c1,v,h3,h4,h5⟩:=hN.row i x u h1 h2
 refine⟨c1,v,h3,h4.mono (fun b _ hb=>hO b hb) (fun b _ _=>by rw[hw]),?_⟩
 rcases h5 with h5|⟨h5,h6,hm,ic,h7,h8⟩
 ·exact .inl h5
 ·refine .inr ⟨h5,h6,hm,ic,by rw[hw];exact h7,fun i x hi=>?_⟩
  obtain⟨es,g1,g2,g3⟩:=h8 i x hi
  exact⟨es,g1,g2,g3.mono (fun b _ hb=>hO b hb) (fun b _ _=>by rw[hw])⟩
theorem WC {V:Vw} {et iet:TypeId} {k e:Ty} {xs:List (k.den×List e.den)} {h:Option Nat} {loc v:Value} {vs:Array Value} {i:Nat} {z:k.den×List e.den}
  (ho:A2 V (.nest et iet k e xs h) loc) (hvs:loc=.tuple vs) (hv:vs[i+1]?=some v):xs[i]?=some (xs.getD i z):=by
 obtain⟨o,ins,cells,hs,h⟩:=ho
 obtain rfl:=hs.tup hvs
 have hv:ins[i]?=some v:=by simpa using hv
 have hlt:i<xs.length:=by rw[←h.len];exact(List.getElem?_eq_some_iff.1 hv).1
 rw[List.getElem?_eq_getElem hlt,List.getD_eq_getElem?_getD,List.getElem?_eq_getElem hlt];rfl
theorem Q8 {w:World} {base:Nat} {et:TypeId} {sz n m c:Nat} {a:Option Addr} {xs:List Value} (h:w.ownsRow base et sz (.slice a m c) n xs):m=n:=by
 rcases h.2 with ⟨he,hn⟩|⟨g,cap,cur,he,_⟩
 ·injection he;omega
 ·injection he
theorem xD {V:Vw} {ob:Obj} {loc v:Value} {vs:Array Value} {i len c:Nat} {a:Option Addr} (ho:A2 V ob loc) (hvs:loc=.tuple vs) (hv:vs[i+1]?=some v) (hve:v=.slice a len c):len≤AP:=by
 subst hvs
 cases ob with
 | arr et e xs =>
  obtain⟨hm,cells,how,_⟩:=ho
  rcases how.2 with ⟨he,_⟩|⟨g,cap,cur,he,_⟩<;>cases he
 | nest et iet k e xs hl =>
  obtain⟨o,ins,cells,hs,hN⟩:=ho
  obtain rfl:=hs.tup rfl
  have hv:ins[i]?=some v:=by simpa using hv
  have hlt:i<xs.length:=by rw[←hN.len];exact(List.getElem?_eq_some_iff.1 hv).1
  obtain⟨c1,v',h1,h2,h3⟩:=hN.row i xs[i] v (List.getElem?_eq_getElem hlt) hv
  rcases h3 with ⟨_,h3⟩|⟨_,rfl,h4,ic,how,_⟩
  ·rw[hve]at h3;injection h3 with h5 h6;omega
  ·rw[hve]at how
   rw[Q8 how];exact h4
 | box et st fs=>obtain⟨_,b,cs,h,_⟩:=ho;cases h
 | mapo k v l=>obtain⟨b,_,_,h,_⟩:=ho;cases h
 | frame tm fs=>obtain⟨h,_⟩:=ho;cases h
 | loop L=>obtain⟨b,h,_⟩:=ho;cases h
 | dfr=>obtain⟨b,h,_⟩:=ho;cases h
theorem xE {V:Vw} {O':Nat→Prop} (hO:∀b,¬V.O b→¬O' b) {et iet:TypeId} {k e:Ty} {xs:List (k.den×List e.den)} {loc v:Value} {vs:Array Value} {i:Nat} {x:k.den×List e.den} (hsr:∀b,bk loc b→¬O' b)
  (ho:A2 V (.nest et iet k e xs none) loc) (hvs:loc=.tuple vs) (hv:vs[i+1]?=some v) (hx:xs[i]?=some x):Be V.w O' (.slice e) [v] x.2:=by
 obtain⟨o,ins,cells,hs,h⟩:=ho
 obtain rfl:=hs.tup hvs
 have hv:ins[i]?=some v:=by simpa using hv
 obtain⟨c1,v',h1,h2,h3⟩:=h.row i x v hx hv
 rcases h3 with ⟨h3,_⟩|⟨_,rfl,h4⟩
 ·cases h3
 ·exact UO hO (fun b hb=>hsr b (hs.bk.2 (Az.2 (.inr ⟨i,_,hv,hb⟩)))) h4
section
variable {V:Vw} {O':Nat→Prop} {l:Bool} {σ:St}
theorem dR (hO:∀b,¬V.O b→¬O' b) (hsr:l=true→∀b,¬O' b) (hobj:∀n o,lk n σ.objs=some o→A2 V o (V.ρ n))
  {t:Ty} {x:AV} {d:t.den} {cs:List Value} (h:Eg l σ t x=some d) (hx:L4 V x cs):Be V.w O' t cs d:=by
 unfold Eg at h
 split at h
 ·rename_i u d'
  have:=A4 h
  injection this with h1 h2
  subst h1
  cases h2
  have hx:Be V.w V.O u cs d':=hx
  exact hx.mono (fun b _ hb=>hO b hb) (fun _ _ _=>rfl)
 ·rename_i e n e' lo hi
  split at h
  ·rename_i hc
   obtain⟨hl',rfl⟩:=hc
   have hl:=hl'
   obtain⟨v,rfl,_,hL,hv⟩:=hx
   cases hn:lk n σ.objs with
   | none=>rw[hn]at h;simp[Pt]at h
   | some o =>
    rw[hn]at h
    cases o with
    | box et st fs=>simp[Pt]at h
    | mapo k v l=>simp[Pt]at h
    | frame tm fs=>simp[Pt]at h
    | loop L=>simp[Pt]at h
    | dfr=>simp[Pt]at h
    | nest et iet k e2 xs hl =>
     cases hl with
     | some i=>simp[Pt]at h
     | none =>
      simp only[Pt]at h
      obtain⟨h1,h2⟩:=BQ h
      subst h1
      cases h2
      exact Xe hO (fun b _=>hsr hl' b) (hobj n _ hn) hv
    | arr et e2 xs =>
     simp only[Pt]at h
     obtain⟨h1,h2⟩:=BQ h
     subst h1
     cases h2
     exact WB hO (fun b _=>hsr hl b) (hobj n _ hn) hv
  ·cases h
 ·rename_i e n e' i len
  split at h
  ·rename_i hc
   obtain⟨hl,rfl⟩:=hc
   obtain⟨v,rfl,_,hL,vs,a,c,hvs,hvi,_⟩:=hx
   cases hn:lk n σ.objs with
   | none=>rw[hn]at h;simp[Oh]at h
   | some o =>
    rw[hn]at h
    unfold Oh at h
    split at h
    ·rename_i et iet k e2 xs ho
     cases ho
     obtain⟨h1,h2⟩:=BQ h
     subst h1
     cases h2
     exact xE hO (fun b _=>hsr hl b) (hobj n _ hn) hvs hvi (WC (hobj n _ hn) hvs hvi)
    ·cases h
  ·cases h
 ·obtain⟨v,rfl,_,hv⟩:=hx
  have hv:v=_:=hv
  subst hv
  cases h
  exact⟨none,0,rfl,by simp,by simp[AP],.inl rfl⟩
 ·cases h
theorem qU (hO:∀b,¬V.O b→¬O' b) (hsr:l=true→∀b,¬O' b) (hobj:∀n o,lk n σ.objs=some o→A2 V o (V.ρ n)) :
  ∀ {fs:List AV} {t:Ty} {d:t.den} {cs:List Value},It l σ fs t=some d→Cz V fs cs→Be V.w O' t cs d
 | [],t,d,cs,h,hx=>by simp[It]at h
 | [x],t,d,cs,h,hx=>by
  obtain⟨c1,c2,rfl,h1,h2⟩:=hx
  have h2:c2=[]:=h2
  subst h2
  rw[List.append_nil]
  simp only[It]at h
  exact dR hO hsr hobj h h1
 | x :: y :: r,t,d,cs,h,hx=>by
  obtain⟨c1,c2,rfl,h1,h2⟩:=hx
  cases t
  case prod a b =>
   simp only[It]at h
   cases e1:Eg l σ a x with
   | none=>rw[e1]at h;simp[J0]at h
   | some d1 =>
    cases e2:It l σ (y :: r) b with
    | none=>rw[e1,e2]at h;simp[J0]at h
    | some d2 =>
     rw[e1,e2]at h
     simp only[J0]at h
     cases h
     exact⟨c1,c2,rfl,dR hO hsr hobj e1 h1,qU hO hsr hobj e2 h2⟩
  all_goals simp[It]at h
theorem xF {t:Ty} {x:AV} {d:t.den} {v:Value} (h:Eg l σ t x=some d) (hp:∀u d',x≠.p u d') (hx:B1 V x v):L4 V x [v]∧t.wrap [v]=v:=by
 unfold Eg at h
 split at h
 ·exact absurd rfl (hp _ _)
 ·obtain⟨hL,a,m,c,_,_,_,a',c',rfl,_⟩:=hx
  refine⟨⟨_,rfl,rfl,?_⟩,rfl⟩
  exact⟨hL,a,m,c,by assumption,by assumption,by assumption,a',c',rfl,by assumption⟩
 ·obtain⟨hL,vs,a,c,h1,h2,rfl⟩:=hx
  exact⟨⟨_,rfl,rfl,hL,vs,a,c,h1,h2,rfl⟩,rfl⟩
 ·have hv:v=_:=hx
  subst hv
  exact⟨⟨_,rfl,rfl,rfl⟩,rfl⟩
 ·cases h
theorem L5 (hO:∀b,¬V.O b→¬O' b) (hsr:l=true→∀b,¬O' b) (hobj:∀n o,lk n σ.objs=some o→A2 V o (V.ρ n))
  {t:Ty} {x:AV} {d:t.den} {v:Value} (h:MN l σ t x=some d) (hx:B1 V x v):Bf V.w O' t v d:=by
 unfold MN at h
 split at h
 ·rename_i t fs
  obtain⟨cs,rfl,hcs⟩:=hx
  exact⟨cs,(qU hO hsr hobj h hcs:Be V.w O' t cs d),rfl⟩
 ·by_cases hp:∃u d',x=.p u d'
  ·obtain⟨u,d',rfl⟩:=hp
   have h:BH t ⟨u,d'⟩=some d:=by simpa only[Eg] using h
   have:=A4 h
   injection this with h1 h2
   subst h1
   cases h2
   exact Bf.mono (fun b _ hb=>hO b hb) (fun _ _ _=>rfl) hx
  ·obtain⟨h1,h2⟩:=xF h (fun u d' e=>hp ⟨u,d',e⟩) hx
   exact⟨[v],dR hO hsr hobj h h1,h2.symm⟩
end
end
/- The table of types against the program; loads; addresses. -/
section
open Go Go.RowKit
def WD:Ty→Value→Bool
 | .agg _,.agg _=>true
 | .agg _,_=>false
 | .prod _ _,_=>false
 | _,.agg _=>false
 | _,_=>true
def NJ (P : Program) (id : TypeId) (a b : IntKind) : Prop := ∃ f0 f1 : Field, P.underlying id = some (.struct #[f0, f1]) ∧ ((f0.name != "_") = true ∧ (f1.name != "_") = true) ∧ (f0.offset = 0 ∧ f1.offset = 1) ∧ (P.underlying f0.type = some (.int a) ∧ P.underlying f1.type = some (.int b)) ∧ P.stoodInHeld id = false
def Rm (P:Program) (id:TypeId):Ty→Nat→Prop
 | .agg (.prod (.int a) (.int b)),0=>NJ P id a b
 | _,_=>True
def isI (k:IntKind):Option TypeDesc→Bool
 | some (.int k')=>k==k'
 | _=>false
theorem WE {k:IntKind} {d:Option TypeDesc} (h:isI k d=true):d=some (.int k):=by
 unfold isI at h
 split at h
 ·rw[beq_iff_eq.1 h]
 ·cases h
def A1w (P:Program) (id:TypeId) (a b:IntKind):Option TypeDesc→Bool
 | some (.struct ⟨[f0, f1]⟩) => (f0.name != "_") && (f1.name != "_") && f0.offset == 0 && f1.offset == 1 && isI a (P.underlying f0.type) && isI b (P.underlying f1.type) && P.stoodInHeld id == false
 | _=>false
def qV (P:Program) (id:TypeId):Ty→Nat→Bool
 | .agg (.prod (.int a) (.int b)),0=>A1w P id a b (P.underlying id)
 | _,_=>true
theorem qW {P:Program} {id:TypeId} {t:Ty} {el:Nat} (h:qV P id t el=true):Rm P id t el:=by
 unfold qV at h
 unfold Rm
 split at h
 ·unfold A1w at h
  split at h
  ·rename_i f0 f1 hu
   simp only[Bool.and_eq_true,beq_iff_eq]at h
   obtain⟨⟨⟨⟨⟨⟨h1,h2⟩,h3⟩,h4⟩,h5⟩,h6⟩,h7⟩:=h
   exact⟨f0,f1,hu,⟨h1,h2⟩,⟨h3,h4⟩,⟨WE h5,WE h6⟩,h7⟩
  ·cases h
 ·trivial
def Dq (P:Program) (tb:Tb) (id:TypeId) (ti:TI):Prop :=
 (((∀p∈ti.offs,p.2≠0)∧0<ti.bytes∧Rm P id ti.ty ti.el)∧∃(i:TypeInfo) (z:Value),P.info? id=some i∧i.size=ti.ty.size∧i.bytes=ti.bytes∧i.zero=some z∧z.cells=ti.ty.zero.toArray) ∧
 match ti.ty with
 | .int k=>P.underlying id=some (.int k)
 | .bool=>P.underlying id=some .bool
 | .str=>P.underlying id=some .string
 | .slice e=>P.underlying id=some (.slice ti.el)∧∃te,lk ti.el tb.ty=some te∧te.ty=e
 | .agg _=>(∃fs:Array Field,ti.el=0∧P.underlying id=some (.struct fs)∧ti.offs.map some=fs.toList.map fun f=>(P.info? f.type).map fun i=>(f.offset,i.size)) ∨
   ∃n e i,ti.el≠0∧P.underlying id=some (.array n e)∧P.info? e=some i∧ti.offs=(List.range n).map fun k=>(k*i.size,i.size)
 | .prod _ _=>False
 | .ref j=>∃d,P.underlying id=some d∧(match d with|.struct _=>False|.array _ _=>False|_=>True) ∧
   ∀k e,j=2→ti.offs=[(k,e)]→d=.map k e∧∃(tk te:TI) (z:Value),lk k tb.ty=some tk∧lk e tb.ty=some te∧(∃i,P.info? e=some i∧i.zero=some z)∧z.cells=te.ty.zero.toArray∧WD te.ty z=true
def Dr (P:Program) (tb:Tb):Prop:=∀id ti,lk id tb.ty=some ti→Dq P tb id ti
/-! ### The check, by the kernel -/
def qX:Value→Value→Bool
 | .int k n,.int k' n'=>k==k'&&n==n'
 | .bool a,.bool b=>a==b
 | .string s,.string s'=>s.size==0&&s'.size==0
 | .slice none 0 0,.slice none 0 0=>true
 | .pointer none,.pointer none=>true
 | .nilFunc,.nilFunc=>true
 | .map none,.map none=>true
 | _,_=>false
theorem qY {a b:Value} (h:qX a b=true):a=b:=by
 unfold qX at h
 split at h
 ·simp only[Bool.and_eq_true,beq_iff_eq]at h;obtain⟨rfl,rfl⟩:=h;rfl
 ·simp only[beq_iff_eq]at h;rw[h]
 ·rename_i s s'
  simp only[Bool.and_eq_true,beq_iff_eq]at h
  have:s=s':=by
   obtain⟨⟨l⟩⟩:=s
   obtain⟨⟨l'⟩⟩:=s'
   have h1:l.length=0:=h.1
   have h2:l'.length=0:=h.2
   rw[List.eq_nil_of_length_eq_zero h1,List.eq_nil_of_length_eq_zero h2]
  rw[this]
 ·rfl
 ·rfl
 ·rfl
 ·rfl
 ·cases h
def MS:List Value→List Value→Bool
 | [],[]=>true
 | a :: l,b :: r=>qX a b&&MS l r
 | _,_=>false
theorem Oq:∀ {l r:List Value},MS l r=true→l=r
 | [],[],_=>rfl
 | a :: l,b :: r,h=>by
  simp only[MS,Bool.and_eq_true]at h
  rw[qY h.1,Oq h.2]
 | [],_ :: _,h=>by simp[MS]at h
 | _ :: _,[],h=>by simp[MS]at h
def A1x (ty:Ty) (bytes:Nat):Option TypeInfo→Bool
 | some i=>i.size==ty.size&&i.bytes==bytes&&(match i.zero with|some z=>MS z.cells.toList ty.zero|none=>false)
 | none=>false
def A2F (offs:List (Nat×Nat)) (n:Nat):Option TypeInfo→Bool
 | some i=>offs==(List.range n).map fun k=>(k*i.size,i.size)
 | none=>false
def A1y (e:Nat) (te:Option TI):Option TypeInfo→Bool
 | some i=>match i.zero,te with|some z,some te=>MS z.cells.toList te.ty.zero&&WD te.ty z|_,_=>false
 | none=>false
def A1O (P:Program) (tb:Tb) (j:Nat) (d:TypeDesc):List (Nat×Nat)→Bool
 | [(k,e)]=>j != 2||(match d with|.map k' e'=>k'==k&&e'==e&&(lk k tb.ty).isSome&&A1y e (lk e tb.ty) (P.info? e)|_=>false)
 | _=>true
theorem xG {P:Program} {tb:Tb} {j:Nat} {d:TypeDesc} {offs:List (Nat×Nat)} (h:A1O P tb j d offs=true):∀k e,j=2→offs=[(k,e)]→d=.map k e∧∃(tk te:TI) (z:Value),lk k tb.ty=some tk∧lk e tb.ty=some te∧(∃i,P.info? e=some i∧i.zero=some z)∧z.cells=te.ty.zero.toArray∧WD te.ty z=true:=by
 rintro k e rfl rfl
 simp only[A1O,bne_self_eq_false,Bool.false_or]at h
 split at h
 ·simp only[Bool.and_eq_true,beq_iff_eq]at h
  obtain⟨⟨⟨rfl,rfl⟩,h3⟩,h4⟩:=h
  refine⟨rfl,?_⟩
  obtain⟨tk,htk⟩:=Option.isSome_iff_exists.1 h3
  unfold A1y at h4
  split at h4
  ·rename_i i hi
   split at h4
   ·rename_i z te hz hte
    simp only[Bool.and_eq_true]at h4
    exact⟨tk,te,z,htk,hte,⟨i,hi,hz⟩,by rw[←Oq h4.1],h4.2⟩
   ·cases h4
  ·cases h4
 ·cases h
def A2G (P:Program) (tb:Tb) (ti:TI):Ty→Option TypeDesc→Bool
 | .int k,some (.int k')=>k==k'
 | .bool,some .bool=>true
 | .str,some .string=>true
 | .slice e,some (.slice el)=>el==ti.el&&(match lk ti.el tb.ty with|some te=>decide (te.ty=e)|none=>false)
 | .agg _,some (.struct fs)=>ti.el==0&&ti.offs.map some==fs.toList.map fun f=>(P.info? f.type).map fun i=>(f.offset,i.size)
 | .agg _,some (.array n e)=>ti.el != 0&&A2F ti.offs n (P.info? e)
 | .ref _,some (.struct _)=>false
 | .ref _,some (.array _ _)=>false
 | .ref j,some d=>A1O P tb j d ti.offs
 | _,_=>false
def tiB (P:Program) (tb:Tb) (id:TypeId) (ti:TI):Bool:=((ti.offs.all fun p=>p.2 != 0)&&(decide (0<ti.bytes)&&qV P id ti.ty ti.el))&&A1x ti.ty ti.bytes (P.info? id)&&A2G P tb ti ti.ty (P.underlying id)
theorem A1P {P:Program} {tb:Tb} {id:TypeId} {ti:TI} (h:tiB P tb id ti=true):Dq P tb id ti:=by
 simp only[tiB,Bool.and_eq_true]at h
 obtain⟨⟨⟨h0,hb,hkf⟩,h1⟩,h2⟩:=h
 refine⟨⟨⟨fun p hp=>by simpa using (List.all_eq_true.1 h0) p hp,by simpa using hb,qW hkf⟩,?_⟩,?_⟩
 ·unfold A1x at h1
  split at h1
  ·rename_i i hi
   simp only[Bool.and_eq_true,beq_iff_eq]at h1
   obtain⟨⟨h3,h4⟩,h5⟩:=h1
   split at h5
   ·rename_i z hz
    exact⟨i,z,hi,h3,h4,hz,by rw[←Oq h5]⟩
   ·cases h5
  ·cases h1
 ·generalize hu:P.underlying id=u at h2
  generalize ti.ty=t at h2
  cases t<;>cases u<;>simp only[A2G]at h2<;>try(cases h2;done)
  all_goals
   rename_i u
   cases u<;>simp only at h2<;>try(cases h2;done)
  ·have:=beq_iff_eq.1 h2;subst this;rfl
  ·rfl
  ·rfl
  ·simp only[Bool.and_eq_true,beq_iff_eq]at h2
   obtain⟨h3,h4⟩:=h2
   split at h4
   ·rename_i te hte;exact⟨by rw[h3],te,hte,by simpa using h4⟩
   ·cases h4
  ·rename_i n e
   simp only[Bool.and_eq_true,bne_iff_ne]at h2
   obtain⟨h3,h2⟩:=h2
   unfold A2F at h2
   split at h2
   ·rename_i i hi;exact .inr ⟨_,_,i,h3,rfl,hi,by simpa using h2⟩
   ·cases h2
  ·simp only[Bool.and_eq_true,beq_iff_eq]at h2
   exact .inl ⟨_,h2.1,rfl,h2.2⟩
  all_goals exact⟨_,rfl,trivial,xG h2⟩
theorem xH {P:Program} {tb:Tb} (h:(tb.ty.all fun p=>tiB P tb p.1 p.2)=true):Dr P tb:=fun id ti hi=>by
 rw[List.all_eq_true]at h
 exact A1P (h _ (FD hi))
/-! ### Runs -/
def Ty.isAgg:Ty→Bool
 | .agg _=>true
 | .int _=>false
 | .bool=>false
 | .str=>false
 | .slice _=>false
 | .prod _ _=>false
 | .ref _=>false
section
variable {P:Program} {tb:Tb} {id:TypeId} {ti:TI} (w:World)
theorem KB {i:TypeInfo} (h:P.info? id=some i):(typeInfo id).run P w=.ok i w:=by simp[typeInfo,h]
theorem xI (h:Dq P tb id ti):(isAgg id).run P w=.ok ti.ty.isAgg w:=by
 obtain⟨_,h2⟩:=h
 cases ht:ti.ty<;>rw[ht]at h2<;>simp only at h2
 case agg =>
  rcases h2 with ⟨fs,_,hu,_⟩|⟨n,e,_,_,hu,_⟩<;>simp[isAgg,run_underlying hu,Ty.isAgg]
 case slice=>simp[isAgg,run_underlying h2.1,Ty.isAgg]
 case ref k =>
  obtain⟨d,hu,hd,_⟩:=h2
  cases d<;>first|exact hd.elim|simp[isAgg,run_underlying hu,Ty.isAgg]
 all_goals simp[isAgg,run_underlying h2,Ty.isAgg]
theorem Gn (h:Dq P tb id ti):(sizeOf id).run P w=.ok ti.ty.size w:=by
 obtain⟨⟨_,i,z,h1,h2,_⟩,_⟩:=h
 simp[sizeOf,KB w h1,h2]
theorem Dq.noprod (h:Dq P tb id ti) {a b:Ty}:ti.ty≠.prod a b:=by
 intro e
 have:=h.2
 rw[e]at this
 exact this
theorem Xf (h:Dq P tb id ti) {ad:Addr} {cs:List Value} (hl:cs.length=ti.ty.size) (hc:∀(j:Nat) (u:Value),cs[j]?=some u→w.cell? (ad.add j)=some u) :
  (loadVar id ad).run P w=.ok (ti.ty.wrap cs) w:=by
 have hnp:=fun a b=>h.noprod (a:=a) (b:=b)
 simp only[loadVar,Sem.run_bind,xI w h,Result.andThen_ok]
 cases ht:ti.ty
 case prod a b=>exact absurd ht (hnp a b)
 case agg u =>
  have hl':ti.ty.size=cs.length:=hl.symm
  simp only[Ty.isAgg,if_true,Sem.run_bind,Gn w h,Result.andThen_ok,hl',run_loadCells_list w ad cs hc,Ty.wrap]
  rfl
 all_goals
  rw[ht]at hl
  obtain⟨c,rfl⟩:=List.length_eq_one_iff.1 hl
  have h0:=hc 0 c rfl
  rw[K9]at h0
  simp[Ty.isAgg,Ty.wrap,h0]
theorem Dw (h:Dq P tb id ti) {ad:Addr} {cs:List Value} (hl:cs.length=ti.ty.size) (hc:∀(j:Nat) (u:Value),cs[j]?=some u→w.cell? (ad.add j)=some u) :
  (Instr.loadAt id (.pointer (some ad))).run P w=.ok (ti.ty.wrap cs) w:=by
 simp[Instr.loadAt,Instr.sureAddr,Xf w h hl hc]
end
end
end Go.Proofs.YtebfihindnhccaaGreat.Fw
