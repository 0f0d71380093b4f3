/- Typed values, how they lie in memory, the executor's words and the table of types: what they mean. -/
/- Typed pure values and how they lie in memory: the words of the symbolic executor. Nothing here speaks of one program. -/
import Derived.ProofKit
import Derived.Orders
import Derived.Laws.AppendOwn
import Derived.Laws.MakeOwn
import Derived.Laws.OwnMore
set_option linter.unusedVariables false
set_option linter.unusedSimpArgs false
section
namespace Go.Proofs.Ytebfihindnhccaa.Fw
open Go
inductive Ty where
 | int (k:IntKind)
 | bool
 | str
 | slice (e:Ty)
 | prod (a b:Ty)
 | agg (t:Ty)
 /-- a pointer (0), a function (1), a map (2): as a pure value it is nil -/
 | ref (k:Nat)
 deriving DecidableEq
def refZ:Nat→Value
 | 0=>.pointer none
 | 1=>.nilFunc
 | _=>.map none
@[reducible] def Ty.den:Ty→Type
 | .int _=>Int
 | .bool=>Bool
 | .str=>ByteArray
 | .slice e=>List e.den
 | .prod a b=>a.den×b.den
 | .agg t=>t.den
 | .ref _=>Unit
def Ty.size:Ty→Nat
 | .prod a b=>a.size + b.size
 | .agg t=>t.size
 | .int _=>1
 | .bool=>1
 | .str=>1
 | .slice _=>1
 | .ref _=>1
def Ty.dflt:(t:Ty)→t.den
 | .int _=>(0:Int)
 | .bool=>false
 | .str=>ByteArray.empty
 | .slice _=>[]
 | .prod a b=>(a.dflt,b.dflt)
 | .agg t=>t.dflt
 | .ref _=>()
def Ty.zero:Ty→List Value
 | .int k=>[.int k 0]
 | .bool=>[.bool false]
 | .str=>[.string ByteArray.empty]
 | .slice _=>[.slice none 0 0]
 | .prod a b=>a.zero++b.zero
 | .agg t=>t.zero
 | .ref k=>[refZ k]
def Ty.wrap:Ty→List Value→Value
 | .agg _,cs=>.agg cs.toArray
 | .prod _ _,cs=>.agg cs.toArray
 | .int _,cs=>cs.headD undef
 | .bool,cs=>cs.headD undef
 | .str,cs=>cs.headD undef
 | .slice _,cs=>cs.headD undef
 | .ref _,cs=>cs.headD undef
def InK (k:IntKind) (n:Int):Prop:=k.min≤n∧n≤k.max
def maxN:Nat:=140737488355328
def Rep (w:World) (O:Nat→Prop):(t:Ty)→List Value→t.den→Prop
 | .int k,cs,d=>cs=[.int k d]∧InK k d
 | .bool,cs,d=>cs=[.bool d]
 | .str,cs,d=>cs=[.string d]∧ByteArray.size d≤maxN
 | .slice e,cs,d=>∃ (a:Option Addr) (c:Nat),cs=[.slice a (List.length d) c]∧List.length d≤c∧List.length d≤maxN ∧
   (d=[]∨∃ ad:Addr,a=some ad∧¬ O ad.block ∧
    ∀ (i:Nat) (x:e.den),d[i]?=some x→∃ es:List Value,es.length=e.size∧(∀ (j:Nat) (v:Value),es[j]?=some v→w.cell? (ad.add (i * e.size + j))=some v)∧Rep w O e es x)
 | .prod a b,cs,d=>∃ c1 c2:List Value,cs=c1++c2∧Rep w O a c1 d.1∧Rep w O b c2 d.2
 | .agg t,cs,d=>Rep w O t cs d
 | .ref k,cs,_=>cs=[refZ k]
def VRep (w:World) (O:Nat→Prop) (t:Ty) (v:Value) (d:t.den):Prop:=∃ cs,Rep w O t cs d∧v=t.wrap cs
theorem block_of_add (a:Addr) (n:Nat):(a.add n).block=a.block:=by unfold Addr.add;split<;>rfl
theorem add_of_add (a:Addr) (i j:Nat):(a.add i).add j=a.add (i + j):=by
 unfold Addr.add
 by_cases hi:i=0<;>by_cases hj:j=0<;>simp [hi,hj,Nat.add_assoc]
theorem add_zero' (a:Addr):a.add 0=a:=rfl
theorem add_lit' (g j:Nat):(⟨g,0,none⟩:Addr).add j=⟨g,j,none⟩:=by
 unfold Addr.add;split<;>simp_all
theorem add_lit2 (g i j:Nat):(⟨g,i,none⟩:Addr).add j=⟨g,i + j,none⟩:=by
 unfold Addr.add;split<;>simp_all
theorem Ty.size_pos:∀ t:Ty,0 < t.size
 | .int _=>by simp [Ty.size]
 | .bool=>by simp [Ty.size]
 | .str=>by simp [Ty.size]
 | .slice _=>by simp [Ty.size]
 | .ref _=>by simp [Ty.size]
 | .prod a b=>by have:=a.size_pos;simp [Ty.size];omega
 | .agg t=>by simpa [Ty.size] using t.size_pos
theorem Rep.length {w:World} {O:Nat→Prop}:∀ {t:Ty} {cs:List Value} {d:t.den},Rep w O t cs d→cs.length=t.size
 | .int _,_,_,h=>by obtain ⟨rfl,_⟩:=h;rfl
 | .bool,_,_,h=>by have h:_=_:=h;subst h;rfl
 | .str,_,_,h=>by obtain ⟨rfl,_⟩:=h;rfl
 | .slice _,_,_,h=>by obtain ⟨_,_,rfl,_⟩:=h;rfl
 | .ref _,_,_,h=>by have h:_=_:=h;subst h;rfl
 | .prod a b,_,_,h=>by
  obtain ⟨c1,c2,rfl,h1,h2⟩:=h
  simp [Ty.size,Rep.length h1,Rep.length h2]
 | .agg t,_,_,h=>by
  have h:Rep w O t _ _:=h
  simpa [Ty.size] using Rep.length h
theorem Rep.one {w:World} {O:Nat→Prop}:∀ {t:Ty} {cs:List Value} {d:t.den},Rep w O t cs d→∀ v∈cs,v.oneCell'=true
 | .int _,_,_,h=>by obtain ⟨rfl,_⟩:=h;simp [Value.oneCell']
 | .bool,_,_,h=>by have h:_=_:=h;subst h;simp [Value.oneCell']
 | .str,_,_,h=>by obtain ⟨rfl,_⟩:=h;simp [Value.oneCell']
 | .slice _,_,_,h=>by obtain ⟨_,_,rfl,_⟩:=h;simp [Value.oneCell']
 | .ref k,_,_,h=>by
  have h:_=[refZ k]:=h
  subst h
  match k with
  | 0=>simp [Value.oneCell',refZ]
  | 1=>simp [Value.oneCell',refZ]
  | _ + 2=>simp [Value.oneCell',refZ]
 | .prod a b,_,_,h=>by
  obtain ⟨c1,c2,rfl,h1,h2⟩:=h
  intro v hv
  rcases List.mem_append.1 hv with hv | hv
  ·exact Rep.one h1 v hv
  ·exact Rep.one h2 v hv
 | .agg t,_,_,h=>by
  have h:Rep w O t _ _:=h
  exact Rep.one h
theorem Rep.mono {w w':World} {O O':Nat→Prop} (hO:∀ b,b < w.heap.size→¬ O b→¬ O' b) (hw:∀ b,b < w.heap.size→¬ O b→w'.heap[b]?=w.heap[b]?) :
  ∀ {t:Ty} {cs:List Value} {d:t.den},Rep w O t cs d→Rep w' O' t cs d
 | .int _,_,_,h=>h
 | .bool,_,_,h=>h
 | .str,_,_,h=>h
 | .ref _,_,_,h=>h
 | .slice e,_,d,h=>by
  obtain ⟨a,c,rfl,h1,h2,h3⟩:=h
  refine ⟨a,c,rfl,h1,h2,?_⟩
  rcases h3 with h3 | ⟨ad,rfl,hO1,hx⟩
  ·exact .inl h3
  ·by_cases hd:d=[]
   ·exact .inl hd
   ·have hlt:ad.block < w.heap.size:=by
     obtain ⟨x,r,rfl⟩:∃ x r,d=x :: r:=List.exists_cons_of_ne_nil hd
     obtain ⟨es,hl,hc,_⟩:=hx 0 x rfl
     have hp:=e.size_pos
     have:es[0]?=some (es[0]'(by omega)):=List.getElem?_eq_getElem (by omega)
     have:=block_lt_of_cell (hc 0 _ this)
     rwa [block_of_add] at this
    refine .inr ⟨ad,rfl,hO _ hlt hO1,fun i x hi=>?_⟩
    obtain ⟨es,hl,hc,hr⟩:=hx i x hi
    refine ⟨es,hl,fun j v hj=>?_,Rep.mono hO hw hr⟩
    rw [World.cell?_of_block (w:=w) (w':=w')]
    ·exact hc j v hj
    ·rw [block_of_add];exact hw _ hlt hO1
 | .prod a b,_,_,h=>by
  obtain ⟨c1,c2,rfl,h1,h2⟩:=h
  exact ⟨c1,c2,rfl,Rep.mono hO hw h1,Rep.mono hO hw h2⟩
 | .agg t,_,_,h=>by
  have h:Rep w O t _ _:=h
  exact (Rep.mono hO hw h:Rep w' O' t _ _)
theorem VRep.mono {w w':World} {O O':Nat→Prop} (hO:∀ b,b < w.heap.size→¬ O b→¬ O' b) (hw:∀ b,b < w.heap.size→¬ O b→w'.heap[b]?=w.heap[b]?)
  {t:Ty} {v:Value} {d:t.den} (h:VRep w O t v d):VRep w' O' t v d :=
 let ⟨cs,h1,h2⟩:=h
 ⟨cs,h1.mono hO hw,h2⟩
theorem Rep.zero (w:World) (O:Nat→Prop):∀ t:Ty,Rep w O t t.zero t.dflt
 | .int k=>⟨rfl,by cases k<;>exact ⟨by decide,by decide⟩⟩
 | .bool=>rfl
 | .str=>⟨rfl,by simp [Ty.dflt,maxN]⟩
 | .slice _=>⟨none,0,rfl,by simp [Ty.dflt],by simp [Ty.dflt,maxN],.inl rfl⟩
 | .ref _=>rfl
 | .prod a b=>⟨_,_,rfl,Rep.zero w O a,Rep.zero w O b⟩
 | .agg t=>(Rep.zero w O t:Rep w O t _ _)
end Go.Proofs.Ytebfihindnhccaa.Fw
end
/- The symbolic executor: abstract values, objects, states, and what one operation does to them. Definitions alone. -/
section
namespace Go.Proofs.Ytebfihindnhccaa.Fw
open Go
structure PV where
 t:Ty
 d:t.den
def castTo (t:Ty) (p:PV):Option t.den:=if h:p.t=t then some (h ▸ p.d) else none
theorem castTo_self (t:Ty) (d:t.den):castTo t ⟨t,d⟩=some d:=by simp [castTo]
def getF:(t:Ty)→Nat→t.den→Option PV
 | .prod a _,0,d=>some ⟨a,d.1⟩
 | .prod _ b,k + 1,d=>getF b k d.2
 | .int k,0,d=>some ⟨.int k,d⟩
 | .bool,0,d=>some ⟨.bool,d⟩
 | .str,0,d=>some ⟨.str,d⟩
 | .slice e,0,d=>some ⟨.slice e,d⟩
 | .agg t,0,d=>some ⟨.agg t,d⟩
 | .ref k,0,d=>some ⟨.ref k,d⟩
 | _,_,_=>none
def setF:(t:Ty)→Nat→t.den→PV→Option t.den
 | .prod a _,0,d,x=>(castTo a x).map fun y=>(y,d.2)
 | .prod _ b,k + 1,d,x=>(setF b k d.2 x).map fun y=>(d.1,y)
 | .int k,0,_,x=>castTo (.int k) x
 | .bool,0,_,x=>castTo .bool x
 | .str,0,_,x=>castTo .str x
 | .slice e,0,_,x=>castTo (.slice e) x
 | .agg t,0,_,x=>castTo (.agg t) x
 | .ref k,0,_,x=>castTo (.ref k) x
 | _,_,_,_=>none
def offF:Ty→Nat→Option Nat
 | .prod _ _,0=>some 0
 | .prod a b,k + 1=>(offF b k).map (a.size + ·)
 | .int _,0=>some 0
 | .bool,0=>some 0
 | .str,0=>some 0
 | .slice _,0=>some 0
 | .agg _,0=>some 0
 | .ref _,0=>some 0
 | _,_=>none
def fldT:Ty→Nat→Option Ty
 | .prod a _,0=>some a
 | .prod _ b,k + 1=>fldT b k
 | .int k,0=>some (.int k)
 | .bool,0=>some .bool
 | .str,0=>some .str
 | .slice e,0=>some (.slice e)
 | .agg t,0=>some (.agg t)
 | .ref k,0=>some (.ref k)
 | _,_=>none
def getP:List Nat→(t:Ty)→t.den→Option PV
 | [],t,d=>some ⟨t,d⟩
 | k :: r,.agg t,d=>match getF t k d with
  | some pv=>getP r pv.t pv.d
  | none=>none
 | _ :: _,_,_=>none
def setP:List Nat→(t:Ty)→t.den→PV→Option t.den
 | [],t,_,x=>castTo t x
 | k :: r,.agg t,d,x=>match getF t k d with
  | some pv=>match setP r pv.t pv.d x with
   | some y=>setF t k d ⟨pv.t,y⟩
   | none=>none
  | none=>none
 | _ :: _,_,_,_=>none
def offP:List Nat→Ty→Option Nat
 | [],_=>some 0
 | k :: r,.agg t=>match offF t k,fldT t k with
  | some o,some u=>(offP r u).map (o + ·)
  | _,_=>none
 | _ :: _,_=>none
inductive AV where
 /-- a pure value -/
 | p (t:Ty) (d:t.den)
 /-- just this value -/
 | raw (v:Value)
 /-- the places lo .. hi of the owned array n -/
 | sr (n:Nat) (e:Ty) (lo hi:Nat)
 /-- a pointer into element i of the owned array n -/
 | ep (n:Nat) (e:Ty) (i:Nat) (path:List Nat) (off:Nat)
 /-- a pointer to memory that holds a pure value -/
 | ip (t:Ty) (d:t.den)
 /-- a pointer into the box n -/
 | bp (n:Nat) (path:List Nat) (off:Nat)
 | fn (f:FuncId)
 /-- a closure; its variables are the boxes -/
 | clo (f:FuncId) (ns:List Nat)
 /-- the map n -/
 | mp (n:Nat)
 /-- the function by which a round of the loop n is run -/
 | yl (n:Nat)
 /-- the inner slice of row i of the nested array n: its elements, its length -/
 | nin (n:Nat) (e:Ty) (i len:Nat)
 /-- a struct with these fields -/
 | ag (l:List AV)
 | tup (l:List AV)
 /-- nothing is known -/
 | top
inductive Obj where
 | arr (et:TypeId) (e:Ty) (xs:List e.den)
 | box (et:TypeId) (st:Bool) (fs:List AV)
 /-- a map's entries, in their order -/
 | mapo (k v:Ty) (l:List (k.den×v.den))
 /-- rows that end in a slice of their own each; 'h': the row whose slice is elsewhere just now -/
 | nest (et iet:TypeId) (k e:Ty) (xs:List (k.den×List e.den)) (h:Option Nat)
 /-- a caller's frame: its slots as they were, and what they mean -/
 | frame (tm:Array Value) (fs:List (Nat×AV))
 /-- the record of a range over a function -/
 | loop (L:Go.Loop)
 /-- the block of the calls that such a loop defers: none -/
 | dfr
structure St where
 env:List (Nat×AV)
 objs:List (Nat×Obj)
def lk {α:Type}:Nat→List (Nat×α)→Option α
 | _,[]=>none
 | k,(j,v) :: r=>if k=j then some v else lk k r
def del {α:Type}:Nat→List (Nat×α)→List (Nat×α)
 | _,[]=>[]
 | k,(j,v) :: r=>if k=j then del k r else (j,v) :: del k r
def upd {α:Type}:Nat→α→List (Nat×α)→List (Nat×α)
 | _,_,[]=>[]
 | k,u,(j,v) :: r=>if k=j then (j,u) :: upd k u r else (j,v) :: upd k u r
def sub {α:Type} (xs:List α) (lo hi:Nat):List α:=(xs.drop lo).take (hi - lo)
theorem sub_all {α:Type} (xs:List α):sub xs 0 xs.length=xs:=by simp [sub]
structure TI where
 ty:Ty
 offs:List (Nat×Nat):=[]
 el:TypeId:=0
 bytes:Nat
inductive RV where
 | p (t:Ty) (d:t.den)
 | own (et:TypeId) (e:Ty) (xs:List e.den)
@[reducible] def dens:List Ty→Type
 | []=>Unit
 | t :: r=>t.den×dens r
def Ty.flat:Ty→Bool
 | .slice _=>false
 | .prod a b=>a.flat && b.flat
 | .agg t=>t.flat
 | .int _=>true
 | .bool=>true
 | .str=>true
 | .ref _=>true
def RV.flat:RV→Bool
 | .p t _=>t.flat
 | .own _ _ _=>false
structure Spec where
 ins:List Ty
 lend:Bool:=false
 pre:dens ins→Prop
 out:dens ins→List RV
structure Tb where
 ty:List (Nat×TI)
 fns:List (Nat×Spec)
 /-- slots whose new slices are written no more -/
 pure:List Nat:=[]
 /-- slots whose new slices are nested arrays; the type of their rows' elements -/
 nests:List (Nat×TypeId):=[]
def inB (n:Nat):List Nat→Bool
 | []=>false
 | m :: r=>if n=m then true else inB n r
def constAV:Value→AV
 | .int k n=>if k.min≤n∧n≤k.max then .p (.int k) n else .raw (.int k n)
 | .bool b=>.p .bool b
 | .string s=>if s.size≤maxN then .p .str s else .raw (.string s)
 | v=>.raw v
def opv (σ:St):Operand→Option AV
 | .tmp t=>lk t σ.env
 | .const v=>some (constAV v)
 | .func f=>some (.fn f)
 | .global _=>none
def srT (e:Ty) (lo hi:Nat):Option Obj→Option (List e.den)
 | some (.arr _ e' xs)=>castTo (.slice e) ⟨.slice e',sub xs lo hi⟩
 | some (.nest _ _ k e' xs none)=>castTo (.slice e) ⟨.slice (.agg (.prod k (.slice e'))),sub xs lo hi⟩
 | _=>none
def ninT (e:Ty) (i:Nat):Option Obj→Option (List e.den)
 | some (.nest _ _ k e' xs none)=>castTo (.slice e) ⟨.slice e',(xs.getD i (k.dflt,[])).2⟩
 | _=>none
def asT1 (l:Bool) (σ:St):(t:Ty)→AV→Option t.den
 | t,.p u d=>castTo t ⟨u,d⟩
 | .slice e,.sr n e' lo hi=>if l=true∧e'=e then srT e lo hi (lk n σ.objs) else none
 | .slice e,.nin n e' i _=>if l=true∧e'=e then ninT e i (lk n σ.objs) else none
 | .slice _,.raw (.slice none 0 0)=>some []
 | _,_=>none
def pairO {α β:Type}:Option α→Option β→Option (α×β)
 | some a,some b=>some (a,b)
 | _,_=>none
def asTs (l:Bool) (σ:St):List AV→(t:Ty)→Option t.den
 | [],_=>none
 | [x],t=>asT1 l σ t x
 | x :: y :: r,.prod a b=>pairO (asT1 l σ a x) (asTs l σ (y :: r) b)
 | _ :: _ :: _,_=>none
def asT (l:Bool) (σ:St):(t:Ty)→AV→Option t.den
 | .agg t,.ag fs=>asTs l σ fs t
 | t,x=>asT1 l σ t x
def memB (n:Nat):List Nat→Bool
 | []=>false
 | m :: r=>if n=m then true else memB n r
theorem memB_iff (n:Nat):∀ l:List Nat,memB n l=true↔n∈l
 | []=>by simp [memB]
 | m :: r=>by
  simp only [memB,List.mem_cons]
  split
  ·rename_i h;simp [h]
  ·rename_i h;simp [h,memB_iff n r]
/-! ### Names that are forgotten -/
mutual
def AV.fgt (hs:List Nat):AV→AV
 | .sr m e lo hi=>if memB m hs=true then .top else .sr m e lo hi
 | .ep m e i path off=>if memB m hs=true then .top else .ep m e i path off
 | .nin m e i len=>if memB m hs=true then .top else .nin m e i len
 | .bp m path off=>if memB m hs=true then .top else .bp m path off
 | .mp m=>if memB m hs=true then .top else .mp m
 | .yl m=>if memB m hs=true then .top else .yl m
 | .clo f ns=>if (ns.any fun n=>memB n hs)=true then .top else .clo f ns
 | .ag l=>.ag (AV.fgts hs l)
 | .tup l=>.tup (AV.fgts hs l)
 | .p t d=>.p t d
 | .raw v=>.raw v
 | .ip t d=>.ip t d
 | .fn f=>.fn f
 | .top=>.top
def AV.fgts (hs:List Nat):List AV→List AV
 | []=>[]
 | x :: r=>AV.fgt hs x :: AV.fgts hs r
end
def fgtEnv (hs:List Nat):List (Nat×AV)→List (Nat×AV)
 | []=>[]
 | (s,x) :: r=>(s,x.fgt hs) :: fgtEnv hs r
def Obj.fgt (hs:List Nat):Obj→Obj
 | .arr et e xs=>.arr et e xs
 | .box et st fs=>.box et st (AV.fgts hs fs)
 | .mapo k v l=>.mapo k v l
 | .nest et iet k e xs h=>.nest et iet k e xs h
 | .frame tm fs=>.frame tm (fgtEnv hs fs)
 | .loop L=>.loop L
 | .dfr=>.dfr
def restObjs (hd hs:List Nat):List (Nat×Obj)→List (Nat×Obj)
 | []=>[]
 | (n,o) :: r=>if memB n hd=true then restObjs hd hs r else (n,o.fgt hs) :: restObjs hd hs r
mutual
/-- The nested array n has turned within (its inner slices), the names 'hs' are no more. -/
def AV.trn (n:Nat) (hs:List Nat):AV→AV
 | .nin m e i len=>if m=n∨memB m hs=true then .top else .nin m e i len
 | .sr m e lo hi=>if memB m hs=true then .top else .sr m e lo hi
 | .ep m e i path off=>if memB m hs=true then .top else .ep m e i path off
 | .bp m path off=>if memB m hs=true then .top else .bp m path off
 | .mp m=>if memB m hs=true then .top else .mp m
 | .yl m=>if memB m hs=true then .top else .yl m
 | .clo f ns=>if (ns.any fun n=>memB n hs)=true then .top else .clo f ns
 | .ag l=>.ag (AV.trns n hs l)
 | .tup l=>.tup (AV.trns n hs l)
 | .p t d=>.p t d
 | .raw v=>.raw v
 | .ip t d=>.ip t d
 | .fn f=>.fn f
 | .top=>.top
def AV.trns (n:Nat) (hs:List Nat):List AV→List AV
 | []=>[]
 | x :: r=>AV.trn n hs x :: AV.trns n hs r
end
def trnEnv (n:Nat) (hs:List Nat):List (Nat×AV)→List (Nat×AV)
 | []=>[]
 | (s,x) :: r=>(s,x.trn n hs) :: trnEnv n hs r
def Obj.trn (n:Nat) (hs:List Nat):Obj→Obj
 | .arr et e xs=>.arr et e xs
 | .box et st fs=>.box et st (AV.trns n hs fs)
 | .mapo k v l=>.mapo k v l
 | .nest et iet k e xs h=>.nest et iet k e xs h
 | .frame tm fs=>.frame tm (trnEnv n hs fs)
 | .loop L=>.loop L
 | .dfr=>.dfr
def trnObjs (n:Nat) (hs:List Nat):List (Nat×Obj)→List (Nat×Obj)
 | []=>[]
 | (m,o) :: r=>if memB m (n :: hs)=true then trnObjs n hs r else (m,o.trn n hs) :: trnObjs n hs r
def isNest:Option Obj→Bool
 | some (.nest _ _ _ _ _ _)=>true
 | _=>false
def asA (σ:St) (e:Ty):AV→Option (List e.den)
 | .sr n e' lo hi=>if isNest (lk n σ.objs)=true then none else asT true σ (.slice e) (.sr n e' lo hi)
 | x=>asT true σ (.slice e) x
end Go.Proofs.Ytebfihindnhccaa.Fw
end
/- The symbolic executor, second part: operations, regions. Definitions alone. -/
section
namespace Go.Proofs.Ytebfihindnhccaa.Fw
open Go
def strEq (x y:ByteArray):Bool:=x.toList == y.toList
def strLt (x y:ByteArray):Bool:=Op.bytesLess x.toList y.toList
def bitsV (op:BinOp) (k:IntKind) (x y:Int):Int :=
 k.wrap (match op with
  | .and=>((BitVec.ofInt k.bits x &&& BitVec.ofInt k.bits y).toNat:Int)
  | .or=>((BitVec.ofInt k.bits x ||| BitVec.ofInt k.bits y).toNat:Int)
  | .xor=>((BitVec.ofInt k.bits x ^^^ BitVec.ofInt k.bits y).toNat:Int)
  | _=>((BitVec.ofInt k.bits x &&& ~~~BitVec.ofInt k.bits y).toNat:Int))
def shlV (k:IntKind) (x y:Int):Int:=k.wrap (x * 2 ^ (min y.toNat k.bits))
def shrV (k:IntKind) (x y:Int):Int:=x.fdiv (2 ^ (min y.toNat k.bits))
def binI (k:IntKind) (a b:Int):BinOp→Prop×AV
 | .add=>(InK k (a + b),.p (.int k) (a + b))
 | .sub=>(InK k (a - b),.p (.int k) (a - b))
 | .mul=>(InK k (a * b),.p (.int k) (a * b))
 | .quo=>(b≠0∧InK k (a.tdiv b),.p (.int k) (a.tdiv b))
 | .rem=>(b≠0∧InK k (a.tmod b),.p (.int k) (a.tmod b))
 | .and=>(True,.p (.int k) (bitsV .and k a b))
 | .or=>(True,.p (.int k) (bitsV .or k a b))
 | .xor=>(True,.p (.int k) (bitsV .xor k a b))
 | .andNot=>(True,.p (.int k) (bitsV .andNot k a b))
 | .shl=>(False,.top)
 | .shr=>(False,.top)
 | .eql=>(True,.p .bool (a == b))
 | .neq=>(True,.p .bool (a != b))
 | .lss=>(True,.p .bool (decide (a < b)))
 | .leq=>(True,.p .bool (decide (a≤b)))
 | .gtr=>(True,.p .bool (decide (b < a)))
 | .geq=>(True,.p .bool (decide (b≤a)))
def binS (a b:ByteArray):BinOp→Prop×AV
 | .add=>(a.size + b.size≤maxN,.p .str (a++b))
 | .eql=>(True,.p .bool (strEq a b))
 | .neq=>(True,.p .bool (!strEq a b))
 | .lss=>(True,.p .bool (strLt a b))
 | .leq=>(True,.p .bool (strLt a b || strEq a b))
 | .gtr=>(True,.p .bool (!(strLt a b || strEq a b)))
 | .geq=>(True,.p .bool (!strLt a b))
 | _=>(False,.top)
def bin (op:BinOp) (k:IntKind) (a:Int) (k':IntKind) (b:Int):Prop×AV :=
 match op with
 | .shl=>(0≤b,.p (.int k) (shlV k a b))
 | .shr=>(0≤b∧InK k (shrV k a b),.p (.int k) (shrV k a b))
 | op=>if k=k' then binI k a b op else (False,.top)
def zf1:Ty→AV
 | .slice _=>.raw (.slice none 0 0)
 | .ref k=>.raw (refZ k)
 | t=>.p t t.dflt
def zfs:Ty→List AV
 | .prod a b=>zf1 a :: zfs b
 | t=>[zf1 t]
def pfs:(t:Ty)→t.den→List AV
 | .prod a b,d=>.p a d.1 :: pfs b d.2
 | .int k,d=>[.p (.int k) d]
 | .bool,d=>[.p .bool d]
 | .str,d=>[.p .str d]
 | .slice e,d=>[.p (.slice e) d]
 | .agg t,d=>[.p (.agg t) d]
 | .ref k,d=>[.p (.ref k) d]
def AV.cells:AV→Nat
 | .p t _=>t.size
 | .ag _=>0
 | .tup _=>0
 | _=>1
def nthOff:List AV→Nat→Nat
 | _,0=>0
 | [],_ + 1=>0
 | x :: r,k + 1=>x.cells + nthOff r k
def loadB (st:Bool) (fs:List AV):List Nat→Option AV
 | []=>if st then some (.ag fs) else fs[0]?
 | [k]=>if st then fs[k]? else none
 | k :: r=>if st then match fs[k]? with
   | some (.p t d)=>(getP r t d).map fun pv=>.p pv.t pv.d
   | _=>none
  else none
def offB (fs:List AV):List Nat→Option Nat
 | []=>some 0
 | k :: r=>match fs[k]? with
  | some (.p t _)=>(offP r t).map (nthOff fs k + ·)
  | some _=>if r.isEmpty then some (nthOff fs k) else none
  | none=>none
def Ty.cell1:Ty→Bool
 | .agg _=>false
 | .prod _ _=>false
 | .int _=>true
 | .bool=>true
 | .str=>true
 | .slice _=>true
 | .ref _=>true
def fitsT (ty:Ty):AV→Bool
 | .p t _=>ty=t
 | .ag l=>match ty with | .agg t=>nthOff l l.length == t.size | _=>false
 | .tup _=>false
 | .top=>false
 | .raw u=>u.oneCell' && ty.cell1
 | _=>ty.cell1
def fitsO (ty:Ty):AV→Bool
 | .top=>ty.cell1
 | x=>fitsT ty x
def fixN (n:Nat):Bool:=decide (1000000≤n)
mutual
def AV.frz (n:Nat) (e:Ty) (xs:List e.den):AV→AV
 | .sr m e' lo hi=>if m=n then (if e'=e then .p (.slice e) (sub xs lo hi) else .top) else .sr m e' lo hi
 | .ep m e' i path off=>if m=n then .top else .ep m e' i path off
 | .nin m e' i len=>if m=n then .top else .nin m e' i len
 | .ag l=>.ag (AV.frzs n e xs l)
 | .tup l=>.tup (AV.frzs n e xs l)
 | .p t d=>.p t d
 | .raw v=>.raw v
 | .ip t d=>.ip t d
 | .bp m path off=>.bp m path off
 | .fn f=>.fn f
 | .clo f ns=>.clo f ns
 | .mp n=>.mp n
 | .yl n=>.yl n
 | .top=>.top
def AV.frzs (n:Nat) (e:Ty) (xs:List e.den):List AV→List AV
 | []=>[]
 | x :: r=>AV.frz n e xs x :: AV.frzs n e xs r
end
def frzEnv (n:Nat) (e:Ty) (xs:List e.den):List (Nat×AV)→List (Nat×AV)
 | []=>[]
 | (s,x) :: r=>(s,x.frz n e xs) :: frzEnv n e xs r
def frzObjs (n:Nat) (e:Ty) (xs:List e.den):List (Nat×Obj)→List (Nat×Obj)
 | []=>[]
 | (m,.arr et e' ys) :: r=>(m,.arr et e' ys) :: frzObjs n e xs r
 | (m,.box et st fs) :: r=>(m,.box et st (AV.frzs n e xs fs)) :: frzObjs n e xs r
 | (m,.mapo k v l) :: r=>(m,.mapo k v l) :: frzObjs n e xs r
 | (m,.nest et iet k e' ys h) :: r=>(m,.nest et iet k e' ys h) :: frzObjs n e xs r
 | (m,.frame tm fs) :: r=>(m,.frame tm (frzEnv n e xs fs)) :: frzObjs n e xs r
 | (m,.loop L) :: r=>(m,.loop L) :: frzObjs n e xs r
 | (m,.dfr) :: r=>(m,.dfr) :: frzObjs n e xs r
def frz1 (n:Nat) (σ:St):Option Obj→St
 | some (.arr _ e xs)=>⟨frzEnv n e xs σ.env,frzObjs n e xs (del n σ.objs)⟩
 | some (.nest _ _ k e xs none)=>⟨frzEnv n (.agg (.prod k (.slice e))) xs σ.env,frzObjs n (.agg (.prod k (.slice e))) xs (del n σ.objs)⟩
 | _=>σ
def frz (n:Nat) (σ:St):St:=if fixN n=true then σ else frz1 n σ (lk n σ.objs)
mutual
/-- All but one who looked at the array n know nothing of it now. -/
def AV.drp (n:Nat):AV→AV
 | .sr m e' lo hi=>if m=n then .top else .sr m e' lo hi
 | .ep m e' i path off=>if m=n then .top else .ep m e' i path off
 | .nin m e' i len=>if m=n then .top else .nin m e' i len
 | .ag l=>.ag (AV.drps n l)
 | .tup l=>.tup (AV.drps n l)
 | .p t d=>.p t d
 | .raw v=>.raw v
 | .ip t d=>.ip t d
 | .bp m path off=>.bp m path off
 | .fn f=>.fn f
 | .clo f ns=>.clo f ns
 | .mp n=>.mp n
 | .yl n=>.yl n
 | .top=>.top
def AV.drps (n:Nat):List AV→List AV
 | []=>[]
 | x :: r=>AV.drp n x :: AV.drps n r
end
def drpEnv (n:Nat):List (Nat×AV)→List (Nat×AV)
 | []=>[]
 | (s,x) :: r=>(s,x.drp n) :: drpEnv n r
def drpObjs (n:Nat):List (Nat×Obj)→List (Nat×Obj)
 | []=>[]
 | (m,.arr et e' ys) :: r=>(m,.arr et e' ys) :: drpObjs n r
 | (m,.box et st fs) :: r=>(m,.box et st (AV.drps n fs)) :: drpObjs n r
 | (m,.mapo k v l) :: r=>(m,.mapo k v l) :: drpObjs n r
 | (m,.nest et iet k e' ys h) :: r=>(m,.nest et iet k e' ys h) :: drpObjs n r
 | (m,.frame tm fs) :: r=>(m,.frame tm (drpEnv n fs)) :: drpObjs n r
 | (m,.loop L) :: r=>(m,.loop L) :: drpObjs n r
 | (m,.dfr) :: r=>(m,.dfr) :: drpObjs n r
mutual
def AV.names:AV→List Nat
 | .sr m _ _ _=>[m]
 | .ag l=>AV.namess l
 | .tup l=>AV.namess l
 | .p _ _=>[]
 | .raw _=>[]
 | .ip _ _=>[]
 | .bp _ _ _=>[]
 | .ep _ _ _ _ _=>[]
 | .nin _ _ _ _=>[]
 | .fn _=>[]
 | .clo _ _=>[]
 | .mp _=>[]
 | .yl _=>[]
 | .top=>[]
def AV.namess:List AV→List Nat
 | []=>[]
 | x :: r=>x.names++AV.namess r
end
def optAV (σ:St):Option Operand→Option (Option AV)
 | none=>some none
 | some x=>(opv σ x).map some
def partsT (σ:St) (e:Ty):Nat→List (Nat×Operand)→Option (List e.den)
 | _,[]=>some []
 | k,(i,x) :: r=>if i=k then match opv σ x with
   | some av=>match asT false σ e av,partsT σ e (k + 1) r with
    | some y,some ys=>some (y :: ys)
    | _,_=>none
   | none=>none
  else none
def fieldOk:AV→Bool
 | .p (.prod _ _) _=>false
 | .p _ _=>true
 | .raw u=>u.oneCell'
 | .ag _=>false
 | .tup _=>false
 | .top=>false
 | _=>true
def fieldV (σ:St):Option AV→Option AV→Option AV
 | some (.p t _),some (.ag l)=>(asT false σ t (.ag l)).map fun d=>.p t d
 | _,x=>x
def partsAg (σ:St) (offs:List (Nat×Nat)):List AV→List (Nat×Operand)→Option (List AV)
 | fs,[]=>some fs
 | fs,(i,x) :: r=>match fieldV σ fs[i]? (opv σ x) with
  | some av=>if fieldOk av=true∧(fs[i]?.map AV.cells)=some av.cells∧offs[i]?=some (nthOff fs i,av.cells) then partsAg σ offs (fs.set i av) r else none
  | none=>none
def argsT (l:Bool) (σ:St):(ts:List Ty)→List Operand→Option (dens ts)
 | [],[]=>some ()
 | t :: ts,x :: xs=>match opv σ x with
  | some av=>match asT l σ t av,argsT l σ ts xs with
   | some y,some ys=>some (y,ys)
   | _,_=>none
  | none=>none
 | _,_=>none
def rvAV (name:Nat):RV→AV
 | .p t d=>.p t d
 | .own _ e xs=>.sr name e 0 xs.length
def rvObj (name:Nat):RV→List (Nat×Obj)
 | .p _ _=>[]
 | .own et e xs=>[(name,.arr et e xs)]
def rvAVs:Nat→List RV→List AV
 | _,[]=>[]
 | n,r :: l=>rvAV n r :: rvAVs (n + 10000) l
def rvObjs:Nat→List RV→List (Nat×Obj)
 | _,[]=>[]
 | n,r :: l=>rvObj n r++rvObjs (n + 10000) l
def resAV (name:Nat):List RV→AV
 | []=>.raw (.tuple #[])
 | [r]=>rvAV name r
 | l=>.tup (rvAVs name l)
/-! Maps -/
def eqT:(t:Ty)→t.den→t.den→Bool
 | .int _,a,b=>(a:Int) == b
 | .bool,a,b=>(a:Bool) == b
 | .str,a,b=>(a:ByteArray) == b
 | .prod t u,a,b=>eqT t a.1 b.1 && eqT u a.2 b.2
 | .agg t,a,b=>eqT t a b
 | .slice _,_,_=>false
 | .ref _,_,_=>false
def keyP:Ty→Bool
 | .prod (.int _) (.int _)=>true
 | _=>false
def keyT:Ty→Bool
 | .int _=>true
 | .bool=>true
 | .str=>true
 | .prod _ _=>false
 | .agg t=>keyP t
 | .slice _=>false
 | .ref _=>false
def mfind (kt vt:Ty) (k:kt.den):List (kt.den×vt.den)→Option vt.den
 | []=>none
 | x :: r=>if eqT kt k x.1=true then some x.2 else mfind kt vt k r
def mput (kt vt:Ty) (k:kt.den) (v:vt.den):List (kt.den×vt.den)→List (kt.den×vt.den)
 | []=>[(k,v)]
 | x :: r=>if eqT kt k x.1=true then (k,v) :: r else x :: mput kt vt k v r
abbrev QRes:=Option (Prop×AV×List (Nat×Obj))
def sliceQ (x:AV) (lo hi:Option AV):QRes :=
 match x,lo,hi with
 | .p (.slice e) l,none,some (.p (.int _) h)=>some (0≤h∧h≤l.length,.p (.slice e) (sub l 0 h.toNat),[])
 | .p (.slice e) l,some (.p (.int _) a),none=>some (0≤a∧a≤l.length,.p (.slice e) (sub l a.toNat l.length),[])
 | .p (.slice e) l,some (.p (.int _) a),some (.p (.int _) h)=>some (0≤a∧a≤h∧h≤l.length,.p (.slice e) (sub l a.toNat h.toNat),[])
 | .p .str s,none,some (.p (.int _) h)=>some (0≤h∧h≤s.size,.p .str (s.extract 0 h.toNat),[])
 | .p .str s,some (.p (.int _) a),none=>some (0≤a∧a≤s.size,.p .str (s.extract a.toNat s.size),[])
 | .p .str s,some (.p (.int _) a),some (.p (.int _) h)=>some (0≤a∧a≤h∧h≤s.size,.p .str (s.extract a.toNat h.toNat),[])
 | .sr n e b c,none,some (.p (.int _) h)=>some (0≤h∧h≤(c - b:Nat),.sr n e b (b + h.toNat),[])
 | .sr n e b c,some (.p (.int _) a),none=>some (0≤a∧a≤(c - b:Nat),.sr n e (b + a.toNat) c,[])
 | .sr n e b c,some (.p (.int _) a),some (.p (.int _) h)=>some (0≤a∧a≤h∧h≤(c - b:Nat),.sr n e (b + a.toNat) (b + h.toNat),[])
 | _,_,_=>none
def qmap:Option AV→QRes
 | some v=>some (True,v,[])
 | none=>none
def qPick:Option AV→Option AV→Option AV→QRes
 | some (.p .bool true),x,_=>qmap x
 | some (.p .bool false),_,y=>qmap y
 | _,_,_=>none
def qAlloc (d:Nat) (t:TypeId):Option TI→QRes
 | some ⟨.agg u,_,_,_⟩=>some (True,.bp d [] 0,[(d,.box t true (zfs u))])
 | some ⟨.int k,_,_,_⟩=>some (True,.bp d [] 0,[(d,.box t false [zf1 (.int k)])])
 | some ⟨.bool,_,_,_⟩=>some (True,.bp d [] 0,[(d,.box t false [zf1 .bool])])
 | some ⟨.str,_,_,_⟩=>some (True,.bp d [] 0,[(d,.box t false [zf1 .str])])
 | some ⟨.slice e,_,_,_⟩=>some (True,.bp d [] 0,[(d,.box t false [zf1 (.slice e)])])
 | some ⟨.ref k,_,_,_⟩=>some (True,.bp d [] 0,[(d,.box t false [zf1 (.ref k)])])
 | _=>none
def qBox (d:Nat) (t:TypeId):Option TI→Option AV→QRes
 | some ⟨.agg u,_,_,_⟩,some (.p (.agg u') v)=>if u=u' then some (True,.bp d [] 0,[(d,.box t true (pfs u' v))]) else none
 | some ⟨.agg u,_,_,_⟩,some (.ag l)=>if l.map AV.cells=(zfs u).map AV.cells then some (True,.bp d [] 0,[(d,.box t true l)]) else none
 | some ⟨.int k,_,_,_⟩,some v=>if fitsT (.int k) v then some (True,.bp d [] 0,[(d,.box t false [v])]) else none
 | some ⟨.bool,_,_,_⟩,some v=>if fitsT .bool v then some (True,.bp d [] 0,[(d,.box t false [v])]) else none
 | some ⟨.str,_,_,_⟩,some v=>if fitsT .str v then some (True,.bp d [] 0,[(d,.box t false [v])]) else none
 | some ⟨.slice e,_,_,_⟩,some v=>if fitsT (.slice e) v then some (True,.bp d [] 0,[(d,.box t false [v])]) else none
 | some ⟨.ref k,_,_,_⟩,some v=>if fitsT (.ref k) v then some (True,.bp d [] 0,[(d,.box t false [v])]) else none
 | _,_=>none
def qBuild (σ:St) (parts:List (Nat×Operand)):Option TI→QRes
 | some ⟨.agg u,offs,_,_⟩=>qmap ((partsAg σ offs (zfs u) parts).map AV.ag)
 | _=>none
def qBuildSlice2 (pu:Bool) (d:Nat) (n:Nat) (el:TypeId) (e:Ty):Option (List e.den)→QRes
 | some xs=>some (xs.length=n∧n * e.size≤16777216,if pu then .p (.slice e) xs else .sr d e 0 n,if pu then [] else [(d,.arr el e xs)])
 | none=>none
def qBuildSlice (pu:Bool) (σ:St) (d:Nat) (n:Nat) (parts:List (Nat×Operand)):Option TI→QRes
 | some ⟨.slice e,_,el,_⟩=>qBuildSlice2 pu d n el e (partsT σ e 0 parts)
 | _=>none
def qNest3 (d:Nat) (el iet:TypeId) (n:Nat) (k e:Ty):Option k.den→AV→QRes
 | some a,.raw (.slice none 0 0)=>some (n=1∧k.size + 1≤16777216,.sr d (.agg (.prod k (.slice e))) 0 1,[(d,.nest el iet k e [(a,[])] none)])
 | _,_=>none
def qNest2 (σ:St) (d:Nat) (el iet:TypeId) (n:Nat):Ty→Option AV→QRes
 | .agg (.prod k (.slice e)),some (.ag [x,y])=>qNest3 d el iet n k e (asT1 false σ k x) y
 | _,_=>none
def qNest1 (σ:St) (d:Nat) (iet:TypeId) (n:Nat):List (Nat×Operand)→Option TI→QRes
 | [(0,x)],some ⟨.slice t,_,el,_⟩=>qNest2 σ d el iet n t (opv σ x)
 | _,_=>none
def qBuildS (tb:Tb) (σ:St) (d:Nat) (n:Nat) (parts:List (Nat×Operand)) (ti:Option TI):Option TypeId→QRes
 | some iet=>qNest1 σ d iet n parts ti
 | none=>qBuildSlice (inB d tb.pure) σ d n parts ti
def qLoadB2 (ty:Ty) (fs:List AV) (path:List Nat) (off:Nat):Option AV→QRes
 | some v=>if fitsT ty v=true∧offB fs path=some off then some (True,v,[]) else none
 | none=>none
def qLoadB (ty:Ty) (path:List Nat) (off:Nat):Option Obj→QRes
 | some (.box _ st fs)=>qLoadB2 ty fs path off (loadB st fs path)
 | _=>none
def qLoadE3 (ty e:Ty) (path:List Nat) (off:Nat):Option PV→QRes
 | some ⟨t,d⟩=>if ty=t∧offP path e=some off then some (True,.p t d,[]) else none
 | none=>none
def qLoadE2 (ty e:Ty) (i:Nat) (path:List Nat) (off:Nat):Option (List e.den)→QRes
 | some ys=>qLoadE3 ty e path off (getP path e (ys.getD i e.dflt))
 | none=>none
def qLoadN (n:Nat) (ty:Ty) (i off:Nat) (k e:Ty) (x:k.den×List e.den):List Nat→QRes
 | [0]=>if ty=k∧off=0 then some (True,.p k x.1,[]) else none
 | [1]=>if ty=.slice e∧off=k.size then some (True,.nin n e i x.2.length,[]) else none
 | _=>none
def qLoadE (n:Nat) (ty e:Ty) (i:Nat) (path:List Nat) (off:Nat):Option Obj→QRes
 | some (.arr _ e' xs)=>qLoadE2 ty e i path off (castTo (.slice e) ⟨.slice e',xs⟩)
 | some (.nest _ _ k e' xs none)=>if e=.agg (.prod k (.slice e')) then qLoadN n ty i off k e' (xs.getD i (k.dflt,[])) path else none
 | _=>none
def qLoad (σ:St):Option TI→Option AV→QRes
 | some ti,some (.bp n path off)=>qLoadB ti.ty path off (lk n σ.objs)
 | some ti,some (.ep n e i path off)=>qLoadE n ti.ty e i path off (lk n σ.objs)
 | some ti,some (.ip u v)=>if ti.ty=u then some (True,.p u v,[]) else none
 | _,_=>none
def qFieldI (o:Option (Nat×Nat)) (o':Option Nat):Option PV→QRes
 | some ⟨t,d⟩=>if o.map (·.1)=o' then some (True,.ip t d,[]) else none
 | none=>none
def qOff (v:Nat→AV):Option (Nat×Nat)→QRes
 | some (k,_)=>some (True,v k,[])
 | none=>none
def qPart (f:Nat) (o:Option (Nat×Nat)):AV→QRes
 | .bp n path off=>qOff (fun k=>.bp n (path++[f]) (off + k)) o
 | .ep n e i path off=>qOff (fun k=>.ep n e i (path++[f]) (off + k)) o
 | .ip (.agg u) v=>qFieldI o (offF u f) (getF u f v)
 | _=>none
def qField (f:Nat):Option TI→Option AV→QRes
 | some ⟨.agg _,offs,0,_⟩,some x=>qPart f offs[f]? x
 | _,_=>none
def qIndexA (offs:List (Nat×Nat)) (x:AV):AV→QRes
 | .p (.int _) k=>if 0≤k then qPart k.toNat offs[k.toNat]? x else none
 | _=>none
def qIndex:Option TI→Option AV→Option AV→QRes
 | some ⟨.slice e,_,_,_⟩,some (.p (.slice e') l),some (.p (.int _) k)=>if e=e' then some (0≤k∧k < l.length,.ip e' (l.getD k.toNat e'.dflt),[]) else none
 | some ⟨.slice e,_,_,_⟩,some (.sr n e' lo hi),some (.p (.int _) k)=>if e=e' then some (0≤k∧k < (hi - lo:Nat),.ep n e' (lo + k.toNat) [] 0,[]) else none
 | some ⟨.agg _,offs,_ + 1,_⟩,some x,some i=>qIndexA offs x i
 | _,_,_=>none
def qIndexS:Option TI→Option AV→Option AV→QRes
 | some ⟨.str,_,_,_⟩,some (.p .str s),some (.p (.int _) k)=>some (0≤k∧k < s.size,.p (.int .u8) ((s.data.getD k.toNat 0).toNat:Int),[])
 | _,_,_=>none
def qNil:Option AV→QRes
 | some (.bp n path off)=>some (True,.bp n path off,[])
 | some (.ip t v)=>some (True,.ip t v,[])
 | some (.ep n e i path off)=>some (True,.ep n e i path off,[])
 | _=>none
def binB (a b:Bool):BinOp→QRes
 | .eql=>some (True,.p .bool (a == b),[])
 | .neq=>some (True,.p .bool (a != b),[])
 | _=>none
def boolT:Option TI→Bool
 | some ⟨.bool,_,_,_⟩=>true
 | _=>false
def qBin (op:BinOp) (ti:Option TI):Option AV→Option AV→QRes
 | some (.p (.int k) a),some (.p (.int k') b)=>some ((bin op k a k' b).1,(bin op k a k' b).2,[])
 | some (.p .str a),some (.p .str b)=>some ((binS a b op).1,(binS a b op).2,[])
 | some (.p .bool a),some (.p .bool b)=>if boolT ti=true then binB a b op else none
 | _,_=>none
def qUn:UnOp→Option AV→QRes
 | .not,some (.p .bool b)=>some (True,.p .bool (!b),[])
 | .neg,some (.p (.int k) a)=>some (InK k (0 - a),.p (.int k) (0 - a),[])
 | _,_=>none
def qConv:Option TI→Option TI→Option AV→QRes
 | some ⟨.int _,_,_,_⟩,some ⟨.int k,_,_,_⟩,some (.p (.int _) a)=>some (InK k a,.p (.int k) a,[])
 | _,_,_=>none
def qMake2 (d:Nat) (el:TypeId) (e:Ty) (n m:Int):Option TI→QRes
 | some ti=>some (n=m∧0≤n∧n.toNat * ti.bytes≤maxN,.sr d e 0 n.toNat,[(d,.arr el e (List.replicate n.toNat e.dflt))])
 | none=>none
def qMake (tb:Tb) (d:Nat):Option TI→Option AV→Option AV→QRes
 | some ⟨.slice e,_,el,_⟩,some (.p (.int .i64) n),some (.p (.int .i64) m)=>qMake2 d el e n m (lk el tb.ty)
 | _,_,_=>none
def qSlice:Option TI→Option AV→Option (Option AV)→Option (Option AV)→QRes
 | some ⟨.slice e,_,_,_⟩,some (.p (.slice e') l),some a,some h=>if e=e' then sliceQ (.p (.slice e') l) a h else none
 | some ⟨.slice e,_,_,_⟩,some (.sr n e' b c),some a,some h=>if e=e' then sliceQ (.sr n e' b c) a h else none
 | some ⟨.str,_,_,_⟩,some (.p .str s),some a,some h=>sliceQ (.p .str s) a h
 | _,_,_,_=>none
def qExtract (i:Nat):Option AV→QRes
 | some (.tup l)=>qmap l[i]?
 | _=>none
def qLen:Option TI→Option AV→QRes
 | some ⟨.slice _,_,_,_⟩,some (.p (.slice _) l)=>some (True,.p (.int .i64) (l.length:Int),[])
 | some ⟨.slice _,_,_,_⟩,some (.sr _ _ lo hi)=>some (True,.p (.int .i64) ((hi - lo:Nat):Int),[])
 | some ⟨.slice _,_,_,_⟩,some (.nin _ _ _ len)=>some (True,.p (.int .i64) (len:Int),[])
 | some ⟨.slice _,_,_,_⟩,some (.raw (.slice none 0 0))=>some (True,.p (.int .i64) (0:Int),[])
 | some ⟨.str,_,_,_⟩,some (.p .str s)=>some (True,.p (.int .i64) (s.size:Int),[])
 | _,_=>none
def qAppend3 (d:Nat) (el:TypeId) (e:Ty):Option TI→Option (List e.den)→QRes
 | some ti,some ys=>some (ys.length * ti.bytes≤maxN,.sr d e 0 ys.length,[(d,.arr el e ys)])
 | _,_=>none
def qAppend2 (tb:Tb) (σ:St) (d:Nat) (v:AV):Option TI→QRes
 | some ⟨.slice e,_,el,_⟩=>qAppend3 d el e (lk el tb.ty) (asA σ e v)
 | _=>none
def qAppend (tb:Tb) (σ:St) (d:Nat) (t u:TypeId):Option AV→Option AV→QRes
 | some (.raw (.slice none 0 0)),some v=>if t=u then qAppend2 tb σ d v (lk t tb.ty) else none
 | _,_=>none
def qMin:Option AV→Option AV→QRes
 | some (.p (.int k) a),some (.p (.int k') b)=>if k=k' then some (True,.p (.int k) (if b < a then b else a),[]) else none
 | _,_=>none
def qMax:Option AV→Option AV→QRes
 | some (.p (.int k) a),some (.p (.int k') b)=>if k=k' then some (True,.p (.int k) (if a < b then b else a),[]) else none
 | _,_=>none
def qCall3 (d:Nat) (sp:Spec):Option (dens sp.ins)→QRes
 | some ds=>if sp.lend=false∨(sp.out ds).all RV.flat=true then some (sp.pre ds,resAV d (sp.out ds),rvObjs d (sp.out ds)) else none
 | none=>none
def qCall2 (σ:St) (d:Nat) (xs:List Operand):Option Spec→QRes
 | some sp=>qCall3 d sp (argsT sp.lend σ sp.ins xs)
 | none=>none
def qCall (tb:Tb) (σ:St) (d:Nat) (xs:List Operand):Option AV→QRes
 | some (.fn f)=>qCall2 σ d xs (lk f tb.fns)
 | _=>none
def qBuiltin (tb:Tb) (σ:St) (d:Nat):Builtin→List Operand→List TypeId→QRes
 | .len,[x],[t]=>qLen (lk t tb.ty) (opv σ x)
 | .append,[x,y],[t,u]=>qAppend tb σ d t u (opv σ x) (opv σ y)
 | .min,[x,y],[_,_]=>qMin (opv σ x) (opv σ y)
 | .max,[x,y],[_,_]=>qMax (opv σ x) (opv σ y)
 | _,_,_=>none
def capNs (σ:St):List Operand→Option (List Nat)
 | []=>some []
 | x :: r=>match opv σ x,capNs σ r with
  | some (.bp n [] 0),some ns=>some (n :: ns)
  | _,_=>none
def qClo2 (f:FuncId):Option (List Nat)→QRes
 | some ns=>some (True,.clo f ns,[])
 | none=>none
def qClo (σ:St) (fn:Fn) (first captured:List Operand):QRes :=
 match fn,first with
 | .func f,[]=>qClo2 f (capNs σ captured)
 | _,_=>none
def qMakeMap3 (d:Nat):Option TI→Option TI→QRes
 | some tk,some te=>some (True,.mp d,[(d,.mapo tk.ty te.ty [])])
 | _,_=>none
def qMakeMap2 (tb:Tb) (d:Nat):List (Nat×Nat)→QRes
 | [(k,e)]=>qMakeMap3 d (lk k tb.ty) (lk e tb.ty)
 | _=>none
def qMakeMap (tb:Tb) (d:Nat):Option TI→QRes
 | some ⟨.ref 2,offs,_,_⟩=>qMakeMap2 tb d offs
 | _=>none
def qLook4 (vt:Ty) (ok:Bool) (r:Option vt.den):QRes :=
 if ok then some (True,.tup [.p vt (r.getD vt.dflt),.p .bool r.isSome],[]) else some (True,.p vt (r.getD vt.dflt),[])
def qLook3 (kt vt:Ty) (l:List (kt.den×vt.den)) (ok:Bool):Option kt.den→QRes
 | some k=>if keyT kt=true then qLook4 vt ok (mfind kt vt k l) else none
 | none=>none
def qLook2 (tb:Tb) (σ:St) (kid eid:Nat) (x:AV) (ok:Bool):Option Obj→QRes
 | some (.mapo kt vt l)=>if (lk kid tb.ty).map TI.ty=some kt∧(lk kid tb.ty).map TI.el=some 0∧(lk eid tb.ty).map TI.ty=some vt then qLook3 kt vt l ok (asT false σ kt x) else none
 | _=>none
def qLook (tb:Tb) (σ:St) (ok:Bool):Option TI→Option AV→Option AV→QRes
 | some ⟨.ref 2,[(k,e)],_,_⟩,some (.mp n),some x=>qLook2 tb σ k e x ok (lk n σ.objs)
 | _,_,_=>none
def qCallee (tb:Tb) (σ:St) (d:Nat) (xs:List Operand) (ts:List TypeId):Callee→QRes
 | .builtin b=>qBuiltin tb σ d b xs ts
 | .value g=>qCall tb σ d xs (opv σ g)
 | _=>none
def aq (tb:Tb) (σ:St) (d:Nat):Op→QRes
 | .move x=>qmap (opv σ x)
 | .assign x=>qmap (opv σ x)
 | .pick c x y=>qPick (opv σ c) (opv σ x) (opv σ y)
 | .alloc t=>qAlloc d t (lk t tb.ty)
 | .box t x=>qBox d t (lk t tb.ty) (opv σ x)
 | .build t parts=>qBuild σ parts.toList (lk t tb.ty)
 | .buildSlice t n parts=>qBuildS tb σ d n parts.toList (lk t tb.ty) (lk d tb.nests)
 | .load t x=>qLoad σ (lk t tb.ty) (opv σ x)
 | .fieldAddr s x f=>qField f (lk s tb.ty) (opv σ x)
 | .indexAddr t x i=>qIndex (lk t tb.ty) (opv σ x) (opv σ i)
 | .index t x i=>qIndexS (lk t tb.ty) (opv σ x) (opv σ i)
 | .nilCheck x=>qNil (opv σ x)
 | .binOp op t x y _=>qBin op (lk t tb.ty) (opv σ x) (opv σ y)
 | .unOp op _ x=>qUn op (opv σ x)
 | .convert s t x=>qConv (lk s tb.ty) (lk t tb.ty) (opv σ x)
 | .makeSlice t l c=>qMake tb d (lk t tb.ty) (opv σ l) (opv σ c)
 | .slice t x lo hi none=>qSlice (lk t tb.ty) (opv σ x) (optAV σ lo) (optAV σ hi)
 | .extract x i=>qExtract i (opv σ x)
 | .call c=>qCallee tb σ d c.args.toList c.argTypes.toList c.callee
 | .makeFunc fn first captured=>qClo σ fn first.toList captured.toList
 | .makeMap t none=>qMakeMap tb d (lk t tb.ty)
 | .lookup t x i ok=>qLook tb σ ok (lk t tb.ty) (opv σ x) (opv σ i)
 | _=>none
def notAg:AV→Bool
 | .ag _=>false
 | _=>true
def storeB (st:Bool) (fs:List AV) (v:AV):List Nat→Option (List AV)
 | []=>if st then match v with
   | .p (.agg u) d=>some (pfs u d)
   | .ag l=>some l
   | _=>none
  else if notAg v then some [v] else none
 | [k]=>if st && notAg v then some (fs.set k v) else none
 | k :: r=>if st then match fs[k]?,v with
   | some (.p t d),.p u x=>(setP r t d ⟨u,x⟩).map fun y=>fs.set k (.p t y)
   | _,_=>none
  else none
abbrev LRes:=Option (Prop×St)
def lStoreB2 (σ:St) (n:Nat) (et:TypeId) (st:Bool) (ty:Ty) (fs:List AV) (path:List Nat) (off:Nat) (v:AV):Option AV→Option (List AV)→LRes
 | some u,some fs'=>if fitsO ty u=true∧fitsT ty v=true∧offB fs path=some off∧fs'.map AV.cells=fs.map AV.cells then some (True,⟨σ.env,upd n (.box et st fs') σ.objs⟩) else none
 | _,_=>none
def lStoreB (σ:St) (n:Nat) (ty:Ty) (path:List Nat) (off:Nat) (v:AV):Option Obj→LRes
 | some (.box et st fs)=>lStoreB2 σ n et st ty fs path off v (loadB st fs path) (storeB st fs v path)
 | _=>none
def lStoreE4 (σ:St) (n:Nat) (et:TypeId) (e:Ty) (i:Nat) (path:List Nat) (off:Nat) (ys:List e.den):Option e.den→LRes
 | some z=>if offP path e=some off then some (True,⟨σ.env,upd n (.arr et e (ys.set i z)) σ.objs⟩) else none
 | none=>none
def lStoreE3 (σ:St) (n:Nat) (et:TypeId) (ty e:Ty) (i:Nat) (path:List Nat) (off:Nat):Option (List e.den)→Option ty.den→LRes
 | some ys,some w=>lStoreE4 σ n et e i path off ys (setP path e (ys.getD i e.dflt) ⟨ty,w⟩)
 | _,_=>none
/-! A nested array's row -/
def lNin4 (σ:St) (d n:Nat) (et iet:TypeId) (k e:Ty) (xs:List (k.den×List e.den)) (i bytes:Nat):Option (List e.den)→LRes
 | some ys=>if (lk d σ.objs).isNone=true then some (((xs.getD i (k.dflt,[])).2.length + ys.length) * bytes≤maxN,
   ⟨(d,.sr d e 0 ((xs.getD i (k.dflt,[])).2.length + ys.length)) :: trnEnv n [] σ.env,(d,.arr iet e ((xs.getD i (k.dflt,[])).2++ys)) :: (n,.nest et iet k e xs (some i)) :: trnObjs n [] σ.objs⟩) else none
 | none=>none
def lNin3 (σ:St) (d n:Nat) (el:TypeId) (e':Ty) (i:Nat) (v:AV):Option TI→Option Obj→LRes
 | some ti,some (.nest et iet k e xs none)=>if e'=e∧iet=el∧fixN n=false then lNin4 σ d n et iet k e xs i ti.bytes (asA σ e v) else none
 | _,_=>none
def lNin2 (tb:Tb) (σ:St) (d n:Nat) (e':Ty) (i:Nat) (v:AV):Option TI→LRes
 | some ⟨.slice e,_,el,_⟩=>if e'=e then lNin3 σ d n el e i v (lk el tb.ty) (lk n σ.objs) else none
 | _=>none
def lBack3 (σ:St) (n m:Nat) (et iet:TypeId) (k e:Ty) (xs:List (k.den×List e.den)) (i hi:Nat):Option (List e.den)→LRes
 | some ys=>some (hi=ys.length,⟨trnEnv n [m] σ.env,(n,.nest et iet k e (xs.set i ((xs.getD i (k.dflt,[])).1,ys)) none) :: trnObjs n [m] σ.objs⟩)
 | none=>none
def lBack2 (σ:St) (n m:Nat) (et iet:TypeId) (k e:Ty) (xs:List (k.den×List e.den)) (i hi:Nat):Option Obj→LRes
 | some (.arr jet e2 ys)=>if jet=iet∧fixN m=false∧fixN n=false then lBack3 σ n m et iet k e xs i hi (castTo (.slice e) ⟨.slice e2,ys⟩) else none
 | _=>none
def lJoin3 (σ:St) (d n m:Nat) (et iet:TypeId) (k e:Ty) (hi hi' bytes:Nat) (xs:List (k.den×List e.den)):Option (List (k.den×List e.den))→LRes
 | some ys=>some (hi=xs.length∧hi'=ys.length∧(xs.length + ys.length) * bytes≤maxN,
   ⟨(d,.sr n (.agg (.prod k (.slice e))) 0 (xs.length + ys.length)) :: fgtEnv [n,m] σ.env,(n,.nest et iet k e (xs++ys) none) :: restObjs [n,m] [n,m] σ.objs⟩)
 | none=>none
def lJoin2 (σ:St) (d n m:Nat) (et iet:TypeId) (k e:Ty) (hi hi' bytes:Nat) (xs:List (k.den×List e.den)):Option Obj→LRes
 | some (.nest _ iet' k' e' ys none)=>if iet'=iet∧n≠m∧fixN m=false then lJoin3 σ d n m et iet k e hi hi' bytes xs (castTo (.slice (.agg (.prod k (.slice e)))) ⟨.slice (.agg (.prod k' (.slice e'))),ys⟩) else none
 | _=>none
def lJoin (σ:St) (d n:Nat) (et iet:TypeId) (k e:Ty) (hi bytes:Nat) (xs:List (k.den×List e.den)):AV→LRes
 | .sr m _ 0 hi'=>lJoin2 σ d n m et iet k e hi hi' bytes xs (lk m σ.objs)
 | _=>none
def lNew3 (σ:St) (d m:Nat) (el iet:TypeId) (k e:Ty) (ys:List (k.den×List e.den)) (hi' bytes:Nat):LRes :=
 if (lk d σ.objs).isNone=true∧fixN m=false then some (hi'=ys.length∧ys.length * bytes≤maxN,
  ⟨(d,.sr d (.agg (.prod k (.slice e))) 0 ys.length) :: fgtEnv [m] σ.env,(d,.nest el iet k e ys none) :: restObjs [m] [m] σ.objs⟩) else none
def lNew2 (σ:St) (d m:Nat) (el:TypeId) (t:Ty) (hi':Nat):Option TI→Option Obj→LRes
 | some ti,some (.nest _ iet k e ys none)=>if t=.agg (.prod k (.slice e)) then lNew3 σ d m el iet k e ys hi' ti.bytes else none
 | _,_=>none
def lNew (tb:Tb) (σ:St) (d:Nat):AV→Option TI→LRes
 | .sr m _ 0 hi',some ⟨.slice t,_,el,_⟩=>lNew2 σ d m el t hi' (lk el tb.ty) (lk m σ.objs)
 | _,_=>none
def lBackS (σ:St) (n m:Nat) (ty:Ty) (et iet:TypeId) (k e:Ty) (xs:List (k.den×List e.den)) (i hi:Nat) (path:List Nat) (off:Nat):LRes :=
 if ty=.slice e∧path=[1]∧off=k.size then lBack2 σ n m et iet k e xs i hi (lk m σ.objs) else none
def lStoreE (σ:St) (n:Nat) (ty e:Ty) (i:Nat) (path:List Nat) (off:Nat) (v:AV):Option Obj→LRes
 | some (.arr et e' xs)=>lStoreE3 σ n et ty e i path off (castTo (.slice e) ⟨.slice e',xs⟩) (asT false σ ty v)
 | some (.nest et iet k e' xs (some j))=>match v with
  | .sr m E 0 hi=>if e=.agg (.prod k (.slice e'))∧i=j∧E=e' then lBackS σ n m ty et iet k e' xs i hi path off else none
  | _=>none
 | _=>none
def lStore (σ:St):Option TI→Option AV→Option AV→LRes
 | some ti,some (.bp n path off),some v=>lStoreB σ n ti.ty path off v (lk n σ.objs)
 | some ti,some (.ep n e i path off),some v=>lStoreE σ n ti.ty e i path off v (lk n σ.objs)
 | _,_,_=>none
def lAppend4 (σ:St) (d n:Nat) (et:TypeId) (e:Ty) (hi:Nat) (bytes:Nat):Option (List e.den)→Option (List e.den)→LRes
 | some zs,some ys=>some ((hi + ys.length) * bytes≤maxN,⟨(d,.sr n e 0 (hi + ys.length)) :: drpEnv n σ.env,upd n (.arr et e (zs.take hi++ys)) (drpObjs n σ.objs)⟩)
 | _,_=>none
def lAppend3 (σ:St) (d n:Nat) (el:TypeId) (e:Ty) (hi:Nat) (v:AV) (ys:Option (List e.den)):Option TI→Option Obj→LRes
 | some ti,some (.arr et e' xs)=>if et=el then lAppend4 σ d n et e hi ti.bytes (castTo (.slice e) ⟨.slice e',xs⟩) ys else none
 | some ti,some (.nest et iet k e' xs none)=>if et=el∧e=.agg (.prod k (.slice e')) then lJoin σ d n et iet k e' hi ti.bytes xs v else none
 | _,_=>none
def lAppend2 (tb:Tb) (σ:St) (d:Nat) (n:Nat) (e':Ty) (hi:Nat) (v:AV):Option TI→LRes
 | some ⟨.slice e,_,el,_⟩=>if e=e' then lAppend3 σ d n el e hi v (asA σ e v) (lk el tb.ty) (lk n σ.objs) else none
 | _=>none
def lAppend (tb:Tb) (σ:St) (d:Option Nat) (t u:TypeId):Option AV→Option AV→LRes
 | some (.sr n e 0 hi),some v=>match d with
  | some d=>if t=u∧fixN n=false then lAppend2 tb σ d n e hi v (lk t tb.ty) else none
  | none=>none
 | some (.nin n e i _),some v=>match d with
  | some d=>if t=u then lNin2 tb σ d n e i v (lk t tb.ty) else none
  | none=>none
 | some (.raw (.slice none 0 0)),some v=>match d with
  | some d=>if t=u then lNew tb σ d v (lk t tb.ty) else none
  | none=>none
 | _,_=>none
def lBuiltin (tb:Tb) (σ:St) (d:Option Nat):Builtin→List Operand→List TypeId→LRes
 | .append,[x,y],[t,u]=>lAppend tb σ d t u (opv σ x) (opv σ y)
 | _,_,_=>none
def lCallee (tb:Tb) (σ:St) (d:Option Nat) (xs:List Operand) (ts:List TypeId):Callee→LRes
 | .builtin b=>lBuiltin tb σ d b xs ts
 | _=>none
def lMapUp3 (σ:St) (n:Nat) (kt vt:Ty) (l:List (kt.den×vt.den)):Option kt.den→Option vt.den→LRes
 | some k,some v=>if keyT kt=true then some (True,⟨σ.env,upd n (.mapo kt vt (mput kt vt k v l)) σ.objs⟩) else none
 | _,_=>none
def lMapUp2 (tb:Tb) (σ:St) (n:Nat) (kid:Nat) (x y:AV):Option Obj→LRes
 | some (.mapo kt vt l)=>if (lk kid tb.ty).map TI.ty=some kt∧(lk kid tb.ty).map TI.el=some 0 then lMapUp3 σ n kt vt l (asT false σ kt x) (asT false σ vt y) else none
 | _=>none
def lMapUp (tb:Tb) (σ:St):Option TI→Option AV→Option AV→Option AV→LRes
 | some ⟨.ref 2,[(k,_)],_,_⟩,some (.mp n),some x,some y=>lMapUp2 tb σ n k x y (lk n σ.objs)
 | _,_,_,_=>none
def lStoreD (r:LRes):Option Nat→LRes
 | none=>r
 | some _=>none
def aloud (tb:Tb) (σ:St) (d:Option Nat):Op→LRes
 | .store t x y=>lStoreD (lStore σ (lk t tb.ty) (opv σ x) (opv σ y)) d
 | .mapUpdate t m x y=>lStoreD (lMapUp tb σ (lk t tb.ty) (opv σ m) (opv σ x) (opv σ y)) d
 | .call c=>lCallee tb σ d c.args.toList c.argTypes.toList c.callee
 | _=>none
def St.add (σ:St) (v:AV) (obs:List (Nat×Obj)):Option Nat→St
 | some d=>⟨(d,v) :: σ.env,obs++σ.objs⟩
 | none=>⟨σ.env,obs++σ.objs⟩
def namesOf:Option AV→List Nat
 | some v=>v.names
 | none=>[]
def namesParts (σ:St):List (Nat×Operand)→List Nat
 | []=>[]
 | (_,x) :: r=>namesOf (opv σ x)++namesParts σ r
def namesAg:Option AV→List Nat
 | some (.ag l)=>AV.namess l
 | _=>[]
def namesAgs (σ:St):List (Nat×Operand)→List Nat
 | []=>[]
 | (_,x) :: r=>namesAg (opv σ x)++namesAgs σ r
def namesStore (σ:St):Option AV→Option AV→List Nat
 | some (.ep n _ _ _ _),some v=>if isNest (lk n σ.objs)=true then [] else v.names
 | _,_=>[]
def namesMap:Option AV→Option AV→Option AV→List Nat
 | some (.mp _),some v,some u=>v.names++u.names
 | _,_,_=>[]
def takesIn (σ:St):Op→List Nat
 | .buildSlice _ _ parts=>namesParts σ parts.toList
 | .build _ parts=>namesAgs σ parts.toList
 | .store _ x y=>namesStore σ (opv σ x) (opv σ y)
 | .mapUpdate _ m x y=>namesMap (opv σ m) (opv σ x) (opv σ y)
 | _=>[]
def frzAll:List Nat→St→St
 | [],σ=>σ
 | n :: r,σ=>frzAll r (frz n σ)
def fresh (obs:List (Nat×Obj)) (σ:St):Bool:=obs.all fun p=>(lk p.1 σ.objs).isNone
def stepQ (tb:Tb) (σ:St) (o:Oper):QRes→LRes
 | some (vc,v,obs)=>if fresh obs σ=true then some (vc,σ.add v obs o.dst) else none
 | none=>aloud tb σ o.dst o.op
def step0 (tb:Tb) (o:Oper) (σ:St):LRes:=stepQ tb σ o (aq tb σ (o.dst.getD 0) o.op)
def step1 (tb:Tb) (o:Oper) (σ:St):LRes:=step0 tb o (frzAll (takesIn σ o.op) σ)
def guardB (want:Bool):Option AV→Option Bool
 | some (.p .bool b)=>some (b == want)
 | _=>none
def guardT (σ:St) (want:Bool):Option Tmp→Option Bool
 | some g=>guardB want (lk g σ.env)
 | none=>none
def guardOf (ops:List Oper) (σ:St):Option (Nat×Bool)→Option Bool
 | none=>some true
 | some (j,want)=>guardT σ want ((ops[j]?).bind (·.dst))
def vcK (vc:Prop):LRes→LRes
 | some (vc',σ)=>some (vc∧vc',σ)
 | none=>none
mutual
/-- Operations in the order of the text. -/
def evSeq (tb:Tb) (ops:List Oper):List Oper→St→LRes
 | [],σ=>some (True,σ)
 | o :: r,σ=>evG tb ops o r σ (guardOf ops σ o.guard)
def evG (tb:Tb) (ops:List Oper) (o:Oper) (r:List Oper) (σ:St):Option Bool→LRes
 | some true=>evK tb ops r (step1 tb o σ)
 | some false=>evSeq tb ops r (σ.add (.raw undef) [] o.dst)
 | none=>none
def evK (tb:Tb) (ops:List Oper) (r:List Oper):LRes→LRes
 | some (vc,σ)=>vcK vc (evSeq tb ops r σ)
 | none=>none
end
end Go.Proofs.Ytebfihindnhccaa.Fw
end
/- What an abstract state says of a frame and a world; that it is kept where nothing that it speaks of turns. -/
section
namespace Go.Proofs.Ytebfihindnhccaa.Fw
open Go Go.RowKit
theorem lt_of_block' {w:World} {b:Nat} {o:_root_.Go.Obj} (h:w.heap[b]?=some o):b < w.heap.size:=by
 rcases Nat.lt_or_ge b w.heap.size with h' | h'
 ·exact h'
 ·simp [Array.getElem?_eq_none h'] at h
def blk:Value→Option Nat
 | .slice (some a) _ _=>some a.block
 | .pointer (some a)=>some a.block
 | .map (some b)=>some b
 | _=>none
def bk (v:Value) (b:Nat):Prop:=blk v=some b∨∃ vs:Array Value,v=.tuple vs∧∃ x∈vs.toList,blk x=some b
theorem bk_slice {a:Option Addr} {m c b:Nat}:bk (.slice a m c) b↔blk (.slice a m c)=some b:=by
 constructor
 ·intro h
  rcases h with h | ⟨_,h,_⟩
  ·exact h
  ·cases h
 ·exact .inl
def plc:Value→Value
 | .tuple vs=>vs.getD 0 undef
 | v=>v
def SliceV (loc:Value) (sz lo hi:Nat) (v:Value):Prop :=
 ∃ (a:Option Addr) (m c:Nat),loc=.slice a m c∧lo≤hi∧hi≤m∧∃ (a':Option Addr) (c':Nat),v=.slice a' (hi - lo) c'∧hi - lo≤c'∧(lo=0→a'=a∧c'=c)∧(lo < hi→a'=a.map (·.add (lo * sz)))
structure Vw where
 w:World
 /-- blocks that no pure value looks at -/
 O:Nat→Prop
 /-- names that live -/
 L:Nat→Prop
 /-- where they lie -/
 ρ:Nat→Value
def AV1 (V:Vw):AV→Value→Prop
 | .p t d,v=>VRep V.w V.O t v d
 | .raw u,v=>v=u
 | .sr n e lo hi,v=>V.L n∧SliceV (plc (V.ρ n)) e.size lo hi v
 | .ep n e i _ off,v=>V.L n∧∃ g m c:Nat,plc (V.ρ n)=.slice (some ⟨g,0,none⟩) m c∧i < m∧v=.pointer (some ⟨g,i * e.size + off,none⟩)
 | .nin n _ i len,v=>V.L n∧∃ (vs:Array Value) (a:Option Addr) (c:Nat),V.ρ n=.tuple vs∧vs[i + 1]?=some v∧v=.slice a len c
 | .ip t d,v=>∃ (ad:Addr) (cs:List Value),v=.pointer (some ad)∧¬ V.O ad.block∧(∀ (j:Nat) (u:Value),cs[j]?=some u→V.w.cell? (ad.add j)=some u)∧Rep V.w V.O t cs d
 | .bp n _ off,v=>V.L n∧∃ b:Nat,V.ρ n=.pointer (some ⟨b,0,none⟩)∧v=.pointer (some ⟨b,off,none⟩)
 | .fn f,v=>v=.func (.func f) #[] #[]
 | .clo f ns,v=>v=.func (.func f) #[] (ns.map V.ρ).toArray∧∀ n∈ns,V.L n∧∃ b:Nat,V.ρ n=.pointer (some ⟨b,0,none⟩)
 | .mp n,v=>V.L n∧∃ b:Nat,V.ρ n=.map (some b)∧v=.map (some b)
 | .yl n,v=>V.L n∧∃ b:Nat,V.ρ n=.pointer (some ⟨b,0,none⟩)∧v=.func (.yield b) #[] #[]
 | .top,_=>True
 | .ag _,_=>False
 | .tup _,_=>False
def AVC (V:Vw):AV→List Value→Prop
 | .p t d,cs=>Rep V.w V.O t cs d
 | av,cs=>∃ v,cs=[v]∧v.oneCell'=true∧AV1 V av v
def AVCs (V:Vw):List AV→List Value→Prop
 | [],cs=>cs=[]
 | x :: r,cs=>∃ c1 c2:List Value,cs=c1++c2∧AVC V x c1∧AVCs V r c2
def AV1s (V:Vw):List AV→List Value→Prop
 | [],vs=>vs=[]
 | x :: r,vs=>∃ (v:Value) (l:List Value),vs=v :: l∧AV1 V x v∧AV1s V r l
def AVR (V:Vw):AV→Value→Prop
 | .ag l,v=>∃ cs:List Value,v=.agg cs.toArray∧AVCs V l cs
 | .tup l,v=>∃ vs:List Value,v=.tuple vs.toArray∧AV1s V l vs
 | av,v=>AV1 V av v
def Elems (w:World) (O:Nat→Prop) (e:Ty) (cells:List Value) (xs:List e.den):Prop :=
 ∀ (i:Nat) (x:e.den),xs[i]?=some x→∃ es:List Value,es.length=e.size∧(∀ (j:Nat) (u:Value),es[j]?=some u→cells[i * e.size + j]?=some u)∧Rep w O e es x
def Ents (w:World) (O:Nat→Prop) (k v:Ty):List MapEntry→List (k.den×v.den)→Prop
 | [],[]=>True
 | e :: es,x :: xs=>VRep w O k e.key x.1∧VRep w O v e.val x.2∧Ents w O k v es xs
 | _,_=>False
def ArrR (V:Vw) (et:TypeId) (e:Ty) (xs:List e.den) (loc:Value):Prop:=xs.length≤maxN∧∃ cells:List Value,V.w.ownsRow 0 et e.size loc xs.length cells∧Elems V.w V.O e cells xs
def RowR (V:Vw) (iet:TypeId) (k e:Ty) (hole:Bool) (cells:List Value) (i:Nat) (x:k.den×List e.den) (u:Value):Prop :=
 ∃ (c1:List Value) (v:Value),(∀ (j:Nat) (z:Value),(c1++[v])[j]?=some z→cells[i * (k.size + 1) + j]?=some z)∧Rep V.w V.O k c1 x.1 ∧
  ((hole=true∧u=.slice none 0 0)∨(hole=false∧v=u∧ArrR V iet e x.2 u))
structure NestR (V:Vw) (et iet:TypeId) (k e:Ty) (xs:List (k.den×List e.den)) (h:Option Nat) (o:Value) (ins:List Value) (cells:List Value):Prop where
 max:xs.length≤maxN
 len:ins.length=xs.length
 own:V.w.ownsRow 0 et (k.size + 1) o xs.length cells
 row:∀ (i:Nat) (x:k.den×List e.den) (u:Value),xs[i]?=some x→ins[i]?=some u→RowR V iet k e (h == some i) cells i x u
 dist:∀ (i j b:Nat) (u v:Value),ins[i]?=some u→ins[j]?=some v→blk u=some b→blk v=some b→i=j
 out:∀ (i b:Nat) (u:Value),ins[i]?=some u→blk u=some b→blk o≠some b
def Shp (loc o:Value) (ins:List Value):Prop:=loc=.tuple (o :: ins).toArray∨(loc=.slice none 0 0∧o=.slice none 0 0∧ins=[])
def ObjR (V:Vw):Obj→Value→Prop
 | .arr et e xs,loc=>ArrR V et e xs loc
 | .nest et iet k e xs h,loc=>∃ (o:Value) (ins cells:List Value),Shp loc o ins∧NestR V et iet k e xs h o ins cells
 | .box et st fs,loc=>(st=false→fs.length=1)∧∃ (b:Nat) (cs:List Value),loc=.pointer (some ⟨b,0,none⟩)∧V.w.heap[b]?=some (.cells cs.toArray et (0,0))∧AVCs V fs cs
 | .mapo k v l,loc=>∃ (b:Nat) (es:Array MapEntry) (clock:Nat),loc=.map (some b)∧V.w.heap[b]?=some (.map es clock)∧Ents V.w V.O k v es.toList l
 | .frame tm fs,loc=>loc=.pointer none∧∀ s x,lk s fs=some x→AVR V x (tm.getD s undef)
 | .loop L,loc=>∃ b:Nat,loc=.pointer (some ⟨b,0,none⟩)∧V.w.heap[b]?=some (.loop L)
 | .dfr,loc=>∃ b:Nat,loc=.pointer (some ⟨b,0,none⟩)∧V.w.heap[b]?=some (.deferred (some []))
structure Frm (K:Nat→Prop) (w0 w:World):Prop where
 os:w.os=w0.os
 tape:w.tape=w0.tape
 output:w.output=w0.output
 size:w0.heap.size≤w.heap.size
 block:∀ k,K k→w.heap[k]?=w0.heap[k]?
def liv (σ:St) (n:Nat):Prop:=∃ o,lk n σ.objs=some o
def own (O0:Nat→Prop) (σ:St) (ρ:Nat→Value) (b:Nat):Prop:=O0 b∨∃ n,liv σ n∧bk (ρ n) b
def vw (w:World) (O0:Nat→Prop) (σ:St) (ρ:Nat→Value):Vw:=⟨w,own O0 σ ρ,liv σ,ρ⟩
def nosl:Value→Bool
 | .slice _ _ _=>false
 | .tuple _=>false
 | _=>true
structure Fp where
 ds:List Deferred:=[]
 pin:List (Nat×Value):=[]
structure SatR (w0:World) (K O0:Nat→Prop) (nt:Nat) (ds:Fp) (σ:St) (ρ:Nat→Value) (a:Act) (w:World):Prop where
 frm:Frm K w0 w
 nt:a.tmps.size=nt
 defers:a.defers=ds.ds
 pin:∀ p∈ds.pin,liv σ p.1∧ρ p.1=p.2∧(nosl p.2=true∨fixN p.1=true)
 objs:∀ n o,lk n σ.objs=some o→ObjR (vw w O0 σ ρ) o (ρ n)
 free:∀ n b,liv σ n→bk (ρ n) b→¬ K b∧¬ O0 b
 dist:∀ n m b,liv σ n→liv σ m→bk (ρ n) b→bk (ρ m) b→n=m
 env:∀ s v,lk s σ.env=some v→AVR (vw w O0 σ ρ) v (a.tmps.getD s undef)
/-! ### Kept -/
structure Keeps (V V':Vw):Prop where
 O:∀ b,b < V.w.heap.size→¬ V.O b→¬ V'.O b
 L:∀ n,V.L n→V'.L n
 ρ:∀ n,V.L n→V'.ρ n=V.ρ n
 heap:∀ b,b < V.w.heap.size→¬ V.O b→V'.w.heap[b]?=V.w.heap[b]?
theorem AV1.keeps {V V':Vw} (h:Keeps V V'):∀ {x:AV} {v:Value},AV1 V x v→AV1 V' x v
 | .p _ _,_,hx=>VRep.mono h.O h.heap hx
 | .raw _,_,hx=>hx
 | .sr n e lo hi,_,⟨hL,hs⟩=>⟨h.L n hL,by rw [h.ρ n hL];exact hs⟩
 | .ep n e i _ off,_,⟨hL,hs⟩=>⟨h.L n hL,by rw [h.ρ n hL];exact hs⟩
 | .nin n _ i len,_,⟨hL,hs⟩=>⟨h.L n hL,by rw [h.ρ n hL];exact hs⟩
 | .ip t d,_,⟨ad,cs,hv,hO,hc,hr⟩=>by
  have hlt:ad.block < V.w.heap.size:=by
   have hp:=t.size_pos
   have hl:=hr.length
   have:=block_lt_of_cell (hc 0 (cs[0]'(by omega)) (List.getElem?_eq_getElem (by omega)))
   rwa [block_of_add] at this
  refine ⟨ad,cs,hv,h.O _ hlt hO,fun j u hj=>?_,Rep.mono h.O h.heap hr⟩
  rw [World.cell?_of_block (w:=V.w) (w':=V'.w)]
  ·exact hc j u hj
  ·rw [block_of_add];exact h.heap _ hlt hO
 | .bp n _ off,_,⟨hL,hs⟩=>⟨h.L n hL,by rw [h.ρ n hL];exact hs⟩
 | .fn _,_,hx=>hx
 | .clo f ns,_,⟨hv,hs⟩=>by
  refine ⟨?_,fun n hn=>⟨h.L n (hs n hn).1,by rw [h.ρ n (hs n hn).1];exact (hs n hn).2⟩⟩
  rw [hv]
  congr 2
  exact List.map_congr_left fun n hn=>(h.ρ n (hs n hn).1).symm
 | .mp n,_,⟨hL,hs⟩=>⟨h.L n hL,by rw [h.ρ n hL];exact hs⟩
 | .yl n,_,⟨hL,hs⟩=>⟨h.L n hL,by rw [h.ρ n hL];exact hs⟩
 | .top,_,_=>trivial
 | .ag _,_,hx=>hx
 | .tup _,_,hx=>hx
theorem AVC.keeps {V V':Vw} (h:Keeps V V') {x:AV} {cs:List Value} (hx:AVC V x cs):AVC V' x cs:=by
 cases x
 case p t d=>exact (Rep.mono h.O h.heap hx:Rep V'.w V'.O t cs d)
 all_goals
  obtain ⟨v,h1,h2,h3⟩:=hx
  exact ⟨v,h1,h2,h3.keeps h⟩
theorem AVCs.keeps {V V':Vw} (h:Keeps V V'):∀ {l:List AV} {cs:List Value},AVCs V l cs→AVCs V' l cs
 | [],_,hx=>hx
 | _ :: _,_,⟨c1,c2,e,h1,h2⟩=>⟨c1,c2,e,h1.keeps h,h2.keeps h⟩
theorem AV1s.keeps {V V':Vw} (h:Keeps V V'):∀ {l:List AV} {vs:List Value},AV1s V l vs→AV1s V' l vs
 | [],_,hx=>hx
 | _ :: _,_,⟨v,l,e,h1,h2⟩=>⟨v,l,e,h1.keeps h,h2.keeps h⟩
theorem AVR.keeps {V V':Vw} (h:Keeps V V') {x:AV} {v:Value} (hx:AVR V x v):AVR V' x v:=by
 cases x
 case ag l=>obtain ⟨cs,h1,h2⟩:=hx;exact ⟨cs,h1,h2.keeps h⟩
 case tup l=>obtain ⟨cs,h1,h2⟩:=hx;exact ⟨cs,h1,h2.keeps h⟩
 all_goals
  simp only [AVR] at hx ⊢
  exact AV1.keeps h hx
theorem Elems.keeps {V V':Vw} (h:Keeps V V') {e:Ty} {cells:List Value} {xs:List e.den} (hx:Elems V.w V.O e cells xs):Elems V'.w V'.O e cells xs:=fun i x hi =>
 let ⟨es,h1,h2,h3⟩:=hx i x hi
 ⟨es,h1,h2,Rep.mono h.O h.heap h3⟩
theorem Ents.mono {w w':World} {O O':Nat→Prop} (hO:∀ b,b < w.heap.size→¬ O b→¬ O' b) (hw:∀ b,b < w.heap.size→¬ O b→w'.heap[b]?=w.heap[b]?) {k v:Ty} :
  ∀ {es:List MapEntry} {l:List (k.den×v.den)},Ents w O k v es l→Ents w' O' k v es l
 | [],[],h=>h
 | [],_ :: _,h=>h.elim
 | _ :: _,[],h=>h.elim
 | _ :: _,_ :: _,⟨h1,h2,h3⟩=>⟨h1.mono hO hw,h2.mono hO hw,h3.mono hO hw⟩
theorem ownsRow_keeps {w w':World} {et:TypeId} {sz n:Nat} {loc:Value} {cells:List Value} (hb:∀ b,blk loc=some b→w'.heap[b]?=w.heap[b]?) (h:w.ownsRow 0 et sz loc n cells):w'.ownsRow 0 et sz loc n cells:=by
 obtain ⟨h1,h2⟩:=h
 refine ⟨h1,?_⟩
 rcases h2 with h2 | ⟨g,cap,cur,rfl,r1,r2,r3⟩
 ·exact .inl h2
 ·exact .inr ⟨g,cap,cur,rfl,r1,(hb g rfl).trans r2,r3⟩
theorem ArrR.keeps {V V':Vw} (h:Keeps V V') {et:TypeId} {e:Ty} {xs:List e.den} {loc:Value} (hb:∀ b,blk loc=some b→V'.w.heap[b]?=V.w.heap[b]?) (hx:ArrR V et e xs loc):ArrR V' et e xs loc:=by
 obtain ⟨hm,cells,h1,he⟩:=hx
 exact ⟨hm,cells,ownsRow_keeps hb h1,he.keeps h⟩
theorem RowR.keeps {V V':Vw} (h:Keeps V V') {iet:TypeId} {k e:Ty} {hole:Bool} {cells:List Value} {i:Nat} {x:k.den×List e.den} {u:Value} (hb:∀ b,blk u=some b→V'.w.heap[b]?=V.w.heap[b]?) (hx:RowR V iet k e hole cells i x u):RowR V' iet k e hole cells i x u:=by
 obtain ⟨c1,v,h1,h2,h3⟩:=hx
 refine ⟨c1,v,h1,Rep.mono h.O h.heap h2,?_⟩
 rcases h3 with h3 | ⟨h3,h4,h5⟩
 ·exact .inl h3
 ·exact .inr ⟨h3,h4,h5.keeps h hb⟩
theorem bk_tuple {o:Value} {ins:List Value} {b:Nat}:bk (.tuple (o :: ins).toArray) b↔blk o=some b∨∃ (i:Nat) (u:Value),ins[i]?=some u∧blk u=some b:=by
 constructor
 ·rintro (h | ⟨vs,h,x,hx,hb⟩)
  ·cases h
  ·injection h with h
   subst h
   simp only [List.mem_cons] at hx
   rcases hx with rfl | hx
   ·exact .inl hb
   ·obtain ⟨i,hi⟩:=List.getElem?_of_mem hx
    exact .inr ⟨i,x,hi,hb⟩
 ·rintro (h | ⟨i,u,hi,hb⟩)
  ·exact .inr ⟨_,rfl,o,by simp,h⟩
  ·exact .inr ⟨_,rfl,u,by simp [List.mem_of_getElem? hi],hb⟩
theorem Shp.bk {loc o:Value} {ins:List Value} {b:Nat} (h:Shp loc o ins):bk loc b↔bk (.tuple (o :: ins).toArray) b:=by
 rcases h with rfl | ⟨rfl,rfl,rfl⟩
 ·exact Iff.rfl
 ·rw [bk_tuple,bk_slice]
  simp [blk]
theorem Shp.plc {loc o:Value} {ins:List Value} (h:Shp loc o ins):plc loc=o:=by
 rcases h with rfl | ⟨rfl,rfl,rfl⟩<;>rfl
theorem Shp.tup {loc o:Value} {ins:List Value} {vs:Array Value} (h:Shp loc o ins) (hv:loc=.tuple vs):vs=(o :: ins).toArray:=by
 subst hv
 rcases h with h | ⟨h,_⟩
 ·injection h
 ·cases h
theorem NestR.keeps {V V':Vw} (h:Keeps V V') {et iet:TypeId} {k e:Ty} {xs:List (k.den×List e.den)} {hl:Option Nat} {o:Value} {ins cells:List Value} (hb:∀ b,bk (.tuple (o :: ins).toArray) b→V'.w.heap[b]?=V.w.heap[b]?) (hx:NestR V et iet k e xs hl o ins cells):NestR V' et iet k e xs hl o ins cells :=
 ⟨hx.max,hx.len,ownsRow_keeps (fun b h1=>hb b (bk_tuple.2 (.inl h1))) hx.own,fun i x u h1 h2=>(hx.row i x u h1 h2).keeps h (fun b h3=>hb b (bk_tuple.2 (.inr ⟨i,u,h2,h3⟩))),hx.dist,hx.out⟩
theorem ownsRow_lt {w:World} {et:TypeId} {sz n b:Nat} {loc:Value} {cells:List Value} (h:w.ownsRow 0 et sz loc n cells) (hb:blk loc=some b):b < w.heap.size:=by
 rcases h.2 with ⟨rfl,_⟩ | ⟨g,cap,cur,rfl,r1,r2,r3⟩
 ·simp [blk] at hb
 ·simp [blk] at hb;subst hb;exact lt_of_block' r2
theorem NestR.block_lt {V:Vw} {et iet:TypeId} {k e:Ty} {xs:List (k.den×List e.den)} {hl:Option Nat} {o:Value} {ins cells:List Value} (hx:NestR V et iet k e xs hl o ins cells) {b:Nat} (hb:bk (.tuple (o :: ins).toArray) b):b < V.w.heap.size:=by
 rcases bk_tuple.1 hb with h1 | ⟨i,u,h1,h2⟩
 ·exact ownsRow_lt hx.own h1
 ·have hi:i < xs.length:=by have:=(List.getElem?_eq_some_iff.1 h1).1;rw [hx.len] at this;exact this
  obtain ⟨c1,v,_,_,h3⟩:=hx.row i xs[i] u (List.getElem?_eq_getElem hi) h1
  rcases h3 with ⟨_,h3⟩ | ⟨_,_,_,ic,h3,_⟩
  ·rw [h3] at h2;simp [blk] at h2
  ·exact ownsRow_lt h3 h2
theorem ObjR.keeps {V V':Vw} (h:Keeps V V') {o:Obj} {loc:Value} (hb:∀ b,bk loc b→V'.w.heap[b]?=V.w.heap[b]?) (hx:ObjR V o loc):ObjR V' o loc:=by
 cases o with
 | arr et e xs =>
  obtain ⟨hm,cells,⟨h1,h2⟩,he⟩:=hx
  refine ⟨hm,cells,⟨h1,?_⟩,he.keeps h⟩
  rcases h2 with h2 | ⟨g,cap,cur,rfl,r1,r2,r3⟩
  ·exact .inl h2
  ·exact .inr ⟨g,cap,cur,rfl,r1,(hb g (.inl rfl)).trans r2,r3⟩
 | box et st fs =>
  obtain ⟨h0,b,cs,rfl,h1,h2⟩:=hx
  exact ⟨h0,b,cs,rfl,(hb b (.inl rfl)).trans h1,h2.keeps h⟩
 | nest et iet k e xs hl =>
  obtain ⟨o,ins,cells,hs,h1⟩:=hx
  exact ⟨o,ins,cells,hs,h1.keeps h fun b hb'=>hb b (hs.bk.2 hb')⟩
 | mapo k v l =>
  obtain ⟨b,es,cl,rfl,h1,h2⟩:=hx
  exact ⟨b,es,cl,rfl,(hb b (.inl rfl)).trans h1,h2.mono h.O h.heap⟩
 | frame tm fs =>
  obtain ⟨h0,h1⟩:=hx
  exact ⟨h0,fun s x hs=>(h1 s x hs).keeps h⟩
 | loop L =>
  obtain ⟨b,rfl,h1⟩:=hx
  exact ⟨b,rfl,(hb b (.inl rfl)).trans h1⟩
 | dfr =>
  obtain ⟨b,rfl,h1⟩:=hx
  exact ⟨b,rfl,(hb b (.inl rfl)).trans h1⟩
theorem ObjR.block_lt {V:Vw} {o:Obj} {loc:Value} (hx:ObjR V o loc) {b:Nat} (hb:bk loc b):b < V.w.heap.size:=by
 cases o with
 | arr et e xs =>
  obtain ⟨hm,cells,⟨h1,h2⟩,he⟩:=hx
  rcases h2 with ⟨rfl,_⟩ | ⟨g,cap,cur,rfl,r1,r2,r3⟩
  ·simp [bk,blk] at hb
  ·simp [bk,blk] at hb;subst hb;exact lt_of_block' r2
 | box et st fs =>
  obtain ⟨h0,b',cs,rfl,h1,h2⟩:=hx
  simp [bk,blk] at hb;subst hb;exact lt_of_block' h1
 | nest et iet k e xs hl =>
  obtain ⟨o,ins,cells,hs,h1⟩:=hx
  exact h1.block_lt (hs.bk.1 hb)
 | mapo k v l =>
  obtain ⟨b',es,cl,rfl,h1,h2⟩:=hx
  simp [bk,blk] at hb;subst hb;exact lt_of_block' h1
 | frame tm fs =>
  obtain ⟨rfl,h1⟩:=hx
  simp [bk,blk] at hb
 | loop L =>
  obtain ⟨b',rfl,h1⟩:=hx
  simp [bk,blk] at hb;subst hb;exact lt_of_block' h1
 | dfr =>
  obtain ⟨b',rfl,h1⟩:=hx
  simp [bk,blk] at hb;subst hb;exact lt_of_block' h1
/-! ### Lookups -/
section
variable {α:Type}
theorem lk_append (k:Nat):∀ (l r:List (Nat×α)),lk k (l++r)=(lk k l).or (lk k r)
 | [],_=>by simp [lk]
 | (j,v) :: l,r=>by
  simp only [List.cons_append,lk]
  split
  ·simp
  ·exact lk_append k l r
theorem lk_upd (k n:Nat) (u:α):∀ l:List (Nat×α),lk k (upd n u l)=if k=n then (lk n l).map (fun _=>u) else lk k l
 | []=>by simp [lk,upd]
 | (j,v) :: l=>by
  simp only [upd]
  by_cases hn:n=j
  ·subst hn
   by_cases hk:k=n
   ·subst hk;simp [lk]
   ·simp [lk,hk,lk_upd k n u l]
  ·simp only [if_neg hn,lk]
   by_cases hk:k=n
   ·subst hk;simp [hn,lk_upd k k u l]
   ·by_cases hkj:k=j
    ·subst hkj;simp [hk]
    ·simp [hk,hkj,lk_upd k n u l]
theorem lk_del (k n:Nat):∀ l:List (Nat×α),lk k (del n l)=if k=n then none else lk k l
 | []=>by simp [lk,del]
 | (j,v) :: l=>by
  simp only [del]
  by_cases hn:n=j
  ·subst hn
   rw [if_pos rfl,lk_del k n l]
   by_cases hk:k=n<;>simp [lk,hk]
  ·rw [if_neg hn]
   simp only [lk,lk_del k n l]
   by_cases hk:k=n
   ·subst hk;simp [hn]
   ·simp [hk]
end
end Go.Proofs.Ytebfihindnhccaa.Fw
end
/- A step that only adds: the abstract state holds behind it. -/
section
namespace Go.Proofs.Ytebfihindnhccaa.Fw
open Go Go.RowKit
def plus (σ:St) (obs:List (Nat×Obj)):St:=⟨σ.env,obs++σ.objs⟩
structure QS (w:World) (O0:Nat→Prop) (σ:St) (ρ:Nat→Value) (v:AV) (obs:List (Nat×Obj)) (u:Value) (ρ':Nat→Value) (w':World):Prop where
 below:Below w.heap.size w w'
 rho:∀ n,lk n obs=none→ρ' n=ρ n
 av:AVR (vw w' O0 (plus σ obs) ρ') v u
 obj:∀ n o,lk n obs=some o→ObjR (vw w' O0 (plus σ obs) ρ') o (ρ' n)
 new:∀ n o b,lk n obs=some o→bk (ρ' n) b→w.heap.size≤b
 dist:∀ n m o o' b,lk n obs=some o→lk m obs=some o'→bk (ρ' n) b→bk (ρ' m) b→n=m
theorem lk_mem {α:Type} {k:Nat} {v:α}:∀ {l:List (Nat×α)},lk k l=some v→(k,v)∈l
 | (j,u) :: l,h=>by
  simp only [lk] at h
  split at h
  ·rename_i e;cases h;subst e;simp
  ·exact List.mem_cons_of_mem _ (lk_mem h)
theorem fresh_spec {obs:List (Nat×Obj)} {σ:St} (h:fresh obs σ=true) {n:Nat} {o:Obj} (hn:lk n obs=some o):lk n σ.objs=none:=by
 simp only [fresh,List.all_eq_true] at h
 simpa using h _ (lk_mem hn)
theorem liv_plus {σ:St} {obs:List (Nat×Obj)} {n:Nat} (h:liv (plus σ obs) n):(∃ o,lk n obs=some o)∨(lk n obs=none∧liv σ n):=by
 obtain ⟨o,h⟩:=h
 simp only [plus,lk_append] at h
 cases h':lk n obs with
 | some o'=>exact .inl ⟨o',rfl⟩
 | none=>rw [h'] at h;exact .inr ⟨rfl,o,by simpa using h⟩
theorem liv_old {σ:St} {obs:List (Nat×Obj)} (hf:fresh obs σ=true) {n:Nat} (h:liv σ n):liv (plus σ obs) n∧lk n obs=none:=by
 obtain ⟨o,h⟩:=h
 have hn:lk n obs=none:=by
  cases h':lk n obs with
  | none=>rfl
  | some o'=>have:=fresh_spec hf h';rw [this] at h;cases h
 exact ⟨⟨o,by simp [plus,lk_append,hn,h]⟩,hn⟩
theorem keeps_plus {w w':World} {O0:Nat→Prop} {σ:St} {ρ ρ':Nat→Value} {obs:List (Nat×Obj)} (hf:fresh obs σ=true)
  (hb:Below w.heap.size w w') (hr:∀ n,lk n obs=none→ρ' n=ρ n) (hn:∀ n o b,lk n obs=some o→bk (ρ' n) b→w.heap.size≤b) :
  Keeps (vw w O0 σ ρ) (vw w' O0 (plus σ obs) ρ') where
 O:=by
  intro b hlt hO hO'
  rcases hO' with h0 | ⟨n,hl,hb'⟩
  ·exact hO (.inl h0)
  ·rcases liv_plus hl with ⟨o,ho⟩ | ⟨hno,hl'⟩
   ·have:=hn n o b ho hb'
    have hlt:b < w.heap.size:=hlt
    omega
   ·exact hO (.inr ⟨n,hl',by rw [← hr n hno];exact hb'⟩)
 L:=fun n h=>(liv_old hf h).1
 ρ:=fun n h=>hr n (liv_old hf h).2
 heap:=fun b hlt _=>hb.block b hlt
theorem QS.keeps {w w':World} {O0:Nat→Prop} {σ:St} {ρ ρ':Nat→Value} {v:AV} {u:Value} {obs:List (Nat×Obj)} (hf:fresh obs σ=true) (h:QS w O0 σ ρ v obs u ρ' w') :
  Keeps (vw w O0 σ ρ) (vw w' O0 (plus σ obs) ρ'):=keeps_plus hf h.below h.rho h.new
theorem Frm.below {K:Nat→Prop} {w0 w w':World} (h:Frm K w0 w) (hb:Below w.heap.size w w') (hK:∀ b,K b→b < w0.heap.size):Frm K w0 w' where
 os:=hb.os.trans h.os
 tape:=hb.tape.trans h.tape
 output:=hb.output.trans h.output
 size:=Nat.le_trans h.size hb.size
 block:=fun k hk=>(hb.block k (Nat.lt_of_lt_of_le (hK k hk) h.size)).trans (h.block k hk)
theorem put_size (a:Act) (dst:Option Tmp) (u:Value):(a.put dst u).tmps.size=a.tmps.size:=by
 cases dst<;>simp [Act.put]
theorem put_defers (a:Act) (dst:Option Tmp) (u:Value):(a.put dst u).defers=a.defers:=by cases dst<;>rfl
theorem put_get (a:Act) (d:Nat) (u:Value) (s:Nat) (hd:d < a.tmps.size):(a.put (some d) u).tmps.getD s undef=if s=d then u else a.tmps.getD s undef:=by
 by_cases h:s=d
 ·subst h;simp [Act.put,hd]
 ·have:¬ d=s:=fun e=>h e.symm
  simp [Act.put,h,this,Array.getElem?_setIfInBounds]
theorem SatR.add {w0:World} {K O0:Nat→Prop} {nt:Nat} {ds:Fp} {σ:St} {ρ:Nat→Value} {a:Act} {w:World} (h:SatR w0 K O0 nt ds σ ρ a w)
  (hK:∀ b,K b→b < w0.heap.size) (hO:∀ b,O0 b→b < w0.heap.size) {dst:Option Nat} (hd:∀ d,dst=some d→d < nt)
  {v:AV} {obs:List (Nat×Obj)} {u:Value} {ρ':Nat→Value} {w':World} (hf:fresh obs σ=true) (hq:QS w O0 σ ρ v obs u ρ' w') :
  SatR w0 K O0 nt ds (σ.add v obs dst) ρ' (a.put dst u) w':=by
 have hk:=hq.keeps hf
 have hobjs:(σ.add v obs dst).objs=obs++σ.objs:=by cases dst<;>rfl
 have hliv:∀ n,liv (σ.add v obs dst) n↔liv (plus σ obs) n:=fun n=>by simp [liv,hobjs,plus]
 have hvw:vw w' O0 (σ.add v obs dst) ρ'=vw w' O0 (plus σ obs) ρ':=by
  have hl:liv (σ.add v obs dst)=liv (plus σ obs):=funext fun n=>propext (hliv n)
  have ho:own O0 (σ.add v obs dst) ρ'=own O0 (plus σ obs) ρ':=by
   funext b
   simp only [own,hl]
  simp only [vw,hl,ho]
 refine ⟨h.frm.below hq.below hK,by rw [put_size];exact h.nt,by rw [put_defers];exact h.defers,fun p hp=>?_,?_,?_,?_,?_⟩
 ·obtain ⟨h1,h2,h3⟩:=h.pin p hp
  have h4:=liv_old hf h1
  exact ⟨(hliv p.1).2 h4.1,(hq.rho _ h4.2).trans h2,h3⟩
 ·intro n o ho
  rw [hobjs,lk_append] at ho
  rw [hvw]
  cases h':lk n obs with
  | some o'=>rw [h'] at ho;cases ho;exact hq.obj n _ h'
  | none =>
   rw [h'] at ho
   have ho':lk n σ.objs=some o:=by simpa using ho
   rw [hq.rho n h']
   refine (h.objs n o ho').keeps hk fun b hb=>?_
   exact hq.below.block b ((h.objs n o ho').block_lt hb)
 ·intro n b hl hb
  rcases liv_plus ((hliv n).1 hl) with ⟨o,ho⟩ | ⟨hno,hl'⟩
  ·have hge:=hq.new n o b ho hb
   have:=h.frm.size
   exact ⟨fun hk'=>by have:=hK b hk';omega,fun hk'=>by have:=hO b hk';omega⟩
  ·rw [hq.rho n hno] at hb
   exact h.free n b hl' hb
 ·intro n m b hl hl' hb hb'
  rcases liv_plus ((hliv n).1 hl) with ⟨o,ho⟩ | ⟨hno,hn⟩<;>rcases liv_plus ((hliv m).1 hl') with ⟨o',ho'⟩ | ⟨hno',hn'⟩
  ·exact hq.dist n m o o' b ho ho' hb hb'
  ·have h1:=hq.new n o b ho hb
   rw [hq.rho m hno'] at hb'
   obtain ⟨o2,h2⟩:=hn'
   have:=(h.objs m o2 h2).block_lt hb'
   have:b < w.heap.size:=this
   omega
  ·have h1:=hq.new m o' b ho' hb'
   rw [hq.rho n hno] at hb
   obtain ⟨o2,h2⟩:=hn
   have:=(h.objs n o2 h2).block_lt hb
   have:b < w.heap.size:=this
   omega
  ·rw [hq.rho n hno] at hb
   rw [hq.rho m hno'] at hb'
   exact h.dist n m b hn hn' hb hb'
 ·intro s x hs
  rw [hvw]
  cases dst with
  | none=>exact (h.env s x hs).keeps hk
  | some d =>
   simp only [St.add,lk] at hs
   rw [put_get a d u s (by rw [h.nt];exact hd d rfl)]
   split at hs
   ·rename_i e;cases hs;rw [if_pos e];exact hq.av
   ·rename_i e;rw [if_neg e];exact (h.env s x hs).keeps hk
theorem QS.still {w:World} {O0:Nat→Prop} {σ:St} {ρ:Nat→Value} {v:AV} {u:Value} (h:AVR (vw w O0 σ ρ) v u):QS w O0 σ ρ v [] u ρ w where
 below:=Below.refl _ _
 rho:=fun _ _=>rfl
 av:=h
 obj:=fun _ _ h=>by cases h
 new:=fun _ _ _ h=>by cases h
 dist:=fun _ _ _ _ _ h=>by cases h
def upρ (ρ:Nat→Value) (n:Nat) (x:Value):Nat→Value:=fun m=>if m=n then x else ρ m
theorem upρ_same (ρ:Nat→Value) (n:Nat) (x:Value):upρ ρ n x n=x:=by simp [upρ]
theorem QS.one {w w':World} {O0:Nat→Prop} {σ:St} {ρ:Nat→Value} {v:AV} {u loc:Value} {n:Nat} {o:Obj} (hb:Below w.heap.size w w')
  (hnew:∀ b,bk loc b→w.heap.size≤b)
  (hav:AVR (vw w' O0 (plus σ [(n,o)]) (upρ ρ n loc)) v u)
  (hobj:ObjR (vw w' O0 (plus σ [(n,o)]) (upρ ρ n loc)) o loc):QS w O0 σ ρ v [(n,o)] u (upρ ρ n loc) w' where
 below:=hb
 rho:=fun m hm=>by
  simp only [lk] at hm
  split at hm
  ·cases hm
  ·rename_i e;simp [upρ,e]
 av:=hav
 obj:=fun m o' hm=>by
  simp only [lk] at hm
  split at hm
  ·rename_i e;cases hm;subst e;rw [upρ_same];exact hobj
  ·cases hm
 new:=fun m o' b hm hb'=>by
  simp only [lk] at hm
  split at hm
  ·rename_i e;subst e;rw [upρ_same] at hb';exact hnew b hb'
  ·cases hm
 dist:=fun m m' o1 o2 b h1 h2 _ _=>by
  simp only [lk] at h1 h2
  split at h1
  ·split at h2
   ·omega
   ·cases h2
  ·cases h1
end Go.Proofs.Ytebfihindnhccaa.Fw
end
/- What the executor reads off an abstract value is so. -/
section
namespace Go.Proofs.Ytebfihindnhccaa.Fw
open Go Go.RowKit
theorem castTo_some {t:Ty} {p:PV} {d:t.den} (h:castTo t p=some d):p=⟨t,d⟩:=by
 obtain ⟨u,x⟩:=p
 simp only [castTo] at h
 split at h
 ·rename_i e
  subst e
  simpa using h
 ·cases h
theorem castTo_slice {e e':Ty} {xs:List e'.den} {ys:List e.den} (h:castTo (.slice e) ⟨.slice e',xs⟩=some ys):e'=e∧HEq xs ys:=by
 have h':=castTo_some h
 injection h' with h1 h2
 injection h1 with h1
 exact ⟨h1,h2⟩
theorem sub_length {α:Type} (xs:List α) {lo hi:Nat} (h:hi≤xs.length):(sub xs lo hi).length=hi - lo:=by
 simp [sub];omega
theorem sub_get {α:Type} (xs:List α) (lo hi i:Nat) {x:α} (h:(sub xs lo hi)[i]?=some x):xs[lo + i]?=some x∧i < hi - lo:=by
 simp only [sub,List.getElem?_take,List.getElem?_drop] at h
 split at h
 ·rename_i hi';exact ⟨h,hi'⟩
 ·cases h
theorem row_rep {w:World} {O':Nat→Prop} {et:TypeId} {e:Ty} {xs:List e.den} {loc v:Value} {cells:List Value} {lo hi:Nat} (hsr:∀ b,blk loc=some b→¬ O' b)
  (hm:xs.length≤maxN) (how:w.ownsRow 0 et e.size loc xs.length cells) (hel:Elems w O' e cells xs) (hv:SliceV loc e.size lo hi v):Rep w O' (.slice e) [v] (sub xs lo hi):=by
 obtain ⟨a,m,c,hloc,hlo,hhi,a',c',rfl,hc',h0,h1⟩:=hv
 have hmx:m=xs.length:=by
  rcases how.2 with ⟨he,hn⟩ | ⟨g,cap,cur,he,_⟩
  ·rw [hloc] at he;injection he;omega
  ·rw [hloc] at he;injection he
 subst hmx
 have hl:=sub_length xs (lo:=lo) hhi
 refine ⟨a',c',by rw [hl],by rw [hl];exact hc',by rw [hl];omega,?_⟩
 by_cases hlt:lo < hi
 ·right
  rcases how.2 with ⟨he,hn⟩ | ⟨g,cap,cur,he,r⟩
  ·omega
  ·have hcell:=World.ownsRow.cells how (g:=g) (by rw [he];rfl)
   have ha:a=some ⟨g,0,none⟩:=by rw [hloc] at he;injection he
   subst ha
   refine ⟨_,h1 hlt,hsr _ (by rw [he];simp only [blk,block_of_add]),fun i x hi'=>?_⟩
   obtain ⟨hx,hlt'⟩:=sub_get xs lo hi i hi'
   obtain ⟨es,hes,hc,hr⟩:=hel (lo + i) x hx
   refine ⟨es,hes,fun j u hj=>?_,hr⟩
   have:=hcell _ u (hc j u hj)
   rw [add_of_add]
   rwa [Nat.add_mul,Nat.add_assoc] at this
 ·left
  have:(sub xs lo hi).length=0:=by rw [hl];omega
  exact List.eq_nil_of_length_eq_zero this
theorem own_plc {w:World} {base:Nat} {et:TypeId} {sz n:Nat} {s:Value} {xs:List Value} (h:w.ownsRow base et sz s n xs):plc s=s:=by
 rcases h.2 with ⟨rfl,_⟩ | ⟨g,cap,cur,rfl,_⟩<;>rfl
theorem arr_plc {V:Vw} {et:TypeId} {e:Ty} {xs:List e.den} {loc:Value} (h:ObjR V (.arr et e xs) loc):plc loc=loc:=by
 obtain ⟨_,_,h,_⟩:=h
 exact own_plc h
theorem sr_rep {V:Vw} {O':Nat→Prop} (hO:∀ b,¬ V.O b→¬ O' b) {et:TypeId} {e:Ty} {xs:List e.den} {loc v:Value} {lo hi:Nat} (hsr:∀ b,blk loc=some b→¬ O' b)
  (ho:ObjR V (.arr et e xs) loc) (hv:SliceV (plc loc) e.size lo hi v):Rep V.w O' (.slice e) [v] (sub xs lo hi):=by
 rw [arr_plc ho] at hv
 obtain ⟨hm,cells,how,hel⟩:=ho
 exact row_rep hsr hm how (fun i x hi=>let ⟨es,h1,h2,h3⟩:=hel i x hi;⟨es,h1,h2,h3.mono (fun b _ hb=>hO b hb) (fun _ _ _=>rfl)⟩) hv
theorem own_whole {w:World} {et:TypeId} {sz n:Nat} {s:Value} {xs:List Value} (h:w.ownsRow 0 et sz s n xs):SliceV s sz 0 n s:=by
 rcases h.2 with ⟨rfl,hn⟩ | ⟨g,cap,cur,rfl,_,_,hcap,_⟩
 ·exact ⟨none,0,0,rfl,by omega,by omega,none,0,by rw [hn],by omega,fun _=>⟨rfl,rfl⟩,fun h=>by omega⟩
 ·exact ⟨some ⟨g,0,none⟩,n,cap,rfl,by omega,by omega,some ⟨g,0,none⟩,cap,by simp,by omega,fun _=>⟨rfl,rfl⟩,fun _=>by simp [add_zero']⟩
theorem arr_whole {V:Vw} {O':Nat→Prop} (hO:∀ b,¬ V.O b→¬ O' b) {et:TypeId} {e:Ty} {xs:List e.den} {u:Value} (hsr:∀ b,blk u=some b→¬ O' b) (h:ArrR V et e xs u):Rep V.w O' (.slice e) [u] xs:=by
 have h1:=h
 obtain ⟨_,_,how,_⟩:=h1
 have:=sr_rep (V:=V) hO hsr (et:=et) (e:=e) (xs:=xs) (loc:=u) h (by rw [own_plc how];exact own_whole how)
 rwa [sub_all] at this
theorem nest_elems {V:Vw} {O':Nat→Prop} (hO:∀ b,¬ V.O b→¬ O' b) {et iet:TypeId} {k e:Ty} {xs:List (k.den×List e.den)} {o:Value} {ins cells:List Value} (h:NestR V et iet k e xs none o ins cells)
  (hsr:∀ (i b:Nat) (u:Value),ins[i]?=some u→blk u=some b→¬ O' b):Elems V.w O' (.agg (.prod k (.slice e))) cells xs:=by
 intro i x hi
 have hlt:i < ins.length:=by rw [h.len];exact (List.getElem?_eq_some_iff.1 hi).1
 obtain ⟨c1,v,h1,h2,h3⟩:=h.row i x ins[i] hi (List.getElem?_eq_getElem hlt)
 rcases h3 with ⟨h3,_⟩ | ⟨_,rfl,h4⟩
 ·cases h3
 ·have hr:=arr_whole hO (fun b hb=>hsr i b _ (List.getElem?_eq_getElem hlt) hb) h4
  refine ⟨c1++[ins[i]],by simp [Ty.size,h2.length],h1,?_⟩
  exact (⟨c1,[ins[i]],rfl,h2.mono (fun b _ hb=>hO b hb) (fun _ _ _=>rfl),hr⟩:Rep V.w O' (.prod k (.slice e)) _ x)
theorem nest_rep {V:Vw} {O':Nat→Prop} (hO:∀ b,¬ V.O b→¬ O' b) {et iet:TypeId} {k e:Ty} {xs:List (k.den×List e.den)} {loc v:Value} {lo hi:Nat} (hsr:∀ b,bk loc b→¬ O' b)
  (ho:ObjR V (.nest et iet k e xs none) loc) (hv:SliceV (plc loc) (k.size + 1) lo hi v):Rep V.w O' (.slice (.agg (.prod k (.slice e)))) [v] (sub (α:=k.den×List e.den) xs lo hi):=by
 obtain ⟨o,ins,cells,hs,h⟩:=ho
 rw [hs.plc] at hv
 exact row_rep (e:=.agg (.prod k (.slice e))) (xs:=xs) (fun b hb=>hsr b (hs.bk.2 (bk_tuple.2 (.inl hb)))) h.max h.own (nest_elems hO h fun i b u h1 h2=>hsr b (hs.bk.2 (bk_tuple.2 (.inr ⟨i,u,h1,h2⟩)))) hv
theorem place_row {V:Vw} {ob:Obj} {loc:Value} {a:Option Addr} {m c:Nat} (ho:ObjR V ob loc) (h:plc loc=.slice a m c):∃ et sz cells,V.w.ownsRow 0 et sz (.slice a m c) m cells∧m≤maxN:=by
 cases ob with
 | arr et e xs =>
  have h1:=arr_plc ho
  obtain ⟨hm,cells,how,_⟩:=ho
  rw [h1] at h
  subst h
  have hm':m=xs.length:=by
   rcases how.2 with ⟨he,hn⟩ | ⟨g,cap,cur,he,_⟩
   ·injection he;omega
   ·injection he
  subst hm'
  exact ⟨et,_,cells,how,hm⟩
 | nest et iet k e xs hl =>
  obtain ⟨o,ins,cells,hs,hN⟩:=ho
  rw [hs.plc] at h
  subst h
  have how:=hN.own
  have hm':m=xs.length:=by
   rcases how.2 with ⟨he,hn⟩ | ⟨g,cap,cur,he,_⟩
   ·injection he;omega
   ·injection he
  subst hm'
  exact ⟨et,_,cells,how,hN.max⟩
 | box et st fs=>obtain ⟨_,b,cs,rfl,_⟩:=ho;cases h
 | mapo k v l=>obtain ⟨b,_,_,rfl,_⟩:=ho;cases h
 | frame tm fs=>obtain ⟨rfl,_⟩:=ho;cases h
 | loop L=>obtain ⟨b,rfl,_⟩:=ho;cases h
 | dfr=>obtain ⟨b,rfl,_⟩:=ho;cases h
theorem nest_view {V V':Vw} (hw:V'.w=V.w) (hO:V'.O=V.O) {et iet:TypeId} {k e:Ty} {xs:List (k.den×List e.den)} {h:Option Nat} {loc:Value} (ho:ObjR V (.nest et iet k e xs h) loc):ObjR V' (.nest et iet k e xs h) loc:=by
 obtain ⟨o,ins,cells,hl,hN⟩:=ho
 refine ⟨o,ins,cells,hl,hN.max,hN.len,by rw [hw];exact hN.own,fun i x u h1 h2=>?_,hN.dist,hN.out⟩
 obtain ⟨c1,v,h3,h4,h5⟩:=hN.row i x u h1 h2
 refine ⟨c1,v,h3,by rw [hw,hO];exact h4,?_⟩
 rcases h5 with h5 | ⟨h5,h6,hm,ic,h7,h8⟩
 ·exact .inl h5
 ·exact .inr ⟨h5,h6,hm,ic,by rw [hw];exact h7,by rw [hw,hO];exact h8⟩
theorem nest_mono {V V':Vw} (hw:V'.w=V.w) (hO:∀ b,¬ V.O b→¬ V'.O b) {et iet:TypeId} {k e:Ty} {xs:List (k.den×List e.den)} {h:Option Nat} {loc:Value} (ho:ObjR V (.nest et iet k e xs h) loc):ObjR V' (.nest et iet k e xs h) loc:=by
 obtain ⟨o,ins,cells,hl,hN⟩:=ho
 refine ⟨o,ins,cells,hl,hN.max,hN.len,by rw [hw];exact hN.own,fun i x u h1 h2=>?_,hN.dist,hN.out⟩
 obtain ⟨c1,v,h3,h4,h5⟩:=hN.row i x u h1 h2
 refine ⟨c1,v,h3,h4.mono (fun b _ hb=>hO b hb) (fun b _ _=>by rw [hw]),?_⟩
 rcases h5 with h5 | ⟨h5,h6,hm,ic,h7,h8⟩
 ·exact .inl h5
 ·refine .inr ⟨h5,h6,hm,ic,by rw [hw];exact h7,fun i x hi=>?_⟩
  obtain ⟨es,g1,g2,g3⟩:=h8 i x hi
  exact ⟨es,g1,g2,g3.mono (fun b _ hb=>hO b hb) (fun b _ _=>by rw [hw])⟩
theorem nin_get {V:Vw} {et iet:TypeId} {k e:Ty} {xs:List (k.den×List e.den)} {h:Option Nat} {loc v:Value} {vs:Array Value} {i:Nat} {z:k.den×List e.den}
  (ho:ObjR V (.nest et iet k e xs h) loc) (hvs:loc=.tuple vs) (hv:vs[i + 1]?=some v):xs[i]?=some (xs.getD i z):=by
 obtain ⟨o,ins,cells,hs,h⟩:=ho
 obtain rfl:=hs.tup hvs
 have hv:ins[i]?=some v:=by simpa using hv
 have hlt:i < xs.length:=by rw [← h.len];exact (List.getElem?_eq_some_iff.1 hv).1
 rw [List.getElem?_eq_getElem hlt,List.getD_eq_getElem?_getD,List.getElem?_eq_getElem hlt];rfl
theorem own_len {w:World} {base:Nat} {et:TypeId} {sz n m c:Nat} {a:Option Addr} {xs:List Value} (h:w.ownsRow base et sz (.slice a m c) n xs):m=n:=by
 rcases h.2 with ⟨he,hn⟩ | ⟨g,cap,cur,he,_⟩
 ·injection he;omega
 ·injection he
theorem nin_len {V:Vw} {ob:Obj} {loc v:Value} {vs:Array Value} {i len c:Nat} {a:Option Addr} (ho:ObjR V ob loc) (hvs:loc=.tuple vs) (hv:vs[i + 1]?=some v) (hve:v=.slice a len c):len≤maxN:=by
 subst hvs
 cases ob with
 | arr et e xs =>
  obtain ⟨hm,cells,how,_⟩:=ho
  rcases how.2 with ⟨he,_⟩ | ⟨g,cap,cur,he,_⟩<;>cases he
 | nest et iet k e xs hl =>
  obtain ⟨o,ins,cells,hs,hN⟩:=ho
  obtain rfl:=hs.tup rfl
  have hv:ins[i]?=some v:=by simpa using hv
  have hlt:i < xs.length:=by rw [← hN.len];exact (List.getElem?_eq_some_iff.1 hv).1
  obtain ⟨c1,v',h1,h2,h3⟩:=hN.row i xs[i] v (List.getElem?_eq_getElem hlt) hv
  rcases h3 with ⟨_,h3⟩ | ⟨_,rfl,h4,ic,how,_⟩
  ·rw [hve] at h3;injection h3 with h5 h6;omega
  ·rw [hve] at how
   rw [own_len how];exact h4
 | box et st fs=>obtain ⟨_,b,cs,h,_⟩:=ho;cases h
 | mapo k v l=>obtain ⟨b,_,_,h,_⟩:=ho;cases h
 | frame tm fs=>obtain ⟨h,_⟩:=ho;cases h
 | loop L=>obtain ⟨b,h,_⟩:=ho;cases h
 | dfr=>obtain ⟨b,h,_⟩:=ho;cases h
theorem nin_rep {V:Vw} {O':Nat→Prop} (hO:∀ b,¬ V.O b→¬ O' b) {et iet:TypeId} {k e:Ty} {xs:List (k.den×List e.den)} {loc v:Value} {vs:Array Value} {i:Nat} {x:k.den×List e.den} (hsr:∀ b,bk loc b→¬ O' b)
  (ho:ObjR V (.nest et iet k e xs none) loc) (hvs:loc=.tuple vs) (hv:vs[i + 1]?=some v) (hx:xs[i]?=some x):Rep V.w O' (.slice e) [v] x.2:=by
 obtain ⟨o,ins,cells,hs,h⟩:=ho
 obtain rfl:=hs.tup hvs
 have hv:ins[i]?=some v:=by simpa using hv
 obtain ⟨c1,v',h1,h2,h3⟩:=h.row i x v hx hv
 rcases h3 with ⟨h3,_⟩ | ⟨_,rfl,h4⟩
 ·cases h3
 ·exact arr_whole hO (fun b hb=>hsr b (hs.bk.2 (bk_tuple.2 (.inr ⟨i,_,hv,hb⟩)))) h4
section
variable {V:Vw} {O':Nat→Prop} {l:Bool} {σ:St}
theorem asT_c (hO:∀ b,¬ V.O b→¬ O' b) (hsr:l=true→∀ b,¬ O' b) (hobj:∀ n o,lk n σ.objs=some o→ObjR V o (V.ρ n))
  {t:Ty} {x:AV} {d:t.den} {cs:List Value} (h:asT1 l σ t x=some d) (hx:AVC V x cs):Rep V.w O' t cs d:=by
 unfold asT1 at h
 split at h
 ·rename_i u d'
  have:=castTo_some h
  injection this with h1 h2
  subst h1
  cases h2
  have hx:Rep V.w V.O u cs d':=hx
  exact hx.mono (fun b _ hb=>hO b hb) (fun _ _ _=>rfl)
 ·rename_i e n e' lo hi
  split at h
  ·rename_i hc
   obtain ⟨hl',rfl⟩:=hc
   have hl:=hl'
   obtain ⟨v,rfl,_,hL,hv⟩:=hx
   cases hn:lk n σ.objs with
   | none=>rw [hn] at h;simp [srT] at h
   | some o =>
    rw [hn] at h
    cases o with
    | box et st fs=>simp [srT] at h
    | mapo k v l=>simp [srT] at h
    | frame tm fs=>simp [srT] at h
    | loop L=>simp [srT] at h
    | dfr=>simp [srT] at h
    | nest et iet k e2 xs hl =>
     cases hl with
     | some i=>simp [srT] at h
     | none =>
      simp only [srT] at h
      obtain ⟨h1,h2⟩:=castTo_slice h
      subst h1
      cases h2
      exact nest_rep hO (fun b _=>hsr hl' b) (hobj n _ hn) hv
    | arr et e2 xs =>
     simp only [srT] at h
     obtain ⟨h1,h2⟩:=castTo_slice h
     subst h1
     cases h2
     exact sr_rep hO (fun b _=>hsr hl b) (hobj n _ hn) hv
  ·cases h
 ·rename_i e n e' i len
  split at h
  ·rename_i hc
   obtain ⟨hl,rfl⟩:=hc
   obtain ⟨v,rfl,_,hL,vs,a,c,hvs,hvi,_⟩:=hx
   cases hn:lk n σ.objs with
   | none=>rw [hn] at h;simp [ninT] at h
   | some o =>
    rw [hn] at h
    unfold ninT at h
    split at h
    ·rename_i et iet k e2 xs ho
     cases ho
     obtain ⟨h1,h2⟩:=castTo_slice h
     subst h1
     cases h2
     exact nin_rep hO (fun b _=>hsr hl b) (hobj n _ hn) hvs hvi (nin_get (hobj n _ hn) hvs hvi)
    ·cases h
  ·cases h
 ·obtain ⟨v,rfl,_,hv⟩:=hx
  have hv:v=_:=hv
  subst hv
  cases h
  exact ⟨none,0,rfl,by simp,by simp [maxN],.inl rfl⟩
 ·cases h
theorem asTs_c (hO:∀ b,¬ V.O b→¬ O' b) (hsr:l=true→∀ b,¬ O' b) (hobj:∀ n o,lk n σ.objs=some o→ObjR V o (V.ρ n)) :
  ∀ {fs:List AV} {t:Ty} {d:t.den} {cs:List Value},asTs l σ fs t=some d→AVCs V fs cs→Rep V.w O' t cs d
 | [],t,d,cs,h,hx=>by simp [asTs] at h
 | [x],t,d,cs,h,hx=>by
  obtain ⟨c1,c2,rfl,h1,h2⟩:=hx
  have h2:c2=[]:=h2
  subst h2
  rw [List.append_nil]
  simp only [asTs] at h
  exact asT_c hO hsr hobj h h1
 | x :: y :: r,t,d,cs,h,hx=>by
  obtain ⟨c1,c2,rfl,h1,h2⟩:=hx
  cases t
  case prod a b =>
   simp only [asTs] at h
   cases e1:asT1 l σ a x with
   | none=>rw [e1] at h;simp [pairO] at h
   | some d1 =>
    cases e2:asTs l σ (y :: r) b with
    | none=>rw [e1,e2] at h;simp [pairO] at h
    | some d2 =>
     rw [e1,e2] at h
     simp only [pairO] at h
     cases h
     exact ⟨c1,c2,rfl,asT_c hO hsr hobj e1 h1,asTs_c hO hsr hobj e2 h2⟩
  all_goals simp [asTs] at h
theorem av_cell {t:Ty} {x:AV} {d:t.den} {v:Value} (h:asT1 l σ t x=some d) (hp:∀ u d',x≠.p u d') (hx:AVR V x v):AVC V x [v]∧t.wrap [v]=v:=by
 unfold asT1 at h
 split at h
 ·exact absurd rfl (hp _ _)
 ·obtain ⟨hL,a,m,c,_,_,_,a',c',rfl,_⟩:=hx
  refine ⟨⟨_,rfl,rfl,?_⟩,rfl⟩
  exact ⟨hL,a,m,c,by assumption,by assumption,by assumption,a',c',rfl,by assumption⟩
 ·obtain ⟨hL,vs,a,c,h1,h2,rfl⟩:=hx
  exact ⟨⟨_,rfl,rfl,hL,vs,a,c,h1,h2,rfl⟩,rfl⟩
 ·have hv:v=_:=hx
  subst hv
  exact ⟨⟨_,rfl,rfl,rfl⟩,rfl⟩
 ·cases h
theorem asT_r (hO:∀ b,¬ V.O b→¬ O' b) (hsr:l=true→∀ b,¬ O' b) (hobj:∀ n o,lk n σ.objs=some o→ObjR V o (V.ρ n))
  {t:Ty} {x:AV} {d:t.den} {v:Value} (h:asT l σ t x=some d) (hx:AVR V x v):VRep V.w O' t v d:=by
 unfold asT at h
 split at h
 ·rename_i t fs
  obtain ⟨cs,rfl,hcs⟩:=hx
  exact ⟨cs,(asTs_c hO hsr hobj h hcs:Rep V.w O' t cs d),rfl⟩
 ·by_cases hp:∃ u d',x=.p u d'
  ·obtain ⟨u,d',rfl⟩:=hp
   have h:castTo t ⟨u,d'⟩=some d:=by simpa only [asT1] using h
   have:=castTo_some h
   injection this with h1 h2
   subst h1
   cases h2
   exact VRep.mono (fun b _ hb=>hO b hb) (fun _ _ _=>rfl) hx
  ·obtain ⟨h1,h2⟩:=av_cell h (fun u d' e=>hp ⟨u,d',e⟩) hx
   exact ⟨[v],asT_c hO hsr hobj h h1,h2.symm⟩
end
end Go.Proofs.Ytebfihindnhccaa.Fw
end
/- The table of types against the program; loads; addresses. -/
section
namespace Go.Proofs.Ytebfihindnhccaa.Fw
open Go Go.RowKit
def zfit:Ty→Value→Bool
 | .agg _,.agg _=>true
 | .agg _,_=>false
 | .prod _ _,_=>false
 | _,.agg _=>false
 | _,_=>true
def PairKey (P : Program) (id : TypeId) (a b : IntKind) : Prop := ∃ f0 f1 : Field, P.underlying id = some (.struct #[f0, f1]) ∧ ((f0.name != "_") = true ∧ (f1.name != "_") = true) ∧ (f0.offset = 0 ∧ f1.offset = 1) ∧ (P.underlying f0.type = some (.int a) ∧ P.underlying f1.type = some (.int b)) ∧ P.stoodInHeld id = false
def KeyFacts (P:Program) (id:TypeId):Ty→Nat→Prop
 | .agg (.prod (.int a) (.int b)),0=>PairKey P id a b
 | _,_=>True
def isI (k:IntKind):Option TypeDesc→Bool
 | some (.int k')=>k == k'
 | _=>false
theorem isI_ok {k:IntKind} {d:Option TypeDesc} (h:isI k d=true):d=some (.int k):=by
 unfold isI at h
 split at h
 ·rw [beq_iff_eq.1 h]
 ·cases h
def pairB (P:Program) (id:TypeId) (a b:IntKind):Option TypeDesc→Bool
 | some (.struct ⟨[f0, f1]⟩) => (f0.name != "_") && (f1.name != "_") && f0.offset == 0 && f1.offset == 1 && isI a (P.underlying f0.type) && isI b (P.underlying f1.type) && P.stoodInHeld id == false
 | _=>false
def keyFB (P:Program) (id:TypeId):Ty→Nat→Bool
 | .agg (.prod (.int a) (.int b)),0=>pairB P id a b (P.underlying id)
 | _,_=>true
theorem keyFB_ok {P:Program} {id:TypeId} {t:Ty} {el:Nat} (h:keyFB P id t el=true):KeyFacts P id t el:=by
 unfold keyFB at h
 unfold KeyFacts
 split at h
 ·unfold pairB at h
  split at h
  ·rename_i f0 f1 hu
   simp only [Bool.and_eq_true,beq_iff_eq] at h
   obtain ⟨⟨⟨⟨⟨⟨h1,h2⟩,h3⟩,h4⟩,h5⟩,h6⟩,h7⟩:=h
   exact ⟨f0,f1,hu,⟨h1,h2⟩,⟨h3,h4⟩,⟨isI_ok h5,isI_ok h6⟩,h7⟩
  ·cases h
 ·trivial
def TIok (P:Program) (tb:Tb) (id:TypeId) (ti:TI):Prop :=
 (((∀ p∈ti.offs,p.2≠0)∧0 < ti.bytes∧KeyFacts P id ti.ty ti.el)∧∃ (i:TypeInfo) (z:Value),P.info? id=some i∧i.size=ti.ty.size∧i.bytes=ti.bytes∧i.zero=some z∧z.cells=ti.ty.zero.toArray) ∧
 match ti.ty with
 | .int k=>P.underlying id=some (.int k)
 | .bool=>P.underlying id=some .bool
 | .str=>P.underlying id=some .string
 | .slice e=>P.underlying id=some (.slice ti.el)∧∃ te,lk ti.el tb.ty=some te∧te.ty=e
 | .agg _=>(∃ fs:Array Field,ti.el=0∧P.underlying id=some (.struct fs)∧ti.offs.map some=fs.toList.map fun f=>(P.info? f.type).map fun i=>(f.offset,i.size)) ∨
   ∃ n e i,ti.el≠0∧P.underlying id=some (.array n e)∧P.info? e=some i∧ti.offs=(List.range n).map fun k=>(k * i.size,i.size)
 | .prod _ _=>False
 | .ref j=>∃ d,P.underlying id=some d∧(match d with | .struct _=>False | .array _ _=>False | _=>True) ∧
   ∀ k e,j=2→ti.offs=[(k,e)]→d=.map k e∧∃ (tk te:TI) (z:Value),lk k tb.ty=some tk∧lk e tb.ty=some te∧(∃ i,P.info? e=some i∧i.zero=some z)∧z.cells=te.ty.zero.toArray∧zfit te.ty z=true
def TbOk (P:Program) (tb:Tb):Prop:=∀ id ti,lk id tb.ty=some ti→TIok P tb id ti
/-! ### The check, by the kernel -/
def sameZ:Value→Value→Bool
 | .int k n,.int k' n'=>k == k' && n == n'
 | .bool a,.bool b=>a == b
 | .string s,.string s'=>s.size == 0 && s'.size == 0
 | .slice none 0 0,.slice none 0 0=>true
 | .pointer none,.pointer none=>true
 | .nilFunc,.nilFunc=>true
 | .map none,.map none=>true
 | _,_=>false
theorem sameZ_eq {a b:Value} (h:sameZ a b=true):a=b:=by
 unfold sameZ at h
 split at h
 ·simp only [Bool.and_eq_true,beq_iff_eq] at h;obtain ⟨rfl,rfl⟩:=h;rfl
 ·simp only [beq_iff_eq] at h;rw [h]
 ·rename_i s s'
  simp only [Bool.and_eq_true,beq_iff_eq] at h
  have:s=s':=by
   obtain ⟨⟨l⟩⟩:=s
   obtain ⟨⟨l'⟩⟩:=s'
   have h1:l.length=0:=h.1
   have h2:l'.length=0:=h.2
   rw [List.eq_nil_of_length_eq_zero h1,List.eq_nil_of_length_eq_zero h2]
  rw [this]
 ·rfl
 ·rfl
 ·rfl
 ·rfl
 ·cases h
def sameZs:List Value→List Value→Bool
 | [],[]=>true
 | a :: l,b :: r=>sameZ a b && sameZs l r
 | _,_=>false
theorem sameZs_eq:∀ {l r:List Value},sameZs l r=true→l=r
 | [],[],_=>rfl
 | a :: l,b :: r,h=>by
  simp only [sameZs,Bool.and_eq_true] at h
  rw [sameZ_eq h.1,sameZs_eq h.2]
 | [],_ :: _,h=>by simp [sameZs] at h
 | _ :: _,[],h=>by simp [sameZs] at h
def infoB (ty:Ty) (bytes:Nat):Option TypeInfo→Bool
 | some i=>i.size == ty.size && i.bytes == bytes && (match i.zero with | some z=>sameZs z.cells.toList ty.zero | none=>false)
 | none=>false
def arrB (offs:List (Nat×Nat)) (n:Nat):Option TypeInfo→Bool
 | some i=>offs == (List.range n).map fun k=>(k * i.size,i.size)
 | none=>false
def mapB2 (e:Nat) (te:Option TI):Option TypeInfo→Bool
 | some i=>match i.zero,te with | some z,some te=>sameZs z.cells.toList te.ty.zero && zfit te.ty z | _,_=>false
 | none=>false
def mapB (P:Program) (tb:Tb) (j:Nat) (d:TypeDesc):List (Nat×Nat)→Bool
 | [(k,e)]=>j != 2 || (match d with | .map k' e'=>k' == k && e' == e && (lk k tb.ty).isSome && mapB2 e (lk e tb.ty) (P.info? e) | _=>false)
 | _=>true
theorem mapB_ok {P:Program} {tb:Tb} {j:Nat} {d:TypeDesc} {offs:List (Nat×Nat)} (h:mapB P tb j d offs=true):∀ k e,j=2→offs=[(k,e)]→d=.map k e∧∃ (tk te:TI) (z:Value),lk k tb.ty=some tk∧lk e tb.ty=some te∧(∃ i,P.info? e=some i∧i.zero=some z)∧z.cells=te.ty.zero.toArray∧zfit te.ty z=true:=by
 rintro k e rfl rfl
 simp only [mapB,bne_self_eq_false,Bool.false_or] at h
 split at h
 ·simp only [Bool.and_eq_true,beq_iff_eq] at h
  obtain ⟨⟨⟨rfl,rfl⟩,h3⟩,h4⟩:=h
  refine ⟨rfl,?_⟩
  obtain ⟨tk,htk⟩:=Option.isSome_iff_exists.1 h3
  unfold mapB2 at h4
  split at h4
  ·rename_i i hi
   split at h4
   ·rename_i z te hz hte
    simp only [Bool.and_eq_true] at h4
    exact ⟨tk,te,z,htk,hte,⟨i,hi,hz⟩,by rw [← sameZs_eq h4.1],h4.2⟩
   ·cases h4
  ·cases h4
 ·cases h
def undB (P:Program) (tb:Tb) (ti:TI):Ty→Option TypeDesc→Bool
 | .int k,some (.int k')=>k == k'
 | .bool,some .bool=>true
 | .str,some .string=>true
 | .slice e,some (.slice el)=>el == ti.el && (match lk ti.el tb.ty with | some te=>decide (te.ty=e) | none=>false)
 | .agg _,some (.struct fs)=>ti.el == 0 && ti.offs.map some == fs.toList.map fun f=>(P.info? f.type).map fun i=>(f.offset,i.size)
 | .agg _,some (.array n e)=>ti.el != 0 && arrB ti.offs n (P.info? e)
 | .ref _,some (.struct _)=>false
 | .ref _,some (.array _ _)=>false
 | .ref j,some d=>mapB P tb j d ti.offs
 | _,_=>false
def tiB (P:Program) (tb:Tb) (id:TypeId) (ti:TI):Bool:=((ti.offs.all fun p=>p.2 != 0) && (decide (0 < ti.bytes) && keyFB P id ti.ty ti.el)) && infoB ti.ty ti.bytes (P.info? id) && undB P tb ti ti.ty (P.underlying id)
theorem tiB_ok {P:Program} {tb:Tb} {id:TypeId} {ti:TI} (h:tiB P tb id ti=true):TIok P tb id ti:=by
 simp only [tiB,Bool.and_eq_true] at h
 obtain ⟨⟨⟨h0,hb,hkf⟩,h1⟩,h2⟩:=h
 refine ⟨⟨⟨fun p hp=>by simpa using (List.all_eq_true.1 h0) p hp,by simpa using hb,keyFB_ok hkf⟩,?_⟩,?_⟩
 ·unfold infoB at h1
  split at h1
  ·rename_i i hi
   simp only [Bool.and_eq_true,beq_iff_eq] at h1
   obtain ⟨⟨h3,h4⟩,h5⟩:=h1
   split at h5
   ·rename_i z hz
    exact ⟨i,z,hi,h3,h4,hz,by rw [← sameZs_eq h5]⟩
   ·cases h5
  ·cases h1
 ·generalize hu:P.underlying id=u at h2
  generalize ti.ty=t at h2
  cases t<;>cases u<;>simp only [undB] at h2<;>try (cases h2;done)
  all_goals
   rename_i u
   cases u<;>simp only at h2<;>try (cases h2;done)
  ·have:=beq_iff_eq.1 h2;subst this;rfl
  ·rfl
  ·rfl
  ·simp only [Bool.and_eq_true,beq_iff_eq] at h2
   obtain ⟨h3,h4⟩:=h2
   split at h4
   ·rename_i te hte;exact ⟨by rw [h3],te,hte,by simpa using h4⟩
   ·cases h4
  ·rename_i n e
   simp only [Bool.and_eq_true,bne_iff_ne] at h2
   obtain ⟨h3,h2⟩:=h2
   unfold arrB at h2
   split at h2
   ·rename_i i hi;exact .inr ⟨_,_,i,h3,rfl,hi,by simpa using h2⟩
   ·cases h2
  ·simp only [Bool.and_eq_true,beq_iff_eq] at h2
   exact .inl ⟨_,h2.1,rfl,h2.2⟩
  all_goals exact ⟨_,rfl,trivial,mapB_ok h2⟩
theorem tbOk_of {P:Program} {tb:Tb} (h:(tb.ty.all fun p=>tiB P tb p.1 p.2)=true):TbOk P tb:=fun id ti hi=>by
 rw [List.all_eq_true] at h
 exact tiB_ok (h _ (lk_mem hi))
/-! ### Runs -/
def Ty.isAgg:Ty→Bool
 | .agg _=>true
 | .int _=>false
 | .bool=>false
 | .str=>false
 | .slice _=>false
 | .prod _ _=>false
 | .ref _=>false
section
variable {P:Program} {tb:Tb} {id:TypeId} {ti:TI} (w:World)
theorem run_info {i:TypeInfo} (h:P.info? id=some i):(typeInfo id).run P w=.ok i w:=by simp [typeInfo,h]
theorem run_agg (h:TIok P tb id ti):(isAgg id).run P w=.ok ti.ty.isAgg w:=by
 obtain ⟨_,h2⟩:=h
 cases ht:ti.ty<;>rw [ht] at h2<;>simp only at h2
 case agg =>
  rcases h2 with ⟨fs,_,hu,_⟩ | ⟨n,e,_,_,hu,_⟩<;>simp [isAgg,run_underlying hu,Ty.isAgg]
 case slice=>simp [isAgg,run_underlying h2.1,Ty.isAgg]
 case ref k =>
  obtain ⟨d,hu,hd,_⟩:=h2
  cases d<;>first | exact hd.elim | simp [isAgg,run_underlying hu,Ty.isAgg]
 all_goals simp [isAgg,run_underlying h2,Ty.isAgg]
theorem run_sizeOf (h:TIok P tb id ti):(sizeOf id).run P w=.ok ti.ty.size w:=by
 obtain ⟨⟨_,i,z,h1,h2,_⟩,_⟩:=h
 simp [sizeOf,run_info w h1,h2]
theorem TIok.noprod (h:TIok P tb id ti) {a b:Ty}:ti.ty≠.prod a b:=by
 intro e
 have:=h.2
 rw [e] at this
 exact this
theorem run_loadVar (h:TIok P tb id ti) {ad:Addr} {cs:List Value} (hl:cs.length=ti.ty.size) (hc:∀ (j:Nat) (u:Value),cs[j]?=some u→w.cell? (ad.add j)=some u) :
  (loadVar id ad).run P w=.ok (ti.ty.wrap cs) w:=by
 have hnp:=fun a b=>h.noprod (a:=a) (b:=b)
 simp only [loadVar,Sem.run_bind,run_agg w h,Result.andThen_ok]
 cases ht:ti.ty
 case prod a b=>exact absurd ht (hnp a b)
 case agg u =>
  have hl':ti.ty.size=cs.length:=hl.symm
  simp only [Ty.isAgg,if_true,Sem.run_bind,run_sizeOf w h,Result.andThen_ok,hl',run_loadCells_list w ad cs hc,Ty.wrap]
  rfl
 all_goals
  rw [ht] at hl
  obtain ⟨c,rfl⟩:=List.length_eq_one_iff.1 hl
  have h0:=hc 0 c rfl
  rw [add_zero'] at h0
  simp [Ty.isAgg,Ty.wrap,h0]
theorem run_loadAt (h:TIok P tb id ti) {ad:Addr} {cs:List Value} (hl:cs.length=ti.ty.size) (hc:∀ (j:Nat) (u:Value),cs[j]?=some u→w.cell? (ad.add j)=some u) :
  (Instr.loadAt id (.pointer (some ad))).run P w=.ok (ti.ty.wrap cs) w:=by
 simp [Instr.loadAt,Instr.sureAddr,run_loadVar w h hl hc]
end
end Go.Proofs.Ytebfihindnhccaa.Fw
end
