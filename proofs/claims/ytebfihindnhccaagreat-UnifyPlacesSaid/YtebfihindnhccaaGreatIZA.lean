/- Typed values, how they lie in memory, the executor's words and the table of types: what they mean. -/
/- Typed pure values and how they lie in memory: the words of the symbolic executor. Nothing here speaks of one program. -/
import Derived.ProofKit
import Derived.Orders
import Derived.Laws.AppendOwn
import Derived.Laws.MakeOwn
import Derived.Laws.OwnMore
set_option linter.unusedVariables false
set_option linter.unusedSimpArgs false
namespace Go.Proofs.YtebfihindnhccaaGreat.Fw
section
open Go
inductive Ty where
 | int (k:IntKind)
 | bool
 | str
 | slice (e:Ty)
 | prod (a b:Ty)
 | agg (t:Ty)
 /-- a pointer (0), a function (1), a map (2): as a pure value it is nil -/
 | ref (k:Nat)
 deriving DecidableEq
def KJ:Nat→Value
 | 0=>.pointer none
 | 1=>.nilFunc
 | _=>.map none
@[reducible] def Ty.den:Ty→Type
 | .int _=>Int
 | .bool=>Bool
 | .str=>ByteArray
 | .slice e=>List e.den
 | .prod a b=>a.den×b.den
 | .agg t=>t.den
 | .ref _=>Unit
def Ty.size:Ty→Nat
 | .prod a b=>a.size+b.size
 | .agg t=>t.size
 | .int _=>1
 | .bool=>1
 | .str=>1
 | .slice _=>1
 | .ref _=>1
def Ty.dflt:(t:Ty)→t.den
 | .int _=>(0:Int)
 | .bool=>false
 | .str=>ByteArray.empty
 | .slice _=>[]
 | .prod a b=>(a.dflt,b.dflt)
 | .agg t=>t.dflt
 | .ref _=>()
def Ty.zero:Ty→List Value
 | .int k=>[.int k 0]
 | .bool=>[.bool false]
 | .str=>[.string ByteArray.empty]
 | .slice _=>[.slice none 0 0]
 | .prod a b=>a.zero++b.zero
 | .agg t=>t.zero
 | .ref k=>[KJ k]
def Ty.wrap:Ty→List Value→Value
 | .agg _,cs=>.agg cs.toArray
 | .prod _ _,cs=>.agg cs.toArray
 | .int _,cs=>cs.headD undef
 | .bool,cs=>cs.headD undef
 | .str,cs=>cs.headD undef
 | .slice _,cs=>cs.headD undef
 | .ref _,cs=>cs.headD undef
def Lc (k:IntKind) (n:Int):Prop:=k.min≤n∧n≤k.max
def AP:Nat:=140737488355328
def Bj (w:World) (O:Nat→Prop):(t:Ty)→List Value→t.den→Prop
 | .int k,cs,d=>cs=[.int k d]∧Lc k d
 | .bool,cs,d=>cs=[.bool d]
 | .str,cs,d=>cs=[.string d]∧ByteArray.size d≤AP
 | .slice e,cs,d=>∃(a:Option Addr) (c:Nat),cs=[.slice a (List.length d) c]∧List.length d≤c∧List.length d≤AP ∧
   (d=[]∨∃ad:Addr,a=some ad∧¬O ad.block ∧
    ∀(i:Nat) (x:e.den),d[i]?=some x→∃es:List Value,es.length=e.size∧(∀(j:Nat) (v:Value),es[j]?=some v→w.cell? (ad.add (i*e.size+j))=some v)∧Bj w O e es x)
 | .prod a b,cs,d=>∃c1 c2:List Value,cs=c1++c2∧Bj w O a c1 d.1∧Bj w O b c2 d.2
 | .agg t,cs,d=>Bj w O t cs d
 | .ref k,cs,_=>cs=[KJ k]
def Bk (w:World) (O:Nat→Prop) (t:Ty) (v:Value) (d:t.den):Prop:=∃cs,Bj w O t cs d∧v=t.wrap cs
theorem B3 (a:Addr) (n:Nat):(a.add n).block=a.block:=by unfold Addr.add;split<;>rfl
theorem C0 (a:Addr) (i j:Nat):(a.add i).add j=a.add (i+j):=by
 unfold Addr.add
 by_cases hi:i=0<;>by_cases hj:j=0<;>simp[hi,hj,Nat.add_assoc]
theorem Ld (a:Addr):a.add 0=a:=rfl
theorem YY (g j:Nat):(⟨g,0,none⟩:Addr).add j=⟨g,j,none⟩:=by
 unfold Addr.add;split<;>simp_all
theorem Ih (g i j:Nat):(⟨g,i,none⟩:Addr).add j=⟨g,i+j,none⟩:=by
 unfold Addr.add;split<;>simp_all
theorem Ty.size_pos:∀t:Ty,0<t.size
 | .int _=>by simp[Ty.size]
 | .bool=>by simp[Ty.size]
 | .str=>by simp[Ty.size]
 | .slice _=>by simp[Ty.size]
 | .ref _=>by simp[Ty.size]
 | .prod a b=>by have:=a.size_pos;simp[Ty.size];omega
 | .agg t=>by simpa[Ty.size] using t.size_pos
theorem Bj.length {w:World} {O:Nat→Prop}:∀ {t:Ty} {cs:List Value} {d:t.den},Bj w O t cs d→cs.length=t.size
 | .int _,_,_,h=>by obtain⟨rfl,_⟩:=h;rfl
 | .bool,_,_,h=>by have h:_=_:=h;subst h;rfl
 | .str,_,_,h=>by obtain⟨rfl,_⟩:=h;rfl
 | .slice _,_,_,h=>by obtain⟨_,_,rfl,_⟩:=h;rfl
 | .ref _,_,_,h=>by have h:_=_:=h;subst h;rfl
 | .prod a b,_,_,h=>by
  obtain⟨c1,c2,rfl,h1,h2⟩:=h
  simp[Ty.size,Bj.length h1,Bj.length h2]
 | .agg t,_,_,h=>by
  have h:Bj w O t _ _:=h
  simpa[Ty.size] using Bj.length h
theorem Bj.one {w:World} {O:Nat→Prop}:∀ {t:Ty} {cs:List Value} {d:t.den},Bj w O t cs d→∀v∈cs,v.oneCell'=true
 | .int _,_,_,h=>by obtain⟨rfl,_⟩:=h;simp[Value.oneCell']
 | .bool,_,_,h=>by have h:_=_:=h;subst h;simp[Value.oneCell']
 | .str,_,_,h=>by obtain⟨rfl,_⟩:=h;simp[Value.oneCell']
 | .slice _,_,_,h=>by obtain⟨_,_,rfl,_⟩:=h;simp[Value.oneCell']
 | .ref k,_,_,h=>by
  have h:_=[KJ k]:=h
  subst h
  match k with
  | 0=>simp[Value.oneCell',KJ]
  | 1=>simp[Value.oneCell',KJ]
  | _+2=>simp[Value.oneCell',KJ]
 | .prod a b,_,_,h=>by
  obtain⟨c1,c2,rfl,h1,h2⟩:=h
  intro v hv
  rcases List.mem_append.1 hv with hv|hv
  ·exact Bj.one h1 v hv
  ·exact Bj.one h2 v hv
 | .agg t,_,_,h=>by
  have h:Bj w O t _ _:=h
  exact Bj.one h
theorem Bj.mono {w w':World} {O O':Nat→Prop} (hO:∀b,b<w.heap.size→¬O b→¬O' b) (hw:∀b,b<w.heap.size→¬O b→w'.heap[b]?=w.heap[b]?) :
  ∀ {t:Ty} {cs:List Value} {d:t.den},Bj w O t cs d→Bj w' O' t cs d
 | .int _,_,_,h=>h
 | .bool,_,_,h=>h
 | .str,_,_,h=>h
 | .ref _,_,_,h=>h
 | .slice e,_,d,h=>by
  obtain⟨a,c,rfl,h1,h2,h3⟩:=h
  refine⟨a,c,rfl,h1,h2,?_⟩
  rcases h3 with h3|⟨ad,rfl,hO1,hx⟩
  ·exact .inl h3
  ·by_cases hd:d=[]
   ·exact .inl hd
   ·have hlt:ad.block<w.heap.size:=by
     obtain⟨x,r,rfl⟩:∃x r,d=x :: r:=List.exists_cons_of_ne_nil hd
     obtain⟨es,hl,hc,_⟩:=hx 0 x rfl
     have hp:=e.size_pos
     have:es[0]?=some (es[0]'(by omega)):=List.getElem?_eq_getElem (by omega)
     have:=block_lt_of_cell (hc 0 _ this)
     rwa [B3]at this
    refine .inr ⟨ad,rfl,hO _ hlt hO1,fun i x hi=>?_⟩
    obtain⟨es,hl,hc,hr⟩:=hx i x hi
    refine⟨es,hl,fun j v hj=>?_,Bj.mono hO hw hr⟩
    rw[World.cell?_of_block (w:=w) (w':=w')]
    ·exact hc j v hj
    ·rw[B3];exact hw _ hlt hO1
 | .prod a b,_,_,h=>by
  obtain⟨c1,c2,rfl,h1,h2⟩:=h
  exact⟨c1,c2,rfl,Bj.mono hO hw h1,Bj.mono hO hw h2⟩
 | .agg t,_,_,h=>by
  have h:Bj w O t _ _:=h
  exact(Bj.mono hO hw h:Bj w' O' t _ _)
theorem Bk.mono {w w':World} {O O':Nat→Prop} (hO:∀b,b<w.heap.size→¬O b→¬O' b) (hw:∀b,b<w.heap.size→¬O b→w'.heap[b]?=w.heap[b]?)
  {t:Ty} {v:Value} {d:t.den} (h:Bk w O t v d):Bk w' O' t v d :=
 let ⟨cs,h1,h2⟩:=h
 ⟨cs,h1.mono hO hw,h2⟩
theorem Bj.zero (w:World) (O:Nat→Prop):∀t:Ty,Bj w O t t.zero t.dflt
 | .int k=>⟨rfl,by cases k<;>exact⟨by decide,by decide⟩⟩
 | .bool=>rfl
 | .str=>⟨rfl,by simp[Ty.dflt,AP]⟩
 | .slice _=>⟨none,0,rfl,by simp[Ty.dflt],by simp[Ty.dflt,AP],.inl rfl⟩
 | .ref _=>rfl
 | .prod a b=>⟨_,_,rfl,Bj.zero w O a,Bj.zero w O b⟩
 | .agg t=>(Bj.zero w O t:Bj w O t _ _)
end
/- The symbolic executor: abstract values, objects, states, and what one operation does to them. Definitions alone. -/
section
open Go
structure PV where
 t:Ty
 d:t.den
def BL (t:Ty) (p:PV):Option t.den:=if h:p.t=t then some (h▸p.d) else none
theorem GE (t:Ty) (d:t.den):BL t ⟨t,d⟩=some d:=by simp[BL]
def Ga:(t:Ty)→Nat→t.den→Option PV
 | .prod a _,0,d=>some ⟨a,d.1⟩
 | .prod _ b,k+1,d=>Ga b k d.2
 | .int k,0,d=>some ⟨.int k,d⟩
 | .bool,0,d=>some ⟨.bool,d⟩
 | .str,0,d=>some ⟨.str,d⟩
 | .slice e,0,d=>some ⟨.slice e,d⟩
 | .agg t,0,d=>some ⟨.agg t,d⟩
 | .ref k,0,d=>some ⟨.ref k,d⟩
 | _,_,_=>none
def MM:(t:Ty)→Nat→t.den→PV→Option t.den
 | .prod a _,0,d,x=>(BL a x).map fun y=>(y,d.2)
 | .prod _ b,k+1,d,x=>(MM b k d.2 x).map fun y=>(d.1,y)
 | .int k,0,_,x=>BL (.int k) x
 | .bool,0,_,x=>BL .bool x
 | .str,0,_,x=>BL .str x
 | .slice e,0,_,x=>BL (.slice e) x
 | .agg t,0,_,x=>BL (.agg t) x
 | .ref k,0,_,x=>BL (.ref k) x
 | _,_,_,_=>none
def JJ:Ty→Nat→Option Nat
 | .prod _ _,0=>some 0
 | .prod a b,k+1=>(JJ b k).map (a.size + ·)
 | .int _,0=>some 0
 | .bool,0=>some 0
 | .str,0=>some 0
 | .slice _,0=>some 0
 | .agg _,0=>some 0
 | .ref _,0=>some 0
 | _,_=>none
def Wk:Ty→Nat→Option Ty
 | .prod a _,0=>some a
 | .prod _ b,k+1=>Wk b k
 | .int k,0=>some (.int k)
 | .bool,0=>some .bool
 | .str,0=>some .str
 | .slice e,0=>some (.slice e)
 | .agg t,0=>some (.agg t)
 | .ref k,0=>some (.ref k)
 | _,_=>none
def RE:List Nat→(t:Ty)→t.den→Option PV
 | [],t,d=>some ⟨t,d⟩
 | k :: r,.agg t,d=>match Ga t k d with
  | some pv=>RE r pv.t pv.d
  | none=>none
 | _ :: _,_,_=>none
def R3:List Nat→(t:Ty)→t.den→PV→Option t.den
 | [],t,_,x=>BL t x
 | k :: r,.agg t,d,x=>match Ga t k d with
  | some pv=>match R3 r pv.t pv.d x with
   | some y=>MM t k d ⟨pv.t,y⟩
   | none=>none
  | none=>none
 | _ :: _,_,_,_=>none
def KO:List Nat→Ty→Option Nat
 | [],_=>some 0
 | k :: r,.agg t=>match JJ t k,Wk t k with
  | some o,some u=>(KO r u).map (o + ·)
  | _,_=>none
 | _ :: _,_=>none
inductive AV where
 /-- a pure value -/
 | p (t:Ty) (d:t.den)
 /-- just this value -/
 | raw (v:Value)
 /-- the places lo .. hi of the owned array n -/
 | sr (n:Nat) (e:Ty) (lo hi:Nat)
 /-- a pointer into element i of the owned array n -/
 | ep (n:Nat) (e:Ty) (i:Nat) (path:List Nat) (off:Nat)
 /-- a pointer to memory that holds a pure value -/
 | ip (t:Ty) (d:t.den)
 /-- a pointer into the box n -/
 | bp (n:Nat) (path:List Nat) (off:Nat)
 | fn (f:FuncId)
 /-- a closure; its variables are the boxes -/
 | clo (f:FuncId) (ns:List Nat)
 /-- the map n -/
 | mp (n:Nat)
 /-- the function by which a round of the loop n is run -/
 | yl (n:Nat)
 /-- the inner slice of row i of the nested array n: its elements, its length -/
 | nin (n:Nat) (e:Ty) (i len:Nat)
 /-- a struct with these fields -/
 | ag (l:List AV)
 | tup (l:List AV)
 /-- nothing is known -/
 | top
inductive Obj where
 | arr (et:TypeId) (e:Ty) (xs:List e.den)
 | box (et:TypeId) (st:Bool) (fs:List AV)
 /-- a map's entries, in their order -/
 | mapo (k v:Ty) (l:List (k.den×v.den))
 /-- rows that end in a slice of their own each; 'h': the row whose slice is elsewhere just now -/
 | nest (et iet:TypeId) (k e:Ty) (xs:List (k.den×List e.den)) (h:Option Nat)
 /-- a caller's frame: its slots as they were, and what they mean -/
 | frame (tm:Array Value) (fs:List (Nat×AV))
 /-- the record of a range over a function -/
 | loop (L:Go.Loop)
 /-- the block of the calls that such a loop defers: none -/
 | dfr
structure St where
 env:List (Nat×AV)
 objs:List (Nat×Obj)
def lk {α:Type}:Nat→List (Nat×α)→Option α
 | _,[]=>none
 | k,(j,v) :: r=>if k=j then some v else lk k r
def Ua {α:Type}:Nat→List (Nat×α)→List (Nat×α)
 | _,[]=>[]
 | k,(j,v) :: r=>if k=j then Ua k r else (j,v) :: Ua k r
def upd {α:Type}:Nat→α→List (Nat×α)→List (Nat×α)
 | _,_,[]=>[]
 | k,u,(j,v) :: r=>if k=j then (j,u) :: upd k u r else (j,v) :: upd k u r
def sub {α:Type} (xs:List α) (lo hi:Nat):List α:=(xs.drop lo).take (hi-lo)
theorem Hm {α:Type} (xs:List α):sub xs 0 xs.length=xs:=by simp[sub]
structure TI where
 ty:Ty
 offs:List (Nat×Nat):=[]
 el:TypeId:=0
 bytes:Nat
inductive RV where
 | p (t:Ty) (d:t.den)
 | own (et:TypeId) (e:Ty) (xs:List e.den)
@[reducible] def KP:List Ty→Type
 | []=>Unit
 | t :: r=>t.den×KP r
def Ty.flat:Ty→Bool
 | .slice _=>false
 | .prod a b=>a.flat&&b.flat
 | .agg t=>t.flat
 | .int _=>true
 | .bool=>true
 | .str=>true
 | .ref _=>true
def RV.flat:RV→Bool
 | .p t _=>t.flat
 | .own _ _ _=>false
structure Af where
 ins:List Ty
 lend:Bool:=false
 pre:KP ins→Prop
 out:KP ins→List RV
structure Tb where
 ty:List (Nat×TI)
 fns:List (Nat×Af)
 /-- slots whose new slices are written no more -/
 pure:List Nat:=[]
 /-- slots whose new slices are nested arrays; the type of their rows' elements -/
 nests:List (Nat×TypeId):=[]
def inB (n:Nat):List Nat→Bool
 | []=>false
 | m :: r=>if n=m then true else inB n r
def Gm:Value→AV
 | .int k n=>if k.min≤n∧n≤k.max then .p (.int k) n else .raw (.int k n)
 | .bool b=>.p .bool b
 | .string s=>if s.size≤AP then .p .str s else .raw (.string s)
 | v=>.raw v
def Av (σ:St):Operand→Option AV
 | .tmp t=>lk t σ.env
 | .const v=>some (Gm v)
 | .func f=>some (.fn f)
 | .global _=>none
def QP (e:Ty) (lo hi:Nat):Option Obj→Option (List e.den)
 | some (.arr _ e' xs)=>BL (.slice e) ⟨.slice e',sub xs lo hi⟩
 | some (.nest _ _ k e' xs none)=>BL (.slice e) ⟨.slice (.agg (.prod k (.slice e'))),sub xs lo hi⟩
 | _=>none
def O8 (e:Ty) (i:Nat):Option Obj→Option (List e.den)
 | some (.nest _ _ k e' xs none)=>BL (.slice e) ⟨.slice e',(xs.getD i (k.dflt,[])).2⟩
 | _=>none
def Ex (l:Bool) (σ:St):(t:Ty)→AV→Option t.den
 | t,.p u d=>BL t ⟨u,d⟩
 | .slice e,.sr n e' lo hi=>if l=true∧e'=e then QP e lo hi (lk n σ.objs) else none
 | .slice e,.nin n e' i _=>if l=true∧e'=e then O8 e i (lk n σ.objs) else none
 | .slice _,.raw (.slice none 0 0)=>some []
 | _,_=>none
def KQ {α β:Type}:Option α→Option β→Option (α×β)
 | some a,some b=>some (a,b)
 | _,_=>none
def JK (l:Bool) (σ:St):List AV→(t:Ty)→Option t.den
 | [],_=>none
 | [x],t=>Ex l σ t x
 | x :: y :: r,.prod a b=>KQ (Ex l σ a x) (JK l σ (y :: r) b)
 | _ :: _ :: _,_=>none
def Ml (l:Bool) (σ:St):(t:Ty)→AV→Option t.den
 | .agg t,.ag fs=>JK l σ fs t
 | t,x=>Ex l σ t x
def Aa (n:Nat):List Nat→Bool
 | []=>false
 | m :: r=>if n=m then true else Aa n r
theorem Ag (n:Nat):∀l:List Nat,Aa n l=true↔n∈l
 | []=>by simp[Aa]
 | m :: r=>by
  simp only[Aa,List.mem_cons]
  split
  ·rename_i h;simp[h]
  ·rename_i h;simp[h,Ag n r]
/-! ### Names that are forgotten -/
mutual
def AV.fgt (hs:List Nat):AV→AV
 | .sr m e lo hi=>if Aa m hs=true then .top else .sr m e lo hi
 | .ep m e i path off=>if Aa m hs=true then .top else .ep m e i path off
 | .nin m e i len=>if Aa m hs=true then .top else .nin m e i len
 | .bp m path off=>if Aa m hs=true then .top else .bp m path off
 | .mp m=>if Aa m hs=true then .top else .mp m
 | .yl m=>if Aa m hs=true then .top else .yl m
 | .clo f ns=>if (ns.any fun n=>Aa n hs)=true then .top else .clo f ns
 | .ag l=>.ag (AV.fgts hs l)
 | .tup l=>.tup (AV.fgts hs l)
 | .p t d=>.p t d
 | .raw v=>.raw v
 | .ip t d=>.ip t d
 | .fn f=>.fn f
 | .top=>.top
def AV.fgts (hs:List Nat):List AV→List AV
 | []=>[]
 | x :: r=>AV.fgt hs x :: AV.fgts hs r
end
def B7 (hs:List Nat):List (Nat×AV)→List (Nat×AV)
 | []=>[]
 | (s,x) :: r=>(s,x.fgt hs) :: B7 hs r
def Obj.fgt (hs:List Nat):Obj→Obj
 | .arr et e xs=>.arr et e xs
 | .box et st fs=>.box et st (AV.fgts hs fs)
 | .mapo k v l=>.mapo k v l
 | .nest et iet k e xs h=>.nest et iet k e xs h
 | .frame tm fs=>.frame tm (B7 hs fs)
 | .loop L=>.loop L
 | .dfr=>.dfr
def Au (hd hs:List Nat):List (Nat×Obj)→List (Nat×Obj)
 | []=>[]
 | (n,o) :: r=>if Aa n hd=true then Au hd hs r else (n,o.fgt hs) :: Au hd hs r
mutual
/-- The nested array n has turned within (its inner slices), the names 'hs' are no more. -/
def AV.trn (n:Nat) (hs:List Nat):AV→AV
 | .nin m e i len=>if m=n∨Aa m hs=true then .top else .nin m e i len
 | .sr m e lo hi=>if Aa m hs=true then .top else .sr m e lo hi
 | .ep m e i path off=>if Aa m hs=true then .top else .ep m e i path off
 | .bp m path off=>if Aa m hs=true then .top else .bp m path off
 | .mp m=>if Aa m hs=true then .top else .mp m
 | .yl m=>if Aa m hs=true then .top else .yl m
 | .clo f ns=>if (ns.any fun n=>Aa n hs)=true then .top else .clo f ns
 | .ag l=>.ag (AV.trns n hs l)
 | .tup l=>.tup (AV.trns n hs l)
 | .p t d=>.p t d
 | .raw v=>.raw v
 | .ip t d=>.ip t d
 | .fn f=>.fn f
 | .top=>.top
def AV.trns (n:Nat) (hs:List Nat):List AV→List AV
 | []=>[]
 | x :: r=>AV.trn n hs x :: AV.trns n hs r
end
def Dy (n:Nat) (hs:List Nat):List (Nat×AV)→List (Nat×AV)
 | []=>[]
 | (s,x) :: r=>(s,x.trn n hs) :: Dy n hs r
def Obj.trn (n:Nat) (hs:List Nat):Obj→Obj
 | .arr et e xs=>.arr et e xs
 | .box et st fs=>.box et st (AV.trns n hs fs)
 | .mapo k v l=>.mapo k v l
 | .nest et iet k e xs h=>.nest et iet k e xs h
 | .frame tm fs=>.frame tm (Dy n hs fs)
 | .loop L=>.loop L
 | .dfr=>.dfr
def CO (n:Nat) (hs:List Nat):List (Nat×Obj)→List (Nat×Obj)
 | []=>[]
 | (m,o) :: r=>if Aa m (n :: hs)=true then CO n hs r else (m,o.trn n hs) :: CO n hs r
def CX:Option Obj→Bool
 | some (.nest _ _ _ _ _ _)=>true
 | _=>false
def RF (σ:St) (e:Ty):AV→Option (List e.den)
 | .sr n e' lo hi=>if CX (lk n σ.objs)=true then none else Ml true σ (.slice e) (.sr n e' lo hi)
 | x=>Ml true σ (.slice e) x
end
/- The symbolic executor, second part: operations, regions. Definitions alone. -/
section
open Go
def Ar (x y:ByteArray):Bool:=x.toList==y.toList
def Gi (x y:ByteArray):Bool:=Op.bytesLess x.toList y.toList
def CS (op:BinOp) (k:IntKind) (x y:Int):Int :=
 k.wrap (match op with
  | .and=>((BitVec.ofInt k.bits x &&& BitVec.ofInt k.bits y).toNat:Int)
  | .or=>((BitVec.ofInt k.bits x ||| BitVec.ofInt k.bits y).toNat:Int)
  | .xor=>((BitVec.ofInt k.bits x ^^^ BitVec.ofInt k.bits y).toNat:Int)
  | _=>((BitVec.ofInt k.bits x &&& ~~~BitVec.ofInt k.bits y).toNat:Int))
def Wl (k:IntKind) (x y:Int):Int:=k.wrap (x*2 ^ (min y.toNat k.bits))
def YZ (k:IntKind) (x y:Int):Int:=x.fdiv (2 ^ (min y.toNat k.bits))
def cC (k:IntKind) (a b:Int):BinOp→Prop×AV
 | .add=>(Lc k (a+b),.p (.int k) (a+b))
 | .sub=>(Lc k (a-b),.p (.int k) (a-b))
 | .mul=>(Lc k (a*b),.p (.int k) (a*b))
 | .quo=>(b≠0∧Lc k (a.tdiv b),.p (.int k) (a.tdiv b))
 | .rem=>(b≠0∧Lc k (a.tmod b),.p (.int k) (a.tmod b))
 | .and=>(True,.p (.int k) (CS .and k a b))
 | .or=>(True,.p (.int k) (CS .or k a b))
 | .xor=>(True,.p (.int k) (CS .xor k a b))
 | .andNot=>(True,.p (.int k) (CS .andNot k a b))
 | .shl=>(False,.top)
 | .shr=>(False,.top)
 | .eql=>(True,.p .bool (a==b))
 | .neq=>(True,.p .bool (a != b))
 | .lss=>(True,.p .bool (decide (a<b)))
 | .leq=>(True,.p .bool (decide (a≤b)))
 | .gtr=>(True,.p .bool (decide (b<a)))
 | .geq=>(True,.p .bool (decide (b≤a)))
def Ud (a b:ByteArray):BinOp→Prop×AV
 | .add=>(a.size+b.size≤AP,.p .str (a++b))
 | .eql=>(True,.p .bool (Ar a b))
 | .neq=>(True,.p .bool (!Ar a b))
 | .lss=>(True,.p .bool (Gi a b))
 | .leq=>(True,.p .bool (Gi a b||Ar a b))
 | .gtr=>(True,.p .bool (!(Gi a b||Ar a b)))
 | .geq=>(True,.p .bool (!Gi a b))
 | _=>(False,.top)
def zN (op:BinOp) (k:IntKind) (a:Int) (k':IntKind) (b:Int):Prop×AV :=
 match op with
 | .shl=>(0≤b,.p (.int k) (Wl k a b))
 | .shr=>(0≤b∧Lc k (YZ k a b),.p (.int k) (YZ k a b))
 | op=>if k=k' then cC k a b op else (False,.top)
def pH:Ty→AV
 | .slice _=>.raw (.slice none 0 0)
 | .ref k=>.raw (KJ k)
 | t=>.p t t.dflt
def pI:Ty→List AV
 | .prod a b=>pH a :: pI b
 | t=>[pH t]
def zR:(t:Ty)→t.den→List AV
 | .prod a b,d=>.p a d.1 :: zR b d.2
 | .int k,d=>[.p (.int k) d]
 | .bool,d=>[.p .bool d]
 | .str,d=>[.p .str d]
 | .slice e,d=>[.p (.slice e) d]
 | .agg t,d=>[.p (.agg t) d]
 | .ref k,d=>[.p (.ref k) d]
def AV.cells:AV→Nat
 | .p t _=>t.size
 | .ag _=>0
 | .tup _=>0
 | _=>1
def Bx:List AV→Nat→Nat
 | _,0=>0
 | [],_+1=>0
 | x :: r,k+1=>x.cells+Bx r k
def Ii (st:Bool) (fs:List AV):List Nat→Option AV
 | []=>if st then some (.ag fs) else fs[0]?
 | [k]=>if st then fs[k]? else none
 | k :: r=>if st then match fs[k]? with
   | some (.p t d)=>(RE r t d).map fun pv=>.p pv.t pv.d
   | _=>none
  else none
def NZ (fs:List AV):List Nat→Option Nat
 | []=>some 0
 | k :: r=>match fs[k]? with
  | some (.p t _)=>(KO r t).map (Bx fs k + ·)
  | some _=>if r.isEmpty then some (Bx fs k) else none
  | none=>none
def Ty.cell1:Ty→Bool
 | .agg _=>false
 | .prod _ _=>false
 | .int _=>true
 | .bool=>true
 | .str=>true
 | .slice _=>true
 | .ref _=>true
def CF (ty:Ty):AV→Bool
 | .p t _=>ty=t
 | .ag l=>match ty with|.agg t=>Bx l l.length==t.size|_=>false
 | .tup _=>false
 | .top=>false
 | .raw u=>u.oneCell'&&ty.cell1
 | _=>ty.cell1
def MR (ty:Ty):AV→Bool
 | .top=>ty.cell1
 | x=>CF ty x
def GF (n:Nat):Bool:=decide (1000000≤n)
mutual
def AV.frz (n:Nat) (e:Ty) (xs:List e.den):AV→AV
 | .sr m e' lo hi=>if m=n then (if e'=e then .p (.slice e) (sub xs lo hi) else .top) else .sr m e' lo hi
 | .ep m e' i path off=>if m=n then .top else .ep m e' i path off
 | .nin m e' i len=>if m=n then .top else .nin m e' i len
 | .ag l=>.ag (AV.frzs n e xs l)
 | .tup l=>.tup (AV.frzs n e xs l)
 | .p t d=>.p t d
 | .raw v=>.raw v
 | .ip t d=>.ip t d
 | .bp m path off=>.bp m path off
 | .fn f=>.fn f
 | .clo f ns=>.clo f ns
 | .mp n=>.mp n
 | .yl n=>.yl n
 | .top=>.top
def AV.frzs (n:Nat) (e:Ty) (xs:List e.den):List AV→List AV
 | []=>[]
 | x :: r=>AV.frz n e xs x :: AV.frzs n e xs r
end
def DA (n:Nat) (e:Ty) (xs:List e.den):List (Nat×AV)→List (Nat×AV)
 | []=>[]
 | (s,x) :: r=>(s,x.frz n e xs) :: DA n e xs r
def A5 (n:Nat) (e:Ty) (xs:List e.den):List (Nat×Obj)→List (Nat×Obj)
 | []=>[]
 | (m,.arr et e' ys) :: r=>(m,.arr et e' ys) :: A5 n e xs r
 | (m,.box et st fs) :: r=>(m,.box et st (AV.frzs n e xs fs)) :: A5 n e xs r
 | (m,.mapo k v l) :: r=>(m,.mapo k v l) :: A5 n e xs r
 | (m,.nest et iet k e' ys h) :: r=>(m,.nest et iet k e' ys h) :: A5 n e xs r
 | (m,.frame tm fs) :: r=>(m,.frame tm (DA n e xs fs)) :: A5 n e xs r
 | (m,.loop L) :: r=>(m,.loop L) :: A5 n e xs r
 | (m,.dfr) :: r=>(m,.dfr) :: A5 n e xs r
def cD (n:Nat) (σ:St):Option Obj→St
 | some (.arr _ e xs)=>⟨DA n e xs σ.env,A5 n e xs (Ua n σ.objs)⟩
 | some (.nest _ _ k e xs none)=>⟨DA n (.agg (.prod k (.slice e))) xs σ.env,A5 n (.agg (.prod k (.slice e))) xs (Ua n σ.objs)⟩
 | _=>σ
def frz (n:Nat) (σ:St):St:=if GF n=true then σ else cD n σ (lk n σ.objs)
mutual
/-- All but one who looked at the array n know nothing of it now. -/
def AV.drp (n:Nat):AV→AV
 | .sr m e' lo hi=>if m=n then .top else .sr m e' lo hi
 | .ep m e' i path off=>if m=n then .top else .ep m e' i path off
 | .nin m e' i len=>if m=n then .top else .nin m e' i len
 | .ag l=>.ag (AV.drps n l)
 | .tup l=>.tup (AV.drps n l)
 | .p t d=>.p t d
 | .raw v=>.raw v
 | .ip t d=>.ip t d
 | .bp m path off=>.bp m path off
 | .fn f=>.fn f
 | .clo f ns=>.clo f ns
 | .mp n=>.mp n
 | .yl n=>.yl n
 | .top=>.top
def AV.drps (n:Nat):List AV→List AV
 | []=>[]
 | x :: r=>AV.drp n x :: AV.drps n r
end
def FL (n:Nat):List (Nat×AV)→List (Nat×AV)
 | []=>[]
 | (s,x) :: r=>(s,x.drp n) :: FL n r
def Bg (n:Nat):List (Nat×Obj)→List (Nat×Obj)
 | []=>[]
 | (m,.arr et e' ys) :: r=>(m,.arr et e' ys) :: Bg n r
 | (m,.box et st fs) :: r=>(m,.box et st (AV.drps n fs)) :: Bg n r
 | (m,.mapo k v l) :: r=>(m,.mapo k v l) :: Bg n r
 | (m,.nest et iet k e' ys h) :: r=>(m,.nest et iet k e' ys h) :: Bg n r
 | (m,.frame tm fs) :: r=>(m,.frame tm (FL n fs)) :: Bg n r
 | (m,.loop L) :: r=>(m,.loop L) :: Bg n r
 | (m,.dfr) :: r=>(m,.dfr) :: Bg n r
mutual
def AV.names:AV→List Nat
 | .sr m _ _ _=>[m]
 | .ag l=>AV.namess l
 | .tup l=>AV.namess l
 | .p _ _=>[]
 | .raw _=>[]
 | .ip _ _=>[]
 | .bp _ _ _=>[]
 | .ep _ _ _ _ _=>[]
 | .nin _ _ _ _=>[]
 | .fn _=>[]
 | .clo _ _=>[]
 | .mp _=>[]
 | .yl _=>[]
 | .top=>[]
def AV.namess:List AV→List Nat
 | []=>[]
 | x :: r=>x.names++AV.namess r
end
def GG (σ:St):Option Operand→Option (Option AV)
 | none=>some none
 | some x=>(Av σ x).map some
def Ee (σ:St) (e:Ty):Nat→List (Nat×Operand)→Option (List e.den)
 | _,[]=>some []
 | k,(i,x) :: r=>if i=k then match Av σ x with
   | some av=>match Ml false σ e av,Ee σ e (k+1) r with
    | some y,some ys=>some (y :: ys)
    | _,_=>none
   | none=>none
  else none
def Hn:AV→Bool
 | .p (.prod _ _) _=>false
 | .p _ _=>true
 | .raw u=>u.oneCell'
 | .ag _=>false
 | .tup _=>false
 | .top=>false
 | _=>true
def FM (σ:St):Option AV→Option AV→Option AV
 | some (.p t _),some (.ag l)=>(Ml false σ t (.ag l)).map fun d=>.p t d
 | _,x=>x
def DW (σ:St) (offs:List (Nat×Nat)):List AV→List (Nat×Operand)→Option (List AV)
 | fs,[]=>some fs
 | fs,(i,x) :: r=>match FM σ fs[i]? (Av σ x) with
  | some av=>if Hn av=true∧(fs[i]?.map AV.cells)=some av.cells∧offs[i]?=some (Bx fs i,av.cells) then DW σ offs (fs.set i av) r else none
  | none=>none
def Fm (l:Bool) (σ:St):(ts:List Ty)→List Operand→Option (KP ts)
 | [],[]=>some ()
 | t :: ts,x :: xs=>match Av σ x with
  | some av=>match Ml l σ t av,Fm l σ ts xs with
   | some y,some ys=>some (y,ys)
   | _,_=>none
  | none=>none
 | _,_=>none
def Ya (name:Nat):RV→AV
 | .p t d=>.p t d
 | .own _ e xs=>.sr name e 0 xs.length
def QQ (name:Nat):RV→List (Nat×Obj)
 | .p _ _=>[]
 | .own et e xs=>[(name,.arr et e xs)]
def MS:Nat→List RV→List AV
 | _,[]=>[]
 | n,r :: l=>Ya n r :: MS (n+10000) l
def Cl:Nat→List RV→List (Nat×Obj)
 | _,[]=>[]
 | n,r :: l=>QQ n r++Cl (n+10000) l
def Ij (name:Nat):List RV→AV
 | []=>.raw (.tuple #[])
 | [r]=>Ya name r
 | l=>.tup (MS name l)
/-! Maps -/
def Ub:(t:Ty)→t.den→t.den→Bool
 | .int _,a,b=>(a:Int)==b
 | .bool,a,b=>(a:Bool)==b
 | .str,a,b=>(a:ByteArray)==b
 | .prod t u,a,b=>Ub t a.1 b.1&&Ub u a.2 b.2
 | .agg t,a,b=>Ub t a b
 | .slice _,_,_=>false
 | .ref _,_,_=>false
def cE:Ty→Bool
 | .prod (.int _) (.int _)=>true
 | _=>false
def Ue:Ty→Bool
 | .int _=>true
 | .bool=>true
 | .str=>true
 | .prod _ _=>false
 | .agg t=>cE t
 | .slice _=>false
 | .ref _=>false
def FN (kt vt:Ty) (k:kt.den):List (kt.den×vt.den)→Option vt.den
 | []=>none
 | x :: r=>if Ub kt k x.1=true then some x.2 else FN kt vt k r
def R4 (kt vt:Ty) (k:kt.den) (v:vt.den):List (kt.den×vt.den)→List (kt.den×vt.den)
 | []=>[(k,v)]
 | x :: r=>if Ub kt k x.1=true then (k,v) :: r else x :: R4 kt vt k v r
abbrev BU:=Option (Prop×AV×List (Nat×Obj))
def G0 (x:AV) (lo hi:Option AV):BU :=
 match x,lo,hi with
 | .p (.slice e) l,none,some (.p (.int _) h)=>some (0≤h∧h≤l.length,.p (.slice e) (sub l 0 h.toNat),[])
 | .p (.slice e) l,some (.p (.int _) a),none=>some (0≤a∧a≤l.length,.p (.slice e) (sub l a.toNat l.length),[])
 | .p (.slice e) l,some (.p (.int _) a),some (.p (.int _) h)=>some (0≤a∧a≤h∧h≤l.length,.p (.slice e) (sub l a.toNat h.toNat),[])
 | .p .str s,none,some (.p (.int _) h)=>some (0≤h∧h≤s.size,.p .str (s.extract 0 h.toNat),[])
 | .p .str s,some (.p (.int _) a),none=>some (0≤a∧a≤s.size,.p .str (s.extract a.toNat s.size),[])
 | .p .str s,some (.p (.int _) a),some (.p (.int _) h)=>some (0≤a∧a≤h∧h≤s.size,.p .str (s.extract a.toNat h.toNat),[])
 | .sr n e b c,none,some (.p (.int _) h)=>some (0≤h∧h≤(c-b:Nat),.sr n e b (b+h.toNat),[])
 | .sr n e b c,some (.p (.int _) a),none=>some (0≤a∧a≤(c-b:Nat),.sr n e (b+a.toNat) c,[])
 | .sr n e b c,some (.p (.int _) a),some (.p (.int _) h)=>some (0≤a∧a≤h∧h≤(c-b:Nat),.sr n e (b+a.toNat) (b+h.toNat),[])
 | _,_,_=>none
def GH:Option AV→BU
 | some v=>some (True,v,[])
 | none=>none
def J3:Option AV→Option AV→Option AV→BU
 | some (.p .bool true),x,_=>GH x
 | some (.p .bool false),_,y=>GH y
 | _,_,_=>none
def JL (d:Nat) (t:TypeId):Option TI→BU
 | some ⟨.agg u,_,_,_⟩=>some (True,.bp d [] 0,[(d,.box t true (pI u))])
 | some ⟨.int k,_,_,_⟩=>some (True,.bp d [] 0,[(d,.box t false [pH (.int k)])])
 | some ⟨.bool,_,_,_⟩=>some (True,.bp d [] 0,[(d,.box t false [pH .bool])])
 | some ⟨.str,_,_,_⟩=>some (True,.bp d [] 0,[(d,.box t false [pH .str])])
 | some ⟨.slice e,_,_,_⟩=>some (True,.bp d [] 0,[(d,.box t false [pH (.slice e)])])
 | some ⟨.ref k,_,_,_⟩=>some (True,.bp d [] 0,[(d,.box t false [pH (.ref k)])])
 | _=>none
def RG (d:Nat) (t:TypeId):Option TI→Option AV→BU
 | some ⟨.agg u,_,_,_⟩,some (.p (.agg u') v)=>if u=u' then some (True,.bp d [] 0,[(d,.box t true (zR u' v))]) else none
 | some ⟨.agg u,_,_,_⟩,some (.ag l)=>if l.map AV.cells=(pI u).map AV.cells then some (True,.bp d [] 0,[(d,.box t true l)]) else none
 | some ⟨.int k,_,_,_⟩,some v=>if CF (.int k) v then some (True,.bp d [] 0,[(d,.box t false [v])]) else none
 | some ⟨.bool,_,_,_⟩,some v=>if CF .bool v then some (True,.bp d [] 0,[(d,.box t false [v])]) else none
 | some ⟨.str,_,_,_⟩,some v=>if CF .str v then some (True,.bp d [] 0,[(d,.box t false [v])]) else none
 | some ⟨.slice e,_,_,_⟩,some v=>if CF (.slice e) v then some (True,.bp d [] 0,[(d,.box t false [v])]) else none
 | some ⟨.ref k,_,_,_⟩,some v=>if CF (.ref k) v then some (True,.bp d [] 0,[(d,.box t false [v])]) else none
 | _,_=>none
def IE (σ:St) (parts:List (Nat×Operand)):Option TI→BU
 | some ⟨.agg u,offs,_,_⟩=>GH ((DW σ offs (pI u) parts).map AV.ag)
 | _=>none
def BV (pu:Bool) (d:Nat) (n:Nat) (el:TypeId) (e:Ty):Option (List e.den)→BU
 | some xs=>some (xs.length=n∧n*e.size≤16777216,if pu then .p (.slice e) xs else .sr d e 0 n,if pu then [] else [(d,.arr el e xs)])
 | none=>none
def BS (pu:Bool) (σ:St) (d:Nat) (n:Nat) (parts:List (Nat×Operand)):Option TI→BU
 | some ⟨.slice e,_,el,_⟩=>BV pu d n el e (Ee σ e 0 parts)
 | _=>none
def KR (d:Nat) (el iet:TypeId) (n:Nat) (k e:Ty):Option k.den→AV→BU
 | some a,.raw (.slice none 0 0)=>some (n=1∧k.size+1≤16777216,.sr d (.agg (.prod k (.slice e))) 0 1,[(d,.nest el iet k e [(a,[])] none)])
 | _,_=>none
def IG (σ:St) (d:Nat) (el iet:TypeId) (n:Nat):Ty→Option AV→BU
 | .agg (.prod k (.slice e)),some (.ag [x,y])=>KR d el iet n k e (Ex false σ k x) y
 | _,_=>none
def IH (σ:St) (d:Nat) (iet:TypeId) (n:Nat):List (Nat×Operand)→Option TI→BU
 | [(0,x)],some ⟨.slice t,_,el,_⟩=>IG σ d el iet n t (Av σ x)
 | _,_=>none
def GB (tb:Tb) (σ:St) (d:Nat) (n:Nat) (parts:List (Nat×Operand)) (ti:Option TI):Option TypeId→BU
 | some iet=>IH σ d iet n parts ti
 | none=>BS (inB d tb.pure) σ d n parts ti
def Ho (ty:Ty) (fs:List AV) (path:List Nat) (off:Nat):Option AV→BU
 | some v=>if CF ty v=true∧NZ fs path=some off then some (True,v,[]) else none
 | none=>none
def Ef (ty:Ty) (path:List Nat) (off:Nat):Option Obj→BU
 | some (.box _ st fs)=>Ho ty fs path off (Ii st fs path)
 | _=>none
def Hp (ty e:Ty) (path:List Nat) (off:Nat):Option PV→BU
 | some ⟨t,d⟩=>if ty=t∧KO path e=some off then some (True,.p t d,[]) else none
 | none=>none
def Hq (ty e:Ty) (i:Nat) (path:List Nat) (off:Nat):Option (List e.den)→BU
 | some ys=>Hp ty e path off (RE path e (ys.getD i e.dflt))
 | none=>none
def Mm (n:Nat) (ty:Ty) (i off:Nat) (k e:Ty) (x:k.den×List e.den):List Nat→BU
 | [0]=>if ty=k∧off=0 then some (True,.p k x.1,[]) else none
 | [1]=>if ty=.slice e∧off=k.size then some (True,.nin n e i x.2.length,[]) else none
 | _=>none
def Eg (n:Nat) (ty e:Ty) (i:Nat) (path:List Nat) (off:Nat):Option Obj→BU
 | some (.arr _ e' xs)=>Hq ty e i path off (BL (.slice e) ⟨.slice e',xs⟩)
 | some (.nest _ _ k e' xs none)=>if e=.agg (.prod k (.slice e')) then Mm n ty i off k e' (xs.getD i (k.dflt,[])) path else none
 | _=>none
def Ik (σ:St):Option TI→Option AV→BU
 | some ti,some (.bp n path off)=>Ef ti.ty path off (lk n σ.objs)
 | some ti,some (.ep n e i path off)=>Eg n ti.ty e i path off (lk n σ.objs)
 | some ti,some (.ip u v)=>if ti.ty=u then some (True,.p u v,[]) else none
 | _,_=>none
def Hr (o:Option (Nat×Nat)) (o':Option Nat):Option PV→BU
 | some ⟨t,d⟩=>if o.map (·.1)=o' then some (True,.ip t d,[]) else none
 | none=>none
def R5 (v:Nat→AV):Option (Nat×Nat)→BU
 | some (k,_)=>some (True,v k,[])
 | none=>none
def Na (f:Nat) (o:Option (Nat×Nat)):AV→BU
 | .bp n path off=>R5 (fun k=>.bp n (path++[f]) (off+k)) o
 | .ep n e i path off=>R5 (fun k=>.ep n e i (path++[f]) (off+k)) o
 | .ip (.agg u) v=>Hr o (JJ u f) (Ga u f v)
 | _=>none
def Gb (f:Nat):Option TI→Option AV→BU
 | some ⟨.agg _,offs,0,_⟩,some x=>Na f offs[f]? x
 | _,_=>none
def JM (offs:List (Nat×Nat)) (x:AV):AV→BU
 | .p (.int _) k=>if 0≤k then Na k.toNat offs[k.toNat]? x else none
 | _=>none
def FO:Option TI→Option AV→Option AV→BU
 | some ⟨.slice e,_,_,_⟩,some (.p (.slice e') l),some (.p (.int _) k)=>if e=e' then some (0≤k∧k<l.length,.ip e' (l.getD k.toNat e'.dflt),[]) else none
 | some ⟨.slice e,_,_,_⟩,some (.sr n e' lo hi),some (.p (.int _) k)=>if e=e' then some (0≤k∧k<(hi-lo:Nat),.ep n e' (lo+k.toNat) [] 0,[]) else none
 | some ⟨.agg _,offs,_+1,_⟩,some x,some i=>JM offs x i
 | _,_,_=>none
def EA:Option TI→Option AV→Option AV→BU
 | some ⟨.str,_,_,_⟩,some (.p .str s),some (.p (.int _) k)=>some (0≤k∧k<s.size,.p (.int .u8) ((s.data.getD k.toNat 0).toNat:Int),[])
 | _,_,_=>none
def R6:Option AV→BU
 | some (.bp n path off)=>some (True,.bp n path off,[])
 | some (.ip t v)=>some (True,.ip t v,[])
 | some (.ep n e i path off)=>some (True,.ep n e i path off,[])
 | _=>none
def cF (a b:Bool):BinOp→BU
 | .eql=>some (True,.p .bool (a==b),[])
 | .neq=>some (True,.p .bool (a != b),[])
 | _=>none
def QR:Option TI→Bool
 | some ⟨.bool,_,_,_⟩=>true
 | _=>false
def O9 (op:BinOp) (ti:Option TI):Option AV→Option AV→BU
 | some (.p (.int k) a),some (.p (.int k') b)=>some ((zN op k a k' b).1,(zN op k a k' b).2,[])
 | some (.p .str a),some (.p .str b)=>some ((Ud a b op).1,(Ud a b op).2,[])
 | some (.p .bool a),some (.p .bool b)=>if QR ti=true then cF a b op else none
 | _,_=>none
def tS:UnOp→Option AV→BU
 | .not,some (.p .bool b)=>some (True,.p .bool (!b),[])
 | .neg,some (.p (.int k) a)=>some (Lc k (0-a),.p (.int k) (0-a),[])
 | _,_=>none
def Il:Option TI→Option TI→Option AV→BU
 | some ⟨.int _,_,_,_⟩,some ⟨.int k,_,_,_⟩,some (.p (.int _) a)=>some (Lc k a,.p (.int k) a,[])
 | _,_,_=>none
def KS (d:Nat) (el:TypeId) (e:Ty) (n m:Int):Option TI→BU
 | some ti=>some (n=m∧0≤n∧n.toNat*ti.bytes≤AP,.sr d e 0 n.toNat,[(d,.arr el e (List.replicate n.toNat e.dflt))])
 | none=>none
def Hs (tb:Tb) (d:Nat):Option TI→Option AV→Option AV→BU
 | some ⟨.slice e,_,el,_⟩,some (.p (.int .i64) n),some (.p (.int .i64) m)=>KS d el e n m (lk el tb.ty)
 | _,_,_=>none
def Ey:Option TI→Option AV→Option (Option AV)→Option (Option AV)→BU
 | some ⟨.slice e,_,_,_⟩,some (.p (.slice e') l),some a,some h=>if e=e' then G0 (.p (.slice e') l) a h else none
 | some ⟨.slice e,_,_,_⟩,some (.sr n e' b c),some a,some h=>if e=e' then G0 (.sr n e' b c) a h else none
 | some ⟨.str,_,_,_⟩,some (.p .str s),some a,some h=>G0 (.p .str s) a h
 | _,_,_,_=>none
def EE (i:Nat):Option AV→BU
 | some (.tup l)=>GH l[i]?
 | _=>none
def RH:Option TI→Option AV→BU
 | some ⟨.slice _,_,_,_⟩,some (.p (.slice _) l)=>some (True,.p (.int .i64) (l.length:Int),[])
 | some ⟨.slice _,_,_,_⟩,some (.sr _ _ lo hi)=>some (True,.p (.int .i64) ((hi-lo:Nat):Int),[])
 | some ⟨.slice _,_,_,_⟩,some (.nin _ _ _ len)=>some (True,.p (.int .i64) (len:Int),[])
 | some ⟨.slice _,_,_,_⟩,some (.raw (.slice none 0 0))=>some (True,.p (.int .i64) (0:Int),[])
 | some ⟨.str,_,_,_⟩,some (.p .str s)=>some (True,.p (.int .i64) (s.size:Int),[])
 | _,_=>none
def El (d:Nat) (el:TypeId) (e:Ty):Option TI→Option (List e.den)→BU
 | some ti,some ys=>some (ys.length*ti.bytes≤AP,.sr d e 0 ys.length,[(d,.arr el e ys)])
 | _,_=>none
def EF (tb:Tb) (σ:St) (d:Nat) (v:AV):Option TI→BU
 | some ⟨.slice e,_,el,_⟩=>El d el e (lk el tb.ty) (RF σ e v)
 | _=>none
def CP (tb:Tb) (σ:St) (d:Nat) (t u:TypeId):Option AV→Option AV→BU
 | some (.raw (.slice none 0 0)),some v=>if t=u then EF tb σ d v (lk t tb.ty) else none
 | _,_=>none
def PA:Option AV→Option AV→BU
 | some (.p (.int k) a),some (.p (.int k') b)=>if k=k' then some (True,.p (.int k) (if b<a then b else a),[]) else none
 | _,_=>none
def PB:Option AV→Option AV→BU
 | some (.p (.int k) a),some (.p (.int k') b)=>if k=k' then some (True,.p (.int k) (if a<b then b else a),[]) else none
 | _,_=>none
def JN (d:Nat) (sp:Af):Option (KP sp.ins)→BU
 | some ds=>if sp.lend=false∨(sp.out ds).all RV.flat=true then some (sp.pre ds,Ij d (sp.out ds),Cl d (sp.out ds)) else none
 | none=>none
def II (σ:St) (d:Nat) (xs:List Operand):Option Af→BU
 | some sp=>JN d sp (Fm sp.lend σ sp.ins xs)
 | none=>none
def KT (tb:Tb) (σ:St) (d:Nat) (xs:List Operand):Option AV→BU
 | some (.fn f)=>II σ d xs (lk f tb.fns)
 | _=>none
def Cn (tb:Tb) (σ:St) (d:Nat):Builtin→List Operand→List TypeId→BU
 | .len,[x],[t]=>RH (lk t tb.ty) (Av σ x)
 | .append,[x,y],[t,u]=>CP tb σ d t u (Av σ x) (Av σ y)
 | .min,[x,y],[_,_]=>PA (Av σ x) (Av σ y)
 | .max,[x,y],[_,_]=>PB (Av σ x) (Av σ y)
 | _,_,_=>none
def G7 (σ:St):List Operand→Option (List Nat)
 | []=>some []
 | x :: r=>match Av σ x,G7 σ r with
  | some (.bp n [] 0),some ns=>some (n :: ns)
  | _,_=>none
def Nb (f:FuncId):Option (List Nat)→BU
 | some ns=>some (True,.clo f ns,[])
 | none=>none
def Wm (σ:St) (fn:Fn) (first captured:List Operand):BU :=
 match fn,first with
 | .func f,[]=>Nb f (G7 σ captured)
 | _,_=>none
def Fx (d:Nat):Option TI→Option TI→BU
 | some tk,some te=>some (True,.mp d,[(d,.mapo tk.ty te.ty [])])
 | _,_=>none
def Fy (tb:Tb) (d:Nat):List (Nat×Nat)→BU
 | [(k,e)]=>Fx d (lk k tb.ty) (lk e tb.ty)
 | _=>none
def FP (tb:Tb) (d:Nat):Option TI→BU
 | some ⟨.ref 2,offs,_,_⟩=>Fy tb d offs
 | _=>none
def KU (vt:Ty) (ok:Bool) (r:Option vt.den):BU :=
 if ok then some (True,.tup [.p vt (r.getD vt.dflt),.p .bool r.isSome],[]) else some (True,.p vt (r.getD vt.dflt),[])
def JO (kt vt:Ty) (l:List (kt.den×vt.den)) (ok:Bool):Option kt.den→BU
 | some k=>if Ue kt=true then KU vt ok (FN kt vt k l) else none
 | none=>none
def G8 (tb:Tb) (σ:St) (kid eid:Nat) (x:AV) (ok:Bool):Option Obj→BU
 | some (.mapo kt vt l)=>if (lk kid tb.ty).map TI.ty=some kt∧(lk kid tb.ty).map TI.el=some 0∧(lk eid tb.ty).map TI.ty=some vt then JO kt vt l ok (Ml false σ kt x) else none
 | _=>none
def Ht (tb:Tb) (σ:St) (ok:Bool):Option TI→Option AV→Option AV→BU
 | some ⟨.ref 2,[(k,e)],_,_⟩,some (.mp n),some x=>G8 tb σ k e x ok (lk n σ.objs)
 | _,_,_=>none
def Cg (tb:Tb) (σ:St) (d:Nat) (xs:List Operand) (ts:List TypeId):Callee→BU
 | .builtin b=>Cn tb σ d b xs ts
 | .value g=>KT tb σ d xs (Av σ g)
 | _=>none
def aq (tb:Tb) (σ:St) (d:Nat):Op→BU
 | .move x=>GH (Av σ x)
 | .assign x=>GH (Av σ x)
 | .pick c x y=>J3 (Av σ c) (Av σ x) (Av σ y)
 | .alloc t=>JL d t (lk t tb.ty)
 | .box t x=>RG d t (lk t tb.ty) (Av σ x)
 | .build t parts=>IE σ parts.toList (lk t tb.ty)
 | .buildSlice t n parts=>GB tb σ d n parts.toList (lk t tb.ty) (lk d tb.nests)
 | .load t x=>Ik σ (lk t tb.ty) (Av σ x)
 | .fieldAddr s x f=>Gb f (lk s tb.ty) (Av σ x)
 | .indexAddr t x i=>FO (lk t tb.ty) (Av σ x) (Av σ i)
 | .index t x i=>EA (lk t tb.ty) (Av σ x) (Av σ i)
 | .nilCheck x=>R6 (Av σ x)
 | .binOp op t x y _=>O9 op (lk t tb.ty) (Av σ x) (Av σ y)
 | .unOp op _ x=>tS op (Av σ x)
 | .convert s t x=>Il (lk s tb.ty) (lk t tb.ty) (Av σ x)
 | .makeSlice t l c=>Hs tb d (lk t tb.ty) (Av σ l) (Av σ c)
 | .slice t x lo hi none=>Ey (lk t tb.ty) (Av σ x) (GG σ lo) (GG σ hi)
 | .extract x i=>EE i (Av σ x)
 | .call c=>Cg tb σ d c.args.toList c.argTypes.toList c.callee
 | .makeFunc fn first captured=>Wm σ fn first.toList captured.toList
 | .makeMap t none=>FP tb d (lk t tb.ty)
 | .lookup t x i ok=>Ht tb σ ok (lk t tb.ty) (Av σ x) (Av σ i)
 | _=>none
def Nc:AV→Bool
 | .ag _=>false
 | _=>true
def JP (st:Bool) (fs:List AV) (v:AV):List Nat→Option (List AV)
 | []=>if st then match v with
   | .p (.agg u) d=>some (zR u d)
   | .ag l=>some l
   | _=>none
  else if Nc v then some [v] else none
 | [k]=>if st&&Nc v then some (fs.set k v) else none
 | k :: r=>if st then match fs[k]?,v with
   | some (.p t d),.p u x=>(R3 r t d ⟨u,x⟩).map fun y=>fs.set k (.p t y)
   | _,_=>none
  else none
abbrev Cj:=Option (Prop×St)
def Em (σ:St) (n:Nat) (et:TypeId) (st:Bool) (ty:Ty) (fs:List AV) (path:List Nat) (off:Nat) (v:AV):Option AV→Option (List AV)→Cj
 | some u,some fs'=>if MR ty u=true∧CF ty v=true∧NZ fs path=some off∧fs'.map AV.cells=fs.map AV.cells then some (True,⟨σ.env,upd n (.box et st fs') σ.objs⟩) else none
 | _,_=>none
def DX (σ:St) (n:Nat) (ty:Ty) (path:List Nat) (off:Nat) (v:AV):Option Obj→Cj
 | some (.box et st fs)=>Em σ n et st ty fs path off v (Ii st fs path) (JP st fs v path)
 | _=>none
def FQ (σ:St) (n:Nat) (et:TypeId) (e:Ty) (i:Nat) (path:List Nat) (off:Nat) (ys:List e.den):Option e.den→Cj
 | some z=>if KO path e=some off then some (True,⟨σ.env,upd n (.arr et e (ys.set i z)) σ.objs⟩) else none
 | none=>none
def EH (σ:St) (n:Nat) (et:TypeId) (ty e:Ty) (i:Nat) (path:List Nat) (off:Nat):Option (List e.den)→Option ty.den→Cj
 | some ys,some w=>FQ σ n et e i path off ys (R3 path e (ys.getD i e.dflt) ⟨ty,w⟩)
 | _,_=>none
/-! A nested array's row -/
def KV (σ:St) (d n:Nat) (et iet:TypeId) (k e:Ty) (xs:List (k.den×List e.den)) (i bytes:Nat):Option (List e.den)→Cj
 | some ys=>if (lk d σ.objs).isNone=true then some (((xs.getD i (k.dflt,[])).2.length+ys.length)*bytes≤AP,
   ⟨(d,.sr d e 0 ((xs.getD i (k.dflt,[])).2.length+ys.length)) :: Dy n [] σ.env,(d,.arr iet e ((xs.getD i (k.dflt,[])).2++ys)) :: (n,.nest et iet k e xs (some i)) :: CO n [] σ.objs⟩) else none
 | none=>none
def Nf (σ:St) (d n:Nat) (el:TypeId) (e':Ty) (i:Nat) (v:AV):Option TI→Option Obj→Cj
 | some ti,some (.nest et iet k e xs none)=>if e'=e∧iet=el∧GF n=false then KV σ d n et iet k e xs i ti.bytes (RF σ e v) else none
 | _,_=>none
def MT (tb:Tb) (σ:St) (d n:Nat) (e':Ty) (i:Nat) (v:AV):Option TI→Cj
 | some ⟨.slice e,_,el,_⟩=>if e'=e then Nf σ d n el e i v (lk el tb.ty) (lk n σ.objs) else none
 | _=>none
def JQ (σ:St) (n m:Nat) (et iet:TypeId) (k e:Ty) (xs:List (k.den×List e.den)) (i hi:Nat):Option (List e.den)→Cj
 | some ys=>some (hi=ys.length,⟨Dy n [m] σ.env,(n,.nest et iet k e (xs.set i ((xs.getD i (k.dflt,[])).1,ys)) none) :: CO n [m] σ.objs⟩)
 | none=>none
def KW (σ:St) (n m:Nat) (et iet:TypeId) (k e:Ty) (xs:List (k.den×List e.den)) (i hi:Nat):Option Obj→Cj
 | some (.arr jet e2 ys)=>if jet=iet∧GF m=false∧GF n=false then JQ σ n m et iet k e xs i hi (BL (.slice e) ⟨.slice e2,ys⟩) else none
 | _=>none
def JR (σ:St) (d n m:Nat) (et iet:TypeId) (k e:Ty) (hi hi' bytes:Nat) (xs:List (k.den×List e.den)):Option (List (k.den×List e.den))→Cj
 | some ys=>some (hi=xs.length∧hi'=ys.length∧(xs.length+ys.length)*bytes≤AP,
   ⟨(d,.sr n (.agg (.prod k (.slice e))) 0 (xs.length+ys.length)) :: B7 [n,m] σ.env,(n,.nest et iet k e (xs++ys) none) :: Au [n,m] [n,m] σ.objs⟩)
 | none=>none
def KX (σ:St) (d n m:Nat) (et iet:TypeId) (k e:Ty) (hi hi' bytes:Nat) (xs:List (k.den×List e.den)):Option Obj→Cj
 | some (.nest _ iet' k' e' ys none)=>if iet'=iet∧n≠m∧GF m=false then JR σ d n m et iet k e hi hi' bytes xs (BL (.slice (.agg (.prod k (.slice e)))) ⟨.slice (.agg (.prod k' (.slice e'))),ys⟩) else none
 | _=>none
def QT (σ:St) (d n:Nat) (et iet:TypeId) (k e:Ty) (hi bytes:Nat) (xs:List (k.den×List e.den)):AV→Cj
 | .sr m _ 0 hi'=>KX σ d n m et iet k e hi hi' bytes xs (lk m σ.objs)
 | _=>none
def Ng (σ:St) (d m:Nat) (el iet:TypeId) (k e:Ty) (ys:List (k.den×List e.den)) (hi' bytes:Nat):Cj :=
 if (lk d σ.objs).isNone=true∧GF m=false then some (hi'=ys.length∧ys.length*bytes≤AP,
  ⟨(d,.sr d (.agg (.prod k (.slice e))) 0 ys.length) :: B7 [m] σ.env,(d,.nest el iet k e ys none) :: Au [m] [m] σ.objs⟩) else none
def Nh (σ:St) (d m:Nat) (el:TypeId) (t:Ty) (hi':Nat):Option TI→Option Obj→Cj
 | some ti,some (.nest _ iet k e ys none)=>if t=.agg (.prod k (.slice e)) then Ng σ d m el iet k e ys hi' ti.bytes else none
 | _,_=>none
def Wn (tb:Tb) (σ:St) (d:Nat):AV→Option TI→Cj
 | .sr m _ 0 hi',some ⟨.slice t,_,el,_⟩=>Nh σ d m el t hi' (lk el tb.ty) (lk m σ.objs)
 | _,_=>none
def KY (σ:St) (n m:Nat) (ty:Ty) (et iet:TypeId) (k e:Ty) (xs:List (k.den×List e.den)) (i hi:Nat) (path:List Nat) (off:Nat):Cj :=
 if ty=.slice e∧path=[1]∧off=k.size then KW σ n m et iet k e xs i hi (lk m σ.objs) else none
def DY (σ:St) (n:Nat) (ty e:Ty) (i:Nat) (path:List Nat) (off:Nat) (v:AV):Option Obj→Cj
 | some (.arr et e' xs)=>EH σ n et ty e i path off (BL (.slice e) ⟨.slice e',xs⟩) (Ml false σ ty v)
 | some (.nest et iet k e' xs (some j))=>match v with
  | .sr m E 0 hi=>if e=.agg (.prod k (.slice e'))∧i=j∧E=e' then KY σ n m ty et iet k e' xs i hi path off else none
  | _=>none
 | _=>none
def G9 (σ:St):Option TI→Option AV→Option AV→Cj
 | some ti,some (.bp n path off),some v=>DX σ n ti.ty path off v (lk n σ.objs)
 | some ti,some (.ep n e i path off),some v=>DY σ n ti.ty e i path off v (lk n σ.objs)
 | _,_,_=>none
def Eo (σ:St) (d n:Nat) (et:TypeId) (e:Ty) (hi:Nat) (bytes:Nat):Option (List e.den)→Option (List e.den)→Cj
 | some zs,some ys=>some ((hi+ys.length)*bytes≤AP,⟨(d,.sr n e 0 (hi+ys.length)) :: FL n σ.env,upd n (.arr et e (zs.take hi++ys)) (Bg n σ.objs)⟩)
 | _,_=>none
def CY (σ:St) (d n:Nat) (el:TypeId) (e:Ty) (hi:Nat) (v:AV) (ys:Option (List e.den)):Option TI→Option Obj→Cj
 | some ti,some (.arr et e' xs)=>if et=el then Eo σ d n et e hi ti.bytes (BL (.slice e) ⟨.slice e',xs⟩) ys else none
 | some ti,some (.nest et iet k e' xs none)=>if et=el∧e=.agg (.prod k (.slice e')) then QT σ d n et iet k e' hi ti.bytes xs v else none
 | _,_=>none
def EI (tb:Tb) (σ:St) (d:Nat) (n:Nat) (e':Ty) (hi:Nat) (v:AV):Option TI→Cj
 | some ⟨.slice e,_,el,_⟩=>if e=e' then CY σ d n el e hi v (RF σ e v) (lk el tb.ty) (lk n σ.objs) else none
 | _=>none
def Co (tb:Tb) (σ:St) (d:Option Nat) (t u:TypeId):Option AV→Option AV→Cj
 | some (.sr n e 0 hi),some v=>match d with
  | some d=>if t=u∧GF n=false then EI tb σ d n e hi v (lk t tb.ty) else none
  | none=>none
 | some (.nin n e i _),some v=>match d with
  | some d=>if t=u then MT tb σ d n e i v (lk t tb.ty) else none
  | none=>none
 | some (.raw (.slice none 0 0)),some v=>match d with
  | some d=>if t=u then Wn tb σ d v (lk t tb.ty) else none
  | none=>none
 | _,_=>none
def DK (tb:Tb) (σ:St) (d:Option Nat):Builtin→List Operand→List TypeId→Cj
 | .append,[x,y],[t,u]=>Co tb σ d t u (Av σ x) (Av σ y)
 | _,_,_=>none
def Cp (tb:Tb) (σ:St) (d:Option Nat) (xs:List Operand) (ts:List TypeId):Callee→Cj
 | .builtin b=>DK tb σ d b xs ts
 | _=>none
def GC (σ:St) (n:Nat) (kt vt:Ty) (l:List (kt.den×vt.den)):Option kt.den→Option vt.den→Cj
 | some k,some v=>if Ue kt=true then some (True,⟨σ.env,upd n (.mapo kt vt (R4 kt vt k v l)) σ.objs⟩) else none
 | _,_=>none
def QQX (tb:Tb) (σ:St) (n:Nat) (kid:Nat) (x y:AV):Option Obj→Cj
 | some (.mapo kt vt l)=>if (lk kid tb.ty).map TI.ty=some kt∧(lk kid tb.ty).map TI.el=some 0 then GC σ n kt vt l (Ml false σ kt x) (Ml false σ vt y) else none
 | _=>none
def JS (tb:Tb) (σ:St):Option TI→Option AV→Option AV→Option AV→Cj
 | some ⟨.ref 2,[(k,_)],_,_⟩,some (.mp n),some x,some y=>QQX tb σ n k x y (lk n σ.objs)
 | _,_,_,_=>none
def DZ (r:Cj):Option Nat→Cj
 | none=>r
 | some _=>none
def E7 (tb:Tb) (σ:St) (d:Option Nat):Op→Cj
 | .store t x y=>DZ (G9 σ (lk t tb.ty) (Av σ x) (Av σ y)) d
 | .mapUpdate t m x y=>DZ (JS tb σ (lk t tb.ty) (Av σ m) (Av σ x) (Av σ y)) d
 | .call c=>Cp tb σ d c.args.toList c.argTypes.toList c.callee
 | _=>none
def St.add (σ:St) (v:AV) (obs:List (Nat×Obj)):Option Nat→St
 | some d=>⟨(d,v) :: σ.env,obs++σ.objs⟩
 | none=>⟨σ.env,obs++σ.objs⟩
def Le:Option AV→List Nat
 | some v=>v.names
 | none=>[]
def DB (σ:St):List (Nat×Operand)→List Nat
 | []=>[]
 | (_,x) :: r=>Le (Av σ x)++DB σ r
def Lf:Option AV→List Nat
 | some (.ag l)=>AV.namess l
 | _=>[]
def Ep (σ:St):List (Nat×Operand)→List Nat
 | []=>[]
 | (_,x) :: r=>Lf (Av σ x)++Ep σ r
def CK (σ:St):Option AV→Option AV→List Nat
 | some (.ep n _ _ _ _),some v=>if CX (lk n σ.objs)=true then [] else v.names
 | _,_=>[]
def Im:Option AV→Option AV→Option AV→List Nat
 | some (.mp _),some v,some u=>v.names++u.names
 | _,_,_=>[]
def B4 (σ:St):Op→List Nat
 | .buildSlice _ _ parts=>DB σ parts.toList
 | .build _ parts=>Ep σ parts.toList
 | .store _ x y=>CK σ (Av σ x) (Av σ y)
 | .mapUpdate _ m x y=>Im (Av σ m) (Av σ x) (Av σ y)
 | _=>[]
def CZ:List Nat→St→St
 | [],σ=>σ
 | n :: r,σ=>CZ r (frz n σ)
def BT (obs:List (Nat×Obj)) (σ:St):Bool:=obs.all fun p=>(lk p.1 σ.objs).isNone
def J4 (tb:Tb) (σ:St) (o:Oper):BU→Cj
 | some (vc,v,obs)=>if BT obs σ=true then some (vc,σ.add v obs o.dst) else none
 | none=>E7 tb σ o.dst o.op
def Ni (tb:Tb) (o:Oper) (σ:St):Cj:=J4 tb σ o (aq tb σ (o.dst.getD 0) o.op)
def Fq (tb:Tb) (o:Oper) (σ:St):Cj:=Ni tb o (CZ (B4 σ o.op) σ)
def PC (want:Bool):Option AV→Option Bool
 | some (.p .bool b)=>some (b==want)
 | _=>none
def JT (σ:St) (want:Bool):Option Tmp→Option Bool
 | some g=>PC want (lk g σ.env)
 | none=>none
def EU (ops:List Oper) (σ:St):Option (Nat×Bool)→Option Bool
 | none=>some true
 | some (j,want)=>JT σ want ((ops[j]?).bind (·.dst))
def Uc (vc:Prop):Cj→Cj
 | some (vc',σ)=>some (vc∧vc',σ)
 | none=>none
mutual
/-- Operations in the order of the text. -/
def Bi (tb:Tb) (ops:List Oper):List Oper→St→Cj
 | [],σ=>some (True,σ)
 | o :: r,σ=>evG tb ops o r σ (EU ops σ o.guard)
def evG (tb:Tb) (ops:List Oper) (o:Oper) (r:List Oper) (σ:St):Option Bool→Cj
 | some true=>evK tb ops r (Fq tb o σ)
 | some false=>Bi tb ops r (σ.add (.raw undef) [] o.dst)
 | none=>none
def evK (tb:Tb) (ops:List Oper) (r:List Oper):Cj→Cj
 | some (vc,σ)=>Uc vc (Bi tb ops r σ)
 | none=>none
end
end
/- What an abstract state says of a frame and a world; that it is kept where nothing that it speaks of turns. -/
section
open Go Go.RowKit
theorem Cq {w:World} {b:Nat} {o:_root_.Go.Obj} (h:w.heap[b]?=some o):b<w.heap.size:=by
 rcases Nat.lt_or_ge b w.heap.size with h'|h'
 ·exact h'
 ·simp[Array.getElem?_eq_none h']at h
def blk:Value→Option Nat
 | .slice (some a) _ _=>some a.block
 | .pointer (some a)=>some a.block
 | .map (some b)=>some b
 | _=>none
def bk (v:Value) (b:Nat):Prop:=blk v=some b∨∃vs:Array Value,v=.tuple vs∧∃x∈vs.toList,blk x=some b
theorem KZ {a:Option Addr} {m c b:Nat}:bk (.slice a m c) b↔blk (.slice a m c)=some b:=by
 constructor
 ·intro h
  rcases h with h|⟨_,h,_⟩
  ·exact h
  ·cases h
 ·exact .inl
def plc:Value→Value
 | .tuple vs=>vs.getD 0 undef
 | v=>v
def DC (loc:Value) (sz lo hi:Nat) (v:Value):Prop :=
 ∃(a:Option Addr) (m c:Nat),loc=.slice a m c∧lo≤hi∧hi≤m∧∃(a':Option Addr) (c':Nat),v=.slice a' (hi-lo) c'∧hi-lo≤c'∧(lo=0→a'=a∧c'=c)∧(lo<hi→a'=a.map (·.add (lo*sz)))
structure Vw where
 w:World
 /-- blocks that no pure value looks at -/
 O:Nat→Prop
 /-- names that live -/
 L:Nat→Prop
 /-- where they lie -/
 ρ:Nat→Value
def R7 (V:Vw):AV→Value→Prop
 | .p t d,v=>Bk V.w V.O t v d
 | .raw u,v=>v=u
 | .sr n e lo hi,v=>V.L n∧DC (plc (V.ρ n)) e.size lo hi v
 | .ep n e i _ off,v=>V.L n∧∃g m c:Nat,plc (V.ρ n)=.slice (some ⟨g,0,none⟩) m c∧i<m∧v=.pointer (some ⟨g,i*e.size+off,none⟩)
 | .nin n _ i len,v=>V.L n∧∃(vs:Array Value) (a:Option Addr) (c:Nat),V.ρ n=.tuple vs∧vs[i+1]?=some v∧v=.slice a len c
 | .ip t d,v=>∃(ad:Addr) (cs:List Value),v=.pointer (some ad)∧¬V.O ad.block∧(∀(j:Nat) (u:Value),cs[j]?=some u→V.w.cell? (ad.add j)=some u)∧Bj V.w V.O t cs d
 | .bp n _ off,v=>V.L n∧∃b:Nat,V.ρ n=.pointer (some ⟨b,0,none⟩)∧v=.pointer (some ⟨b,off,none⟩)
 | .fn f,v=>v=.func (.func f) #[] #[]
 | .clo f ns,v=>v=.func (.func f) #[] (ns.map V.ρ).toArray∧∀n∈ns,V.L n∧∃b:Nat,V.ρ n=.pointer (some ⟨b,0,none⟩)
 | .mp n,v=>V.L n∧∃b:Nat,V.ρ n=.map (some b)∧v=.map (some b)
 | .yl n,v=>V.L n∧∃b:Nat,V.ρ n=.pointer (some ⟨b,0,none⟩)∧v=.func (.yield b) #[] #[]
 | .top,_=>True
 | .ag _,_=>False
 | .tup _,_=>False
def MU (V:Vw):AV→List Value→Prop
 | .p t d,cs=>Bj V.w V.O t cs d
 | av,cs=>∃v,cs=[v]∧v.oneCell'=true∧R7 V av v
def DQ (V:Vw):List AV→List Value→Prop
 | [],cs=>cs=[]
 | x :: r,cs=>∃c1 c2:List Value,cs=c1++c2∧MU V x c1∧DQ V r c2
def Io (V:Vw):List AV→List Value→Prop
 | [],vs=>vs=[]
 | x :: r,vs=>∃(v:Value) (l:List Value),vs=v :: l∧R7 V x v∧Io V r l
def B5 (V:Vw):AV→Value→Prop
 | .ag l,v=>∃cs:List Value,v=.agg cs.toArray∧DQ V l cs
 | .tup l,v=>∃vs:List Value,v=.tuple vs.toArray∧Io V l vs
 | av,v=>R7 V av v
def DR (w:World) (O:Nat→Prop) (e:Ty) (cells:List Value) (xs:List e.den):Prop :=
 ∀(i:Nat) (x:e.den),xs[i]?=some x→∃es:List Value,es.length=e.size∧(∀(j:Nat) (u:Value),es[j]?=some u→cells[i*e.size+j]?=some u)∧Bj w O e es x
def Nj (w:World) (O:Nat→Prop) (k v:Ty):List MapEntry→List (k.den×v.den)→Prop
 | [],[]=>True
 | e :: es,x :: xs=>Bk w O k e.key x.1∧Bk w O v e.val x.2∧Nj w O k v es xs
 | _,_=>False
def Uf (V:Vw) (et:TypeId) (e:Ty) (xs:List e.den) (loc:Value):Prop:=xs.length≤AP∧∃cells:List Value,V.w.ownsRow 0 et e.size loc xs.length cells∧DR V.w V.O e cells xs
def Wo (V:Vw) (iet:TypeId) (k e:Ty) (hole:Bool) (cells:List Value) (i:Nat) (x:k.den×List e.den) (u:Value):Prop :=
 ∃(c1:List Value) (v:Value),(∀(j:Nat) (z:Value),(c1++[v])[j]?=some z→cells[i*(k.size+1)+j]?=some z)∧Bj V.w V.O k c1 x.1 ∧
  ((hole=true∧u=.slice none 0 0)∨(hole=false∧v=u∧Uf V iet e x.2 u))
structure J5 (V:Vw) (et iet:TypeId) (k e:Ty) (xs:List (k.den×List e.den)) (h:Option Nat) (o:Value) (ins:List Value) (cells:List Value):Prop where
 max:xs.length≤AP
 len:ins.length=xs.length
 own:V.w.ownsRow 0 et (k.size+1) o xs.length cells
 row:∀(i:Nat) (x:k.den×List e.den) (u:Value),xs[i]?=some x→ins[i]?=some u→Wo V iet k e (h==some i) cells i x u
 dist:∀(i j b:Nat) (u v:Value),ins[i]?=some u→ins[j]?=some v→blk u=some b→blk v=some b→i=j
 out:∀(i b:Nat) (u:Value),ins[i]?=some u→blk u=some b→blk o≠some b
def Shp (loc o:Value) (ins:List Value):Prop:=loc=.tuple (o :: ins).toArray∨(loc=.slice none 0 0∧o=.slice none 0 0∧ins=[])
def A4 (V:Vw):Obj→Value→Prop
 | .arr et e xs,loc=>Uf V et e xs loc
 | .nest et iet k e xs h,loc=>∃(o:Value) (ins cells:List Value),Shp loc o ins∧J5 V et iet k e xs h o ins cells
 | .box et st fs,loc=>(st=false→fs.length=1)∧∃(b:Nat) (cs:List Value),loc=.pointer (some ⟨b,0,none⟩)∧V.w.heap[b]?=some (.cells cs.toArray et (0,0))∧DQ V fs cs
 | .mapo k v l,loc=>∃(b:Nat) (es:Array MapEntry) (clock:Nat),loc=.map (some b)∧V.w.heap[b]?=some (.map es clock)∧Nj V.w V.O k v es.toList l
 | .frame tm fs,loc=>loc=.pointer none∧∀s x,lk s fs=some x→B5 V x (tm.getD s undef)
 | .loop L,loc=>∃b:Nat,loc=.pointer (some ⟨b,0,none⟩)∧V.w.heap[b]?=some (.loop L)
 | .dfr,loc=>∃b:Nat,loc=.pointer (some ⟨b,0,none⟩)∧V.w.heap[b]?=some (.deferred (some []))
structure Frm (K:Nat→Prop) (w0 w:World):Prop where
 os:w.os=w0.os
 tape:w.tape=w0.tape
 output:w.output=w0.output
 size:w0.heap.size≤w.heap.size
 block:∀k,K k→w.heap[k]?=w0.heap[k]?
def GZ (σ:St) (n:Nat):Prop:=∃o,lk n σ.objs=some o
def own (O0:Nat→Prop) (σ:St) (ρ:Nat→Value) (b:Nat):Prop:=O0 b∨∃n,GZ σ n∧bk (ρ n) b
def vw (w:World) (O0:Nat→Prop) (σ:St) (ρ:Nat→Value):Vw:=⟨w,own O0 σ ρ,GZ σ,ρ⟩
def A36:Value→Bool
 | .slice _ _ _=>false
 | .tuple _=>false
 | _=>true
structure Fp where
 ds:List Deferred:=[]
 pin:List (Nat×Value):=[]
structure Bq (w0:World) (K O0:Nat→Prop) (nt:Nat) (ds:Fp) (σ:St) (ρ:Nat→Value) (a:Act) (w:World):Prop where
 frm:Frm K w0 w
 nt:a.tmps.size=nt
 defers:a.defers=ds.ds
 pin:∀p∈ds.pin,GZ σ p.1∧ρ p.1=p.2∧(A36 p.2=true∨GF p.1=true)
 objs:∀n o,lk n σ.objs=some o→A4 (vw w O0 σ ρ) o (ρ n)
 free:∀n b,GZ σ n→bk (ρ n) b→¬K b∧¬O0 b
 dist:∀n m b,GZ σ n→GZ σ m→bk (ρ n) b→bk (ρ m) b→n=m
 env:∀s v,lk s σ.env=some v→B5 (vw w O0 σ ρ) v (a.tmps.getD s undef)
/-! ### Kept -/
structure Ck (V V':Vw):Prop where
 O:∀b,b<V.w.heap.size→¬V.O b→¬V'.O b
 L:∀n,V.L n→V'.L n
 ρ:∀n,V.L n→V'.ρ n=V.ρ n
 heap:∀b,b<V.w.heap.size→¬V.O b→V'.w.heap[b]?=V.w.heap[b]?
theorem R7.keeps {V V':Vw} (h:Ck V V'):∀ {x:AV} {v:Value},R7 V x v→R7 V' x v
 | .p _ _,_,hx=>Bk.mono h.O h.heap hx
 | .raw _,_,hx=>hx
 | .sr n e lo hi,_,⟨hL,hs⟩=>⟨h.L n hL,by rw[h.ρ n hL];exact hs⟩
 | .ep n e i _ off,_,⟨hL,hs⟩=>⟨h.L n hL,by rw[h.ρ n hL];exact hs⟩
 | .nin n _ i len,_,⟨hL,hs⟩=>⟨h.L n hL,by rw[h.ρ n hL];exact hs⟩
 | .ip t d,_,⟨ad,cs,hv,hO,hc,hr⟩=>by
  have hlt:ad.block<V.w.heap.size:=by
   have hp:=t.size_pos
   have hl:=hr.length
   have:=block_lt_of_cell (hc 0 (cs[0]'(by omega)) (List.getElem?_eq_getElem (by omega)))
   rwa [B3]at this
  refine⟨ad,cs,hv,h.O _ hlt hO,fun j u hj=>?_,Bj.mono h.O h.heap hr⟩
  rw[World.cell?_of_block (w:=V.w) (w':=V'.w)]
  ·exact hc j u hj
  ·rw[B3];exact h.heap _ hlt hO
 | .bp n _ off,_,⟨hL,hs⟩=>⟨h.L n hL,by rw[h.ρ n hL];exact hs⟩
 | .fn _,_,hx=>hx
 | .clo f ns,_,⟨hv,hs⟩=>by
  refine⟨?_,fun n hn=>⟨h.L n (hs n hn).1,by rw[h.ρ n (hs n hn).1];exact(hs n hn).2⟩⟩
  rw[hv]
  congr 2
  exact List.map_congr_left fun n hn=>(h.ρ n (hs n hn).1).symm
 | .mp n,_,⟨hL,hs⟩=>⟨h.L n hL,by rw[h.ρ n hL];exact hs⟩
 | .yl n,_,⟨hL,hs⟩=>⟨h.L n hL,by rw[h.ρ n hL];exact hs⟩
 | .top,_,_=>trivial
 | .ag _,_,hx=>hx
 | .tup _,_,hx=>hx
theorem MU.keeps {V V':Vw} (h:Ck V V') {x:AV} {cs:List Value} (hx:MU V x cs):MU V' x cs:=by
 cases x
 case p t d=>exact(Bj.mono h.O h.heap hx:Bj V'.w V'.O t cs d)
 all_goals
  obtain⟨v,h1,h2,h3⟩:=hx
  exact⟨v,h1,h2,h3.keeps h⟩
theorem DQ.keeps {V V':Vw} (h:Ck V V'):∀ {l:List AV} {cs:List Value},DQ V l cs→DQ V' l cs
 | [],_,hx=>hx
 | _ :: _,_,⟨c1,c2,e,h1,h2⟩=>⟨c1,c2,e,h1.keeps h,h2.keeps h⟩
theorem Io.keeps {V V':Vw} (h:Ck V V'):∀ {l:List AV} {vs:List Value},Io V l vs→Io V' l vs
 | [],_,hx=>hx
 | _ :: _,_,⟨v,l,e,h1,h2⟩=>⟨v,l,e,h1.keeps h,h2.keeps h⟩
theorem B5.keeps {V V':Vw} (h:Ck V V') {x:AV} {v:Value} (hx:B5 V x v):B5 V' x v:=by
 cases x
 case ag l=>obtain⟨cs,h1,h2⟩:=hx;exact⟨cs,h1,h2.keeps h⟩
 case tup l=>obtain⟨cs,h1,h2⟩:=hx;exact⟨cs,h1,h2.keeps h⟩
 all_goals
  simp only[B5]at hx ⊢
  exact R7.keeps h hx
theorem DR.keeps {V V':Vw} (h:Ck V V') {e:Ty} {cells:List Value} {xs:List e.den} (hx:DR V.w V.O e cells xs):DR V'.w V'.O e cells xs:=fun i x hi =>
 let ⟨es,h1,h2,h3⟩:=hx i x hi
 ⟨es,h1,h2,Bj.mono h.O h.heap h3⟩
theorem Nj.mono {w w':World} {O O':Nat→Prop} (hO:∀b,b<w.heap.size→¬O b→¬O' b) (hw:∀b,b<w.heap.size→¬O b→w'.heap[b]?=w.heap[b]?) {k v:Ty} :
  ∀ {es:List MapEntry} {l:List (k.den×v.den)},Nj w O k v es l→Nj w' O' k v es l
 | [],[],h=>h
 | [],_ :: _,h=>h.elim
 | _ :: _,[],h=>h.elim
 | _ :: _,_ :: _,⟨h1,h2,h3⟩=>⟨h1.mono hO hw,h2.mono hO hw,h3.mono hO hw⟩
theorem IJ {w w':World} {et:TypeId} {sz n:Nat} {loc:Value} {cells:List Value} (hb:∀b,blk loc=some b→w'.heap[b]?=w.heap[b]?) (h:w.ownsRow 0 et sz loc n cells):w'.ownsRow 0 et sz loc n cells:=by
 obtain⟨h1,h2⟩:=h
 refine⟨h1,?_⟩
 rcases h2 with h2|⟨g,cap,cur,rfl,r1,r2,r3⟩
 ·exact .inl h2
 ·exact .inr ⟨g,cap,cur,rfl,r1,(hb g rfl).trans r2,r3⟩
theorem Uf.keeps {V V':Vw} (h:Ck V V') {et:TypeId} {e:Ty} {xs:List e.den} {loc:Value} (hb:∀b,blk loc=some b→V'.w.heap[b]?=V.w.heap[b]?) (hx:Uf V et e xs loc):Uf V' et e xs loc:=by
 obtain⟨hm,cells,h1,he⟩:=hx
 exact⟨hm,cells,IJ hb h1,he.keeps h⟩
theorem Wo.keeps {V V':Vw} (h:Ck V V') {iet:TypeId} {k e:Ty} {hole:Bool} {cells:List Value} {i:Nat} {x:k.den×List e.den} {u:Value} (hb:∀b,blk u=some b→V'.w.heap[b]?=V.w.heap[b]?) (hx:Wo V iet k e hole cells i x u):Wo V' iet k e hole cells i x u:=by
 obtain⟨c1,v,h1,h2,h3⟩:=hx
 refine⟨c1,v,h1,Bj.mono h.O h.heap h2,?_⟩
 rcases h3 with h3|⟨h3,h4,h5⟩
 ·exact .inl h3
 ·exact .inr ⟨h3,h4,h5.keeps h hb⟩
theorem A2 {o:Value} {ins:List Value} {b:Nat}:bk (.tuple (o :: ins).toArray) b↔blk o=some b∨∃(i:Nat) (u:Value),ins[i]?=some u∧blk u=some b:=by
 constructor
 ·rintro (h|⟨vs,h,x,hx,hb⟩)
  ·cases h
  ·injection h with h
   subst h
   simp only[List.mem_cons]at hx
   rcases hx with rfl|hx
   ·exact .inl hb
   ·obtain⟨i,hi⟩:=List.getElem?_of_mem hx
    exact .inr ⟨i,x,hi,hb⟩
 ·rintro (h|⟨i,u,hi,hb⟩)
  ·exact .inr ⟨_,rfl,o,by simp,h⟩
  ·exact .inr ⟨_,rfl,u,by simp[List.mem_of_getElem? hi],hb⟩
theorem Shp.bk {loc o:Value} {ins:List Value} {b:Nat} (h:Shp loc o ins):bk loc b↔bk (.tuple (o :: ins).toArray) b:=by
 rcases h with rfl|⟨rfl,rfl,rfl⟩
 ·exact Iff.rfl
 ·rw[A2,KZ]
  simp[blk]
theorem Shp.plc {loc o:Value} {ins:List Value} (h:Shp loc o ins):plc loc=o:=by
 rcases h with rfl|⟨rfl,rfl,rfl⟩<;>rfl
theorem Shp.tup {loc o:Value} {ins:List Value} {vs:Array Value} (h:Shp loc o ins) (hv:loc=.tuple vs):vs=(o :: ins).toArray:=by
 subst hv
 rcases h with h|⟨h,_⟩
 ·injection h
 ·cases h
theorem J5.keeps {V V':Vw} (h:Ck V V') {et iet:TypeId} {k e:Ty} {xs:List (k.den×List e.den)} {hl:Option Nat} {o:Value} {ins cells:List Value} (hb:∀b,bk (.tuple (o :: ins).toArray) b→V'.w.heap[b]?=V.w.heap[b]?) (hx:J5 V et iet k e xs hl o ins cells):J5 V' et iet k e xs hl o ins cells :=
 ⟨hx.max,hx.len,IJ (fun b h1=>hb b (A2.2 (.inl h1))) hx.own,fun i x u h1 h2=>(hx.row i x u h1 h2).keeps h (fun b h3=>hb b (A2.2 (.inr ⟨i,u,h2,h3⟩))),hx.dist,hx.out⟩
theorem R8 {w:World} {et:TypeId} {sz n b:Nat} {loc:Value} {cells:List Value} (h:w.ownsRow 0 et sz loc n cells) (hb:blk loc=some b):b<w.heap.size:=by
 rcases h.2 with ⟨rfl,_⟩|⟨g,cap,cur,rfl,r1,r2,r3⟩
 ·simp[blk]at hb
 ·simp[blk]at hb;subst hb;exact Cq r2
theorem J5.block_lt {V:Vw} {et iet:TypeId} {k e:Ty} {xs:List (k.den×List e.den)} {hl:Option Nat} {o:Value} {ins cells:List Value} (hx:J5 V et iet k e xs hl o ins cells) {b:Nat} (hb:bk (.tuple (o :: ins).toArray) b):b<V.w.heap.size:=by
 rcases A2.1 hb with h1|⟨i,u,h1,h2⟩
 ·exact R8 hx.own h1
 ·have hi:i<xs.length:=by have:=(List.getElem?_eq_some_iff.1 h1).1;rw[hx.len]at this;exact this
  obtain⟨c1,v,_,_,h3⟩:=hx.row i xs[i] u (List.getElem?_eq_getElem hi) h1
  rcases h3 with ⟨_,h3⟩|⟨_,_,_,ic,h3,_⟩
  ·rw[h3]at h2;simp[blk]at h2
  ·exact R8 h3 h2
theorem A4.keeps {V V':Vw} (h:Ck V V') {o:Obj} {loc:Value} (hb:∀b,bk loc b→V'.w.heap[b]?=V.w.heap[b]?) (hx:A4 V o loc):A4 V' o loc:=by
 cases o with
 | arr et e xs =>
  obtain⟨hm,cells,⟨h1,h2⟩,he⟩:=hx
  refine⟨hm,cells,⟨h1,?_⟩,he.keeps h⟩
  rcases h2 with h2|⟨g,cap,cur,rfl,r1,r2,r3⟩
  ·exact .inl h2
  ·exact .inr ⟨g,cap,cur,rfl,r1,(hb g (.inl rfl)).trans r2,r3⟩
 | box et st fs =>
  obtain⟨h0,b,cs,rfl,h1,h2⟩:=hx
  exact⟨h0,b,cs,rfl,(hb b (.inl rfl)).trans h1,h2.keeps h⟩
 | nest et iet k e xs hl =>
  obtain⟨o,ins,cells,hs,h1⟩:=hx
  exact⟨o,ins,cells,hs,h1.keeps h fun b hb'=>hb b (hs.bk.2 hb')⟩
 | mapo k v l =>
  obtain⟨b,es,cl,rfl,h1,h2⟩:=hx
  exact⟨b,es,cl,rfl,(hb b (.inl rfl)).trans h1,h2.mono h.O h.heap⟩
 | frame tm fs =>
  obtain⟨h0,h1⟩:=hx
  exact⟨h0,fun s x hs=>(h1 s x hs).keeps h⟩
 | loop L =>
  obtain⟨b,rfl,h1⟩:=hx
  exact⟨b,rfl,(hb b (.inl rfl)).trans h1⟩
 | dfr =>
  obtain⟨b,rfl,h1⟩:=hx
  exact⟨b,rfl,(hb b (.inl rfl)).trans h1⟩
theorem A4.block_lt {V:Vw} {o:Obj} {loc:Value} (hx:A4 V o loc) {b:Nat} (hb:bk loc b):b<V.w.heap.size:=by
 cases o with
 | arr et e xs =>
  obtain⟨hm,cells,⟨h1,h2⟩,he⟩:=hx
  rcases h2 with ⟨rfl,_⟩|⟨g,cap,cur,rfl,r1,r2,r3⟩
  ·simp[bk,blk]at hb
  ·simp[bk,blk]at hb;subst hb;exact Cq r2
 | box et st fs =>
  obtain⟨h0,b',cs,rfl,h1,h2⟩:=hx
  simp[bk,blk]at hb;subst hb;exact Cq h1
 | nest et iet k e xs hl =>
  obtain⟨o,ins,cells,hs,h1⟩:=hx
  exact h1.block_lt (hs.bk.1 hb)
 | mapo k v l =>
  obtain⟨b',es,cl,rfl,h1,h2⟩:=hx
  simp[bk,blk]at hb;subst hb;exact Cq h1
 | frame tm fs =>
  obtain⟨rfl,h1⟩:=hx
  simp[bk,blk]at hb
 | loop L =>
  obtain⟨b',rfl,h1⟩:=hx
  simp[bk,blk]at hb;subst hb;exact Cq h1
 | dfr =>
  obtain⟨b',rfl,h1⟩:=hx
  simp[bk,blk]at hb;subst hb;exact Cq h1
/-! ### Lookups -/
section
variable {α:Type}
theorem Ax (k:Nat):∀(l r:List (Nat×α)),lk k (l++r)=(lk k l).or (lk k r)
 | [],_=>by simp[lk]
 | (j,v) :: l,r=>by
  simp only[List.cons_append,lk]
  split
  ·simp
  ·exact Ax k l r
theorem Fz (k n:Nat) (u:α):∀l:List (Nat×α),lk k (upd n u l)=if k=n then (lk n l).map (fun _=>u) else lk k l
 | []=>by simp[lk,upd]
 | (j,v) :: l=>by
  simp only[upd]
  by_cases hn:n=j
  ·subst hn
   by_cases hk:k=n
   ·subst hk;simp[lk]
   ·simp[lk,hk,Fz k n u l]
  ·simp only[if_neg hn,lk]
   by_cases hk:k=n
   ·subst hk;simp[hn,Fz k k u l]
   ·by_cases hkj:k=j
    ·subst hkj;simp[hk]
    ·simp[hk,hkj,Fz k n u l]
theorem PD (k n:Nat):∀l:List (Nat×α),lk k (Ua n l)=if k=n then none else lk k l
 | []=>by simp[lk,Ua]
 | (j,v) :: l=>by
  simp only[Ua]
  by_cases hn:n=j
  ·subst hn
   rw[if_pos rfl,PD k n l]
   by_cases hk:k=n<;>simp[lk,hk]
  ·rw[if_neg hn]
   simp only[lk,PD k n l]
   by_cases hk:k=n
   ·subst hk;simp[hn]
   ·simp[hk]
end
end
/- A step that only adds: the abstract state holds behind it. -/
section
open Go Go.RowKit
def Dz (σ:St) (obs:List (Nat×Obj)):St:=⟨σ.env,obs++σ.objs⟩
structure QS (w:World) (O0:Nat→Prop) (σ:St) (ρ:Nat→Value) (v:AV) (obs:List (Nat×Obj)) (u:Value) (ρ':Nat→Value) (w':World):Prop where
 below:Below w.heap.size w w'
 rho:∀n,lk n obs=none→ρ' n=ρ n
 av:B5 (vw w' O0 (Dz σ obs) ρ') v u
 obj:∀n o,lk n obs=some o→A4 (vw w' O0 (Dz σ obs) ρ') o (ρ' n)
 new:∀n o b,lk n obs=some o→bk (ρ' n) b→w.heap.size≤b
 dist:∀n m o o' b,lk n obs=some o→lk m obs=some o'→bk (ρ' n) b→bk (ρ' m) b→n=m
theorem FT {α:Type} {k:Nat} {v:α}:∀ {l:List (Nat×α)},lk k l=some v→(k,v)∈l
 | (j,u) :: l,h=>by
  simp only[lk]at h
  split at h
  ·rename_i e;cases h;subst e;simp
  ·exact List.mem_cons_of_mem _ (FT h)
theorem Mn {obs:List (Nat×Obj)} {σ:St} (h:BT obs σ=true) {n:Nat} {o:Obj} (hn:lk n obs=some o):lk n σ.objs=none:=by
 simp only[BT,List.all_eq_true]at h
 simpa using h _ (FT hn)
theorem Ka {σ:St} {obs:List (Nat×Obj)} {n:Nat} (h:GZ (Dz σ obs) n):(∃o,lk n obs=some o)∨(lk n obs=none∧GZ σ n):=by
 obtain⟨o,h⟩:=h
 simp only[Dz,Ax]at h
 cases h':lk n obs with
 | some o'=>exact .inl ⟨o',rfl⟩
 | none=>rw[h']at h;exact .inr ⟨rfl,o,by simpa using h⟩
theorem Wp {σ:St} {obs:List (Nat×Obj)} (hf:BT obs σ=true) {n:Nat} (h:GZ σ n):GZ (Dz σ obs) n∧lk n obs=none:=by
 obtain⟨o,h⟩:=h
 have hn:lk n obs=none:=by
  cases h':lk n obs with
  | none=>rfl
  | some o'=>have:=Mn hf h';rw[this]at h;cases h
 exact⟨⟨o,by simp[Dz,Ax,hn,h]⟩,hn⟩
theorem HA {w w':World} {O0:Nat→Prop} {σ:St} {ρ ρ':Nat→Value} {obs:List (Nat×Obj)} (hf:BT obs σ=true)
  (hb:Below w.heap.size w w') (hr:∀n,lk n obs=none→ρ' n=ρ n) (hn:∀n o b,lk n obs=some o→bk (ρ' n) b→w.heap.size≤b) :
  Ck (vw w O0 σ ρ) (vw w' O0 (Dz σ obs) ρ') where
 O:=by
  intro b hlt hO hO'
  rcases hO' with h0|⟨n,hl,hb'⟩
  ·exact hO (.inl h0)
  ·rcases Ka hl with ⟨o,ho⟩|⟨hno,hl'⟩
   ·have:=hn n o b ho hb'
    have hlt:b<w.heap.size:=hlt
    omega
   ·exact hO (.inr ⟨n,hl',by rw[←hr n hno];exact hb'⟩)
 L:=fun n h=>(Wp hf h).1
 ρ:=fun n h=>hr n (Wp hf h).2
 heap:=fun b hlt _=>hb.block b hlt
theorem QS.keeps {w w':World} {O0:Nat→Prop} {σ:St} {ρ ρ':Nat→Value} {v:AV} {u:Value} {obs:List (Nat×Obj)} (hf:BT obs σ=true) (h:QS w O0 σ ρ v obs u ρ' w') :
  Ck (vw w O0 σ ρ) (vw w' O0 (Dz σ obs) ρ'):=HA hf h.below h.rho h.new
theorem Frm.below {K:Nat→Prop} {w0 w w':World} (h:Frm K w0 w) (hb:Below w.heap.size w w') (hK:∀b,K b→b<w0.heap.size):Frm K w0 w' where
 os:=hb.os.trans h.os
 tape:=hb.tape.trans h.tape
 output:=hb.output.trans h.output
 size:=Nat.le_trans h.size hb.size
 block:=fun k hk=>(hb.block k (Nat.lt_of_lt_of_le (hK k hk) h.size)).trans (h.block k hk)
theorem Nk (a:Act) (dst:Option Tmp) (u:Value):(a.put dst u).tmps.size=a.tmps.size:=by
 cases dst<;>simp[Act.put]
theorem JU (a:Act) (dst:Option Tmp) (u:Value):(a.put dst u).defers=a.defers:=by cases dst<;>rfl
theorem Lg (a:Act) (d:Nat) (u:Value) (s:Nat) (hd:d<a.tmps.size):(a.put (some d) u).tmps.getD s undef=if s=d then u else a.tmps.getD s undef:=by
 by_cases h:s=d
 ·subst h;simp[Act.put,hd]
 ·have:¬d=s:=fun e=>h e.symm
  simp[Act.put,h,this,Array.getElem?_setIfInBounds]
theorem Bq.add {w0:World} {K O0:Nat→Prop} {nt:Nat} {ds:Fp} {σ:St} {ρ:Nat→Value} {a:Act} {w:World} (h:Bq w0 K O0 nt ds σ ρ a w)
  (hK:∀b,K b→b<w0.heap.size) (hO:∀b,O0 b→b<w0.heap.size) {dst:Option Nat} (hd:∀d,dst=some d→d<nt)
  {v:AV} {obs:List (Nat×Obj)} {u:Value} {ρ':Nat→Value} {w':World} (hf:BT obs σ=true) (hq:QS w O0 σ ρ v obs u ρ' w') :
  Bq w0 K O0 nt ds (σ.add v obs dst) ρ' (a.put dst u) w':=by
 have hk:=hq.keeps hf
 have hobjs:(σ.add v obs dst).objs=obs++σ.objs:=by cases dst<;>rfl
 have hliv:∀n,GZ (σ.add v obs dst) n↔GZ (Dz σ obs) n:=fun n=>by simp[GZ,hobjs,Dz]
 have hvw:vw w' O0 (σ.add v obs dst) ρ'=vw w' O0 (Dz σ obs) ρ':=by
  have hl:GZ (σ.add v obs dst)=GZ (Dz σ obs):=funext fun n=>propext (hliv n)
  have ho:own O0 (σ.add v obs dst) ρ'=own O0 (Dz σ obs) ρ':=by
   funext b
   simp only[own,hl]
  simp only[vw,hl,ho]
 refine⟨h.frm.below hq.below hK,by rw[Nk];exact h.nt,by rw[JU];exact h.defers,fun p hp=>?_,?_,?_,?_,?_⟩
 ·obtain⟨h1,h2,h3⟩:=h.pin p hp
  have h4:=Wp hf h1
  exact⟨(hliv p.1).2 h4.1,(hq.rho _ h4.2).trans h2,h3⟩
 ·intro n o ho
  rw[hobjs,Ax]at ho
  rw[hvw]
  cases h':lk n obs with
  | some o'=>rw[h']at ho;cases ho;exact hq.obj n _ h'
  | none =>
   rw[h']at ho
   have ho':lk n σ.objs=some o:=by simpa using ho
   rw[hq.rho n h']
   refine(h.objs n o ho').keeps hk fun b hb=>?_
   exact hq.below.block b ((h.objs n o ho').block_lt hb)
 ·intro n b hl hb
  rcases Ka ((hliv n).1 hl) with ⟨o,ho⟩|⟨hno,hl'⟩
  ·have hge:=hq.new n o b ho hb
   have:=h.frm.size
   exact⟨fun hk'=>by have:=hK b hk';omega,fun hk'=>by have:=hO b hk';omega⟩
  ·rw[hq.rho n hno]at hb
   exact h.free n b hl' hb
 ·intro n m b hl hl' hb hb'
  rcases Ka ((hliv n).1 hl) with ⟨o,ho⟩|⟨hno,hn⟩<;>rcases Ka ((hliv m).1 hl') with ⟨o',ho'⟩|⟨hno',hn'⟩
  ·exact hq.dist n m o o' b ho ho' hb hb'
  ·have h1:=hq.new n o b ho hb
   rw[hq.rho m hno']at hb'
   obtain⟨o2,h2⟩:=hn'
   have:=(h.objs m o2 h2).block_lt hb'
   have:b<w.heap.size:=this
   omega
  ·have h1:=hq.new m o' b ho' hb'
   rw[hq.rho n hno]at hb
   obtain⟨o2,h2⟩:=hn
   have:=(h.objs n o2 h2).block_lt hb
   have:b<w.heap.size:=this
   omega
  ·rw[hq.rho n hno]at hb
   rw[hq.rho m hno']at hb'
   exact h.dist n m b hn hn' hb hb'
 ·intro s x hs
  rw[hvw]
  cases dst with
  | none=>exact(h.env s x hs).keeps hk
  | some d =>
   simp only[St.add,lk]at hs
   rw[Lg a d u s (by rw[h.nt];exact hd d rfl)]
   split at hs
   ·rename_i e;cases hs;rw[if_pos e];exact hq.av
   ·rename_i e;rw[if_neg e];exact(h.env s x hs).keeps hk
theorem QS.still {w:World} {O0:Nat→Prop} {σ:St} {ρ:Nat→Value} {v:AV} {u:Value} (h:B5 (vw w O0 σ ρ) v u):QS w O0 σ ρ v [] u ρ w where
 below:=Below.refl _ _
 rho:=fun _ _=>rfl
 av:=h
 obj:=fun _ _ h=>by cases h
 new:=fun _ _ _ h=>by cases h
 dist:=fun _ _ _ _ _ h=>by cases h
def EV (ρ:Nat→Value) (n:Nat) (x:Value):Nat→Value:=fun m=>if m=n then x else ρ m
theorem Ba (ρ:Nat→Value) (n:Nat) (x:Value):EV ρ n x n=x:=by simp[EV]
theorem QS.one {w w':World} {O0:Nat→Prop} {σ:St} {ρ:Nat→Value} {v:AV} {u loc:Value} {n:Nat} {o:Obj} (hb:Below w.heap.size w w')
  (hnew:∀b,bk loc b→w.heap.size≤b)
  (hav:B5 (vw w' O0 (Dz σ [(n,o)]) (EV ρ n loc)) v u)
  (hobj:A4 (vw w' O0 (Dz σ [(n,o)]) (EV ρ n loc)) o loc):QS w O0 σ ρ v [(n,o)] u (EV ρ n loc) w' where
 below:=hb
 rho:=fun m hm=>by
  simp only[lk]at hm
  split at hm
  ·cases hm
  ·rename_i e;simp[EV,e]
 av:=hav
 obj:=fun m o' hm=>by
  simp only[lk]at hm
  split at hm
  ·rename_i e;cases hm;subst e;rw[Ba];exact hobj
  ·cases hm
 new:=fun m o' b hm hb'=>by
  simp only[lk]at hm
  split at hm
  ·rename_i e;subst e;rw[Ba]at hb';exact hnew b hb'
  ·cases hm
 dist:=fun m m' o1 o2 b h1 h2 _ _=>by
  simp only[lk]at h1 h2
  split at h1
  ·split at h2
   ·omega
   ·cases h2
  ·cases h1
end
/- What the executor reads off an abstract value is so. -/
section
open Go Go.RowKit
theorem A6 {t:Ty} {p:PV} {d:t.den} (h:BL t p=some d):p=⟨t,d⟩:=by
 obtain⟨u,x⟩:=p
 simp only[BL]at h
 split at h
 ·rename_i e
  subst e
  simpa using h
 ·cases h
theorem BW {e e':Ty} {xs:List e'.den} {ys:List e.den} (h:BL (.slice e) ⟨.slice e',xs⟩=some ys):e'=e∧HEq xs ys:=by
 have h':=A6 h
 injection h' with h1 h2
 injection h1 with h1
 exact⟨h1,h2⟩
theorem Mo {α:Type} (xs:List α) {lo hi:Nat} (h:hi≤xs.length):(sub xs lo hi).length=hi-lo:=by
 simp[sub];omega
theorem Wq {α:Type} (xs:List α) (lo hi i:Nat) {x:α} (h:(sub xs lo hi)[i]?=some x):xs[lo+i]?=some x∧i<hi-lo:=by
 simp only[sub,List.getElem?_take,List.getElem?_drop]at h
 split at h
 ·rename_i hi';exact⟨h,hi'⟩
 ·cases h
theorem f6 {w:World} {O':Nat→Prop} {et:TypeId} {e:Ty} {xs:List e.den} {loc v:Value} {cells:List Value} {lo hi:Nat} (hsr:∀b,blk loc=some b→¬O' b)
  (hm:xs.length≤AP) (how:w.ownsRow 0 et e.size loc xs.length cells) (hel:DR w O' e cells xs) (hv:DC loc e.size lo hi v):Bj w O' (.slice e) [v] (sub xs lo hi):=by
 obtain⟨a,m,c,hloc,hlo,hhi,a',c',rfl,hc',h0,h1⟩:=hv
 have hmx:m=xs.length:=by
  rcases how.2 with ⟨he,hn⟩|⟨g,cap,cur,he,_⟩
  ·rw[hloc]at he;injection he;omega
  ·rw[hloc]at he;injection he
 subst hmx
 have hl:=Mo xs (lo:=lo) hhi
 refine⟨a',c',by rw[hl],by rw[hl];exact hc',by rw[hl];omega,?_⟩
 by_cases hlt:lo<hi
 ·right
  rcases how.2 with ⟨he,hn⟩|⟨g,cap,cur,he,r⟩
  ·omega
  ·have hcell:=World.ownsRow.cells how (g:=g) (by rw[he];rfl)
   have ha:a=some ⟨g,0,none⟩:=by rw[hloc]at he;injection he
   subst ha
   refine⟨_,h1 hlt,hsr _ (by rw[he];simp only[blk,B3]),fun i x hi'=>?_⟩
   obtain⟨hx,hlt'⟩:=Wq xs lo hi i hi'
   obtain⟨es,hes,hc,hr⟩:=hel (lo+i) x hx
   refine⟨es,hes,fun j u hj=>?_,hr⟩
   have:=hcell _ u (hc j u hj)
   rw[C0]
   rwa [Nat.add_mul,Nat.add_assoc]at this
 ·left
  have:(sub xs lo hi).length=0:=by rw[hl];omega
  exact List.eq_nil_of_length_eq_zero this
theorem Gn {w:World} {base:Nat} {et:TypeId} {sz n:Nat} {s:Value} {xs:List Value} (h:w.ownsRow base et sz s n xs):plc s=s:=by
 rcases h.2 with ⟨rfl,_⟩|⟨g,cap,cur,rfl,_⟩<;>rfl
theorem RT {V:Vw} {et:TypeId} {e:Ty} {xs:List e.den} {loc:Value} (h:A4 V (.arr et e xs) loc):plc loc=loc:=by
 obtain⟨_,_,h,_⟩:=h
 exact Gn h
theorem Wr {V:Vw} {O':Nat→Prop} (hO:∀b,¬V.O b→¬O' b) {et:TypeId} {e:Ty} {xs:List e.den} {loc v:Value} {lo hi:Nat} (hsr:∀b,blk loc=some b→¬O' b)
  (ho:A4 V (.arr et e xs) loc) (hv:DC (plc loc) e.size lo hi v):Bj V.w O' (.slice e) [v] (sub xs lo hi):=by
 rw[RT ho]at hv
 obtain⟨hm,cells,how,hel⟩:=ho
 exact f6 hsr hm how (fun i x hi=>let ⟨es,h1,h2,h3⟩:=hel i x hi;⟨es,h1,h2,h3.mono (fun b _ hb=>hO b hb) (fun _ _ _=>rfl)⟩) hv
theorem F0 {w:World} {et:TypeId} {sz n:Nat} {s:Value} {xs:List Value} (h:w.ownsRow 0 et sz s n xs):DC s sz 0 n s:=by
 rcases h.2 with ⟨rfl,hn⟩|⟨g,cap,cur,rfl,_,_,hcap,_⟩
 ·exact⟨none,0,0,rfl,by omega,by omega,none,0,by rw[hn],by omega,fun _=>⟨rfl,rfl⟩,fun h=>by omega⟩
 ·exact⟨some ⟨g,0,none⟩,n,cap,rfl,by omega,by omega,some ⟨g,0,none⟩,cap,by simp,by omega,fun _=>⟨rfl,rfl⟩,fun _=>by simp[Ld]⟩
theorem Uw {V:Vw} {O':Nat→Prop} (hO:∀b,¬V.O b→¬O' b) {et:TypeId} {e:Ty} {xs:List e.den} {u:Value} (hsr:∀b,blk u=some b→¬O' b) (h:Uf V et e xs u):Bj V.w O' (.slice e) [u] xs:=by
 have h1:=h
 obtain⟨_,_,how,_⟩:=h1
 have:=Wr (V:=V) hO hsr (et:=et) (e:=e) (xs:=xs) (loc:=u) h (by rw[Gn how];exact F0 how)
 rwa [Hm]at this
theorem Mp {V:Vw} {O':Nat→Prop} (hO:∀b,¬V.O b→¬O' b) {et iet:TypeId} {k e:Ty} {xs:List (k.den×List e.den)} {o:Value} {ins cells:List Value} (h:J5 V et iet k e xs none o ins cells)
  (hsr:∀(i b:Nat) (u:Value),ins[i]?=some u→blk u=some b→¬O' b):DR V.w O' (.agg (.prod k (.slice e))) cells xs:=by
 intro i x hi
 have hlt:i<ins.length:=by rw[h.len];exact(List.getElem?_eq_some_iff.1 hi).1
 obtain⟨c1,v,h1,h2,h3⟩:=h.row i x ins[i] hi (List.getElem?_eq_getElem hlt)
 rcases h3 with ⟨h3,_⟩|⟨_,rfl,h4⟩
 ·cases h3
 ·have hr:=Uw hO (fun b hb=>hsr i b _ (List.getElem?_eq_getElem hlt) hb) h4
  refine⟨c1++[ins[i]],by simp[Ty.size,h2.length],h1,?_⟩
  exact(⟨c1,[ins[i]],rfl,h2.mono (fun b _ hb=>hO b hb) (fun _ _ _=>rfl),hr⟩:Bj V.w O' (.prod k (.slice e)) _ x)
theorem Yb {V:Vw} {O':Nat→Prop} (hO:∀b,¬V.O b→¬O' b) {et iet:TypeId} {k e:Ty} {xs:List (k.den×List e.den)} {loc v:Value} {lo hi:Nat} (hsr:∀b,bk loc b→¬O' b)
  (ho:A4 V (.nest et iet k e xs none) loc) (hv:DC (plc loc) (k.size+1) lo hi v):Bj V.w O' (.slice (.agg (.prod k (.slice e)))) [v] (sub (α:=k.den×List e.den) xs lo hi):=by
 obtain⟨o,ins,cells,hs,h⟩:=ho
 rw[hs.plc]at hv
 exact f6 (e:=.agg (.prod k (.slice e))) (xs:=xs) (fun b hb=>hsr b (hs.bk.2 (A2.2 (.inl hb)))) h.max h.own (Mp hO h fun i b u h1 h2=>hsr b (hs.bk.2 (A2.2 (.inr ⟨i,u,h1,h2⟩)))) hv
theorem Ux {V:Vw} {ob:Obj} {loc:Value} {a:Option Addr} {m c:Nat} (ho:A4 V ob loc) (h:plc loc=.slice a m c):∃et sz cells,V.w.ownsRow 0 et sz (.slice a m c) m cells∧m≤AP:=by
 cases ob with
 | arr et e xs =>
  have h1:=RT ho
  obtain⟨hm,cells,how,_⟩:=ho
  rw[h1]at h
  subst h
  have hm':m=xs.length:=by
   rcases how.2 with ⟨he,hn⟩|⟨g,cap,cur,he,_⟩
   ·injection he;omega
   ·injection he
  subst hm'
  exact⟨et,_,cells,how,hm⟩
 | nest et iet k e xs hl =>
  obtain⟨o,ins,cells,hs,hN⟩:=ho
  rw[hs.plc]at h
  subst h
  have how:=hN.own
  have hm':m=xs.length:=by
   rcases how.2 with ⟨he,hn⟩|⟨g,cap,cur,he,_⟩
   ·injection he;omega
   ·injection he
  subst hm'
  exact⟨et,_,cells,how,hN.max⟩
 | box et st fs=>obtain⟨_,b,cs,rfl,_⟩:=ho;cases h
 | mapo k v l=>obtain⟨b,_,_,rfl,_⟩:=ho;cases h
 | frame tm fs=>obtain⟨rfl,_⟩:=ho;cases h
 | loop L=>obtain⟨b,rfl,_⟩:=ho;cases h
 | dfr=>obtain⟨b,rfl,_⟩:=ho;cases h
theorem Lh {V V':Vw} (hw:V'.w=V.w) (hO:V'.O=V.O) {et iet:TypeId} {k e:Ty} {xs:List (k.den×List e.den)} {h:Option Nat} {loc:Value} (ho:A4 V (.nest et iet k e xs h) loc):A4 V' (.nest et iet k e xs h) loc:=by
 obtain⟨o,ins,cells,hl,hN⟩:=ho
 refine⟨o,ins,cells,hl,hN.max,hN.len,by rw[hw];exact hN.own,fun i x u h1 h2=>?_,hN.dist,hN.out⟩
 obtain⟨c1,v,h3,h4,h5⟩:=hN.row i x u h1 h2
 refine⟨c1,v,h3,by rw[hw,hO];exact h4,?_⟩
 rcases h5 with h5|⟨h5,h6,hm,ic,h7,h8⟩
 ·exact .inl h5
 ·exact .inr ⟨h5,h6,hm,ic,by rw[hw];exact h7,by rw[hw,hO];exact h8⟩
theorem pJ {V V':Vw} (hw:V'.w=V.w) (hO:∀b,¬V.O b→¬V'.O b) {et iet:TypeId} {k e:Ty} {xs:List (k.den×List e.den)} {h:Option Nat} {loc:Value} (ho:A4 V (.nest et iet k e xs h) loc):A4 V' (.nest et iet k e xs h) loc:=by
 obtain⟨o,ins,cells,hl,hN⟩:=ho
 refine⟨o,ins,cells,hl,hN.max,hN.len,by rw[hw];exact hN.own,fun i x u h1 h2=>?_,hN.dist,hN.out⟩
 obtain⟨c1,v,h3,h4,h5⟩:=hN.row i x u h1 h2
 refine⟨c1,v,h3,h4.mono (fun b _ hb=>hO b hb) (fun b _ _=>by rw[hw]),?_⟩
 rcases h5 with h5|⟨h5,h6,hm,ic,h7,h8⟩
 ·exact .inl h5
 ·refine .inr ⟨h5,h6,hm,ic,by rw[hw];exact h7,fun i x hi=>?_⟩
  obtain⟨es,g1,g2,g3⟩:=h8 i x hi
  exact⟨es,g1,g2,g3.mono (fun b _ hb=>hO b hb) (fun b _ _=>by rw[hw])⟩
theorem Ws {V:Vw} {et iet:TypeId} {k e:Ty} {xs:List (k.den×List e.den)} {h:Option Nat} {loc v:Value} {vs:Array Value} {i:Nat} {z:k.den×List e.den}
  (ho:A4 V (.nest et iet k e xs h) loc) (hvs:loc=.tuple vs) (hv:vs[i+1]?=some v):xs[i]?=some (xs.getD i z):=by
 obtain⟨o,ins,cells,hs,h⟩:=ho
 obtain rfl:=hs.tup hvs
 have hv:ins[i]?=some v:=by simpa using hv
 have hlt:i<xs.length:=by rw[←h.len];exact(List.getElem?_eq_some_iff.1 hv).1
 rw[List.getElem?_eq_getElem hlt,List.getD_eq_getElem?_getD,List.getElem?_eq_getElem hlt];rfl
theorem RU {w:World} {base:Nat} {et:TypeId} {sz n m c:Nat} {a:Option Addr} {xs:List Value} (h:w.ownsRow base et sz (.slice a m c) n xs):m=n:=by
 rcases h.2 with ⟨he,hn⟩|⟨g,cap,cur,he,_⟩
 ·injection he;omega
 ·injection he
theorem zS {V:Vw} {ob:Obj} {loc v:Value} {vs:Array Value} {i len c:Nat} {a:Option Addr} (ho:A4 V ob loc) (hvs:loc=.tuple vs) (hv:vs[i+1]?=some v) (hve:v=.slice a len c):len≤AP:=by
 subst hvs
 cases ob with
 | arr et e xs =>
  obtain⟨hm,cells,how,_⟩:=ho
  rcases how.2 with ⟨he,_⟩|⟨g,cap,cur,he,_⟩<;>cases he
 | nest et iet k e xs hl =>
  obtain⟨o,ins,cells,hs,hN⟩:=ho
  obtain rfl:=hs.tup rfl
  have hv:ins[i]?=some v:=by simpa using hv
  have hlt:i<xs.length:=by rw[←hN.len];exact(List.getElem?_eq_some_iff.1 hv).1
  obtain⟨c1,v',h1,h2,h3⟩:=hN.row i xs[i] v (List.getElem?_eq_getElem hlt) hv
  rcases h3 with ⟨_,h3⟩|⟨_,rfl,h4,ic,how,_⟩
  ·rw[hve]at h3;injection h3 with h5 h6;omega
  ·rw[hve]at how
   rw[RU how];exact h4
 | box et st fs=>obtain⟨_,b,cs,h,_⟩:=ho;cases h
 | mapo k v l=>obtain⟨b,_,_,h,_⟩:=ho;cases h
 | frame tm fs=>obtain⟨h,_⟩:=ho;cases h
 | loop L=>obtain⟨b,h,_⟩:=ho;cases h
 | dfr=>obtain⟨b,h,_⟩:=ho;cases h
theorem zT {V:Vw} {O':Nat→Prop} (hO:∀b,¬V.O b→¬O' b) {et iet:TypeId} {k e:Ty} {xs:List (k.den×List e.den)} {loc v:Value} {vs:Array Value} {i:Nat} {x:k.den×List e.den} (hsr:∀b,bk loc b→¬O' b)
  (ho:A4 V (.nest et iet k e xs none) loc) (hvs:loc=.tuple vs) (hv:vs[i+1]?=some v) (hx:xs[i]?=some x):Bj V.w O' (.slice e) [v] x.2:=by
 obtain⟨o,ins,cells,hs,h⟩:=ho
 obtain rfl:=hs.tup hvs
 have hv:ins[i]?=some v:=by simpa using hv
 obtain⟨c1,v',h1,h2,h3⟩:=h.row i x v hx hv
 rcases h3 with ⟨h3,_⟩|⟨_,rfl,h4⟩
 ·cases h3
 ·exact Uw hO (fun b hb=>hsr b (hs.bk.2 (A2.2 (.inr ⟨i,_,hv,hb⟩)))) h4
section
variable {V:Vw} {O':Nat→Prop} {l:Bool} {σ:St}
theorem f7 (hO:∀b,¬V.O b→¬O' b) (hsr:l=true→∀b,¬O' b) (hobj:∀n o,lk n σ.objs=some o→A4 V o (V.ρ n))
  {t:Ty} {x:AV} {d:t.den} {cs:List Value} (h:Ex l σ t x=some d) (hx:MU V x cs):Bj V.w O' t cs d:=by
 unfold Ex at h
 split at h
 ·rename_i u d'
  have:=A6 h
  injection this with h1 h2
  subst h1
  cases h2
  have hx:Bj V.w V.O u cs d':=hx
  exact hx.mono (fun b _ hb=>hO b hb) (fun _ _ _=>rfl)
 ·rename_i e n e' lo hi
  split at h
  ·rename_i hc
   obtain⟨hl',rfl⟩:=hc
   have hl:=hl'
   obtain⟨v,rfl,_,hL,hv⟩:=hx
   cases hn:lk n σ.objs with
   | none=>rw[hn]at h;simp[QP]at h
   | some o =>
    rw[hn]at h
    cases o with
    | box et st fs=>simp[QP]at h
    | mapo k v l=>simp[QP]at h
    | frame tm fs=>simp[QP]at h
    | loop L=>simp[QP]at h
    | dfr=>simp[QP]at h
    | nest et iet k e2 xs hl =>
     cases hl with
     | some i=>simp[QP]at h
     | none =>
      simp only[QP]at h
      obtain⟨h1,h2⟩:=BW h
      subst h1
      cases h2
      exact Yb hO (fun b _=>hsr hl' b) (hobj n _ hn) hv
    | arr et e2 xs =>
     simp only[QP]at h
     obtain⟨h1,h2⟩:=BW h
     subst h1
     cases h2
     exact Wr hO (fun b _=>hsr hl b) (hobj n _ hn) hv
  ·cases h
 ·rename_i e n e' i len
  split at h
  ·rename_i hc
   obtain⟨hl,rfl⟩:=hc
   obtain⟨v,rfl,_,hL,vs,a,c,hvs,hvi,_⟩:=hx
   cases hn:lk n σ.objs with
   | none=>rw[hn]at h;simp[O8]at h
   | some o =>
    rw[hn]at h
    unfold O8 at h
    split at h
    ·rename_i et iet k e2 xs ho
     cases ho
     obtain⟨h1,h2⟩:=BW h
     subst h1
     cases h2
     exact zT hO (fun b _=>hsr hl b) (hobj n _ hn) hvs hvi (Ws (hobj n _ hn) hvs hvi)
    ·cases h
  ·cases h
 ·obtain⟨v,rfl,_,hv⟩:=hx
  have hv:v=_:=hv
  subst hv
  cases h
  exact⟨none,0,rfl,by simp,by simp[AP],.inl rfl⟩
 ·cases h
theorem tT (hO:∀b,¬V.O b→¬O' b) (hsr:l=true→∀b,¬O' b) (hobj:∀n o,lk n σ.objs=some o→A4 V o (V.ρ n)) :
  ∀ {fs:List AV} {t:Ty} {d:t.den} {cs:List Value},JK l σ fs t=some d→DQ V fs cs→Bj V.w O' t cs d
 | [],t,d,cs,h,hx=>by simp[JK]at h
 | [x],t,d,cs,h,hx=>by
  obtain⟨c1,c2,rfl,h1,h2⟩:=hx
  have h2:c2=[]:=h2
  subst h2
  rw[List.append_nil]
  simp only[JK]at h
  exact f7 hO hsr hobj h h1
 | x :: y :: r,t,d,cs,h,hx=>by
  obtain⟨c1,c2,rfl,h1,h2⟩:=hx
  cases t
  case prod a b =>
   simp only[JK]at h
   cases e1:Ex l σ a x with
   | none=>rw[e1]at h;simp[KQ]at h
   | some d1 =>
    cases e2:JK l σ (y :: r) b with
    | none=>rw[e1,e2]at h;simp[KQ]at h
    | some d2 =>
     rw[e1,e2]at h
     simp only[KQ]at h
     cases h
     exact⟨c1,c2,rfl,f7 hO hsr hobj e1 h1,tT hO hsr hobj e2 h2⟩
  all_goals simp[JK]at h
theorem zU {t:Ty} {x:AV} {d:t.den} {v:Value} (h:Ex l σ t x=some d) (hp:∀u d',x≠.p u d') (hx:B5 V x v):MU V x [v]∧t.wrap [v]=v:=by
 unfold Ex at h
 split at h
 ·exact absurd rfl (hp _ _)
 ·obtain⟨hL,a,m,c,_,_,_,a',c',rfl,_⟩:=hx
  refine⟨⟨_,rfl,rfl,?_⟩,rfl⟩
  exact⟨hL,a,m,c,by assumption,by assumption,by assumption,a',c',rfl,by assumption⟩
 ·obtain⟨hL,vs,a,c,h1,h2,rfl⟩:=hx
  exact⟨⟨_,rfl,rfl,hL,vs,a,c,h1,h2,rfl⟩,rfl⟩
 ·have hv:v=_:=hx
  subst hv
  exact⟨⟨_,rfl,rfl,rfl⟩,rfl⟩
 ·cases h
theorem MV (hO:∀b,¬V.O b→¬O' b) (hsr:l=true→∀b,¬O' b) (hobj:∀n o,lk n σ.objs=some o→A4 V o (V.ρ n))
  {t:Ty} {x:AV} {d:t.den} {v:Value} (h:Ml l σ t x=some d) (hx:B5 V x v):Bk V.w O' t v d:=by
 unfold Ml at h
 split at h
 ·rename_i t fs
  obtain⟨cs,rfl,hcs⟩:=hx
  exact⟨cs,(tT hO hsr hobj h hcs:Bj V.w O' t cs d),rfl⟩
 ·by_cases hp:∃u d',x=.p u d'
  ·obtain⟨u,d',rfl⟩:=hp
   have h:BL t ⟨u,d'⟩=some d:=by simpa only[Ex] using h
   have:=A6 h
   injection this with h1 h2
   subst h1
   cases h2
   exact Bk.mono (fun b _ hb=>hO b hb) (fun _ _ _=>rfl) hx
  ·obtain⟨h1,h2⟩:=zU h (fun u d' e=>hp ⟨u,d',e⟩) hx
   exact⟨[v],f7 hO hsr hobj h h1,h2.symm⟩
end
end
/- The table of types against the program; loads; addresses. -/
section
open Go Go.RowKit
def Wt:Ty→Value→Bool
 | .agg _,.agg _=>true
 | .agg _,_=>false
 | .prod _ _,_=>false
 | _,.agg _=>false
 | _,_=>true
def Nl (P : Program) (id : TypeId) (a b : IntKind) : Prop := ∃ f0 f1 : Field, P.underlying id = some (.struct #[f0, f1]) ∧ ((f0.name != "_") = true ∧ (f1.name != "_") = true) ∧ (f0.offset = 0 ∧ f1.offset = 1) ∧ (P.underlying f0.type = some (.int a) ∧ P.underlying f1.type = some (.int b)) ∧ P.stoodInHeld id = false
def R9 (P:Program) (id:TypeId):Ty→Nat→Prop
 | .agg (.prod (.int a) (.int b)),0=>Nl P id a b
 | _,_=>True
def isI (k:IntKind):Option TypeDesc→Bool
 | some (.int k')=>k==k'
 | _=>false
theorem Wu {k:IntKind} {d:Option TypeDesc} (h:isI k d=true):d=some (.int k):=by
 unfold isI at h
 split at h
 ·rw[beq_iff_eq.1 h]
 ·cases h
def A2N (P:Program) (id:TypeId) (a b:IntKind):Option TypeDesc→Bool
 | some (.struct ⟨[f0, f1]⟩) => (f0.name != "_") && (f1.name != "_") && f0.offset == 0 && f1.offset == 1 && isI a (P.underlying f0.type) && isI b (P.underlying f1.type) && P.stoodInHeld id == false
 | _=>false
def tU (P:Program) (id:TypeId):Ty→Nat→Bool
 | .agg (.prod (.int a) (.int b)),0=>A2N P id a b (P.underlying id)
 | _,_=>true
theorem tV {P:Program} {id:TypeId} {t:Ty} {el:Nat} (h:tU P id t el=true):R9 P id t el:=by
 unfold tU at h
 unfold R9
 split at h
 ·unfold A2N at h
  split at h
  ·rename_i f0 f1 hu
   simp only[Bool.and_eq_true,beq_iff_eq]at h
   obtain⟨⟨⟨⟨⟨⟨h1,h2⟩,h3⟩,h4⟩,h5⟩,h6⟩,h7⟩:=h
   exact⟨f0,f1,hu,⟨h1,h2⟩,⟨h3,h4⟩,⟨Wu h5,Wu h6⟩,h7⟩
  ·cases h
 ·trivial
def ED (P:Program) (tb:Tb) (id:TypeId) (ti:TI):Prop :=
 (((∀p∈ti.offs,p.2≠0)∧0<ti.bytes∧R9 P id ti.ty ti.el)∧∃(i:TypeInfo) (z:Value),P.info? id=some i∧i.size=ti.ty.size∧i.bytes=ti.bytes∧i.zero=some z∧z.cells=ti.ty.zero.toArray) ∧
 match ti.ty with
 | .int k=>P.underlying id=some (.int k)
 | .bool=>P.underlying id=some .bool
 | .str=>P.underlying id=some .string
 | .slice e=>P.underlying id=some (.slice ti.el)∧∃te,lk ti.el tb.ty=some te∧te.ty=e
 | .agg _=>(∃fs:Array Field,ti.el=0∧P.underlying id=some (.struct fs)∧ti.offs.map some=fs.toList.map fun f=>(P.info? f.type).map fun i=>(f.offset,i.size)) ∨
   ∃n e i,ti.el≠0∧P.underlying id=some (.array n e)∧P.info? e=some i∧ti.offs=(List.range n).map fun k=>(k*i.size,i.size)
 | .prod _ _=>False
 | .ref j=>∃d,P.underlying id=some d∧(match d with|.struct _=>False|.array _ _=>False|_=>True) ∧
   ∀k e,j=2→ti.offs=[(k,e)]→d=.map k e∧∃(tk te:TI) (z:Value),lk k tb.ty=some tk∧lk e tb.ty=some te∧(∃i,P.info? e=some i∧i.zero=some z)∧z.cells=te.ty.zero.toArray∧Wt te.ty z=true
def Dp (P:Program) (tb:Tb):Prop:=∀id ti,lk id tb.ty=some ti→ED P tb id ti
/-! ### The check, by the kernel -/
def tW:Value→Value→Bool
 | .int k n,.int k' n'=>k==k'&&n==n'
 | .bool a,.bool b=>a==b
 | .string s,.string s'=>s.size==0&&s'.size==0
 | .slice none 0 0,.slice none 0 0=>true
 | .pointer none,.pointer none=>true
 | .nilFunc,.nilFunc=>true
 | .map none,.map none=>true
 | _,_=>false
theorem tY {a b:Value} (h:tW a b=true):a=b:=by
 unfold tW at h
 split at h
 ·simp only[Bool.and_eq_true,beq_iff_eq]at h;obtain⟨rfl,rfl⟩:=h;rfl
 ·simp only[beq_iff_eq]at h;rw[h]
 ·rename_i s s'
  simp only[Bool.and_eq_true,beq_iff_eq]at h
  have:s=s':=by
   obtain⟨⟨l⟩⟩:=s
   obtain⟨⟨l'⟩⟩:=s'
   have h1:l.length=0:=h.1
   have h2:l'.length=0:=h.2
   rw[List.eq_nil_of_length_eq_zero h1,List.eq_nil_of_length_eq_zero h2]
  rw[this]
 ·rfl
 ·rfl
 ·rfl
 ·rfl
 ·cases h
def Mq:List Value→List Value→Bool
 | [],[]=>true
 | a :: l,b :: r=>tW a b&&Mq l r
 | _,_=>false
theorem PE:∀ {l r:List Value},Mq l r=true→l=r
 | [],[],_=>rfl
 | a :: l,b :: r,h=>by
  simp only[Mq,Bool.and_eq_true]at h
  rw[tY h.1,PE h.2]
 | [],_ :: _,h=>by simp[Mq]at h
 | _ :: _,[],h=>by simp[Mq]at h
def A2O (ty:Ty) (bytes:Nat):Option TypeInfo→Bool
 | some i=>i.size==ty.size&&i.bytes==bytes&&(match i.zero with|some z=>Mq z.cells.toList ty.zero|none=>false)
 | none=>false
def A47 (offs:List (Nat×Nat)) (n:Nat):Option TypeInfo→Bool
 | some i=>offs==(List.range n).map fun k=>(k*i.size,i.size)
 | none=>false
def A2P (e:Nat) (te:Option TI):Option TypeInfo→Bool
 | some i=>match i.zero,te with|some z,some te=>Mq z.cells.toList te.ty.zero&&Wt te.ty z|_,_=>false
 | none=>false
def A37 (P:Program) (tb:Tb) (j:Nat) (d:TypeDesc):List (Nat×Nat)→Bool
 | [(k,e)]=>j != 2||(match d with|.map k' e'=>k'==k&&e'==e&&(lk k tb.ty).isSome&&A2P e (lk e tb.ty) (P.info? e)|_=>false)
 | _=>true
theorem zV {P:Program} {tb:Tb} {j:Nat} {d:TypeDesc} {offs:List (Nat×Nat)} (h:A37 P tb j d offs=true):∀k e,j=2→offs=[(k,e)]→d=.map k e∧∃(tk te:TI) (z:Value),lk k tb.ty=some tk∧lk e tb.ty=some te∧(∃i,P.info? e=some i∧i.zero=some z)∧z.cells=te.ty.zero.toArray∧Wt te.ty z=true:=by
 rintro k e rfl rfl
 simp only[A37,bne_self_eq_false,Bool.false_or]at h
 split at h
 ·simp only[Bool.and_eq_true,beq_iff_eq]at h
  obtain⟨⟨⟨rfl,rfl⟩,h3⟩,h4⟩:=h
  refine⟨rfl,?_⟩
  obtain⟨tk,htk⟩:=Option.isSome_iff_exists.1 h3
  unfold A2P at h4
  split at h4
  ·rename_i i hi
   split at h4
   ·rename_i z te hz hte
    simp only[Bool.and_eq_true]at h4
    exact⟨tk,te,z,htk,hte,⟨i,hi,hz⟩,by rw[←PE h4.1],h4.2⟩
   ·cases h4
  ·cases h4
 ·cases h
def A48 (P:Program) (tb:Tb) (ti:TI):Ty→Option TypeDesc→Bool
 | .int k,some (.int k')=>k==k'
 | .bool,some .bool=>true
 | .str,some .string=>true
 | .slice e,some (.slice el)=>el==ti.el&&(match lk ti.el tb.ty with|some te=>decide (te.ty=e)|none=>false)
 | .agg _,some (.struct fs)=>ti.el==0&&ti.offs.map some==fs.toList.map fun f=>(P.info? f.type).map fun i=>(f.offset,i.size)
 | .agg _,some (.array n e)=>ti.el != 0&&A47 ti.offs n (P.info? e)
 | .ref _,some (.struct _)=>false
 | .ref _,some (.array _ _)=>false
 | .ref j,some d=>A37 P tb j d ti.offs
 | _,_=>false
def tiB (P:Program) (tb:Tb) (id:TypeId) (ti:TI):Bool:=((ti.offs.all fun p=>p.2 != 0)&&(decide (0<ti.bytes)&&tU P id ti.ty ti.el))&&A2O ti.ty ti.bytes (P.info? id)&&A48 P tb ti ti.ty (P.underlying id)
theorem A38 {P:Program} {tb:Tb} {id:TypeId} {ti:TI} (h:tiB P tb id ti=true):ED P tb id ti:=by
 simp only[tiB,Bool.and_eq_true]at h
 obtain⟨⟨⟨h0,hb,hkf⟩,h1⟩,h2⟩:=h
 refine⟨⟨⟨fun p hp=>by simpa using (List.all_eq_true.1 h0) p hp,by simpa using hb,tV hkf⟩,?_⟩,?_⟩
 ·unfold A2O at h1
  split at h1
  ·rename_i i hi
   simp only[Bool.and_eq_true,beq_iff_eq]at h1
   obtain⟨⟨h3,h4⟩,h5⟩:=h1
   split at h5
   ·rename_i z hz
    exact⟨i,z,hi,h3,h4,hz,by rw[←PE h5]⟩
   ·cases h5
  ·cases h1
 ·generalize hu:P.underlying id=u at h2
  generalize ti.ty=t at h2
  cases t<;>cases u<;>simp only[A48]at h2<;>try(cases h2;done)
  all_goals
   rename_i u
   cases u<;>simp only at h2<;>try(cases h2;done)
  ·have:=beq_iff_eq.1 h2;subst this;rfl
  ·rfl
  ·rfl
  ·simp only[Bool.and_eq_true,beq_iff_eq]at h2
   obtain⟨h3,h4⟩:=h2
   split at h4
   ·rename_i te hte;exact⟨by rw[h3],te,hte,by simpa using h4⟩
   ·cases h4
  ·rename_i n e
   simp only[Bool.and_eq_true,bne_iff_ne]at h2
   obtain⟨h3,h2⟩:=h2
   unfold A47 at h2
   split at h2
   ·rename_i i hi;exact .inr ⟨_,_,i,h3,rfl,hi,by simpa using h2⟩
   ·cases h2
  ·simp only[Bool.and_eq_true,beq_iff_eq]at h2
   exact .inl ⟨_,h2.1,rfl,h2.2⟩
  all_goals exact⟨_,rfl,trivial,zV h2⟩
theorem zW {P:Program} {tb:Tb} (h:(tb.ty.all fun p=>tiB P tb p.1 p.2)=true):Dp P tb:=fun id ti hi=>by
 rw[List.all_eq_true]at h
 exact A38 (h _ (FT hi))
/-! ### Runs -/
def Ty.isAgg:Ty→Bool
 | .agg _=>true
 | .int _=>false
 | .bool=>false
 | .str=>false
 | .slice _=>false
 | .prod _ _=>false
 | .ref _=>false
section
variable {P:Program} {tb:Tb} {id:TypeId} {ti:TI} (w:World)
theorem Kb {i:TypeInfo} (h:P.info? id=some i):(typeInfo id).run P w=.ok i w:=by simp[typeInfo,h]
theorem zX (h:ED P tb id ti):(isAgg id).run P w=.ok ti.ty.isAgg w:=by
 obtain⟨_,h2⟩:=h
 cases ht:ti.ty<;>rw[ht]at h2<;>simp only at h2
 case agg =>
  rcases h2 with ⟨fs,_,hu,_⟩|⟨n,e,_,_,hu,_⟩<;>simp[isAgg,run_underlying hu,Ty.isAgg]
 case slice=>simp[isAgg,run_underlying h2.1,Ty.isAgg]
 case ref k =>
  obtain⟨d,hu,hd,_⟩:=h2
  cases d<;>first|exact hd.elim|simp[isAgg,run_underlying hu,Ty.isAgg]
 all_goals simp[isAgg,run_underlying h2,Ty.isAgg]
theorem HB (h:ED P tb id ti):(sizeOf id).run P w=.ok ti.ty.size w:=by
 obtain⟨⟨_,i,z,h1,h2,_⟩,_⟩:=h
 simp[sizeOf,Kb w h1,h2]
theorem ED.noprod (h:ED P tb id ti) {a b:Ty}:ti.ty≠.prod a b:=by
 intro e
 have:=h.2
 rw[e]at this
 exact this
theorem Yc (h:ED P tb id ti) {ad:Addr} {cs:List Value} (hl:cs.length=ti.ty.size) (hc:∀(j:Nat) (u:Value),cs[j]?=some u→w.cell? (ad.add j)=some u) :
  (loadVar id ad).run P w=.ok (ti.ty.wrap cs) w:=by
 have hnp:=fun a b=>h.noprod (a:=a) (b:=b)
 simp only[loadVar,Sem.run_bind,zX w h,Result.andThen_ok]
 cases ht:ti.ty
 case prod a b=>exact absurd ht (hnp a b)
 case agg u =>
  have hl':ti.ty.size=cs.length:=hl.symm
  simp only[Ty.isAgg,if_true,Sem.run_bind,HB w h,Result.andThen_ok,hl',run_loadCells_list w ad cs hc,Ty.wrap]
  rfl
 all_goals
  rw[ht]at hl
  obtain⟨c,rfl⟩:=List.length_eq_one_iff.1 hl
  have h0:=hc 0 c rfl
  rw[Ld]at h0
  simp[Ty.isAgg,Ty.wrap,h0]
theorem EJ (h:ED P tb id ti) {ad:Addr} {cs:List Value} (hl:cs.length=ti.ty.size) (hc:∀(j:Nat) (u:Value),cs[j]?=some u→w.cell? (ad.add j)=some u) :
  (Instr.loadAt id (.pointer (some ad))).run P w=.ok (ti.ty.wrap cs) w:=by
 simp[Instr.loadAt,Instr.sureAddr,Yc w h hl hc]
end
end
end Go.Proofs.YtebfihindnhccaaGreat.Fw
