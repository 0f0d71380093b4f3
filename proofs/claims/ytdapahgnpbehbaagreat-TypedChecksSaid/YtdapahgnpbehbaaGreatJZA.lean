/- Typed values, how they lie in memory, the executor's words and the table of types: what they mean. -/
/- Typed pure values and how they lie in memory: the words of the symbolic executor. Nothing here speaks of one program. -/
import Derived.ProofKit
import Derived.Orders
import Derived.Laws.AppendOwn
import Derived.Laws.MakeOwn
import Derived.Laws.OwnMore
set_option linter.unusedVariables false
set_option linter.unusedSimpArgs false
namespace Go.Proofs.YtdapahgnpbehbaaGreat.Fw
section
open Go
inductive Ty where
 | int (k:IntKind)
 | bool
 | str
 | slice (e:Ty)
 | prod (a b:Ty)
 | agg (t:Ty)
 /-- a pointer (0), a function (1), a map (2): as a pure value it is nil -/
 | ref (k:Nat)
 deriving DecidableEq
def Ic:Nat→Value
 | 0=>.pointer none
 | 1=>.nilFunc
 | _=>.map none
@[reducible] def Ty.den:Ty→Type
 | .int _=>Int
 | .bool=>Bool
 | .str=>ByteArray
 | .slice e=>List e.den
 | .prod a b=>a.den×b.den
 | .agg t=>t.den
 | .ref _=>Unit
def Ty.size:Ty→Nat
 | .prod a b=>a.size+b.size
 | .agg t=>t.size
 | .int _=>1
 | .bool=>1
 | .str=>1
 | .slice _=>1
 | .ref _=>1
def Ty.dflt:(t:Ty)→t.den
 | .int _=>(0:Int)
 | .bool=>false
 | .str=>ByteArray.empty
 | .slice _=>[]
 | .prod a b=>(a.dflt,b.dflt)
 | .agg t=>t.dflt
 | .ref _=>()
def Ty.zero:Ty→List Value
 | .int k=>[.int k 0]
 | .bool=>[.bool false]
 | .str=>[.string ByteArray.empty]
 | .slice _=>[.slice none 0 0]
 | .prod a b=>a.zero++b.zero
 | .agg t=>t.zero
 | .ref k=>[Ic k]
def Ty.wrap:Ty→List Value→Value
 | .agg _,cs=>.agg cs.toArray
 | .prod _ _,cs=>.agg cs.toArray
 | .int _,cs=>cs.headD undef
 | .bool,cs=>cs.headD undef
 | .str,cs=>cs.headD undef
 | .slice _,cs=>cs.headD undef
 | .ref _,cs=>cs.headD undef
def J3 (k:IntKind) (n:Int):Prop:=k.min≤n∧n≤k.max
def AO:Nat:=140737488355328
def Bi (w:World) (O:Nat→Prop):(t:Ty)→List Value→t.den→Prop
 | .int k,cs,d=>cs=[.int k d]∧J3 k d
 | .bool,cs,d=>cs=[.bool d]
 | .str,cs,d=>cs=[.string d]∧ByteArray.size d≤AO
 | .slice e,cs,d=>∃(a:Option Addr) (c:Nat),cs=[.slice a (List.length d) c]∧List.length d≤c∧List.length d≤AO ∧
   (d=[]∨∃ad:Addr,a=some ad∧¬O ad.block ∧
    ∀(i:Nat) (x:e.den),d[i]?=some x→∃es:List Value,es.length=e.size∧(∀(j:Nat) (v:Value),es[j]?=some v→w.cell? (ad.add (i*e.size+j))=some v)∧Bi w O e es x)
 | .prod a b,cs,d=>∃c1 c2:List Value,cs=c1++c2∧Bi w O a c1 d.1∧Bi w O b c2 d.2
 | .agg t,cs,d=>Bi w O t cs d
 | .ref k,cs,_=>cs=[Ic k]
def BR (w:World) (O:Nat→Prop) (t:Ty) (v:Value) (d:t.den):Prop:=∃cs,Bi w O t cs d∧v=t.wrap cs
theorem B4 (a:Addr) (n:Nat):(a.add n).block=a.block:=by unfold Addr.add;split<;>rfl
theorem DD (a:Addr) (i j:Nat):(a.add i).add j=a.add (i+j):=by
 unfold Addr.add
 by_cases hi:i=0<;>by_cases hj:j=0<;>simp[hi,hj,Nat.add_assoc]
theorem LF (a:Addr):a.add 0=a:=rfl
theorem Vr (g j:Nat):(⟨g,0,none⟩:Addr).add j=⟨g,j,none⟩:=by
 unfold Addr.add;split<;>simp_all
theorem Ix (g i j:Nat):(⟨g,i,none⟩:Addr).add j=⟨g,i+j,none⟩:=by
 unfold Addr.add;split<;>simp_all
theorem Ty.size_pos:∀t:Ty,0<t.size
 | .int _=>by simp[Ty.size]
 | .bool=>by simp[Ty.size]
 | .str=>by simp[Ty.size]
 | .slice _=>by simp[Ty.size]
 | .ref _=>by simp[Ty.size]
 | .prod a b=>by have:=a.size_pos;simp[Ty.size];omega
 | .agg t=>by simpa[Ty.size] using t.size_pos
theorem Bi.length {w:World} {O:Nat→Prop}:∀ {t:Ty} {cs:List Value} {d:t.den},Bi w O t cs d→cs.length=t.size
 | .int _,_,_,h=>by obtain⟨rfl,_⟩:=h;rfl
 | .bool,_,_,h=>by have h:_=_:=h;subst h;rfl
 | .str,_,_,h=>by obtain⟨rfl,_⟩:=h;rfl
 | .slice _,_,_,h=>by obtain⟨_,_,rfl,_⟩:=h;rfl
 | .ref _,_,_,h=>by have h:_=_:=h;subst h;rfl
 | .prod a b,_,_,h=>by
  obtain⟨c1,c2,rfl,h1,h2⟩:=h
  simp[Ty.size,Bi.length h1,Bi.length h2]
 | .agg t,_,_,h=>by
  have h:Bi w O t _ _:=h
  simpa[Ty.size] using Bi.length h
theorem Bi.one {w:World} {O:Nat→Prop}:∀ {t:Ty} {cs:List Value} {d:t.den},Bi w O t cs d→∀v∈cs,v.oneCell'=true
 | .int _,_,_,h=>by obtain⟨rfl,_⟩:=h;simp[Value.oneCell']
 | .bool,_,_,h=>by have h:_=_:=h;subst h;simp[Value.oneCell']
 | .str,_,_,h=>by obtain⟨rfl,_⟩:=h;simp[Value.oneCell']
 | .slice _,_,_,h=>by obtain⟨_,_,rfl,_⟩:=h;simp[Value.oneCell']
 | .ref k,_,_,h=>by
  have h:_=[Ic k]:=h
  subst h
  match k with
  | 0=>simp[Value.oneCell',Ic]
  | 1=>simp[Value.oneCell',Ic]
  | _+2=>simp[Value.oneCell',Ic]
 | .prod a b,_,_,h=>by
  obtain⟨c1,c2,rfl,h1,h2⟩:=h
  intro v hv
  rcases List.mem_append.1 hv with hv|hv
  ·exact Bi.one h1 v hv
  ·exact Bi.one h2 v hv
 | .agg t,_,_,h=>by
  have h:Bi w O t _ _:=h
  exact Bi.one h
theorem Bi.mono {w w':World} {O O':Nat→Prop} (hO:∀b,b<w.heap.size→¬O b→¬O' b) (hw:∀b,b<w.heap.size→¬O b→w'.heap[b]?=w.heap[b]?) :
  ∀ {t:Ty} {cs:List Value} {d:t.den},Bi w O t cs d→Bi w' O' t cs d
 | .int _,_,_,h=>h
 | .bool,_,_,h=>h
 | .str,_,_,h=>h
 | .ref _,_,_,h=>h
 | .slice e,_,d,h=>by
  obtain⟨a,c,rfl,h1,h2,h3⟩:=h
  refine⟨a,c,rfl,h1,h2,?_⟩
  rcases h3 with h3|⟨ad,rfl,hO1,hx⟩
  ·exact .inl h3
  ·by_cases hd:d=[]
   ·exact .inl hd
   ·have hlt:ad.block<w.heap.size:=by
     obtain⟨x,r,rfl⟩:∃x r,d=x :: r:=List.exists_cons_of_ne_nil hd
     obtain⟨es,hl,hc,_⟩:=hx 0 x rfl
     have hp:=e.size_pos
     have:es[0]?=some (es[0]'(by omega)):=List.getElem?_eq_getElem (by omega)
     have:=block_lt_of_cell (hc 0 _ this)
     rwa [B4]at this
    refine .inr ⟨ad,rfl,hO _ hlt hO1,fun i x hi=>?_⟩
    obtain⟨es,hl,hc,hr⟩:=hx i x hi
    refine⟨es,hl,fun j v hj=>?_,Bi.mono hO hw hr⟩
    rw[World.cell?_of_block (w:=w) (w':=w')]
    ·exact hc j v hj
    ·rw[B4];exact hw _ hlt hO1
 | .prod a b,_,_,h=>by
  obtain⟨c1,c2,rfl,h1,h2⟩:=h
  exact⟨c1,c2,rfl,Bi.mono hO hw h1,Bi.mono hO hw h2⟩
 | .agg t,_,_,h=>by
  have h:Bi w O t _ _:=h
  exact(Bi.mono hO hw h:Bi w' O' t _ _)
theorem BR.mono {w w':World} {O O':Nat→Prop} (hO:∀b,b<w.heap.size→¬O b→¬O' b) (hw:∀b,b<w.heap.size→¬O b→w'.heap[b]?=w.heap[b]?)
  {t:Ty} {v:Value} {d:t.den} (h:BR w O t v d):BR w' O' t v d :=
 let ⟨cs,h1,h2⟩:=h
 ⟨cs,h1.mono hO hw,h2⟩
theorem Bi.zero (w:World) (O:Nat→Prop):∀t:Ty,Bi w O t t.zero t.dflt
 | .int k=>⟨rfl,by cases k<;>exact⟨by decide,by decide⟩⟩
 | .bool=>rfl
 | .str=>⟨rfl,by simp[Ty.dflt,AO]⟩
 | .slice _=>⟨none,0,rfl,by simp[Ty.dflt],by simp[Ty.dflt,AO],.inl rfl⟩
 | .ref _=>rfl
 | .prod a b=>⟨_,_,rfl,Bi.zero w O a,Bi.zero w O b⟩
 | .agg t=>(Bi.zero w O t:Bi w O t _ _)
end
/- The symbolic executor: abstract values, objects, states, and what one operation does to them. Definitions alone. -/
section
open Go
structure PV where
 t:Ty
 d:t.den
def BH (t:Ty) (p:PV):Option t.den:=if h:p.t=t then some (h▸p.d) else none
theorem Cr (t:Ty) (d:t.den):BH t ⟨t,d⟩=some d:=by simp[BH]
def Fx:(t:Ty)→Nat→t.den→Option PV
 | .prod a _,0,d=>some ⟨a,d.1⟩
 | .prod _ b,k+1,d=>Fx b k d.2
 | .int k,0,d=>some ⟨.int k,d⟩
 | .bool,0,d=>some ⟨.bool,d⟩
 | .str,0,d=>some ⟨.str,d⟩
 | .slice e,0,d=>some ⟨.slice e,d⟩
 | .agg t,0,d=>some ⟨.agg t,d⟩
 | .ref k,0,d=>some ⟨.ref k,d⟩
 | _,_,_=>none
def JT:(t:Ty)→Nat→t.den→PV→Option t.den
 | .prod a _,0,d,x=>(BH a x).map fun y=>(y,d.2)
 | .prod _ b,k+1,d,x=>(JT b k d.2 x).map fun y=>(d.1,y)
 | .int k,0,_,x=>BH (.int k) x
 | .bool,0,_,x=>BH .bool x
 | .str,0,_,x=>BH .str x
 | .slice e,0,_,x=>BH (.slice e) x
 | .agg t,0,_,x=>BH (.agg t) x
 | .ref k,0,_,x=>BH (.ref k) x
 | _,_,_,_=>none
def H8:Ty→Nat→Option Nat
 | .prod _ _,0=>some 0
 | .prod a b,k+1=>(H8 b k).map (a.size + ·)
 | .int _,0=>some 0
 | .bool,0=>some 0
 | .str,0=>some 0
 | .slice _,0=>some 0
 | .agg _,0=>some 0
 | .ref _,0=>some 0
 | _,_=>none
def Ps:Ty→Nat→Option Ty
 | .prod a _,0=>some a
 | .prod _ b,k+1=>Ps b k
 | .int k,0=>some (.int k)
 | .bool,0=>some .bool
 | .str,0=>some .str
 | .slice e,0=>some (.slice e)
 | .agg t,0=>some (.agg t)
 | .ref k,0=>some (.ref k)
 | _,_=>none
def L5:List Nat→(t:Ty)→t.den→Option PV
 | [],t,d=>some ⟨t,d⟩
 | k :: r,.agg t,d=>match Fx t k d with
  | some pv=>L5 r pv.t pv.d
  | none=>none
 | _ :: _,_,_=>none
def Mm:List Nat→(t:Ty)→t.den→PV→Option t.den
 | [],t,_,x=>BH t x
 | k :: r,.agg t,d,x=>match Fx t k d with
  | some pv=>match Mm r pv.t pv.d x with
   | some y=>JT t k d ⟨pv.t,y⟩
   | none=>none
  | none=>none
 | _ :: _,_,_,_=>none
def Iy:List Nat→Ty→Option Nat
 | [],_=>some 0
 | k :: r,.agg t=>match H8 t k,Ps t k with
  | some o,some u=>(Iy r u).map (o + ·)
  | _,_=>none
 | _ :: _,_=>none
inductive AV where
 /-- a pure value -/
 | p (t:Ty) (d:t.den)
 /-- just this value -/
 | raw (v:Value)
 /-- the places lo .. hi of the owned array n -/
 | sr (n:Nat) (e:Ty) (lo hi:Nat)
 /-- a pointer into element i of the owned array n -/
 | ep (n:Nat) (e:Ty) (i:Nat) (path:List Nat) (off:Nat)
 /-- a pure slice whose capacity is its length -/
 | pc (e:Ty) (d:List e.den)
 /-- a pointer to memory that holds a pure value -/
 | ip (t:Ty) (d:t.den)
 /-- a pointer into the box n -/
 | bp (n:Nat) (path:List Nat) (off:Nat)
 | fn (f:FuncId)
 /-- a closure; its variables are the boxes -/
 | clo (f:FuncId) (ns:List Nat)
 /-- the map n -/
 | mp (n:Nat)
 /-- the function by which a round of the loop n is run -/
 | yl (n:Nat)
 /-- the inner slice of row i of the nested array n: its elements, its length -/
 | nin (n:Nat) (e:Ty) (i len:Nat)
 /-- a struct with these fields -/
 | ag (l:List AV)
 | tup (l:List AV)
 /-- nothing is known -/
 | top
inductive Obj where
 | arr (et:TypeId) (e:Ty) (xs:List e.den)
 | box (et:TypeId) (st:Bool) (fs:List AV)
 /-- a map's entries, in their order -/
 | mapo (k v:Ty) (l:List (k.den×v.den))
 /-- an iterator over a map that is written no more: the places that are left, the last one -/
 | itr (k v:Ty) (l:List (k.den×v.den)) (left:List Nat) (cur:Option Nat)
 /-- rows that end in a slice of their own each; 'h': the row whose slice is elsewhere just now -/
 | nest (et iet:TypeId) (k e:Ty) (xs:List (k.den×List e.den)) (h:Option Nat)
 /-- a caller's frame: its slots as they were, and what they mean -/
 | frame (tm:Array Value) (fs:List (Nat×AV))
 /-- the record of a range over a function -/
 | loop (L:Go.Loop)
 /-- the block of the calls that such a loop defers: none -/
 | dfr
structure St where
 env:List (Nat×AV)
 objs:List (Nat×Obj)
def lk {α:Type}:Nat→List (Nat×α)→Option α
 | _,[]=>none
 | k,(j,v) :: r=>if k=j then some v else lk k r
def del {α:Type}:Nat→List (Nat×α)→List (Nat×α)
 | _,[]=>[]
 | k,(j,v) :: r=>if k=j then del k r else (j,v) :: del k r
def upd {α:Type}:Nat→α→List (Nat×α)→List (Nat×α)
 | _,_,[]=>[]
 | k,u,(j,v) :: r=>if k=j then (j,u) :: upd k u r else (j,v) :: upd k u r
def sub {α:Type} (xs:List α) (lo hi:Nat):List α:=(xs.drop lo).take (hi-lo)
theorem FK {α:Type} (xs:List α):sub xs 0 xs.length=xs:=by simp[sub]
structure TI where
 ty:Ty
 offs:List (Nat×Nat):=[]
 el:TypeId:=0
 bytes:Nat
inductive RV where
 | p (t:Ty) (d:t.den)
 | own (et:TypeId) (e:Ty) (xs:List e.den)
@[reducible] def KU:List Ty→Type
 | []=>Unit
 | t :: r=>t.den×KU r
def Ty.flat:Ty→Bool
 | .slice _=>false
 | .prod a b=>a.flat&&b.flat
 | .agg t=>t.flat
 | .int _=>true
 | .bool=>true
 | .str=>true
 | .ref _=>true
def RV.flat:RV→Bool
 | .p t _=>t.flat
 | .own _ _ _=>false
structure Ah where
 ins:List Ty
 lend:Bool:=false
 pre:KU ins→Prop
 out:KU ins→List RV
structure Tb where
 ty:List (Nat×TI)
 fns:List (Nat×Ah)
 /-- slots whose new slices are written no more -/
 pure:List Nat:=[]
 /-- slots whose new slices are nested arrays; the type of their rows' elements -/
 nests:List (Nat×TypeId):=[]
def pX (n:Nat):List Nat→Bool
 | []=>false
 | m :: r=>if n=m then true else pX n r
def Eq:Value→AV
 | .int k n=>if k.min≤n∧n≤k.max then .p (.int k) n else .raw (.int k n)
 | .bool b=>.p .bool b
 | .string s=>if s.size≤AO then .p .str s else .raw (.string s)
 | v=>.raw v
def Ae (σ:St):Operand→Option AV
 | .tmp t=>lk t σ.env
 | .const v=>some (Eq v)
 | .func f=>some (.fn f)
 | .global _=>none
def L6 (e:Ty) (lo hi:Nat):Option Obj→Option (List e.den)
 | some (.arr _ e' xs)=>BH (.slice e) ⟨.slice e',sub xs lo hi⟩
 | some (.nest _ _ k e' xs none)=>BH (.slice e) ⟨.slice (.agg (.prod k (.slice e'))),sub xs lo hi⟩
 | _=>none
def Li (e:Ty) (i:Nat):Option Obj→Option (List e.den)
 | some (.nest _ _ k e' xs none)=>BH (.slice e) ⟨.slice e',(xs.getD i (k.dflt,[])).2⟩
 | _=>none
def Dc (l:Bool) (σ:St):(t:Ty)→AV→Option t.den
 | t,.p u d=>BH t ⟨u,d⟩
 | .slice e,.sr n e' lo hi=>if l=true∧e'=e then L6 e lo hi (lk n σ.objs) else none
 | .slice e,.nin n e' i _=>if l=true∧e'=e then Li e i (lk n σ.objs) else none
 | .slice _,.raw (.slice none 0 0)=>some []
 | _,_=>none
def ID {α β:Type}:Option α→Option β→Option (α×β)
 | some a,some b=>some (a,b)
 | _,_=>none
def H9 (l:Bool) (σ:St):List AV→(t:Ty)→Option t.den
 | [],_=>none
 | [x],t=>Dc l σ t x
 | x :: y :: r,.prod a b=>ID (Dc l σ a x) (H9 l σ (y :: r) b)
 | _ :: _ :: _,_=>none
def Iz (l:Bool) (σ:St):(t:Ty)→AV→Option t.den
 | .agg t,.ag fs=>H9 l σ fs t
 | t,x=>Dc l σ t x
def AX (n:Nat):List Nat→Bool
 | []=>false
 | m :: r=>if n=m then true else AX n r
theorem AY (n:Nat):∀l:List Nat,AX n l=true↔n∈l
 | []=>by simp[AX]
 | m :: r=>by
  simp only[AX,List.mem_cons]
  split
  ·rename_i h;simp[h]
  ·rename_i h;simp[h,AY n r]
/-! ### Names that are forgotten -/
mutual
def AV.fgt (hs:List Nat):AV→AV
 | .sr m e lo hi=>if AX m hs=true then .top else .sr m e lo hi
 | .ep m e i path off=>if AX m hs=true then .top else .ep m e i path off
 | .nin m e i len=>if AX m hs=true then .top else .nin m e i len
 | .bp m path off=>if AX m hs=true then .top else .bp m path off
 | .mp m=>if AX m hs=true then .top else .mp m
 | .yl m=>if AX m hs=true then .top else .yl m
 | .clo f ns=>if (ns.any fun n=>AX n hs)=true then .top else .clo f ns
 | .ag l=>.ag (AV.fgts hs l)
 | .tup l=>.tup (AV.fgts hs l)
 | .p t d=>.p t d
 | .pc e d=>.pc e d
 | .raw v=>.raw v
 | .ip t d=>.ip t d
 | .fn f=>.fn f
 | .top=>.top
def AV.fgts (hs:List Nat):List AV→List AV
 | []=>[]
 | x :: r=>AV.fgt hs x :: AV.fgts hs r
end
def BP (hs:List Nat):List (Nat×AV)→List (Nat×AV)
 | []=>[]
 | (s,x) :: r=>(s,x.fgt hs) :: BP hs r
def Obj.fgt (hs:List Nat):Obj→Obj
 | .arr et e xs=>.arr et e xs
 | .box et st fs=>.box et st (AV.fgts hs fs)
 | .mapo k v l=>.mapo k v l
 | .nest et iet k e xs h=>.nest et iet k e xs h
 | .frame tm fs=>.frame tm (BP hs fs)
 | .loop L=>.loop L
 | .itr ik iv il ilf icu=>.itr ik iv il ilf icu
 | .dfr=>.dfr
def Ab (hd hs:List Nat):List (Nat×Obj)→List (Nat×Obj)
 | []=>[]
 | (n,o) :: r=>if AX n hd=true then Ab hd hs r else (n,o.fgt hs) :: Ab hd hs r
mutual
/-- The nested array n has turned within (its inner slices), the names 'hs' are no more. -/
def AV.trn (n:Nat) (hs:List Nat):AV→AV
 | .nin m e i len=>if m=n∨AX m hs=true then .top else .nin m e i len
 | .sr m e lo hi=>if AX m hs=true then .top else .sr m e lo hi
 | .ep m e i path off=>if AX m hs=true then .top else .ep m e i path off
 | .bp m path off=>if AX m hs=true then .top else .bp m path off
 | .mp m=>if AX m hs=true then .top else .mp m
 | .yl m=>if AX m hs=true then .top else .yl m
 | .clo f ns=>if (ns.any fun n=>AX n hs)=true then .top else .clo f ns
 | .ag l=>.ag (AV.trns n hs l)
 | .tup l=>.tup (AV.trns n hs l)
 | .p t d=>.p t d
 | .pc e d=>.pc e d
 | .raw v=>.raw v
 | .ip t d=>.ip t d
 | .fn f=>.fn f
 | .top=>.top
def AV.trns (n:Nat) (hs:List Nat):List AV→List AV
 | []=>[]
 | x :: r=>AV.trn n hs x :: AV.trns n hs r
end
def DE (n:Nat) (hs:List Nat):List (Nat×AV)→List (Nat×AV)
 | []=>[]
 | (s,x) :: r=>(s,x.trn n hs) :: DE n hs r
def Obj.trn (n:Nat) (hs:List Nat):Obj→Obj
 | .arr et e xs=>.arr et e xs
 | .box et st fs=>.box et st (AV.trns n hs fs)
 | .mapo k v l=>.mapo k v l
 | .nest et iet k e xs h=>.nest et iet k e xs h
 | .frame tm fs=>.frame tm (DE n hs fs)
 | .loop L=>.loop L
 | .itr ik iv il ilf icu=>.itr ik iv il ilf icu
 | .dfr=>.dfr
def Bv (n:Nat) (hs:List Nat):List (Nat×Obj)→List (Nat×Obj)
 | []=>[]
 | (m,o) :: r=>if AX m (n :: hs)=true then Bv n hs r else (m,o.trn n hs) :: Bv n hs r
def B8:Option Obj→Bool
 | some (.nest _ _ _ _ _ _)=>true
 | _=>false
def Lq (σ:St) (e:Ty):AV→Option (List e.den)
 | .sr n e' lo hi=>if B8 (lk n σ.objs)=true then none else Iz true σ (.slice e) (.sr n e' lo hi)
 | x=>Iz true σ (.slice e) x
end
/- The symbolic executor, second part: operations, regions. Definitions alone. -/
section
open Go
def Am (x y:ByteArray):Bool:=x.toList==y.toList
def Gy (x y:ByteArray):Bool:=Op.bytesLess x.toList y.toList
def Bt (op:BinOp) (k:IntKind) (x y:Int):Int :=
 k.wrap (match op with
  | .and=>((BitVec.ofInt k.bits x &&& BitVec.ofInt k.bits y).toNat:Int)
  | .or=>((BitVec.ofInt k.bits x ||| BitVec.ofInt k.bits y).toNat:Int)
  | .xor=>((BitVec.ofInt k.bits x ^^^ BitVec.ofInt k.bits y).toNat:Int)
  | _=>((BitVec.ofInt k.bits x &&& ~~~BitVec.ofInt k.bits y).toNat:Int))
def Pt (k:IntKind) (x y:Int):Int:=k.wrap (x*2 ^ (min y.toNat k.bits))
def So (k:IntKind) (x y:Int):Int:=x.fdiv (2 ^ (min y.toNat k.bits))
def Sp (k:IntKind) (a b:Int):BinOp→Prop×AV
 | .add=>(J3 k (a+b),.p (.int k) (a+b))
 | .sub=>(J3 k (a-b),.p (.int k) (a-b))
 | .mul=>(J3 k (a*b),.p (.int k) (a*b))
 | .quo=>(b≠0∧J3 k (a.tdiv b),.p (.int k) (a.tdiv b))
 | .rem=>(b≠0∧J3 k (a.tmod b),.p (.int k) (a.tmod b))
 | .and=>(True,.p (.int k) (Bt .and k a b))
 | .or=>(True,.p (.int k) (Bt .or k a b))
 | .xor=>(True,.p (.int k) (Bt .xor k a b))
 | .andNot=>(True,.p (.int k) (Bt .andNot k a b))
 | .shl=>(False,.top)
 | .shr=>(False,.top)
 | .eql=>(True,.p .bool (a==b))
 | .neq=>(True,.p .bool (a != b))
 | .lss=>(True,.p .bool (decide (a<b)))
 | .leq=>(True,.p .bool (decide (a≤b)))
 | .gtr=>(True,.p .bool (decide (b<a)))
 | .geq=>(True,.p .bool (decide (b≤a)))
def Nt (a b:ByteArray):BinOp→Prop×AV
 | .add=>(a.size+b.size≤AO,.p .str (a++b))
 | .eql=>(True,.p .bool (Am a b))
 | .neq=>(True,.p .bool (!Am a b))
 | .lss=>(True,.p .bool (Gy a b))
 | .leq=>(True,.p .bool (Gy a b||Am a b))
 | .gtr=>(True,.p .bool (!(Gy a b||Am a b)))
 | .geq=>(True,.p .bool (!Gy a b))
 | _=>(False,.top)
def gG (op:BinOp) (k:IntKind) (a:Int) (k':IntKind) (b:Int):Prop×AV :=
 match op with
 | .shl=>(0≤b,.p (.int k) (Pt k a b))
 | .shr=>(0≤b∧J3 k (So k a b),.p (.int k) (So k a b))
 | op=>if k=k' then Sp k a b op else (False,.top)
def YH:Ty→AV
 | .slice _=>.raw (.slice none 0 0)
 | .ref k=>.raw (Ic k)
 | t=>.p t t.dflt
def YI:Ty→List AV
 | .prod a b=>YH a :: YI b
 | t=>[YH t]
def kL:(t:Ty)→t.den→List AV
 | .prod a b,d=>.p a d.1 :: kL b d.2
 | .int k,d=>[.p (.int k) d]
 | .bool,d=>[.p .bool d]
 | .str,d=>[.p .str d]
 | .slice e,d=>[.p (.slice e) d]
 | .agg t,d=>[.p (.agg t) d]
 | .ref k,d=>[.p (.ref k) d]
def AV.cells:AV→Nat
 | .p t _=>t.size
 | .ag _=>0
 | .tup _=>0
 | _=>1
def Bn:List AV→Nat→Nat
 | _,0=>0
 | [],_+1=>0
 | x :: r,k+1=>x.cells+Bn r k
def Gz (st:Bool) (fs:List AV):List Nat→Option AV
 | []=>if st then some (.ag fs) else fs[0]?
 | [k]=>if st then fs[k]? else none
 | k :: r=>if st then match fs[k]? with
   | some (.p t d)=>(L5 r t d).map fun pv=>.p pv.t pv.d
   | _=>none
  else none
def KV (fs:List AV):List Nat→Option Nat
 | []=>some 0
 | k :: r=>match fs[k]? with
  | some (.p t _)=>(Iy r t).map (Bn fs k + ·)
  | some _=>if r.isEmpty then some (Bn fs k) else none
  | none=>none
def Ty.cell1:Ty→Bool
 | .agg _=>false
 | .prod _ _=>false
 | .int _=>true
 | .bool=>true
 | .str=>true
 | .slice _=>true
 | .ref _=>true
def Bx (ty:Ty):AV→Bool
 | .p t _=>ty=t
 | .ag l=>match ty with|.agg t=>Bn l l.length==t.size|_=>false
 | .tup _=>false
 | .top=>false
 | .raw u=>u.oneCell'&&ty.cell1
 | _=>ty.cell1
def I0 (ty:Ty):AV→Bool
 | .top=>ty.cell1
 | x=>Bx ty x
def FL (n:Nat):Bool:=decide (1000000≤n)
mutual
def AV.frz (n:Nat) (e:Ty) (xs:List e.den):AV→AV
 | .sr m e' lo hi=>if m=n then (if e'=e then .p (.slice e) (sub xs lo hi) else .top) else .sr m e' lo hi
 | .ep m e' i path off=>if m=n then .top else .ep m e' i path off
 | .nin m e' i len=>if m=n then .top else .nin m e' i len
 | .ag l=>.ag (AV.frzs n e xs l)
 | .tup l=>.tup (AV.frzs n e xs l)
 | .p t d=>.p t d
 | .pc e d=>.pc e d
 | .raw v=>.raw v
 | .ip t d=>.ip t d
 | .bp m path off=>.bp m path off
 | .fn f=>.fn f
 | .clo f ns=>.clo f ns
 | .mp n=>.mp n
 | .yl n=>.yl n
 | .top=>.top
def AV.frzs (n:Nat) (e:Ty) (xs:List e.den):List AV→List AV
 | []=>[]
 | x :: r=>AV.frz n e xs x :: AV.frzs n e xs r
end
def CU (n:Nat) (e:Ty) (xs:List e.den):List (Nat×AV)→List (Nat×AV)
 | []=>[]
 | (s,x) :: r=>(s,x.frz n e xs) :: CU n e xs r
def Aq (n:Nat) (e:Ty) (xs:List e.den):List (Nat×Obj)→List (Nat×Obj)
 | []=>[]
 | (m,.arr et e' ys) :: r=>(m,.arr et e' ys) :: Aq n e xs r
 | (m,.box et st fs) :: r=>(m,.box et st (AV.frzs n e xs fs)) :: Aq n e xs r
 | (m,.mapo k v l) :: r=>(m,.mapo k v l) :: Aq n e xs r
 | (m,.nest et iet k e' ys h) :: r=>(m,.nest et iet k e' ys h) :: Aq n e xs r
 | (m,.frame tm fs) :: r=>(m,.frame tm (CU n e xs fs)) :: Aq n e xs r
 | (m,.loop L) :: r=>(m,.loop L) :: Aq n e xs r
 | (m,.itr ik iv il ilf icu) :: r=>(m,.itr ik iv il ilf icu) :: Aq n e xs r
 | (m,.dfr) :: r=>(m,.dfr) :: Aq n e xs r
def Sq (n:Nat) (σ:St):Option Obj→St
 | some (.arr _ e xs)=>⟨CU n e xs σ.env,Aq n e xs (del n σ.objs)⟩
 | some (.nest _ _ k e xs none)=>⟨CU n (.agg (.prod k (.slice e))) xs σ.env,Aq n (.agg (.prod k (.slice e))) xs (del n σ.objs)⟩
 | _=>σ
def frz (n:Nat) (σ:St):St:=if FL n=true then σ else Sq n σ (lk n σ.objs)
mutual
/-- All but one who looked at the array n know nothing of it now. -/
def AV.drp (n:Nat):AV→AV
 | .sr m e' lo hi=>if m=n then .top else .sr m e' lo hi
 | .ep m e' i path off=>if m=n then .top else .ep m e' i path off
 | .nin m e' i len=>if m=n then .top else .nin m e' i len
 | .ag l=>.ag (AV.drps n l)
 | .tup l=>.tup (AV.drps n l)
 | .p t d=>.p t d
 | .pc e d=>.pc e d
 | .raw v=>.raw v
 | .ip t d=>.ip t d
 | .bp m path off=>.bp m path off
 | .fn f=>.fn f
 | .clo f ns=>.clo f ns
 | .mp n=>.mp n
 | .yl n=>.yl n
 | .top=>.top
def AV.drps (n:Nat):List AV→List AV
 | []=>[]
 | x :: r=>AV.drp n x :: AV.drps n r
end
def EI (n:Nat):List (Nat×AV)→List (Nat×AV)
 | []=>[]
 | (s,x) :: r=>(s,x.drp n) :: EI n r
def BE (n:Nat):List (Nat×Obj)→List (Nat×Obj)
 | []=>[]
 | (m,.arr et e' ys) :: r=>(m,.arr et e' ys) :: BE n r
 | (m,.box et st fs) :: r=>(m,.box et st (AV.drps n fs)) :: BE n r
 | (m,.mapo k v l) :: r=>(m,.mapo k v l) :: BE n r
 | (m,.nest et iet k e' ys h) :: r=>(m,.nest et iet k e' ys h) :: BE n r
 | (m,.frame tm fs) :: r=>(m,.frame tm (EI n fs)) :: BE n r
 | (m,.loop L) :: r=>(m,.loop L) :: BE n r
 | (m,.itr ik iv il ilf icu) :: r=>(m,.itr ik iv il ilf icu) :: BE n r
 | (m,.dfr) :: r=>(m,.dfr) :: BE n r
mutual
def AV.names:AV→List Nat
 | .sr m _ _ _=>[m]
 | .ag l=>AV.namess l
 | .tup l=>AV.namess l
 | .p _ _=>[]
 | .pc _ _=>[]
 | .raw _=>[]
 | .ip _ _=>[]
 | .bp _ _ _=>[]
 | .ep _ _ _ _ _=>[]
 | .nin _ _ _ _=>[]
 | .fn _=>[]
 | .clo _ _=>[]
 | .mp _=>[]
 | .yl _=>[]
 | .top=>[]
def AV.namess:List AV→List Nat
 | []=>[]
 | x :: r=>x.names++AV.namess r
end
def E2 (σ:St):Option Operand→Option (Option AV)
 | none=>some none
 | some x=>(Ae σ x).map some
def Dd (σ:St) (e:Ty):Nat→List (Nat×Operand)→Option (List e.den)
 | _,[]=>some []
 | k,(i,x) :: r=>if i=k then match Ae σ x with
   | some av=>match Iz false σ e av,Dd σ e (k+1) r with
    | some y,some ys=>some (y :: ys)
    | _,_=>none
   | none=>none
  else none
def FM:AV→Bool
 | .p (.prod _ _) _=>false
 | .p _ _=>true
 | .raw u=>u.oneCell'
 | .ag _=>false
 | .tup _=>false
 | .top=>false
 | _=>true
def EJ (σ:St):Option AV→Option AV→Option AV
 | some (.p t _),some (.ag l)=>(Iz false σ t (.ag l)).map fun d=>.p t d
 | _,x=>x
def Cg (σ:St) (offs:List (Nat×Nat)):List AV→List (Nat×Operand)→Option (List AV)
 | fs,[]=>some fs
 | fs,(i,x) :: r=>match EJ σ fs[i]? (Ae σ x) with
  | some av=>if FM av=true∧(fs[i]?.map AV.cells)=some av.cells∧offs[i]?=some (Bn fs i,av.cells) then Cg σ offs (fs.set i av) r else none
  | none=>none
def Eg (l:Bool) (σ:St):(ts:List Ty)→List Operand→Option (KU ts)
 | [],[]=>some ()
 | t :: ts,x :: xs=>match Ae σ x with
  | some av=>match Iz l σ t av,Eg l σ ts xs with
   | some y,some ys=>some (y,ys)
   | _,_=>none
  | none=>none
 | _,_=>none
def Qm (name:Nat):RV→AV
 | .p t d=>.p t d
 | .own _ e xs=>.sr name e 0 xs.length
def KW (name:Nat):RV→List (Nat×Obj)
 | .p _ _=>[]
 | .own et e xs=>[(name,.arr et e xs)]
def I1:Nat→List RV→List AV
 | _,[]=>[]
 | n,r :: l=>Qm n r :: I1 (n+10000) l
def CM:Nat→List RV→List (Nat×Obj)
 | _,[]=>[]
 | n,r :: l=>KW n r++CM (n+10000) l
def G0 (name:Nat):List RV→AV
 | []=>.raw (.tuple #[])
 | [r]=>Qm name r
 | l=>.tup (I1 name l)
/-! Maps -/
def IA:(t:Ty)→t.den→t.den→Bool
 | .int _,a,b=>(a:Int)==b
 | .bool,a,b=>(a:Bool)==b
 | .str,a,b=>(a:ByteArray)==b
 | .prod t u,a,b=>IA t a.1 b.1&&IA u a.2 b.2
 | .agg t,a,b=>IA t a b
 | .slice _,_,_=>false
 | .ref _,_,_=>false
def Sr:Ty→Bool
 | .prod (.int _) (.int _)=>true
 | _=>false
def Nu:Ty→Bool
 | .int _=>true
 | .bool=>true
 | .str=>true
 | .prod _ _=>false
 | .agg t=>Sr t
 | .slice _=>false
 | .ref _=>false
def Ay (kt vt:Ty) (k:kt.den):List (kt.den×vt.den)→Option vt.den
 | []=>none
 | x :: r=>if IA kt k x.1=true then some x.2 else Ay kt vt k r
def HU (kt vt:Ty) (k:kt.den) (v:vt.den):List (kt.den×vt.den)→List (kt.den×vt.den)
 | []=>[(k,v)]
 | x :: r=>if IA kt k x.1=true then (k,v) :: r else x :: HU kt vt k v r
abbrev BS:=Option (Prop×AV×List (Nat×Obj))
def FN (x:AV) (lo hi:Option AV):BS :=
 match x,lo,hi with
 | .p (.slice e) l,none,some (.p (.int _) h)=>some (0≤h∧h≤l.length,.p (.slice e) (sub l 0 h.toNat),[])
 | .p (.slice e) l,some (.p (.int _) a),none=>some (0≤a∧a≤l.length,.p (.slice e) (sub l a.toNat l.length),[])
 | .p (.slice e) l,some (.p (.int _) a),some (.p (.int _) h)=>some (0≤a∧a≤h∧h≤l.length,.p (.slice e) (sub l a.toNat h.toNat),[])
 | .p .str s,none,some (.p (.int _) h)=>some (0≤h∧h≤s.size,.p .str (s.extract 0 h.toNat),[])
 | .p .str s,some (.p (.int _) a),none=>some (0≤a∧a≤s.size,.p .str (s.extract a.toNat s.size),[])
 | .p .str s,some (.p (.int _) a),some (.p (.int _) h)=>some (0≤a∧a≤h∧h≤s.size,.p .str (s.extract a.toNat h.toNat),[])
 | .sr n e b c,none,some (.p (.int _) h)=>some (0≤h∧h≤(c-b:Nat),.sr n e b (b+h.toNat),[])
 | .sr n e b c,some (.p (.int _) a),none=>some (0≤a∧a≤(c-b:Nat),.sr n e (b+a.toNat) c,[])
 | .sr n e b c,some (.p (.int _) a),some (.p (.int _) h)=>some (0≤a∧a≤h∧h≤(c-b:Nat),.sr n e (b+a.toNat) (b+h.toNat),[])
 | _,_,_=>none
def FO:Option AV→BS
 | some v=>some (True,v,[])
 | none=>none
def HV:Option AV→Option AV→Option AV→BS
 | some (.p .bool true),x,_=>FO x
 | some (.p .bool false),_,y=>FO y
 | _,_,_=>none
def Ge (d:Nat) (t:TypeId):Option TI→BS
 | some ⟨.agg u,_,_,_⟩=>some (True,.bp d [] 0,[(d,.box t true (YI u))])
 | some ⟨.int k,_,_,_⟩=>some (True,.bp d [] 0,[(d,.box t false [YH (.int k)])])
 | some ⟨.bool,_,_,_⟩=>some (True,.bp d [] 0,[(d,.box t false [YH .bool])])
 | some ⟨.str,_,_,_⟩=>some (True,.bp d [] 0,[(d,.box t false [YH .str])])
 | some ⟨.slice e,_,_,_⟩=>some (True,.bp d [] 0,[(d,.box t false [YH (.slice e)])])
 | some ⟨.ref k,_,_,_⟩=>some (True,.bp d [] 0,[(d,.box t false [YH (.ref k)])])
 | _=>none
def L7 (d:Nat) (t:TypeId):Option TI→Option AV→BS
 | some ⟨.agg u,_,_,_⟩,some (.p (.agg u') v)=>if u=u' then some (True,.bp d [] 0,[(d,.box t true (kL u' v))]) else none
 | some ⟨.agg u,_,_,_⟩,some (.ag l)=>if l.map AV.cells=(YI u).map AV.cells then some (True,.bp d [] 0,[(d,.box t true l)]) else none
 | some ⟨.int k,_,_,_⟩,some v=>if Bx (.int k) v then some (True,.bp d [] 0,[(d,.box t false [v])]) else none
 | some ⟨.bool,_,_,_⟩,some v=>if Bx .bool v then some (True,.bp d [] 0,[(d,.box t false [v])]) else none
 | some ⟨.str,_,_,_⟩,some v=>if Bx .str v then some (True,.bp d [] 0,[(d,.box t false [v])]) else none
 | some ⟨.slice e,_,_,_⟩,some v=>if Bx (.slice e) v then some (True,.bp d [] 0,[(d,.box t false [v])]) else none
 | some ⟨.ref k,_,_,_⟩,some v=>if Bx (.ref k) v then some (True,.bp d [] 0,[(d,.box t false [v])]) else none
 | _,_=>none
def F4 (σ:St) (parts:List (Nat×Operand)):Option TI→BS
 | some ⟨.agg u,offs,_,_⟩=>FO ((Cg σ offs (YI u) parts).map AV.ag)
 | _=>none
def A5 (pu:Bool) (d:Nat) (n:Nat) (el:TypeId) (e:Ty):Option (List e.den)→BS
 | some xs=>some (xs.length=n∧n*e.size≤16777216,if pu then .p (.slice e) xs else .sr d e 0 n,if pu then [] else [(d,.arr el e xs)])
 | none=>none
def A2 (pu:Bool) (σ:St) (d:Nat) (n:Nat) (parts:List (Nat×Operand)):Option TI→BS
 | some ⟨.slice e,_,el,_⟩=>A5 pu d n el e (Dd σ e 0 parts)
 | _=>none
def Gf (d:Nat) (el iet:TypeId) (n:Nat) (k e:Ty):Option k.den→AV→BS
 | some a,.raw (.slice none 0 0)=>some (n=1∧k.size+1≤16777216,.sr d (.agg (.prod k (.slice e))) 0 1,[(d,.nest el iet k e [(a,[])] none)])
 | some a,.pc e' l=>if e'=e then some ((n=1∧k.size+1≤16777216)∧List.length l=0,.sr d (.agg (.prod k (.slice e))) 0 1,[(d,.nest el iet k e [(a,[])] none)]) else none
 | _,_=>none
def F5 (σ:St) (d:Nat) (el iet:TypeId) (n:Nat):Ty→Option AV→BS
 | .agg (.prod k (.slice e)),some (.ag [x,y])=>Gf d el iet n k e (Dc false σ k x) y
 | _,_=>none
def F6 (σ:St) (d:Nat) (iet:TypeId) (n:Nat):List (Nat×Operand)→Option TI→BS
 | [(0,x)],some ⟨.slice t,_,el,_⟩=>F5 σ d el iet n t (Ae σ x)
 | _,_=>none
def EU (tb:Tb) (σ:St) (d:Nat) (n:Nat) (parts:List (Nat×Operand)) (ti:Option TI):Option TypeId→BS
 | some iet=>F6 σ d iet n parts ti
 | none=>A2 (pX d tb.pure) σ d n parts ti
def FP (ty:Ty) (fs:List AV) (path:List Nat) (off:Nat):Option AV→BS
 | some v=>if Bx ty v=true∧KV fs path=some off then some (True,v,[]) else none
 | none=>none
def DM (ty:Ty) (path:List Nat) (off:Nat):Option Obj→BS
 | some (.box _ st fs)=>FP ty fs path off (Gz st fs path)
 | _=>none
def FQ (ty e:Ty) (path:List Nat) (off:Nat):Option PV→BS
 | some ⟨t,d⟩=>if ty=t∧Iy path e=some off then some (True,.p t d,[]) else none
 | none=>none
def QQX (ty e:Ty) (i:Nat) (path:List Nat) (off:Nat):Option (List e.den)→BS
 | some ys=>FQ ty e path off (L5 path e (ys.getD i e.dflt))
 | none=>none
def Id (n:Nat) (ty:Ty) (i off:Nat) (k e:Ty) (x:k.den×List e.den):List Nat→BS
 | [0]=>if ty=k∧off=0 then some (True,.p k x.1,[]) else none
 | [1]=>if ty=.slice e∧off=k.size then some (True,.nin n e i x.2.length,[]) else none
 | _=>none
def DN (n:Nat) (ty e:Ty) (i:Nat) (path:List Nat) (off:Nat):Option Obj→BS
 | some (.arr _ e' xs)=>QQX ty e i path off (BH (.slice e) ⟨.slice e',xs⟩)
 | some (.nest _ _ k e' xs none)=>if e=.agg (.prod k (.slice e')) then Id n ty i off k e' (xs.getD i (k.dflt,[])) path else none
 | _=>none
def G2 (σ:St):Option TI→Option AV→BS
 | some ti,some (.bp n path off)=>DM ti.ty path off (lk n σ.objs)
 | some ti,some (.ep n e i path off)=>DN n ti.ty e i path off (lk n σ.objs)
 | some ti,some (.ip u v)=>if ti.ty=u then some (True,.p u v,[]) else none
 | _,_=>none
def FT (o:Option (Nat×Nat)) (o':Option Nat):Option PV→BS
 | some ⟨t,d⟩=>if o.map (·.1)=o' then some (True,.ip t d,[]) else none
 | none=>none
def Mn (v:Nat→AV):Option (Nat×Nat)→BS
 | some (k,_)=>some (True,v k,[])
 | none=>none
def J4 (f:Nat) (o:Option (Nat×Nat)):AV→BS
 | .bp n path off=>Mn (fun k=>.bp n (path++[f]) (off+k)) o
 | .ep n e i path off=>Mn (fun k=>.ep n e i (path++[f]) (off+k)) o
 | .ip (.agg u) v=>FT o (H8 u f) (Fx u f v)
 | _=>none
def Et (f:Nat):Option TI→Option AV→BS
 | some ⟨.agg _,offs,0,_⟩,some x=>J4 f offs[f]? x
 | _,_=>none
def GM (offs:List (Nat×Nat)) (x:AV):AV→BS
 | .p (.int _) k=>if 0≤k then J4 k.toNat offs[k.toNat]? x else none
 | _=>none
def EK:Option TI→Option AV→Option AV→BS
 | some ⟨.slice e,_,_,_⟩,some (.p (.slice e') l),some (.p (.int _) k)=>if e=e' then some (0≤k∧k<l.length,.ip e' (l.getD k.toNat e'.dflt),[]) else none
 | some ⟨.slice e,_,_,_⟩,some (.sr n e' lo hi),some (.p (.int _) k)=>if e=e' then some (0≤k∧k<(hi-lo:Nat),.ep n e' (lo+k.toNat) [] 0,[]) else none
 | some ⟨.agg _,offs,_+1,_⟩,some x,some i=>GM offs x i
 | _,_,_=>none
def Cs:Option TI→Option AV→Option AV→BS
 | some ⟨.str,_,_,_⟩,some (.p .str s),some (.p (.int _) k)=>some (0≤k∧k<s.size,.p (.int .u8) ((s.data.getD k.toNat 0).toNat:Int),[])
 | _,_,_=>none
def Mo:Option AV→BS
 | some (.bp n path off)=>some (True,.bp n path off,[])
 | some (.ip t v)=>some (True,.ip t v,[])
 | some (.ep n e i path off)=>some (True,.ep n e i path off,[])
 | _=>none
def Ss (a b:Bool):BinOp→BS
 | .eql=>some (True,.p .bool (a==b),[])
 | .neq=>some (True,.p .bool (a != b),[])
 | _=>none
def KX:Option TI→Bool
 | some ⟨.bool,_,_,_⟩=>true
 | _=>false
def Lj (op:BinOp) (ti:Option TI):Option AV→Option AV→BS
 | some (.p (.int k) a),some (.p (.int k') b)=>some ((gG op k a k' b).1,(gG op k a k' b).2,[])
 | some (.p .str a),some (.p .str b)=>some ((Nt a b op).1,(Nt a b op).2,[])
 | some (.p .bool a),some (.p .bool b)=>if KX ti=true then Ss a b op else none
 | _,_=>none
def Zq:UnOp→Option AV→BS
 | .not,some (.p .bool b)=>some (True,.p .bool (!b),[])
 | .neg,some (.p (.int k) a)=>some (J3 k (0-a),.p (.int k) (0-a),[])
 | _,_=>none
def Ow (l:List Int):ByteArray:=⟨(l.map fun x=>UInt8.ofNat x.toNat).toArray⟩
def G7:Option TI→Option TI→Option AV→BS
 | some ⟨.int _,_,_,_⟩,some ⟨.int k,_,_,_⟩,some (.p (.int _) a)=>some (J3 k a,.p (.int k) a,[])
 | some ⟨.slice (.int .u8),_,_,_⟩,some ⟨.str,_,_,_⟩,some (.p (.slice (.int .u8)) l)=>some (True,.p .str (Ow l),[])
 | _,_,_=>none
def HW (d:Nat) (el:TypeId) (e:Ty) (n m:Int):Option TI→BS
 | some ti=>some (n=m∧0≤n∧n.toNat*ti.bytes≤AO,.sr d e 0 n.toNat,[(d,.arr el e (List.replicate n.toNat e.dflt))])
 | none=>none
def GT (tb:Tb) (d:Nat):Option TI→Option AV→Option AV→BS
 | some ⟨.slice e,_,el,_⟩,some (.p (.int .i64) n),some (.p (.int .i64) m)=>HW d el e n m (lk el tb.ty)
 | _,_,_=>none
def D9:Option TI→Option AV→Option (Option AV)→Option (Option AV)→BS
 | some ⟨.slice e,_,_,_⟩,some (.p (.slice e') l),some a,some h=>if e=e' then FN (.p (.slice e') l) a h else none
 | some ⟨.slice e,_,_,_⟩,some (.sr n e' b c),some a,some h=>if e=e' then FN (.sr n e' b c) a h else none
 | some ⟨.str,_,_,_⟩,some (.p .str s),some a,some h=>FN (.p .str s) a h
 | _,_,_,_=>none
def Ci:Option TI→Option AV→Option AV→Option AV→BS
 | some ⟨.slice e,_,_,_⟩,some (.p (.slice e') l),some (.p (.int _) a),some (.p (.int _) b)=>if e=e' then some (a=(List.length l:Int)∧b=(List.length l:Int),.pc e' l,[]) else none
 | _,_,_,_=>none
def Ct (i:Nat):Option AV→BS
 | some (.tup l)=>FO l[i]?
 | _=>none
def L8:Option TI→Option AV→BS
 | some ⟨.slice _,_,_,_⟩,some (.p (.slice _) l)=>some (True,.p (.int .i64) (l.length:Int),[])
 | some ⟨.slice _,_,_,_⟩,some (.sr _ _ lo hi)=>some (True,.p (.int .i64) ((hi-lo:Nat):Int),[])
 | some ⟨.slice _,_,_,_⟩,some (.nin _ _ _ len)=>some (True,.p (.int .i64) (len:Int),[])
 | some ⟨.slice _,_,_,_⟩,some (.raw (.slice none 0 0))=>some (True,.p (.int .i64) (0:Int),[])
 | some ⟨.str,_,_,_⟩,some (.p .str s)=>some (True,.p (.int .i64) (s.size:Int),[])
 | _,_=>none
def DP (d:Nat) (el:TypeId) (e:Ty):Option TI→Option (List e.den)→BS
 | some ti,some ys=>some (ys.length*ti.bytes≤AO,.sr d e 0 ys.length,[(d,.arr el e ys)])
 | _,_=>none
def Cu (tb:Tb) (σ:St) (d:Nat) (v:AV):Option TI→BS
 | some ⟨.slice e,_,el,_⟩=>DP d el e (lk el tb.ty) (Lq σ e v)
 | _=>none
def Gg (d:Nat) (el:TypeId) (e:Ty) (l:List e.den):Option TI→Option (List e.den)→BS
 | some ti,some ys=>some (0<ys.length∧(l.length+ys.length)*ti.bytes≤AO,.sr d e 0 (l.length+ys.length),[(d,.arr el e (l++ys))])
 | _,_=>none
def F7 (tb:Tb) (σ:St) (d:Nat) (e:Ty) (l:List e.den) (v:AV):Option TI→BS
 | some ⟨.slice e',_,el,_⟩=>if e'=e then Gg d el e l (lk el tb.ty) (Lq σ e v) else none
 | _=>none
def Bw (tb:Tb) (σ:St) (d:Nat) (t u:TypeId):Option AV→Option AV→BS
 | some (.raw (.slice none 0 0)),some v=>if t=u then Cu tb σ d v (lk t tb.ty) else none
 | some (.pc e l),some v=>if t=u then F7 tb σ d e l v (lk t tb.ty) else none
 | _,_=>none
def Lk:Option AV→Option AV→BS
 | some (.p (.int k) a),some (.p (.int k') b)=>if k=k' then some (True,.p (.int k) (if b<a then b else a),[]) else none
 | _,_=>none
def GU:Option AV→Option AV→Option AV→BS
 | some (.p (.int k) a),some (.p (.int k') b),some (.p (.int k2) c)=>if k=k'∧k=k2 then some (True,.p (.int k) (if c<(if b<a then b else a) then c else (if b<a then b else a)),[]) else none
 | _,_,_=>none
def Ll:Option AV→Option AV→BS
 | some (.p (.int k) a),some (.p (.int k') b)=>if k=k' then some (True,.p (.int k) (if a<b then b else a),[]) else none
 | _,_=>none
def Gh (d:Nat) (sp:Ah):Option (KU sp.ins)→BS
 | some ds=>if sp.lend=false∨(sp.out ds).all RV.flat=true then some (sp.pre ds,G0 d (sp.out ds),CM d (sp.out ds)) else none
 | none=>none
def F8 (σ:St) (d:Nat) (xs:List Operand):Option Ah→BS
 | some sp=>Gh d sp (Eg sp.lend σ sp.ins xs)
 | none=>none
def IE (tb:Tb) (σ:St) (d:Nat) (xs:List Operand):Option AV→BS
 | some (.fn f)=>F8 σ d xs (lk f tb.fns)
 | _=>none
def B9 (tb:Tb) (σ:St) (d:Nat):Builtin→List Operand→List TypeId→BS
 | .len,[x],[t]=>L8 (lk t tb.ty) (Ae σ x)
 | .append,[x,y],[t,u]=>Bw tb σ d t u (Ae σ x) (Ae σ y)
 | .min,[x,y],[_,_]=>Lk (Ae σ x) (Ae σ y)
 | .max,[x,y],[_,_]=>Ll (Ae σ x) (Ae σ y)
 | .min,[x,y,z],[_,_,_]=>GU (Ae σ x) (Ae σ y) (Ae σ z)
 | _,_,_=>none
def Fz (σ:St):List Operand→Option (List Nat)
 | []=>some []
 | x :: r=>match Ae σ x,Fz σ r with
  | some (.bp n [] 0),some ns=>some (n :: ns)
  | _,_=>none
def J5 (f:FuncId):Option (List Nat)→BS
 | some ns=>some (True,.clo f ns,[])
 | none=>none
def Pu (σ:St) (fn:Fn) (first captured:List Operand):BS :=
 match fn,first with
 | .func f,[]=>J5 f (Fz σ captured)
 | _,_=>none
def D0 (d:Nat):Option TI→Option TI→BS
 | some tk,some te=>some (True,.mp d,[(d,.mapo tk.ty te.ty [])])
 | _,_=>none
def D5 (tb:Tb) (d:Nat):List (Nat×Nat)→BS
 | [(k,e)]=>D0 d (lk k tb.ty) (lk e tb.ty)
 | _=>none
def Dr (tb:Tb) (d:Nat):Option TI→BS
 | some ⟨.ref 2,offs,_,_⟩=>D5 tb d offs
 | _=>none
def HX (vt:Ty) (ok:Bool) (r:Option vt.den):BS :=
 if ok then some (True,.tup [.p vt (r.getD vt.dflt),.p .bool r.isSome],[]) else some (True,.p vt (r.getD vt.dflt),[])
def Gi (kt vt:Ty) (l:List (kt.den×vt.den)) (ok:Bool):Option kt.den→BS
 | some k=>if Nu kt=true then HX vt ok (Ay kt vt k l) else none
 | none=>none
def FU (tb:Tb) (σ:St) (kid eid:Nat) (x:AV) (ok:Bool):Option Obj→BS
 | some (.mapo kt vt l)=>if (lk kid tb.ty).map TI.ty=some kt∧(lk kid tb.ty).map TI.el=some 0∧(lk eid tb.ty).map TI.ty=some vt then Gi kt vt l ok (Iz false σ kt x) else none
 | _=>none
def GV (tb:Tb) (σ:St) (ok:Bool):Option TI→Option AV→Option AV→BS
 | some ⟨.ref 2,[(k,e)],_,_⟩,some (.mp n),some x=>FU tb σ k e x ok (lk n σ.objs)
 | _,_,_=>none
def B5 (tb:Tb) (σ:St) (d:Nat) (xs:List Operand) (ts:List TypeId):Callee→BS
 | .builtin b=>B9 tb σ d b xs ts
 | .value g=>IE tb σ d xs (Ae σ g)
 | _=>none
def aq (tb:Tb) (σ:St) (d:Nat):Op→BS
 | .move x=>FO (Ae σ x)
 | .assign x=>FO (Ae σ x)
 | .pick c x y=>HV (Ae σ c) (Ae σ x) (Ae σ y)
 | .alloc t=>Ge d t (lk t tb.ty)
 | .box t x=>L7 d t (lk t tb.ty) (Ae σ x)
 | .build t parts=>F4 σ parts.toList (lk t tb.ty)
 | .buildSlice t n parts=>EU tb σ d n parts.toList (lk t tb.ty) (lk d tb.nests)
 | .load t x=>G2 σ (lk t tb.ty) (Ae σ x)
 | .fieldAddr s x f=>Et f (lk s tb.ty) (Ae σ x)
 | .indexAddr t x i=>EK (lk t tb.ty) (Ae σ x) (Ae σ i)
 | .index t x i=>Cs (lk t tb.ty) (Ae σ x) (Ae σ i)
 | .nilCheck x=>Mo (Ae σ x)
 | .binOp op t x y _=>Lj op (lk t tb.ty) (Ae σ x) (Ae σ y)
 | .unOp op _ x=>Zq op (Ae σ x)
 | .convert s t x=>G7 (lk s tb.ty) (lk t tb.ty) (Ae σ x)
 | .makeSlice t l c=>GT tb d (lk t tb.ty) (Ae σ l) (Ae σ c)
 | .slice t x none (some hi) (some mx)=>Ci (lk t tb.ty) (Ae σ x) (Ae σ hi) (Ae σ mx)
 | .slice t x lo hi none=>D9 (lk t tb.ty) (Ae σ x) (E2 σ lo) (E2 σ hi)
 | .extract x i=>Ct i (Ae σ x)
 | .call c=>B5 tb σ d c.args.toList c.argTypes.toList c.callee
 | .makeFunc fn first captured=>Pu σ fn first.toList captured.toList
 | .makeMap t none=>Dr tb d (lk t tb.ty)
 | .lookup t x i ok=>GV tb σ ok (lk t tb.ty) (Ae σ x) (Ae σ i)
 | _=>none
def J6:AV→Bool
 | .ag _=>false
 | _=>true
def Gj (st:Bool) (fs:List AV) (v:AV):List Nat→Option (List AV)
 | []=>if st then match v with
   | .p (.agg u) d=>some (kL u d)
   | .ag l=>some l
   | _=>none
  else if J6 v then some [v] else none
 | [k]=>if st&&J6 v then some (fs.set k v) else none
 | k :: r=>if st then match fs[k]?,v with
   | some (.p t d),.p u x=>(Mm r t d ⟨u,x⟩).map fun y=>fs.set k (.p t y)
   | _,_=>none
  else none
abbrev Cn:=Option (Prop×St)
def DQ (σ:St) (n:Nat) (et:TypeId) (st:Bool) (ty:Ty) (fs:List AV) (path:List Nat) (off:Nat) (v:AV):Option AV→Option (List AV)→Cn
 | some u,some fs'=>if I0 ty u=true∧Bx ty v=true∧KV fs path=some off∧fs'.map AV.cells=fs.map AV.cells then some (True,⟨σ.env,upd n (.box et st fs') σ.objs⟩) else none
 | _,_=>none
def CV (σ:St) (n:Nat) (ty:Ty) (path:List Nat) (off:Nat) (v:AV):Option Obj→Cn
 | some (.box et st fs)=>DQ σ n et st ty fs path off v (Gz st fs path) (Gj st fs v path)
 | _=>none
def Ds (σ:St) (n:Nat) (et:TypeId) (e:Ty) (i:Nat) (path:List Nat) (off:Nat) (ys:List e.den):Option e.den→Cn
 | some z=>if Iy path e=some off then some (True,⟨σ.env,upd n (.arr et e (ys.set i z)) σ.objs⟩) else none
 | none=>none
def Cv (σ:St) (n:Nat) (et:TypeId) (ty e:Ty) (i:Nat) (path:List Nat) (off:Nat):Option (List e.den)→Option ty.den→Cn
 | some ys,some w=>Ds σ n et e i path off ys (Mm path e (ys.getD i e.dflt) ⟨ty,w⟩)
 | _,_=>none
/-! A nested array's row -/
def IG (σ:St) (d n:Nat) (et iet:TypeId) (k e:Ty) (xs:List (k.den×List e.den)) (i bytes:Nat):Option (List e.den)→Cn
 | some ys=>if (lk d σ.objs).isNone=true∧ys.isEmpty=false then some (((xs.getD i (k.dflt,[])).2.length+ys.length)*bytes≤AO,
   ⟨(d,.sr d e 0 ((xs.getD i (k.dflt,[])).2.length+ys.length)) :: DE n [] σ.env,(d,.arr iet e ((xs.getD i (k.dflt,[])).2++ys)) :: (n,.nest et iet k e xs (some i)) :: Bv n [] σ.objs⟩) else none
 | none=>none
def J7 (σ:St) (d n:Nat) (el:TypeId) (e':Ty) (i:Nat) (v:AV):Option TI→Option Obj→Cn
 | some ti,some (.nest et iet k e xs none)=>if e'=e∧iet=el∧FL n=false then IG σ d n et iet k e xs i ti.bytes (Lq σ e v) else none
 | _,_=>none
def I2 (tb:Tb) (σ:St) (d n:Nat) (e':Ty) (i:Nat) (v:AV):Option TI→Cn
 | some ⟨.slice e,_,el,_⟩=>if e'=e then J7 σ d n el e i v (lk el tb.ty) (lk n σ.objs) else none
 | _=>none
def Gk (σ:St) (n m:Nat) (et iet:TypeId) (k e:Ty) (xs:List (k.den×List e.den)) (i hi:Nat):Option (List e.den)→Cn
 | some ys=>some (hi=ys.length,⟨DE n [m] σ.env,(n,.nest et iet k e (xs.set i ((xs.getD i (k.dflt,[])).1,ys)) none) :: Bv n [m] σ.objs⟩)
 | none=>none
def HY (σ:St) (n m:Nat) (et iet:TypeId) (k e:Ty) (xs:List (k.den×List e.den)) (i hi:Nat):Option Obj→Cn
 | some (.arr jet e2 ys)=>if jet=iet∧FL m=false∧FL n=false then Gk σ n m et iet k e xs i hi (BH (.slice e) ⟨.slice e2,ys⟩) else none
 | _=>none
def Gl (σ:St) (d n m:Nat) (et iet:TypeId) (k e:Ty) (hi hi' bytes:Nat) (xs:List (k.den×List e.den)):Option (List (k.den×List e.den))→Cn
 | some ys=>some (hi=xs.length∧hi'=ys.length∧(xs.length+ys.length)*bytes≤AO,
   ⟨(d,.sr n (.agg (.prod k (.slice e))) 0 (xs.length+ys.length)) :: BP [n,m] σ.env,(n,.nest et iet k e (xs++ys) none) :: Ab [n,m] [n,m] σ.objs⟩)
 | none=>none
def HZ (σ:St) (d n m:Nat) (et iet:TypeId) (k e:Ty) (hi hi' bytes:Nat) (xs:List (k.den×List e.den)):Option Obj→Cn
 | some (.nest _ iet' k' e' ys none)=>if iet'=iet∧n≠m∧FL m=false then Gl σ d n m et iet k e hi hi' bytes xs (BH (.slice (.agg (.prod k (.slice e)))) ⟨.slice (.agg (.prod k' (.slice e'))),ys⟩) else none
 | _=>none
def KY (σ:St) (d n:Nat) (et iet:TypeId) (k e:Ty) (hi bytes:Nat) (xs:List (k.den×List e.den)):AV→Cn
 | .sr m _ 0 hi'=>HZ σ d n m et iet k e hi hi' bytes xs (lk m σ.objs)
 | _=>none
def J8 (σ:St) (d m:Nat) (el iet:TypeId) (k e:Ty) (ys:List (k.den×List e.den)) (hi' bytes:Nat):Cn :=
 if (lk d σ.objs).isNone=true∧FL m=false then some (hi'=ys.length∧ys.length*bytes≤AO,
  ⟨(d,.sr d (.agg (.prod k (.slice e))) 0 ys.length) :: BP [m] σ.env,(d,.nest el iet k e ys none) :: Ab [m] [m] σ.objs⟩) else none
def J9 (σ:St) (d m:Nat) (el:TypeId) (t:Ty) (hi':Nat):Option TI→Option Obj→Cn
 | some ti,some (.nest _ iet k e ys none)=>if t=.agg (.prod k (.slice e)) then J8 σ d m el iet k e ys hi' ti.bytes else none
 | _,_=>none
def Pv (tb:Tb) (σ:St) (d:Nat):AV→Option TI→Cn
 | .sr m _ 0 hi',some ⟨.slice t,_,el,_⟩=>J9 σ d m el t hi' (lk el tb.ty) (lk m σ.objs)
 | _,_=>none
def Ha (σ:St) (n m:Nat) (ty:Ty) (et iet:TypeId) (k e:Ty) (xs:List (k.den×List e.den)) (i hi:Nat) (path:List Nat) (off:Nat):Cn :=
 if ty=.slice e∧path=[1]∧off=k.size then HY σ n m et iet k e xs i hi (lk m σ.objs) else none
def CW (σ:St) (n:Nat) (ty e:Ty) (i:Nat) (path:List Nat) (off:Nat) (v:AV):Option Obj→Cn
 | some (.arr et e' xs)=>Cv σ n et ty e i path off (BH (.slice e) ⟨.slice e',xs⟩) (Iz false σ ty v)
 | some (.nest et iet k e' xs (some j))=>match v with
  | .sr m E 0 hi=>if e=.agg (.prod k (.slice e'))∧i=j∧E=e' then Ha σ n m ty et iet k e' xs i hi path off else none
  | _=>none
 | _=>none
def FW (σ:St):Option TI→Option AV→Option AV→Cn
 | some ti,some (.bp n path off),some v=>CV σ n ti.ty path off v (lk n σ.objs)
 | some ti,some (.ep n e i path off),some v=>CW σ n ti.ty e i path off v (lk n σ.objs)
 | _,_,_=>none
def DR (σ:St) (d n:Nat) (et:TypeId) (e:Ty) (hi:Nat) (bytes:Nat):Option (List e.den)→Option (List e.den)→Cn
 | some zs,some ys=>some ((hi+ys.length)*bytes≤AO,⟨(d,.sr n e 0 (hi+ys.length)) :: EI n σ.env,upd n (.arr et e (zs.take hi++ys)) (BE n σ.objs)⟩)
 | _,_=>none
def Bo (σ:St) (d n:Nat) (el:TypeId) (e:Ty) (hi:Nat) (v:AV) (ys:Option (List e.den)):Option TI→Option Obj→Cn
 | some ti,some (.arr et e' xs)=>if et=el then DR σ d n et e hi ti.bytes (BH (.slice e) ⟨.slice e',xs⟩) ys else none
 | some ti,some (.nest et iet k e' xs none)=>if et=el∧e=.agg (.prod k (.slice e')) then KY σ d n et iet k e' hi ti.bytes xs v else none
 | _,_=>none
def Cw (tb:Tb) (σ:St) (d:Nat) (n:Nat) (e':Ty) (hi:Nat) (v:AV):Option TI→Cn
 | some ⟨.slice e,_,el,_⟩=>if e=e' then Bo σ d n el e hi v (Lq σ e v) (lk el tb.ty) (lk n σ.objs) else none
 | _=>none
def CK (tb:Tb) (σ:St) (d:Option Nat) (t u:TypeId):Option AV→Option AV→Cn
 | some (.sr n e 0 hi),some v=>match d with
  | some d=>if t=u∧FL n=false then Cw tb σ d n e hi v (lk t tb.ty) else none
  | none=>none
 | some (.nin n e i _),some v=>match d with
  | some d=>if t=u then I2 tb σ d n e i v (lk t tb.ty) else none
  | none=>none
 | some (.raw (.slice none 0 0)),some v=>match d with
  | some d=>if t=u then Pv tb σ d v (lk t tb.ty) else none
  | none=>none
 | _,_=>none
def CQ (tb:Tb) (σ:St) (d:Option Nat):Builtin→List Operand→List TypeId→Cn
 | .append,[x,y],[t,u]=>CK tb σ d t u (Ae σ x) (Ae σ y)
 | _,_,_=>none
def CL (tb:Tb) (σ:St) (d:Option Nat) (xs:List Operand) (ts:List TypeId):Callee→Cn
 | .builtin b=>CQ tb σ d b xs ts
 | _=>none
def EV (σ:St) (n:Nat) (kt vt:Ty) (l:List (kt.den×vt.den)):Option kt.den→Option vt.den→Cn
 | some k,some v=>if Nu kt=true then some (True,⟨σ.env,upd n (.mapo kt vt (HU kt vt k v l)) σ.objs⟩) else none
 | _,_=>none
def EF (tb:Tb) (σ:St) (n:Nat) (kid:Nat) (x y:AV):Option Obj→Cn
 | some (.mapo kt vt l)=>if (lk kid tb.ty).map TI.ty=some kt∧(lk kid tb.ty).map TI.el=some 0 then EV σ n kt vt l (Iz false σ kt x) (Iz false σ vt y) else none
 | _=>none
def Gm (tb:Tb) (σ:St):Option TI→Option AV→Option AV→Option AV→Cn
 | some ⟨.ref 2,[(k,_)],_,_⟩,some (.mp n),some x,some y=>EF tb σ n k x y (lk n σ.objs)
 | _,_,_,_=>none
def Cj (r:Cn):Option Nat→Cn
 | none=>r
 | some _=>none
def EL (tb:Tb) (σ:St) (d:Option Nat):Op→Cn
 | .store t x y=>Cj (FW σ (lk t tb.ty) (Ae σ x) (Ae σ y)) d
 | .mapUpdate t m x y=>Cj (Gm tb σ (lk t tb.ty) (Ae σ m) (Ae σ x) (Ae σ y)) d
 | .call c=>CL tb σ d c.args.toList c.argTypes.toList c.callee
 | _=>none
def St.add (σ:St) (v:AV) (obs:List (Nat×Obj)):Option Nat→St
 | some d=>⟨(d,v) :: σ.env,obs++σ.objs⟩
 | none=>⟨σ.env,obs++σ.objs⟩
def HG:Option AV→List Nat
 | some v=>v.names
 | none=>[]
def B0 (σ:St):List (Nat×Operand)→List Nat
 | []=>[]
 | (_,x) :: r=>HG (Ae σ x)++B0 σ r
def HH:Option AV→List Nat
 | some (.ag l)=>AV.namess l
 | _=>[]
def DS (σ:St):List (Nat×Operand)→List Nat
 | []=>[]
 | (_,x) :: r=>HH (Ae σ x)++DS σ r
def BD (σ:St):Option AV→Option AV→List Nat
 | some (.ep n _ _ _ _),some v=>if B8 (lk n σ.objs)=true then [] else v.names
 | _,_=>[]
def FX:Option AV→Option AV→Option AV→List Nat
 | some (.mp _),some v,some u=>v.names++u.names
 | _,_,_=>[]
def Bm (σ:St):Op→List Nat
 | .buildSlice _ _ parts=>B0 σ parts.toList
 | .build _ parts=>DS σ parts.toList
 | .store _ x y=>BD σ (Ae σ x) (Ae σ y)
 | .mapUpdate _ m x y=>FX (Ae σ m) (Ae σ x) (Ae σ y)
 | _=>[]
def CA:List Nat→St→St
 | [],σ=>σ
 | n :: r,σ=>CA r (frz n σ)
def BJ (obs:List (Nat×Obj)) (σ:St):Bool:=obs.all fun p=>(lk p.1 σ.objs).isNone
def Hb (tb:Tb) (σ:St) (o:Oper):BS→Cn
 | some (vc,v,obs)=>if BJ obs σ=true then some (vc,σ.add v obs o.dst) else none
 | none=>EL tb σ o.dst o.op
def KA (tb:Tb) (o:Oper) (σ:St):Cn:=Hb tb σ o (aq tb σ (o.dst.getD 0) o.op)
def Eh (tb:Tb) (o:Oper) (σ:St):Cn:=KA tb o (CA (Bm σ o.op) σ)
def Nv (want:Bool):Option AV→Option Bool
 | some (.p .bool b)=>some (b==want)
 | _=>none
def Gn (σ:St) (want:Bool):Option Tmp→Option Bool
 | some g=>Nv want (lk g σ.env)
 | none=>none
def DK (ops:List Oper) (σ:St):Option (Nat×Bool)→Option Bool
 | none=>some true
 | some (j,want)=>Gn σ want ((ops[j]?).bind (·.dst))
def Pw (vc:Prop):Cn→Cn
 | some (vc',σ)=>some (vc∧vc',σ)
 | none=>none
mutual
/-- Operations in the order of the text. -/
def BX (tb:Tb) (ops:List Oper):List Oper→St→Cn
 | [],σ=>some (True,σ)
 | o :: r,σ=>evG tb ops o r σ (DK ops σ o.guard)
def evG (tb:Tb) (ops:List Oper) (o:Oper) (r:List Oper) (σ:St):Option Bool→Cn
 | some true=>evK tb ops r (Eh tb o σ)
 | some false=>BX tb ops r (σ.add (.raw undef) [] o.dst)
 | none=>none
def evK (tb:Tb) (ops:List Oper) (r:List Oper):Cn→Cn
 | some (vc,σ)=>Pw vc (BX tb ops r σ)
 | none=>none
end
end
/- What an abstract state says of a frame and a world; that it is kept where nothing that it speaks of turns. -/
section
open Go Go.RowKit
theorem B6 {w:World} {b:Nat} {o:_root_.Go.Obj} (h:w.heap[b]?=some o):b<w.heap.size:=by
 rcases Nat.lt_or_ge b w.heap.size with h'|h'
 ·exact h'
 ·simp[Array.getElem?_eq_none h']at h
def blk:Value→Option Nat
 | .slice (some a) _ _=>some a.block
 | .pointer (some a)=>some a.block
 | .map (some b)=>some b
 | _=>none
def bk (v:Value) (b:Nat):Prop:=blk v=some b∨∃vs:Array Value,v=.tuple vs∧∃x∈vs.toList,blk x=some b
theorem KZ {a:Option Addr} {m c b:Nat}:bk (.slice a m c) b↔blk (.slice a m c)=some b:=by
 constructor
 ·intro h
  rcases h with h|⟨_,h,_⟩
  ·exact h
  ·cases h
 ·exact .inl
def plc:Value→Value
 | .tuple vs=>vs.getD 0 undef
 | v=>v
def Co (loc:Value) (sz lo hi:Nat) (v:Value):Prop :=
 ∃(a:Option Addr) (m c:Nat),loc=.slice a m c∧lo≤hi∧hi≤m∧∃(a':Option Addr) (c':Nat),v=.slice a' (hi-lo) c'∧hi-lo≤c'∧(lo=0→a'=a∧c'=c)∧(lo<hi→a'=a.map (·.add (lo*sz)))
structure Vw where
 w:World
 /-- blocks that no pure value looks at -/
 O:Nat→Prop
 /-- names that live -/
 L:Nat→Prop
 /-- where they lie -/
 ρ:Nat→Value
def vY (u v:Value):Prop:=v=u∨(u=.slice none 0 0∧∃a:Option Addr,v=.slice a 0 0)
def Qn (V:Vw):AV→Value→Prop
 | .p t d,v=>BR V.w V.O t v d
 | .pc e d,v=>BR V.w V.O (.slice e) v d∧∃a:Option Addr,v=.slice a (List.length d) (List.length d)
 | .raw u,v=>v=u
 | .sr n e lo hi,v=>V.L n∧Co (plc (V.ρ n)) e.size lo hi v
 | .ep n e i _ off,v=>V.L n∧∃g m c:Nat,plc (V.ρ n)=.slice (some ⟨g,0,none⟩) m c∧i<m∧v=.pointer (some ⟨g,i*e.size+off,none⟩)
 | .nin n _ i len,v=>V.L n∧∃(vs:Array Value) (a:Option Addr) (c:Nat) (u:Value),V.ρ n=.tuple vs∧vs[i+1]?=some u∧vY u v∧v=.slice a len c
 | .ip t d,v=>∃(ad:Addr) (cs:List Value),v=.pointer (some ad)∧¬V.O ad.block∧(∀(j:Nat) (u:Value),cs[j]?=some u→V.w.cell? (ad.add j)=some u)∧Bi V.w V.O t cs d
 | .bp n _ off,v=>V.L n∧∃b:Nat,V.ρ n=.pointer (some ⟨b,0,none⟩)∧v=.pointer (some ⟨b,off,none⟩)
 | .fn f,v=>v=.func (.func f) #[] #[]
 | .clo f ns,v=>v=.func (.func f) #[] (ns.map V.ρ).toArray∧∀n∈ns,V.L n∧∃b:Nat,V.ρ n=.pointer (some ⟨b,0,none⟩)
 | .mp n,v=>V.L n∧∃b:Nat,V.ρ n=.map (some b)∧v=.map (some b)
 | .yl n,v=>V.L n∧∃b:Nat,V.ρ n=.pointer (some ⟨b,0,none⟩)∧v=.func (.yield b) #[] #[]
 | .top,_=>True
 | .ag _,_=>False
 | .tup _,_=>False
def Lm (V:Vw):AV→List Value→Prop
 | .p t d,cs=>Bi V.w V.O t cs d
 | av,cs=>∃v,cs=[v]∧v.oneCell'=true∧Qn V av v
def DF (V:Vw):List AV→List Value→Prop
 | [],cs=>cs=[]
 | x :: r,cs=>∃c1 c2:List Value,cs=c1++c2∧Lm V x c1∧DF V r c2
def Ox (V:Vw):AV→Value→Prop
 | .ag l,v=>∃cs:List Value,v=.agg cs.toArray∧DF V l cs
 | x,v=>Qn V x v
def I3 (V:Vw):List AV→List Value→Prop
 | [],vs=>vs=[]
 | x :: r,vs=>∃(v:Value) (l:List Value),vs=v :: l∧Ox V x v∧I3 V r l
theorem Ox.of1 {V:Vw} {x:AV} {v:Value} (h:Qn V x v):Ox V x v:=by
 cases x
 case ag l=>exact h.elim
 all_goals exact h
def Bp (V:Vw):AV→Value→Prop
 | .ag l,v=>∃cs:List Value,v=.agg cs.toArray∧DF V l cs
 | .tup l,v=>∃vs:List Value,v=.tuple vs.toArray∧I3 V l vs
 | av,v=>Qn V av v
theorem kT {V:Vw} {x:AV} {v:Value} (h:Ox V x v):Bp V x v:=by
 cases x
 case tup l=>exact(show False from h).elim
 all_goals exact h
def DZ (w:World) (O:Nat→Prop) (e:Ty) (cells:List Value) (xs:List e.den):Prop :=
 ∀(i:Nat) (x:e.den),xs[i]?=some x→∃es:List Value,es.length=e.size∧(∀(j:Nat) (u:Value),es[j]?=some u→cells[i*e.size+j]?=some u)∧Bi w O e es x
def I4 (w:World) (O:Nat→Prop) (k v:Ty):List MapEntry→List (k.den×v.den)→Prop
 | [],[]=>True
 | e :: es,x :: xs=>BR w O k e.key x.1∧BR w O v e.val x.2∧I4 w O k v es xs
 | _,_=>False
def Nw (es:Array MapEntry) (clock:Nat):Prop:=(es.toList.map (·.born)).Nodup∧∀b∈es.toList.map (·.born),b<clock
def L9 (V:Vw) (et:TypeId) (e:Ty) (xs:List e.den) (loc:Value):Prop:=xs.length≤AO∧∃cells:List Value,V.w.ownsRow 0 et e.size loc xs.length cells∧DZ V.w V.O e cells xs
def Uk (V:Vw) (iet:TypeId) (k e:Ty) (hole:Bool) (cells:List Value) (i:Nat) (x:k.den×List e.den) (u:Value):Prop :=
 ∃(c1:List Value) (v:Value),(∀(j:Nat) (z:Value),(c1++[v])[j]?=some z→cells[i*(k.size+1)+j]?=some z)∧Bi V.w V.O k c1 x.1 ∧
  ((hole=true∧u=.slice none 0 0)∨(hole=false∧vY u v∧L9 V iet e x.2 u))
structure KB (V:Vw) (et iet:TypeId) (k e:Ty) (xs:List (k.den×List e.den)) (h:Option Nat) (o:Value) (ins:List Value) (cells:List Value):Prop where
 max:xs.length≤AO
 len:ins.length=xs.length
 own:V.w.ownsRow 0 et (k.size+1) o xs.length cells
 row:∀(i:Nat) (x:k.den×List e.den) (u:Value),xs[i]?=some x→ins[i]?=some u→Uk V iet k e (h==some i) cells i x u
 dist:∀(i j b:Nat) (u v:Value),ins[i]?=some u→ins[j]?=some v→blk u=some b→blk v=some b→i=j
 out:∀(i b:Nat) (u:Value),ins[i]?=some u→blk u=some b→blk o≠some b
def wN (loc o:Value) (ins:List Value):Prop:=loc=.tuple (o :: ins).toArray∨(loc=.slice none 0 0∧o=.slice none 0 0∧ins=[])
def A1t (V:Vw) (k v:Ty) (l:List (k.den×v.den)) (left:List Nat) (cur:Option Nat) (r:Nat):Prop :=
 ∃(b:Nat) (ms:Array MapEntry) (clock since:Nat) (seen:Array Nat),V.w.heap[r]?=some (.mapIter (some b) since seen clock)∧¬V.O b∧V.w.heap[b]?=some (.map ms clock)∧I4 V.w V.O k v ms.toList l∧Nw ms clock ∧
  (∀s∈ms.toList.map (·.born),s<since)∧since≤clock∧left.Nodup∧(∀i,i∈left↔∃e,ms[i]?=some e∧e.born∉seen)∧(∀i,cur=some i→∃e,ms[i]?=some e∧seen.back?=some e.born)
def Aw (V:Vw):Obj→Value→Prop
 | .arr et e xs,loc=>L9 V et e xs loc
 | .nest et iet k e xs h,loc=>∃(o:Value) (ins cells:List Value),wN loc o ins∧KB V et iet k e xs h o ins cells
 | .box et st fs,loc=>(st=false→fs.length=1)∧∃(b:Nat) (cs:List Value),loc=.pointer (some ⟨b,0,none⟩)∧V.w.heap[b]?=some (.cells cs.toArray et (0,0))∧DF V fs cs
 | .mapo k v l,loc=>∃(b:Nat) (es:Array MapEntry) (clock:Nat),loc=.map (some b)∧V.w.heap[b]?=some (.map es clock)∧I4 V.w V.O k v es.toList l∧Nw es clock
 | .frame tm fs,loc=>loc=.pointer none∧∀s x,lk s fs=some x→Bp V x (tm.getD s undef)
 | .itr k v l left cur,loc=>∃r:Nat,loc=.pointer (some ⟨r,0,none⟩)∧A1t V k v l left cur r
 | .loop L,loc=>∃b:Nat,loc=.pointer (some ⟨b,0,none⟩)∧V.w.heap[b]?=some (.loop L)
 | .dfr,loc=>∃b:Nat,loc=.pointer (some ⟨b,0,none⟩)∧V.w.heap[b]?=some (.deferred (some []))
structure yB (K:Nat→Prop) (w0 w:World):Prop where
 os:w.os=w0.os
 tape:w.tape=w0.tape
 output:w.output=w0.output
 size:w0.heap.size≤w.heap.size
 block:∀k,K k→w.heap[k]?=w0.heap[k]?
def GN (σ:St) (n:Nat):Prop:=∃o,lk n σ.objs=some o
def own (O0:Nat→Prop) (σ:St) (ρ:Nat→Value) (b:Nat):Prop:=O0 b∨∃n,GN σ n∧bk (ρ n) b
def vw (w:World) (O0:Nat→Prop) (σ:St) (ρ:Nat→Value):Vw:=⟨w,own O0 σ ρ,GN σ,ρ⟩
def wO:Value→Bool
 | .slice _ _ _=>false
 | .tuple _=>false
 | _=>true
structure Fp where
 ds:List Deferred:=[]
 pin:List (Nat×Value):=[]
structure Be (w0:World) (K O0:Nat→Prop) (nt:Nat) (ds:Fp) (σ:St) (ρ:Nat→Value) (a:Act) (w:World):Prop where
 frm:yB K w0 w
 nt:a.tmps.size=nt
 defers:a.defers=ds.ds
 pin:∀p∈ds.pin,GN σ p.1∧ρ p.1=p.2∧(wO p.2=true∨FL p.1=true)
 objs:∀n o,lk n σ.objs=some o→Aw (vw w O0 σ ρ) o (ρ n)
 free:∀n b,GN σ n→bk (ρ n) b→¬K b∧¬O0 b
 dist:∀n m b,GN σ n→GN σ m→bk (ρ n) b→bk (ρ m) b→n=m
 env:∀s v,lk s σ.env=some v→Bp (vw w O0 σ ρ) v (a.tmps.getD s undef)
/-! ### Kept -/
structure CB (V V':Vw):Prop where
 O:∀b,b<V.w.heap.size→¬V.O b→¬V'.O b
 L:∀n,V.L n→V'.L n
 ρ:∀n,V.L n→V'.ρ n=V.ρ n
 heap:∀b,b<V.w.heap.size→¬V.O b→V'.w.heap[b]?=V.w.heap[b]?
theorem Qn.keeps {V V':Vw} (h:CB V V'):∀ {x:AV} {v:Value},Qn V x v→Qn V' x v
 | .p _ _,_,hx=>BR.mono h.O h.heap hx
 | .pc _ _,_,hx=>⟨BR.mono h.O h.heap hx.1,hx.2⟩
 | .raw _,_,hx=>hx
 | .sr n e lo hi,_,⟨hL,hs⟩=>⟨h.L n hL,by rw[h.ρ n hL];exact hs⟩
 | .ep n e i _ off,_,⟨hL,hs⟩=>⟨h.L n hL,by rw[h.ρ n hL];exact hs⟩
 | .nin n _ i len,_,⟨hL,hs⟩=>⟨h.L n hL,by rw[h.ρ n hL];exact hs⟩
 | .ip t d,_,⟨ad,cs,hv,hO,hc,hr⟩=>by
  have hlt:ad.block<V.w.heap.size:=by
   have hp:=t.size_pos
   have hl:=hr.length
   have:=block_lt_of_cell (hc 0 (cs[0]'(by omega)) (List.getElem?_eq_getElem (by omega)))
   rwa [B4]at this
  refine⟨ad,cs,hv,h.O _ hlt hO,fun j u hj=>?_,Bi.mono h.O h.heap hr⟩
  rw[World.cell?_of_block (w:=V.w) (w':=V'.w)]
  ·exact hc j u hj
  ·rw[B4];exact h.heap _ hlt hO
 | .bp n _ off,_,⟨hL,hs⟩=>⟨h.L n hL,by rw[h.ρ n hL];exact hs⟩
 | .fn _,_,hx=>hx
 | .clo f ns,_,⟨hv,hs⟩=>by
  refine⟨?_,fun n hn=>⟨h.L n (hs n hn).1,by rw[h.ρ n (hs n hn).1];exact(hs n hn).2⟩⟩
  rw[hv]
  congr 2
  exact List.map_congr_left fun n hn=>(h.ρ n (hs n hn).1).symm
 | .mp n,_,⟨hL,hs⟩=>⟨h.L n hL,by rw[h.ρ n hL];exact hs⟩
 | .yl n,_,⟨hL,hs⟩=>⟨h.L n hL,by rw[h.ρ n hL];exact hs⟩
 | .top,_,_=>trivial
 | .ag _,_,hx=>hx
 | .tup _,_,hx=>hx
theorem Lm.keeps {V V':Vw} (h:CB V V') {x:AV} {cs:List Value} (hx:Lm V x cs):Lm V' x cs:=by
 cases x
 case p t d=>exact(Bi.mono h.O h.heap hx:Bi V'.w V'.O t cs d)
 all_goals
  obtain⟨v,h1,h2,h3⟩:=hx
  exact⟨v,h1,h2,h3.keeps h⟩
theorem DF.keeps {V V':Vw} (h:CB V V'):∀ {l:List AV} {cs:List Value},DF V l cs→DF V' l cs
 | [],_,hx=>hx
 | _ :: _,_,⟨c1,c2,e,h1,h2⟩=>⟨c1,c2,e,h1.keeps h,h2.keeps h⟩
theorem Ox.keeps {V V':Vw} (h:CB V V') {x:AV} {v:Value} (hx:Ox V x v):Ox V' x v:=by
 cases x
 case ag l=>obtain⟨cs,h1,h2⟩:=hx;exact⟨cs,h1,h2.keeps h⟩
 all_goals exact Ox.of1 (Qn.keeps h hx)
theorem I3.keeps {V V':Vw} (h:CB V V'):∀ {l:List AV} {vs:List Value},I3 V l vs→I3 V' l vs
 | [],_,hx=>hx
 | _ :: _,_,⟨v,l,e,h1,h2⟩=>⟨v,l,e,h1.keeps h,h2.keeps h⟩
theorem Bp.keeps {V V':Vw} (h:CB V V') {x:AV} {v:Value} (hx:Bp V x v):Bp V' x v:=by
 cases x
 case ag l=>obtain⟨cs,h1,h2⟩:=hx;exact⟨cs,h1,h2.keeps h⟩
 case tup l=>obtain⟨cs,h1,h2⟩:=hx;exact⟨cs,h1,h2.keeps h⟩
 all_goals
  simp only[Bp]at hx ⊢
  exact Qn.keeps h hx
theorem DZ.keeps {V V':Vw} (h:CB V V') {e:Ty} {cells:List Value} {xs:List e.den} (hx:DZ V.w V.O e cells xs):DZ V'.w V'.O e cells xs:=fun i x hi =>
 let ⟨es,h1,h2,h3⟩:=hx i x hi
 ⟨es,h1,h2,Bi.mono h.O h.heap h3⟩
theorem I4.mono {w w':World} {O O':Nat→Prop} (hO:∀b,b<w.heap.size→¬O b→¬O' b) (hw:∀b,b<w.heap.size→¬O b→w'.heap[b]?=w.heap[b]?) {k v:Ty} :
  ∀ {es:List MapEntry} {l:List (k.den×v.den)},I4 w O k v es l→I4 w' O' k v es l
 | [],[],h=>h
 | [],_ :: _,h=>h.elim
 | _ :: _,[],h=>h.elim
 | _ :: _,_ :: _,⟨h1,h2,h3⟩=>⟨h1.mono hO hw,h2.mono hO hw,h3.mono hO hw⟩
theorem Ie {w w':World} {et:TypeId} {sz n:Nat} {loc:Value} {cells:List Value} (hb:∀b,blk loc=some b→w'.heap[b]?=w.heap[b]?) (h:w.ownsRow 0 et sz loc n cells):w'.ownsRow 0 et sz loc n cells:=by
 obtain⟨h1,h2⟩:=h
 refine⟨h1,?_⟩
 rcases h2 with h2|⟨g,cap,cur,rfl,r1,r2,r3⟩
 ·exact .inl h2
 ·exact .inr ⟨g,cap,cur,rfl,r1,(hb g rfl).trans r2,r3⟩
theorem L9.keeps {V V':Vw} (h:CB V V') {et:TypeId} {e:Ty} {xs:List e.den} {loc:Value} (hb:∀b,blk loc=some b→V'.w.heap[b]?=V.w.heap[b]?) (hx:L9 V et e xs loc):L9 V' et e xs loc:=by
 obtain⟨hm,cells,h1,he⟩:=hx
 exact⟨hm,cells,Ie hb h1,he.keeps h⟩
theorem Uk.keeps {V V':Vw} (h:CB V V') {iet:TypeId} {k e:Ty} {hole:Bool} {cells:List Value} {i:Nat} {x:k.den×List e.den} {u:Value} (hb:∀b,blk u=some b→V'.w.heap[b]?=V.w.heap[b]?) (hx:Uk V iet k e hole cells i x u):Uk V' iet k e hole cells i x u:=by
 obtain⟨c1,v,h1,h2,h3⟩:=hx
 refine⟨c1,v,h1,Bi.mono h.O h.heap h2,?_⟩
 rcases h3 with h3|⟨h3,h4,h5⟩
 ·exact .inl h3
 ·exact .inr ⟨h3,h4,h5.keeps h hb⟩
theorem Az {o:Value} {ins:List Value} {b:Nat}:bk (.tuple (o :: ins).toArray) b↔blk o=some b∨∃(i:Nat) (u:Value),ins[i]?=some u∧blk u=some b:=by
 constructor
 ·rintro (h|⟨vs,h,x,hx,hb⟩)
  ·cases h
  ·injection h with h
   subst h
   simp only[List.mem_cons]at hx
   rcases hx with rfl|hx
   ·exact .inl hb
   ·obtain⟨i,hi⟩:=List.getElem?_of_mem hx
    exact .inr ⟨i,x,hi,hb⟩
 ·rintro (h|⟨i,u,hi,hb⟩)
  ·exact .inr ⟨_,rfl,o,by simp,h⟩
  ·exact .inr ⟨_,rfl,u,by simp[List.mem_of_getElem? hi],hb⟩
theorem wN.bk {loc o:Value} {ins:List Value} {b:Nat} (h:wN loc o ins):bk loc b↔bk (.tuple (o :: ins).toArray) b:=by
 rcases h with rfl|⟨rfl,rfl,rfl⟩
 ·exact Iff.rfl
 ·rw[Az,KZ]
  simp[blk]
theorem wN.plc {loc o:Value} {ins:List Value} (h:wN loc o ins):plc loc=o:=by
 rcases h with rfl|⟨rfl,rfl,rfl⟩<;>rfl
theorem wN.tup {loc o:Value} {ins:List Value} {vs:Array Value} (h:wN loc o ins) (hv:loc=.tuple vs):vs=(o :: ins).toArray:=by
 subst hv
 rcases h with h|⟨h,_⟩
 ·injection h
 ·cases h
theorem KB.keeps {V V':Vw} (h:CB V V') {et iet:TypeId} {k e:Ty} {xs:List (k.den×List e.den)} {hl:Option Nat} {o:Value} {ins cells:List Value} (hb:∀b,bk (.tuple (o :: ins).toArray) b→V'.w.heap[b]?=V.w.heap[b]?) (hx:KB V et iet k e xs hl o ins cells):KB V' et iet k e xs hl o ins cells :=
 ⟨hx.max,hx.len,Ie (fun b h1=>hb b (Az.2 (.inl h1))) hx.own,fun i x u h1 h2=>(hx.row i x u h1 h2).keeps h (fun b h3=>hb b (Az.2 (.inr ⟨i,u,h2,h3⟩))),hx.dist,hx.out⟩
theorem Qo {w:World} {et:TypeId} {sz n b:Nat} {loc:Value} {cells:List Value} (h:w.ownsRow 0 et sz loc n cells) (hb:blk loc=some b):b<w.heap.size:=by
 rcases h.2 with ⟨rfl,_⟩|⟨g,cap,cur,rfl,r1,r2,r3⟩
 ·simp[blk]at hb
 ·simp[blk]at hb;subst hb;exact B6 r2
theorem KB.block_lt {V:Vw} {et iet:TypeId} {k e:Ty} {xs:List (k.den×List e.den)} {hl:Option Nat} {o:Value} {ins cells:List Value} (hx:KB V et iet k e xs hl o ins cells) {b:Nat} (hb:bk (.tuple (o :: ins).toArray) b):b<V.w.heap.size:=by
 rcases Az.1 hb with h1|⟨i,u,h1,h2⟩
 ·exact Qo hx.own h1
 ·have hi:i<xs.length:=by have:=(List.getElem?_eq_some_iff.1 h1).1;rw[hx.len]at this;exact this
  obtain⟨c1,v,_,_,h3⟩:=hx.row i xs[i] u (List.getElem?_eq_getElem hi) h1
  rcases h3 with ⟨_,h3⟩|⟨_,_,_,ic,h3,_⟩
  ·rw[h3]at h2;simp[blk]at h2
  ·exact Qo h3 h2
theorem Aw.keeps {V V':Vw} (h:CB V V') {o:Obj} {loc:Value} (hb:∀b,bk loc b→V'.w.heap[b]?=V.w.heap[b]?) (hx:Aw V o loc):Aw V' o loc:=by
 cases o with
 | arr et e xs =>
  obtain⟨hm,cells,⟨h1,h2⟩,he⟩:=hx
  refine⟨hm,cells,⟨h1,?_⟩,he.keeps h⟩
  rcases h2 with h2|⟨g,cap,cur,rfl,r1,r2,r3⟩
  ·exact .inl h2
  ·exact .inr ⟨g,cap,cur,rfl,r1,(hb g (.inl rfl)).trans r2,r3⟩
 | box et st fs =>
  obtain⟨h0,b,cs,rfl,h1,h2⟩:=hx
  exact⟨h0,b,cs,rfl,(hb b (.inl rfl)).trans h1,h2.keeps h⟩
 | nest et iet k e xs hl =>
  obtain⟨o,ins,cells,hs,h1⟩:=hx
  exact⟨o,ins,cells,hs,h1.keeps h fun b hb'=>hb b (hs.bk.2 hb')⟩
 | mapo k v l =>
  obtain⟨b,es,cl,rfl,h1,h2,h3⟩:=hx
  exact⟨b,es,cl,rfl,(hb b (.inl rfl)).trans h1,h2.mono h.O h.heap,h3⟩
 | frame tm fs =>
  obtain⟨h0,h1⟩:=hx
  exact⟨h0,fun s x hs=>(h1 s x hs).keeps h⟩
 | itr k v l left cur =>
  obtain⟨r,rfl,b,ms,cl,si,se,h1,h2,h3,h4,h5,h6,h7,h8,h9,h10⟩:=hx
  have hlt:=B6 h3
  exact⟨r,rfl,b,ms,cl,si,se,(hb r (.inl rfl)).trans h1,h.O b hlt h2,(h.heap b hlt h2).trans h3,h4.mono h.O h.heap,h5,h6,h7,h8,h9,h10⟩
 | loop L =>
  obtain⟨b,rfl,h1⟩:=hx
  exact⟨b,rfl,(hb b (.inl rfl)).trans h1⟩
 | dfr =>
  obtain⟨b,rfl,h1⟩:=hx
  exact⟨b,rfl,(hb b (.inl rfl)).trans h1⟩
theorem Aw.block_lt {V:Vw} {o:Obj} {loc:Value} (hx:Aw V o loc) {b:Nat} (hb:bk loc b):b<V.w.heap.size:=by
 cases o with
 | arr et e xs =>
  obtain⟨hm,cells,⟨h1,h2⟩,he⟩:=hx
  rcases h2 with ⟨rfl,_⟩|⟨g,cap,cur,rfl,r1,r2,r3⟩
  ·simp[bk,blk]at hb
  ·simp[bk,blk]at hb;subst hb;exact B6 r2
 | box et st fs =>
  obtain⟨h0,b',cs,rfl,h1,h2⟩:=hx
  simp[bk,blk]at hb;subst hb;exact B6 h1
 | nest et iet k e xs hl =>
  obtain⟨o,ins,cells,hs,h1⟩:=hx
  exact h1.block_lt (hs.bk.1 hb)
 | mapo k v l =>
  obtain⟨b',es,cl,rfl,h1,h2⟩:=hx
  simp[bk,blk]at hb;subst hb;exact B6 h1
 | frame tm fs =>
  obtain⟨rfl,h1⟩:=hx
  simp[bk,blk]at hb
 | itr k v l left cur =>
  obtain⟨r,rfl,b',ms,cl,si,se,h1,-⟩:=hx
  simp[bk,blk]at hb;subst hb;exact B6 h1
 | loop L =>
  obtain⟨b',rfl,h1⟩:=hx
  simp[bk,blk]at hb;subst hb;exact B6 h1
 | dfr =>
  obtain⟨b',rfl,h1⟩:=hx
  simp[bk,blk]at hb;subst hb;exact B6 h1
/-! ### Lookups -/
section
variable {α:Type}
theorem Ar (k:Nat):∀(l r:List (Nat×α)),lk k (l++r)=(lk k l).or (lk k r)
 | [],_=>by simp[lk]
 | (j,v) :: l,r=>by
  simp only[List.cons_append,lk]
  split
  ·simp
  ·exact Ar k l r
theorem F9 (k n:Nat) (u:α):∀l:List (Nat×α),lk k (upd n u l)=if k=n then (lk n l).map (fun _=>u) else lk k l
 | []=>by simp[lk,upd]
 | (j,v) :: l=>by
  simp only[upd]
  by_cases hn:n=j
  ·subst hn
   by_cases hk:k=n
   ·subst hk;simp[lk]
   ·simp[lk,hk,F9 k n u l]
  ·simp only[if_neg hn,lk]
   by_cases hk:k=n
   ·subst hk;simp[hn,F9 k k u l]
   ·by_cases hkj:k=j
    ·subst hkj;simp[hk]
    ·simp[hk,hkj,F9 k n u l]
theorem Nx (k n:Nat):∀l:List (Nat×α),lk k (del n l)=if k=n then none else lk k l
 | []=>by simp[lk,del]
 | (j,v) :: l=>by
  simp only[del]
  by_cases hn:n=j
  ·subst hn
   rw[if_pos rfl,Nx k n l]
   by_cases hk:k=n<;>simp[lk,hk]
  ·rw[if_neg hn]
   simp only[lk,Nx k n l]
   by_cases hk:k=n
   ·subst hk;simp[hn]
   ·simp[hk]
end
end
/- A step that only adds: the abstract state holds behind it. -/
section
open Go Go.RowKit
def EA (σ:St) (obs:List (Nat×Obj)):St:=⟨σ.env,obs++σ.objs⟩
structure QS (w:World) (O0:Nat→Prop) (σ:St) (ρ:Nat→Value) (v:AV) (obs:List (Nat×Obj)) (u:Value) (ρ':Nat→Value) (w':World):Prop where
 below:Below w.heap.size w w'
 rho:∀n,lk n obs=none→ρ' n=ρ n
 av:Bp (vw w' O0 (EA σ obs) ρ') v u
 obj:∀n o,lk n obs=some o→Aw (vw w' O0 (EA σ obs) ρ') o (ρ' n)
 new:∀n o b,lk n obs=some o→bk (ρ' n) b→w.heap.size≤b
 dist:∀n m o o' b,lk n obs=some o→lk m obs=some o'→bk (ρ' n) b→bk (ρ' m) b→n=m
theorem FY {α:Type} {k:Nat} {v:α}:∀ {l:List (Nat×α)},lk k l=some v→(k,v)∈l
 | (j,u) :: l,h=>by
  simp only[lk]at h
  split at h
  ·rename_i e;cases h;subst e;simp
  ·exact List.mem_cons_of_mem _ (FY h)
theorem MA {obs:List (Nat×Obj)} {σ:St} (h:BJ obs σ=true) {n:Nat} {o:Obj} (hn:lk n obs=some o):lk n σ.objs=none:=by
 simp only[BJ,List.all_eq_true]at h
 simpa using h _ (FY hn)
theorem Ka {σ:St} {obs:List (Nat×Obj)} {n:Nat} (h:GN (EA σ obs) n):(∃o,lk n obs=some o)∨(lk n obs=none∧GN σ n):=by
 obtain⟨o,h⟩:=h
 simp only[EA,Ar]at h
 cases h':lk n obs with
 | some o'=>exact .inl ⟨o',rfl⟩
 | none=>rw[h']at h;exact .inr ⟨rfl,o,by simpa using h⟩
theorem Ul {σ:St} {obs:List (Nat×Obj)} (hf:BJ obs σ=true) {n:Nat} (h:GN σ n):GN (EA σ obs) n∧lk n obs=none:=by
 obtain⟨o,h⟩:=h
 have hn:lk n obs=none:=by
  cases h':lk n obs with
  | none=>rfl
  | some o'=>have:=MA hf h';rw[this]at h;cases h
 exact⟨⟨o,by simp[EA,Ar,hn,h]⟩,hn⟩
theorem Hc {w w':World} {O0:Nat→Prop} {σ:St} {ρ ρ':Nat→Value} {obs:List (Nat×Obj)} (hf:BJ obs σ=true)
  (hb:Below w.heap.size w w') (hr:∀n,lk n obs=none→ρ' n=ρ n) (hn:∀n o b,lk n obs=some o→bk (ρ' n) b→w.heap.size≤b) :
  CB (vw w O0 σ ρ) (vw w' O0 (EA σ obs) ρ') where
 O:=by
  intro b hlt hO hO'
  rcases hO' with h0|⟨n,hl,hb'⟩
  ·exact hO (.inl h0)
  ·rcases Ka hl with ⟨o,ho⟩|⟨hno,hl'⟩
   ·have:=hn n o b ho hb'
    have hlt:b<w.heap.size:=hlt
    omega
   ·exact hO (.inr ⟨n,hl',by rw[←hr n hno];exact hb'⟩)
 L:=fun n h=>(Ul hf h).1
 ρ:=fun n h=>hr n (Ul hf h).2
 heap:=fun b hlt _=>hb.block b hlt
theorem QS.keeps {w w':World} {O0:Nat→Prop} {σ:St} {ρ ρ':Nat→Value} {v:AV} {u:Value} {obs:List (Nat×Obj)} (hf:BJ obs σ=true) (h:QS w O0 σ ρ v obs u ρ' w') :
  CB (vw w O0 σ ρ) (vw w' O0 (EA σ obs) ρ'):=Hc hf h.below h.rho h.new
theorem yB.below {K:Nat→Prop} {w0 w w':World} (h:yB K w0 w) (hb:Below w.heap.size w w') (hK:∀b,K b→b<w0.heap.size):yB K w0 w' where
 os:=hb.os.trans h.os
 tape:=hb.tape.trans h.tape
 output:=hb.output.trans h.output
 size:=Nat.le_trans h.size hb.size
 block:=fun k hk=>(hb.block k (Nat.lt_of_lt_of_le (hK k hk) h.size)).trans (h.block k hk)
theorem I5 (a:Act) (dst:Option Tmp) (u:Value):(a.put dst u).tmps.size=a.tmps.size:=by
 cases dst<;>simp[Act.put]
theorem GA (a:Act) (dst:Option Tmp) (u:Value):(a.put dst u).defers=a.defers:=by cases dst<;>rfl
theorem JU (a:Act) (d:Nat) (u:Value) (s:Nat) (hd:d<a.tmps.size):(a.put (some d) u).tmps.getD s undef=if s=d then u else a.tmps.getD s undef:=by
 by_cases h:s=d
 ·subst h;simp[Act.put,hd]
 ·have:¬d=s:=fun e=>h e.symm
  simp[Act.put,h,this,Array.getElem?_setIfInBounds]
theorem Be.add {w0:World} {K O0:Nat→Prop} {nt:Nat} {ds:Fp} {σ:St} {ρ:Nat→Value} {a:Act} {w:World} (h:Be w0 K O0 nt ds σ ρ a w)
  (hK:∀b,K b→b<w0.heap.size) (hO:∀b,O0 b→b<w0.heap.size) {dst:Option Nat} (hd:∀d,dst=some d→d<nt)
  {v:AV} {obs:List (Nat×Obj)} {u:Value} {ρ':Nat→Value} {w':World} (hf:BJ obs σ=true) (hq:QS w O0 σ ρ v obs u ρ' w') :
  Be w0 K O0 nt ds (σ.add v obs dst) ρ' (a.put dst u) w':=by
 have hk:=hq.keeps hf
 have hobjs:(σ.add v obs dst).objs=obs++σ.objs:=by cases dst<;>rfl
 have hliv:∀n,GN (σ.add v obs dst) n↔GN (EA σ obs) n:=fun n=>by simp[GN,hobjs,EA]
 have hvw:vw w' O0 (σ.add v obs dst) ρ'=vw w' O0 (EA σ obs) ρ':=by
  have hl:GN (σ.add v obs dst)=GN (EA σ obs):=funext fun n=>propext (hliv n)
  have ho:own O0 (σ.add v obs dst) ρ'=own O0 (EA σ obs) ρ':=by
   funext b
   simp only[own,hl]
  simp only[vw,hl,ho]
 refine⟨h.frm.below hq.below hK,by rw[I5];exact h.nt,by rw[GA];exact h.defers,fun p hp=>?_,?_,?_,?_,?_⟩
 ·obtain⟨h1,h2,h3⟩:=h.pin p hp
  have h4:=Ul hf h1
  exact⟨(hliv p.1).2 h4.1,(hq.rho _ h4.2).trans h2,h3⟩
 ·intro n o ho
  rw[hobjs,Ar]at ho
  rw[hvw]
  cases h':lk n obs with
  | some o'=>rw[h']at ho;cases ho;exact hq.obj n _ h'
  | none =>
   rw[h']at ho
   have ho':lk n σ.objs=some o:=by simpa using ho
   rw[hq.rho n h']
   refine(h.objs n o ho').keeps hk fun b hb=>?_
   exact hq.below.block b ((h.objs n o ho').block_lt hb)
 ·intro n b hl hb
  rcases Ka ((hliv n).1 hl) with ⟨o,ho⟩|⟨hno,hl'⟩
  ·have hge:=hq.new n o b ho hb
   have:=h.frm.size
   exact⟨fun hk'=>by have:=hK b hk';omega,fun hk'=>by have:=hO b hk';omega⟩
  ·rw[hq.rho n hno]at hb
   exact h.free n b hl' hb
 ·intro n m b hl hl' hb hb'
  rcases Ka ((hliv n).1 hl) with ⟨o,ho⟩|⟨hno,hn⟩<;>rcases Ka ((hliv m).1 hl') with ⟨o',ho'⟩|⟨hno',hn'⟩
  ·exact hq.dist n m o o' b ho ho' hb hb'
  ·have h1:=hq.new n o b ho hb
   rw[hq.rho m hno']at hb'
   obtain⟨o2,h2⟩:=hn'
   have:=(h.objs m o2 h2).block_lt hb'
   have:b<w.heap.size:=this
   omega
  ·have h1:=hq.new m o' b ho' hb'
   rw[hq.rho n hno]at hb
   obtain⟨o2,h2⟩:=hn
   have:=(h.objs n o2 h2).block_lt hb
   have:b<w.heap.size:=this
   omega
  ·rw[hq.rho n hno]at hb
   rw[hq.rho m hno']at hb'
   exact h.dist n m b hn hn' hb hb'
 ·intro s x hs
  rw[hvw]
  cases dst with
  | none=>exact(h.env s x hs).keeps hk
  | some d =>
   simp only[St.add,lk]at hs
   rw[JU a d u s (by rw[h.nt];exact hd d rfl)]
   split at hs
   ·rename_i e;cases hs;rw[if_pos e];exact hq.av
   ·rename_i e;rw[if_neg e];exact(h.env s x hs).keeps hk
theorem QS.still {w:World} {O0:Nat→Prop} {σ:St} {ρ:Nat→Value} {v:AV} {u:Value} (h:Bp (vw w O0 σ ρ) v u):QS w O0 σ ρ v [] u ρ w where
 below:=Below.refl _ _
 rho:=fun _ _=>rfl
 av:=h
 obj:=fun _ _ h=>by cases h
 new:=fun _ _ _ h=>by cases h
 dist:=fun _ _ _ _ _ h=>by cases h
def EB (ρ:Nat→Value) (n:Nat) (x:Value):Nat→Value:=fun m=>if m=n then x else ρ m
theorem BZ (ρ:Nat→Value) (n:Nat) (x:Value):EB ρ n x n=x:=by simp[EB]
theorem QS.one {w w':World} {O0:Nat→Prop} {σ:St} {ρ:Nat→Value} {v:AV} {u loc:Value} {n:Nat} {o:Obj} (hb:Below w.heap.size w w')
  (hnew:∀b,bk loc b→w.heap.size≤b)
  (hav:Bp (vw w' O0 (EA σ [(n,o)]) (EB ρ n loc)) v u)
  (hobj:Aw (vw w' O0 (EA σ [(n,o)]) (EB ρ n loc)) o loc):QS w O0 σ ρ v [(n,o)] u (EB ρ n loc) w' where
 below:=hb
 rho:=fun m hm=>by
  simp only[lk]at hm
  split at hm
  ·cases hm
  ·rename_i e;simp[EB,e]
 av:=hav
 obj:=fun m o' hm=>by
  simp only[lk]at hm
  split at hm
  ·rename_i e;cases hm;subst e;rw[BZ];exact hobj
  ·cases hm
 new:=fun m o' b hm hb'=>by
  simp only[lk]at hm
  split at hm
  ·rename_i e;subst e;rw[BZ]at hb';exact hnew b hb'
  ·cases hm
 dist:=fun m m' o1 o2 b h1 h2 _ _=>by
  simp only[lk]at h1 h2
  split at h1
  ·split at h2
   ·omega
   ·cases h2
  ·cases h1
end
/- What the executor reads off an abstract value is so. -/
section
open Go Go.RowKit
theorem A1 {t:Ty} {p:PV} {d:t.den} (h:BH t p=some d):p=⟨t,d⟩:=by
 obtain⟨u,x⟩:=p
 simp only[BH]at h
 split at h
 ·rename_i e
  subst e
  simpa using h
 ·cases h
theorem Ba {e e':Ty} {xs:List e'.den} {ys:List e.den} (h:BH (.slice e) ⟨.slice e',xs⟩=some ys):e'=e∧HEq xs ys:=by
 have h':=A1 h
 injection h' with h1 h2
 injection h1 with h1
 exact⟨h1,h2⟩
theorem MB {α:Type} (xs:List α) {lo hi:Nat} (h:hi≤xs.length):(sub xs lo hi).length=hi-lo:=by
 simp[sub];omega
theorem Um {α:Type} (xs:List α) (lo hi i:Nat) {x:α} (h:(sub xs lo hi)[i]?=some x):xs[lo+i]?=some x∧i<hi-lo:=by
 simp only[sub,List.getElem?_take,List.getElem?_drop]at h
 split at h
 ·rename_i hi';exact⟨h,hi'⟩
 ·cases h
theorem Zr {w:World} {O':Nat→Prop} {et:TypeId} {e:Ty} {xs:List e.den} {loc v:Value} {cells:List Value} {lo hi:Nat} (hsr:∀b,blk loc=some b→¬O' b)
  (hm:xs.length≤AO) (how:w.ownsRow 0 et e.size loc xs.length cells) (hel:DZ w O' e cells xs) (hv:Co loc e.size lo hi v):Bi w O' (.slice e) [v] (sub xs lo hi):=by
 obtain⟨a,m,c,hloc,hlo,hhi,a',c',rfl,hc',h0,h1⟩:=hv
 have hmx:m=xs.length:=by
  rcases how.2 with ⟨he,hn⟩|⟨g,cap,cur,he,_⟩
  ·rw[hloc]at he;injection he;omega
  ·rw[hloc]at he;injection he
 subst hmx
 have hl:=MB xs (lo:=lo) hhi
 refine⟨a',c',by rw[hl],by rw[hl];exact hc',by rw[hl];omega,?_⟩
 by_cases hlt:lo<hi
 ·right
  rcases how.2 with ⟨he,hn⟩|⟨g,cap,cur,he,r⟩
  ·omega
  ·have hcell:=World.ownsRow.cells how (g:=g) (by rw[he];rfl)
   have ha:a=some ⟨g,0,none⟩:=by rw[hloc]at he;injection he
   subst ha
   refine⟨_,h1 hlt,hsr _ (by rw[he];simp only[blk,B4]),fun i x hi'=>?_⟩
   obtain⟨hx,hlt'⟩:=Um xs lo hi i hi'
   obtain⟨es,hes,hc,hr⟩:=hel (lo+i) x hx
   refine⟨es,hes,fun j u hj=>?_,hr⟩
   have:=hcell _ u (hc j u hj)
   rw[DD]
   rwa [Nat.add_mul,Nat.add_assoc]at this
 ·left
  have:(sub xs lo hi).length=0:=by rw[hl];omega
  exact List.eq_nil_of_length_eq_zero this
theorem HI {w:World} {base:Nat} {et:TypeId} {sz n:Nat} {s:Value} {xs:List Value} (h:w.ownsRow base et sz s n xs):plc s=s:=by
 rcases h.2 with ⟨rfl,_⟩|⟨g,cap,cur,rfl,_⟩<;>rfl
theorem Mp {V:Vw} {et:TypeId} {e:Ty} {xs:List e.den} {loc:Value} (h:Aw V (.arr et e xs) loc):plc loc=loc:=by
 obtain⟨_,_,h,_⟩:=h
 exact HI h
theorem Un {V:Vw} {O':Nat→Prop} (hO:∀b,¬V.O b→¬O' b) {et:TypeId} {e:Ty} {xs:List e.den} {loc v:Value} {lo hi:Nat} (hsr:∀b,blk loc=some b→¬O' b)
  (ho:Aw V (.arr et e xs) loc) (hv:Co (plc loc) e.size lo hi v):Bi V.w O' (.slice e) [v] (sub xs lo hi):=by
 rw[Mp ho]at hv
 obtain⟨hm,cells,how,hel⟩:=ho
 exact Zr hsr hm how (fun i x hi=>let ⟨es,h1,h2,h3⟩:=hel i x hi;⟨es,h1,h2,h3.mono (fun b _ hb=>hO b hb) (fun _ _ _=>rfl)⟩) hv
theorem E3 {w:World} {et:TypeId} {sz n:Nat} {s:Value} {xs:List Value} (h:w.ownsRow 0 et sz s n xs):Co s sz 0 n s:=by
 rcases h.2 with ⟨rfl,hn⟩|⟨g,cap,cur,rfl,_,_,hcap,_⟩
 ·exact⟨none,0,0,rfl,by omega,by omega,none,0,by rw[hn],by omega,fun _=>⟨rfl,rfl⟩,fun h=>by omega⟩
 ·exact⟨some ⟨g,0,none⟩,n,cap,rfl,by omega,by omega,some ⟨g,0,none⟩,cap,by simp,by omega,fun _=>⟨rfl,rfl⟩,fun _=>by simp[LF]⟩
theorem S6 {V:Vw} {O':Nat→Prop} (hO:∀b,¬V.O b→¬O' b) {et:TypeId} {e:Ty} {xs:List e.den} {u:Value} (hsr:∀b,blk u=some b→¬O' b) (h:L9 V et e xs u):Bi V.w O' (.slice e) [u] xs:=by
 have h1:=h
 obtain⟨_,_,how,_⟩:=h1
 have:=Un (V:=V) hO hsr (et:=et) (e:=e) (xs:=xs) (loc:=u) h (by rw[HI how];exact E3 how)
 rwa [FK]at this
theorem JV {w:World} {base:Nat} {et:TypeId} {sz n m c:Nat} {a:Option Addr} {xs:List Value} (h:w.ownsRow base et sz (.slice a m c) n xs):m=n:=by
 rcases h.2 with ⟨he,hn⟩|⟨g,cap,cur,he,_⟩
 ·injection he;omega
 ·injection he
theorem Uo {V:Vw} {iet:TypeId} {e:Ty} {xs:List e.den} {u:Value} {a:Option Addr} {len c:Nat} (hl:vY u (.slice a len c)) (h:L9 V iet e xs u):len=xs.length:=by
 obtain⟨_,ic,how,_⟩:=h
 rcases hl with rfl|⟨rfl,a',h2⟩
 ·exact JV how
 ·injection h2 with _ h3
  have:=JV how
  omega
theorem kU {V:Vw} {iet:TypeId} {e:Ty} {xs:List e.den} {u v:Value} (hl:vY u v) (h:L9 V iet e xs u):∃(a:Option Addr) (c:Nat),v=.slice a xs.length c:=by
 rcases hl with rfl|⟨rfl,a,rfl⟩
 ·obtain⟨_,ic,hic,_⟩:=h
  obtain⟨_,_,_,_,_,_,a',c',hve,_⟩:=E3 hic
  exact⟨a',c',hve⟩
 ·have hn:=Uo (.inr ⟨rfl,a,rfl⟩) h
  exact⟨a,0,by rw[←hn]⟩
theorem Zs {V:Vw} {O':Nat→Prop} {iet:TypeId} {e:Ty} {xs:List e.den} {u v:Value} (hl:vY u v) (h:L9 V iet e xs u) (hr:Bi V.w O' (.slice e) [u] xs):Bi V.w O' (.slice e) [v] xs:=by
 rcases hl with rfl|⟨rfl,a,rfl⟩
 ·exact hr
 ·have hn:=Uo (.inr ⟨rfl,a,rfl⟩) h
  have hx:xs=[]:=List.eq_nil_of_length_eq_zero hn.symm
  subst hx
  exact⟨a,0,rfl,Nat.le_refl _,by simp,.inl rfl⟩
theorem MC {V:Vw} {O':Nat→Prop} (hO:∀b,¬V.O b→¬O' b) {et iet:TypeId} {k e:Ty} {xs:List (k.den×List e.den)} {o:Value} {ins cells:List Value} (h:KB V et iet k e xs none o ins cells)
  (hsr:∀(i b:Nat) (u:Value),ins[i]?=some u→blk u=some b→¬O' b):DZ V.w O' (.agg (.prod k (.slice e))) cells xs:=by
 intro i x hi
 have hlt:i<ins.length:=by rw[h.len];exact(List.getElem?_eq_some_iff.1 hi).1
 obtain⟨c1,v,h1,h2,h3⟩:=h.row i x ins[i] hi (List.getElem?_eq_getElem hlt)
 rcases h3 with ⟨h3,_⟩|⟨_,hla,h4⟩
 ·cases h3
 ·have hr:=Zs hla h4 (S6 hO (fun b hb=>hsr i b _ (List.getElem?_eq_getElem hlt) hb) h4)
  refine⟨c1++[v],by simp[Ty.size,h2.length],h1,?_⟩
  exact(⟨c1,[v],rfl,h2.mono (fun b _ hb=>hO b hb) (fun _ _ _=>rfl),hr⟩:Bi V.w O' (.prod k (.slice e)) _ x)
theorem Vs {V:Vw} {O':Nat→Prop} (hO:∀b,¬V.O b→¬O' b) {et iet:TypeId} {k e:Ty} {xs:List (k.den×List e.den)} {loc v:Value} {lo hi:Nat} (hsr:∀b,bk loc b→¬O' b)
  (ho:Aw V (.nest et iet k e xs none) loc) (hv:Co (plc loc) (k.size+1) lo hi v):Bi V.w O' (.slice (.agg (.prod k (.slice e)))) [v] (sub (α:=k.den×List e.den) xs lo hi):=by
 obtain⟨o,ins,cells,hs,h⟩:=ho
 rw[hs.plc]at hv
 exact Zr (e:=.agg (.prod k (.slice e))) (xs:=xs) (fun b hb=>hsr b (hs.bk.2 (Az.2 (.inl hb)))) h.max h.own (MC hO h fun i b u h1 h2=>hsr b (hs.bk.2 (Az.2 (.inr ⟨i,u,h1,h2⟩)))) hv
theorem S7 {V:Vw} {ob:Obj} {loc:Value} {a:Option Addr} {m c:Nat} (ho:Aw V ob loc) (h:plc loc=.slice a m c):∃et sz cells,V.w.ownsRow 0 et sz (.slice a m c) m cells∧m≤AO:=by
 cases ob with
 | arr et e xs =>
  have h1:=Mp ho
  obtain⟨hm,cells,how,_⟩:=ho
  rw[h1]at h
  subst h
  have hm':m=xs.length:=by
   rcases how.2 with ⟨he,hn⟩|⟨g,cap,cur,he,_⟩
   ·injection he;omega
   ·injection he
  subst hm'
  exact⟨et,_,cells,how,hm⟩
 | nest et iet k e xs hl =>
  obtain⟨o,ins,cells,hs,hN⟩:=ho
  rw[hs.plc]at h
  subst h
  have how:=hN.own
  have hm':m=xs.length:=by
   rcases how.2 with ⟨he,hn⟩|⟨g,cap,cur,he,_⟩
   ·injection he;omega
   ·injection he
  subst hm'
  exact⟨et,_,cells,how,hN.max⟩
 | box et st fs=>obtain⟨_,b,cs,rfl,_⟩:=ho;cases h
 | mapo k v l=>obtain⟨b,_,_,rfl,_⟩:=ho;cases h
 | frame tm fs=>obtain⟨rfl,_⟩:=ho;cases h
 | loop L=>obtain⟨b,rfl,_⟩:=ho;cases h
 | itr ik iv il ilf icu=>obtain⟨b,rfl,_⟩:=ho;cases h
 | dfr=>obtain⟨b,rfl,_⟩:=ho;cases h
theorem LG {V V':Vw} (hw:V'.w=V.w) (hO:V'.O=V.O) {et iet:TypeId} {k e:Ty} {xs:List (k.den×List e.den)} {h:Option Nat} {loc:Value} (ho:Aw V (.nest et iet k e xs h) loc):Aw V' (.nest et iet k e xs h) loc:=by
 obtain⟨o,ins,cells,hl,hN⟩:=ho
 refine⟨o,ins,cells,hl,hN.max,hN.len,by rw[hw];exact hN.own,fun i x u h1 h2=>?_,hN.dist,hN.out⟩
 obtain⟨c1,v,h3,h4,h5⟩:=hN.row i x u h1 h2
 refine⟨c1,v,h3,by rw[hw,hO];exact h4,?_⟩
 rcases h5 with h5|⟨h5,h6,hm,ic,h7,h8⟩
 ·exact .inl h5
 ·exact .inr ⟨h5,h6,hm,ic,by rw[hw];exact h7,by rw[hw,hO];exact h8⟩
theorem gH {V V':Vw} (hw:V'.w=V.w) (hO:∀b,¬V.O b→¬V'.O b) {et iet:TypeId} {k e:Ty} {xs:List (k.den×List e.den)} {h:Option Nat} {loc:Value} (ho:Aw V (.nest et iet k e xs h) loc):Aw V' (.nest et iet k e xs h) loc:=by
 obtain⟨o,ins,cells,hl,hN⟩:=ho
 refine⟨o,ins,cells,hl,hN.max,hN.len,by rw[hw];exact hN.own,fun i x u h1 h2=>?_,hN.dist,hN.out⟩
 obtain⟨c1,v,h3,h4,h5⟩:=hN.row i x u h1 h2
 refine⟨c1,v,h3,h4.mono (fun b _ hb=>hO b hb) (fun b _ _=>by rw[hw]),?_⟩
 rcases h5 with h5|⟨h5,h6,hm,ic,h7,h8⟩
 ·exact .inl h5
 ·refine .inr ⟨h5,h6,hm,ic,by rw[hw];exact h7,fun i x hi=>?_⟩
  obtain⟨es,g1,g2,g3⟩:=h8 i x hi
  exact⟨es,g1,g2,g3.mono (fun b _ hb=>hO b hb) (fun b _ _=>by rw[hw])⟩
theorem QH {V:Vw} {et iet:TypeId} {k e:Ty} {xs:List (k.den×List e.den)} {h:Option Nat} {loc v:Value} {vs:Array Value} {i:Nat} {z:k.den×List e.den}
  (ho:Aw V (.nest et iet k e xs h) loc) (hvs:loc=.tuple vs) (hv:vs[i+1]?=some v):xs[i]?=some (xs.getD i z):=by
 obtain⟨o,ins,cells,hs,h⟩:=ho
 obtain rfl:=hs.tup hvs
 have hv:ins[i]?=some v:=by simpa using hv
 have hlt:i<xs.length:=by rw[←h.len];exact(List.getElem?_eq_some_iff.1 hv).1
 rw[List.getElem?_eq_getElem hlt,List.getD_eq_getElem?_getD,List.getElem?_eq_getElem hlt];rfl
theorem p4 {V:Vw} {ob:Obj} {loc u v:Value} {vs:Array Value} {i len c:Nat} {a:Option Addr} (ho:Aw V ob loc) (hvs:loc=.tuple vs) (hv:vs[i+1]?=some u) (hlv:vY u v) (hve:v=.slice a len c):len≤AO:=by
 subst hvs
 cases ob with
 | arr et e xs =>
  obtain⟨hm,cells,how,_⟩:=ho
  rcases how.2 with ⟨he,_⟩|⟨g,cap,cur,he,_⟩<;>cases he
 | nest et iet k e xs hl =>
  obtain⟨o,ins,cells,hs,hN⟩:=ho
  obtain rfl:=hs.tup rfl
  have hv:ins[i]?=some u:=by simpa using hv
  have hlt:i<xs.length:=by rw[←hN.len];exact(List.getElem?_eq_some_iff.1 hv).1
  obtain⟨c1,v',h1,h2,h3⟩:=hN.row i xs[i] u (List.getElem?_eq_getElem hlt) hv
  rcases h3 with ⟨_,h3⟩|⟨_,_,h4⟩
  ·subst hve
   rcases hlv with h6|⟨_,a',h6⟩
   ·rw[h3]at h6;injection h6;omega
   ·injection h6;omega
  ·rw[hve]at hlv
   rw[Uo hlv h4];exact h4.1
 | box et st fs=>obtain⟨_,b,cs,h,_⟩:=ho;cases h
 | mapo k v l=>obtain⟨b,_,_,h,_⟩:=ho;cases h
 | frame tm fs=>obtain⟨h,_⟩:=ho;cases h
 | loop L=>obtain⟨b,h,_⟩:=ho;cases h
 | itr ik iv il ilf icu=>obtain⟨b,h,_⟩:=ho;cases h
 | dfr=>obtain⟨b,h,_⟩:=ho;cases h
theorem Zt {V:Vw} {O':Nat→Prop} (hO:∀b,¬V.O b→¬O' b) {et iet:TypeId} {k e:Ty} {xs:List (k.den×List e.den)} {loc v:Value} {vs:Array Value} {i:Nat} {x:k.den×List e.den} (hsr:∀b,bk loc b→¬O' b) {u:Value}
  (ho:Aw V (.nest et iet k e xs none) loc) (hvs:loc=.tuple vs) (hv:vs[i+1]?=some u) (hlv:vY u v) (hx:xs[i]?=some x):Bi V.w O' (.slice e) [v] x.2:=by
 obtain⟨o,ins,cells,hs,h⟩:=ho
 obtain rfl:=hs.tup hvs
 have hv:ins[i]?=some u:=by simpa using hv
 obtain⟨c1,v',h1,h2,h3⟩:=h.row i x u hx hv
 rcases h3 with ⟨h3,_⟩|⟨_,hla,h4⟩
 ·cases h3
 ·exact Zs hlv h4 (S6 hO (fun b hb=>hsr b (hs.bk.2 (Az.2 (.inr ⟨i,_,hv,hb⟩)))) h4)
section
variable {V:Vw} {O':Nat→Prop} {l:Bool} {σ:St}
theorem Vt (hO:∀b,¬V.O b→¬O' b) (hsr:l=true→∀b,¬O' b) (hobj:∀n o,lk n σ.objs=some o→Aw V o (V.ρ n))
  {t:Ty} {x:AV} {d:t.den} {cs:List Value} (h:Dc l σ t x=some d) (hx:Lm V x cs):Bi V.w O' t cs d:=by
 unfold Dc at h
 split at h
 ·rename_i u d'
  have:=A1 h
  injection this with h1 h2
  subst h1
  cases h2
  have hx:Bi V.w V.O u cs d':=hx
  exact hx.mono (fun b _ hb=>hO b hb) (fun _ _ _=>rfl)
 ·rename_i e n e' lo hi
  split at h
  ·rename_i hc
   obtain⟨hl',rfl⟩:=hc
   have hl:=hl'
   obtain⟨v,rfl,_,hL,hv⟩:=hx
   cases hn:lk n σ.objs with
   | none=>rw[hn]at h;simp[L6]at h
   | some o =>
    rw[hn]at h
    cases o with
    | box et st fs=>simp[L6]at h
    | mapo k v l=>simp[L6]at h
    | frame tm fs=>simp[L6]at h
    | loop L=>simp[L6]at h
    | itr ik iv il ilf icu=>simp[L6]at h
    | dfr=>simp[L6]at h
    | nest et iet k e2 xs hl =>
     cases hl with
     | some i=>simp[L6]at h
     | none =>
      simp only[L6]at h
      obtain⟨h1,h2⟩:=Ba h
      subst h1
      cases h2
      exact Vs hO (fun b _=>hsr hl' b) (hobj n _ hn) hv
    | arr et e2 xs =>
     simp only[L6]at h
     obtain⟨h1,h2⟩:=Ba h
     subst h1
     cases h2
     exact Un hO (fun b _=>hsr hl b) (hobj n _ hn) hv
  ·cases h
 ·rename_i e n e' i len
  split at h
  ·rename_i hc
   obtain⟨hl,rfl⟩:=hc
   obtain⟨v,rfl,_,hL,vs,a,c,u0,hvs,hvi,hlv,_⟩:=hx
   cases hn:lk n σ.objs with
   | none=>rw[hn]at h;simp[Li]at h
   | some o =>
    rw[hn]at h
    unfold Li at h
    split at h
    ·rename_i et iet k e2 xs ho
     cases ho
     obtain⟨h1,h2⟩:=Ba h
     subst h1
     cases h2
     exact Zt hO (fun b _=>hsr hl b) (hobj n _ hn) hvs hvi hlv (QH (hobj n _ hn) hvs hvi)
    ·cases h
  ·cases h
 ·obtain⟨v,rfl,_,hv⟩:=hx
  have hv:v=_:=hv
  subst hv
  cases h
  exact⟨none,0,rfl,by simp,by simp[AO],.inl rfl⟩
 ·cases h
theorem kV (hO:∀b,¬V.O b→¬O' b) (hsr:l=true→∀b,¬O' b) (hobj:∀n o,lk n σ.objs=some o→Aw V o (V.ρ n)) :
  ∀ {fs:List AV} {t:Ty} {d:t.den} {cs:List Value},H9 l σ fs t=some d→DF V fs cs→Bi V.w O' t cs d
 | [],t,d,cs,h,hx=>by simp[H9]at h
 | [x],t,d,cs,h,hx=>by
  obtain⟨c1,c2,rfl,h1,h2⟩:=hx
  have h2:c2=[]:=h2
  subst h2
  rw[List.append_nil]
  simp only[H9]at h
  exact Vt hO hsr hobj h h1
 | x :: y :: r,t,d,cs,h,hx=>by
  obtain⟨c1,c2,rfl,h1,h2⟩:=hx
  cases t
  case prod a b =>
   simp only[H9]at h
   cases e1:Dc l σ a x with
   | none=>rw[e1]at h;simp[ID]at h
   | some d1 =>
    cases e2:H9 l σ (y :: r) b with
    | none=>rw[e1,e2]at h;simp[ID]at h
    | some d2 =>
     rw[e1,e2]at h
     simp only[ID]at h
     cases h
     exact⟨c1,c2,rfl,Vt hO hsr hobj e1 h1,kV hO hsr hobj e2 h2⟩
  all_goals simp[H9]at h
theorem p5 {t:Ty} {x:AV} {d:t.den} {v:Value} (h:Dc l σ t x=some d) (hp:∀u d',x≠.p u d') (hx:Bp V x v):Lm V x [v]∧t.wrap [v]=v:=by
 unfold Dc at h
 split at h
 ·exact absurd rfl (hp _ _)
 ·obtain⟨hL,a,m,c,_,_,_,a',c',rfl,_⟩:=hx
  refine⟨⟨_,rfl,rfl,?_⟩,rfl⟩
  exact⟨hL,a,m,c,by assumption,by assumption,by assumption,a',c',rfl,by assumption⟩
 ·obtain⟨hL,vs,a,c,u,h1,h2,h3,rfl⟩:=hx
  exact⟨⟨_,rfl,rfl,hL,vs,a,c,u,h1,h2,h3,rfl⟩,rfl⟩
 ·have hv:v=_:=hx
  subst hv
  exact⟨⟨_,rfl,rfl,rfl⟩,rfl⟩
 ·cases h
theorem I6 (hO:∀b,¬V.O b→¬O' b) (hsr:l=true→∀b,¬O' b) (hobj:∀n o,lk n σ.objs=some o→Aw V o (V.ρ n))
  {t:Ty} {x:AV} {d:t.den} {v:Value} (h:Iz l σ t x=some d) (hx:Bp V x v):BR V.w O' t v d:=by
 unfold Iz at h
 split at h
 ·rename_i t fs
  obtain⟨cs,rfl,hcs⟩:=hx
  exact⟨cs,(kV hO hsr hobj h hcs:Bi V.w O' t cs d),rfl⟩
 ·by_cases hp:∃u d',x=.p u d'
  ·obtain⟨u,d',rfl⟩:=hp
   have h:BH t ⟨u,d'⟩=some d:=by simpa only[Dc] using h
   have:=A1 h
   injection this with h1 h2
   subst h1
   cases h2
   exact BR.mono (fun b _ hb=>hO b hb) (fun _ _ _=>rfl) hx
  ·obtain⟨h1,h2⟩:=p5 h (fun u d' e=>hp ⟨u,d',e⟩) hx
   exact⟨[v],Vt hO hsr hobj h h1,h2.symm⟩
end
end
/- The table of types against the program; loads; addresses. -/
section
open Go Go.RowKit
def Up:Ty→Value→Bool
 | .agg _,.agg _=>true
 | .agg _,_=>false
 | .prod _ _,_=>false
 | _,.agg _=>false
 | _,_=>true
def LH (P : Program) (id : TypeId) (a b : IntKind) : Prop := ∃ f0 f1 : Field, P.underlying id = some (.struct #[f0, f1]) ∧ ((f0.name != "_") = true ∧ (f1.name != "_") = true) ∧ (f0.offset = 0 ∧ f1.offset = 1) ∧ (P.underlying f0.type = some (.int a) ∧ P.underlying f1.type = some (.int b)) ∧ P.stoodInHeld id = false
def Qp (P:Program) (id:TypeId):Ty→Nat→Prop
 | .agg (.prod (.int a) (.int b)),0=>LH P id a b
 | _,_=>True
def yC (k:IntKind):Option TypeDesc→Bool
 | some (.int k')=>k==k'
 | _=>false
theorem Uq {k:IntKind} {d:Option TypeDesc} (h:yC k d=true):d=some (.int k):=by
 unfold yC at h
 split at h
 ·rw[beq_iff_eq.1 h]
 ·cases h
def vZ (P:Program) (id:TypeId) (a b:IntKind):Option TypeDesc→Bool
 | some (.struct ⟨[f0, f1]⟩) => (f0.name != "_") && (f1.name != "_") && f0.offset == 0 && f1.offset == 1 && yC a (P.underlying f0.type) && yC b (P.underlying f1.type) && P.stoodInHeld id == false
 | _=>false
def kW (P:Program) (id:TypeId):Ty→Nat→Bool
 | .agg (.prod (.int a) (.int b)),0=>vZ P id a b (P.underlying id)
 | _,_=>true
theorem kX {P:Program} {id:TypeId} {t:Ty} {el:Nat} (h:kW P id t el=true):Qp P id t el:=by
 unfold kW at h
 unfold Qp
 split at h
 ·unfold vZ at h
  split at h
  ·rename_i f0 f1 hu
   simp only[Bool.and_eq_true,beq_iff_eq]at h
   obtain⟨⟨⟨⟨⟨⟨h1,h2⟩,h3⟩,h4⟩,h5⟩,h6⟩,h7⟩:=h
   exact⟨f0,f1,hu,⟨h1,h2⟩,⟨h3,h4⟩,⟨Uq h5,Uq h6⟩,h7⟩
  ·cases h
 ·trivial
def Dt (P:Program) (tb:Tb) (id:TypeId) (ti:TI):Prop :=
 (((∀p∈ti.offs,p.2≠0)∧0<ti.bytes∧Qp P id ti.ty ti.el)∧∃(i:TypeInfo) (z:Value),P.info? id=some i∧i.size=ti.ty.size∧i.bytes=ti.bytes∧i.zero=some z∧z.cells=ti.ty.zero.toArray) ∧
 match ti.ty with
 | .int k=>P.underlying id=some (.int k)
 | .bool=>P.underlying id=some .bool
 | .str=>P.underlying id=some .string
 | .slice e=>P.underlying id=some (.slice ti.el)∧∃te,lk ti.el tb.ty=some te∧te.ty=e
 | .agg _=>(∃fs:Array Field,ti.el=0∧P.underlying id=some (.struct fs)∧ti.offs.map some=fs.toList.map fun f=>(P.info? f.type).map fun i=>(f.offset,i.size)) ∨
   ∃n e i,ti.el≠0∧P.underlying id=some (.array n e)∧P.info? e=some i∧ti.offs=(List.range n).map fun k=>(k*i.size,i.size)
 | .prod _ _=>False
 | .ref j=>∃d,P.underlying id=some d∧(match d with|.struct _=>False|.array _ _=>False|_=>True) ∧
   ∀k e,j=2→ti.offs=[(k,e)]→d=.map k e∧∃(tk te:TI) (z:Value),lk k tb.ty=some tk∧lk e tb.ty=some te∧(∃i,P.info? e=some i∧i.zero=some z)∧z.cells=te.ty.zero.toArray∧Up te.ty z=true
def DT (P:Program) (tb:Tb):Prop:=∀id ti,lk id tb.ty=some ti→Dt P tb id ti
/-! ### The check, by the kernel -/
def kY:Value→Value→Bool
 | .int k n,.int k' n'=>k==k'&&n==n'
 | .bool a,.bool b=>a==b
 | .string s,.string s'=>s.size==0&&s'.size==0
 | .slice none 0 0,.slice none 0 0=>true
 | .pointer none,.pointer none=>true
 | .nilFunc,.nilFunc=>true
 | .map none,.map none=>true
 | _,_=>false
theorem kZ {a b:Value} (h:kY a b=true):a=b:=by
 unfold kY at h
 split at h
 ·simp only[Bool.and_eq_true,beq_iff_eq]at h;obtain⟨rfl,rfl⟩:=h;rfl
 ·simp only[beq_iff_eq]at h;rw[h]
 ·rename_i s s'
  simp only[Bool.and_eq_true,beq_iff_eq]at h
  have:s=s':=by
   obtain⟨⟨l⟩⟩:=s
   obtain⟨⟨l'⟩⟩:=s'
   have h1:l.length=0:=h.1
   have h2:l'.length=0:=h.2
   rw[List.eq_nil_of_length_eq_zero h1,List.eq_nil_of_length_eq_zero h2]
  rw[this]
 ·rfl
 ·rfl
 ·rfl
 ·rfl
 ·cases h
def MD:List Value→List Value→Bool
 | [],[]=>true
 | a :: l,b :: r=>kY a b&&MD l r
 | _,_=>false
theorem Ny:∀ {l r:List Value},MD l r=true→l=r
 | [],[],_=>rfl
 | a :: l,b :: r,h=>by
  simp only[MD,Bool.and_eq_true]at h
  rw[kZ h.1,Ny h.2]
 | [],_ :: _,h=>by simp[MD]at h
 | _ :: _,[],h=>by simp[MD]at h
def v4 (ty:Ty) (bytes:Nat):Option TypeInfo→Bool
 | some i=>i.size==ty.size&&i.bytes==bytes&&(match i.zero with|some z=>MD z.cells.toList ty.zero|none=>false)
 | none=>false
def yD (offs:List (Nat×Nat)) (n:Nat):Option TypeInfo→Bool
 | some i=>offs==(List.range n).map fun k=>(k*i.size,i.size)
 | none=>false
def v5 (e:Nat) (te:Option TI):Option TypeInfo→Bool
 | some i=>match i.zero,te with|some z,some te=>MD z.cells.toList te.ty.zero&&Up te.ty z|_,_=>false
 | none=>false
def wP (P:Program) (tb:Tb) (j:Nat) (d:TypeDesc):List (Nat×Nat)→Bool
 | [(k,e)]=>j != 2||(match d with|.map k' e'=>k'==k&&e'==e&&(lk k tb.ty).isSome&&v5 e (lk e tb.ty) (P.info? e)|_=>false)
 | _=>true
theorem p6 {P:Program} {tb:Tb} {j:Nat} {d:TypeDesc} {offs:List (Nat×Nat)} (h:wP P tb j d offs=true):∀k e,j=2→offs=[(k,e)]→d=.map k e∧∃(tk te:TI) (z:Value),lk k tb.ty=some tk∧lk e tb.ty=some te∧(∃i,P.info? e=some i∧i.zero=some z)∧z.cells=te.ty.zero.toArray∧Up te.ty z=true:=by
 rintro k e rfl rfl
 simp only[wP,bne_self_eq_false,Bool.false_or]at h
 split at h
 ·simp only[Bool.and_eq_true,beq_iff_eq]at h
  obtain⟨⟨⟨rfl,rfl⟩,h3⟩,h4⟩:=h
  refine⟨rfl,?_⟩
  obtain⟨tk,htk⟩:=Option.isSome_iff_exists.1 h3
  unfold v5 at h4
  split at h4
  ·rename_i i hi
   split at h4
   ·rename_i z te hz hte
    simp only[Bool.and_eq_true]at h4
    exact⟨tk,te,z,htk,hte,⟨i,hi,hz⟩,by rw[←Ny h4.1],h4.2⟩
   ·cases h4
  ·cases h4
 ·cases h
def yE (P:Program) (tb:Tb) (ti:TI):Ty→Option TypeDesc→Bool
 | .int k,some (.int k')=>k==k'
 | .bool,some .bool=>true
 | .str,some .string=>true
 | .slice e,some (.slice el)=>el==ti.el&&(match lk ti.el tb.ty with|some te=>decide (te.ty=e)|none=>false)
 | .agg _,some (.struct fs)=>ti.el==0&&ti.offs.map some==fs.toList.map fun f=>(P.info? f.type).map fun i=>(f.offset,i.size)
 | .agg _,some (.array n e)=>ti.el != 0&&yD ti.offs n (P.info? e)
 | .ref _,some (.struct _)=>false
 | .ref _,some (.array _ _)=>false
 | .ref j,some d=>wP P tb j d ti.offs
 | _,_=>false
def tiB (P:Program) (tb:Tb) (id:TypeId) (ti:TI):Bool:=((ti.offs.all fun p=>p.2 != 0)&&(decide (0<ti.bytes)&&kW P id ti.ty ti.el))&&v4 ti.ty ti.bytes (P.info? id)&&yE P tb ti ti.ty (P.underlying id)
theorem wQ {P:Program} {tb:Tb} {id:TypeId} {ti:TI} (h:tiB P tb id ti=true):Dt P tb id ti:=by
 simp only[tiB,Bool.and_eq_true]at h
 obtain⟨⟨⟨h0,hb,hkf⟩,h1⟩,h2⟩:=h
 refine⟨⟨⟨fun p hp=>by simpa using (List.all_eq_true.1 h0) p hp,by simpa using hb,kX hkf⟩,?_⟩,?_⟩
 ·unfold v4 at h1
  split at h1
  ·rename_i i hi
   simp only[Bool.and_eq_true,beq_iff_eq]at h1
   obtain⟨⟨h3,h4⟩,h5⟩:=h1
   split at h5
   ·rename_i z hz
    exact⟨i,z,hi,h3,h4,hz,by rw[←Ny h5]⟩
   ·cases h5
  ·cases h1
 ·generalize hu:P.underlying id=u at h2
  generalize ti.ty=t at h2
  cases t<;>cases u<;>simp only[yE]at h2<;>try(cases h2;done)
  all_goals
   rename_i u
   cases u<;>simp only at h2<;>try(cases h2;done)
  ·have:=beq_iff_eq.1 h2;subst this;rfl
  ·rfl
  ·rfl
  ·simp only[Bool.and_eq_true,beq_iff_eq]at h2
   obtain⟨h3,h4⟩:=h2
   split at h4
   ·rename_i te hte;exact⟨by rw[h3],te,hte,by simpa using h4⟩
   ·cases h4
  ·rename_i n e
   simp only[Bool.and_eq_true,bne_iff_ne]at h2
   obtain⟨h3,h2⟩:=h2
   unfold yD at h2
   split at h2
   ·rename_i i hi;exact .inr ⟨_,_,i,h3,rfl,hi,by simpa using h2⟩
   ·cases h2
  ·simp only[Bool.and_eq_true,beq_iff_eq]at h2
   exact .inl ⟨_,h2.1,rfl,h2.2⟩
  all_goals exact⟨_,rfl,trivial,p6 h2⟩
theorem p7 {P:Program} {tb:Tb} (h:(tb.ty.all fun p=>tiB P tb p.1 p.2)=true):DT P tb:=fun id ti hi=>by
 rw[List.all_eq_true]at h
 exact wQ (h _ (FY hi))
/-! ### Runs -/
def Ty.isAgg:Ty→Bool
 | .agg _=>true
 | .int _=>false
 | .bool=>false
 | .str=>false
 | .slice _=>false
 | .prod _ _=>false
 | .ref _=>false
section
variable {P:Program} {tb:Tb} {id:TypeId} {ti:TI} (w:World)
theorem Kb {i:TypeInfo} (h:P.info? id=some i):(typeInfo id).run P w=.ok i w:=by simp[typeInfo,h]
theorem p8 (h:Dt P tb id ti):(isAgg id).run P w=.ok ti.ty.isAgg w:=by
 obtain⟨_,h2⟩:=h
 cases ht:ti.ty<;>rw[ht]at h2<;>simp only at h2
 case agg =>
  rcases h2 with ⟨fs,_,hu,_⟩|⟨n,e,_,_,hu,_⟩<;>simp[isAgg,run_underlying hu,Ty.isAgg]
 case slice=>simp[isAgg,run_underlying h2.1,Ty.isAgg]
 case ref k =>
  obtain⟨d,hu,hd,_⟩:=h2
  cases d<;>first|exact hd.elim|simp[isAgg,run_underlying hu,Ty.isAgg]
 all_goals simp[isAgg,run_underlying h2,Ty.isAgg]
theorem Hd (h:Dt P tb id ti):(sizeOf id).run P w=.ok ti.ty.size w:=by
 obtain⟨⟨_,i,z,h1,h2,_⟩,_⟩:=h
 simp[sizeOf,Kb w h1,h2]
theorem Dt.noprod (h:Dt P tb id ti) {a b:Ty}:ti.ty≠.prod a b:=by
 intro e
 have:=h.2
 rw[e]at this
 exact this
theorem Vu (h:Dt P tb id ti) {ad:Addr} {cs:List Value} (hl:cs.length=ti.ty.size) (hc:∀(j:Nat) (u:Value),cs[j]?=some u→w.cell? (ad.add j)=some u) :
  (loadVar id ad).run P w=.ok (ti.ty.wrap cs) w:=by
 have hnp:=fun a b=>h.noprod (a:=a) (b:=b)
 simp only[loadVar,Sem.run_bind,p8 w h,Result.andThen_ok]
 cases ht:ti.ty
 case prod a b=>exact absurd ht (hnp a b)
 case agg u =>
  have hl':ti.ty.size=cs.length:=hl.symm
  simp only[Ty.isAgg,if_true,Sem.run_bind,Hd w h,Result.andThen_ok,hl',run_loadCells_list w ad cs hc,Ty.wrap]
  rfl
 all_goals
  rw[ht]at hl
  obtain⟨c,rfl⟩:=List.length_eq_one_iff.1 hl
  have h0:=hc 0 c rfl
  rw[LF]at h0
  simp[Ty.isAgg,Ty.wrap,h0]
theorem EM (h:Dt P tb id ti) {ad:Addr} {cs:List Value} (hl:cs.length=ti.ty.size) (hc:∀(j:Nat) (u:Value),cs[j]?=some u→w.cell? (ad.add j)=some u) :
  (Instr.loadAt id (.pointer (some ad))).run P w=.ok (ti.ty.wrap cs) w:=by
 simp[Instr.loadAt,Instr.sureAddr,Vu w h hl hc]
end
end
end Go.Proofs.YtdapahgnpbehbaaGreat.Fw
