/- Typed values, how they lie in memory, the executor's words and the table of types: what they mean. -/
/- Typed pure values and how they lie in memory: the words of the symbolic executor. Nothing here speaks of one program. -/
import Derived.ProofKit
import Derived.Orders
import Derived.Laws.AppendOwn
import Derived.Laws.MakeOwn
import Derived.Laws.OwnMore
set_option linter.unusedVariables false
set_option linter.unusedSimpArgs false
namespace Go.Proofs.YtmejfnhmgbhkmabGreat.Fw
section
open Go
inductive Ty where
 | int (k:IntKind)
 | bool
 | str
 | slice (e:Ty)
 | prod (a b:Ty)
 | agg (t:Ty)
 /-- a pointer (0), a function (1), a map (2): as a pure value it is nil -/
 | ref (k:Nat)
 deriving DecidableEq
def Jv:Nat→Value
 | 0=>.pointer none
 | 1=>.nilFunc
 | _=>.map none
@[reducible] def Ty.den:Ty→Type
 | .int _=>Int
 | .bool=>Bool
 | .str=>ByteArray
 | .slice e=>List e.den
 | .prod a b=>a.den×b.den
 | .agg t=>t.den
 | .ref _=>Unit
def Ty.size:Ty→Nat
 | .prod a b=>a.size+b.size
 | .agg t=>t.size
 | .int _=>1
 | .bool=>1
 | .str=>1
 | .slice _=>1
 | .ref _=>1
def Ty.dflt:(t:Ty)→t.den
 | .int _=>(0:Int)
 | .bool=>false
 | .str=>ByteArray.empty
 | .slice _=>[]
 | .prod a b=>(a.dflt,b.dflt)
 | .agg t=>t.dflt
 | .ref _=>()
def Ty.zero:Ty→List Value
 | .int k=>[.int k 0]
 | .bool=>[.bool false]
 | .str=>[.string ByteArray.empty]
 | .slice _=>[.slice none 0 0]
 | .prod a b=>a.zero++b.zero
 | .agg t=>t.zero
 | .ref k=>[Jv k]
def Ty.wrap:Ty→List Value→Value
 | .agg _,cs=>.agg cs.toArray
 | .prod _ _,cs=>.agg cs.toArray
 | .int _,cs=>cs.headD undef
 | .bool,cs=>cs.headD undef
 | .str,cs=>cs.headD undef
 | .slice _,cs=>cs.headD undef
 | .ref _,cs=>cs.headD undef
def Jf (k:IntKind) (n:Int):Prop:=k.min≤n∧n≤k.max
def AO:Nat:=140737488355328
def Bj (w:World) (O:Nat→Prop):(t:Ty)→List Value→t.den→Prop
 | .int k,cs,d=>cs=[.int k d]∧Jf k d
 | .bool,cs,d=>cs=[.bool d]
 | .str,cs,d=>cs=[.string d]∧ByteArray.size d≤AO
 | .slice e,cs,d=>∃(a:Option Addr) (c:Nat),cs=[.slice a (List.length d) c]∧List.length d≤c∧List.length d≤AO ∧
   (d=[]∨∃ad:Addr,a=some ad∧¬O ad.block ∧
    ∀(i:Nat) (x:e.den),d[i]?=some x→∃es:List Value,es.length=e.size∧(∀(j:Nat) (v:Value),es[j]?=some v→w.cell? (ad.add (i*e.size+j))=some v)∧Bj w O e es x)
 | .prod a b,cs,d=>∃c1 c2:List Value,cs=c1++c2∧Bj w O a c1 d.1∧Bj w O b c2 d.2
 | .agg t,cs,d=>Bj w O t cs d
 | .ref k,cs,_=>cs=[Jv k]
def Bh (w:World) (O:Nat→Prop) (t:Ty) (v:Value) (d:t.den):Prop:=∃cs,Bj w O t cs d∧v=t.wrap cs
theorem B0 (a:Addr) (n:Nat):(a.add n).block=a.block:=by unfold Addr.add;split<;>rfl
theorem Cn (a:Addr) (i j:Nat):(a.add i).add j=a.add (i+j):=by
 unfold Addr.add
 by_cases hi:i=0<;>by_cases hj:j=0<;>simp[hi,hj,Nat.add_assoc]
theorem K7 (a:Addr):a.add 0=a:=rfl
theorem Xz (g j:Nat):(⟨g,0,none⟩:Addr).add j=⟨g,j,none⟩:=by
 unfold Addr.add;split<;>simp_all
theorem IR (g i j:Nat):(⟨g,i,none⟩:Addr).add j=⟨g,i+j,none⟩:=by
 unfold Addr.add;split<;>simp_all
theorem Ty.size_pos:∀t:Ty,0<t.size
 | .int _=>by simp[Ty.size]
 | .bool=>by simp[Ty.size]
 | .str=>by simp[Ty.size]
 | .slice _=>by simp[Ty.size]
 | .ref _=>by simp[Ty.size]
 | .prod a b=>by have:=a.size_pos;simp[Ty.size];omega
 | .agg t=>by simpa[Ty.size] using t.size_pos
theorem Bj.length {w:World} {O:Nat→Prop}:∀ {t:Ty} {cs:List Value} {d:t.den},Bj w O t cs d→cs.length=t.size
 | .int _,_,_,h=>by obtain⟨rfl,_⟩:=h;rfl
 | .bool,_,_,h=>by have h:_=_:=h;subst h;rfl
 | .str,_,_,h=>by obtain⟨rfl,_⟩:=h;rfl
 | .slice _,_,_,h=>by obtain⟨_,_,rfl,_⟩:=h;rfl
 | .ref _,_,_,h=>by have h:_=_:=h;subst h;rfl
 | .prod a b,_,_,h=>by
  obtain⟨c1,c2,rfl,h1,h2⟩:=h
  simp[Ty.size,Bj.length h1,Bj.length h2]
 | .agg t,_,_,h=>by
  have h:Bj w O t _ _:=h
  simpa[Ty.size] using Bj.length h
theorem Bj.one {w:World} {O:Nat→Prop}:∀ {t:Ty} {cs:List Value} {d:t.den},Bj w O t cs d→∀v∈cs,v.oneCell'=true
 | .int _,_,_,h=>by obtain⟨rfl,_⟩:=h;simp[Value.oneCell']
 | .bool,_,_,h=>by have h:_=_:=h;subst h;simp[Value.oneCell']
 | .str,_,_,h=>by obtain⟨rfl,_⟩:=h;simp[Value.oneCell']
 | .slice _,_,_,h=>by obtain⟨_,_,rfl,_⟩:=h;simp[Value.oneCell']
 | .ref k,_,_,h=>by
  have h:_=[Jv k]:=h
  subst h
  match k with
  | 0=>simp[Value.oneCell',Jv]
  | 1=>simp[Value.oneCell',Jv]
  | _+2=>simp[Value.oneCell',Jv]
 | .prod a b,_,_,h=>by
  obtain⟨c1,c2,rfl,h1,h2⟩:=h
  intro v hv
  rcases List.mem_append.1 hv with hv|hv
  ·exact Bj.one h1 v hv
  ·exact Bj.one h2 v hv
 | .agg t,_,_,h=>by
  have h:Bj w O t _ _:=h
  exact Bj.one h
theorem Bj.mono {w w':World} {O O':Nat→Prop} (hO:∀b,b<w.heap.size→¬O b→¬O' b) (hw:∀b,b<w.heap.size→¬O b→w'.heap[b]?=w.heap[b]?) :
  ∀ {t:Ty} {cs:List Value} {d:t.den},Bj w O t cs d→Bj w' O' t cs d
 | .int _,_,_,h=>h
 | .bool,_,_,h=>h
 | .str,_,_,h=>h
 | .ref _,_,_,h=>h
 | .slice e,_,d,h=>by
  obtain⟨a,c,rfl,h1,h2,h3⟩:=h
  refine⟨a,c,rfl,h1,h2,?_⟩
  rcases h3 with h3|⟨ad,rfl,hO1,hx⟩
  ·exact .inl h3
  ·by_cases hd:d=[]
   ·exact .inl hd
   ·have hlt:ad.block<w.heap.size:=by
     obtain⟨x,r,rfl⟩:∃x r,d=x :: r:=List.exists_cons_of_ne_nil hd
     obtain⟨es,hl,hc,_⟩:=hx 0 x rfl
     have hp:=e.size_pos
     have:es[0]?=some (es[0]'(by omega)):=List.getElem?_eq_getElem (by omega)
     have:=block_lt_of_cell (hc 0 _ this)
     rwa [B0]at this
    refine .inr ⟨ad,rfl,hO _ hlt hO1,fun i x hi=>?_⟩
    obtain⟨es,hl,hc,hr⟩:=hx i x hi
    refine⟨es,hl,fun j v hj=>?_,Bj.mono hO hw hr⟩
    rw[World.cell?_of_block (w:=w) (w':=w')]
    ·exact hc j v hj
    ·rw[B0];exact hw _ hlt hO1
 | .prod a b,_,_,h=>by
  obtain⟨c1,c2,rfl,h1,h2⟩:=h
  exact⟨c1,c2,rfl,Bj.mono hO hw h1,Bj.mono hO hw h2⟩
 | .agg t,_,_,h=>by
  have h:Bj w O t _ _:=h
  exact(Bj.mono hO hw h:Bj w' O' t _ _)
theorem Bh.mono {w w':World} {O O':Nat→Prop} (hO:∀b,b<w.heap.size→¬O b→¬O' b) (hw:∀b,b<w.heap.size→¬O b→w'.heap[b]?=w.heap[b]?)
  {t:Ty} {v:Value} {d:t.den} (h:Bh w O t v d):Bh w' O' t v d :=
 let ⟨cs,h1,h2⟩:=h
 ⟨cs,h1.mono hO hw,h2⟩
theorem Bj.zero (w:World) (O:Nat→Prop):∀t:Ty,Bj w O t t.zero t.dflt
 | .int k=>⟨rfl,by cases k<;>exact⟨by decide,by decide⟩⟩
 | .bool=>rfl
 | .str=>⟨rfl,by simp[Ty.dflt,AO]⟩
 | .slice _=>⟨none,0,rfl,by simp[Ty.dflt],by simp[Ty.dflt,AO],.inl rfl⟩
 | .ref _=>rfl
 | .prod a b=>⟨_,_,rfl,Bj.zero w O a,Bj.zero w O b⟩
 | .agg t=>(Bj.zero w O t:Bj w O t _ _)
end
/- The symbolic executor: abstract values, objects, states, and what one operation does to them. Definitions alone. -/
section
open Go
structure PV where
 t:Ty
 d:t.den
def BD (t:Ty) (p:PV):Option t.den:=if h:p.t=t then some (h▸p.d) else none
theorem F0 (t:Ty) (d:t.den):BD t ⟨t,d⟩=some d:=by simp[BD]
def Fa:(t:Ty)→Nat→t.den→Option PV
 | .prod a _,0,d=>some ⟨a,d.1⟩
 | .prod _ b,k+1,d=>Fa b k d.2
 | .int k,0,d=>some ⟨.int k,d⟩
 | .bool,0,d=>some ⟨.bool,d⟩
 | .str,0,d=>some ⟨.str,d⟩
 | .slice e,0,d=>some ⟨.slice e,d⟩
 | .agg t,0,d=>some ⟨.agg t,d⟩
 | .ref k,0,d=>some ⟨.ref k,d⟩
 | _,_,_=>none
def Lo:(t:Ty)→Nat→t.den→PV→Option t.den
 | .prod a _,0,d,x=>(BD a x).map fun y=>(y,d.2)
 | .prod _ b,k+1,d,x=>(Lo b k d.2 x).map fun y=>(d.1,y)
 | .int k,0,_,x=>BD (.int k) x
 | .bool,0,_,x=>BD .bool x
 | .str,0,_,x=>BD .str x
 | .slice e,0,_,x=>BD (.slice e) x
 | .agg t,0,_,x=>BD (.agg t) x
 | .ref k,0,_,x=>BD (.ref k) x
 | _,_,_,_=>none
def H4:Ty→Nat→Option Nat
 | .prod _ _,0=>some 0
 | .prod a b,k+1=>(H4 b k).map (a.size + ·)
 | .int _,0=>some 0
 | .bool,0=>some 0
 | .str,0=>some 0
 | .slice _,0=>some 0
 | .agg _,0=>some 0
 | .ref _,0=>some 0
 | _,_=>none
def WR:Ty→Nat→Option Ty
 | .prod a _,0=>some a
 | .prod _ b,k+1=>WR b k
 | .int k,0=>some (.int k)
 | .bool,0=>some .bool
 | .str,0=>some .str
 | .slice e,0=>some (.slice e)
 | .agg t,0=>some (.agg t)
 | .ref k,0=>some (.ref k)
 | _,_=>none
def Qv:List Nat→(t:Ty)→t.den→Option PV
 | [],t,d=>some ⟨t,d⟩
 | k :: r,.agg t,d=>match Fa t k d with
  | some pv=>Qv r pv.t pv.d
  | none=>none
 | _ :: _,_,_=>none
def Rk:List Nat→(t:Ty)→t.den→PV→Option t.den
 | [],t,_,x=>BD t x
 | k :: r,.agg t,d,x=>match Fa t k d with
  | some pv=>match Rk r pv.t pv.d x with
   | some y=>Lo t k d ⟨pv.t,y⟩
   | none=>none
  | none=>none
 | _ :: _,_,_,_=>none
def Jz:List Nat→Ty→Option Nat
 | [],_=>some 0
 | k :: r,.agg t=>match H4 t k,WR t k with
  | some o,some u=>(Jz r u).map (o + ·)
  | _,_=>none
 | _ :: _,_=>none
inductive AV where
 /-- a pure value -/
 | p (t:Ty) (d:t.den)
 /-- just this value -/
 | raw (v:Value)
 /-- the places lo .. hi of the owned array n -/
 | sr (n:Nat) (e:Ty) (lo hi:Nat)
 /-- a pointer into element i of the owned array n -/
 | ep (n:Nat) (e:Ty) (i:Nat) (path:List Nat) (off:Nat)
 /-- a pointer to memory that holds a pure value -/
 | ip (t:Ty) (d:t.den)
 /-- a pointer into the box n -/
 | bp (n:Nat) (path:List Nat) (off:Nat)
 | fn (f:FuncId)
 /-- a closure; its variables are the boxes -/
 | clo (f:FuncId) (ns:List Nat)
 /-- the map n -/
 | mp (n:Nat)
 /-- the function by which a round of the loop n is run -/
 | yl (n:Nat)
 /-- the inner slice of row i of the nested array n: its elements, its length -/
 | nin (n:Nat) (e:Ty) (i len:Nat)
 /-- a struct with these fields -/
 | ag (l:List AV)
 | tup (l:List AV)
 /-- nothing is known -/
 | top
inductive Obj where
 | arr (et:TypeId) (e:Ty) (xs:List e.den)
 | box (et:TypeId) (st:Bool) (fs:List AV)
 /-- a map's entries, in their order -/
 | mapo (k v:Ty) (l:List (k.den×v.den))
 /-- an iterator over a map that is written no more: the places that are left, the last one -/
 | itr (k v:Ty) (l:List (k.den×v.den)) (left:List Nat) (cur:Option Nat)
 /-- rows that end in a slice of their own each; 'h': the row whose slice is elsewhere just now -/
 | nest (et iet:TypeId) (k e:Ty) (xs:List (k.den×List e.den)) (h:Option Nat)
 /-- a caller's frame: its slots as they were, and what they mean -/
 | frame (tm:Array Value) (fs:List (Nat×AV))
 /-- the record of a range over a function -/
 | loop (L:Go.Loop)
 /-- the block of the calls that such a loop defers: none -/
 | dfr
structure St where
 env:List (Nat×AV)
 objs:List (Nat×Obj)
def lk {α:Type}:Nat→List (Nat×α)→Option α
 | _,[]=>none
 | k,(j,v) :: r=>if k=j then some v else lk k r
def UF {α:Type}:Nat→List (Nat×α)→List (Nat×α)
 | _,[]=>[]
 | k,(j,v) :: r=>if k=j then UF k r else (j,v) :: UF k r
def upd {α:Type}:Nat→α→List (Nat×α)→List (Nat×α)
 | _,_,[]=>[]
 | k,u,(j,v) :: r=>if k=j then (j,u) :: upd k u r else (j,v) :: upd k u r
def sub {α:Type} (xs:List α) (lo hi:Nat):List α:=(xs.drop lo).take (hi-lo)
theorem Hb {α:Type} (xs:List α):sub xs 0 xs.length=xs:=by simp[sub]
structure TI where
 ty:Ty
 offs:List (Nat×Nat):=[]
 el:TypeId:=0
 bytes:Nat
inductive RV where
 | p (t:Ty) (d:t.den)
 | own (et:TypeId) (e:Ty) (xs:List e.den)
@[reducible] def J0:List Ty→Type
 | []=>Unit
 | t :: r=>t.den×J0 r
def Ty.flat:Ty→Bool
 | .slice _=>false
 | .prod a b=>a.flat&&b.flat
 | .agg t=>t.flat
 | .int _=>true
 | .bool=>true
 | .str=>true
 | .ref _=>true
def RV.flat:RV→Bool
 | .p t _=>t.flat
 | .own _ _ _=>false
structure Ac where
 ins:List Ty
 lend:Bool:=false
 pre:J0 ins→Prop
 out:J0 ins→List RV
structure Tb where
 ty:List (Nat×TI)
 fns:List (Nat×Ac)
 /-- slots whose new slices are written no more -/
 pure:List Nat:=[]
 /-- slots whose new slices are nested arrays; the type of their rows' elements -/
 nests:List (Nat×TypeId):=[]
def inB (n:Nat):List Nat→Bool
 | []=>false
 | m :: r=>if n=m then true else inB n r
def GX:Value→AV
 | .int k n=>if k.min≤n∧n≤k.max then .p (.int k) n else .raw (.int k n)
 | .bool b=>.p .bool b
 | .string s=>if s.size≤AO then .p .str s else .raw (.string s)
 | v=>.raw v
def Aq (σ:St):Operand→Option AV
 | .tmp t=>lk t σ.env
 | .const v=>some (GX v)
 | .func f=>some (.fn f)
 | .global _=>none
def Ou (e:Ty) (lo hi:Nat):Option Obj→Option (List e.den)
 | some (.arr _ e' xs)=>BD (.slice e) ⟨.slice e',sub xs lo hi⟩
 | some (.nest _ _ k e' xs none)=>BD (.slice e) ⟨.slice (.agg (.prod k (.slice e'))),sub xs lo hi⟩
 | _=>none
def Ow (e:Ty) (i:Nat):Option Obj→Option (List e.den)
 | some (.nest _ _ k e' xs none)=>BD (.slice e) ⟨.slice e',(xs.getD i (k.dflt,[])).2⟩
 | _=>none
def Em (l:Bool) (σ:St):(t:Ty)→AV→Option t.den
 | t,.p u d=>BD t ⟨u,d⟩
 | .slice e,.sr n e' lo hi=>if l=true∧e'=e then Ou e lo hi (lk n σ.objs) else none
 | .slice e,.nin n e' i _=>if l=true∧e'=e then Ow e i (lk n σ.objs) else none
 | .slice _,.raw (.slice none 0 0)=>some []
 | _,_=>none
def J1 {α β:Type}:Option α→Option β→Option (α×β)
 | some a,some b=>some (a,b)
 | _,_=>none
def I0 (l:Bool) (σ:St):List AV→(t:Ty)→Option t.den
 | [],_=>none
 | [x],t=>Em l σ t x
 | x :: y :: r,.prod a b=>J1 (Em l σ a x) (I0 l σ (y :: r) b)
 | _ :: _ :: _,_=>none
def MN (l:Bool) (σ:St):(t:Ty)→AV→Option t.den
 | .agg t,.ag fs=>I0 l σ fs t
 | t,x=>Em l σ t x
def AW (n:Nat):List Nat→Bool
 | []=>false
 | m :: r=>if n=m then true else AW n r
theorem AZ (n:Nat):∀l:List Nat,AW n l=true↔n∈l
 | []=>by simp[AW]
 | m :: r=>by
  simp only[AW,List.mem_cons]
  split
  ·rename_i h;simp[h]
  ·rename_i h;simp[h,AZ n r]
/-! ### Names that are forgotten -/
mutual
def AV.fgt (hs:List Nat):AV→AV
 | .sr m e lo hi=>if AW m hs=true then .top else .sr m e lo hi
 | .ep m e i path off=>if AW m hs=true then .top else .ep m e i path off
 | .nin m e i len=>if AW m hs=true then .top else .nin m e i len
 | .bp m path off=>if AW m hs=true then .top else .bp m path off
 | .mp m=>if AW m hs=true then .top else .mp m
 | .yl m=>if AW m hs=true then .top else .yl m
 | .clo f ns=>if (ns.any fun n=>AW n hs)=true then .top else .clo f ns
 | .ag l=>.ag (AV.fgts hs l)
 | .tup l=>.tup (AV.fgts hs l)
 | .p t d=>.p t d
 | .raw v=>.raw v
 | .ip t d=>.ip t d
 | .fn f=>.fn f
 | .top=>.top
def AV.fgts (hs:List Nat):List AV→List AV
 | []=>[]
 | x :: r=>AV.fgt hs x :: AV.fgts hs r
end
def Bi (hs:List Nat):List (Nat×AV)→List (Nat×AV)
 | []=>[]
 | (s,x) :: r=>(s,x.fgt hs) :: Bi hs r
def Obj.fgt (hs:List Nat):Obj→Obj
 | .arr et e xs=>.arr et e xs
 | .box et st fs=>.box et st (AV.fgts hs fs)
 | .mapo k v l=>.mapo k v l
 | .nest et iet k e xs h=>.nest et iet k e xs h
 | .frame tm fs=>.frame tm (Bi hs fs)
 | .loop L=>.loop L
 | .itr ik iv il ilf icu=>.itr ik iv il ilf icu
 | .dfr=>.dfr
def Ak (hd hs:List Nat):List (Nat×Obj)→List (Nat×Obj)
 | []=>[]
 | (n,o) :: r=>if AW n hd=true then Ak hd hs r else (n,o.fgt hs) :: Ak hd hs r
mutual
/-- The nested array n has turned within (its inner slices), the names 'hs' are no more. -/
def AV.trn (n:Nat) (hs:List Nat):AV→AV
 | .nin m e i len=>if m=n∨AW m hs=true then .top else .nin m e i len
 | .sr m e lo hi=>if AW m hs=true then .top else .sr m e lo hi
 | .ep m e i path off=>if AW m hs=true then .top else .ep m e i path off
 | .bp m path off=>if AW m hs=true then .top else .bp m path off
 | .mp m=>if AW m hs=true then .top else .mp m
 | .yl m=>if AW m hs=true then .top else .yl m
 | .clo f ns=>if (ns.any fun n=>AW n hs)=true then .top else .clo f ns
 | .ag l=>.ag (AV.trns n hs l)
 | .tup l=>.tup (AV.trns n hs l)
 | .p t d=>.p t d
 | .raw v=>.raw v
 | .ip t d=>.ip t d
 | .fn f=>.fn f
 | .top=>.top
def AV.trns (n:Nat) (hs:List Nat):List AV→List AV
 | []=>[]
 | x :: r=>AV.trn n hs x :: AV.trns n hs r
end
def ER (n:Nat) (hs:List Nat):List (Nat×AV)→List (Nat×AV)
 | []=>[]
 | (s,x) :: r=>(s,x.trn n hs) :: ER n hs r
def Obj.trn (n:Nat) (hs:List Nat):Obj→Obj
 | .arr et e xs=>.arr et e xs
 | .box et st fs=>.box et st (AV.trns n hs fs)
 | .mapo k v l=>.mapo k v l
 | .nest et iet k e xs h=>.nest et iet k e xs h
 | .frame tm fs=>.frame tm (ER n hs fs)
 | .loop L=>.loop L
 | .itr ik iv il ilf icu=>.itr ik iv il ilf icu
 | .dfr=>.dfr
def Cg (n:Nat) (hs:List Nat):List (Nat×Obj)→List (Nat×Obj)
 | []=>[]
 | (m,o) :: r=>if AW m (n :: hs)=true then Cg n hs r else (m,o.trn n hs) :: Cg n hs r
def CP:Option Obj→Bool
 | some (.nest _ _ _ _ _ _)=>true
 | _=>false
def P0 (σ:St) (e:Ty):AV→Option (List e.den)
 | .sr n e' lo hi=>if CP (lk n σ.objs)=true then none else MN true σ (.slice e) (.sr n e' lo hi)
 | x=>MN true σ (.slice e) x
end
/- The symbolic executor, second part: operations, regions. Definitions alone. -/
section
open Go
def Ar (x y:ByteArray):Bool:=x.toList==y.toList
def GT (x y:ByteArray):Bool:=Op.bytesLess x.toList y.toList
def CJ (op:BinOp) (k:IntKind) (x y:Int):Int :=
 k.wrap (match op with
  | .and=>((BitVec.ofInt k.bits x &&& BitVec.ofInt k.bits y).toNat:Int)
  | .or=>((BitVec.ofInt k.bits x ||| BitVec.ofInt k.bits y).toNat:Int)
  | .xor=>((BitVec.ofInt k.bits x ^^^ BitVec.ofInt k.bits y).toNat:Int)
  | _=>((BitVec.ofInt k.bits x &&& ~~~BitVec.ofInt k.bits y).toNat:Int))
def WS (k:IntKind) (x y:Int):Int:=k.wrap (x*2 ^ (min y.toNat k.bits))
def Rl (k:IntKind) (x y:Int):Int:=x.fdiv (2 ^ (min y.toNat k.bits))
def aU (k:IntKind) (a b:Int):BinOp→Prop×AV
 | .add=>(Jf k (a+b),.p (.int k) (a+b))
 | .sub=>(Jf k (a-b),.p (.int k) (a-b))
 | .mul=>(Jf k (a*b),.p (.int k) (a*b))
 | .quo=>(b≠0∧Jf k (a.tdiv b),.p (.int k) (a.tdiv b))
 | .rem=>(b≠0∧Jf k (a.tmod b),.p (.int k) (a.tmod b))
 | .and=>(True,.p (.int k) (CJ .and k a b))
 | .or=>(True,.p (.int k) (CJ .or k a b))
 | .xor=>(True,.p (.int k) (CJ .xor k a b))
 | .andNot=>(True,.p (.int k) (CJ .andNot k a b))
 | .shl=>(False,.top)
 | .shr=>(False,.top)
 | .eql=>(True,.p .bool (a==b))
 | .neq=>(True,.p .bool (a != b))
 | .lss=>(True,.p .bool (decide (a<b)))
 | .leq=>(True,.p .bool (decide (a≤b)))
 | .gtr=>(True,.p .bool (decide (b<a)))
 | .geq=>(True,.p .bool (decide (b≤a)))
def UH (a b:ByteArray):BinOp→Prop×AV
 | .add=>(a.size+b.size≤AO,.p .str (a++b))
 | .eql=>(True,.p .bool (Ar a b))
 | .neq=>(True,.p .bool (!Ar a b))
 | .lss=>(True,.p .bool (GT a b))
 | .leq=>(True,.p .bool (GT a b||Ar a b))
 | .gtr=>(True,.p .bool (!(GT a b||Ar a b)))
 | .geq=>(True,.p .bool (!GT a b))
 | _=>(False,.top)
def wL (op:BinOp) (k:IntKind) (a:Int) (k':IntKind) (b:Int):Prop×AV :=
 match op with
 | .shl=>(0≤b,.p (.int k) (WS k a b))
 | .shr=>(0≤b∧Jf k (Rl k a b),.p (.int k) (Rl k a b))
 | op=>if k=k' then aU k a b op else (False,.top)
def mF:Ty→AV
 | .slice _=>.raw (.slice none 0 0)
 | .ref k=>.raw (Jv k)
 | t=>.p t t.dflt
def mG:Ty→List AV
 | .prod a b=>mF a :: mG b
 | t=>[mF t]
def wP:(t:Ty)→t.den→List AV
 | .prod a b,d=>.p a d.1 :: wP b d.2
 | .int k,d=>[.p (.int k) d]
 | .bool,d=>[.p .bool d]
 | .str,d=>[.p .str d]
 | .slice e,d=>[.p (.slice e) d]
 | .agg t,d=>[.p (.agg t) d]
 | .ref k,d=>[.p (.ref k) d]
def AV.cells:AV→Nat
 | .p t _=>t.size
 | .ag _=>0
 | .tup _=>0
 | _=>1
def Bz:List AV→Nat→Nat
 | _,0=>0
 | [],_+1=>0
 | x :: r,k+1=>x.cells+Bz r k
def IT (st:Bool) (fs:List AV):List Nat→Option AV
 | []=>if st then some (.ag fs) else fs[0]?
 | [k]=>if st then fs[k]? else none
 | k :: r=>if st then match fs[k]? with
   | some (.p t d)=>(Qv r t d).map fun pv=>.p pv.t pv.d
   | _=>none
  else none
def NF (fs:List AV):List Nat→Option Nat
 | []=>some 0
 | k :: r=>match fs[k]? with
  | some (.p t _)=>(Jz r t).map (Bz fs k + ·)
  | some _=>if r.isEmpty then some (Bz fs k) else none
  | none=>none
def Ty.cell1:Ty→Bool
 | .agg _=>false
 | .prod _ _=>false
 | .int _=>true
 | .bool=>true
 | .str=>true
 | .slice _=>true
 | .ref _=>true
def B7 (ty:Ty):AV→Bool
 | .p t _=>ty=t
 | .ag l=>match ty with|.agg t=>Bz l l.length==t.size|_=>false
 | .tup _=>false
 | .top=>false
 | .raw u=>u.oneCell'&&ty.cell1
 | _=>ty.cell1
def Lr (ty:Ty):AV→Bool
 | .top=>ty.cell1
 | x=>B7 ty x
def F1 (n:Nat):Bool:=decide (1000000≤n)
mutual
def AV.frz (n:Nat) (e:Ty) (xs:List e.den):AV→AV
 | .sr m e' lo hi=>if m=n then (if e'=e then .p (.slice e) (sub xs lo hi) else .top) else .sr m e' lo hi
 | .ep m e' i path off=>if m=n then .top else .ep m e' i path off
 | .nin m e' i len=>if m=n then .top else .nin m e' i len
 | .ag l=>.ag (AV.frzs n e xs l)
 | .tup l=>.tup (AV.frzs n e xs l)
 | .p t d=>.p t d
 | .raw v=>.raw v
 | .ip t d=>.ip t d
 | .bp m path off=>.bp m path off
 | .fn f=>.fn f
 | .clo f ns=>.clo f ns
 | .mp n=>.mp n
 | .yl n=>.yl n
 | .top=>.top
def AV.frzs (n:Nat) (e:Ty) (xs:List e.den):List AV→List AV
 | []=>[]
 | x :: r=>AV.frz n e xs x :: AV.frzs n e xs r
end
def Co (n:Nat) (e:Ty) (xs:List e.den):List (Nat×AV)→List (Nat×AV)
 | []=>[]
 | (s,x) :: r=>(s,x.frz n e xs) :: Co n e xs r
def Az (n:Nat) (e:Ty) (xs:List e.den):List (Nat×Obj)→List (Nat×Obj)
 | []=>[]
 | (m,.arr et e' ys) :: r=>(m,.arr et e' ys) :: Az n e xs r
 | (m,.box et st fs) :: r=>(m,.box et st (AV.frzs n e xs fs)) :: Az n e xs r
 | (m,.mapo k v l) :: r=>(m,.mapo k v l) :: Az n e xs r
 | (m,.nest et iet k e' ys h) :: r=>(m,.nest et iet k e' ys h) :: Az n e xs r
 | (m,.frame tm fs) :: r=>(m,.frame tm (Co n e xs fs)) :: Az n e xs r
 | (m,.loop L) :: r=>(m,.loop L) :: Az n e xs r
 | (m,.itr ik iv il ilf icu) :: r=>(m,.itr ik iv il ilf icu) :: Az n e xs r
 | (m,.dfr) :: r=>(m,.dfr) :: Az n e xs r
def aV (n:Nat) (σ:St):Option Obj→St
 | some (.arr _ e xs)=>⟨Co n e xs σ.env,Az n e xs (UF n σ.objs)⟩
 | some (.nest _ _ k e xs none)=>⟨Co n (.agg (.prod k (.slice e))) xs σ.env,Az n (.agg (.prod k (.slice e))) xs (UF n σ.objs)⟩
 | _=>σ
def frz (n:Nat) (σ:St):St:=if F1 n=true then σ else aV n σ (lk n σ.objs)
mutual
/-- All but one who looked at the array n know nothing of it now. -/
def AV.drp (n:Nat):AV→AV
 | .sr m e' lo hi=>if m=n then .top else .sr m e' lo hi
 | .ep m e' i path off=>if m=n then .top else .ep m e' i path off
 | .nin m e' i len=>if m=n then .top else .nin m e' i len
 | .ag l=>.ag (AV.drps n l)
 | .tup l=>.tup (AV.drps n l)
 | .p t d=>.p t d
 | .raw v=>.raw v
 | .ip t d=>.ip t d
 | .bp m path off=>.bp m path off
 | .fn f=>.fn f
 | .clo f ns=>.clo f ns
 | .mp n=>.mp n
 | .yl n=>.yl n
 | .top=>.top
def AV.drps (n:Nat):List AV→List AV
 | []=>[]
 | x :: r=>AV.drp n x :: AV.drps n r
end
def E7 (n:Nat):List (Nat×AV)→List (Nat×AV)
 | []=>[]
 | (s,x) :: r=>(s,x.drp n) :: E7 n r
def BL (n:Nat):List (Nat×Obj)→List (Nat×Obj)
 | []=>[]
 | (m,.arr et e' ys) :: r=>(m,.arr et e' ys) :: BL n r
 | (m,.box et st fs) :: r=>(m,.box et st (AV.drps n fs)) :: BL n r
 | (m,.mapo k v l) :: r=>(m,.mapo k v l) :: BL n r
 | (m,.nest et iet k e' ys h) :: r=>(m,.nest et iet k e' ys h) :: BL n r
 | (m,.frame tm fs) :: r=>(m,.frame tm (E7 n fs)) :: BL n r
 | (m,.loop L) :: r=>(m,.loop L) :: BL n r
 | (m,.itr ik iv il ilf icu) :: r=>(m,.itr ik iv il ilf icu) :: BL n r
 | (m,.dfr) :: r=>(m,.dfr) :: BL n r
mutual
def AV.names:AV→List Nat
 | .sr m _ _ _=>[m]
 | .ag l=>AV.namess l
 | .tup l=>AV.namess l
 | .p _ _=>[]
 | .raw _=>[]
 | .ip _ _=>[]
 | .bp _ _ _=>[]
 | .ep _ _ _ _ _=>[]
 | .nin _ _ _ _=>[]
 | .fn _=>[]
 | .clo _ _=>[]
 | .mp _=>[]
 | .yl _=>[]
 | .top=>[]
def AV.namess:List AV→List Nat
 | []=>[]
 | x :: r=>x.names++AV.namess r
end
def F2 (σ:St):Option Operand→Option (Option AV)
 | none=>some none
 | some x=>(Aq σ x).map some
def ET (σ:St) (e:Ty):Nat→List (Nat×Operand)→Option (List e.den)
 | _,[]=>some []
 | k,(i,x) :: r=>if i=k then match Aq σ x with
   | some av=>match MN false σ e av,ET σ e (k+1) r with
    | some y,some ys=>some (y :: ys)
    | _,_=>none
   | none=>none
  else none
def Hc:AV→Bool
 | .p (.prod _ _) _=>false
 | .p _ _=>true
 | .raw u=>u.oneCell'
 | .ag _=>false
 | .tup _=>false
 | .top=>false
 | _=>true
def E8 (σ:St):Option AV→Option AV→Option AV
 | some (.p t _),some (.ag l)=>(MN false σ t (.ag l)).map fun d=>.p t d
 | _,x=>x
def DC (σ:St) (offs:List (Nat×Nat)):List AV→List (Nat×Operand)→Option (List AV)
 | fs,[]=>some fs
 | fs,(i,x) :: r=>match E8 σ fs[i]? (Aq σ x) with
  | some av=>if Hc av=true∧(fs[i]?.map AV.cells)=some av.cells∧offs[i]?=some (Bz fs i,av.cells) then DC σ offs (fs.set i av) r else none
  | none=>none
def FU (l:Bool) (σ:St):(ts:List Ty)→List Operand→Option (J0 ts)
 | [],[]=>some ()
 | t :: ts,x :: xs=>match Aq σ x with
  | some av=>match MN l σ t av,FU l σ ts xs with
   | some y,some ys=>some (y,ys)
   | _,_=>none
  | none=>none
 | _,_=>none
def X0 (name:Nat):RV→AV
 | .p t d=>.p t d
 | .own _ e xs=>.sr name e 0 xs.length
def P6 (name:Nat):RV→List (Nat×Obj)
 | .p _ _=>[]
 | .own et e xs=>[(name,.arr et e xs)]
def Ls:Nat→List RV→List AV
 | _,[]=>[]
 | n,r :: l=>X0 n r :: Ls (n+10000) l
def Cc:Nat→List RV→List (Nat×Obj)
 | _,[]=>[]
 | n,r :: l=>P6 n r++Cc (n+10000) l
def IU (name:Nat):List RV→AV
 | []=>.raw (.tuple #[])
 | [r]=>X0 name r
 | l=>.tup (Ls name l)
/-! Maps -/
def UY:(t:Ty)→t.den→t.den→Bool
 | .int _,a,b=>(a:Int)==b
 | .bool,a,b=>(a:Bool)==b
 | .str,a,b=>(a:ByteArray)==b
 | .prod t u,a,b=>UY t a.1 b.1&&UY u a.2 b.2
 | .agg t,a,b=>UY t a b
 | .slice _,_,_=>false
 | .ref _,_,_=>false
def aW:Ty→Bool
 | .prod (.int _) (.int _)=>true
 | _=>false
def UI:Ty→Bool
 | .int _=>true
 | .bool=>true
 | .str=>true
 | .prod _ _=>false
 | .agg t=>aW t
 | .slice _=>false
 | .ref _=>false
def J2 (kt vt:Ty) (k:kt.den):List (kt.den×vt.den)→Option vt.den
 | []=>none
 | x :: r=>if UY kt k x.1=true then some x.2 else J2 kt vt k r
def Qw (kt vt:Ty) (k:kt.den) (v:vt.den):List (kt.den×vt.den)→List (kt.den×vt.den)
 | []=>[(k,v)]
 | x :: r=>if UY kt k x.1=true then (k,v) :: r else x :: Qw kt vt k v r
abbrev BQ:=Option (Prop×AV×List (Nat×Obj))
def Gl (x:AV) (lo hi:Option AV):BQ :=
 match x,lo,hi with
 | .p (.slice e) l,none,some (.p (.int _) h)=>some (0≤h∧h≤l.length,.p (.slice e) (sub l 0 h.toNat),[])
 | .p (.slice e) l,some (.p (.int _) a),none=>some (0≤a∧a≤l.length,.p (.slice e) (sub l a.toNat l.length),[])
 | .p (.slice e) l,some (.p (.int _) a),some (.p (.int _) h)=>some (0≤a∧a≤h∧h≤l.length,.p (.slice e) (sub l a.toNat h.toNat),[])
 | .p .str s,none,some (.p (.int _) h)=>some (0≤h∧h≤s.size,.p .str (s.extract 0 h.toNat),[])
 | .p .str s,some (.p (.int _) a),none=>some (0≤a∧a≤s.size,.p .str (s.extract a.toNat s.size),[])
 | .p .str s,some (.p (.int _) a),some (.p (.int _) h)=>some (0≤a∧a≤h∧h≤s.size,.p .str (s.extract a.toNat h.toNat),[])
 | .sr n e b c,none,some (.p (.int _) h)=>some (0≤h∧h≤(c-b:Nat),.sr n e b (b+h.toNat),[])
 | .sr n e b c,some (.p (.int _) a),none=>some (0≤a∧a≤(c-b:Nat),.sr n e (b+a.toNat) c,[])
 | .sr n e b c,some (.p (.int _) a),some (.p (.int _) h)=>some (0≤a∧a≤h∧h≤(c-b:Nat),.sr n e (b+a.toNat) (b+h.toNat),[])
 | _,_,_=>none
def F3:Option AV→BQ
 | some v=>some (True,v,[])
 | none=>none
def Jg:Option AV→Option AV→Option AV→BQ
 | some (.p .bool true),x,_=>F3 x
 | some (.p .bool false),_,y=>F3 y
 | _,_,_=>none
def I1 (d:Nat) (t:TypeId):Option TI→BQ
 | some ⟨.agg u,_,_,_⟩=>some (True,.bp d [] 0,[(d,.box t true (mG u))])
 | some ⟨.int k,_,_,_⟩=>some (True,.bp d [] 0,[(d,.box t false [mF (.int k)])])
 | some ⟨.bool,_,_,_⟩=>some (True,.bp d [] 0,[(d,.box t false [mF .bool])])
 | some ⟨.str,_,_,_⟩=>some (True,.bp d [] 0,[(d,.box t false [mF .str])])
 | some ⟨.slice e,_,_,_⟩=>some (True,.bp d [] 0,[(d,.box t false [mF (.slice e)])])
 | some ⟨.ref k,_,_,_⟩=>some (True,.bp d [] 0,[(d,.box t false [mF (.ref k)])])
 | _=>none
def Qx (d:Nat) (t:TypeId):Option TI→Option AV→BQ
 | some ⟨.agg u,_,_,_⟩,some (.p (.agg u') v)=>if u=u' then some (True,.bp d [] 0,[(d,.box t true (wP u' v))]) else none
 | some ⟨.agg u,_,_,_⟩,some (.ag l)=>if l.map AV.cells=(mG u).map AV.cells then some (True,.bp d [] 0,[(d,.box t true l)]) else none
 | some ⟨.int k,_,_,_⟩,some v=>if B7 (.int k) v then some (True,.bp d [] 0,[(d,.box t false [v])]) else none
 | some ⟨.bool,_,_,_⟩,some v=>if B7 .bool v then some (True,.bp d [] 0,[(d,.box t false [v])]) else none
 | some ⟨.str,_,_,_⟩,some v=>if B7 .str v then some (True,.bp d [] 0,[(d,.box t false [v])]) else none
 | some ⟨.slice e,_,_,_⟩,some v=>if B7 (.slice e) v then some (True,.bp d [] 0,[(d,.box t false [v])]) else none
 | some ⟨.ref k,_,_,_⟩,some v=>if B7 (.ref k) v then some (True,.bp d [] 0,[(d,.box t false [v])]) else none
 | _,_=>none
def H5 (σ:St) (parts:List (Nat×Operand)):Option TI→BQ
 | some ⟨.agg u,offs,_,_⟩=>F3 ((DC σ offs (mG u) parts).map AV.ag)
 | _=>none
def BV (pu:Bool) (d:Nat) (n:Nat) (el:TypeId) (e:Ty):Option (List e.den)→BQ
 | some xs=>some (xs.length=n∧n*e.size≤16777216,if pu then .p (.slice e) xs else .sr d e 0 n,if pu then [] else [(d,.arr el e xs)])
 | none=>none
def BM (pu:Bool) (σ:St) (d:Nat) (n:Nat) (parts:List (Nat×Operand)):Option TI→BQ
 | some ⟨.slice e,_,el,_⟩=>BV pu d n el e (ET σ e 0 parts)
 | _=>none
def J3 (d:Nat) (el iet:TypeId) (n:Nat) (k e:Ty):Option k.den→AV→BQ
 | some a,.raw (.slice none 0 0)=>some (n=1∧k.size+1≤16777216,.sr d (.agg (.prod k (.slice e))) 0 1,[(d,.nest el iet k e [(a,[])] none)])
 | _,_=>none
def H6 (σ:St) (d:Nat) (el iet:TypeId) (n:Nat):Ty→Option AV→BQ
 | .agg (.prod k (.slice e)),some (.ag [x,y])=>J3 d el iet n k e (Em false σ k x) y
 | _,_=>none
def H7 (σ:St) (d:Nat) (iet:TypeId) (n:Nat):List (Nat×Operand)→Option TI→BQ
 | [(0,x)],some ⟨.slice t,_,el,_⟩=>H6 σ d el iet n t (Aq σ x)
 | _,_=>none
def Fy (tb:Tb) (σ:St) (d:Nat) (n:Nat) (parts:List (Nat×Operand)) (ti:Option TI):Option TypeId→BQ
 | some iet=>H7 σ d iet n parts ti
 | none=>BM (inB d tb.pure) σ d n parts ti
def Hd (ty:Ty) (fs:List AV) (path:List Nat) (off:Nat):Option AV→BQ
 | some v=>if B7 ty v=true∧NF fs path=some off then some (True,v,[]) else none
 | none=>none
def Dr (ty:Ty) (path:List Nat) (off:Nat):Option Obj→BQ
 | some (.box _ st fs)=>Hd ty fs path off (IT st fs path)
 | _=>none
def He (ty e:Ty) (path:List Nat) (off:Nat):Option PV→BQ
 | some ⟨t,d⟩=>if ty=t∧Jz path e=some off then some (True,.p t d,[]) else none
 | none=>none
def Hf (ty e:Ty) (i:Nat) (path:List Nat) (off:Nat):Option (List e.den)→BQ
 | some ys=>He ty e path off (Qv path e (ys.getD i e.dflt))
 | none=>none
def MO (n:Nat) (ty:Ty) (i off:Nat) (k e:Ty) (x:k.den×List e.den):List Nat→BQ
 | [0]=>if ty=k∧off=0 then some (True,.p k x.1,[]) else none
 | [1]=>if ty=.slice e∧off=k.size then some (True,.nin n e i x.2.length,[]) else none
 | _=>none
def Ds (n:Nat) (ty e:Ty) (i:Nat) (path:List Nat) (off:Nat):Option Obj→BQ
 | some (.arr _ e' xs)=>Hf ty e i path off (BD (.slice e) ⟨.slice e',xs⟩)
 | some (.nest _ _ k e' xs none)=>if e=.agg (.prod k (.slice e')) then MO n ty i off k e' (xs.getD i (k.dflt,[])) path else none
 | _=>none
def IV (σ:St):Option TI→Option AV→BQ
 | some ti,some (.bp n path off)=>Dr ti.ty path off (lk n σ.objs)
 | some ti,some (.ep n e i path off)=>Ds n ti.ty e i path off (lk n σ.objs)
 | some ti,some (.ip u v)=>if ti.ty=u then some (True,.p u v,[]) else none
 | _,_=>none
def Hg (o:Option (Nat×Nat)) (o':Option Nat):Option PV→BQ
 | some ⟨t,d⟩=>if o.map (·.1)=o' then some (True,.ip t d,[]) else none
 | none=>none
def Rm (v:Nat→AV):Option (Nat×Nat)→BQ
 | some (k,_)=>some (True,v k,[])
 | none=>none
def NG (f:Nat) (o:Option (Nat×Nat)):AV→BQ
 | .bp n path off=>Rm (fun k=>.bp n (path++[f]) (off+k)) o
 | .ep n e i path off=>Rm (fun k=>.ep n e i (path++[f]) (off+k)) o
 | .ip (.agg u) v=>Hg o (H4 u f) (Fa u f v)
 | _=>none
def GL (f:Nat):Option TI→Option AV→BQ
 | some ⟨.agg _,offs,0,_⟩,some x=>NG f offs[f]? x
 | _,_=>none
def I2 (offs:List (Nat×Nat)) (x:AV):AV→BQ
 | .p (.int _) k=>if 0≤k then NG k.toNat offs[k.toNat]? x else none
 | _=>none
def E9:Option TI→Option AV→Option AV→BQ
 | some ⟨.slice e,_,_,_⟩,some (.p (.slice e') l),some (.p (.int _) k)=>if e=e' then some (0≤k∧k<l.length,.ip e' (l.getD k.toNat e'.dflt),[]) else none
 | some ⟨.slice e,_,_,_⟩,some (.sr n e' lo hi),some (.p (.int _) k)=>if e=e' then some (0≤k∧k<(hi-lo:Nat),.ep n e' (lo+k.toNat) [] 0,[]) else none
 | some ⟨.agg _,offs,_+1,_⟩,some x,some i=>I2 offs x i
 | _,_,_=>none
def Dl:Option TI→Option AV→Option AV→BQ
 | some ⟨.str,_,_,_⟩,some (.p .str s),some (.p (.int _) k)=>some (0≤k∧k<s.size,.p (.int .u8) ((s.data.getD k.toNat 0).toNat:Int),[])
 | _,_,_=>none
def Rn:Option AV→BQ
 | some (.bp n path off)=>some (True,.bp n path off,[])
 | some (.ip t v)=>some (True,.ip t v,[])
 | some (.ep n e i path off)=>some (True,.ep n e i path off,[])
 | _=>none
def aX (a b:Bool):BinOp→BQ
 | .eql=>some (True,.p .bool (a==b),[])
 | .neq=>some (True,.p .bool (a != b),[])
 | _=>none
def QA:Option TI→Bool
 | some ⟨.bool,_,_,_⟩=>true
 | _=>false
def Ox (op:BinOp) (ti:Option TI):Option AV→Option AV→BQ
 | some (.p (.int k) a),some (.p (.int k') b)=>some ((wL op k a k' b).1,(wL op k a k' b).2,[])
 | some (.p .str a),some (.p .str b)=>some ((UH a b op).1,(UH a b op).2,[])
 | some (.p .bool a),some (.p .bool b)=>if QA ti=true then aX a b op else none
 | _,_=>none
def qG:UnOp→Option AV→BQ
 | .not,some (.p .bool b)=>some (True,.p .bool (!b),[])
 | .neg,some (.p (.int k) a)=>some (Jf k (0-a),.p (.int k) (0-a),[])
 | _,_=>none
def J4 (l:List Int):ByteArray:=⟨(l.map fun x=>UInt8.ofNat x.toNat).toArray⟩
def IW:Option TI→Option TI→Option AV→BQ
 | some ⟨.int _,_,_,_⟩,some ⟨.int k,_,_,_⟩,some (.p (.int _) a)=>some (Jf k a,.p (.int k) a,[])
 | some ⟨.slice (.int .u8),_,_,_⟩,some ⟨.str,_,_,_⟩,some (.p (.slice (.int .u8)) l)=>some (True,.p .str (J4 l),[])
 | _,_,_=>none
def J5 (d:Nat) (el:TypeId) (e:Ty) (n m:Int):Option TI→BQ
 | some ti=>some (n=m∧0≤n∧n.toNat*ti.bytes≤AO,.sr d e 0 n.toNat,[(d,.arr el e (List.replicate n.toNat e.dflt))])
 | none=>none
def Hh (tb:Tb) (d:Nat):Option TI→Option AV→Option AV→BQ
 | some ⟨.slice e,_,el,_⟩,some (.p (.int .i64) n),some (.p (.int .i64) m)=>J5 d el e n m (lk el tb.ty)
 | _,_,_=>none
def Eo:Option TI→Option AV→Option (Option AV)→Option (Option AV)→BQ
 | some ⟨.slice e,_,_,_⟩,some (.p (.slice e') l),some a,some h=>if e=e' then Gl (.p (.slice e') l) a h else none
 | some ⟨.slice e,_,_,_⟩,some (.sr n e' b c),some a,some h=>if e=e' then Gl (.sr n e' b c) a h else none
 | some ⟨.str,_,_,_⟩,some (.p .str s),some a,some h=>Gl (.p .str s) a h
 | _,_,_,_=>none
def Dt (i:Nat):Option AV→BQ
 | some (.tup l)=>F3 l[i]?
 | _=>none
def Qy:Option TI→Option AV→BQ
 | some ⟨.slice _,_,_,_⟩,some (.p (.slice _) l)=>some (True,.p (.int .i64) (l.length:Int),[])
 | some ⟨.slice _,_,_,_⟩,some (.sr _ _ lo hi)=>some (True,.p (.int .i64) ((hi-lo:Nat):Int),[])
 | some ⟨.slice _,_,_,_⟩,some (.nin _ _ _ len)=>some (True,.p (.int .i64) (len:Int),[])
 | some ⟨.slice _,_,_,_⟩,some (.raw (.slice none 0 0))=>some (True,.p (.int .i64) (0:Int),[])
 | some ⟨.str,_,_,_⟩,some (.p .str s)=>some (True,.p (.int .i64) (s.size:Int),[])
 | _,_=>none
def EX (d:Nat) (el:TypeId) (e:Ty):Option TI→Option (List e.den)→BQ
 | some ti,some ys=>some (ys.length*ti.bytes≤AO,.sr d e 0 ys.length,[(d,.arr el e ys)])
 | _,_=>none
def Du (tb:Tb) (σ:St) (d:Nat) (v:AV):Option TI→BQ
 | some ⟨.slice e,_,el,_⟩=>EX d el e (lk el tb.ty) (P0 σ e v)
 | _=>none
def Cs (tb:Tb) (σ:St) (d:Nat) (t u:TypeId):Option AV→Option AV→BQ
 | some (.raw (.slice none 0 0)),some v=>if t=u then Du tb σ d v (lk t tb.ty) else none
 | _,_=>none
def Oy:Option AV→Option AV→BQ
 | some (.p (.int k) a),some (.p (.int k') b)=>if k=k' then some (True,.p (.int k) (if b<a then b else a),[]) else none
 | _,_=>none
def Hi:Option AV→Option AV→Option AV→BQ
 | some (.p (.int k) a),some (.p (.int k') b),some (.p (.int k2) c)=>if k=k'∧k=k2 then some (True,.p (.int k) (if c<(if b<a then b else a) then c else (if b<a then b else a)),[]) else none
 | _,_,_=>none
def Oz:Option AV→Option AV→BQ
 | some (.p (.int k) a),some (.p (.int k') b)=>if k=k' then some (True,.p (.int k) (if a<b then b else a),[]) else none
 | _,_=>none
def I3 (d:Nat) (sp:Ac):Option (J0 sp.ins)→BQ
 | some ds=>if sp.lend=false∨(sp.out ds).all RV.flat=true then some (sp.pre ds,IU d (sp.out ds),Cc d (sp.out ds)) else none
 | none=>none
def H8 (σ:St) (d:Nat) (xs:List Operand):Option Ac→BQ
 | some sp=>I3 d sp (FU sp.lend σ sp.ins xs)
 | none=>none
def J6 (tb:Tb) (σ:St) (d:Nat) (xs:List Operand):Option AV→BQ
 | some (.fn f)=>H8 σ d xs (lk f tb.fns)
 | _=>none
def Dv (tb:Tb) (σ:St) (d:Nat):Builtin→List Operand→List TypeId→BQ
 | .len,[x],[t]=>Qy (lk t tb.ty) (Aq σ x)
 | .append,[x,y],[t,u]=>Cs tb σ d t u (Aq σ x) (Aq σ y)
 | .min,[x,y],[_,_]=>Oy (Aq σ x) (Aq σ y)
 | .max,[x,y],[_,_]=>Oz (Aq σ x) (Aq σ y)
 | .min,[x,y,z],[_,_,_]=>Hi (Aq σ x) (Aq σ y) (Aq σ z)
 | _,_,_=>none
def Gm (σ:St):List Operand→Option (List Nat)
 | []=>some []
 | x :: r=>match Aq σ x,Gm σ r with
  | some (.bp n [] 0),some ns=>some (n :: ns)
  | _,_=>none
def NH (f:FuncId):Option (List Nat)→BQ
 | some ns=>some (True,.clo f ns,[])
 | none=>none
def WT (σ:St) (fn:Fn) (first captured:List Operand):BQ :=
 match fn,first with
 | .func f,[]=>NH f (Gm σ captured)
 | _,_=>none
def Fb (d:Nat):Option TI→Option TI→BQ
 | some tk,some te=>some (True,.mp d,[(d,.mapo tk.ty te.ty [])])
 | _,_=>none
def Fc (tb:Tb) (d:Nat):List (Nat×Nat)→BQ
 | [(k,e)]=>Fb d (lk k tb.ty) (lk e tb.ty)
 | _=>none
def FA (tb:Tb) (d:Nat):Option TI→BQ
 | some ⟨.ref 2,offs,_,_⟩=>Fc tb d offs
 | _=>none
def J7 (vt:Ty) (ok:Bool) (r:Option vt.den):BQ :=
 if ok then some (True,.tup [.p vt (r.getD vt.dflt),.p .bool r.isSome],[]) else some (True,.p vt (r.getD vt.dflt),[])
def I4 (kt vt:Ty) (l:List (kt.den×vt.den)) (ok:Bool):Option kt.den→BQ
 | some k=>if UI kt=true then J7 vt ok (J2 kt vt k l) else none
 | none=>none
def Gn (tb:Tb) (σ:St) (kid eid:Nat) (x:AV) (ok:Bool):Option Obj→BQ
 | some (.mapo kt vt l)=>if (lk kid tb.ty).map TI.ty=some kt∧(lk kid tb.ty).map TI.el=some 0∧(lk eid tb.ty).map TI.ty=some vt then I4 kt vt l ok (MN false σ kt x) else none
 | _=>none
def Hj (tb:Tb) (σ:St) (ok:Bool):Option TI→Option AV→Option AV→BQ
 | some ⟨.ref 2,[(k,e)],_,_⟩,some (.mp n),some x=>Gn tb σ k e x ok (lk n σ.objs)
 | _,_,_=>none
def DD (tb:Tb) (σ:St) (d:Nat) (xs:List Operand) (ts:List TypeId):Callee→BQ
 | .builtin b=>Dv tb σ d b xs ts
 | .value g=>J6 tb σ d xs (Aq σ g)
 | _=>none
def aq (tb:Tb) (σ:St) (d:Nat):Op→BQ
 | .move x=>F3 (Aq σ x)
 | .assign x=>F3 (Aq σ x)
 | .pick c x y=>Jg (Aq σ c) (Aq σ x) (Aq σ y)
 | .alloc t=>I1 d t (lk t tb.ty)
 | .box t x=>Qx d t (lk t tb.ty) (Aq σ x)
 | .build t parts=>H5 σ parts.toList (lk t tb.ty)
 | .buildSlice t n parts=>Fy tb σ d n parts.toList (lk t tb.ty) (lk d tb.nests)
 | .load t x=>IV σ (lk t tb.ty) (Aq σ x)
 | .fieldAddr s x f=>GL f (lk s tb.ty) (Aq σ x)
 | .indexAddr t x i=>E9 (lk t tb.ty) (Aq σ x) (Aq σ i)
 | .index t x i=>Dl (lk t tb.ty) (Aq σ x) (Aq σ i)
 | .nilCheck x=>Rn (Aq σ x)
 | .binOp op t x y _=>Ox op (lk t tb.ty) (Aq σ x) (Aq σ y)
 | .unOp op _ x=>qG op (Aq σ x)
 | .convert s t x=>IW (lk s tb.ty) (lk t tb.ty) (Aq σ x)
 | .makeSlice t l c=>Hh tb d (lk t tb.ty) (Aq σ l) (Aq σ c)
 | .slice t x lo hi none=>Eo (lk t tb.ty) (Aq σ x) (F2 σ lo) (F2 σ hi)
 | .extract x i=>Dt i (Aq σ x)
 | .call c=>DD tb σ d c.args.toList c.argTypes.toList c.callee
 | .makeFunc fn first captured=>WT σ fn first.toList captured.toList
 | .makeMap t none=>FA tb d (lk t tb.ty)
 | .lookup t x i ok=>Hj tb σ ok (lk t tb.ty) (Aq σ x) (Aq σ i)
 | _=>none
def NI:AV→Bool
 | .ag _=>false
 | _=>true
def I5 (st:Bool) (fs:List AV) (v:AV):List Nat→Option (List AV)
 | []=>if st then match v with
   | .p (.agg u) d=>some (wP u d)
   | .ag l=>some l
   | _=>none
  else if NI v then some [v] else none
 | [k]=>if st&&NI v then some (fs.set k v) else none
 | k :: r=>if st then match fs[k]?,v with
   | some (.p t d),.p u x=>(Rk r t d ⟨u,x⟩).map fun y=>fs.set k (.p t y)
   | _,_=>none
  else none
abbrev CZ:=Option (Prop×St)
def EY (σ:St) (n:Nat) (et:TypeId) (st:Bool) (ty:Ty) (fs:List AV) (path:List Nat) (off:Nat) (v:AV):Option AV→Option (List AV)→CZ
 | some u,some fs'=>if Lr ty u=true∧B7 ty v=true∧NF fs path=some off∧fs'.map AV.cells=fs.map AV.cells then some (True,⟨σ.env,upd n (.box et st fs') σ.objs⟩) else none
 | _,_=>none
def Ct (σ:St) (n:Nat) (ty:Ty) (path:List Nat) (off:Nat) (v:AV):Option Obj→CZ
 | some (.box et st fs)=>EY σ n et st ty fs path off v (IT st fs path) (I5 st fs v path)
 | _=>none
def FB (σ:St) (n:Nat) (et:TypeId) (e:Ty) (i:Nat) (path:List Nat) (off:Nat) (ys:List e.den):Option e.den→CZ
 | some z=>if Jz path e=some off then some (True,⟨σ.env,upd n (.arr et e (ys.set i z)) σ.objs⟩) else none
 | none=>none
def Dw (σ:St) (n:Nat) (et:TypeId) (ty e:Ty) (i:Nat) (path:List Nat) (off:Nat):Option (List e.den)→Option ty.den→CZ
 | some ys,some w=>FB σ n et e i path off ys (Rk path e (ys.getD i e.dflt) ⟨ty,w⟩)
 | _,_=>none
/-! A nested array's row -/
def Lt (σ:St) (d n:Nat) (et iet:TypeId) (k e:Ty) (xs:List (k.den×List e.den)) (i bytes:Nat):Option (List e.den)→CZ
 | some ys=>if (lk d σ.objs).isNone=true then some (((xs.getD i (k.dflt,[])).2.length+ys.length)*bytes≤AO,
   ⟨(d,.sr d e 0 ((xs.getD i (k.dflt,[])).2.length+ys.length)) :: ER n [] σ.env,(d,.arr iet e ((xs.getD i (k.dflt,[])).2++ys)) :: (n,.nest et iet k e xs (some i)) :: Cg n [] σ.objs⟩) else none
 | none=>none
def QB (σ:St) (d n:Nat) (el:TypeId) (e':Ty) (i:Nat) (v:AV):Option TI→Option Obj→CZ
 | some ti,some (.nest et iet k e xs none)=>if e'=e∧iet=el∧F1 n=false then Lt σ d n et iet k e xs i ti.bytes (P0 σ e v) else none
 | _,_=>none
def NJ (tb:Tb) (σ:St) (d n:Nat) (e':Ty) (i:Nat) (v:AV):Option TI→CZ
 | some ⟨.slice e,_,el,_⟩=>if e'=e then QB σ d n el e i v (lk el tb.ty) (lk n σ.objs) else none
 | _=>none
def I6 (σ:St) (n m:Nat) (et iet:TypeId) (k e:Ty) (xs:List (k.den×List e.den)) (i hi:Nat):Option (List e.den)→CZ
 | some ys=>some (hi=ys.length,⟨ER n [m] σ.env,(n,.nest et iet k e (xs.set i ((xs.getD i (k.dflt,[])).1,ys)) none) :: Cg n [m] σ.objs⟩)
 | none=>none
def J8 (σ:St) (n m:Nat) (et iet:TypeId) (k e:Ty) (xs:List (k.den×List e.den)) (i hi:Nat):Option Obj→CZ
 | some (.arr jet e2 ys)=>if jet=iet∧F1 m=false∧F1 n=false then I6 σ n m et iet k e xs i hi (BD (.slice e) ⟨.slice e2,ys⟩) else none
 | _=>none
def I7 (σ:St) (d n m:Nat) (et iet:TypeId) (k e:Ty) (hi hi' bytes:Nat) (xs:List (k.den×List e.den)):Option (List (k.den×List e.den))→CZ
 | some ys=>some (hi=xs.length∧hi'=ys.length∧(xs.length+ys.length)*bytes≤AO,
   ⟨(d,.sr n (.agg (.prod k (.slice e))) 0 (xs.length+ys.length)) :: Bi [n,m] σ.env,(n,.nest et iet k e (xs++ys) none) :: Ak [n,m] [n,m] σ.objs⟩)
 | none=>none
def J9 (σ:St) (d n m:Nat) (et iet:TypeId) (k e:Ty) (hi hi' bytes:Nat) (xs:List (k.den×List e.den)):Option Obj→CZ
 | some (.nest _ iet' k' e' ys none)=>if iet'=iet∧n≠m∧F1 m=false then I7 σ d n m et iet k e hi hi' bytes xs (BD (.slice (.agg (.prod k (.slice e)))) ⟨.slice (.agg (.prod k' (.slice e'))),ys⟩) else none
 | _=>none
def QC (σ:St) (d n:Nat) (et iet:TypeId) (k e:Ty) (hi bytes:Nat) (xs:List (k.den×List e.den)):AV→CZ
 | .sr m _ 0 hi'=>J9 σ d n m et iet k e hi hi' bytes xs (lk m σ.objs)
 | _=>none
def NK (σ:St) (d m:Nat) (el iet:TypeId) (k e:Ty) (ys:List (k.den×List e.den)) (hi' bytes:Nat):CZ :=
 if (lk d σ.objs).isNone=true∧F1 m=false then some (hi'=ys.length∧ys.length*bytes≤AO,
  ⟨(d,.sr d (.agg (.prod k (.slice e))) 0 ys.length) :: Bi [m] σ.env,(d,.nest el iet k e ys none) :: Ak [m] [m] σ.objs⟩) else none
def NL (σ:St) (d m:Nat) (el:TypeId) (t:Ty) (hi':Nat):Option TI→Option Obj→CZ
 | some ti,some (.nest _ iet k e ys none)=>if t=.agg (.prod k (.slice e)) then NK σ d m el iet k e ys hi' ti.bytes else none
 | _,_=>none
def WU (tb:Tb) (σ:St) (d:Nat):AV→Option TI→CZ
 | .sr m _ 0 hi',some ⟨.slice t,_,el,_⟩=>NL σ d m el t hi' (lk el tb.ty) (lk m σ.objs)
 | _,_=>none
def KA (σ:St) (n m:Nat) (ty:Ty) (et iet:TypeId) (k e:Ty) (xs:List (k.den×List e.den)) (i hi:Nat) (path:List Nat) (off:Nat):CZ :=
 if ty=.slice e∧path=[1]∧off=k.size then J8 σ n m et iet k e xs i hi (lk m σ.objs) else none
def Cu (σ:St) (n:Nat) (ty e:Ty) (i:Nat) (path:List Nat) (off:Nat) (v:AV):Option Obj→CZ
 | some (.arr et e' xs)=>Dw σ n et ty e i path off (BD (.slice e) ⟨.slice e',xs⟩) (MN false σ ty v)
 | some (.nest et iet k e' xs (some j))=>match v with
  | .sr m E 0 hi=>if e=.agg (.prod k (.slice e'))∧i=j∧E=e' then KA σ n m ty et iet k e' xs i hi path off else none
  | _=>none
 | _=>none
def Gp (σ:St):Option TI→Option AV→Option AV→CZ
 | some ti,some (.bp n path off),some v=>Ct σ n ti.ty path off v (lk n σ.objs)
 | some ti,some (.ep n e i path off),some v=>Cu σ n ti.ty e i path off v (lk n σ.objs)
 | _,_,_=>none
def EZ (σ:St) (d n:Nat) (et:TypeId) (e:Ty) (hi:Nat) (bytes:Nat):Option (List e.den)→Option (List e.den)→CZ
 | some zs,some ys=>some ((hi+ys.length)*bytes≤AO,⟨(d,.sr n e 0 (hi+ys.length)) :: E7 n σ.env,upd n (.arr et e (zs.take hi++ys)) (BL n σ.objs)⟩)
 | _,_=>none
def CG (σ:St) (d n:Nat) (el:TypeId) (e:Ty) (hi:Nat) (v:AV) (ys:Option (List e.den)):Option TI→Option Obj→CZ
 | some ti,some (.arr et e' xs)=>if et=el then EZ σ d n et e hi ti.bytes (BD (.slice e) ⟨.slice e',xs⟩) ys else none
 | some ti,some (.nest et iet k e' xs none)=>if et=el∧e=.agg (.prod k (.slice e')) then QC σ d n et iet k e' hi ti.bytes xs v else none
 | _,_=>none
def Dx (tb:Tb) (σ:St) (d:Nat) (n:Nat) (e':Ty) (hi:Nat) (v:AV):Option TI→CZ
 | some ⟨.slice e,_,el,_⟩=>if e=e' then CG σ d n el e hi v (P0 σ e v) (lk el tb.ty) (lk n σ.objs) else none
 | _=>none
def Dm (tb:Tb) (σ:St) (d:Option Nat) (t u:TypeId):Option AV→Option AV→CZ
 | some (.sr n e 0 hi),some v=>match d with
  | some d=>if t=u∧F1 n=false then Dx tb σ d n e hi v (lk t tb.ty) else none
  | none=>none
 | some (.nin n e i _),some v=>match d with
  | some d=>if t=u then NJ tb σ d n e i v (lk t tb.ty) else none
  | none=>none
 | some (.raw (.slice none 0 0)),some v=>match d with
  | some d=>if t=u then WU tb σ d v (lk t tb.ty) else none
  | none=>none
 | _,_=>none
def Dy (tb:Tb) (σ:St) (d:Option Nat):Builtin→List Operand→List TypeId→CZ
 | .append,[x,y],[t,u]=>Dm tb σ d t u (Aq σ x) (Aq σ y)
 | _,_,_=>none
def DE (tb:Tb) (σ:St) (d:Option Nat) (xs:List Operand) (ts:List TypeId):Callee→CZ
 | .builtin b=>Dy tb σ d b xs ts
 | _=>none
def Fz (σ:St) (n:Nat) (kt vt:Ty) (l:List (kt.den×vt.den)):Option kt.den→Option vt.den→CZ
 | some k,some v=>if UI kt=true then some (True,⟨σ.env,upd n (.mapo kt vt (Qw kt vt k v l)) σ.objs⟩) else none
 | _,_=>none
def FC (tb:Tb) (σ:St) (n:Nat) (kid:Nat) (x y:AV):Option Obj→CZ
 | some (.mapo kt vt l)=>if (lk kid tb.ty).map TI.ty=some kt∧(lk kid tb.ty).map TI.el=some 0 then Fz σ n kt vt l (MN false σ kt x) (MN false σ vt y) else none
 | _=>none
def I8 (tb:Tb) (σ:St):Option TI→Option AV→Option AV→Option AV→CZ
 | some ⟨.ref 2,[(k,_)],_,_⟩,some (.mp n),some x,some y=>FC tb σ n k x y (lk n σ.objs)
 | _,_,_,_=>none
def DF (r:CZ):Option Nat→CZ
 | none=>r
 | some _=>none
def GU (tb:Tb) (σ:St) (d:Option Nat):Op→CZ
 | .store t x y=>DF (Gp σ (lk t tb.ty) (Aq σ x) (Aq σ y)) d
 | .mapUpdate t m x y=>DF (I8 tb σ (lk t tb.ty) (Aq σ m) (Aq σ x) (Aq σ y)) d
 | .call c=>DE tb σ d c.args.toList c.argTypes.toList c.callee
 | _=>none
def St.add (σ:St) (v:AV) (obs:List (Nat×Obj)):Option Nat→St
 | some d=>⟨(d,v) :: σ.env,obs++σ.objs⟩
 | none=>⟨σ.env,obs++σ.objs⟩
def K8:Option AV→List Nat
 | some v=>v.names
 | none=>[]
def Cp (σ:St):List (Nat×Operand)→List Nat
 | []=>[]
 | (_,x) :: r=>K8 (Aq σ x)++Cp σ r
def K9:Option AV→List Nat
 | some (.ag l)=>AV.namess l
 | _=>[]
def Ea (σ:St):List (Nat×Operand)→List Nat
 | []=>[]
 | (_,x) :: r=>K9 (Aq σ x)++Ea σ r
def CC (σ:St):Option AV→Option AV→List Nat
 | some (.ep n _ _ _ _),some v=>if CP (lk n σ.objs)=true then [] else v.names
 | _,_=>[]
def IX:Option AV→Option AV→Option AV→List Nat
 | some (.mp _),some v,some u=>v.names++u.names
 | _,_,_=>[]
def Ci (σ:St):Op→List Nat
 | .buildSlice _ _ parts=>Cp σ parts.toList
 | .build _ parts=>Ea σ parts.toList
 | .store _ x y=>CC σ (Aq σ x) (Aq σ y)
 | .mapUpdate _ m x y=>IX (Aq σ m) (Aq σ x) (Aq σ y)
 | _=>[]
def Cd:List Nat→St→St
 | [],σ=>σ
 | n :: r,σ=>Cd r (frz n σ)
def BR (obs:List (Nat×Obj)) (σ:St):Bool:=obs.all fun p=>(lk p.1 σ.objs).isNone
def Lu (tb:Tb) (σ:St) (o:Oper):BQ→CZ
 | some (vc,v,obs)=>if BR obs σ=true then some (vc,σ.add v obs o.dst) else none
 | none=>GU tb σ o.dst o.op
def QD (tb:Tb) (o:Oper) (σ:St):CZ:=Lu tb σ o (aq tb σ (o.dst.getD 0) o.op)
def Hk (tb:Tb) (o:Oper) (σ:St):CZ:=QD tb o (Cd (Ci σ o.op) σ)
def O2 (want:Bool):Option AV→Option Bool
 | some (.p .bool b)=>some (b==want)
 | _=>none
def I9 (σ:St) (want:Bool):Option Tmp→Option Bool
 | some g=>O2 want (lk g σ.env)
 | none=>none
def EF (ops:List Oper) (σ:St):Option (Nat×Bool)→Option Bool
 | none=>some true
 | some (j,want)=>I9 σ want ((ops[j]?).bind (·.dst))
def UG (vc:Prop):CZ→CZ
 | some (vc',σ)=>some (vc∧vc',σ)
 | none=>none
mutual
/-- Operations in the order of the text. -/
def Bk (tb:Tb) (ops:List Oper):List Oper→St→CZ
 | [],σ=>some (True,σ)
 | o :: r,σ=>evG tb ops o r σ (EF ops σ o.guard)
def evG (tb:Tb) (ops:List Oper) (o:Oper) (r:List Oper) (σ:St):Option Bool→CZ
 | some true=>evK tb ops r (Hk tb o σ)
 | some false=>Bk tb ops r (σ.add (.raw undef) [] o.dst)
 | none=>none
def evK (tb:Tb) (ops:List Oper) (r:List Oper):CZ→CZ
 | some (vc,σ)=>UG vc (Bk tb ops r σ)
 | none=>none
end
end
/- What an abstract state says of a frame and a world; that it is kept where nothing that it speaks of turns. -/
section
open Go Go.RowKit
theorem BG {w:World} {b:Nat} {o:_root_.Go.Obj} (h:w.heap[b]?=some o):b<w.heap.size:=by
 rcases Nat.lt_or_ge b w.heap.size with h'|h'
 ·exact h'
 ·simp[Array.getElem?_eq_none h']at h
def blk:Value→Option Nat
 | .slice (some a) _ _=>some a.block
 | .pointer (some a)=>some a.block
 | .map (some b)=>some b
 | _=>none
def bk (v:Value) (b:Nat):Prop:=blk v=some b∨∃vs:Array Value,v=.tuple vs∧∃x∈vs.toList,blk x=some b
theorem KB {a:Option Addr} {m c b:Nat}:bk (.slice a m c) b↔blk (.slice a m c)=some b:=by
 constructor
 ·intro h
  rcases h with h|⟨_,h,_⟩
  ·exact h
  ·cases h
 ·exact .inl
def plc:Value→Value
 | .tuple vs=>vs.getD 0 undef
 | v=>v
def Cq (loc:Value) (sz lo hi:Nat) (v:Value):Prop :=
 ∃(a:Option Addr) (m c:Nat),loc=.slice a m c∧lo≤hi∧hi≤m∧∃(a':Option Addr) (c':Nat),v=.slice a' (hi-lo) c'∧hi-lo≤c'∧(lo=0→a'=a∧c'=c)∧(lo<hi→a'=a.map (·.add (lo*sz)))
structure Vw where
 w:World
 /-- blocks that no pure value looks at -/
 O:Nat→Prop
 /-- names that live -/
 L:Nat→Prop
 /-- where they lie -/
 ρ:Nat→Value
def Ro (V:Vw):AV→Value→Prop
 | .p t d,v=>Bh V.w V.O t v d
 | .raw u,v=>v=u
 | .sr n e lo hi,v=>V.L n∧Cq (plc (V.ρ n)) e.size lo hi v
 | .ep n e i _ off,v=>V.L n∧∃g m c:Nat,plc (V.ρ n)=.slice (some ⟨g,0,none⟩) m c∧i<m∧v=.pointer (some ⟨g,i*e.size+off,none⟩)
 | .nin n _ i len,v=>V.L n∧∃(vs:Array Value) (a:Option Addr) (c:Nat),V.ρ n=.tuple vs∧vs[i+1]?=some v∧v=.slice a len c
 | .ip t d,v=>∃(ad:Addr) (cs:List Value),v=.pointer (some ad)∧¬V.O ad.block∧(∀(j:Nat) (u:Value),cs[j]?=some u→V.w.cell? (ad.add j)=some u)∧Bj V.w V.O t cs d
 | .bp n _ off,v=>V.L n∧∃b:Nat,V.ρ n=.pointer (some ⟨b,0,none⟩)∧v=.pointer (some ⟨b,off,none⟩)
 | .fn f,v=>v=.func (.func f) #[] #[]
 | .clo f ns,v=>v=.func (.func f) #[] (ns.map V.ρ).toArray∧∀n∈ns,V.L n∧∃b:Nat,V.ρ n=.pointer (some ⟨b,0,none⟩)
 | .mp n,v=>V.L n∧∃b:Nat,V.ρ n=.map (some b)∧v=.map (some b)
 | .yl n,v=>V.L n∧∃b:Nat,V.ρ n=.pointer (some ⟨b,0,none⟩)∧v=.func (.yield b) #[] #[]
 | .top,_=>True
 | .ag _,_=>False
 | .tup _,_=>False
def Lv (V:Vw):AV→List Value→Prop
 | .p t d,cs=>Bj V.w V.O t cs d
 | av,cs=>∃v,cs=[v]∧v.oneCell'=true∧Ro V av v
def Cy (V:Vw):List AV→List Value→Prop
 | [],cs=>cs=[]
 | x :: r,cs=>∃c1 c2:List Value,cs=c1++c2∧Lv V x c1∧Cy V r c2
def QE (V:Vw):AV→Value→Prop
 | .ag l,v=>∃cs:List Value,v=.agg cs.toArray∧Cy V l cs
 | x,v=>Ro V x v
def IY (V:Vw):List AV→List Value→Prop
 | [],vs=>vs=[]
 | x :: r,vs=>∃(v:Value) (l:List Value),vs=v :: l∧QE V x v∧IY V r l
theorem QE.of1 {V:Vw} {x:AV} {v:Value} (h:Ro V x v):QE V x v:=by
 cases x
 case ag l=>exact h.elim
 all_goals exact h
def Br (V:Vw):AV→Value→Prop
 | .ag l,v=>∃cs:List Value,v=.agg cs.toArray∧Cy V l cs
 | .tup l,v=>∃vs:List Value,v=.tuple vs.toArray∧IY V l vs
 | av,v=>Ro V av v
theorem qH {V:Vw} {x:AV} {v:Value} (h:QE V x v):Br V x v:=by
 cases x
 case tup l=>exact(show False from h).elim
 all_goals exact h
def C0 (w:World) (O:Nat→Prop) (e:Ty) (cells:List Value) (xs:List e.den):Prop :=
 ∀(i:Nat) (x:e.den),xs[i]?=some x→∃es:List Value,es.length=e.size∧(∀(j:Nat) (u:Value),es[j]?=some u→cells[i*e.size+j]?=some u)∧Bj w O e es x
def Lp (w:World) (O:Nat→Prop) (k v:Ty):List MapEntry→List (k.den×v.den)→Prop
 | [],[]=>True
 | e :: es,x :: xs=>Bh w O k e.key x.1∧Bh w O v e.val x.2∧Lp w O k v es xs
 | _,_=>False
def WV (es:Array MapEntry) (clock:Nat):Prop:=(es.toList.map (·.born)).Nodup∧∀b∈es.toList.map (·.born),b<clock
def UJ (V:Vw) (et:TypeId) (e:Ty) (xs:List e.den) (loc:Value):Prop:=xs.length≤AO∧∃cells:List Value,V.w.ownsRow 0 et e.size loc xs.length cells∧C0 V.w V.O e cells xs
def WW (V:Vw) (iet:TypeId) (k e:Ty) (hole:Bool) (cells:List Value) (i:Nat) (x:k.den×List e.den) (u:Value):Prop :=
 ∃(c1:List Value) (v:Value),(∀(j:Nat) (z:Value),(c1++[v])[j]?=some z→cells[i*(k.size+1)+j]?=some z)∧Bj V.w V.O k c1 x.1 ∧
  ((hole=true∧u=.slice none 0 0)∨(hole=false∧v=u∧UJ V iet e x.2 u))
structure Jh (V:Vw) (et iet:TypeId) (k e:Ty) (xs:List (k.den×List e.den)) (h:Option Nat) (o:Value) (ins:List Value) (cells:List Value):Prop where
 max:xs.length≤AO
 len:ins.length=xs.length
 own:V.w.ownsRow 0 et (k.size+1) o xs.length cells
 row:∀(i:Nat) (x:k.den×List e.den) (u:Value),xs[i]?=some x→ins[i]?=some u→WW V iet k e (h==some i) cells i x u
 dist:∀(i j b:Nat) (u v:Value),ins[i]?=some u→ins[j]?=some v→blk u=some b→blk v=some b→i=j
 out:∀(i b:Nat) (u:Value),ins[i]?=some u→blk u=some b→blk o≠some b
def Shp (loc o:Value) (ins:List Value):Prop:=loc=.tuple (o :: ins).toArray∨(loc=.slice none 0 0∧o=.slice none 0 0∧ins=[])
def A4u (V:Vw) (k v:Ty) (l:List (k.den×v.den)) (left:List Nat) (cur:Option Nat) (r:Nat):Prop :=
 ∃(b:Nat) (ms:Array MapEntry) (clock since:Nat) (seen:Array Nat),V.w.heap[r]?=some (.mapIter (some b) since seen clock)∧¬V.O b∧V.w.heap[b]?=some (.map ms clock)∧Lp V.w V.O k v ms.toList l∧WV ms clock ∧
  (∀s∈ms.toList.map (·.born),s<since)∧since≤clock∧left.Nodup∧(∀i,i∈left↔∃e,ms[i]?=some e∧e.born∉seen)∧(∀i,cur=some i→∃e,ms[i]?=some e∧seen.back?=some e.born)
def Av (V:Vw):Obj→Value→Prop
 | .arr et e xs,loc=>UJ V et e xs loc
 | .nest et iet k e xs h,loc=>∃(o:Value) (ins cells:List Value),Shp loc o ins∧Jh V et iet k e xs h o ins cells
 | .box et st fs,loc=>(st=false→fs.length=1)∧∃(b:Nat) (cs:List Value),loc=.pointer (some ⟨b,0,none⟩)∧V.w.heap[b]?=some (.cells cs.toArray et (0,0))∧Cy V fs cs
 | .mapo k v l,loc=>∃(b:Nat) (es:Array MapEntry) (clock:Nat),loc=.map (some b)∧V.w.heap[b]?=some (.map es clock)∧Lp V.w V.O k v es.toList l∧WV es clock
 | .frame tm fs,loc=>loc=.pointer none∧∀s x,lk s fs=some x→Br V x (tm.getD s undef)
 | .itr k v l left cur,loc=>∃r:Nat,loc=.pointer (some ⟨r,0,none⟩)∧A4u V k v l left cur r
 | .loop L,loc=>∃b:Nat,loc=.pointer (some ⟨b,0,none⟩)∧V.w.heap[b]?=some (.loop L)
 | .dfr,loc=>∃b:Nat,loc=.pointer (some ⟨b,0,none⟩)∧V.w.heap[b]?=some (.deferred (some []))
structure Frm (K:Nat→Prop) (w0 w:World):Prop where
 os:w.os=w0.os
 tape:w.tape=w0.tape
 output:w.output=w0.output
 size:w0.heap.size≤w.heap.size
 block:∀k,K k→w.heap[k]?=w0.heap[k]?
def GJ (σ:St) (n:Nat):Prop:=∃o,lk n σ.objs=some o
def own (O0:Nat→Prop) (σ:St) (ρ:Nat→Value) (b:Nat):Prop:=O0 b∨∃n,GJ σ n∧bk (ρ n) b
def vw (w:World) (O0:Nat→Prop) (σ:St) (ρ:Nat→Value):Vw:=⟨w,own O0 σ ρ,GJ σ,ρ⟩
def A1f:Value→Bool
 | .slice _ _ _=>false
 | .tuple _=>false
 | _=>true
structure Fp where
 ds:List Deferred:=[]
 pin:List (Nat×Value):=[]
structure Bb (w0:World) (K O0:Nat→Prop) (nt:Nat) (ds:Fp) (σ:St) (ρ:Nat→Value) (a:Act) (w:World):Prop where
 frm:Frm K w0 w
 nt:a.tmps.size=nt
 defers:a.defers=ds.ds
 pin:∀p∈ds.pin,GJ σ p.1∧ρ p.1=p.2∧(A1f p.2=true∨F1 p.1=true)
 objs:∀n o,lk n σ.objs=some o→Av (vw w O0 σ ρ) o (ρ n)
 free:∀n b,GJ σ n→bk (ρ n) b→¬K b∧¬O0 b
 dist:∀n m b,GJ σ n→GJ σ m→bk (ρ n) b→bk (ρ m) b→n=m
 env:∀s v,lk s σ.env=some v→Br (vw w O0 σ ρ) v (a.tmps.getD s undef)
/-! ### Kept -/
structure B8 (V V':Vw):Prop where
 O:∀b,b<V.w.heap.size→¬V.O b→¬V'.O b
 L:∀n,V.L n→V'.L n
 ρ:∀n,V.L n→V'.ρ n=V.ρ n
 heap:∀b,b<V.w.heap.size→¬V.O b→V'.w.heap[b]?=V.w.heap[b]?
theorem Ro.keeps {V V':Vw} (h:B8 V V'):∀ {x:AV} {v:Value},Ro V x v→Ro V' x v
 | .p _ _,_,hx=>Bh.mono h.O h.heap hx
 | .raw _,_,hx=>hx
 | .sr n e lo hi,_,⟨hL,hs⟩=>⟨h.L n hL,by rw[h.ρ n hL];exact hs⟩
 | .ep n e i _ off,_,⟨hL,hs⟩=>⟨h.L n hL,by rw[h.ρ n hL];exact hs⟩
 | .nin n _ i len,_,⟨hL,hs⟩=>⟨h.L n hL,by rw[h.ρ n hL];exact hs⟩
 | .ip t d,_,⟨ad,cs,hv,hO,hc,hr⟩=>by
  have hlt:ad.block<V.w.heap.size:=by
   have hp:=t.size_pos
   have hl:=hr.length
   have:=block_lt_of_cell (hc 0 (cs[0]'(by omega)) (List.getElem?_eq_getElem (by omega)))
   rwa [B0]at this
  refine⟨ad,cs,hv,h.O _ hlt hO,fun j u hj=>?_,Bj.mono h.O h.heap hr⟩
  rw[World.cell?_of_block (w:=V.w) (w':=V'.w)]
  ·exact hc j u hj
  ·rw[B0];exact h.heap _ hlt hO
 | .bp n _ off,_,⟨hL,hs⟩=>⟨h.L n hL,by rw[h.ρ n hL];exact hs⟩
 | .fn _,_,hx=>hx
 | .clo f ns,_,⟨hv,hs⟩=>by
  refine⟨?_,fun n hn=>⟨h.L n (hs n hn).1,by rw[h.ρ n (hs n hn).1];exact(hs n hn).2⟩⟩
  rw[hv]
  congr 2
  exact List.map_congr_left fun n hn=>(h.ρ n (hs n hn).1).symm
 | .mp n,_,⟨hL,hs⟩=>⟨h.L n hL,by rw[h.ρ n hL];exact hs⟩
 | .yl n,_,⟨hL,hs⟩=>⟨h.L n hL,by rw[h.ρ n hL];exact hs⟩
 | .top,_,_=>trivial
 | .ag _,_,hx=>hx
 | .tup _,_,hx=>hx
theorem Lv.keeps {V V':Vw} (h:B8 V V') {x:AV} {cs:List Value} (hx:Lv V x cs):Lv V' x cs:=by
 cases x
 case p t d=>exact(Bj.mono h.O h.heap hx:Bj V'.w V'.O t cs d)
 all_goals
  obtain⟨v,h1,h2,h3⟩:=hx
  exact⟨v,h1,h2,h3.keeps h⟩
theorem Cy.keeps {V V':Vw} (h:B8 V V'):∀ {l:List AV} {cs:List Value},Cy V l cs→Cy V' l cs
 | [],_,hx=>hx
 | _ :: _,_,⟨c1,c2,e,h1,h2⟩=>⟨c1,c2,e,h1.keeps h,h2.keeps h⟩
theorem QE.keeps {V V':Vw} (h:B8 V V') {x:AV} {v:Value} (hx:QE V x v):QE V' x v:=by
 cases x
 case ag l=>obtain⟨cs,h1,h2⟩:=hx;exact⟨cs,h1,h2.keeps h⟩
 all_goals exact QE.of1 (Ro.keeps h hx)
theorem IY.keeps {V V':Vw} (h:B8 V V'):∀ {l:List AV} {vs:List Value},IY V l vs→IY V' l vs
 | [],_,hx=>hx
 | _ :: _,_,⟨v,l,e,h1,h2⟩=>⟨v,l,e,h1.keeps h,h2.keeps h⟩
theorem Br.keeps {V V':Vw} (h:B8 V V') {x:AV} {v:Value} (hx:Br V x v):Br V' x v:=by
 cases x
 case ag l=>obtain⟨cs,h1,h2⟩:=hx;exact⟨cs,h1,h2.keeps h⟩
 case tup l=>obtain⟨cs,h1,h2⟩:=hx;exact⟨cs,h1,h2.keeps h⟩
 all_goals
  simp only[Br]at hx ⊢
  exact Ro.keeps h hx
theorem C0.keeps {V V':Vw} (h:B8 V V') {e:Ty} {cells:List Value} {xs:List e.den} (hx:C0 V.w V.O e cells xs):C0 V'.w V'.O e cells xs:=fun i x hi =>
 let ⟨es,h1,h2,h3⟩:=hx i x hi
 ⟨es,h1,h2,Bj.mono h.O h.heap h3⟩
theorem Lp.mono {w w':World} {O O':Nat→Prop} (hO:∀b,b<w.heap.size→¬O b→¬O' b) (hw:∀b,b<w.heap.size→¬O b→w'.heap[b]?=w.heap[b]?) {k v:Ty} :
  ∀ {es:List MapEntry} {l:List (k.den×v.den)},Lp w O k v es l→Lp w' O' k v es l
 | [],[],h=>h
 | [],_ :: _,h=>h.elim
 | _ :: _,[],h=>h.elim
 | _ :: _,_ :: _,⟨h1,h2,h3⟩=>⟨h1.mono hO hw,h2.mono hO hw,h3.mono hO hw⟩
theorem H9 {w w':World} {et:TypeId} {sz n:Nat} {loc:Value} {cells:List Value} (hb:∀b,blk loc=some b→w'.heap[b]?=w.heap[b]?) (h:w.ownsRow 0 et sz loc n cells):w'.ownsRow 0 et sz loc n cells:=by
 obtain⟨h1,h2⟩:=h
 refine⟨h1,?_⟩
 rcases h2 with h2|⟨g,cap,cur,rfl,r1,r2,r3⟩
 ·exact .inl h2
 ·exact .inr ⟨g,cap,cur,rfl,r1,(hb g rfl).trans r2,r3⟩
theorem UJ.keeps {V V':Vw} (h:B8 V V') {et:TypeId} {e:Ty} {xs:List e.den} {loc:Value} (hb:∀b,blk loc=some b→V'.w.heap[b]?=V.w.heap[b]?) (hx:UJ V et e xs loc):UJ V' et e xs loc:=by
 obtain⟨hm,cells,h1,he⟩:=hx
 exact⟨hm,cells,H9 hb h1,he.keeps h⟩
theorem WW.keeps {V V':Vw} (h:B8 V V') {iet:TypeId} {k e:Ty} {hole:Bool} {cells:List Value} {i:Nat} {x:k.den×List e.den} {u:Value} (hb:∀b,blk u=some b→V'.w.heap[b]?=V.w.heap[b]?) (hx:WW V iet k e hole cells i x u):WW V' iet k e hole cells i x u:=by
 obtain⟨c1,v,h1,h2,h3⟩:=hx
 refine⟨c1,v,h1,Bj.mono h.O h.heap h2,?_⟩
 rcases h3 with h3|⟨h3,h4,h5⟩
 ·exact .inl h3
 ·exact .inr ⟨h3,h4,h5.keeps h hb⟩
theorem A1 {o:Value} {ins:List Value} {b:Nat}:bk (.tuple (o :: ins).toArray) b↔blk o=some b∨∃(i:Nat) (u:Value),ins[i]?=some u∧blk u=some b:=by
 constructor
 ·rintro (h|⟨vs,h,x,hx,hb⟩)
  ·cases h
  ·injection h with h
   subst h
   simp only[List.mem_cons]at hx
   rcases hx with rfl|hx
   ·exact .inl hb
   ·obtain⟨i,hi⟩:=List.getElem?_of_mem hx
    exact .inr ⟨i,x,hi,hb⟩
 ·rintro (h|⟨i,u,hi,hb⟩)
  ·exact .inr ⟨_,rfl,o,by simp,h⟩
  ·exact .inr ⟨_,rfl,u,by simp[List.mem_of_getElem? hi],hb⟩
theorem Shp.bk {loc o:Value} {ins:List Value} {b:Nat} (h:Shp loc o ins):bk loc b↔bk (.tuple (o :: ins).toArray) b:=by
 rcases h with rfl|⟨rfl,rfl,rfl⟩
 ·exact Iff.rfl
 ·rw[A1,KB]
  simp[blk]
theorem Shp.plc {loc o:Value} {ins:List Value} (h:Shp loc o ins):plc loc=o:=by
 rcases h with rfl|⟨rfl,rfl,rfl⟩<;>rfl
theorem Shp.tup {loc o:Value} {ins:List Value} {vs:Array Value} (h:Shp loc o ins) (hv:loc=.tuple vs):vs=(o :: ins).toArray:=by
 subst hv
 rcases h with h|⟨h,_⟩
 ·injection h
 ·cases h
theorem Jh.keeps {V V':Vw} (h:B8 V V') {et iet:TypeId} {k e:Ty} {xs:List (k.den×List e.den)} {hl:Option Nat} {o:Value} {ins cells:List Value} (hb:∀b,bk (.tuple (o :: ins).toArray) b→V'.w.heap[b]?=V.w.heap[b]?) (hx:Jh V et iet k e xs hl o ins cells):Jh V' et iet k e xs hl o ins cells :=
 ⟨hx.max,hx.len,H9 (fun b h1=>hb b (A1.2 (.inl h1))) hx.own,fun i x u h1 h2=>(hx.row i x u h1 h2).keeps h (fun b h3=>hb b (A1.2 (.inr ⟨i,u,h2,h3⟩))),hx.dist,hx.out⟩
theorem Rp {w:World} {et:TypeId} {sz n b:Nat} {loc:Value} {cells:List Value} (h:w.ownsRow 0 et sz loc n cells) (hb:blk loc=some b):b<w.heap.size:=by
 rcases h.2 with ⟨rfl,_⟩|⟨g,cap,cur,rfl,r1,r2,r3⟩
 ·simp[blk]at hb
 ·simp[blk]at hb;subst hb;exact BG r2
theorem Jh.block_lt {V:Vw} {et iet:TypeId} {k e:Ty} {xs:List (k.den×List e.den)} {hl:Option Nat} {o:Value} {ins cells:List Value} (hx:Jh V et iet k e xs hl o ins cells) {b:Nat} (hb:bk (.tuple (o :: ins).toArray) b):b<V.w.heap.size:=by
 rcases A1.1 hb with h1|⟨i,u,h1,h2⟩
 ·exact Rp hx.own h1
 ·have hi:i<xs.length:=by have:=(List.getElem?_eq_some_iff.1 h1).1;rw[hx.len]at this;exact this
  obtain⟨c1,v,_,_,h3⟩:=hx.row i xs[i] u (List.getElem?_eq_getElem hi) h1
  rcases h3 with ⟨_,h3⟩|⟨_,_,_,ic,h3,_⟩
  ·rw[h3]at h2;simp[blk]at h2
  ·exact Rp h3 h2
theorem Av.keeps {V V':Vw} (h:B8 V V') {o:Obj} {loc:Value} (hb:∀b,bk loc b→V'.w.heap[b]?=V.w.heap[b]?) (hx:Av V o loc):Av V' o loc:=by
 cases o with
 | arr et e xs =>
  obtain⟨hm,cells,⟨h1,h2⟩,he⟩:=hx
  refine⟨hm,cells,⟨h1,?_⟩,he.keeps h⟩
  rcases h2 with h2|⟨g,cap,cur,rfl,r1,r2,r3⟩
  ·exact .inl h2
  ·exact .inr ⟨g,cap,cur,rfl,r1,(hb g (.inl rfl)).trans r2,r3⟩
 | box et st fs =>
  obtain⟨h0,b,cs,rfl,h1,h2⟩:=hx
  exact⟨h0,b,cs,rfl,(hb b (.inl rfl)).trans h1,h2.keeps h⟩
 | nest et iet k e xs hl =>
  obtain⟨o,ins,cells,hs,h1⟩:=hx
  exact⟨o,ins,cells,hs,h1.keeps h fun b hb'=>hb b (hs.bk.2 hb')⟩
 | mapo k v l =>
  obtain⟨b,es,cl,rfl,h1,h2,h3⟩:=hx
  exact⟨b,es,cl,rfl,(hb b (.inl rfl)).trans h1,h2.mono h.O h.heap,h3⟩
 | frame tm fs =>
  obtain⟨h0,h1⟩:=hx
  exact⟨h0,fun s x hs=>(h1 s x hs).keeps h⟩
 | itr k v l left cur =>
  obtain⟨r,rfl,b,ms,cl,si,se,h1,h2,h3,h4,h5,h6,h7,h8,h9,h10⟩:=hx
  have hlt:=BG h3
  exact⟨r,rfl,b,ms,cl,si,se,(hb r (.inl rfl)).trans h1,h.O b hlt h2,(h.heap b hlt h2).trans h3,h4.mono h.O h.heap,h5,h6,h7,h8,h9,h10⟩
 | loop L =>
  obtain⟨b,rfl,h1⟩:=hx
  exact⟨b,rfl,(hb b (.inl rfl)).trans h1⟩
 | dfr =>
  obtain⟨b,rfl,h1⟩:=hx
  exact⟨b,rfl,(hb b (.inl rfl)).trans h1⟩
theorem Av.block_lt {V:Vw} {o:Obj} {loc:Value} (hx:Av V o loc) {b:Nat} (hb:bk loc b):b<V.w.heap.size:=by
 cases o with
 | arr et e xs =>
  obtain⟨hm,cells,⟨h1,h2⟩,he⟩:=hx
  rcases h2 with ⟨rfl,_⟩|⟨g,cap,cur,rfl,r1,r2,r3⟩
  ·simp[bk,blk]at hb
  ·simp[bk,blk]at hb;subst hb;exact BG r2
 | box et st fs =>
  obtain⟨h0,b',cs,rfl,h1,h2⟩:=hx
  simp[bk,blk]at hb;subst hb;exact BG h1
 | nest et iet k e xs hl =>
  obtain⟨o,ins,cells,hs,h1⟩:=hx
  exact h1.block_lt (hs.bk.1 hb)
 | mapo k v l =>
  obtain⟨b',es,cl,rfl,h1,h2⟩:=hx
  simp[bk,blk]at hb;subst hb;exact BG h1
 | frame tm fs =>
  obtain⟨rfl,h1⟩:=hx
  simp[bk,blk]at hb
 | itr k v l left cur =>
  obtain⟨r,rfl,b',ms,cl,si,se,h1,-⟩:=hx
  simp[bk,blk]at hb;subst hb;exact BG h1
 | loop L =>
  obtain⟨b',rfl,h1⟩:=hx
  simp[bk,blk]at hb;subst hb;exact BG h1
 | dfr =>
  obtain⟨b',rfl,h1⟩:=hx
  simp[bk,blk]at hb;subst hb;exact BG h1
/-! ### Lookups -/
section
variable {α:Type}
theorem Aw (k:Nat):∀(l r:List (Nat×α)),lk k (l++r)=(lk k l).or (lk k r)
 | [],_=>by simp[lk]
 | (j,v) :: l,r=>by
  simp only[List.cons_append,lk]
  split
  ·simp
  ·exact Aw k l r
theorem Fd (k n:Nat) (u:α):∀l:List (Nat×α),lk k (upd n u l)=if k=n then (lk n l).map (fun _=>u) else lk k l
 | []=>by simp[lk,upd]
 | (j,v) :: l=>by
  simp only[upd]
  by_cases hn:n=j
  ·subst hn
   by_cases hk:k=n
   ·subst hk;simp[lk]
   ·simp[lk,hk,Fd k n u l]
  ·simp only[if_neg hn,lk]
   by_cases hk:k=n
   ·subst hk;simp[hn,Fd k k u l]
   ·by_cases hkj:k=j
    ·subst hkj;simp[hk]
    ·simp[hk,hkj,Fd k n u l]
theorem O3 (k n:Nat):∀l:List (Nat×α),lk k (UF n l)=if k=n then none else lk k l
 | []=>by simp[lk,UF]
 | (j,v) :: l=>by
  simp only[UF]
  by_cases hn:n=j
  ·subst hn
   rw[if_pos rfl,O3 k n l]
   by_cases hk:k=n<;>simp[lk,hk]
  ·rw[if_neg hn]
   simp only[lk,O3 k n l]
   by_cases hk:k=n
   ·subst hk;simp[hn]
   ·simp[hk]
end
end
/- A step that only adds: the abstract state holds behind it. -/
section
open Go Go.RowKit
def Df (σ:St) (obs:List (Nat×Obj)):St:=⟨σ.env,obs++σ.objs⟩
structure QS (w:World) (O0:Nat→Prop) (σ:St) (ρ:Nat→Value) (v:AV) (obs:List (Nat×Obj)) (u:Value) (ρ':Nat→Value) (w':World):Prop where
 below:Below w.heap.size w w'
 rho:∀n,lk n obs=none→ρ' n=ρ n
 av:Br (vw w' O0 (Df σ obs) ρ') v u
 obj:∀n o,lk n obs=some o→Av (vw w' O0 (Df σ obs) ρ') o (ρ' n)
 new:∀n o b,lk n obs=some o→bk (ρ' n) b→w.heap.size≤b
 dist:∀n m o o' b,lk n obs=some o→lk m obs=some o'→bk (ρ' n) b→bk (ρ' m) b→n=m
theorem FD {α:Type} {k:Nat} {v:α}:∀ {l:List (Nat×α)},lk k l=some v→(k,v)∈l
 | (j,u) :: l,h=>by
  simp only[lk]at h
  split at h
  ·rename_i e;cases h;subst e;simp
  ·exact List.mem_cons_of_mem _ (FD h)
theorem MP {obs:List (Nat×Obj)} {σ:St} (h:BR obs σ=true) {n:Nat} {o:Obj} (hn:lk n obs=some o):lk n σ.objs=none:=by
 simp only[BR,List.all_eq_true]at h
 simpa using h _ (FD hn)
theorem KC {σ:St} {obs:List (Nat×Obj)} {n:Nat} (h:GJ (Df σ obs) n):(∃o,lk n obs=some o)∨(lk n obs=none∧GJ σ n):=by
 obtain⟨o,h⟩:=h
 simp only[Df,Aw]at h
 cases h':lk n obs with
 | some o'=>exact .inl ⟨o',rfl⟩
 | none=>rw[h']at h;exact .inr ⟨rfl,o,by simpa using h⟩
theorem WX {σ:St} {obs:List (Nat×Obj)} (hf:BR obs σ=true) {n:Nat} (h:GJ σ n):GJ (Df σ obs) n∧lk n obs=none:=by
 obtain⟨o,h⟩:=h
 have hn:lk n obs=none:=by
  cases h':lk n obs with
  | none=>rfl
  | some o'=>have:=MP hf h';rw[this]at h;cases h
 exact⟨⟨o,by simp[Df,Aw,hn,h]⟩,hn⟩
theorem Gq {w w':World} {O0:Nat→Prop} {σ:St} {ρ ρ':Nat→Value} {obs:List (Nat×Obj)} (hf:BR obs σ=true)
  (hb:Below w.heap.size w w') (hr:∀n,lk n obs=none→ρ' n=ρ n) (hn:∀n o b,lk n obs=some o→bk (ρ' n) b→w.heap.size≤b) :
  B8 (vw w O0 σ ρ) (vw w' O0 (Df σ obs) ρ') where
 O:=by
  intro b hlt hO hO'
  rcases hO' with h0|⟨n,hl,hb'⟩
  ·exact hO (.inl h0)
  ·rcases KC hl with ⟨o,ho⟩|⟨hno,hl'⟩
   ·have:=hn n o b ho hb'
    have hlt:b<w.heap.size:=hlt
    omega
   ·exact hO (.inr ⟨n,hl',by rw[←hr n hno];exact hb'⟩)
 L:=fun n h=>(WX hf h).1
 ρ:=fun n h=>hr n (WX hf h).2
 heap:=fun b hlt _=>hb.block b hlt
theorem QS.keeps {w w':World} {O0:Nat→Prop} {σ:St} {ρ ρ':Nat→Value} {v:AV} {u:Value} {obs:List (Nat×Obj)} (hf:BR obs σ=true) (h:QS w O0 σ ρ v obs u ρ' w') :
  B8 (vw w O0 σ ρ) (vw w' O0 (Df σ obs) ρ'):=Gq hf h.below h.rho h.new
theorem Frm.below {K:Nat→Prop} {w0 w w':World} (h:Frm K w0 w) (hb:Below w.heap.size w w') (hK:∀b,K b→b<w0.heap.size):Frm K w0 w' where
 os:=hb.os.trans h.os
 tape:=hb.tape.trans h.tape
 output:=hb.output.trans h.output
 size:=Nat.le_trans h.size hb.size
 block:=fun k hk=>(hb.block k (Nat.lt_of_lt_of_le (hK k hk) h.size)).trans (h.block k hk)
theorem KD (a:Act) (dst:Option Tmp) (u:Value):(a.put dst u).tmps.size=a.tmps.size:=by
 cases dst<;>simp[Act.put]
theorem Gr (a:Act) (dst:Option Tmp) (u:Value):(a.put dst u).defers=a.defers:=by cases dst<;>rfl
theorem JA (a:Act) (d:Nat) (u:Value) (s:Nat) (hd:d<a.tmps.size):(a.put (some d) u).tmps.getD s undef=if s=d then u else a.tmps.getD s undef:=by
 by_cases h:s=d
 ·subst h;simp[Act.put,hd]
 ·have:¬d=s:=fun e=>h e.symm
  simp[Act.put,h,this,Array.getElem?_setIfInBounds]
theorem Bb.add {w0:World} {K O0:Nat→Prop} {nt:Nat} {ds:Fp} {σ:St} {ρ:Nat→Value} {a:Act} {w:World} (h:Bb w0 K O0 nt ds σ ρ a w)
  (hK:∀b,K b→b<w0.heap.size) (hO:∀b,O0 b→b<w0.heap.size) {dst:Option Nat} (hd:∀d,dst=some d→d<nt)
  {v:AV} {obs:List (Nat×Obj)} {u:Value} {ρ':Nat→Value} {w':World} (hf:BR obs σ=true) (hq:QS w O0 σ ρ v obs u ρ' w') :
  Bb w0 K O0 nt ds (σ.add v obs dst) ρ' (a.put dst u) w':=by
 have hk:=hq.keeps hf
 have hobjs:(σ.add v obs dst).objs=obs++σ.objs:=by cases dst<;>rfl
 have hliv:∀n,GJ (σ.add v obs dst) n↔GJ (Df σ obs) n:=fun n=>by simp[GJ,hobjs,Df]
 have hvw:vw w' O0 (σ.add v obs dst) ρ'=vw w' O0 (Df σ obs) ρ':=by
  have hl:GJ (σ.add v obs dst)=GJ (Df σ obs):=funext fun n=>propext (hliv n)
  have ho:own O0 (σ.add v obs dst) ρ'=own O0 (Df σ obs) ρ':=by
   funext b
   simp only[own,hl]
  simp only[vw,hl,ho]
 refine⟨h.frm.below hq.below hK,by rw[KD];exact h.nt,by rw[Gr];exact h.defers,fun p hp=>?_,?_,?_,?_,?_⟩
 ·obtain⟨h1,h2,h3⟩:=h.pin p hp
  have h4:=WX hf h1
  exact⟨(hliv p.1).2 h4.1,(hq.rho _ h4.2).trans h2,h3⟩
 ·intro n o ho
  rw[hobjs,Aw]at ho
  rw[hvw]
  cases h':lk n obs with
  | some o'=>rw[h']at ho;cases ho;exact hq.obj n _ h'
  | none =>
   rw[h']at ho
   have ho':lk n σ.objs=some o:=by simpa using ho
   rw[hq.rho n h']
   refine(h.objs n o ho').keeps hk fun b hb=>?_
   exact hq.below.block b ((h.objs n o ho').block_lt hb)
 ·intro n b hl hb
  rcases KC ((hliv n).1 hl) with ⟨o,ho⟩|⟨hno,hl'⟩
  ·have hge:=hq.new n o b ho hb
   have:=h.frm.size
   exact⟨fun hk'=>by have:=hK b hk';omega,fun hk'=>by have:=hO b hk';omega⟩
  ·rw[hq.rho n hno]at hb
   exact h.free n b hl' hb
 ·intro n m b hl hl' hb hb'
  rcases KC ((hliv n).1 hl) with ⟨o,ho⟩|⟨hno,hn⟩<;>rcases KC ((hliv m).1 hl') with ⟨o',ho'⟩|⟨hno',hn'⟩
  ·exact hq.dist n m o o' b ho ho' hb hb'
  ·have h1:=hq.new n o b ho hb
   rw[hq.rho m hno']at hb'
   obtain⟨o2,h2⟩:=hn'
   have:=(h.objs m o2 h2).block_lt hb'
   have:b<w.heap.size:=this
   omega
  ·have h1:=hq.new m o' b ho' hb'
   rw[hq.rho n hno]at hb
   obtain⟨o2,h2⟩:=hn
   have:=(h.objs n o2 h2).block_lt hb
   have:b<w.heap.size:=this
   omega
  ·rw[hq.rho n hno]at hb
   rw[hq.rho m hno']at hb'
   exact h.dist n m b hn hn' hb hb'
 ·intro s x hs
  rw[hvw]
  cases dst with
  | none=>exact(h.env s x hs).keeps hk
  | some d =>
   simp only[St.add,lk]at hs
   rw[JA a d u s (by rw[h.nt];exact hd d rfl)]
   split at hs
   ·rename_i e;cases hs;rw[if_pos e];exact hq.av
   ·rename_i e;rw[if_neg e];exact(h.env s x hs).keeps hk
theorem QS.still {w:World} {O0:Nat→Prop} {σ:St} {ρ:Nat→Value} {v:AV} {u:Value} (h:Br (vw w O0 σ ρ) v u):QS w O0 σ ρ v [] u ρ w where
 below:=Below.refl _ _
 rho:=fun _ _=>rfl
 av:=h
 obj:=fun _ _ h=>by cases h
 new:=fun _ _ _ h=>by cases h
 dist:=fun _ _ _ _ _ h=>by cases h
def Dg (ρ:Nat→Value) (n:Nat) (x:Value):Nat→Value:=fun m=>if m=n then x else ρ m
theorem BS (ρ:Nat→Value) (n:Nat) (x:Value):Dg ρ n x n=x:=by simp[Dg]
theorem QS.one {w w':World} {O0:Nat→Prop} {σ:St} {ρ:Nat→Value} {v:AV} {u loc:Value} {n:Nat} {o:Obj} (hb:Below w.heap.size w w')
  (hnew:∀b,bk loc b→w.heap.size≤b)
  (hav:Br (vw w' O0 (Df σ [(n,o)]) (Dg ρ n loc)) v u)
  (hobj:Av (vw w' O0 (Df σ [(n,o)]) (Dg ρ n loc)) o loc):QS w O0 σ ρ v [(n,o)] u (Dg ρ n loc) w' where
 below:=hb
 rho:=fun m hm=>by
  simp only[lk]at hm
  split at hm
  ·cases hm
  ·rename_i e;simp[Dg,e]
 av:=hav
 obj:=fun m o' hm=>by
  simp only[lk]at hm
  split at hm
  ·rename_i e;cases hm;subst e;rw[BS];exact hobj
  ·cases hm
 new:=fun m o' b hm hb'=>by
  simp only[lk]at hm
  split at hm
  ·rename_i e;subst e;rw[BS]at hb';exact hnew b hb'
  ·cases hm
 dist:=fun m m' o1 o2 b h1 h2 _ _=>by
  simp only[lk]at h1 h2
  split at h1
  ·split at h2
   ·omega
   ·cases h2
  ·cases h1
end
/- What the executor reads off an abstract value is so. -/
section
open Go Go.RowKit
theorem A2 {t:Ty} {p:PV} {d:t.den} (h:BD t p=some d):p=⟨t,d⟩:=by
 obtain⟨u,x⟩:=p
 simp only[BD]at h
 split at h
 ·rename_i e
  subst e
  simpa using h
 ·cases h
theorem BW {e e':Ty} {xs:List e'.den} {ys:List e.den} (h:BD (.slice e) ⟨.slice e',xs⟩=some ys):e'=e∧HEq xs ys:=by
 have h':=A2 h
 injection h' with h1 h2
 injection h1 with h1
 exact⟨h1,h2⟩
theorem MQ {α:Type} (xs:List α) {lo hi:Nat} (h:hi≤xs.length):(sub xs lo hi).length=hi-lo:=by
 simp[sub];omega
theorem WY {α:Type} (xs:List α) (lo hi i:Nat) {x:α} (h:(sub xs lo hi)[i]?=some x):xs[lo+i]?=some x∧i<hi-lo:=by
 simp only[sub,List.getElem?_take,List.getElem?_drop]at h
 split at h
 ·rename_i hi';exact⟨h,hi'⟩
 ·cases h
theorem eU {w:World} {O':Nat→Prop} {et:TypeId} {e:Ty} {xs:List e.den} {loc v:Value} {cells:List Value} {lo hi:Nat} (hsr:∀b,blk loc=some b→¬O' b)
  (hm:xs.length≤AO) (how:w.ownsRow 0 et e.size loc xs.length cells) (hel:C0 w O' e cells xs) (hv:Cq loc e.size lo hi v):Bj w O' (.slice e) [v] (sub xs lo hi):=by
 obtain⟨a,m,c,hloc,hlo,hhi,a',c',rfl,hc',h0,h1⟩:=hv
 have hmx:m=xs.length:=by
  rcases how.2 with ⟨he,hn⟩|⟨g,cap,cur,he,_⟩
  ·rw[hloc]at he;injection he;omega
  ·rw[hloc]at he;injection he
 subst hmx
 have hl:=MQ xs (lo:=lo) hhi
 refine⟨a',c',by rw[hl],by rw[hl];exact hc',by rw[hl];omega,?_⟩
 by_cases hlt:lo<hi
 ·right
  rcases how.2 with ⟨he,hn⟩|⟨g,cap,cur,he,r⟩
  ·omega
  ·have hcell:=World.ownsRow.cells how (g:=g) (by rw[he];rfl)
   have ha:a=some ⟨g,0,none⟩:=by rw[hloc]at he;injection he
   subst ha
   refine⟨_,h1 hlt,hsr _ (by rw[he];simp only[blk,B0]),fun i x hi'=>?_⟩
   obtain⟨hx,hlt'⟩:=WY xs lo hi i hi'
   obtain⟨es,hes,hc,hr⟩:=hel (lo+i) x hx
   refine⟨es,hes,fun j u hj=>?_,hr⟩
   have:=hcell _ u (hc j u hj)
   rw[Cn]
   rwa [Nat.add_mul,Nat.add_assoc]at this
 ·left
  have:(sub xs lo hi).length=0:=by rw[hl];omega
  exact List.eq_nil_of_length_eq_zero this
theorem GY {w:World} {base:Nat} {et:TypeId} {sz n:Nat} {s:Value} {xs:List Value} (h:w.ownsRow base et sz s n xs):plc s=s:=by
 rcases h.2 with ⟨rfl,_⟩|⟨g,cap,cur,rfl,_⟩<;>rfl
theorem RH {V:Vw} {et:TypeId} {e:Ty} {xs:List e.den} {loc:Value} (h:Av V (.arr et e xs) loc):plc loc=loc:=by
 obtain⟨_,_,h,_⟩:=h
 exact GY h
theorem WZ {V:Vw} {O':Nat→Prop} (hO:∀b,¬V.O b→¬O' b) {et:TypeId} {e:Ty} {xs:List e.den} {loc v:Value} {lo hi:Nat} (hsr:∀b,blk loc=some b→¬O' b)
  (ho:Av V (.arr et e xs) loc) (hv:Cq (plc loc) e.size lo hi v):Bj V.w O' (.slice e) [v] (sub xs lo hi):=by
 rw[RH ho]at hv
 obtain⟨hm,cells,how,hel⟩:=ho
 exact eU hsr hm how (fun i x hi=>let ⟨es,h1,h2,h3⟩:=hel i x hi;⟨es,h1,h2,h3.mono (fun b _ hb=>hO b hb) (fun _ _ _=>rfl)⟩) hv
theorem Fe {w:World} {et:TypeId} {sz n:Nat} {s:Value} {xs:List Value} (h:w.ownsRow 0 et sz s n xs):Cq s sz 0 n s:=by
 rcases h.2 with ⟨rfl,hn⟩|⟨g,cap,cur,rfl,_,_,hcap,_⟩
 ·exact⟨none,0,0,rfl,by omega,by omega,none,0,by rw[hn],by omega,fun _=>⟨rfl,rfl⟩,fun h=>by omega⟩
 ·exact⟨some ⟨g,0,none⟩,n,cap,rfl,by omega,by omega,some ⟨g,0,none⟩,cap,by simp,by omega,fun _=>⟨rfl,rfl⟩,fun _=>by simp[K7]⟩
theorem UZ {V:Vw} {O':Nat→Prop} (hO:∀b,¬V.O b→¬O' b) {et:TypeId} {e:Ty} {xs:List e.den} {u:Value} (hsr:∀b,blk u=some b→¬O' b) (h:UJ V et e xs u):Bj V.w O' (.slice e) [u] xs:=by
 have h1:=h
 obtain⟨_,_,how,_⟩:=h1
 have:=WZ (V:=V) hO hsr (et:=et) (e:=e) (xs:=xs) (loc:=u) h (by rw[GY how];exact Fe how)
 rwa [Hb]at this
theorem MR {V:Vw} {O':Nat→Prop} (hO:∀b,¬V.O b→¬O' b) {et iet:TypeId} {k e:Ty} {xs:List (k.den×List e.den)} {o:Value} {ins cells:List Value} (h:Jh V et iet k e xs none o ins cells)
  (hsr:∀(i b:Nat) (u:Value),ins[i]?=some u→blk u=some b→¬O' b):C0 V.w O' (.agg (.prod k (.slice e))) cells xs:=by
 intro i x hi
 have hlt:i<ins.length:=by rw[h.len];exact(List.getElem?_eq_some_iff.1 hi).1
 obtain⟨c1,v,h1,h2,h3⟩:=h.row i x ins[i] hi (List.getElem?_eq_getElem hlt)
 rcases h3 with ⟨h3,_⟩|⟨_,rfl,h4⟩
 ·cases h3
 ·have hr:=UZ hO (fun b hb=>hsr i b _ (List.getElem?_eq_getElem hlt) hb) h4
  refine⟨c1++[ins[i]],by simp[Ty.size,h2.length],h1,?_⟩
  exact(⟨c1,[ins[i]],rfl,h2.mono (fun b _ hb=>hO b hb) (fun _ _ _=>rfl),hr⟩:Bj V.w O' (.prod k (.slice e)) _ x)
theorem X2 {V:Vw} {O':Nat→Prop} (hO:∀b,¬V.O b→¬O' b) {et iet:TypeId} {k e:Ty} {xs:List (k.den×List e.den)} {loc v:Value} {lo hi:Nat} (hsr:∀b,bk loc b→¬O' b)
  (ho:Av V (.nest et iet k e xs none) loc) (hv:Cq (plc loc) (k.size+1) lo hi v):Bj V.w O' (.slice (.agg (.prod k (.slice e)))) [v] (sub (α:=k.den×List e.den) xs lo hi):=by
 obtain⟨o,ins,cells,hs,h⟩:=ho
 rw[hs.plc]at hv
 exact eU (e:=.agg (.prod k (.slice e))) (xs:=xs) (fun b hb=>hsr b (hs.bk.2 (A1.2 (.inl hb)))) h.max h.own (MR hO h fun i b u h1 h2=>hsr b (hs.bk.2 (A1.2 (.inr ⟨i,u,h1,h2⟩)))) hv
theorem Ua {V:Vw} {ob:Obj} {loc:Value} {a:Option Addr} {m c:Nat} (ho:Av V ob loc) (h:plc loc=.slice a m c):∃et sz cells,V.w.ownsRow 0 et sz (.slice a m c) m cells∧m≤AO:=by
 cases ob with
 | arr et e xs =>
  have h1:=RH ho
  obtain⟨hm,cells,how,_⟩:=ho
  rw[h1]at h
  subst h
  have hm':m=xs.length:=by
   rcases how.2 with ⟨he,hn⟩|⟨g,cap,cur,he,_⟩
   ·injection he;omega
   ·injection he
  subst hm'
  exact⟨et,_,cells,how,hm⟩
 | nest et iet k e xs hl =>
  obtain⟨o,ins,cells,hs,hN⟩:=ho
  rw[hs.plc]at h
  subst h
  have how:=hN.own
  have hm':m=xs.length:=by
   rcases how.2 with ⟨he,hn⟩|⟨g,cap,cur,he,_⟩
   ·injection he;omega
   ·injection he
  subst hm'
  exact⟨et,_,cells,how,hN.max⟩
 | box et st fs=>obtain⟨_,b,cs,rfl,_⟩:=ho;cases h
 | mapo k v l=>obtain⟨b,_,_,rfl,_⟩:=ho;cases h
 | frame tm fs=>obtain⟨rfl,_⟩:=ho;cases h
 | loop L=>obtain⟨b,rfl,_⟩:=ho;cases h
 | itr ik iv il ilf icu=>obtain⟨b,rfl,_⟩:=ho;cases h
 | dfr=>obtain⟨b,rfl,_⟩:=ho;cases h
theorem LA {V V':Vw} (hw:V'.w=V.w) (hO:V'.O=V.O) {et iet:TypeId} {k e:Ty} {xs:List (k.den×List e.den)} {h:Option Nat} {loc:Value} (ho:Av V (.nest et iet k e xs h) loc):Av V' (.nest et iet k e xs h) loc:=by
 obtain⟨o,ins,cells,hl,hN⟩:=ho
 refine⟨o,ins,cells,hl,hN.max,hN.len,by rw[hw];exact hN.own,fun i x u h1 h2=>?_,hN.dist,hN.out⟩
 obtain⟨c1,v,h3,h4,h5⟩:=hN.row i x u h1 h2
 refine⟨c1,v,h3,by rw[hw,hO];exact h4,?_⟩
 rcases h5 with h5|⟨h5,h6,hm,ic,h7,h8⟩
 ·exact .inl h5
 ·exact .inr ⟨h5,h6,hm,ic,by rw[hw];exact h7,by rw[hw,hO];exact h8⟩
theorem mH {V V':Vw} (hw:V'.w=V.w) (hO:∀b,¬V.O b→¬V'.O b) {et iet:TypeId} {k e:Ty} {xs:List (k.den×List e.den)} {h:Option Nat} {loc:Value} (ho:Av V (.nest et iet k e xs h) loc):Av V' (.nest et iet k e xs h) loc:=by
 obtain⟨o,ins,cells,hl,hN⟩:=ho
 refine⟨o,ins,cells,hl,hN.max,hN.len,by rw[hw];exact hN.own,fun i x u h1 h2=>?_,hN.dist,hN.out⟩
 obtain⟨c1,v,h3,h4,h5⟩:=hN.row i x u h1 h2
 refine⟨c1,v,h3,h4.mono (fun b _ hb=>hO b hb) (fun b _ _=>by rw[hw]),?_⟩
 rcases h5 with h5|⟨h5,h6,hm,ic,h7,h8⟩
 ·exact .inl h5
 ·refine .inr ⟨h5,h6,hm,ic,by rw[hw];exact h7,fun i x hi=>?_⟩
  obtain⟨es,g1,g2,g3⟩:=h8 i x hi
  exact⟨es,g1,g2,g3.mono (fun b _ hb=>hO b hb) (fun b _ _=>by rw[hw])⟩
theorem Wa {V:Vw} {et iet:TypeId} {k e:Ty} {xs:List (k.den×List e.den)} {h:Option Nat} {loc v:Value} {vs:Array Value} {i:Nat} {z:k.den×List e.den}
  (ho:Av V (.nest et iet k e xs h) loc) (hvs:loc=.tuple vs) (hv:vs[i+1]?=some v):xs[i]?=some (xs.getD i z):=by
 obtain⟨o,ins,cells,hs,h⟩:=ho
 obtain rfl:=hs.tup hvs
 have hv:ins[i]?=some v:=by simpa using hv
 have hlt:i<xs.length:=by rw[←h.len];exact(List.getElem?_eq_some_iff.1 hv).1
 rw[List.getElem?_eq_getElem hlt,List.getD_eq_getElem?_getD,List.getElem?_eq_getElem hlt];rfl
theorem RI {w:World} {base:Nat} {et:TypeId} {sz n m c:Nat} {a:Option Addr} {xs:List Value} (h:w.ownsRow base et sz (.slice a m c) n xs):m=n:=by
 rcases h.2 with ⟨he,hn⟩|⟨g,cap,cur,he,_⟩
 ·injection he;omega
 ·injection he
theorem wQ {V:Vw} {ob:Obj} {loc v:Value} {vs:Array Value} {i len c:Nat} {a:Option Addr} (ho:Av V ob loc) (hvs:loc=.tuple vs) (hv:vs[i+1]?=some v) (hve:v=.slice a len c):len≤AO:=by
 subst hvs
 cases ob with
 | arr et e xs =>
  obtain⟨hm,cells,how,_⟩:=ho
  rcases how.2 with ⟨he,_⟩|⟨g,cap,cur,he,_⟩<;>cases he
 | nest et iet k e xs hl =>
  obtain⟨o,ins,cells,hs,hN⟩:=ho
  obtain rfl:=hs.tup rfl
  have hv:ins[i]?=some v:=by simpa using hv
  have hlt:i<xs.length:=by rw[←hN.len];exact(List.getElem?_eq_some_iff.1 hv).1
  obtain⟨c1,v',h1,h2,h3⟩:=hN.row i xs[i] v (List.getElem?_eq_getElem hlt) hv
  rcases h3 with ⟨_,h3⟩|⟨_,rfl,h4,ic,how,_⟩
  ·rw[hve]at h3;injection h3 with h5 h6;omega
  ·rw[hve]at how
   rw[RI how];exact h4
 | box et st fs=>obtain⟨_,b,cs,h,_⟩:=ho;cases h
 | mapo k v l=>obtain⟨b,_,_,h,_⟩:=ho;cases h
 | frame tm fs=>obtain⟨h,_⟩:=ho;cases h
 | loop L=>obtain⟨b,h,_⟩:=ho;cases h
 | itr ik iv il ilf icu=>obtain⟨b,h,_⟩:=ho;cases h
 | dfr=>obtain⟨b,h,_⟩:=ho;cases h
theorem wR {V:Vw} {O':Nat→Prop} (hO:∀b,¬V.O b→¬O' b) {et iet:TypeId} {k e:Ty} {xs:List (k.den×List e.den)} {loc v:Value} {vs:Array Value} {i:Nat} {x:k.den×List e.den} (hsr:∀b,bk loc b→¬O' b)
  (ho:Av V (.nest et iet k e xs none) loc) (hvs:loc=.tuple vs) (hv:vs[i+1]?=some v) (hx:xs[i]?=some x):Bj V.w O' (.slice e) [v] x.2:=by
 obtain⟨o,ins,cells,hs,h⟩:=ho
 obtain rfl:=hs.tup hvs
 have hv:ins[i]?=some v:=by simpa using hv
 obtain⟨c1,v',h1,h2,h3⟩:=h.row i x v hx hv
 rcases h3 with ⟨h3,_⟩|⟨_,rfl,h4⟩
 ·cases h3
 ·exact UZ hO (fun b hb=>hsr b (hs.bk.2 (A1.2 (.inr ⟨i,_,hv,hb⟩)))) h4
section
variable {V:Vw} {O':Nat→Prop} {l:Bool} {σ:St}
theorem eW (hO:∀b,¬V.O b→¬O' b) (hsr:l=true→∀b,¬O' b) (hobj:∀n o,lk n σ.objs=some o→Av V o (V.ρ n))
  {t:Ty} {x:AV} {d:t.den} {cs:List Value} (h:Em l σ t x=some d) (hx:Lv V x cs):Bj V.w O' t cs d:=by
 unfold Em at h
 split at h
 ·rename_i u d'
  have:=A2 h
  injection this with h1 h2
  subst h1
  cases h2
  have hx:Bj V.w V.O u cs d':=hx
  exact hx.mono (fun b _ hb=>hO b hb) (fun _ _ _=>rfl)
 ·rename_i e n e' lo hi
  split at h
  ·rename_i hc
   obtain⟨hl',rfl⟩:=hc
   have hl:=hl'
   obtain⟨v,rfl,_,hL,hv⟩:=hx
   cases hn:lk n σ.objs with
   | none=>rw[hn]at h;simp[Ou]at h
   | some o =>
    rw[hn]at h
    cases o with
    | box et st fs=>simp[Ou]at h
    | mapo k v l=>simp[Ou]at h
    | frame tm fs=>simp[Ou]at h
    | loop L=>simp[Ou]at h
    | itr ik iv il ilf icu=>simp[Ou]at h
    | dfr=>simp[Ou]at h
    | nest et iet k e2 xs hl =>
     cases hl with
     | some i=>simp[Ou]at h
     | none =>
      simp only[Ou]at h
      obtain⟨h1,h2⟩:=BW h
      subst h1
      cases h2
      exact X2 hO (fun b _=>hsr hl' b) (hobj n _ hn) hv
    | arr et e2 xs =>
     simp only[Ou]at h
     obtain⟨h1,h2⟩:=BW h
     subst h1
     cases h2
     exact WZ hO (fun b _=>hsr hl b) (hobj n _ hn) hv
  ·cases h
 ·rename_i e n e' i len
  split at h
  ·rename_i hc
   obtain⟨hl,rfl⟩:=hc
   obtain⟨v,rfl,_,hL,vs,a,c,hvs,hvi,_⟩:=hx
   cases hn:lk n σ.objs with
   | none=>rw[hn]at h;simp[Ow]at h
   | some o =>
    rw[hn]at h
    unfold Ow at h
    split at h
    ·rename_i et iet k e2 xs ho
     cases ho
     obtain⟨h1,h2⟩:=BW h
     subst h1
     cases h2
     exact wR hO (fun b _=>hsr hl b) (hobj n _ hn) hvs hvi (Wa (hobj n _ hn) hvs hvi)
    ·cases h
  ·cases h
 ·obtain⟨v,rfl,_,hv⟩:=hx
  have hv:v=_:=hv
  subst hv
  cases h
  exact⟨none,0,rfl,by simp,by simp[AO],.inl rfl⟩
 ·cases h
theorem qI (hO:∀b,¬V.O b→¬O' b) (hsr:l=true→∀b,¬O' b) (hobj:∀n o,lk n σ.objs=some o→Av V o (V.ρ n)) :
  ∀ {fs:List AV} {t:Ty} {d:t.den} {cs:List Value},I0 l σ fs t=some d→Cy V fs cs→Bj V.w O' t cs d
 | [],t,d,cs,h,hx=>by simp[I0]at h
 | [x],t,d,cs,h,hx=>by
  obtain⟨c1,c2,rfl,h1,h2⟩:=hx
  have h2:c2=[]:=h2
  subst h2
  rw[List.append_nil]
  simp only[I0]at h
  exact eW hO hsr hobj h h1
 | x :: y :: r,t,d,cs,h,hx=>by
  obtain⟨c1,c2,rfl,h1,h2⟩:=hx
  cases t
  case prod a b =>
   simp only[I0]at h
   cases e1:Em l σ a x with
   | none=>rw[e1]at h;simp[J1]at h
   | some d1 =>
    cases e2:I0 l σ (y :: r) b with
    | none=>rw[e1,e2]at h;simp[J1]at h
    | some d2 =>
     rw[e1,e2]at h
     simp only[J1]at h
     cases h
     exact⟨c1,c2,rfl,eW hO hsr hobj e1 h1,qI hO hsr hobj e2 h2⟩
  all_goals simp[I0]at h
theorem wS {t:Ty} {x:AV} {d:t.den} {v:Value} (h:Em l σ t x=some d) (hp:∀u d',x≠.p u d') (hx:Br V x v):Lv V x [v]∧t.wrap [v]=v:=by
 unfold Em at h
 split at h
 ·exact absurd rfl (hp _ _)
 ·obtain⟨hL,a,m,c,_,_,_,a',c',rfl,_⟩:=hx
  refine⟨⟨_,rfl,rfl,?_⟩,rfl⟩
  exact⟨hL,a,m,c,by assumption,by assumption,by assumption,a',c',rfl,by assumption⟩
 ·obtain⟨hL,vs,a,c,h1,h2,rfl⟩:=hx
  exact⟨⟨_,rfl,rfl,hL,vs,a,c,h1,h2,rfl⟩,rfl⟩
 ·have hv:v=_:=hx
  subst hv
  exact⟨⟨_,rfl,rfl,rfl⟩,rfl⟩
 ·cases h
theorem Lw (hO:∀b,¬V.O b→¬O' b) (hsr:l=true→∀b,¬O' b) (hobj:∀n o,lk n σ.objs=some o→Av V o (V.ρ n))
  {t:Ty} {x:AV} {d:t.den} {v:Value} (h:MN l σ t x=some d) (hx:Br V x v):Bh V.w O' t v d:=by
 unfold MN at h
 split at h
 ·rename_i t fs
  obtain⟨cs,rfl,hcs⟩:=hx
  exact⟨cs,(qI hO hsr hobj h hcs:Bj V.w O' t cs d),rfl⟩
 ·by_cases hp:∃u d',x=.p u d'
  ·obtain⟨u,d',rfl⟩:=hp
   have h:BD t ⟨u,d'⟩=some d:=by simpa only[Em] using h
   have:=A2 h
   injection this with h1 h2
   subst h1
   cases h2
   exact Bh.mono (fun b _ hb=>hO b hb) (fun _ _ _=>rfl) hx
  ·obtain⟨h1,h2⟩:=wS h (fun u d' e=>hp ⟨u,d',e⟩) hx
   exact⟨[v],eW hO hsr hobj h h1,h2.symm⟩
end
end
/- The table of types against the program; loads; addresses. -/
section
open Go Go.RowKit
def Wb:Ty→Value→Bool
 | .agg _,.agg _=>true
 | .agg _,_=>false
 | .prod _ _,_=>false
 | _,.agg _=>false
 | _,_=>true
def NM (P : Program) (id : TypeId) (a b : IntKind) : Prop := ∃ f0 f1 : Field, P.underlying id = some (.struct #[f0, f1]) ∧ ((f0.name != "_") = true ∧ (f1.name != "_") = true) ∧ (f0.offset = 0 ∧ f1.offset = 1) ∧ (P.underlying f0.type = some (.int a) ∧ P.underlying f1.type = some (.int b)) ∧ P.stoodInHeld id = false
def Rq (P:Program) (id:TypeId):Ty→Nat→Prop
 | .agg (.prod (.int a) (.int b)),0=>NM P id a b
 | _,_=>True
def isI (k:IntKind):Option TypeDesc→Bool
 | some (.int k')=>k==k'
 | _=>false
theorem Wc {k:IntKind} {d:Option TypeDesc} (h:isI k d=true):d=some (.int k):=by
 unfold isI at h
 split at h
 ·rw[beq_iff_eq.1 h]
 ·cases h
def A0Y (P:Program) (id:TypeId) (a b:IntKind):Option TypeDesc→Bool
 | some (.struct ⟨[f0, f1]⟩) => (f0.name != "_") && (f1.name != "_") && f0.offset == 0 && f1.offset == 1 && isI a (P.underlying f0.type) && isI b (P.underlying f1.type) && P.stoodInHeld id == false
 | _=>false
def qJ (P:Program) (id:TypeId):Ty→Nat→Bool
 | .agg (.prod (.int a) (.int b)),0=>A0Y P id a b (P.underlying id)
 | _,_=>true
theorem qK {P:Program} {id:TypeId} {t:Ty} {el:Nat} (h:qJ P id t el=true):Rq P id t el:=by
 unfold qJ at h
 unfold Rq
 split at h
 ·unfold A0Y at h
  split at h
  ·rename_i f0 f1 hu
   simp only[Bool.and_eq_true,beq_iff_eq]at h
   obtain⟨⟨⟨⟨⟨⟨h1,h2⟩,h3⟩,h4⟩,h5⟩,h6⟩,h7⟩:=h
   exact⟨f0,f1,hu,⟨h1,h2⟩,⟨h3,h4⟩,⟨Wc h5,Wc h6⟩,h7⟩
  ·cases h
 ·trivial
def Dh (P:Program) (tb:Tb) (id:TypeId) (ti:TI):Prop :=
 (((∀p∈ti.offs,p.2≠0)∧0<ti.bytes∧Rq P id ti.ty ti.el)∧∃(i:TypeInfo) (z:Value),P.info? id=some i∧i.size=ti.ty.size∧i.bytes=ti.bytes∧i.zero=some z∧z.cells=ti.ty.zero.toArray) ∧
 match ti.ty with
 | .int k=>P.underlying id=some (.int k)
 | .bool=>P.underlying id=some .bool
 | .str=>P.underlying id=some .string
 | .slice e=>P.underlying id=some (.slice ti.el)∧∃te,lk ti.el tb.ty=some te∧te.ty=e
 | .agg _=>(∃fs:Array Field,ti.el=0∧P.underlying id=some (.struct fs)∧ti.offs.map some=fs.toList.map fun f=>(P.info? f.type).map fun i=>(f.offset,i.size)) ∨
   ∃n e i,ti.el≠0∧P.underlying id=some (.array n e)∧P.info? e=some i∧ti.offs=(List.range n).map fun k=>(k*i.size,i.size)
 | .prod _ _=>False
 | .ref j=>∃d,P.underlying id=some d∧(match d with|.struct _=>False|.array _ _=>False|_=>True) ∧
   ∀k e,j=2→ti.offs=[(k,e)]→d=.map k e∧∃(tk te:TI) (z:Value),lk k tb.ty=some tk∧lk e tb.ty=some te∧(∃i,P.info? e=some i∧i.zero=some z)∧z.cells=te.ty.zero.toArray∧Wb te.ty z=true
def DG (P:Program) (tb:Tb):Prop:=∀id ti,lk id tb.ty=some ti→Dh P tb id ti
/-! ### The check, by the kernel -/
def qL:Value→Value→Bool
 | .int k n,.int k' n'=>k==k'&&n==n'
 | .bool a,.bool b=>a==b
 | .string s,.string s'=>s.size==0&&s'.size==0
 | .slice none 0 0,.slice none 0 0=>true
 | .pointer none,.pointer none=>true
 | .nilFunc,.nilFunc=>true
 | .map none,.map none=>true
 | _,_=>false
theorem qM {a b:Value} (h:qL a b=true):a=b:=by
 unfold qL at h
 split at h
 ·simp only[Bool.and_eq_true,beq_iff_eq]at h;obtain⟨rfl,rfl⟩:=h;rfl
 ·simp only[beq_iff_eq]at h;rw[h]
 ·rename_i s s'
  simp only[Bool.and_eq_true,beq_iff_eq]at h
  have:s=s':=by
   obtain⟨⟨l⟩⟩:=s
   obtain⟨⟨l'⟩⟩:=s'
   have h1:l.length=0:=h.1
   have h2:l'.length=0:=h.2
   rw[List.eq_nil_of_length_eq_zero h1,List.eq_nil_of_length_eq_zero h2]
  rw[this]
 ·rfl
 ·rfl
 ·rfl
 ·rfl
 ·cases h
def MS:List Value→List Value→Bool
 | [],[]=>true
 | a :: l,b :: r=>qL a b&&MS l r
 | _,_=>false
theorem O4:∀ {l r:List Value},MS l r=true→l=r
 | [],[],_=>rfl
 | a :: l,b :: r,h=>by
  simp only[MS,Bool.and_eq_true]at h
  rw[qM h.1,O4 h.2]
 | [],_ :: _,h=>by simp[MS]at h
 | _ :: _,[],h=>by simp[MS]at h
def A0Z (ty:Ty) (bytes:Nat):Option TypeInfo→Bool
 | some i=>i.size==ty.size&&i.bytes==bytes&&(match i.zero with|some z=>MS z.cells.toList ty.zero|none=>false)
 | none=>false
def A28 (offs:List (Nat×Nat)) (n:Nat):Option TypeInfo→Bool
 | some i=>offs==(List.range n).map fun k=>(k*i.size,i.size)
 | none=>false
def A10 (e:Nat) (te:Option TI):Option TypeInfo→Bool
 | some i=>match i.zero,te with|some z,some te=>MS z.cells.toList te.ty.zero&&Wb te.ty z|_,_=>false
 | none=>false
def A1g (P:Program) (tb:Tb) (j:Nat) (d:TypeDesc):List (Nat×Nat)→Bool
 | [(k,e)]=>j != 2||(match d with|.map k' e'=>k'==k&&e'==e&&(lk k tb.ty).isSome&&A10 e (lk e tb.ty) (P.info? e)|_=>false)
 | _=>true
theorem wT {P:Program} {tb:Tb} {j:Nat} {d:TypeDesc} {offs:List (Nat×Nat)} (h:A1g P tb j d offs=true):∀k e,j=2→offs=[(k,e)]→d=.map k e∧∃(tk te:TI) (z:Value),lk k tb.ty=some tk∧lk e tb.ty=some te∧(∃i,P.info? e=some i∧i.zero=some z)∧z.cells=te.ty.zero.toArray∧Wb te.ty z=true:=by
 rintro k e rfl rfl
 simp only[A1g,bne_self_eq_false,Bool.false_or]at h
 split at h
 ·simp only[Bool.and_eq_true,beq_iff_eq]at h
  obtain⟨⟨⟨rfl,rfl⟩,h3⟩,h4⟩:=h
  refine⟨rfl,?_⟩
  obtain⟨tk,htk⟩:=Option.isSome_iff_exists.1 h3
  unfold A10 at h4
  split at h4
  ·rename_i i hi
   split at h4
   ·rename_i z te hz hte
    simp only[Bool.and_eq_true]at h4
    exact⟨tk,te,z,htk,hte,⟨i,hi,hz⟩,by rw[←O4 h4.1],h4.2⟩
   ·cases h4
  ·cases h4
 ·cases h
def A29 (P:Program) (tb:Tb) (ti:TI):Ty→Option TypeDesc→Bool
 | .int k,some (.int k')=>k==k'
 | .bool,some .bool=>true
 | .str,some .string=>true
 | .slice e,some (.slice el)=>el==ti.el&&(match lk ti.el tb.ty with|some te=>decide (te.ty=e)|none=>false)
 | .agg _,some (.struct fs)=>ti.el==0&&ti.offs.map some==fs.toList.map fun f=>(P.info? f.type).map fun i=>(f.offset,i.size)
 | .agg _,some (.array n e)=>ti.el != 0&&A28 ti.offs n (P.info? e)
 | .ref _,some (.struct _)=>false
 | .ref _,some (.array _ _)=>false
 | .ref j,some d=>A1g P tb j d ti.offs
 | _,_=>false
def tiB (P:Program) (tb:Tb) (id:TypeId) (ti:TI):Bool:=((ti.offs.all fun p=>p.2 != 0)&&(decide (0<ti.bytes)&&qJ P id ti.ty ti.el))&&A0Z ti.ty ti.bytes (P.info? id)&&A29 P tb ti ti.ty (P.underlying id)
theorem A1h {P:Program} {tb:Tb} {id:TypeId} {ti:TI} (h:tiB P tb id ti=true):Dh P tb id ti:=by
 simp only[tiB,Bool.and_eq_true]at h
 obtain⟨⟨⟨h0,hb,hkf⟩,h1⟩,h2⟩:=h
 refine⟨⟨⟨fun p hp=>by simpa using (List.all_eq_true.1 h0) p hp,by simpa using hb,qK hkf⟩,?_⟩,?_⟩
 ·unfold A0Z at h1
  split at h1
  ·rename_i i hi
   simp only[Bool.and_eq_true,beq_iff_eq]at h1
   obtain⟨⟨h3,h4⟩,h5⟩:=h1
   split at h5
   ·rename_i z hz
    exact⟨i,z,hi,h3,h4,hz,by rw[←O4 h5]⟩
   ·cases h5
  ·cases h1
 ·generalize hu:P.underlying id=u at h2
  generalize ti.ty=t at h2
  cases t<;>cases u<;>simp only[A29]at h2<;>try(cases h2;done)
  all_goals
   rename_i u
   cases u<;>simp only at h2<;>try(cases h2;done)
  ·have:=beq_iff_eq.1 h2;subst this;rfl
  ·rfl
  ·rfl
  ·simp only[Bool.and_eq_true,beq_iff_eq]at h2
   obtain⟨h3,h4⟩:=h2
   split at h4
   ·rename_i te hte;exact⟨by rw[h3],te,hte,by simpa using h4⟩
   ·cases h4
  ·rename_i n e
   simp only[Bool.and_eq_true,bne_iff_ne]at h2
   obtain⟨h3,h2⟩:=h2
   unfold A28 at h2
   split at h2
   ·rename_i i hi;exact .inr ⟨_,_,i,h3,rfl,hi,by simpa using h2⟩
   ·cases h2
  ·simp only[Bool.and_eq_true,beq_iff_eq]at h2
   exact .inl ⟨_,h2.1,rfl,h2.2⟩
  all_goals exact⟨_,rfl,trivial,wT h2⟩
theorem wU {P:Program} {tb:Tb} (h:(tb.ty.all fun p=>tiB P tb p.1 p.2)=true):DG P tb:=fun id ti hi=>by
 rw[List.all_eq_true]at h
 exact A1h (h _ (FD hi))
/-! ### Runs -/
def Ty.isAgg:Ty→Bool
 | .agg _=>true
 | .int _=>false
 | .bool=>false
 | .str=>false
 | .slice _=>false
 | .prod _ _=>false
 | .ref _=>false
section
variable {P:Program} {tb:Tb} {id:TypeId} {ti:TI} (w:World)
theorem KE {i:TypeInfo} (h:P.info? id=some i):(typeInfo id).run P w=.ok i w:=by simp[typeInfo,h]
theorem eX (h:Dh P tb id ti):(isAgg id).run P w=.ok ti.ty.isAgg w:=by
 obtain⟨_,h2⟩:=h
 cases ht:ti.ty<;>rw[ht]at h2<;>simp only at h2
 case agg =>
  rcases h2 with ⟨fs,_,hu,_⟩|⟨n,e,_,_,hu,_⟩<;>simp[isAgg,run_underlying hu,Ty.isAgg]
 case slice=>simp[isAgg,run_underlying h2.1,Ty.isAgg]
 case ref k =>
  obtain⟨d,hu,hd,_⟩:=h2
  cases d<;>first|exact hd.elim|simp[isAgg,run_underlying hu,Ty.isAgg]
 all_goals simp[isAgg,run_underlying h2,Ty.isAgg]
theorem Ep (h:Dh P tb id ti):(sizeOf id).run P w=.ok ti.ty.size w:=by
 obtain⟨⟨_,i,z,h1,h2,_⟩,_⟩:=h
 simp[sizeOf,KE w h1,h2]
theorem Dh.noprod (h:Dh P tb id ti) {a b:Ty}:ti.ty≠.prod a b:=by
 intro e
 have:=h.2
 rw[e]at this
 exact this
theorem X3 (h:Dh P tb id ti) {ad:Addr} {cs:List Value} (hl:cs.length=ti.ty.size) (hc:∀(j:Nat) (u:Value),cs[j]?=some u→w.cell? (ad.add j)=some u) :
  (loadVar id ad).run P w=.ok (ti.ty.wrap cs) w:=by
 have hnp:=fun a b=>h.noprod (a:=a) (b:=b)
 simp only[loadVar,Sem.run_bind,eX w h,Result.andThen_ok]
 cases ht:ti.ty
 case prod a b=>exact absurd ht (hnp a b)
 case agg u =>
  have hl':ti.ty.size=cs.length:=hl.symm
  simp only[Ty.isAgg,if_true,Sem.run_bind,Ep w h,Result.andThen_ok,hl',run_loadCells_list w ad cs hc,Ty.wrap]
  rfl
 all_goals
  rw[ht]at hl
  obtain⟨c,rfl⟩:=List.length_eq_one_iff.1 hl
  have h0:=hc 0 c rfl
  rw[K7]at h0
  simp[Ty.isAgg,Ty.wrap,h0]
theorem Dz (h:Dh P tb id ti) {ad:Addr} {cs:List Value} (hl:cs.length=ti.ty.size) (hc:∀(j:Nat) (u:Value),cs[j]?=some u→w.cell? (ad.add j)=some u) :
  (Instr.loadAt id (.pointer (some ad))).run P w=.ok (ti.ty.wrap cs) w:=by
 simp[Instr.loadAt,Instr.sureAddr,X3 w h hl hc]
end
end
end Go.Proofs.YtmejfnhmgbhkmabGreat.Fw
