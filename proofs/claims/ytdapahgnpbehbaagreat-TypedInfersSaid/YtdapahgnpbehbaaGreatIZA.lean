/- Typed values, how they lie in memory, the executor's words and the table of types: what they mean. -/
import Derived.ProofKit
import Derived.Orders
import Derived.Laws.AppendOwn
import Derived.Laws.MakeOwn
import Derived.Laws.OwnMore
set_option linter.unusedVariables false
set_option linter.unusedSimpArgs false
namespace Go.Proofs.YtdapahgnpbehbaaGreat.Fw
section
open Go
abbrev AS:=@List.getD_eq_getElem?_getD
abbrev AT:=@List.getElem?_eq_getElem
abbrev An:=@Bool.and_eq_true
abbrev As:=@List.take_of_length_le
abbrev At:=@if_neg
abbrev BY:=@if_pos
abbrev By:=@Classical.byContradiction
abbrev DO:=@List.all_eq_true
abbrev Do:=@List.mem_cons
abbrev GO:=@decide_eq_true_eq
abbrev IF:=@List.drop_eq_nil_of_le
abbrev IN:=@Option.map_eq_some_iff
abbrev IS:=@Nat.zero_le
abbrev If:=@Nat.le_refl
abbrev Is:=@List.length_cons
abbrev NO:=@decide_eq_false_iff_not
abbrev No:=@List.getElem?_eq_some_iff
abbrev OF:=@List.any_eq_true
abbrev OM:=@Int.ofNat_lt
abbrev ON:=@List.mem_append
abbrev OR:=@List.length_take
abbrev OS:=@List.drop_eq_getElem_cons
abbrev Of:=@List.mem_map
abbrev On:=@List.length_append
abbrev TO:=@List.foldl_cons
abbrev To:=@Bool.not_eq_true'
abbrev aS:=@Go.run_underlying
abbrev aT:=@List.eq_nil_of_length_eq_zero
abbrev bY:=@List.mem_cons_of_mem
abbrev dO:=@Array.getElem?_eq_some_iff
abbrev f4:=@Nat.le_trans
abbrev gO:=@List.take_length
abbrev iF:=@Int.ofNat_le
abbrev iN:=@List.getElem?_take
abbrev iS:=@List.getElem?_eq_none
abbrev nO:=@List.pairwise_iff_getElem
abbrev oF:=@Int.natCast_nonneg
abbrev oN:=@List.mem_range
abbrev oR:=@Nat.mul_le_mul_right
abbrev oS:=@List.length_singleton
abbrev tO:=@List.map_cons
abbrev AA0:=@beq_iff_eq
abbrev AA1:=@Bool.or_eq_true
abbrev AA2:=@List.getElem?_append_left
abbrev AA3:=@List.length_map
abbrev AA4:=@Int.toNat_natCast
abbrev AA5:=@List.getElem?_append_right
abbrev AA6:=@Go.Result.andThen_ok
abbrev AA7:=@Array.getElem?_eq_getElem
abbrev AA8:=@List.mem_of_mem_take
abbrev AA9:=@List.mem_of_getElem?
abbrev AAa:=@List.mem_iff_getElem
abbrev AAb:=@List.range_succ
abbrev AAc:=@List.nodup_cons
abbrev AAd:=@List.mem_iff_getElem?
abbrev AAe:=@List.getElem?_drop
abbrev AAf:=@List.getElem_mem
abbrev AAg:=@List.mem_filter
abbrev AAh:=@List.getElem?_append
abbrev AAi:=@Bool.or_eq_false_iff
abbrev AAj:=@List.getElem?_cons_zero
abbrev AAk:=@List.length_take_le
abbrev AAl:=@List.append_nil
abbrev AAm:=@List.drop_zero
abbrev AAn:=@Int.tdiv_eq_ediv_of_nonneg
abbrev AAo:=@Option.some.injEq
abbrev AAp:=@List.getElem?_set
abbrev AAq:=@Nat.lt_of_lt_of_le
abbrev AAr:=@List.filter_cons
abbrev AAs:=@List.mem_singleton
abbrev AAt:=@Bool.and_eq_false_iff
abbrev AAu:=@List.take_succ_cons
abbrev AAv:=@if_true
abbrev AAw:=@List.length_set
abbrev AAx:=@Option.isNone_iff_eq_none
abbrev AAy:=@List.append_assoc
abbrev AAz:=@List.mem_of_mem_drop
abbrev AAA:=@Go.Sem.run_bind
abbrev AAB:=@Bool.false_eq_true
abbrev AAC:=@Nat.zero_add
abbrev AAD:=@List.map_congr_left
abbrev AAE:=@List.ext_getElem
abbrev AAF:=@List.nodup_append
abbrev AAG:=@List.all_eq_false
abbrev AAH:=@Nat.succ_mul
abbrev AAI:=@Bool.not_eq_false'
abbrev AAJ:=@List.length_eq_one_iff
abbrev AAL:=@List.take_zero
abbrev AAM:=@List.map_append
abbrev AAN:=@if_false
abbrev AAO:=@List.prefix_refl
abbrev AAP:=@List.length_drop
abbrev AAQ:=@Int.toNat_of_nonneg
abbrev AAR:=@Int.not_lt
abbrev AAS:=@List.length_nil
abbrev AAT:=@List.getElem?_replicate
abbrev AAU:=@List.all_cons
abbrev AAV:=@List.countP_cons
abbrev AAW:=@List.getElem?_map
abbrev AAX:=@List.mem_or_eq_of_mem_set
abbrev AAY:=@Option.map_some
abbrev AAZ:=@List.length_filter_le
abbrev AB0:=@Int.le_trans
abbrev AB2:=@Option.isSome_iff_exists
abbrev AB3:=@List.take_append_of_le_length
abbrev AB4:=@List.pairwise_append
abbrev AB5:=@congrArg
abbrev AB6:=@Nat.sub_self
abbrev AB7:=@Nat.mul_le_mul_left
abbrev AB8:=@Nat.min_eq_left
abbrev AB9:=@List.nil_append
abbrev ABa:=@List.cons.injEq
abbrev ABb:=@Array.length_toList
abbrev ABc:=@List.length_pos_of_mem
abbrev ABd:=@Int.tmod_eq_emod_of_nonneg
abbrev ABe:=@List.cons_append
abbrev ABf:=@List.take_append_drop
abbrev ABg:=@List.pairwise_cons
abbrev ABh:=@List.mem_cons_self
abbrev ABi:=@ByteArray.size_append
abbrev ABj:=@decide_eq_true
abbrev ABk:=@List.mem_take_iff_getElem
abbrev ABl:=@Array.mapM_eq_mapM_toList
abbrev ABm:=@BitVec.testBit_toNat
abbrev ABn:=@Nat.lt_trichotomy
abbrev ABo:=@List.pairwise_map
abbrev ABp:=@List.length_erase_of_mem
abbrev ABq:=@List.foldl_append
abbrev ABr:=@List.all_append
abbrev ABt:=@Bool.eq_iff_iff
abbrev ABu:=@beq_eq_false_iff_ne
abbrev ABv:=@List.take_take
abbrev ABx:=@List.filter_append
abbrev ABy:=@decide_eq_false
abbrev ABz:=@List.flatMap_cons
abbrev ABA:=@Int.fdiv_eq_ediv_of_nonneg
abbrev ABB:=@List.mem_append_left
abbrev ABC:=@List.mem_of_find?_eq_some
abbrev ABD:=@List.drop_drop
abbrev ABE:=@List.drop_length
abbrev ABF:=@Nat.add_mul
abbrev ABG:=@List.getElem?_range
abbrev ABH:=@Nat.le_of_eq
abbrev ABI:=@List.map_map
abbrev ABJ:=@Nat.le_antisymm
abbrev ABK:=@Nat.add_assoc
abbrev ABL:=@List.set_cons_succ
abbrev ABM:=@List.find?_eq_none
abbrev ABN:=@List.filter_nil
abbrev ABO:=@List.any_append
abbrev ABP:=@Bool.true_and
abbrev ABQ:=@not_true_eq_false
abbrev ABR:=@bne_iff_ne
abbrev ABS:=@List.ext_getElem?
abbrev ABT:=@Bool.eq_false_iff
abbrev ABU:=@Array.toList_eraseIdxIfInBounds
abbrev ABV:=@Nat.zero_mul
abbrev ABW:=@List.set_append_right
abbrev ABX:=@List.eq_nil_iff_forall_not_mem
abbrev ABY:=@List.exists_mem_of_length_pos
abbrev AC1:=@List.mem_erase_of_ne
abbrev AC2:=@Go.World.cell?_of_block
abbrev AC3:=@Bool.not_true
abbrev AC4:=@Nat.and_le_left
abbrev AC5:=@List.drop_succ_cons
abbrev AC6:=@Int.le_refl
abbrev AC7:=@Option.isSome_some
abbrev AC8:=@Nat.sub_zero
abbrev AC9:=@Nat.lt_of_le_of_lt
abbrev ACa:=@List.zip_cons_cons
abbrev ACb:=@List.set_cons_zero
abbrev ACc:=@List.prefix_append
abbrev ACd:=@List.mem_filterMap
abbrev ACe:=@List.getElem_range
abbrev ACf:=@List.countP_append
abbrev ACg:=@Int.toNat_lt
abbrev ACh:=@Int.lt_of_le_of_lt
abbrev ACi:=@Option.some_or
abbrev ACk:=@Bool.not_false
abbrev ACl:=@Option.ext
abbrev ACn:=@Prod.mk.injEq
abbrev ACo:=@List.sum_cons
abbrev ACp:=@Bool.false_or
abbrev ACq:=@Option.getD_some
abbrev ACr:=@Nat.lt_succ_self
abbrev ACs:=@List.range'_succ
abbrev ACt:=@List.perm_middle
abbrev ACu:=@List.getElem_map
abbrev ACv:=@List.drop_append
abbrev ACw:=@Option.some.inj
abbrev ACx:=@Nat.min_self
abbrev ACy:=@Nat.le_of_lt
abbrev ACz:=@List.map_nil
abbrev ACA:=@List.find?_some
abbrev ACC:=@Nat.mod_lt
abbrev ACD:=@Array.ext'
abbrev ACE:=@Ne.symm
inductive Ty where
 | int (k:IntKind)
 | bool
 | str
 | slice (e:Ty)
 | prod (a b:Ty)
 | agg (t:Ty)
 
 | ref (k:Nat)
 deriving DecidableEq
def KJ:Nat→Value
 | 0=>.pointer none
 | 1=>.nilFunc
 | _=>.map none
@[reducible] def Ty.den:Ty→Type
 | .int _=>Int
 | .bool=>Bool
 | .str=>ByteArray
 | .slice e=>List e.den
 | .prod a b=>a.den×b.den
 | .agg t=>t.den
 | .ref _=>Unit
def Ty.size:Ty→Nat
 | .prod a b=>a.size+b.size
 | .agg t=>t.size
 | .int _=>1
 | .bool=>1
 | .str=>1
 | .slice _=>1
 | .ref _=>1
def Ty.dflt:(t:Ty)→t.den
 | .int _=>(0:Int)
 | .bool=>false
 | .str=>ByteArray.empty
 | .slice _=>[]
 | .prod a b=>(a.dflt,b.dflt)
 | .agg t=>t.dflt
 | .ref _=>()
def Ty.zero:Ty→List Value
 | .int k=>[.int k 0]
 | .bool=>[.bool false]
 | .str=>[.string ByteArray.empty]
 | .slice _=>[.slice none 0 0]
 | .prod a b=>a.zero++b.zero
 | .agg t=>t.zero
 | .ref k=>[KJ k]
def Ty.wrap:Ty→List Value→Value
 | .agg _,cs=>.agg cs.toArray
 | .prod _ _,cs=>.agg cs.toArray
 | .int _,cs=>cs.headD undef
 | .bool,cs=>cs.headD undef
 | .str,cs=>cs.headD undef
 | .slice _,cs=>cs.headD undef
 | .ref _,cs=>cs.headD undef
def Jz (k:IntKind) (n:Int):Prop:=k.min≤n∧n≤k.max
def AO:Nat:=140737488355328
def Be (w:World) (O:Nat→Prop):(t:Ty)→List Value→t.den→Prop
 | .int k,cs,d=>cs=[.int k d]∧Jz k d
 | .bool,cs,d=>cs=[.bool d]
 | .str,cs,d=>cs=[.string d]∧ByteArray.size d≤AO
 | .slice e,cs,d=>∃(a:Option Addr) (c:Nat),cs=[.slice a (List.length d) c]∧List.length d≤c∧List.length d≤AO ∧
   (d=[]∨∃ad:Addr,a=some ad∧¬O ad.block ∧
    ∀(i:Nat) (x:e.den),d[i]?=some x→∃f:List Value,f.length=e.size∧(∀(j:Nat) (v:Value),f[j]?=some v→w.cell? (ad.add (i*e.size+j))=some v)∧Be w O e f x)
 | .prod a b,cs,d=>∃c1 c2:List Value,cs=c1++c2∧Be w O a c1 d.1∧Be w O b c2 d.2
 | .agg t,cs,d=>Be w O t cs d
 | .ref k,cs,_=>cs=[KJ k]
def BM (w:World) (O:Nat→Prop) (t:Ty) (v:Value) (d:t.den):Prop:=∃cs,Be w O t cs d∧v=t.wrap cs
theorem B3 (a:Addr) (n:Nat):(a.add n).block=a.block:=by unfold Addr.add;split<;>rfl
theorem Ct (a:Addr) (i j:Nat):(a.add i).add j=a.add (i+j):=by
 unfold Addr.add;by_cases hi:i=0<;>by_cases b:j=0<;>simp[hi,b,ABK]
theorem LI (a:Addr):a.add 0=a:=rfl
theorem Wp (g j:Nat):(⟨g,0,none⟩:Addr).add j=⟨g,j,none⟩:=by
 unfold Addr.add;split<;>simp_all
theorem IV (g i j:Nat):(⟨g,i,none⟩:Addr).add j=⟨g,i+j,none⟩:=by
 unfold Addr.add;split<;>simp_all
theorem Ty.size_pos:∀t:Ty,0<t.size
 | .int _=>by simp[Ty.size]
 | .bool=>by simp[Ty.size]
 | .str=>by simp[Ty.size]
 | .slice _=>by simp[Ty.size]
 | .ref _=>by simp[Ty.size]
 | .prod a b=>by have:=a.size_pos;simp[Ty.size];omega
 | .agg t=>by simpa[Ty.size] using t.size_pos
theorem Be.length {w:World} {O:Nat→Prop}:∀ {t:Ty} {cs:List Value} {d:t.den},Be w O t cs d→cs.length=t.size
 | .int _,_,_,h=>by obtain⟨rfl,_⟩:=h;rfl
 | .bool,_,_,h=>by have h:_=_:=h;subst h;rfl
 | .str,_,_,h=>by obtain⟨rfl,_⟩:=h;rfl
 | .slice _,_,_,h=>by obtain⟨_,_,rfl,_⟩:=h;rfl
 | .ref _,_,_,h=>by have h:_=_:=h;subst h;rfl
 | .prod a b,_,_,h=>by
  obtain⟨c1,c2,rfl,h1,c⟩:=h;simp[Ty.size,Be.length h1,Be.length c]
 | .agg t,_,_,h=>by
  have h:Be w O t _ _:=h;simpa[Ty.size] using Be.length h
theorem Be.one {w:World} {O:Nat→Prop}:∀ {t:Ty} {cs:List Value} {d:t.den},Be w O t cs d→∀v∈cs,v.oneCell'=true
 | .int _,_,_,h=>by obtain⟨rfl,_⟩:=h;simp[Value.oneCell']
 | .bool,_,_,h=>by have h:_=_:=h;subst h;simp[Value.oneCell']
 | .str,_,_,h=>by obtain⟨rfl,_⟩:=h;simp[Value.oneCell']
 | .slice _,_,_,h=>by obtain⟨_,_,rfl,_⟩:=h;simp[Value.oneCell']
 | .ref k,_,_,h=>by
  have h:_=[KJ k]:=h;subst h;match k with
  | 0=>simp[Value.oneCell',KJ]
  | 1=>simp[Value.oneCell',KJ]
  | _+2=>simp[Value.oneCell',KJ]
 | .prod a b,_,_,h=>by
  obtain⟨c1,c2,rfl,h1,e⟩:=h;intro v c;rcases ON.1 c with c|c
  ·exact Be.one h1 v c
  ·exact Be.one e v c
 | .agg t,_,_,h=>by
  have h:Be w O t _ _:=h;exact Be.one h
theorem Be.mono {w w':World} {O O':Nat→Prop} (f:∀b,b<w.heap.size→¬O b→¬O' b) (g:∀b,b<w.heap.size→¬O b→w'.heap[b]?=w.heap[b]?) :
  ∀ {t:Ty} {cs:List Value} {d:t.den},Be w O t cs d→Be w' O' t cs d
 | .int _,_,_,h=>h
 | .bool,_,_,h=>h
 | .str,_,_,h=>h
 | .ref _,_,_,h=>h
 | .slice e,_,d,h=>by
  obtain⟨a,c,rfl,h1,l,m⟩:=h;refine⟨a,c,rfl,h1,l,?_⟩;rcases m with m|⟨ad,rfl,o,u⟩
  ·exact .inl m
  ·by_cases p:d=[]
   ·exact .inl p
   ·have s:ad.block<w.heap.size:=by
     obtain⟨x,r,rfl⟩:∃x r,d=x :: r:=List.exists_cons_of_ne_nil p;obtain⟨k,q,n,_⟩:=u 0 x rfl;have hp:=e.size_pos;have:k[0]?=some (k[0]'(by omega)):=AT (by omega);have:=block_lt_of_cell (n 0 _ this)
     rwa [B3]at this
    refine .inr ⟨ad,rfl,f _ s o,fun i x hi=>?_⟩;obtain⟨k,q,n,z⟩:=u i x hi;refine⟨k,q,fun j v y=>?_,Be.mono f g z⟩;rw[AC2 (w:=w) (w':=w')]
    ·exact n j v y
    ·rw[B3];exact g _ s o
 | .prod a b,_,_,h=>by
  obtain⟨c1,c2,rfl,h1,l⟩:=h;exact⟨c1,c2,rfl,Be.mono f g h1,Be.mono f g l⟩
 | .agg t,_,_,h=>by
  have h:Be w O t _ _:=h;exact(Be.mono f g h:Be w' O' t _ _)
theorem BM.mono {w w':World} {O O':Nat→Prop} (c:∀b,b<w.heap.size→¬O b→¬O' b) (e:∀b,b<w.heap.size→¬O b→w'.heap[b]?=w.heap[b]?)
  {t:Ty} {v:Value} {d:t.den} (h:BM w O t v d):BM w' O' t v d :=
 let ⟨cs,h1,a⟩:=h
 ⟨cs,h1.mono c e,a⟩
theorem Be.zero (w:World) (O:Nat→Prop):∀t:Ty,Be w O t t.zero t.dflt
 | .int k=>⟨rfl,by cases k<;>exact⟨by decide,by decide⟩⟩
 | .bool=>rfl
 | .str=>⟨rfl,by simp[Ty.dflt,AO]⟩
 | .slice _=>⟨none,0,rfl,by simp[Ty.dflt],by simp[Ty.dflt,AO],.inl rfl⟩
 | .ref _=>rfl
 | .prod a b=>⟨_,_,rfl,Be.zero w O a,Be.zero w O b⟩
 | .agg t=>(Be.zero w O t:Be w O t _ _)
end
section
open Go
structure PV where
 t:Ty
 d:t.den
def BG (t:Ty) (p:PV):Option t.den:=if h:p.t=t then some (h▸p.d) else none
theorem El (t:Ty) (d:t.den):BG t ⟨t,d⟩=some d:=by simp[BG]
def GF:(t:Ty)→Nat→t.den→Option PV
 | .prod a _,0,d=>some ⟨a,d.1⟩
 | .prod _ b,k+1,d=>GF b k d.2
 | .int k,0,d=>some ⟨.int k,d⟩
 | .bool,0,d=>some ⟨.bool,d⟩
 | .str,0,d=>some ⟨.str,d⟩
 | .slice e,0,d=>some ⟨.slice e,d⟩
 | .agg t,0,d=>some ⟨.agg t,d⟩
 | .ref k,0,d=>some ⟨.ref k,d⟩
 | _,_,_=>none
def Ln:(t:Ty)→Nat→t.den→PV→Option t.den
 | .prod a _,0,d,x=>(BG a x).map fun y=>(y,d.2)
 | .prod _ b,k+1,d,x=>(Ln b k d.2 x).map fun y=>(d.1,y)
 | .int k,0,_,x=>BG (.int k) x
 | .bool,0,_,x=>BG .bool x
 | .str,0,_,x=>BG .str x
 | .slice e,0,_,x=>BG (.slice e) x
 | .agg t,0,_,x=>BG (.agg t) x
 | .ref k,0,_,x=>BG (.ref k) x
 | _,_,_,_=>none
def JF:Ty→Nat→Option Nat
 | .prod _ _,0=>some 0
 | .prod a b,k+1=>(JF b k).map (a.size + ·)
 | .int _,0=>some 0
 | .bool,0=>some 0
 | .str,0=>some 0
 | .slice _,0=>some 0
 | .agg _,0=>some 0
 | .ref _,0=>some 0
 | _,_=>none
def VX:Ty→Nat→Option Ty
 | .prod a _,0=>some a
 | .prod _ b,k+1=>VX b k
 | .int k,0=>some (.int k)
 | .bool,0=>some .bool
 | .str,0=>some .str
 | .slice e,0=>some (.slice e)
 | .agg t,0=>some (.agg t)
 | .ref k,0=>some (.ref k)
 | _,_=>none
def QU:List Nat→(t:Ty)→t.den→Option PV
 | [],t,d=>some ⟨t,d⟩
 | k :: r,.agg t,d=>match GF t k d with
  | some pv=>QU r pv.t pv.d
  | none=>none
 | _ :: _,_,_=>none
def RJ:List Nat→(t:Ty)→t.den→PV→Option t.den
 | [],t,_,x=>BG t x
 | k :: r,.agg t,d,x=>match GF t k d with
  | some pv=>match RJ r pv.t pv.d x with
   | some y=>Ln t k d ⟨pv.t,y⟩
   | none=>none
  | none=>none
 | _ :: _,_,_,_=>none
def KM:List Nat→Ty→Option Nat
 | [],_=>some 0
 | k :: r,.agg t=>match JF t k,VX t k with
  | some o,some u=>(KM r u).map (o + ·)
  | _,_=>none
 | _ :: _,_=>none
inductive AV where
 
 | p (t:Ty) (d:t.den)
 
 | raw (v:Value)
 
 | sr (n:Nat) (e:Ty) (lo hi:Nat)
 
 | ep (n:Nat) (e:Ty) (i:Nat) (path:List Nat) (off:Nat)
 
 | pc (e:Ty) (d:List e.den)
 
 | ip (t:Ty) (d:t.den)
 
 | bp (n:Nat) (path:List Nat) (off:Nat)
 | fn (f:FuncId)
 
 | clo (f:FuncId) (ns:List Nat)
 
 | mp (n:Nat)
 
 | yl (n:Nat)
 
 | nin (n:Nat) (e:Ty) (i len:Nat)
 
 | ag (l:List AV)
 | tup (l:List AV)
 
 | top
inductive Obj where
 | arr (et:TypeId) (e:Ty) (xs:List e.den)
 | box (et:TypeId) (st:Bool) (fs:List AV)
 
 | mapo (k v:Ty) (l:List (k.den×v.den))
 
 | itr (k v:Ty) (l:List (k.den×v.den)) (left:List Nat) (cur:Option Nat)
 
 | nest (et iet:TypeId) (k e:Ty) (xs:List (k.den×List e.den)) (h:Option Nat)
 
 | frame (tm:Array Value) (fs:List (Nat×AV))
 
 | loop (L:Go.Loop)
 
 | dfr
structure St where
 env:List (Nat×AV)
 objs:List (Nat×Obj)
def lk {α:Type}:Nat→List (Nat×α)→Option α
 | _,[]=>none
 | k,(j,v) :: r=>if k=j then some v else lk k r
def del {α:Type}:Nat→List (Nat×α)→List (Nat×α)
 | _,[]=>[]
 | k,(j,v) :: r=>if k=j then del k r else (j,v) :: del k r
def upd {α:Type}:Nat→α→List (Nat×α)→List (Nat×α)
 | _,_,[]=>[]
 | k,u,(j,v) :: r=>if k=j then (j,u) :: upd k u r else (j,v) :: upd k u r
def sub {α:Type} (xs:List α) (lo hi:Nat):List α:=(xs.drop lo).take (hi-lo)
theorem Hc {α:Type} (xs:List α):sub xs 0 xs.length=xs:=by simp[sub]
structure TI where
 ty:Ty
 offs:List (Nat×Nat):=[]
 el:TypeId:=0
 bytes:Nat
inductive RV where
 | p (t:Ty) (d:t.den)
 | own (et:TypeId) (e:Ty) (xs:List e.den)
@[reducible] def JG:List Ty→Type
 | []=>Unit
 | t :: r=>t.den×JG r
def Ty.flat:Ty→Bool
 | .slice _=>false
 | .prod a b=>a.flat&&b.flat
 | .agg t=>t.flat
 | .int _=>true
 | .bool=>true
 | .str=>true
 | .ref _=>true
def RV.flat:RV→Bool
 | .p t _=>t.flat
 | .own _ _ _=>false
structure Ad where
 ins:List Ty
 lend:Bool:=false
 pre:JG ins→Prop
 out:JG ins→List RV
structure Tb where
 ty:List (Nat×TI)
 fns:List (Nat×Ad)
 
 pure:List Nat:=[]
 
 nests:List (Nat×TypeId):=[]
 
 live:List Nat:=[]
def inB (n:Nat):List Nat→Bool
 | []=>false
 | m :: r=>if n=m then true else inB n r
def GS:Value→AV
 | .int k n=>if k.min≤n∧n≤k.max then .p (.int k) n else .raw (.int k n)
 | .bool b=>.p .bool b
 | .string s=>if s.size≤AO then .p .str s else .raw (.string s)
 | v=>.raw v
def AZ (σ:St):Operand→Option AV
 | .tmp t=>lk t σ.env
 | .const v=>some (GS v)
 | .func f=>some (.fn f)
 | .global _=>none
def OO (e:Ty) (lo hi:Nat):Option Obj→Option (List e.den)
 | some (.arr _ a xs)=>BG (.slice e) ⟨.slice a,sub xs lo hi⟩
 | some (.nest _ _ k a xs none)=>BG (.slice e) ⟨.slice (.agg (.prod k (.slice a))),sub xs lo hi⟩
 | _=>none
def OP (e:Ty) (i:Nat):Option Obj→Option (List e.den)
 | some (.nest _ _ k a xs none)=>BG (.slice e) ⟨.slice a,(xs.getD i (k.dflt,[])).2⟩
 | _=>none
def Dy (l:Bool) (σ:St):(t:Ty)→AV→Option t.den
 | t,.p u d=>BG t ⟨u,d⟩
 | .slice e,.sr n a lo hi=>if l=true∧a=e then OO e lo hi (lk n σ.objs) else none
 | .slice e,.nin n a i _=>if l=true∧a=e then OP e i (lk n σ.objs) else none
 | .slice _,.raw (.slice none 0 0)=>some []
 | _,_=>none
def KN {α β:Type}:Option α→Option β→Option (α×β)
 | some a,some b=>some (a,b)
 | _,_=>none
def JH (l:Bool) (σ:St):List AV→(t:Ty)→Option t.den
 | [],_=>none
 | [x],t=>Dy l σ t x
 | x :: y :: r,.prod a b=>KN (Dy l σ a x) (JH l σ (y :: r) b)
 | _ :: _ :: _,_=>none
def J0 (l:Bool) (σ:St):(t:Ty)→AV→Option t.den
 | .agg t,.ag fs=>JH l σ fs t
 | t,x=>Dy l σ t x
def AU (n:Nat):List Nat→Bool
 | []=>false
 | m :: r=>if n=m then true else AU n r
theorem AW (n:Nat):∀l:List Nat,AU n l=true↔n∈l
 | []=>by simp[AU]
 | m :: r=>by
  simp only[AU,Do];split
  ·rename_i h;simp[h]
  ·rename_i h;simp[h,AW n r]
mutual
def AV.fgt (hs:List Nat):AV→AV
 | .sr m e lo hi=>if AU m hs=true then .top else .sr m e lo hi
 | .ep m e i path off=>if AU m hs=true then .top else .ep m e i path off
 | .nin m e i len=>if AU m hs=true then .top else .nin m e i len
 | .bp m path off=>if AU m hs=true then .top else .bp m path off
 | .mp m=>if AU m hs=true then .top else .mp m
 | .yl m=>if AU m hs=true then .top else .yl m
 | .clo f ns=>if (ns.any fun n=>AU n hs)=true then .top else .clo f ns
 | .ag l=>.ag (AV.fgts hs l)
 | .tup l=>.tup (AV.fgts hs l)
 | .p t d=>.p t d
 | .pc e d=>.pc e d
 | .raw v=>.raw v
 | .ip t d=>.ip t d
 | .fn f=>.fn f
 | .top=>.top
def AV.fgts (hs:List Nat):List AV→List AV
 | []=>[]
 | x :: r=>AV.fgt hs x :: AV.fgts hs r
end
def Ba (hs:List Nat):List (Nat×AV)→List (Nat×AV)
 | []=>[]
 | (s,x) :: r=>(s,x.fgt hs) :: Ba hs r
def Obj.fgt (hs:List Nat):Obj→Obj
 | .arr et e xs=>.arr et e xs
 | .box et i fs=>.box et i (AV.fgts hs fs)
 | .mapo k v l=>.mapo k v l
 | .nest et b k e xs h=>.nest et b k e xs h
 | .frame j fs=>.frame j (Ba hs fs)
 | .loop L=>.loop L
 | .itr c g d f a=>.itr c g d f a
 | .dfr=>.dfr
def Ab (a hs:List Nat):List (Nat×Obj)→List (Nat×Obj)
 | []=>[]
 | (n,o) :: r=>if AU n a=true then Ab a hs r else (n,o.fgt hs) :: Ab a hs r
mutual
def AV.trn (n:Nat) (hs:List Nat):AV→AV
 | .nin m e i len=>if m=n∨AU m hs=true then .top else .nin m e i len
 | .sr m e lo hi=>if AU m hs=true then .top else .sr m e lo hi
 | .ep m e i path off=>if AU m hs=true then .top else .ep m e i path off
 | .bp m path off=>if AU m hs=true then .top else .bp m path off
 | .mp m=>if AU m hs=true then .top else .mp m
 | .yl m=>if AU m hs=true then .top else .yl m
 | .clo f ns=>if (ns.any fun n=>AU n hs)=true then .top else .clo f ns
 | .ag l=>.ag (AV.trns n hs l)
 | .tup l=>.tup (AV.trns n hs l)
 | .p t d=>.p t d
 | .pc e d=>.pc e d
 | .raw v=>.raw v
 | .ip t d=>.ip t d
 | .fn f=>.fn f
 | .top=>.top
def AV.trns (n:Nat) (hs:List Nat):List AV→List AV
 | []=>[]
 | x :: r=>AV.trn n hs x :: AV.trns n hs r
end
def Dp (n:Nat) (hs:List Nat):List (Nat×AV)→List (Nat×AV)
 | []=>[]
 | (s,x) :: r=>(s,x.trn n hs) :: Dp n hs r
def Obj.trn (n:Nat) (hs:List Nat):Obj→Obj
 | .arr et e xs=>.arr et e xs
 | .box et i fs=>.box et i (AV.trns n hs fs)
 | .mapo k v l=>.mapo k v l
 | .nest et b k e xs h=>.nest et b k e xs h
 | .frame j fs=>.frame j (Dp n hs fs)
 | .loop L=>.loop L
 | .itr c g d f a=>.itr c g d f a
 | .dfr=>.dfr
def CJ (n:Nat) (hs:List Nat):List (Nat×Obj)→List (Nat×Obj)
 | []=>[]
 | (m,o) :: r=>if AU m (n :: hs)=true then CJ n hs r else (m,o.trn n hs) :: CJ n hs r
def CR:Option Obj→Bool
 | some (.nest _ _ _ _ _ _)=>true
 | _=>false
def Mj (σ:St) (e:Ty):AV→Option (List e.den)
 | .sr n a lo hi=>if CR (lk n σ.objs)=true then none else J0 true σ (.slice e) (.sr n a lo hi)
 | x=>J0 true σ (.slice e) x
end
section
open Go
def AY (x y:ByteArray):Bool:=x.toList==y.toList
def GN (x y:ByteArray):Bool:=Op.bytesLess x.toList y.toList
def Bu (op:BinOp) (k:IntKind) (x y:Int):Int :=
 k.wrap (match op with
  | .and=>((BitVec.ofInt k.bits x &&& BitVec.ofInt k.bits y).toNat:Int)
  | .or=>((BitVec.ofInt k.bits x ||| BitVec.ofInt k.bits y).toNat:Int)
  | .xor=>((BitVec.ofInt k.bits x ^^^ BitVec.ofInt k.bits y).toNat:Int)
  | _=>((BitVec.ofInt k.bits x &&& ~~~BitVec.ofInt k.bits y).toNat:Int))
def QV (k:IntKind) (x y:Int):Int:=k.wrap (x*2 ^ (min y.toNat k.bits))
def TW (k:IntKind) (x y:Int):Int:=x.fdiv (2 ^ (min y.toNat k.bits))
def ZG (k:IntKind) (a b:Int):BinOp→Prop×AV
 | .add=>(Jz k (a+b),.p (.int k) (a+b))
 | .sub=>(Jz k (a-b),.p (.int k) (a-b))
 | .mul=>(Jz k (a*b),.p (.int k) (a*b))
 | .quo=>(b≠0∧Jz k (a.tdiv b),.p (.int k) (a.tdiv b))
 | .rem=>(b≠0∧Jz k (a.tmod b),.p (.int k) (a.tmod b))
 | .and=>(True,.p (.int k) (Bu .and k a b))
 | .or=>(True,.p (.int k) (Bu .or k a b))
 | .xor=>(True,.p (.int k) (Bu .xor k a b))
 | .andNot=>(True,.p (.int k) (Bu .andNot k a b))
 | .shl=>(False,.top)
 | .shr=>(False,.top)
 | .eql=>(True,.p .bool (a==b))
 | .neq=>(True,.p .bool (a != b))
 | .lss=>(True,.p .bool (decide (a<b)))
 | .leq=>(True,.p .bool (decide (a≤b)))
 | .gtr=>(True,.p .bool (decide (b<a)))
 | .geq=>(True,.p .bool (decide (b≤a)))
def TX (a b:ByteArray):BinOp→Prop×AV
 | .add=>(a.size+b.size≤AO,.p .str (a++b))
 | .eql=>(True,.p .bool (AY a b))
 | .neq=>(True,.p .bool (!AY a b))
 | .lss=>(True,.p .bool (GN a b))
 | .leq=>(True,.p .bool (GN a b||AY a b))
 | .gtr=>(True,.p .bool (!(GN a b||AY a b)))
 | .geq=>(True,.p .bool (!GN a b))
 | _=>(False,.top)
def t7 (op:BinOp) (k:IntKind) (a:Int) (c:IntKind) (b:Int):Prop×AV :=
 match op with
 | .shl=>(0≤b,.p (.int k) (QV k a b))
 | .shr=>(0≤b∧Jz k (TW k a b),.p (.int k) (TW k a b))
 | op=>if k=c then ZG k a b op else (False,.top)
def kC:Ty→AV
 | .slice _=>.raw (.slice none 0 0)
 | .ref k=>.raw (KJ k)
 | t=>.p t t.dflt
def kD:Ty→List AV
 | .prod a b=>kC a :: kD b
 | t=>[kC t]
def uD:(t:Ty)→t.den→List AV
 | .prod a b,d=>.p a d.1 :: uD b d.2
 | .int k,d=>[.p (.int k) d]
 | .bool,d=>[.p .bool d]
 | .str,d=>[.p .str d]
 | .slice e,d=>[.p (.slice e) d]
 | .agg t,d=>[.p (.agg t) d]
 | .ref k,d=>[.p (.ref k) d]
def AV.cells:AV→Nat
 | .p t _=>t.size
 | .ag _=>0
 | .tup _=>0
 | _=>1
def B0:List AV→Nat→Nat
 | _,0=>0
 | [],_+1=>0
 | x :: r,k+1=>x.cells+B0 r k
def IW (a:Bool) (fs:List AV):List Nat→Option AV
 | []=>if a then some (.ag fs) else fs[0]?
 | [k]=>if a then fs[k]? else none
 | k :: r=>if a then match fs[k]? with
   | some (.p t d)=>(QU r t d).map fun pv=>.p pv.t pv.d
   | _=>none
  else none
def Mk (fs:List AV):List Nat→Option Nat
 | []=>some 0
 | k :: r=>match fs[k]? with
  | some (.p t _)=>(KM r t).map (B0 fs k + ·)
  | some _=>if r.isEmpty then some (B0 fs k) else none
  | none=>none
def Ty.cell1:Ty→Bool
 | .agg _=>false
 | .prod _ _=>false
 | .int _=>true
 | .bool=>true
 | .str=>true
 | .slice _=>true
 | .ref _=>true
def CB (ty:Ty):AV→Bool
 | .p t _=>ty=t
 | .ag l=>match ty with|.agg t=>B0 l l.length==t.size|_=>false
 | .tup _=>false
 | .top=>false
 | .raw u=>u.oneCell'&&ty.cell1
 | _=>ty.cell1
def Lu (ty:Ty):AV→Bool
 | .top=>ty.cell1
 | x=>CB ty x
def Fv (n:Nat):Bool:=decide (1000000≤n)
mutual
def AV.frz (n:Nat) (e:Ty) (xs:List e.den):AV→AV
 | .sr m e' lo hi=>if m=n then (if e'=e then .p (.slice e) (sub xs lo hi) else .top) else .sr m e' lo hi
 | .ep m e' i path off=>if m=n then .top else .ep m e' i path off
 | .nin m e' i len=>if m=n then .top else .nin m e' i len
 | .ag l=>.ag (AV.frzs n e xs l)
 | .tup l=>.tup (AV.frzs n e xs l)
 | .p t d=>.p t d
 | .pc e d=>.pc e d
 | .raw v=>.raw v
 | .ip t d=>.ip t d
 | .bp m path off=>.bp m path off
 | .fn f=>.fn f
 | .clo f ns=>.clo f ns
 | .mp n=>.mp n
 | .yl n=>.yl n
 | .top=>.top
def AV.frzs (n:Nat) (e:Ty) (xs:List e.den):List AV→List AV
 | []=>[]
 | x :: r=>AV.frz n e xs x :: AV.frzs n e xs r
end
def Cu (n:Nat) (e:Ty) (xs:List e.den):List (Nat×AV)→List (Nat×AV)
 | []=>[]
 | (s,x) :: r=>(s,x.frz n e xs) :: Cu n e xs r
def A2 (n:Nat) (e:Ty) (xs:List e.den):List (Nat×Obj)→List (Nat×Obj)
 | []=>[]
 | (m,.arr et a ys) :: r=>(m,.arr et a ys) :: A2 n e xs r
 | (m,.box et j fs) :: r=>(m,.box et j (AV.frzs n e xs fs)) :: A2 n e xs r
 | (m,.mapo k v l) :: r=>(m,.mapo k v l) :: A2 n e xs r
 | (m,.nest et c k a ys h) :: r=>(m,.nest et c k a ys h) :: A2 n e xs r
 | (m,.frame o fs) :: r=>(m,.frame o (Cu n e xs fs)) :: A2 n e xs r
 | (m,.loop L) :: r=>(m,.loop L) :: A2 n e xs r
 | (m,.itr d i f g b) :: r=>(m,.itr d i f g b) :: A2 n e xs r
 | (m,.dfr) :: r=>(m,.dfr) :: A2 n e xs r
def ZH (n:Nat) (σ:St):Option Obj→St
 | some (.arr _ e xs)=>⟨Cu n e xs σ.env,A2 n e xs (del n σ.objs)⟩
 | some (.nest _ _ k e xs none)=>⟨Cu n (.agg (.prod k (.slice e))) xs σ.env,A2 n (.agg (.prod k (.slice e))) xs (del n σ.objs)⟩
 | _=>σ
def frz (n:Nat) (σ:St):St:=if Fv n=true then σ else ZH n σ (lk n σ.objs)
mutual
def AV.drp (n:Nat):AV→AV
 | .sr m e' lo hi=>if m=n then .top else .sr m e' lo hi
 | .ep m e' i path off=>if m=n then .top else .ep m e' i path off
 | .nin m e' i len=>if m=n then .top else .nin m e' i len
 | .ag l=>.ag (AV.drps n l)
 | .tup l=>.tup (AV.drps n l)
 | .p t d=>.p t d
 | .pc e d=>.pc e d
 | .raw v=>.raw v
 | .ip t d=>.ip t d
 | .bp m path off=>.bp m path off
 | .fn f=>.fn f
 | .clo f ns=>.clo f ns
 | .mp n=>.mp n
 | .yl n=>.yl n
 | .top=>.top
def AV.drps (n:Nat):List AV→List AV
 | []=>[]
 | x :: r=>AV.drp n x :: AV.drps n r
end
def E3 (n:Nat):List (Nat×AV)→List (Nat×AV)
 | []=>[]
 | (s,x) :: r=>(s,x.drp n) :: E3 n r
def BO (n:Nat):List (Nat×Obj)→List (Nat×Obj)
 | []=>[]
 | (m,.arr et a ys) :: r=>(m,.arr et a ys) :: BO n r
 | (m,.box et i fs) :: r=>(m,.box et i (AV.drps n fs)) :: BO n r
 | (m,.mapo k v l) :: r=>(m,.mapo k v l) :: BO n r
 | (m,.nest et c k a ys h) :: r=>(m,.nest et c k a ys h) :: BO n r
 | (m,.frame j fs) :: r=>(m,.frame j (E3 n fs)) :: BO n r
 | (m,.loop L) :: r=>(m,.loop L) :: BO n r
 | (m,.itr d g e f b) :: r=>(m,.itr d g e f b) :: BO n r
 | (m,.dfr) :: r=>(m,.dfr) :: BO n r
mutual
def AV.names:AV→List Nat
 | .sr m _ _ _=>[m]
 | .ag l=>AV.namess l
 | .tup l=>AV.namess l
 | .p _ _=>[]
 | .pc _ _=>[]
 | .raw _=>[]
 | .ip _ _=>[]
 | .bp _ _ _=>[]
 | .ep _ _ _ _ _=>[]
 | .nin _ _ _ _=>[]
 | .fn _=>[]
 | .clo _ _=>[]
 | .mp _=>[]
 | .yl _=>[]
 | .top=>[]
def AV.namess:List AV→List Nat
 | []=>[]
 | x :: r=>x.names++AV.namess r
end
def Fx (σ:St):Option Operand→Option (Option AV)
 | none=>some none
 | some x=>(AZ σ x).map some
def EP (σ:St) (e:Ty):Nat→List (Nat×Operand)→Option (List e.den)
 | _,[]=>some []
 | k,(i,x) :: r=>if i=k then match AZ σ x with
   | some av=>match J0 false σ e av,EP σ e (k+1) r with
    | some y,some ys=>some (y :: ys)
    | _,_=>none
   | none=>none
  else none
def Hd:AV→Bool
 | .p (.prod _ _) _=>false
 | .p _ _=>true
 | .raw u=>u.oneCell'
 | .ag _=>false
 | .tup _=>false
 | .top=>false
 | _=>true
def E4 (σ:St):Option AV→Option AV→Option AV
 | some (.p t _),some (.ag l)=>(J0 false σ t (.ag l)).map fun d=>.p t d
 | _,x=>x
def DQ (σ:St) (offs:List (Nat×Nat)):List AV→List (Nat×Operand)→Option (List AV)
 | fs,[]=>some fs
 | fs,(i,x) :: r=>match E4 σ fs[i]? (AZ σ x) with
  | some av=>if Hd av=true∧(fs[i]?.map AV.cells)=some av.cells∧offs[i]?=some (B0 fs i,av.cells) then DQ σ offs (fs.set i av) r else none
  | none=>none
def FL (l:Bool) (σ:St):(ts:List Ty)→List Operand→Option (JG ts)
 | [],[]=>some ()
 | t :: ts,x :: xs=>match AZ σ x with
  | some av=>match J0 l σ t av,FL l σ ts xs with
   | some y,some ys=>some (y,ys)
   | _,_=>none
  | none=>none
 | _,_=>none
def Wq (name:Nat):RV→AV
 | .p t d=>.p t d
 | .own _ e xs=>.sr name e 0 xs.length
def Pe (name:Nat):RV→List (Nat×Obj)
 | .p _ _=>[]
 | .own et e xs=>[(name,.arr et e xs)]
def Lv:Nat→List RV→List AV
 | _,[]=>[]
 | n,r :: l=>Wq n r :: Lv (n+10000) l
def Ce:Nat→List RV→List (Nat×Obj)
 | _,[]=>[]
 | n,r :: l=>Pe n r++Ce (n+10000) l
def IX (name:Nat):List RV→AV
 | []=>.raw (.tuple #[])
 | [r]=>Wq name r
 | l=>.tup (Lv name l)
def IR:(t:Ty)→t.den→t.den→Bool
 | .int _,a,b=>(a:Int)==b
 | .bool,a,b=>(a:Bool)==b
 | .str,a,b=>(a:ByteArray)==b
 | .prod t u,a,b=>IR t a.1 b.1&&IR u a.2 b.2
 | .agg t,a,b=>IR t a b
 | .slice _,_,_=>false
 | .ref _,_,_=>false
def ZI:Ty→Bool
 | .prod (.int _) (.int _)=>true
 | _=>false
def TY:Ty→Bool
 | .int _=>true
 | .bool=>true
 | .str=>true
 | .prod _ _=>false
 | .agg t=>ZI t
 | .slice _=>false
 | .ref _=>false
def Ay (a b:Ty) (k:a.den):List (a.den×b.den)→Option b.den
 | []=>none
 | x :: r=>if IR a k x.1=true then some x.2 else Ay a b k r
def Gi (a b:Ty) (k:a.den) (v:b.den):List (a.den×b.den)→List (a.den×b.den)
 | []=>[(k,v)]
 | x :: r=>if IR a k x.1=true then (k,v) :: r else x :: Gi a b k v r
abbrev BN:=Option (Prop×AV×List (Nat×Obj))
def Gj (x:AV) (lo hi:Option AV):BN :=
 match x,lo,hi with
 | .p (.slice e) l,none,some (.p (.int _) h)=>some (0≤h∧h≤l.length,.p (.slice e) (sub l 0 h.toNat),[])
 | .p (.slice e) l,some (.p (.int _) a),none=>some (0≤a∧a≤l.length,.p (.slice e) (sub l a.toNat l.length),[])
 | .p (.slice e) l,some (.p (.int _) a),some (.p (.int _) h)=>some (0≤a∧a≤h∧h≤l.length,.p (.slice e) (sub l a.toNat h.toNat),[])
 | .p .str s,none,some (.p (.int _) h)=>some (0≤h∧h≤s.size,.p .str (s.extract 0 h.toNat),[])
 | .p .str s,some (.p (.int _) a),none=>some (0≤a∧a≤s.size,.p .str (s.extract a.toNat s.size),[])
 | .p .str s,some (.p (.int _) a),some (.p (.int _) h)=>some (0≤a∧a≤h∧h≤s.size,.p .str (s.extract a.toNat h.toNat),[])
 | .sr n e b c,none,some (.p (.int _) h)=>some (0≤h∧h≤(c-b:Nat),.sr n e b (b+h.toNat),[])
 | .sr n e b c,some (.p (.int _) a),none=>some (0≤a∧a≤(c-b:Nat),.sr n e (b+a.toNat) c,[])
 | .sr n e b c,some (.p (.int _) a),some (.p (.int _) h)=>some (0≤a∧a≤h∧h≤(c-b:Nat),.sr n e (b+a.toNat) (b+h.toNat),[])
 | _,_,_=>none
def Fy:Option AV→BN
 | some v=>some (True,v,[])
 | none=>none
def J1:Option AV→Option AV→Option AV→BN
 | some (.p .bool true),x,_=>Fy x
 | some (.p .bool false),_,y=>Fy y
 | _,_,_=>none
def JI (d:Nat) (t:TypeId):Option TI→BN
 | some ⟨.agg u,_,_,_⟩=>some (True,.bp d [] 0,[(d,.box t true (kD u))])
 | some ⟨.int k,_,_,_⟩=>some (True,.bp d [] 0,[(d,.box t false [kC (.int k)])])
 | some ⟨.bool,_,_,_⟩=>some (True,.bp d [] 0,[(d,.box t false [kC .bool])])
 | some ⟨.str,_,_,_⟩=>some (True,.bp d [] 0,[(d,.box t false [kC .str])])
 | some ⟨.slice e,_,_,_⟩=>some (True,.bp d [] 0,[(d,.box t false [kC (.slice e)])])
 | some ⟨.ref k,_,_,_⟩=>some (True,.bp d [] 0,[(d,.box t false [kC (.ref k)])])
 | _=>none
def QW (d:Nat) (t:TypeId):Option TI→Option AV→BN
 | some ⟨.agg u,_,_,_⟩,some (.p (.agg a) v)=>if u=a then some (True,.bp d [] 0,[(d,.box t true (uD a v))]) else none
 | some ⟨.agg u,_,_,_⟩,some (.ag l)=>if l.map AV.cells=(kD u).map AV.cells then some (True,.bp d [] 0,[(d,.box t true l)]) else none
 | some ⟨.int k,_,_,_⟩,some v=>if CB (.int k) v then some (True,.bp d [] 0,[(d,.box t false [v])]) else none
 | some ⟨.bool,_,_,_⟩,some v=>if CB .bool v then some (True,.bp d [] 0,[(d,.box t false [v])]) else none
 | some ⟨.str,_,_,_⟩,some v=>if CB .str v then some (True,.bp d [] 0,[(d,.box t false [v])]) else none
 | some ⟨.slice e,_,_,_⟩,some v=>if CB (.slice e) v then some (True,.bp d [] 0,[(d,.box t false [v])]) else none
 | some ⟨.ref k,_,_,_⟩,some v=>if CB (.ref k) v then some (True,.bp d [] 0,[(d,.box t false [v])]) else none
 | _,_=>none
def H6 (σ:St) (parts:List (Nat×Operand)):Option TI→BN
 | some ⟨.agg u,offs,_,_⟩=>Fy ((DQ σ offs (kD u) parts).map AV.ag)
 | _=>none
def BW (a:Bool) (d:Nat) (n:Nat) (el:TypeId) (e:Ty):Option (List e.den)→BN
 | some xs=>some (xs.length=n∧n*e.size≤16777216,if a then .p (.slice e) xs else .sr d e 0 n,if a then [] else [(d,.arr el e xs)])
 | none=>none
def BP (a:Bool) (σ:St) (d:Nat) (n:Nat) (parts:List (Nat×Operand)):Option TI→BN
 | some ⟨.slice e,_,el,_⟩=>BW a d n el e (EP σ e 0 parts)
 | _=>none
def JJ (d:Nat) (el b:TypeId) (n:Nat) (k e:Ty):Option k.den→AV→BN
 | some a,.raw (.slice none 0 0)=>some (n=1∧k.size+1≤16777216,.sr d (.agg (.prod k (.slice e))) 0 1,[(d,.nest el b k e [(a,[])] none)])
 | some a,.pc c l=>if c=e then some ((n=1∧k.size+1≤16777216)∧List.length l=0,.sr d (.agg (.prod k (.slice e))) 0 1,[(d,.nest el b k e [(a,[])] none)]) else none
 | _,_=>none
def H7 (σ:St) (d:Nat) (el a:TypeId) (n:Nat):Ty→Option AV→BN
 | .agg (.prod k (.slice e)),some (.ag [x,y])=>JJ d el a n k e (Dy false σ k x) y
 | _,_=>none
def H8 (σ:St) (d:Nat) (a:TypeId) (n:Nat):List (Nat×Operand)→Option TI→BN
 | [(0,x)],some ⟨.slice t,_,el,_⟩=>H7 σ d el a n t (AZ σ x)
 | _,_=>none
def Fj (tb:Tb) (σ:St) (d:Nat) (n:Nat) (parts:List (Nat×Operand)) (ti:Option TI):Option TypeId→BN
 | some a=>H8 σ d a n parts ti
 | none=>BP (inB d tb.pure) σ d n parts ti
def He (ty:Ty) (fs:List AV) (a:List Nat) (off:Nat):Option AV→BN
 | some v=>if CB ty v=true∧Mk fs a=some off then some (True,v,[]) else none
 | none=>none
def Dz (ty:Ty) (a:List Nat) (off:Nat):Option Obj→BN
 | some (.box _ b fs)=>He ty fs a off (IW b fs a)
 | _=>none
def Hf (ty e:Ty) (a:List Nat) (off:Nat):Option PV→BN
 | some ⟨t,d⟩=>if ty=t∧KM a e=some off then some (True,.p t d,[]) else none
 | none=>none
def Hg (ty e:Ty) (i:Nat) (a:List Nat) (off:Nat):Option (List e.den)→BN
 | some ys=>Hf ty e a off (QU a e (ys.getD i e.dflt))
 | none=>none
def L9 (n:Nat) (ty:Ty) (i off:Nat) (k e:Ty) (x:k.den×List e.den):List Nat→BN
 | [0]=>if ty=k∧off=0 then some (True,.p k x.1,[]) else none
 | [1]=>if ty=.slice e∧off=k.size then some (True,.nin n e i x.2.length,[]) else none
 | _=>none
def D0 (n:Nat) (ty e:Ty) (i:Nat) (b:List Nat) (off:Nat):Option Obj→BN
 | some (.arr _ a xs)=>Hg ty e i b off (BG (.slice e) ⟨.slice a,xs⟩)
 | some (.nest _ _ k a xs none)=>if e=.agg (.prod k (.slice a)) then L9 n ty i off k a (xs.getD i (k.dflt,[])) b else none
 | _=>none
def IY (σ:St):Option TI→Option AV→BN
 | some ti,some (.bp n a off)=>Dz ti.ty a off (lk n σ.objs)
 | some ti,some (.ep n e i a off)=>D0 n ti.ty e i a off (lk n σ.objs)
 | some ti,some (.ip u v)=>if ti.ty=u then some (True,.p u v,[]) else none
 | _,_=>none
def Hh (o:Option (Nat×Nat)) (a:Option Nat):Option PV→BN
 | some ⟨t,d⟩=>if o.map (·.1)=a then some (True,.ip t d,[]) else none
 | none=>none
def RK (v:Nat→AV):Option (Nat×Nat)→BN
 | some (k,_)=>some (True,v k,[])
 | none=>none
def Ml (f:Nat) (o:Option (Nat×Nat)):AV→BN
 | .bp n a off=>RK (fun k=>.bp n (a++[f]) (off+k)) o
 | .ep n e i a off=>RK (fun k=>.ep n e i (a++[f]) (off+k)) o
 | .ip (.agg u) v=>Hh o (JF u f) (GF u f v)
 | _=>none
def GG (f:Nat):Option TI→Option AV→BN
 | some ⟨.agg _,offs,0,_⟩,some x=>Ml f offs[f]? x
 | _,_=>none
def JK (offs:List (Nat×Nat)) (x:AV):AV→BN
 | .p (.int _) k=>if 0≤k then Ml k.toNat offs[k.toNat]? x else none
 | _=>none
def E5:Option TI→Option AV→Option AV→BN
 | some ⟨.slice e,_,_,_⟩,some (.p (.slice a) l),some (.p (.int _) k)=>if e=a then some (0≤k∧k<l.length,.ip a (l.getD k.toNat a.dflt),[]) else none
 | some ⟨.slice e,_,_,_⟩,some (.sr n a lo hi),some (.p (.int _) k)=>if e=a then some (0≤k∧k<(hi-lo:Nat),.ep n a (lo+k.toNat) [] 0,[]) else none
 | some ⟨.agg _,offs,_+1,_⟩,some x,some i=>JK offs x i
 | _,_,_=>none
def Du:Option TI→Option AV→Option AV→BN
 | some ⟨.str,_,_,_⟩,some (.p .str s),some (.p (.int _) k)=>some (0≤k∧k<s.size,.p (.int .u8) ((s.data.getD k.toNat 0).toNat:Int),[])
 | _,_,_=>none
def RL:Option AV→BN
 | some (.bp n a off)=>some (True,.bp n a off,[])
 | some (.ip t v)=>some (True,.ip t v,[])
 | some (.ep n e i a off)=>some (True,.ep n e i a off,[])
 | _=>none
def ZJ (a b:Bool):BinOp→BN
 | .eql=>some (True,.p .bool (a==b),[])
 | .neq=>some (True,.p .bool (a != b),[])
 | _=>none
def Pf:Option TI→Bool
 | some ⟨.bool,_,_,_⟩=>true
 | _=>false
def OQ (op:BinOp) (ti:Option TI):Option AV→Option AV→BN
 | some (.p (.int k) a),some (.p (.int c) b)=>some ((t7 op k a c b).1,(t7 op k a c b).2,[])
 | some (.p .str a),some (.p .str b)=>some ((TX a b op).1,(TX a b op).2,[])
 | some (.p .bool a),some (.p .bool b)=>if Pf ti=true then ZJ a b op else none
 | _,_=>none
def nY:UnOp→Option AV→BN
 | .not,some (.p .bool b)=>some (True,.p .bool (!b),[])
 | .neg,some (.p (.int k) a)=>some (Jz k (0-a),.p (.int k) (0-a),[])
 | _,_=>none
def Pg (l:List Int):ByteArray:=⟨(l.map fun x=>UInt8.ofNat x.toNat).toArray⟩
def IZ:Option TI→Option TI→Option AV→BN
 | some ⟨.int _,_,_,_⟩,some ⟨.int k,_,_,_⟩,some (.p (.int _) a)=>some (Jz k a,.p (.int k) a,[])
 | some ⟨.slice (.int .u8),_,_,_⟩,some ⟨.str,_,_,_⟩,some (.p (.slice (.int .u8)) l)=>some (True,.p .str (Pg l),[])
 | _,_,_=>none
def KO (d:Nat) (el:TypeId) (e:Ty) (n m:Int):Option TI→BN
 | some ti=>some (n=m∧0≤n∧n.toNat*ti.bytes≤AO,.sr d e 0 n.toNat,[(d,.arr el e (List.replicate n.toNat e.dflt))])
 | none=>none
def Hi (tb:Tb) (d:Nat):Option TI→Option AV→Option AV→BN
 | some ⟨.slice e,_,el,_⟩,some (.p (.int .i64) n),some (.p (.int .i64) m)=>KO d el e n m (lk el tb.ty)
 | _,_,_=>none
def Eh:Option TI→Option AV→Option (Option AV)→Option (Option AV)→BN
 | some ⟨.slice e,_,_,_⟩,some (.p (.slice d) l),some a,some h=>if e=d then Gj (.p (.slice d) l) a h else none
 | some ⟨.slice e,_,_,_⟩,some (.sr n d b c),some a,some h=>if e=d then Gj (.sr n d b c) a h else none
 | some ⟨.str,_,_,_⟩,some (.p .str s),some a,some h=>Gj (.p .str s) a h
 | _,_,_,_=>none
def DR:Option TI→Option AV→Option AV→Option AV→BN
 | some ⟨.slice e,_,_,_⟩,some (.p (.slice c) l),some (.p (.int _) a),some (.p (.int _) b)=>if e=c then some (a=(List.length l:Int)∧b=(List.length l:Int),.pc c l,[]) else none
 | _,_,_,_=>none
def D5 (i:Nat):Option AV→BN
 | some (.tup l)=>Fy l[i]?
 | _=>none
def QX:Option TI→Option AV→BN
 | some ⟨.slice _,_,_,_⟩,some (.p (.slice _) l)=>some (True,.p (.int .i64) (l.length:Int),[])
 | some ⟨.slice _,_,_,_⟩,some (.sr _ _ lo hi)=>some (True,.p (.int .i64) ((hi-lo:Nat):Int),[])
 | some ⟨.slice _,_,_,_⟩,some (.nin _ _ _ len)=>some (True,.p (.int .i64) (len:Int),[])
 | some ⟨.slice _,_,_,_⟩,some (.raw (.slice none 0 0))=>some (True,.p (.int .i64) (0:Int),[])
 | some ⟨.str,_,_,_⟩,some (.p .str s)=>some (True,.p (.int .i64) (s.size:Int),[])
 | _,_=>none
def EU (d:Nat) (el:TypeId) (e:Ty):Option TI→Option (List e.den)→BN
 | some ti,some ys=>some (ys.length*ti.bytes≤AO,.sr d e 0 ys.length,[(d,.arr el e ys)])
 | _,_=>none
def D6 (tb:Tb) (σ:St) (d:Nat) (v:AV):Option TI→BN
 | some ⟨.slice e,_,el,_⟩=>EU d el e (lk el tb.ty) (Mj σ e v)
 | _=>none
def JL (d:Nat) (el:TypeId) (e:Ty) (l:List e.den):Option TI→Option (List e.den)→BN
 | some ti,some ys=>some (0<ys.length∧(l.length+ys.length)*ti.bytes≤AO,.sr d e 0 (l.length+ys.length),[(d,.arr el e (l++ys))])
 | _,_=>none
def H9 (tb:Tb) (σ:St) (d:Nat) (e:Ty) (l:List e.den) (v:AV):Option TI→BN
 | some ⟨.slice a,_,el,_⟩=>if a=e then JL d el e l (lk el tb.ty) (Mj σ e v) else none
 | _=>none
def CK (tb:Tb) (σ:St) (d:Nat) (t u:TypeId):Option AV→Option AV→BN
 | some (.raw (.slice none 0 0)),some v=>if t=u then D6 tb σ d v (lk t tb.ty) else none
 | some (.pc e l),some v=>if t=u then H9 tb σ d e l v (lk t tb.ty) else none
 | _,_=>none
def OT:Option AV→Option AV→BN
 | some (.p (.int k) a),some (.p (.int c) b)=>if k=c then some (True,.p (.int k) (if b<a then b else a),[]) else none
 | _,_=>none
def Hj:Option AV→Option AV→Option AV→BN
 | some (.p (.int k) a),some (.p (.int d) b),some (.p (.int e) c)=>if k=d∧k=e then some (True,.p (.int k) (if c<(if b<a then b else a) then c else (if b<a then b else a)),[]) else none
 | _,_,_=>none
def OU:Option AV→Option AV→BN
 | some (.p (.int k) a),some (.p (.int c) b)=>if k=c then some (True,.p (.int k) (if a<b then b else a),[]) else none
 | _,_=>none
def JM (d:Nat) (a:Ad):Option (JG a.ins)→BN
 | some ds=>if a.lend=false∨(a.out ds).all RV.flat=true then some (a.pre ds,IX d (a.out ds),Ce d (a.out ds)) else none
 | none=>none
def IA (σ:St) (d:Nat) (xs:List Operand):Option Ad→BN
 | some a=>JM d a (FL a.lend σ a.ins xs)
 | none=>none
def KP (tb:Tb) (σ:St) (d:Nat) (xs:List Operand):Option AV→BN
 | some (.fn f)=>IA σ d xs (lk f tb.fns)
 | _=>none
def Cn (tb:Tb) (σ:St) (d:Nat):Builtin→List Operand→List TypeId→BN
 | .len,[x],[t]=>QX (lk t tb.ty) (AZ σ x)
 | .append,[x,y],[t,u]=>CK tb σ d t u (AZ σ x) (AZ σ y)
 | .min,[x,y],[_,_]=>OT (AZ σ x) (AZ σ y)
 | .max,[x,y],[_,_]=>OU (AZ σ x) (AZ σ y)
 | .min,[x,y,z],[_,_,_]=>Hj (AZ σ x) (AZ σ y) (AZ σ z)
 | _,_,_=>none
def Gk (σ:St):List Operand→Option (List Nat)
 | []=>some []
 | x :: r=>match AZ σ x,Gk σ r with
  | some (.bp n [] 0),some ns=>some (n :: ns)
  | _,_=>none
def Mm (f:FuncId):Option (List Nat)→BN
 | some ns=>some (True,.clo f ns,[])
 | none=>none
def VY (σ:St) (fn:Fn) (first a:List Operand):BN :=
 match fn,first with
 | .func f,[]=>Mm f (Gk σ a)
 | _,_=>none
def FT (d:Nat):Option TI→Option TI→BN
 | some a,some te=>some (True,.mp d,[(d,.mapo a.ty te.ty [])])
 | _,_=>none
def FU (tb:Tb) (d:Nat):List (Nat×Nat)→BN
 | [(k,e)]=>FT d (lk k tb.ty) (lk e tb.ty)
 | _=>none
def E6 (tb:Tb) (d:Nat):Option TI→BN
 | some ⟨.ref 2,offs,_,_⟩=>FU tb d offs
 | _=>none
def KQ (a:Ty) (ok:Bool) (r:Option a.den):BN :=
 if ok then some (True,.tup [.p a (r.getD a.dflt),.p .bool r.isSome],[]) else some (True,.p a (r.getD a.dflt),[])
def JN (a b:Ty) (l:List (a.den×b.den)) (ok:Bool):Option a.den→BN
 | some k=>if TY a=true then KQ b ok (Ay a b k l) else none
 | none=>none
def Gl (tb:Tb) (σ:St) (b d:Nat) (x:AV) (ok:Bool):Option Obj→BN
 | some (.mapo a c l)=>if (lk b tb.ty).map TI.ty=some a∧(lk b tb.ty).map TI.el=some 0∧(lk d tb.ty).map TI.ty=some c then JN a c l ok (J0 false σ a x) else none
 | _=>none
def Hk (tb:Tb) (σ:St) (ok:Bool):Option TI→Option AV→Option AV→BN
 | some ⟨.ref 2,[(k,e)],_,_⟩,some (.mp n),some x=>Gl tb σ k e x ok (lk n σ.objs)
 | _,_,_=>none
def CY (tb:Tb) (σ:St) (d:Nat) (xs:List Operand) (ts:List TypeId):Callee→BN
 | .builtin b=>Cn tb σ d b xs ts
 | .value g=>KP tb σ d xs (AZ σ g)
 | _=>none
def aq (tb:Tb) (σ:St) (d:Nat):Op→BN
 | .move x=>Fy (AZ σ x)
 | .assign x=>Fy (AZ σ x)
 | .pick c x y=>J1 (AZ σ c) (AZ σ x) (AZ σ y)
 | .alloc t=>JI d t (lk t tb.ty)
 | .box t x=>QW d t (lk t tb.ty) (AZ σ x)
 | .build t parts=>H6 σ parts.toList (lk t tb.ty)
 | .buildSlice t n parts=>Fj tb σ d n parts.toList (lk t tb.ty) (lk d tb.nests)
 | .load t x=>IY σ (lk t tb.ty) (AZ σ x)
 | .fieldAddr s x f=>GG f (lk s tb.ty) (AZ σ x)
 | .indexAddr t x i=>E5 (lk t tb.ty) (AZ σ x) (AZ σ i)
 | .index t x i=>Du (lk t tb.ty) (AZ σ x) (AZ σ i)
 | .nilCheck x=>RL (AZ σ x)
 | .binOp op t x y _=>OQ op (lk t tb.ty) (AZ σ x) (AZ σ y)
 | .unOp op _ x=>nY op (AZ σ x)
 | .convert s t x=>IZ (lk s tb.ty) (lk t tb.ty) (AZ σ x)
 | .makeSlice t l c=>Hi tb d (lk t tb.ty) (AZ σ l) (AZ σ c)
 | .slice t x none (some hi) (some b)=>DR (lk t tb.ty) (AZ σ x) (AZ σ hi) (AZ σ b)
 | .slice t x lo hi none=>Eh (lk t tb.ty) (AZ σ x) (Fx σ lo) (Fx σ hi)
 | .extract x i=>D5 i (AZ σ x)
 | .call c=>CY tb σ d c.args.toList c.argTypes.toList c.callee
 | .makeFunc fn first a=>VY σ fn first.toList a.toList
 | .makeMap t none=>E6 tb d (lk t tb.ty)
 | .lookup t x i ok=>Hk tb σ ok (lk t tb.ty) (AZ σ x) (AZ σ i)
 | _=>none
def Mn:AV→Bool
 | .ag _=>false
 | _=>true
def JO (a:Bool) (fs:List AV) (v:AV):List Nat→Option (List AV)
 | []=>if a then match v with
   | .p (.agg u) d=>some (uD u d)
   | .ag l=>some l
   | _=>none
  else if Mn v then some [v] else none
 | [k]=>if a&&Mn v then some (fs.set k v) else none
 | k :: r=>if a then match fs[k]?,v with
   | some (.p t d),.p u x=>(RJ r t d ⟨u,x⟩).map fun y=>fs.set k (.p t y)
   | _,_=>none
  else none
abbrev Cb:=Option (Prop×St)
def EV (σ:St) (n:Nat) (et:TypeId) (c:Bool) (ty:Ty) (fs:List AV) (b:List Nat) (off:Nat) (v:AV):Option AV→Option (List AV)→Cb
 | some u,some a=>if Lu ty u=true∧CB ty v=true∧Mk fs b=some off∧a.map AV.cells=fs.map AV.cells then some (True,⟨σ.env,upd n (.box et c a) σ.objs⟩) else none
 | _,_=>none
def DC (σ:St) (n:Nat) (ty:Ty) (a:List Nat) (off:Nat) (v:AV):Option Obj→Cb
 | some (.box et b fs)=>EV σ n et b ty fs a off v (IW b fs a) (JO b fs v a)
 | _=>none
def E7 (σ:St) (n:Nat) (et:TypeId) (e:Ty) (i:Nat) (a:List Nat) (off:Nat) (ys:List e.den):Option e.den→Cb
 | some z=>if KM a e=some off then some (True,⟨σ.env,upd n (.arr et e (ys.set i z)) σ.objs⟩) else none
 | none=>none
def D7 (σ:St) (n:Nat) (et:TypeId) (ty e:Ty) (i:Nat) (a:List Nat) (off:Nat):Option (List e.den)→Option ty.den→Cb
 | some ys,some w=>E7 σ n et e i a off ys (RJ a e (ys.getD i e.dflt) ⟨ty,w⟩)
 | _,_=>none
def KR (σ:St) (d n:Nat) (et a:TypeId) (k e:Ty) (xs:List (k.den×List e.den)) (i bytes:Nat):Option (List e.den)→Cb
 | some ys=>if (lk d σ.objs).isNone=true∧ys.isEmpty=false then some (((xs.getD i (k.dflt,[])).2.length+ys.length)*bytes≤AO,
   ⟨(d,.sr d e 0 ((xs.getD i (k.dflt,[])).2.length+ys.length)) :: Dp n [] σ.env,(d,.arr a e ((xs.getD i (k.dflt,[])).2++ys)) :: (n,.nest et a k e xs (some i)) :: CJ n [] σ.objs⟩) else none
 | none=>none
def Mo (σ:St) (d n:Nat) (el:TypeId) (b:Ty) (i:Nat) (v:AV):Option TI→Option Obj→Cb
 | some ti,some (.nest et a k e xs none)=>if b=e∧a=el∧Fv n=false then KR σ d n et a k e xs i ti.bytes (Mj σ e v) else none
 | _,_=>none
def Lw (tb:Tb) (σ:St) (d n:Nat) (a:Ty) (i:Nat) (v:AV):Option TI→Cb
 | some ⟨.slice e,_,el,_⟩=>if a=e then Mo σ d n el e i v (lk el tb.ty) (lk n σ.objs) else none
 | _=>none
def JP (σ:St) (n m:Nat) (et a:TypeId) (k e:Ty) (xs:List (k.den×List e.den)) (i hi:Nat):Option (List e.den)→Cb
 | some ys=>some (hi=ys.length,⟨Dp n [m] σ.env,(n,.nest et a k e (xs.set i ((xs.getD i (k.dflt,[])).1,ys)) none) :: CJ n [m] σ.objs⟩)
 | none=>none
def KS (σ:St) (n m:Nat) (et a:TypeId) (k e:Ty) (xs:List (k.den×List e.den)) (i hi:Nat):Option Obj→Cb
 | some (.arr c b ys)=>if c=a∧Fv m=false∧Fv n=false then JP σ n m et a k e xs i hi (BG (.slice e) ⟨.slice b,ys⟩) else none
 | _=>none
def JQ (σ:St) (d n m:Nat) (et b:TypeId) (k e:Ty) (hi a bytes:Nat) (xs:List (k.den×List e.den)):Option (List (k.den×List e.den))→Cb
 | some ys=>some (hi=xs.length∧a=ys.length∧(xs.length+ys.length)*bytes≤AO,
   ⟨(d,.sr n (.agg (.prod k (.slice e))) 0 (xs.length+ys.length)) :: Ba [n,m] σ.env,(n,.nest et b k e (xs++ys) none) :: Ab [n,m] [n,m] σ.objs⟩)
 | none=>none
def KT (σ:St) (d n m:Nat) (et a:TypeId) (k e:Ty) (hi c bytes:Nat) (xs:List (k.den×List e.den)):Option Obj→Cb
 | some (.nest _ f g b ys none)=>if f=a∧n≠m∧Fv m=false then JQ σ d n m et a k e hi c bytes xs (BG (.slice (.agg (.prod k (.slice e)))) ⟨.slice (.agg (.prod g (.slice b))),ys⟩) else none
 | _=>none
def Ph (σ:St) (d n:Nat) (et b:TypeId) (k e:Ty) (hi bytes:Nat) (xs:List (k.den×List e.den)):AV→Cb
 | .sr m _ 0 a=>KT σ d n m et b k e hi a bytes xs (lk m σ.objs)
 | _=>none
def Mp (σ:St) (d m:Nat) (el b:TypeId) (k e:Ty) (ys:List (k.den×List e.den)) (a bytes:Nat):Cb :=
 if (lk d σ.objs).isNone=true∧Fv m=false then some (a=ys.length∧ys.length*bytes≤AO,
  ⟨(d,.sr d (.agg (.prod k (.slice e))) 0 ys.length) :: Ba [m] σ.env,(d,.nest el b k e ys none) :: Ab [m] [m] σ.objs⟩) else none
def Mq (σ:St) (d m:Nat) (el:TypeId) (t:Ty) (a:Nat):Option TI→Option Obj→Cb
 | some ti,some (.nest _ b k e ys none)=>if t=.agg (.prod k (.slice e)) then Mp σ d m el b k e ys a ti.bytes else none
 | _,_=>none
def VZ (tb:Tb) (σ:St) (d:Nat):AV→Option TI→Cb
 | .sr m _ 0 a,some ⟨.slice t,_,el,_⟩=>Mq σ d m el t a (lk el tb.ty) (lk m σ.objs)
 | _,_=>none
def KU (σ:St) (n m:Nat) (ty:Ty) (et a:TypeId) (k e:Ty) (xs:List (k.den×List e.den)) (i hi:Nat) (b:List Nat) (off:Nat):Cb :=
 if ty=.slice e∧b=[1]∧off=k.size then KS σ n m et a k e xs i hi (lk m σ.objs) else none
def DD (σ:St) (n:Nat) (ty e:Ty) (i:Nat) (b:List Nat) (off:Nat) (v:AV):Option Obj→Cb
 | some (.arr et a xs)=>D7 σ n et ty e i b off (BG (.slice e) ⟨.slice a,xs⟩) (J0 false σ ty v)
 | some (.nest et c k a xs (some j))=>match v with
  | .sr m E 0 hi=>if e=.agg (.prod k (.slice a))∧i=j∧E=a then KU σ n m ty et c k a xs i hi b off else none
  | _=>none
 | _=>none
def Gm (σ:St):Option TI→Option AV→Option AV→Cb
 | some ti,some (.bp n a off),some v=>DC σ n ti.ty a off v (lk n σ.objs)
 | some ti,some (.ep n e i a off),some v=>DD σ n ti.ty e i a off v (lk n σ.objs)
 | _,_,_=>none
def EW (σ:St) (d n:Nat) (et:TypeId) (e:Ty) (hi:Nat) (bytes:Nat):Option (List e.den)→Option (List e.den)→Cb
 | some a,some ys=>some ((hi+ys.length)*bytes≤AO,⟨(d,.sr n e 0 (hi+ys.length)) :: E3 n σ.env,upd n (.arr et e (a.take hi++ys)) (BO n σ.objs)⟩)
 | _,_=>none
def CF (σ:St) (d n:Nat) (el:TypeId) (e:Ty) (hi:Nat) (v:AV) (ys:Option (List e.den)):Option TI→Option Obj→Cb
 | some ti,some (.arr et a xs)=>if et=el then EW σ d n et e hi ti.bytes (BG (.slice e) ⟨.slice a,xs⟩) ys else none
 | some ti,some (.nest et b k a xs none)=>if et=el∧e=.agg (.prod k (.slice a)) then Ph σ d n et b k a hi ti.bytes xs v else none
 | _,_=>none
def D8 (tb:Tb) (σ:St) (d:Nat) (n:Nat) (a:Ty) (hi:Nat) (v:AV):Option TI→Cb
 | some ⟨.slice e,_,el,_⟩=>if e=a then CF σ d n el e hi v (Mj σ e v) (lk el tb.ty) (lk n σ.objs) else none
 | _=>none
def Co (tb:Tb) (σ:St) (d:Option Nat) (t u:TypeId):Option AV→Option AV→Cb
 | some (.sr n e 0 hi),some v=>match d with
  | some d=>if t=u∧Fv n=false then D8 tb σ d n e hi v (lk t tb.ty) else none
  | none=>none
 | some (.nin n e i _),some v=>match d with
  | some d=>if t=u then Lw tb σ d n e i v (lk t tb.ty) else none
  | none=>none
 | some (.raw (.slice none 0 0)),some v=>match d with
  | some d=>if t=u then VZ tb σ d v (lk t tb.ty) else none
  | none=>none
 | _,_=>none
def DF (tb:Tb) (σ:St) (d:Option Nat):Builtin→List Operand→List TypeId→Cb
 | .append,[x,y],[t,u]=>Co tb σ d t u (AZ σ x) (AZ σ y)
 | _,_,_=>none
def Cp (tb:Tb) (σ:St) (d:Option Nat) (xs:List Operand) (ts:List TypeId):Callee→Cb
 | .builtin b=>DF tb σ d b xs ts
 | _=>none
def Fk (σ:St) (n:Nat) (a b:Ty) (l:List (a.den×b.den)):Option a.den→Option b.den→Cb
 | some k,some v=>if TY a=true then some (True,⟨σ.env,upd n (.mapo a b (Gi a b k v l)) σ.objs⟩) else none
 | _,_=>none
def E8 (tb:Tb) (σ:St) (n:Nat) (b:Nat) (x y:AV):Option Obj→Cb
 | some (.mapo a c l)=>if (lk b tb.ty).map TI.ty=some a∧(lk b tb.ty).map TI.el=some 0 then Fk σ n a c l (J0 false σ a x) (J0 false σ c y) else none
 | _=>none
def JR (tb:Tb) (σ:St):Option TI→Option AV→Option AV→Option AV→Cb
 | some ⟨.ref 2,[(k,_)],_,_⟩,some (.mp n),some x,some y=>E8 tb σ n k x y (lk n σ.objs)
 | _,_,_,_=>none
def DS (r:Cb):Option Nat→Cb
 | none=>r
 | some _=>none
def Em (tb:Tb) (σ:St) (d:Option Nat):Op→Cb
 | .store t x y=>DS (Gm σ (lk t tb.ty) (AZ σ x) (AZ σ y)) d
 | .mapUpdate t m x y=>DS (JR tb σ (lk t tb.ty) (AZ σ m) (AZ σ x) (AZ σ y)) d
 | .call c=>Cp tb σ d c.args.toList c.argTypes.toList c.callee
 | _=>none
def St.add (σ:St) (v:AV) (obs:List (Nat×Obj)):Option Nat→St
 | some d=>⟨(d,v) :: σ.env,obs++σ.objs⟩
 | none=>⟨σ.env,obs++σ.objs⟩
def LJ:Option AV→List Nat
 | some v=>v.names
 | none=>[]
def Cv (σ:St):List (Nat×Operand)→List Nat
 | []=>[]
 | (_,x) :: r=>LJ (AZ σ x)++Cv σ r
def LK:Option AV→List Nat
 | some (.ag l)=>AV.namess l
 | _=>[]
def EX (σ:St):List (Nat×Operand)→List Nat
 | []=>[]
 | (_,x) :: r=>LK (AZ σ x)++EX σ r
def CD (σ:St):Option AV→Option AV→List Nat
 | some (.ep n _ _ _ _),some v=>if CR (lk n σ.objs)=true then [] else v.names
 | _,_=>[]
def Ia:Option AV→Option AV→Option AV→List Nat
 | some (.mp _),some v,some u=>v.names++u.names
 | _,_,_=>[]
def B4 (σ:St):Op→List Nat
 | .buildSlice _ _ parts=>Cv σ parts.toList
 | .build _ parts=>EX σ parts.toList
 | .store _ x y=>CD σ (AZ σ x) (AZ σ y)
 | .mapUpdate _ m x y=>Ia (AZ σ m) (AZ σ x) (AZ σ y)
 | _=>[]
def CS:List Nat→St→St
 | [],σ=>σ
 | n :: r,σ=>CS r (frz n σ)
def BQ (obs:List (Nat×Obj)) (σ:St):Bool:=obs.all fun p=>(lk p.1 σ.objs).isNone
def J2 (tb:Tb) (σ:St) (o:Oper):BN→Cb
 | some (vc,v,obs)=>if BQ obs σ=true then some (vc,σ.add v obs o.dst) else none
 | none=>Em tb σ o.dst o.op
def Mr (tb:Tb) (o:Oper) (σ:St):Cb:=J2 tb σ o (aq tb σ (o.dst.getD 0) o.op)
def FM (tb:Tb) (o:Oper) (σ:St):Cb:=Mr tb o (CS (B4 σ o.op) σ)
def OV (a:Bool):Option AV→Option Bool
 | some (.p .bool b)=>some (b==a)
 | _=>none
def JS (σ:St) (a:Bool):Option Tmp→Option Bool
 | some g=>OV a (lk g σ.env)
 | none=>none
def EH (ops:List Oper) (σ:St):Option (Nat×Bool)→Option Bool
 | none=>some true
 | some (j,a)=>JS σ a ((ops[j]?).bind (·.dst))
def TS (vc:Prop):Cb→Cb
 | some (a,σ)=>some (vc∧a,σ)
 | none=>none
mutual
def Bl (tb:Tb) (ops:List Oper):List Oper→St→Cb
 | [],σ=>some (True,σ)
 | o :: r,σ=>evG tb ops o r σ (EH ops σ o.guard)
def evG (tb:Tb) (ops:List Oper) (o:Oper) (r:List Oper) (σ:St):Option Bool→Cb
 | some true=>evK tb ops r (FM tb o σ)
 | some false=>Bl tb ops r (σ.add (.raw undef) [] o.dst)
 | none=>none
def evK (tb:Tb) (ops:List Oper) (r:List Oper):Cb→Cb
 | some (vc,σ)=>TS vc (Bl tb ops r σ)
 | none=>none
end
end
section
open Go Go.RowKit
theorem B5 {w:World} {b:Nat} {o:_root_.Go.Obj} (h:w.heap[b]?=some o):b<w.heap.size:=by
 rcases Nat.lt_or_ge b w.heap.size with a|a
 ·exact a
 ·simp[Array.getElem?_eq_none a]at h
def blk:Value→Option Nat
 | .slice (some a) _ _=>some a.block
 | .pointer (some a)=>some a.block
 | .map (some b)=>some b
 | _=>none
def bk (v:Value) (b:Nat):Prop:=blk v=some b∨∃a:Array Value,v=.tuple a∧∃x∈a.toList,blk x=some b
theorem KV {a:Option Addr} {m c b:Nat}:bk (.slice a m c) b↔blk (.slice a m c)=some b:=by
 constructor
 ·intro h;rcases h with h|⟨_,h,_⟩
  ·exact h
  ·cases h
 ·exact .inl
def plc:Value→Value
 | .tuple a=>a.getD 0 undef
 | v=>v
def Cf (loc:Value) (sz lo hi:Nat) (v:Value):Prop :=
 ∃(a:Option Addr) (m c:Nat),loc=.slice a m c∧lo≤hi∧hi≤m∧∃(b:Option Addr) (d:Nat),v=.slice b (hi-lo) d∧hi-lo≤d∧(lo=0→b=a∧d=c)∧(lo<hi→b=a.map (·.add (lo*sz)))
structure Vw where
 w:World
 
 O:Nat→Prop
 
 L:Nat→Prop
 
 ρ:Nat→Value
def zU (u v:Value):Prop:=v=u∨(u=.slice none 0 0∧∃a:Option Addr,v=.slice a 0 0)
def RM (V:Vw):AV→Value→Prop
 | .p t d,v=>BM V.w V.O t v d
 | .pc e d,v=>BM V.w V.O (.slice e) v d∧∃a:Option Addr,v=.slice a (List.length d) (List.length d)
 | .raw u,v=>v=u
 | .sr n e lo hi,v=>V.L n∧Cf (plc (V.ρ n)) e.size lo hi v
 | .ep n e i _ off,v=>V.L n∧∃g m c:Nat,plc (V.ρ n)=.slice (some ⟨g,0,none⟩) m c∧i<m∧v=.pointer (some ⟨g,i*e.size+off,none⟩)
 | .nin n _ i len,v=>V.L n∧∃(h:Array Value) (a:Option Addr) (c:Nat) (u:Value),V.ρ n=.tuple h∧h[i+1]?=some u∧zU u v∧v=.slice a len c
 | .ip t d,v=>∃(ad:Addr) (cs:List Value),v=.pointer (some ad)∧¬V.O ad.block∧(∀(j:Nat) (u:Value),cs[j]?=some u→V.w.cell? (ad.add j)=some u)∧Be V.w V.O t cs d
 | .bp n _ off,v=>V.L n∧∃b:Nat,V.ρ n=.pointer (some ⟨b,0,none⟩)∧v=.pointer (some ⟨b,off,none⟩)
 | .fn f,v=>v=.func (.func f) #[] #[]
 | .clo f ns,v=>v=.func (.func f) #[] (ns.map V.ρ).toArray∧∀n∈ns,V.L n∧∃b:Nat,V.ρ n=.pointer (some ⟨b,0,none⟩)
 | .mp n,v=>V.L n∧∃b:Nat,V.ρ n=.map (some b)∧v=.map (some b)
 | .yl n,v=>V.L n∧∃b:Nat,V.ρ n=.pointer (some ⟨b,0,none⟩)∧v=.func (.yield b) #[] #[]
 | .top,_=>True
 | .ag _,_=>False
 | .tup _,_=>False
def Lo (V:Vw):AV→List Value→Prop
 | .p t d,cs=>Be V.w V.O t cs d
 | av,cs=>∃v,cs=[v]∧v.oneCell'=true∧RM V av v
def Cw (V:Vw):List AV→List Value→Prop
 | [],cs=>cs=[]
 | x :: r,cs=>∃c1 c2:List Value,cs=c1++c2∧Lo V x c1∧Cw V r c2
def Pi (V:Vw):AV→Value→Prop
 | .ag l,v=>∃cs:List Value,v=.agg cs.toArray∧Cw V l cs
 | x,v=>RM V x v
def Ib (V:Vw):List AV→List Value→Prop
 | [],a=>a=[]
 | x :: r,a=>∃(v:Value) (l:List Value),a=v :: l∧Pi V x v∧Ib V r l
theorem Pi.of1 {V:Vw} {x:AV} {v:Value} (h:RM V x v):Pi V x v:=by
 cases x;case ag l=>exact h.elim
 all_goals exact h
def Bm (V:Vw):AV→Value→Prop
 | .ag l,v=>∃cs:List Value,v=.agg cs.toArray∧Cw V l cs
 | .tup l,v=>∃a:List Value,v=.tuple a.toArray∧Ib V l a
 | av,v=>RM V av v
theorem nZ {V:Vw} {x:AV} {v:Value} (h:Pi V x v):Bm V x v:=by
 cases x;case tup l=>exact(show False from h).elim
 all_goals exact h
def DL (w:World) (O:Nat→Prop) (e:Ty) (cells:List Value) (xs:List e.den):Prop :=
 ∀(i:Nat) (x:e.den),xs[i]?=some x→∃a:List Value,a.length=e.size∧(∀(j:Nat) (u:Value),a[j]?=some u→cells[i*e.size+j]?=some u)∧Be w O e a x
def Ic (w:World) (O:Nat→Prop) (k v:Ty):List MapEntry→List (k.den×v.den)→Prop
 | [],[]=>True
 | e :: a,x :: xs=>BM w O k e.key x.1∧BM w O v e.val x.2∧Ic w O k v a xs
 | _,_=>False
def OW (a:Array MapEntry) (clock:Nat):Prop:=(a.toList.map (·.born)).Nodup∧∀b∈a.toList.map (·.born),b<clock
def MA (V:Vw) (et:TypeId) (e:Ty) (xs:List e.den) (loc:Value):Prop:=xs.length≤AO∧∃cells:List Value,V.w.ownsRow 0 et e.size loc xs.length cells∧DL V.w V.O e cells xs
def Va (V:Vw) (a:TypeId) (k e:Ty) (hole:Bool) (cells:List Value) (i:Nat) (x:k.den×List e.den) (u:Value):Prop :=
 ∃(c1:List Value) (v:Value),(∀(j:Nat) (z:Value),(c1++[v])[j]?=some z→cells[i*(k.size+1)+j]?=some z)∧Be V.w V.O k c1 x.1 ∧
  ((hole=true∧u=.slice none 0 0)∨(hole=false∧zU u v∧MA V a e x.2 u))
structure J3 (V:Vw) (et iet:TypeId) (k e:Ty) (xs:List (k.den×List e.den)) (h:Option Nat) (o:Value) (ins:List Value) (cells:List Value):Prop where
 max:xs.length≤AO
 len:ins.length=xs.length
 own:V.w.ownsRow 0 et (k.size+1) o xs.length cells
 row:∀(i:Nat) (x:k.den×List e.den) (u:Value),xs[i]?=some x→ins[i]?=some u→Va V iet k e (h==some i) cells i x u
 dist:∀(i j b:Nat) (u v:Value),ins[i]?=some u→ins[j]?=some v→blk u=some b→blk v=some b→i=j
 out:∀(i b:Nat) (u:Value),ins[i]?=some u→blk u=some b→blk o≠some b
def Shp (loc o:Value) (ins:List Value):Prop:=loc=.tuple (o :: ins).toArray∨(loc=.slice none 0 0∧o=.slice none 0 0∧ins=[])
def A3C (V:Vw) (k v:Ty) (l:List (k.den×v.den)) (left:List Nat) (d:Option Nat) (r:Nat):Prop :=
 ∃(b:Nat) (a:Array MapEntry) (clock c:Nat) (seen:Array Nat),V.w.heap[r]?=some (.mapIter (some b) c seen clock)∧¬V.O b∧V.w.heap[b]?=some (.map a clock)∧Ic V.w V.O k v a.toList l∧OW a clock ∧
  (∀s∈a.toList.map (·.born),s<c)∧c≤clock∧left.Nodup∧(∀i,i∈left↔∃e,a[i]?=some e∧e.born∉seen)∧(∀i,d=some i→∃e,a[i]?=some e∧seen.back?=some e.born)
def Aw (V:Vw):Obj→Value→Prop
 | .arr et e xs,loc=>MA V et e xs loc
 | .nest et d k e xs h,loc=>∃(o:Value) (ins cells:List Value),Shp loc o ins∧J3 V et d k e xs h o ins cells
 | .box et f fs,loc=>(f=false→fs.length=1)∧∃(b:Nat) (cs:List Value),loc=.pointer (some ⟨b,0,none⟩)∧V.w.heap[b]?=some (.cells cs.toArray et (0,0))∧Cw V fs cs
 | .mapo k v l,loc=>∃(b:Nat) (a:Array MapEntry) (clock:Nat),loc=.map (some b)∧V.w.heap[b]?=some (.map a clock)∧Ic V.w V.O k v a.toList l∧OW a clock
 | .frame g fs,loc=>loc=.pointer none∧∀s x,lk s fs=some x→Bm V x (g.getD s undef)
 | .itr k v l left c,loc=>∃r:Nat,loc=.pointer (some ⟨r,0,none⟩)∧A3C V k v l left c r
 | .loop L,loc=>∃b:Nat,loc=.pointer (some ⟨b,0,none⟩)∧V.w.heap[b]?=some (.loop L)
 | .dfr,loc=>∃b:Nat,loc=.pointer (some ⟨b,0,none⟩)∧V.w.heap[b]?=some (.deferred (some []))
structure Frm (K:Nat→Prop) (w0 w:World):Prop where
 os:w.os=w0.os
 tape:w.tape=w0.tape
 output:w.output=w0.output
 size:w0.heap.size≤w.heap.size
 block:∀k,K k→w.heap[k]?=w0.heap[k]?
def Fl (σ:St) (n:Nat):Prop:=∃o,lk n σ.objs=some o
def own (O0:Nat→Prop) (σ:St) (ρ:Nat→Value) (b:Nat):Prop:=O0 b∨∃n,Fl σ n∧bk (ρ n) b
def vw (w:World) (O0:Nat→Prop) (σ:St) (ρ:Nat→Value):Vw:=⟨w,own O0 σ ρ,Fl σ,ρ⟩
def A07:Value→Bool
 | .slice _ _ _=>false
 | .tuple _=>false
 | _=>true
structure Fp where
 ds:List Deferred:=[]
 pin:List (Nat×Value):=[]
structure Bb (w0:World) (K O0:Nat→Prop) (nt:Nat) (ds:Fp) (σ:St) (ρ:Nat→Value) (a:Act) (w:World):Prop where
 frm:Frm K w0 w
 nt:a.tmps.size=nt
 defers:a.defers=ds.ds
 pin:∀p∈ds.pin,Fl σ p.1∧ρ p.1=p.2∧(A07 p.2=true∨Fv p.1=true)
 objs:∀n o,lk n σ.objs=some o→Aw (vw w O0 σ ρ) o (ρ n)
 free:∀n b,Fl σ n→bk (ρ n) b→¬K b∧¬O0 b
 dist:∀n m b,Fl σ n→Fl σ m→bk (ρ n) b→bk (ρ m) b→n=m
 env:∀s v,lk s σ.env=some v→Bm (vw w O0 σ ρ) v (a.tmps.getD s undef)
structure B7 (V V':Vw):Prop where
 O:∀b,b<V.w.heap.size→¬V.O b→¬V'.O b
 L:∀n,V.L n→V'.L n
 ρ:∀n,V.L n→V'.ρ n=V.ρ n
 heap:∀b,b<V.w.heap.size→¬V.O b→V'.w.heap[b]?=V.w.heap[b]?
theorem RM.keeps {V V':Vw} (h:B7 V V'):∀ {x:AV} {v:Value},RM V x v→RM V' x v
 | .p _ _,_,b=>BM.mono h.O h.heap b
 | .pc _ _,_,b=>⟨BM.mono h.O h.heap b.1,b.2⟩
 | .raw _,_,b=>b
 | .sr n e lo hi,_,⟨a,hs⟩=>⟨h.L n a,by rw[h.ρ n a];exact hs⟩
 | .ep n e i _ off,_,⟨a,hs⟩=>⟨h.L n a,by rw[h.ρ n a];exact hs⟩
 | .nin n _ i len,_,⟨a,hs⟩=>⟨h.L n a,by rw[h.ρ n a];exact hs⟩
 | .ip t d,_,⟨ad,cs,c,g,k,m⟩=>by
  have l:ad.block<V.w.heap.size:=by
   have hp:=t.size_pos;have q:=m.length;have:=block_lt_of_cell (k 0 (cs[0]'(by omega)) (AT (by omega)))
   rwa [B3]at this
  refine⟨ad,cs,c,h.O _ l g,fun j u o=>?_,Be.mono h.O h.heap m⟩;rw[AC2 (w:=V.w) (w':=V'.w)]
  ·exact k j u o
  ·rw[B3];exact h.heap _ l g
 | .bp n _ off,_,⟨a,hs⟩=>⟨h.L n a,by rw[h.ρ n a];exact hs⟩
 | .fn _,_,b=>b
 | .clo f ns,_,⟨c,hs⟩=>by
  refine⟨?_,fun n hn=>⟨h.L n (hs n hn).1,by rw[h.ρ n (hs n hn).1];exact(hs n hn).2⟩⟩;rw[c]
  congr 2
  exact AAD fun n hn=>(h.ρ n (hs n hn).1).symm
 | .mp n,_,⟨a,hs⟩=>⟨h.L n a,by rw[h.ρ n a];exact hs⟩
 | .yl n,_,⟨a,hs⟩=>⟨h.L n a,by rw[h.ρ n a];exact hs⟩
 | .top,_,_=>trivial
 | .ag _,_,b=>b
 | .tup _,_,b=>b
theorem Lo.keeps {V V':Vw} (h:B7 V V') {x:AV} {cs:List Value} (a:Lo V x cs):Lo V' x cs:=by
 cases x;case p t d=>exact(Be.mono h.O h.heap a:Be V'.w V'.O t cs d)
 all_goals
  obtain⟨v,h1,b,c⟩:=a;exact⟨v,h1,b,c.keeps h⟩
theorem Cw.keeps {V V':Vw} (h:B7 V V'):∀ {l:List AV} {cs:List Value},Cw V l cs→Cw V' l cs
 | [],_,b=>b
 | _ :: _,_,⟨c1,c2,e,h1,a⟩=>⟨c1,c2,e,h1.keeps h,a.keeps h⟩
theorem Pi.keeps {V V':Vw} (h:B7 V V') {x:AV} {v:Value} (a:Pi V x v):Pi V' x v:=by
 cases x;case ag l=>obtain⟨cs,h1,b⟩:=a;exact⟨cs,h1,b.keeps h⟩
 all_goals exact Pi.of1 (RM.keeps h a)
theorem Ib.keeps {V V':Vw} (h:B7 V V'):∀ {l:List AV} {a:List Value},Ib V l a→Ib V' l a
 | [],_,c=>c
 | _ :: _,_,⟨v,l,e,h1,b⟩=>⟨v,l,e,h1.keeps h,b.keeps h⟩
theorem Bm.keeps {V V':Vw} (h:B7 V V') {x:AV} {v:Value} (a:Bm V x v):Bm V' x v:=by
 cases x;case ag l=>obtain⟨cs,h1,b⟩:=a;exact⟨cs,h1,b.keeps h⟩
 case tup l=>obtain⟨cs,h1,b⟩:=a;exact⟨cs,h1,b.keeps h⟩
 all_goals
  simp only[Bm]at a ⊢;exact RM.keeps h a
theorem DL.keeps {V V':Vw} (h:B7 V V') {e:Ty} {cells:List Value} {xs:List e.den} (d:DL V.w V.O e cells xs):DL V'.w V'.O e cells xs:=fun i x hi =>
 let ⟨a,h1,b,c⟩:=d i x hi
 ⟨a,h1,b,Be.mono h.O h.heap c⟩
theorem Ic.mono {w w':World} {O O':Nat→Prop} (a:∀b,b<w.heap.size→¬O b→¬O' b) (c:∀b,b<w.heap.size→¬O b→w'.heap[b]?=w.heap[b]?) {k v:Ty} :
  ∀ {d:List MapEntry} {l:List (k.den×v.den)},Ic w O k v d l→Ic w' O' k v d l
 | [],[],h=>h
 | [],_ :: _,h=>h.elim
 | _ :: _,[],h=>h.elim
 | _ :: _,_ :: _,⟨h1,e,f⟩=>⟨h1.mono a c,e.mono a c,f.mono a c⟩
theorem IB {w w':World} {et:TypeId} {sz n:Nat} {loc:Value} {cells:List Value} (d:∀b,blk loc=some b→w'.heap[b]?=w.heap[b]?) (h:w.ownsRow 0 et sz loc n cells):w'.ownsRow 0 et sz loc n cells:=by
 obtain⟨h1,a⟩:=h;refine⟨h1,?_⟩;rcases a with a|⟨g,cap,c,rfl,e,f,i⟩
 ·exact .inl a
 ·exact .inr ⟨g,cap,c,rfl,e,(d g rfl).trans f,i⟩
theorem MA.keeps {V V':Vw} (h:B7 V V') {et:TypeId} {e:Ty} {xs:List e.den} {loc:Value} (a:∀b,blk loc=some b→V'.w.heap[b]?=V.w.heap[b]?) (f:MA V et e xs loc):MA V' et e xs loc:=by
 obtain⟨d,cells,h1,c⟩:=f;exact⟨d,cells,IB a h1,c.keeps h⟩
theorem Va.keeps {V V':Vw} (h:B7 V V') {c:TypeId} {k e:Ty} {hole:Bool} {cells:List Value} {i:Nat} {x:k.den×List e.den} {u:Value} (j:∀b,blk u=some b→V'.w.heap[b]?=V.w.heap[b]?) (l:Va V c k e hole cells i x u):Va V' c k e hole cells i x u:=by
 obtain⟨c1,v,h1,d,a⟩:=l;refine⟨c1,v,h1,Be.mono h.O h.heap d,?_⟩;rcases a with a|⟨a,f,g⟩
 ·exact .inl a
 ·exact .inr ⟨a,f,g.keeps h j⟩
theorem Az {o:Value} {ins:List Value} {b:Nat}:bk (.tuple (o :: ins).toArray) b↔blk o=some b∨∃(i:Nat) (u:Value),ins[i]?=some u∧blk u=some b:=by
 constructor
 ·rintro (h|⟨d,h,x,c,a⟩)
  ·cases h
  ·injection h with h
   subst h;simp only[Do]at c;rcases c with rfl|c
   ·exact .inl a
   ·obtain⟨i,hi⟩:=List.getElem?_of_mem c;exact .inr ⟨i,x,hi,a⟩
 ·rintro (h|⟨i,u,hi,a⟩)
  ·exact .inr ⟨_,rfl,o,by simp,h⟩
  ·exact .inr ⟨_,rfl,u,by simp[AA9 hi],a⟩
theorem Shp.bk {loc o:Value} {ins:List Value} {b:Nat} (h:Shp loc o ins):bk loc b↔bk (.tuple (o :: ins).toArray) b:=by
 rcases h with rfl|⟨rfl,rfl,rfl⟩
 ·exact Iff.rfl
 ·rw[Az,KV];simp[blk]
theorem Shp.plc {loc o:Value} {ins:List Value} (h:Shp loc o ins):plc loc=o:=by
 rcases h with rfl|⟨rfl,rfl,rfl⟩<;>rfl
theorem Shp.tup {loc o:Value} {ins:List Value} {a:Array Value} (h:Shp loc o ins) (b:loc=.tuple a):a=(o :: ins).toArray:=by
 subst b;rcases h with h|⟨h,_⟩
 ·injection h
 ·cases h
theorem J3.keeps {V V':Vw} (h:B7 V V') {et g:TypeId} {k e:Ty} {xs:List (k.den×List e.den)} {f:Option Nat} {o:Value} {ins cells:List Value} (d:∀b,bk (.tuple (o :: ins).toArray) b→V'.w.heap[b]?=V.w.heap[b]?) (a:J3 V et g k e xs f o ins cells):J3 V' et g k e xs f o ins cells :=
 ⟨a.max,a.len,IB (fun b h1=>d b (Az.2 (.inl h1))) a.own,fun i x u h1 c=>(a.row i x u h1 c).keeps h (fun b j=>d b (Az.2 (.inr ⟨i,u,c,j⟩))),a.dist,a.out⟩
theorem RN {w:World} {et:TypeId} {sz n b:Nat} {loc:Value} {cells:List Value} (h:w.ownsRow 0 et sz loc n cells) (a:blk loc=some b):b<w.heap.size:=by
 rcases h.2 with ⟨rfl,_⟩|⟨g,cap,d,rfl,e,c,f⟩
 ·simp[blk]at a
 ·simp[blk]at a;subst a;exact B5 c
theorem J3.block_lt {V:Vw} {et h:TypeId} {k e:Ty} {xs:List (k.den×List e.den)} {g:Option Nat} {o:Value} {ins cells:List Value} (d:J3 V et h k e xs g o ins cells) {b:Nat} (f:bk (.tuple (o :: ins).toArray) b):b<V.w.heap.size:=by
 rcases Az.1 f with h1|⟨i,u,h1,c⟩
 ·exact RN d.own h1
 ·have hi:i<xs.length:=by have:=(No.1 h1).1;rw[d.len]at this;exact this
  obtain⟨c1,v,_,_,a⟩:=d.row i xs[i] u (AT hi) h1;rcases a with ⟨_,a⟩|⟨_,_,_,j,a,_⟩
  ·rw[a]at c;simp[blk]at c
  ·exact RN a c
theorem Aw.keeps {V V':Vw} (h:B7 V V') {o:Obj} {loc:Value} (d:∀b,bk loc b→V'.w.heap[b]?=V.w.heap[b]?) (c:Aw V o loc):Aw V' o loc:=by
 cases o with
 | arr et e xs =>
  obtain⟨C,cells,⟨h1,a⟩,B⟩:=c;refine⟨C,cells,⟨h1,?_⟩,B.keeps h⟩;rcases a with a|⟨g,cap,i,rfl,E,F,G⟩
  ·exact .inl a
  ·exact .inr ⟨g,cap,i,rfl,E,(d g (.inl rfl)).trans F,G⟩
 | box et M fs =>
  obtain⟨h0,b,cs,rfl,h1,a⟩:=c;exact⟨h0,b,cs,rfl,(d b (.inl rfl)).trans h1,a.keeps h⟩
 | nest et K k e xs J =>
  obtain⟨o,ins,cells,hs,h1⟩:=c;exact⟨o,ins,cells,hs,h1.keeps h fun b A=>d b (hs.bk.2 A)⟩
 | mapo k v l =>
  obtain⟨b,m,cl,rfl,h1,a,f⟩:=c;exact⟨b,m,cl,rfl,(d b (.inl rfl)).trans h1,a.mono h.O h.heap,f⟩
 | frame N fs =>
  obtain⟨h0,h1⟩:=c;exact⟨h0,fun s x hs=>(h1 s x hs).keeps h⟩
 | itr k v l left i =>
  obtain⟨r,rfl,b,D,cl,I,H,h1,a,f,p,q,t,u,y,z,n⟩:=c;have j:=B5 f;exact⟨r,rfl,b,D,cl,I,H,(d r (.inl rfl)).trans h1,h.O b j a,(h.heap b j a).trans f,p.mono h.O h.heap,q,t,u,y,z,n⟩
 | loop L =>
  obtain⟨b,rfl,h1⟩:=c;exact⟨b,rfl,(d b (.inl rfl)).trans h1⟩
 | dfr =>
  obtain⟨b,rfl,h1⟩:=c;exact⟨b,rfl,(d b (.inl rfl)).trans h1⟩
theorem Aw.block_lt {V:Vw} {o:Obj} {loc:Value} (c:Aw V o loc) {b:Nat} (a:bk loc b):b<V.w.heap.size:=by
 cases o with
 | arr et e xs =>
  obtain⟨n,cells,⟨h1,d⟩,j⟩:=c;rcases d with ⟨rfl,_⟩|⟨g,cap,f,rfl,s,h,t⟩
  ·simp[bk,blk]at a
  ·simp[bk,blk]at a;subst a;exact B5 h
 | box et y fs =>
  obtain⟨h0,b',cs,rfl,h1,d⟩:=c;simp[bk,blk]at a;subst a;exact B5 h1
 | nest et p k e xs m =>
  obtain⟨o,ins,cells,hs,h1⟩:=c;exact h1.block_lt (hs.bk.1 a)
 | mapo k v l =>
  obtain⟨b',i,cl,rfl,h1,d⟩:=c;simp[bk,blk]at a;subst a;exact B5 h1
 | frame z fs =>
  obtain⟨rfl,h1⟩:=c;simp[bk,blk]at a
 | itr k v l left f =>
  obtain⟨r,rfl,b',q,cl,x,u,h1,-⟩:=c;simp[bk,blk]at a;subst a;exact B5 h1
 | loop L =>
  obtain⟨b',rfl,h1⟩:=c;simp[bk,blk]at a;subst a;exact B5 h1
 | dfr =>
  obtain⟨b',rfl,h1⟩:=c;simp[bk,blk]at a;subst a;exact B5 h1
section
variable {α:Type}
theorem Av (k:Nat):∀(l r:List (Nat×α)),lk k (l++r)=(lk k l).or (lk k r)
 | [],_=>by simp[lk]
 | (j,v) :: l,r=>by
  simp only[ABe,lk];split
  ·simp
  ·exact Av k l r
theorem FW (k n:Nat) (u:α):∀l:List (Nat×α),lk k (upd n u l)=if k=n then (lk n l).map (fun _=>u) else lk k l
 | []=>by simp[lk,upd]
 | (j,v) :: l=>by
  simp only[upd];by_cases hn:n=j
  ·subst hn;by_cases hk:k=n
   ·subst hk;simp[lk]
   ·simp[lk,hk,FW k n u l]
  ·simp only[At hn,lk];by_cases hk:k=n
   ·subst hk;simp[hn,FW k k u l]
   ·by_cases a:k=j
    ·subst a;simp[hk]
    ·simp[hk,a,FW k n u l]
theorem OX (k n:Nat):∀l:List (Nat×α),lk k (del n l)=if k=n then none else lk k l
 | []=>by simp[lk,del]
 | (j,v) :: l=>by
  simp only[del];by_cases hn:n=j
  ·subst hn;rw[BY rfl,OX k n l];by_cases hk:k=n<;>simp[lk,hk]
  ·rw[At hn];simp only[lk,OX k n l];by_cases hk:k=n
   ·subst hk;simp[hn]
   ·simp[hk]
end
end
section
open Go Go.RowKit
def Dq (σ:St) (obs:List (Nat×Obj)):St:=⟨σ.env,obs++σ.objs⟩
structure QS (w:World) (O0:Nat→Prop) (σ:St) (ρ:Nat→Value) (v:AV) (obs:List (Nat×Obj)) (u:Value) (ρ':Nat→Value) (w':World):Prop where
 below:Below w.heap.size w w'
 rho:∀n,lk n obs=none→ρ' n=ρ n
 av:Bm (vw w' O0 (Dq σ obs) ρ') v u
 obj:∀n o,lk n obs=some o→Aw (vw w' O0 (Dq σ obs) ρ') o (ρ' n)
 new:∀n o b,lk n obs=some o→bk (ρ' n) b→w.heap.size≤b
 dist:∀n m o o' b,lk n obs=some o→lk m obs=some o'→bk (ρ' n) b→bk (ρ' m) b→n=m
theorem E9 {α:Type} {k:Nat} {v:α}:∀ {l:List (Nat×α)},lk k l=some v→(k,v)∈l
 | (j,u) :: l,h=>by
  simp only[lk]at h;split at h
  ·rename_i e;cases h;subst e;simp
  ·exact bY _ (E9 h)
theorem MB {obs:List (Nat×Obj)} {σ:St} (h:BQ obs σ=true) {n:Nat} {o:Obj} (hn:lk n obs=some o):lk n σ.objs=none:=by
 simp only[BQ,DO]at h;simpa using h _ (E9 hn)
theorem KW {σ:St} {obs:List (Nat×Obj)} {n:Nat} (h:Fl (Dq σ obs) n):(∃o,lk n obs=some o)∨(lk n obs=none∧Fl σ n):=by
 obtain⟨o,h⟩:=h;simp only[Dq,Av]at h;cases a:lk n obs with
 | some b=>exact .inl ⟨b,rfl⟩
 | none=>rw[a]at h;exact .inr ⟨rfl,o,by simpa using h⟩
theorem Vb {σ:St} {obs:List (Nat×Obj)} (hf:BQ obs σ=true) {n:Nat} (h:Fl σ n):Fl (Dq σ obs) n∧lk n obs=none:=by
 obtain⟨o,h⟩:=h;have hn:lk n obs=none:=by
  cases a:lk n obs with
  | none=>rfl
  | some b=>have:=MB hf a;rw[this]at h;cases h
 exact⟨⟨o,by simp[Dq,Av,hn,h]⟩,hn⟩
theorem Gn {w w':World} {O0:Nat→Prop} {σ:St} {ρ ρ':Nat→Value} {obs:List (Nat×Obj)} (hf:BQ obs σ=true)
  (hb:Below w.heap.size w w') (hr:∀n,lk n obs=none→ρ' n=ρ n) (hn:∀n o b,lk n obs=some o→bk (ρ' n) b→w.heap.size≤b) :
  B7 (vw w O0 σ ρ) (vw w' O0 (Dq σ obs) ρ') where
 O:=by
  intro b hlt hO hO';rcases hO' with h0|⟨n,hl,hb'⟩
  ·exact hO (.inl h0)
  ·rcases KW hl with ⟨o,ho⟩|⟨hno,hl'⟩
   ·have:=hn n o b ho hb';have hlt:b<w.heap.size:=hlt;omega
   ·exact hO (.inr ⟨n,hl',by rw[←hr n hno];exact hb'⟩)
 L:=fun n h=>(Vb hf h).1
 ρ:=fun n h=>hr n (Vb hf h).2
 heap:=fun b hlt _=>hb.block b hlt
theorem QS.keeps {w w':World} {O0:Nat→Prop} {σ:St} {ρ ρ':Nat→Value} {v:AV} {u:Value} {obs:List (Nat×Obj)} (hf:BQ obs σ=true) (h:QS w O0 σ ρ v obs u ρ' w') :
  B7 (vw w O0 σ ρ) (vw w' O0 (Dq σ obs) ρ'):=Gn hf h.below h.rho h.new
theorem Frm.below {K:Nat→Prop} {w0 w w':World} (h:Frm K w0 w) (hb:Below w.heap.size w w') (hK:∀b,K b→b<w0.heap.size):Frm K w0 w' where
 os:=hb.os.trans h.os
 tape:=hb.tape.trans h.tape
 output:=hb.output.trans h.output
 size:=f4 h.size hb.size
 block:=fun k hk=>(hb.block k (AAq (hK k hk) h.size)).trans (h.block k hk)
theorem Id (a:Act) (dst:Option Tmp) (u:Value):(a.put dst u).tmps.size=a.tmps.size:=by
 cases dst<;>simp[Act.put]
theorem FX (a:Act) (dst:Option Tmp) (u:Value):(a.put dst u).defers=a.defers:=by cases dst<;>rfl
theorem JT (a:Act) (d:Nat) (u:Value) (s:Nat) (b:d<a.tmps.size):(a.put (some d) u).tmps.getD s undef=if s=d then u else a.tmps.getD s undef:=by
 by_cases h:s=d
 ·subst h;simp[Act.put,b]
 ·have:¬d=s:=fun e=>h e.symm;simp[Act.put,h,this,Array.getElem?_setIfInBounds]
theorem Bb.add {w0:World} {K O0:Nat→Prop} {nt:Nat} {ds:Fp} {σ:St} {ρ:Nat→Value} {a:Act} {w:World} (h:Bb w0 K O0 nt ds σ ρ a w)
  (D:∀b,K b→b<w0.heap.size) (J:∀b,O0 b→b<w0.heap.size) {dst:Option Nat} (L:∀d,dst=some d→d<nt)
  {v:AV} {obs:List (Nat×Obj)} {u:Value} {ρ':Nat→Value} {w':World} (hf:BQ obs σ=true) (c:QS w O0 σ ρ v obs u ρ' w') :
  Bb w0 K O0 nt ds (σ.add v obs dst) ρ' (a.put dst u) w':=by
 have hk:=c.keeps hf;have G:(σ.add v obs dst).objs=obs++σ.objs:=by cases dst<;>rfl
 have l:∀n,Fl (σ.add v obs dst) n↔Fl (Dq σ obs) n:=fun n=>by simp[Fl,G,Dq]
 have H:vw w' O0 (σ.add v obs dst) ρ'=vw w' O0 (Dq σ obs) ρ':=by
  have j:Fl (σ.add v obs dst)=Fl (Dq σ obs):=funext fun n=>propext (l n);have g:own O0 (σ.add v obs dst) ρ'=own O0 (Dq σ obs) ρ':=by
   funext b;simp only[own,j]
  simp only[vw,j,g]
 refine⟨h.frm.below c.below D,by rw[Id];exact h.nt,by rw[FX];exact h.defers,fun p hp=>?_,?_,?_,?_,?_⟩
 ·obtain⟨h1,k,I⟩:=h.pin p hp;have C:=Vb hf h1;exact⟨(l p.1).2 C.1,(c.rho _ C.2).trans k,I⟩
 ·intro n o g;rw[G,Av]at g;rw[H];cases r:lk n obs with
  | some A=>rw[r]at g;cases g;exact c.obj n _ r
  | none =>
   rw[r]at g;have q:lk n σ.objs=some o:=by simpa using g
   rw[c.rho n r];refine(h.objs n o q).keeps hk fun b f=>?_;exact c.below.block b ((h.objs n o q).block_lt f)
 ·intro n b j f;rcases KW ((l n).1 j) with ⟨o,g⟩|⟨t,z⟩
  ·have M:=c.new n o b g f;have:=h.frm.size;exact⟨fun y=>by have:=D b y;omega,fun y=>by have:=J b y;omega⟩
  ·rw[c.rho n t]at f;exact h.free n b z f
 ·intro n m b j z f i;rcases KW ((l n).1 j) with ⟨o,g⟩|⟨t,hn⟩<;>rcases KW ((l m).1 z) with ⟨A,q⟩|⟨F,E⟩
  ·exact c.dist n m o A b g q f i
  ·have h1:=c.new n o b g f;rw[c.rho m F]at i;obtain⟨B,k⟩:=E;have:=(h.objs m B k).block_lt i;have:b<w.heap.size:=this;omega
  ·have h1:=c.new m A b q i;rw[c.rho n t]at f;obtain⟨B,k⟩:=hn;have:=(h.objs n B k).block_lt f;have:b<w.heap.size:=this;omega
  ·rw[c.rho n t]at f;rw[c.rho m F]at i;exact h.dist n m b hn E f i
 ·intro s x hs;rw[H];cases dst with
  | none=>exact(h.env s x hs).keeps hk
  | some d =>
   simp only[St.add,lk]at hs;rw[JT a d u s (by rw[h.nt];exact L d rfl)];split at hs
   ·rename_i e;cases hs;rw[BY e];exact c.av
   ·rename_i e;rw[At e];exact(h.env s x hs).keeps hk
theorem QS.still {w:World} {O0:Nat→Prop} {σ:St} {ρ:Nat→Value} {v:AV} {u:Value} (h:Bm (vw w O0 σ ρ) v u):QS w O0 σ ρ v [] u ρ w where
 below:=Below.refl _ _
 rho:=fun _ _=>rfl
 av:=h
 obj:=fun _ _ h=>by cases h
 new:=fun _ _ _ h=>by cases h
 dist:=fun _ _ _ _ _ h=>by cases h
def Dr (ρ:Nat→Value) (n:Nat) (x:Value):Nat→Value:=fun m=>if m=n then x else ρ m
theorem BU (ρ:Nat→Value) (n:Nat) (x:Value):Dr ρ n x n=x:=by simp[Dr]
theorem QS.one {w w':World} {O0:Nat→Prop} {σ:St} {ρ:Nat→Value} {v:AV} {u loc:Value} {n:Nat} {o:Obj} (hb:Below w.heap.size w w')
  (hnew:∀b,bk loc b→w.heap.size≤b)
  (hav:Bm (vw w' O0 (Dq σ [(n,o)]) (Dr ρ n loc)) v u)
  (hobj:Aw (vw w' O0 (Dq σ [(n,o)]) (Dr ρ n loc)) o loc):QS w O0 σ ρ v [(n,o)] u (Dr ρ n loc) w' where
 below:=hb
 rho:=fun m hm=>by
  simp only[lk]at hm;split at hm
  ·cases hm
  ·rename_i e;simp[Dr,e]
 av:=hav
 obj:=fun m o' hm=>by
  simp only[lk]at hm;split at hm
  ·rename_i e;cases hm;subst e;rw[BU];exact hobj
  ·cases hm
 new:=fun m o' b hm hb'=>by
  simp only[lk]at hm;split at hm
  ·rename_i e;subst e;rw[BU]at hb';exact hnew b hb'
  ·cases hm
 dist:=fun m m' o1 o2 b h1 h2 _ _=>by
  simp only[lk]at h1 h2;split at h1
  ·split at h2
   ·omega
   ·cases h2
  ·cases h1
end
section
open Go Go.RowKit
theorem A5 {t:Ty} {p:PV} {d:t.den} (h:BG t p=some d):p=⟨t,d⟩:=by
 obtain⟨u,x⟩:=p;simp only[BG]at h;split at h
 ·rename_i e;subst e;simpa using h
 ·cases h
theorem BX {e a:Ty} {xs:List a.den} {ys:List e.den} (h:BG (.slice e) ⟨.slice a,xs⟩=some ys):a=e∧HEq xs ys:=by
 have b:=A5 h;injection b with h1 c
 injection h1 with h1
 exact⟨h1,c⟩
theorem MC {α:Type} (xs:List α) {lo hi:Nat} (h:hi≤xs.length):(sub xs lo hi).length=hi-lo:=by
 simp[sub];omega
theorem Vc {α:Type} (xs:List α) (lo hi i:Nat) {x:α} (h:(sub xs lo hi)[i]?=some x):xs[lo+i]?=some x∧i<hi-lo:=by
 simp only[sub,iN,AAe]at h;split at h
 ·rename_i a;exact⟨h,a⟩
 ·cases h
theorem b8 {w:World} {O':Nat→Prop} {et:TypeId} {e:Ty} {xs:List e.den} {loc v:Value} {cells:List Value} {lo hi:Nat} (G:∀b,blk loc=some b→¬O' b)
  (L:xs.length≤AO) (k:w.ownsRow 0 et e.size loc xs.length cells) (y:DL w O' e cells xs) (H:Cf loc e.size lo hi v):Be w O' (.slice e) [v] (sub xs lo hi):=by
 obtain⟨a,m,c,h,J,A,l,n,rfl,s,h0,h1⟩:=H;have E:m=xs.length:=by
  rcases k.2 with ⟨d,hn⟩|⟨g,cap,o,d,_⟩
  ·rw[h]at d;injection d;omega
  ·rw[h]at d;injection d
 subst E;have f:=MC xs (lo:=lo) A;refine⟨l,n,by rw[f],by rw[f];exact s,by rw[f];omega,?_⟩;by_cases D:lo<hi
 ·right;rcases k.2 with ⟨d,hn⟩|⟨g,cap,o,d,r⟩
  ·omega
  ·have t:=World.ownsRow.cells k (g:=g) (by rw[d];rfl);have ha:a=some ⟨g,0,none⟩:=by rw[h]at d;injection d
   subst ha;refine⟨_,h1 D,G _ (by rw[d];simp only[blk,B3]),fun i x B=>?_⟩;obtain⟨I,K⟩:=Vc xs lo hi i B;obtain⟨p,z,q,F⟩:=y (lo+i) x I;refine⟨p,z,fun j u C=>?_,F⟩;have:=t _ u (q j u C);rw[Ct]
   rwa [ABF,ABK]at this
 ·left;have:(sub xs lo hi).length=0:=by rw[f];omega
  exact aT this
theorem GT {w:World} {base:Nat} {et:TypeId} {sz n:Nat} {s:Value} {xs:List Value} (h:w.ownsRow base et sz s n xs):plc s=s:=by
 rcases h.2 with ⟨rfl,_⟩|⟨g,cap,a,rfl,_⟩<;>rfl
theorem Ms {V:Vw} {et:TypeId} {e:Ty} {xs:List e.den} {loc:Value} (h:Aw V (.arr et e xs) loc):plc loc=loc:=by
 obtain⟨_,_,h,_⟩:=h;exact GT h
theorem Vd {V:Vw} {O':Nat→Prop} (h:∀b,¬V.O b→¬O' b) {et:TypeId} {e:Ty} {xs:List e.den} {loc v:Value} {lo hi:Nat} (n:∀b,blk loc=some b→¬O' b)
  (a:Aw V (.arr et e xs) loc) (c:Cf (plc loc) e.size lo hi v):Be V.w O' (.slice e) [v] (sub xs lo hi):=by
 rw[Ms a]at c;obtain⟨l,cells,m,k⟩:=a;exact b8 n l m (fun i x hi=>let ⟨d,h1,f,g⟩:=k i x hi;⟨d,h1,f,g.mono (fun b _ j=>h b j) (fun _ _ _=>rfl)⟩) c
theorem Eo {w:World} {et:TypeId} {sz n:Nat} {s:Value} {xs:List Value} (h:w.ownsRow 0 et sz s n xs):Cf s sz 0 n s:=by
 rcases h.2 with ⟨rfl,hn⟩|⟨g,cap,a,rfl,_,_,b,_⟩
 ·exact⟨none,0,0,rfl,by omega,by omega,none,0,by rw[hn],by omega,fun _=>⟨rfl,rfl⟩,fun h=>by omega⟩
 ·exact⟨some ⟨g,0,none⟩,n,cap,rfl,by omega,by omega,some ⟨g,0,none⟩,cap,by simp,by omega,fun _=>⟨rfl,rfl⟩,fun _=>by simp[LI]⟩
theorem Tn {V:Vw} {O':Nat→Prop} (c:∀b,¬V.O b→¬O' b) {et:TypeId} {e:Ty} {xs:List e.den} {u:Value} (d:∀b,blk u=some b→¬O' b) (h:MA V et e xs u):Be V.w O' (.slice e) [u] xs:=by
 have h1:=h;obtain⟨_,_,a,_⟩:=h1;have:=Vd (V:=V) c d (et:=et) (e:=e) (xs:=xs) (loc:=u) h (by rw[GT a];exact Eo a)
 rwa [Hc]at this
theorem JU {w:World} {base:Nat} {et:TypeId} {sz n m c:Nat} {a:Option Addr} {xs:List Value} (h:w.ownsRow base et sz (.slice a m c) n xs):m=n:=by
 rcases h.2 with ⟨b,hn⟩|⟨g,cap,d,b,_⟩
 ·injection b;omega
 ·injection b
theorem Ve {V:Vw} {g:TypeId} {e:Ty} {xs:List e.den} {u:Value} {a:Option Addr} {len c:Nat} (f:zU u (.slice a len c)) (h:MA V g e xs u):len=xs.length:=by
 obtain⟨_,k,b,_⟩:=h;rcases f with rfl|⟨rfl,i,d⟩
 ·exact JU b
 ·injection d with _ j
  have:=JU b;omega
theorem n4 {V:Vw} {j:TypeId} {e:Ty} {xs:List e.den} {u v:Value} (g:zU u v) (h:MA V j e xs u):∃(a:Option Addr) (c:Nat),v=.slice a xs.length c:=by
 rcases g with rfl|⟨rfl,a,rfl⟩
 ·obtain⟨_,k,f,_⟩:=h;obtain⟨_,_,_,_,_,_,b,d,i,_⟩:=Eo f;exact⟨b,d,i⟩
 ·have hn:=Ve (.inr ⟨rfl,a,rfl⟩) h;exact⟨a,0,by rw[←hn]⟩
theorem b9 {V:Vw} {O':Nat→Prop} {f:TypeId} {e:Ty} {xs:List e.den} {u v:Value} (b:zU u v) (h:MA V f e xs u) (c:Be V.w O' (.slice e) [u] xs):Be V.w O' (.slice e) [v] xs:=by
 rcases b with rfl|⟨rfl,a,rfl⟩
 ·exact c
 ·have hn:=Ve (.inr ⟨rfl,a,rfl⟩) h;have d:xs=[]:=aT hn.symm;subst d;exact⟨a,0,rfl,If _,by simp,.inl rfl⟩
theorem MD {V:Vw} {O':Nat→Prop} (g:∀b,¬V.O b→¬O' b) {et p:TypeId} {k e:Ty} {xs:List (k.den×List e.den)} {o:Value} {ins cells:List Value} (h:J3 V et p k e xs none o ins cells)
  (n:∀(i b:Nat) (u:Value),ins[i]?=some u→blk u=some b→¬O' b):DL V.w O' (.agg (.prod k (.slice e))) cells xs:=by
 intro i x hi;have j:i<ins.length:=by rw[h.len];exact(No.1 hi).1
 obtain⟨c1,v,h1,d,a⟩:=h.row i x ins[i] hi (AT j);rcases a with ⟨a,_⟩|⟨_,l,f⟩
 ·cases a
 ·have m:=b9 l f (Tn g (fun b c=>n i b _ (AT j) c) f);refine⟨c1++[v],by simp[Ty.size,d.length],h1,?_⟩;exact(⟨c1,[v],rfl,d.mono (fun b _ c=>g b c) (fun _ _ _=>rfl),m⟩:Be V.w O' (.prod k (.slice e)) _ x)
theorem Wr {V:Vw} {O':Nat→Prop} (f:∀b,¬V.O b→¬O' b) {et l:TypeId} {k e:Ty} {xs:List (k.den×List e.den)} {loc v:Value} {lo hi:Nat} (a:∀b,bk loc b→¬O' b)
  (j:Aw V (.nest et l k e xs none) loc) (c:Cf (plc loc) (k.size+1) lo hi v):Be V.w O' (.slice (.agg (.prod k (.slice e)))) [v] (sub (α:=k.den×List e.den) xs lo hi):=by
 obtain⟨o,ins,cells,hs,h⟩:=j;rw[hs.plc]at c;exact b8 (e:=.agg (.prod k (.slice e))) (xs:=xs) (fun b g=>a b (hs.bk.2 (Az.2 (.inl g)))) h.max h.own (MD f h fun i b u h1 d=>a b (hs.bk.2 (Az.2 (.inr ⟨i,u,h1,d⟩)))) c
theorem Tp {V:Vw} {p:Obj} {loc:Value} {a:Option Addr} {m c:Nat} (d:Aw V p loc) (h:plc loc=.slice a m c):∃et sz cells,V.w.ownsRow 0 et sz (.slice a m c) m cells∧m≤AO:=by
 cases p with
 | arr et e xs =>
  have h1:=Ms d;obtain⟨r,cells,i,_⟩:=d;rw[h1]at h;subst h;have j:m=xs.length:=by
   rcases i.2 with ⟨f,hn⟩|⟨g,cap,q,f,_⟩
   ·injection f;omega
   ·injection f
  subst j;exact⟨et,_,cells,i,r⟩
 | nest et u k e xs s =>
  obtain⟨o,ins,cells,hs,n⟩:=d;rw[hs.plc]at h;subst h;have i:=n.own;have j:m=xs.length:=by
   rcases i.2 with ⟨f,hn⟩|⟨g,cap,q,f,_⟩
   ·injection f;omega
   ·injection f
  subst j;exact⟨et,_,cells,i,n.max⟩
 | box et B fs=>obtain⟨_,b,cs,rfl,_⟩:=d;cases h
 | mapo k v l=>obtain⟨b,_,_,rfl,_⟩:=d;cases h
 | frame C fs=>obtain⟨rfl,_⟩:=d;cases h
 | loop L=>obtain⟨b,rfl,_⟩:=d;cases h
 | itr x A y z t=>obtain⟨b,rfl,_⟩:=d;cases h
 | dfr=>obtain⟨b,rfl,_⟩:=d;cases h
theorem LL {V V':Vw} (c:V'.w=V.w) (d:V'.O=V.O) {et f:TypeId} {k e:Ty} {xs:List (k.den×List e.den)} {h:Option Nat} {loc:Value} (s:Aw V (.nest et f k e xs h) loc):Aw V' (.nest et f k e xs h) loc:=by
 obtain⟨o,ins,cells,q,a⟩:=s;refine⟨o,ins,cells,q,a.max,a.len,by rw[c];exact a.own,fun i x u h1 g=>?_,a.dist,a.out⟩;obtain⟨c1,v,j,l,b⟩:=a.row i x u h1 g;refine⟨c1,v,j,by rw[c,d];exact l,?_⟩;rcases b with b|⟨b,m,r,t,n,p⟩
 ·exact .inl b
 ·exact .inr ⟨b,m,r,t,by rw[c];exact n,by rw[c,d];exact p⟩
theorem kE {V V':Vw} (d:V'.w=V.w) (g:∀b,¬V.O b→¬V'.O b) {et j:TypeId} {k e:Ty} {xs:List (k.den×List e.den)} {h:Option Nat} {loc:Value} (C:Aw V (.nest et j k e xs h) loc):Aw V' (.nest et j k e xs h) loc:=by
 obtain⟨o,ins,cells,A,a⟩:=C;refine⟨o,ins,cells,A,a.max,a.len,by rw[d];exact a.own,fun i x u h1 q=>?_,a.dist,a.out⟩;obtain⟨c1,v,r,s,c⟩:=a.row i x u h1 q;refine⟨c1,v,r,s.mono (fun b _ f=>g b f) (fun b _ _=>by rw[d]),?_⟩;rcases c with c|⟨c,t,B,D,y,z⟩
 ·exact .inl c
 ·refine .inr ⟨c,t,B,D,by rw[d];exact y,fun i x hi=>?_⟩;obtain⟨l,m,n,p⟩:=z i x hi;exact⟨l,m,n,p.mono (fun b _ f=>g b f) (fun b _ _=>by rw[d])⟩
theorem Qj {V:Vw} {et g:TypeId} {k e:Ty} {xs:List (k.den×List e.den)} {h:Option Nat} {loc v:Value} {c:Array Value} {i:Nat} {z:k.den×List e.den}
  (d:Aw V (.nest et g k e xs h) loc) (f:loc=.tuple c) (a:c[i+1]?=some v):xs[i]?=some (xs.getD i z):=by
 obtain⟨o,ins,cells,hs,h⟩:=d;obtain rfl:=hs.tup f;have a:ins[i]?=some v:=by simpa using a
 have b:i<xs.length:=by rw[←h.len];exact(No.1 a).1
 rw[AT b,AS,AT b];rfl
theorem uE {V:Vw} {t:Obj} {loc u v:Value} {w:Array Value} {i len c:Nat} {a:Option Addr} (d:Aw V t loc) (z:loc=.tuple w) (j:w[i+1]?=some u) (n:zU u v) (s:v=.slice a len c):len≤AO:=by
 subst z;cases t with
 | arr et e xs =>
  obtain⟨E,cells,y,_⟩:=d;rcases y.2 with ⟨r,_⟩|⟨g,cap,B,r,_⟩<;>cases r
 | nest et G k e xs D =>
  obtain⟨o,ins,cells,hs,q⟩:=d;obtain rfl:=hs.tup rfl;have j:ins[i]?=some u:=by simpa using j
  have x:i<xs.length:=by rw[←q.len];exact(No.1 j).1
  obtain⟨c1,O,h1,C,m⟩:=q.row i xs[i] u (AT x) j;rcases m with ⟨_,m⟩|⟨_,_,p⟩
  ·subst s;rcases n with f|⟨_,A,f⟩
   ·rw[m]at f;injection f;omega
   ·injection f;omega
  ·rw[s]at n;rw[Ve n p];exact p.1
 | box et M fs=>obtain⟨_,b,cs,h,_⟩:=d;cases h
 | mapo k v l=>obtain⟨b,_,_,h,_⟩:=d;cases h
 | frame N fs=>obtain⟨h,_⟩:=d;cases h
 | loop L=>obtain⟨b,h,_⟩:=d;cases h
 | itr H K I J F=>obtain⟨b,h,_⟩:=d;cases h
 | dfr=>obtain⟨b,h,_⟩:=d;cases h
theorem cA {V:Vw} {O':Nat→Prop} (g:∀b,¬V.O b→¬O' b) {et r:TypeId} {k e:Ty} {xs:List (k.den×List e.den)} {loc v:Value} {f:Array Value} {i:Nat} {x:k.den×List e.den} (n:∀b,bk loc b→¬O' b) {u:Value}
  (m:Aw V (.nest et r k e xs none) loc) (p:loc=.tuple f) (a:f[i+1]?=some u) (l:zU u v) (q:xs[i]?=some x):Be V.w O' (.slice e) [v] x.2:=by
 obtain⟨o,ins,cells,hs,h⟩:=m;obtain rfl:=hs.tup p;have a:ins[i]?=some u:=by simpa using a
 obtain⟨c1,y,h1,s,c⟩:=h.row i x u q a;rcases c with ⟨c,_⟩|⟨_,t,d⟩
 ·cases c
 ·exact b9 l d (Tn g (fun b j=>n b (hs.bk.2 (Az.2 (.inr ⟨i,_,a,j⟩)))) d)
section
variable {V:Vw} {O':Nat→Prop} {l:Bool} {σ:St}
theorem Ws (p:∀b,¬V.O b→¬O' b) (s:l=true→∀b,¬O' b) (q:∀n o,lk n σ.objs=some o→Aw V o (V.ρ n))
  {t:Ty} {x:AV} {d:t.den} {cs:List Value} (h:Dy l σ t x=some d) (j:Lo V x cs):Be V.w O' t cs d:=by
 unfold Dy at h;split at h
 ·rename_i u C;have:=A5 h;injection this with h1 f
  subst h1;cases f;have j:Be V.w V.O u cs C:=j;exact j.mono (fun b _ F=>p b F) (fun _ _ _=>rfl)
 ·rename_i e n D lo hi;split at h
  ·rename_i r;obtain⟨z,rfl⟩:=r;have m:=z;obtain⟨v,rfl,_,E,g⟩:=j;cases hn:lk n σ.objs with
   | none=>rw[hn]at h;simp[OO]at h
   | some o =>
    rw[hn]at h;cases o with
    | box et Q fs=>simp[OO]at h
    | mapo k v l=>simp[OO]at h
    | frame R fs=>simp[OO]at h
    | loop L=>simp[OO]at h
    | itr K P M N J=>simp[OO]at h
    | dfr=>simp[OO]at h
    | nest et I k y xs m =>
     cases m with
     | some i=>simp[OO]at h
     | none =>
      simp only[OO]at h;obtain⟨h1,f⟩:=BX h;subst h1;cases f;exact Wr p (fun b _=>s z b) (q n _ hn) g
    | arr et y xs =>
     simp only[OO]at h;obtain⟨h1,f⟩:=BX h;subst h1;cases f;exact Vd p (fun b _=>s m b) (q n _ hn) g
  ·cases h
 ·rename_i e n D i len;split at h
  ·rename_i r;obtain⟨m,rfl⟩:=r;obtain⟨v,rfl,_,E,T,a,c,S,B,A,G,_⟩:=j;cases hn:lk n σ.objs with
   | none=>rw[hn]at h;simp[OP]at h
   | some o =>
    rw[hn]at h;unfold OP at h;split at h
    ·rename_i et I k y xs H;cases H;obtain⟨h1,f⟩:=BX h;subst h1;cases f;exact cA p (fun b _=>s m b) (q n _ hn) B A G (Qj (q n _ hn) B A)
    ·cases h
  ·cases h
 ·obtain⟨v,rfl,_,g⟩:=j;have g:v=_:=g;subst g;cases h;exact⟨none,0,rfl,by simp,by simp[AO],.inl rfl⟩
 ·cases h
theorem n5 (i:∀b,¬V.O b→¬O' b) (k:l=true→∀b,¬O' b) (j:∀n o,lk n σ.objs=some o→Aw V o (V.ρ n)) :
  ∀ {fs:List AV} {t:Ty} {d:t.den} {cs:List Value},JH l σ fs t=some d→Cw V fs cs→Be V.w O' t cs d
 | [],t,d,cs,h,f=>by simp[JH]at h
 | [x],t,d,cs,h,f=>by
  obtain⟨c1,c2,rfl,h1,c⟩:=f;have c:c2=[]:=c;subst c;rw[AAl];simp only[JH]at h;exact Ws i k j h h1
 | x :: y :: r,t,d,cs,h,f=>by
  obtain⟨c1,c2,rfl,h1,c⟩:=f;cases t;case prod a b =>
   simp only[JH]at h;cases e:Dy l σ a x with
   | none=>rw[e]at h;simp[KN]at h
   | some m =>
    cases g:JH l σ (y :: r) b with
    | none=>rw[e,g]at h;simp[KN]at h
    | some p =>
     rw[e,g]at h;simp only[KN]at h;cases h;exact⟨c1,c2,rfl,Ws i k j e h1,n5 i k j g c⟩
  all_goals simp[JH]at h
theorem uF {t:Ty} {x:AV} {d:t.den} {v:Value} (h:Dy l σ t x=some d) (hp:∀u i,x≠.p u i) (e:Bm V x v):Lo V x [v]∧t.wrap [v]=v:=by
 unfold Dy at h;split at h
 ·exact absurd rfl (hp _ _)
 ·obtain⟨b,a,m,c,_,_,_,f,g,rfl,_⟩:=e;refine⟨⟨_,rfl,rfl,?_⟩,rfl⟩;exact⟨b,a,m,c,by assumption,by assumption,by assumption,f,g,rfl,by assumption⟩
 ·obtain⟨b,o,a,c,u,h1,j,k,rfl⟩:=e;exact⟨⟨_,rfl,rfl,b,o,a,c,u,h1,j,k,rfl⟩,rfl⟩
 ·have n:v=_:=e;subst n;exact⟨⟨_,rfl,rfl,rfl⟩,rfl⟩
 ·cases h
theorem Ie (f:∀b,¬V.O b→¬O' b) (j:l=true→∀b,¬O' b) (i:∀n o,lk n σ.objs=some o→Aw V o (V.ρ n))
  {t:Ty} {x:AV} {d:t.den} {v:Value} (h:J0 l σ t x=some d) (g:Bm V x v):BM V.w O' t v d:=by
 unfold J0 at h;split at h
 ·rename_i t fs;obtain⟨cs,rfl,m⟩:=g;exact⟨cs,(n5 f j i h m:Be V.w O' t cs d),rfl⟩
 ·by_cases hp:∃u a,x=.p u a
  ·obtain⟨u,a,rfl⟩:=hp;have h:BG t ⟨u,a⟩=some d:=by simpa only[Dy] using h
   have:=A5 h;injection this with h1 c
   subst h1;cases c;exact BM.mono (fun b _ k=>f b k) (fun _ _ _=>rfl) g
  ·obtain⟨h1,c⟩:=uF h (fun u a e=>hp ⟨u,a,e⟩) g;exact⟨[v],Ws f j i h h1,c.symm⟩
end
end
section
open Go Go.RowKit
def Vf:Ty→Value→Bool
 | .agg _,.agg _=>true
 | .agg _,_=>false
 | .prod _ _,_=>false
 | _,.agg _=>false
 | _,_=>true
def LM (P : Program) (id : TypeId) (a b : IntKind) : Prop := ∃ c d : Field, P.underlying id = some (.struct #[c, d]) ∧ ((c.name != "_") = true ∧ (d.name != "_") = true) ∧ (c.offset = 0 ∧ d.offset = 1) ∧ (P.underlying c.type = some (.int a) ∧ P.underlying d.type = some (.int b)) ∧ P.stoodInHeld id = false
def RO (P:Program) (id:TypeId):Ty→Nat→Prop
 | .agg (.prod (.int a) (.int b)),0=>LM P id a b
 | _,_=>True
def isI (k:IntKind):Option TypeDesc→Bool
 | some (.int a)=>k==a
 | _=>false
theorem Vg {k:IntKind} {d:Option TypeDesc} (h:isI k d=true):d=some (.int k):=by
 unfold isI at h;split at h
 ·rw[AA0.1 h]
 ·cases h
def zV (P:Program) (id:TypeId) (a b:IntKind):Option TypeDesc→Bool
 | some (.struct ⟨[c, d]⟩) => (c.name != "_") && (d.name != "_") && c.offset == 0 && d.offset == 1 && isI a (P.underlying c.type) && isI b (P.underlying d.type) && P.stoodInHeld id == false
 | _=>false
def n6 (P:Program) (id:TypeId):Ty→Nat→Bool
 | .agg (.prod (.int a) (.int b)),0=>zV P id a b (P.underlying id)
 | _,_=>true
theorem n7 {P:Program} {id:TypeId} {t:Ty} {el:Nat} (h:n6 P id t el=true):RO P id t el:=by
 unfold n6 at h;unfold RO;split at h
 ·unfold zV at h;split at h
  ·rename_i a b j;simp only[An,AA0]at h;obtain⟨⟨⟨⟨⟨⟨h1,c⟩,d⟩,e⟩,f⟩,g⟩,i⟩:=h;exact⟨a,b,j,⟨h1,c⟩,⟨d,e⟩,⟨Vg f,Vg g⟩,i⟩
  ·cases h
 ·trivial
def Dd (P:Program) (tb:Tb) (id:TypeId) (ti:TI):Prop :=
 (((∀p∈ti.offs,p.2≠0)∧0<ti.bytes∧RO P id ti.ty ti.el)∧∃(i:TypeInfo) (z:Value),P.info? id=some i∧i.size=ti.ty.size∧i.bytes=ti.bytes∧i.zero=some z∧z.cells=ti.ty.zero.toArray) ∧
 match ti.ty with
 | .int k=>P.underlying id=some (.int k)
 | .bool=>P.underlying id=some .bool
 | .str=>P.underlying id=some .string
 | .slice e=>P.underlying id=some (.slice ti.el)∧∃te,lk ti.el tb.ty=some te∧te.ty=e
 | .agg _=>(∃fs:Array Field,ti.el=0∧P.underlying id=some (.struct fs)∧ti.offs.map some=fs.toList.map fun f=>(P.info? f.type).map fun i=>(f.offset,i.size)) ∨
   ∃n e i,ti.el≠0∧P.underlying id=some (.array n e)∧P.info? e=some i∧ti.offs=(List.range n).map fun k=>(k*i.size,i.size)
 | .prod _ _=>False
 | .ref j=>∃d,P.underlying id=some d∧(match d with|.struct _=>False|.array _ _=>False|_=>True) ∧
   ∀k e,j=2→ti.offs=[(k,e)]→d=.map k e∧∃(a te:TI) (z:Value),lk k tb.ty=some a∧lk e tb.ty=some te∧(∃i,P.info? e=some i∧i.zero=some z)∧z.cells=te.ty.zero.toArray∧Vf te.ty z=true
def Cg (P:Program) (tb:Tb):Prop:=∀id ti,lk id tb.ty=some ti→Dd P tb id ti
def n8:Value→Value→Bool
 | .int k n,.int c d=>k==c&&n==d
 | .bool a,.bool b=>a==b
 | .string s,.string e=>s.size==0&&e.size==0
 | .slice none 0 0,.slice none 0 0=>true
 | .pointer none,.pointer none=>true
 | .nilFunc,.nilFunc=>true
 | .map none,.map none=>true
 | _,_=>false
theorem n9 {a b:Value} (h:n8 a b=true):a=b:=by
 unfold n8 at h;split at h
 ·simp only[An,AA0]at h;obtain⟨rfl,rfl⟩:=h;rfl
 ·simp only[AA0]at h;rw[h]
 ·rename_i s c;simp only[An,AA0]at h;have:s=c:=by
   obtain⟨⟨l⟩⟩:=s;obtain⟨⟨l'⟩⟩:=c;have h1:l.length=0:=h.1;have d:l'.length=0:=h.2;rw[aT h1,aT d]
  rw[this]
 ·rfl
 ·rfl
 ·rfl
 ·rfl
 ·cases h
def ME:List Value→List Value→Bool
 | [],[]=>true
 | a :: l,b :: r=>n8 a b&&ME l r
 | _,_=>false
theorem OY:∀ {l r:List Value},ME l r=true→l=r
 | [],[],_=>rfl
 | a :: l,b :: r,h=>by
  simp only[ME,An]at h;rw[n9 h.1,OY h.2]
 | [],_ :: _,h=>by simp[ME]at h
 | _ :: _,[],h=>by simp[ME]at h
def zW (ty:Ty) (bytes:Nat):Option TypeInfo→Bool
 | some i=>i.size==ty.size&&i.bytes==bytes&&(match i.zero with|some z=>ME z.cells.toList ty.zero|none=>false)
 | none=>false
def A14 (offs:List (Nat×Nat)) (n:Nat):Option TypeInfo→Bool
 | some i=>offs==(List.range n).map fun k=>(k*i.size,i.size)
 | none=>false
def zX (e:Nat) (te:Option TI):Option TypeInfo→Bool
 | some i=>match i.zero,te with|some z,some te=>ME z.cells.toList te.ty.zero&&Vf te.ty z|_,_=>false
 | none=>false
def A08 (P:Program) (tb:Tb) (j:Nat) (d:TypeDesc):List (Nat×Nat)→Bool
 | [(k,e)]=>j != 2||(match d with|.map b a=>b==k&&a==e&&(lk k tb.ty).isSome&&zX e (lk e tb.ty) (P.info? e)|_=>false)
 | _=>true
theorem uG {P:Program} {tb:Tb} {j:Nat} {d:TypeDesc} {offs:List (Nat×Nat)} (h:A08 P tb j d offs=true):∀k e,j=2→offs=[(k,e)]→d=.map k e∧∃(b te:TI) (z:Value),lk k tb.ty=some b∧lk e tb.ty=some te∧(∃i,P.info? e=some i∧i.zero=some z)∧z.cells=te.ty.zero.toArray∧Vf te.ty z=true:=by
 rintro k e rfl rfl;simp only[A08,bne_self_eq_false,ACp]at h;split at h
 ·simp only[An,AA0]at h;obtain⟨⟨⟨rfl,rfl⟩,c⟩,a⟩:=h;refine⟨rfl,?_⟩;obtain⟨b,g⟩:=AB2.1 c;unfold zX at a;split at a
  ·rename_i i hi;split at a
   ·rename_i z te l f;simp only[An]at a;exact⟨b,te,z,g,f,⟨i,hi,l⟩,by rw[←OY a.1],a.2⟩
   ·cases a
  ·cases a
 ·cases h
def A15 (P:Program) (tb:Tb) (ti:TI):Ty→Option TypeDesc→Bool
 | .int k,some (.int a)=>k==a
 | .bool,some .bool=>true
 | .str,some .string=>true
 | .slice e,some (.slice el)=>el==ti.el&&(match lk ti.el tb.ty with|some te=>decide (te.ty=e)|none=>false)
 | .agg _,some (.struct fs)=>ti.el==0&&ti.offs.map some==fs.toList.map fun f=>(P.info? f.type).map fun i=>(f.offset,i.size)
 | .agg _,some (.array n e)=>ti.el != 0&&A14 ti.offs n (P.info? e)
 | .ref _,some (.struct _)=>false
 | .ref _,some (.array _ _)=>false
 | .ref j,some d=>A08 P tb j d ti.offs
 | _,_=>false
def tiB (P:Program) (tb:Tb) (id:TypeId) (ti:TI):Bool:=((ti.offs.all fun p=>p.2 != 0)&&(decide (0<ti.bytes)&&n6 P id ti.ty ti.el))&&zW ti.ty ti.bytes (P.info? id)&&A15 P tb ti ti.ty (P.underlying id)
theorem A09 {P:Program} {tb:Tb} {id:TypeId} {ti:TI} (h:tiB P tb id ti=true):Dd P tb id ti:=by
 simp only[tiB,An]at h;obtain⟨⟨⟨h0,f,g⟩,h1⟩,a⟩:=h;refine⟨⟨⟨fun p hp=>by simpa using (DO.1 h0) p hp,by simpa using f,n7 g⟩,?_⟩,?_⟩
 ·unfold zW at h1;split at h1
  ·rename_i i hi;simp only[An,AA0]at h1;obtain⟨⟨b,c⟩,d⟩:=h1;split at d
   ·rename_i z k;exact⟨i,z,hi,b,c,k,by rw[←OY d]⟩
   ·cases d
  ·cases h1
 ·generalize l:P.underlying id=u at a;generalize ti.ty=t at a;cases t<;>cases u<;>simp only[A15]at a<;>try(cases a;done)
  all_goals
   rename_i u;cases u<;>simp only at a<;>try(cases a;done)
  ·have:=AA0.1 a;subst this;rfl
  ·rfl
  ·rfl
  ·simp only[An,AA0]at a;obtain⟨b,c⟩:=a;split at c
   ·rename_i te j;exact⟨by rw[b],te,j,by simpa using c⟩
   ·cases c
  ·rename_i n e;simp only[An,ABR]at a;obtain⟨b,a⟩:=a;unfold A14 at a;split at a
   ·rename_i i hi;exact .inr ⟨_,_,i,b,rfl,hi,by simpa using a⟩
   ·cases a
  ·simp only[An,AA0]at a;exact .inl ⟨_,a.1,rfl,a.2⟩
  all_goals exact⟨_,rfl,trivial,uG a⟩
theorem uH {P:Program} {tb:Tb} (h:(tb.ty.all fun p=>tiB P tb p.1 p.2)=true):Cg P tb:=fun id ti hi=>by
 rw[DO]at h;exact A09 (h _ (E9 hi))
def Ty.isAgg:Ty→Bool
 | .agg _=>true
 | .int _=>false
 | .bool=>false
 | .str=>false
 | .slice _=>false
 | .prod _ _=>false
 | .ref _=>false
section
variable {P:Program} {tb:Tb} {id:TypeId} {ti:TI} (w:World)
theorem KX {i:TypeInfo} (h:P.info? id=some i):(typeInfo id).run P w=.ok i w:=by simp[typeInfo,h]
theorem uI (h:Dd P tb id ti):(isAgg id).run P w=.ok ti.ty.isAgg w:=by
 obtain⟨_,a⟩:=h;cases f:ti.ty<;>rw[f]at a<;>simp only at a;case agg =>
  rcases a with ⟨fs,_,b,_⟩|⟨n,e,_,_,b,_⟩<;>simp[isAgg,aS b,Ty.isAgg]
 case slice=>simp[isAgg,aS a.1,Ty.isAgg]
 case ref k =>
  obtain⟨d,b,c,_⟩:=a;cases d<;>first|exact c.elim|simp[isAgg,aS b,Ty.isAgg]
 all_goals simp[isAgg,aS a,Ty.isAgg]
theorem Gp (h:Dd P tb id ti):(sizeOf id).run P w=.ok ti.ty.size w:=by
 obtain⟨⟨_,i,z,h1,a,_⟩,_⟩:=h;simp[sizeOf,KX w h1,a]
theorem Dd.noprod (h:Dd P tb id ti) {a b:Ty}:ti.ty≠.prod a b:=by
 intro e;have:=h.2;rw[e]at this;exact this
theorem Wt (h:Dd P tb id ti) {ad:Addr} {cs:List Value} (d:cs.length=ti.ty.size) (e:∀(j:Nat) (u:Value),cs[j]?=some u→w.cell? (ad.add j)=some u) :
  (loadVar id ad).run P w=.ok (ti.ty.wrap cs) w:=by
 have i:=fun a b=>h.noprod (a:=a) (b:=b);simp only[loadVar,AAA,uI w h,AA6];cases f:ti.ty;case prod a b=>exact absurd f (i a b)
 case agg u =>
  have g:ti.ty.size=cs.length:=d.symm;simp only[Ty.isAgg,AAv,AAA,Gp w h,AA6,g,run_loadCells_list w ad cs e,Ty.wrap];rfl
 all_goals
  rw[f]at d;obtain⟨c,rfl⟩:=AAJ.1 d;have h0:=e 0 c rfl;rw[LI]at h0;simp[Ty.isAgg,Ty.wrap,h0]
theorem D9 (h:Dd P tb id ti) {ad:Addr} {cs:List Value} (b:cs.length=ti.ty.size) (a:∀(j:Nat) (u:Value),cs[j]?=some u→w.cell? (ad.add j)=some u) :
  (Instr.loadAt id (.pointer (some ad))).run P w=.ok (ti.ty.wrap cs) w:=by
 simp[Instr.loadAt,Instr.sureAddr,Wt w h b a]
end
end
end Go.Proofs.YtdapahgnpbehbaaGreat.Fw
