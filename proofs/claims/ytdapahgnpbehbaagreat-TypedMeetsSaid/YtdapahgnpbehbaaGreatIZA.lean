/- Typed values, how they lie in memory, the executor's words and the table of types: what they mean. -/
import Derived.ProofKit
import Derived.Orders
import Derived.Laws.AppendOwn
import Derived.Laws.MakeOwn
import Derived.Laws.OwnMore
set_option linter.unusedVariables false
set_option linter.unusedSimpArgs false
namespace Go.Proofs.YtdapahgnpbehbaaGreat.Fw
section
open Go
abbrev AS:=@List.getD_eq_getElem?_getD
abbrev AT:=@Bool.and_eq_true
abbrev An:=@List.getElem?_eq_getElem
abbrev As:=@if_neg
abbrev At:=@if_pos
abbrev BY:=@List.take_of_length_le
abbrev By:=@List.mem_cons
abbrev DO:=@decide_eq_true_eq
abbrev Do:=@Classical.byContradiction
abbrev GO:=@List.all_eq_true
abbrev IF:=@List.drop_eq_nil_of_le
abbrev IN:=@List.length_append
abbrev IS:=@List.mem_map
abbrev If:=@Int.ofNat_lt
abbrev Is:=@Nat.zero_le
abbrev NO:=@Option.map_eq_some_iff
abbrev No:=@Nat.le_refl
abbrev OF:=@List.mem_append
abbrev ON:=@List.mem_cons_of_mem
abbrev OR:=@Bool.not_eq_true'
abbrev OS:=@List.length_take
abbrev Of:=@List.length_cons
abbrev On:=@decide_eq_false_iff_not
abbrev Ro:=@List.getElem?_eq_some_iff
abbrev Rp:=@List.foldl_cons
abbrev So:=@List.eq_nil_of_length_eq_zero
abbrev TO:=@List.any_eq_true
abbrev To:=@List.length_singleton
abbrev aS:=@List.drop_eq_getElem_cons
abbrev aT:=@Nat.le_trans
abbrev bY:=@Int.toNat_natCast
abbrev dO:=@Go.run_underlying
abbrev f6:=@List.length_map
abbrev f9:=@List.take_length
abbrev gO:=@Int.ofNat_le
abbrev iF:=@Array.getElem?_eq_some_iff
abbrev iN:=@List.getElem?_eq_none
abbrev iS:=@Bool.or_eq_true
abbrev nO:=@List.mem_range
abbrev oF:=@List.pairwise_iff_getElem
abbrev oN:=@List.getElem?_take
abbrev oR:=@List.append_assoc
abbrev oS:=@List.getElem?_append_left
abbrev tO:=@beq_iff_eq
abbrev AA0:=@Nat.mul_le_mul_right
abbrev AA1:=@List.map_cons
abbrev AA2:=@List.map_congr_left
abbrev AA3:=@Int.natCast_nonneg
abbrev AA4:=@List.getElem?_append_right
abbrev AA5:=@List.length_set
abbrev AA6:=@List.drop_zero
abbrev AA7:=@List.length_drop
abbrev AA8:=@List.ext_getElem
abbrev AA9:=@List.mem_of_mem_take
abbrev AAa:=@List.append_nil
abbrev AAb:=@Go.Result.andThen_ok
abbrev AAc:=@Array.getElem?_eq_getElem
abbrev AAd:=@List.nodup_cons
abbrev AAe:=@List.range_succ
abbrev AAf:=@List.mem_of_getElem?
abbrev AAg:=@List.mem_iff_getElem
abbrev AAh:=@List.getElem_mem
abbrev AAi:=@List.mem_iff_getElem?
abbrev AAj:=@List.mem_filter
abbrev AAk:=@List.pairwise_cons
abbrev AAl:=@List.getElem?_map
abbrev AAm:=@List.getElem?_drop
abbrev AAn:=@List.mem_append_left
abbrev AAo:=@List.getElem?_append
abbrev AAp:=@Bool.or_eq_false_iff
abbrev AAq:=@List.getElem?_cons_zero
abbrev AAr:=@List.filter_cons
abbrev AAs:=@beq_eq_false_iff_ne
abbrev AAt:=@List.length_take_le
abbrev AAu:=@Int.tdiv_eq_ediv_of_nonneg
abbrev AAv:=@Option.some.injEq
abbrev AAw:=@List.prefix_refl
abbrev AAx:=@List.getElem?_set
abbrev AAy:=@Nat.lt_of_lt_of_le
abbrev AAz:=@List.mem_singleton
abbrev AAA:=@List.map_append
abbrev AAB:=@Option.isNone_iff_eq_none
abbrev AAC:=@List.length_filter_le
abbrev AAD:=@Bool.and_eq_false_iff
abbrev AAE:=@List.take_succ_cons
abbrev AAF:=@List.getElem?_replicate
abbrev AAG:=@Int.toNat_of_nonneg
abbrev AAH:=@if_true
abbrev AAI:=@List.nodup_append
abbrev AAJ:=@List.mem_of_mem_drop
abbrev AAK:=@Go.Sem.run_bind
abbrev AAL:=@Bool.false_eq_true
abbrev AAM:=@Nat.zero_add
abbrev AAN:=@List.length_nil
abbrev AAO:=@List.take_zero
abbrev AAP:=@congrArg
abbrev AAQ:=@List.pairwise_map
abbrev AAR:=@List.all_eq_false
abbrev AAS:=@Int.not_lt
abbrev AAT:=@Nat.succ_mul
abbrev AAU:=@Bool.not_eq_false'
abbrev AAV:=@List.length_eq_one_iff
abbrev AAX:=@Option.map_some
abbrev AAY:=@if_false
abbrev AAZ:=@List.getElem?_range
abbrev AB0:=@List.drop_succ_cons
abbrev AB1:=@Nat.sub_self
abbrev AB2:=@List.map_map
abbrev AB3:=@Nat.pos_of_ne_zero
abbrev AB4:=@List.all_cons
abbrev AB5:=@List.countP_cons
abbrev AB6:=@List.mem_or_eq_of_mem_set
abbrev AB7:=@List.nil_append
abbrev AB8:=@Int.le_trans
abbrev ABa:=@Option.isSome_iff_exists
abbrev ABb:=@List.getElem_range
abbrev ABc:=@List.take_append_of_le_length
abbrev ABd:=@List.getElem_map
abbrev ABe:=@List.pairwise_append
abbrev ABf:=@Nat.mul_le_mul_left
abbrev ABg:=@Nat.min_eq_left
abbrev ABh:=@List.cons.injEq
abbrev ABi:=@Bool.eq_iff_iff
abbrev ABj:=@Array.length_toList
abbrev ABk:=@List.length_pos_of_mem
abbrev ABl:=@Int.tmod_eq_emod_of_nonneg
abbrev ABm:=@List.cons_append
abbrev ABn:=@List.take_append_drop
abbrev ABo:=@List.set_append_right
abbrev ABp:=@List.mem_cons_self
abbrev ABq:=@ByteArray.size_append
abbrev ABr:=@decide_eq_true
abbrev ABs:=@List.mem_take_iff_getElem
abbrev ABt:=@Array.mapM_eq_mapM_toList
abbrev ABu:=@BitVec.testBit_toNat
abbrev ABv:=@Nat.lt_trichotomy
abbrev ABw:=@List.length_erase_of_mem
abbrev ABx:=@List.foldl_append
abbrev ABy:=@List.all_append
abbrev ABA:=@Nat.add_mul
abbrev ABB:=@List.drop_length
abbrev ABC:=@List.drop_left
abbrev ABE:=@List.filter_append
abbrev ABF:=@Bool.false_ne_true
abbrev ABG:=@List.mem_append_right
abbrev ABH:=@List.length_replicate
abbrev ABI:=@Nat.add_assoc
abbrev ABJ:=@List.flatMap_cons
abbrev ABK:=@Int.fdiv_eq_ediv_of_nonneg
abbrev ABL:=@List.mem_of_find?_eq_some
abbrev ABM:=@List.drop_drop
abbrev ABN:=@Option.getD_some
abbrev ABO:=@decide_eq_false
abbrev ABP:=@Nat.le_antisymm
abbrev ABQ:=@List.set_cons_zero
abbrev ABR:=@List.set_cons_succ
abbrev ABS:=@List.find?_eq_none
abbrev ABT:=@List.filter_nil
abbrev ABU:=@List.any_append
abbrev ABV:=@Bool.true_and
abbrev ABW:=@List.getElem?_set_self
abbrev ABX:=@not_true_eq_false
abbrev ABY:=@bne_iff_ne
abbrev ABZ:=@List.length_range
abbrev AC0:=@List.idxOf_append
abbrev AC1:=@List.ext_getElem?
abbrev AC2:=@Bool.eq_false_iff
abbrev AC3:=@Array.toList_eraseIdxIfInBounds
abbrev AC4:=@List.take_take
abbrev AC5:=@Nat.zero_mul
abbrev AC6:=@Nat.le_of_lt
abbrev AC7:=@List.eq_nil_iff_forall_not_mem
abbrev AC8:=@List.exists_mem_of_length_pos
abbrev ACb:=@List.mem_erase_of_ne
abbrev ACc:=@Go.World.cell?_of_block
abbrev ACd:=@Int.ofNat.inj
abbrev ACe:=@Bool.not_true
abbrev ACf:=@Option.some.inj
abbrev ACg:=@Nat.and_le_left
abbrev ACh:=@List.replicate_succ
abbrev ACi:=@Int.le_refl
abbrev ACj:=@Option.isSome_some
abbrev ACk:=@Nat.sub_zero
abbrev ACl:=@Nat.lt_of_le_of_lt
abbrev ACm:=@List.zip_cons_cons
abbrev ACn:=@List.prefix_append
abbrev ACo:=@List.mem_filterMap
abbrev ACp:=@List.map_nil
abbrev ACq:=@List.countP_append
abbrev ACr:=@Int.lt_of_le_of_lt
abbrev ACs:=@Int.add_zero
abbrev ACt:=@Option.some_or
abbrev ACv:=@Bool.not_false
abbrev ACw:=@Option.ext
abbrev ACz:=@Prod.mk.injEq
abbrev ACA:=@Bool.false_or
abbrev ACB:=@Nat.lt_succ_self
abbrev ACC:=@List.range'_succ
abbrev ACD:=@List.perm_middle
abbrev ACE:=@List.getElem_set
abbrev ACF:=@List.drop_append
abbrev ACG:=@List.find?_some
abbrev ACH:=@Nat.mod_lt
abbrev ACI:=@Array.ext'
inductive Ty where
 | int (k:IntKind)
 | bool
 | str
 | slice (e:Ty)
 | prod (a b:Ty)
 | agg (t:Ty)
 
 | ref (k:Nat)
 deriving DecidableEq
def Ki:Nat→Value
 | 0=>.pointer none
 | 1=>.nilFunc
 | _=>.map none
@[reducible] def Ty.den:Ty→Type
 | .int _=>Int
 | .bool=>Bool
 | .str=>ByteArray
 | .slice e=>List e.den
 | .prod a b=>a.den×b.den
 | .agg t=>t.den
 | .ref _=>Unit
def Ty.size:Ty→Nat
 | .prod a b=>a.size+b.size
 | .agg t=>t.size
 | .int _=>1
 | .bool=>1
 | .str=>1
 | .slice _=>1
 | .ref _=>1
def Ty.dflt:(t:Ty)→t.den
 | .int _=>(0:Int)
 | .bool=>false
 | .str=>ByteArray.empty
 | .slice _=>[]
 | .prod a b=>(a.dflt,b.dflt)
 | .agg t=>t.dflt
 | .ref _=>()
def Ty.zero:Ty→List Value
 | .int k=>[.int k 0]
 | .bool=>[.bool false]
 | .str=>[.string ByteArray.empty]
 | .slice _=>[.slice none 0 0]
 | .prod a b=>a.zero++b.zero
 | .agg t=>t.zero
 | .ref k=>[Ki k]
def Ty.wrap:Ty→List Value→Value
 | .agg _,cs=>.agg cs.toArray
 | .prod _ _,cs=>.agg cs.toArray
 | .int _,cs=>cs.headD undef
 | .bool,cs=>cs.headD undef
 | .str,cs=>cs.headD undef
 | .slice _,cs=>cs.headD undef
 | .ref _,cs=>cs.headD undef
def LU (k:IntKind) (n:Int):Prop:=k.min≤n∧n≤k.max
def AO:Nat:=140737488355328
def Bo (w:World) (O:Nat→Prop):(t:Ty)→List Value→t.den→Prop
 | .int k,cs,d=>cs=[.int k d]∧LU k d
 | .bool,cs,d=>cs=[.bool d]
 | .str,cs,d=>cs=[.string d]∧ByteArray.size d≤AO
 | .slice e,cs,d=>∃(a:Option Addr) (c:Nat),cs=[.slice a (List.length d) c]∧List.length d≤c∧List.length d≤AO ∧
   (d=[]∨∃ad:Addr,a=some ad∧¬O ad.block ∧
    ∀(i:Nat) (x:e.den),d[i]?=some x→∃f:List Value,f.length=e.size∧(∀(j:Nat) (v:Value),f[j]?=some v→w.cell? (ad.add (i*e.size+j))=some v)∧Bo w O e f x)
 | .prod a b,cs,d=>∃c1 c2:List Value,cs=c1++c2∧Bo w O a c1 d.1∧Bo w O b c2 d.2
 | .agg t,cs,d=>Bo w O t cs d
 | .ref k,cs,_=>cs=[Ki k]
def BX (w:World) (O:Nat→Prop) (t:Ty) (v:Value) (d:t.den):Prop:=∃cs,Bo w O t cs d∧v=t.wrap cs
theorem CK (a:Addr) (n:Nat):(a.add n).block=a.block:=by unfold Addr.add;split<;>rfl
theorem DW (a:Addr) (i j:Nat):(a.add i).add j=a.add (i+j):=by
 unfold Addr.add;by_cases hi:i=0<;>by_cases b:j=0<;>simp[hi,b,ABI]
theorem Mo (a:Addr):a.add 0=a:=rfl
theorem Zi (g j:Nat):(⟨g,0,none⟩:Addr).add j=⟨g,j,none⟩:=by
 unfold Addr.add;split<;>simp_all
theorem J2 (g i j:Nat):(⟨g,i,none⟩:Addr).add j=⟨g,i+j,none⟩:=by
 unfold Addr.add;split<;>simp_all
theorem Ty.size_pos:∀t:Ty,0<t.size
 | .int _=>by simp[Ty.size]
 | .bool=>by simp[Ty.size]
 | .str=>by simp[Ty.size]
 | .slice _=>by simp[Ty.size]
 | .ref _=>by simp[Ty.size]
 | .prod a b=>by have:=a.size_pos;simp[Ty.size];omega
 | .agg t=>by simpa[Ty.size] using t.size_pos
theorem Bo.length {w:World} {O:Nat→Prop}:∀ {t:Ty} {cs:List Value} {d:t.den},Bo w O t cs d→cs.length=t.size
 | .int _,_,_,h=>by obtain⟨rfl,_⟩:=h;rfl
 | .bool,_,_,h=>by have h:_=_:=h;subst h;rfl
 | .str,_,_,h=>by obtain⟨rfl,_⟩:=h;rfl
 | .slice _,_,_,h=>by obtain⟨_,_,rfl,_⟩:=h;rfl
 | .ref _,_,_,h=>by have h:_=_:=h;subst h;rfl
 | .prod a b,_,_,h=>by
  obtain⟨c1,c2,rfl,h1,c⟩:=h;simp[Ty.size,Bo.length h1,Bo.length c]
 | .agg t,_,_,h=>by
  have h:Bo w O t _ _:=h;simpa[Ty.size] using Bo.length h
theorem Bo.one {w:World} {O:Nat→Prop}:∀ {t:Ty} {cs:List Value} {d:t.den},Bo w O t cs d→∀v∈cs,v.oneCell'=true
 | .int _,_,_,h=>by obtain⟨rfl,_⟩:=h;simp[Value.oneCell']
 | .bool,_,_,h=>by have h:_=_:=h;subst h;simp[Value.oneCell']
 | .str,_,_,h=>by obtain⟨rfl,_⟩:=h;simp[Value.oneCell']
 | .slice _,_,_,h=>by obtain⟨_,_,rfl,_⟩:=h;simp[Value.oneCell']
 | .ref k,_,_,h=>by
  have h:_=[Ki k]:=h;subst h;match k with
  | 0=>simp[Value.oneCell',Ki]
  | 1=>simp[Value.oneCell',Ki]
  | _+2=>simp[Value.oneCell',Ki]
 | .prod a b,_,_,h=>by
  obtain⟨c1,c2,rfl,h1,e⟩:=h;intro v c;rcases OF.1 c with c|c
  ·exact Bo.one h1 v c
  ·exact Bo.one e v c
 | .agg t,_,_,h=>by
  have h:Bo w O t _ _:=h;exact Bo.one h
theorem Bo.mono {w w':World} {O O':Nat→Prop} (f:∀b,b<w.heap.size→¬O b→¬O' b) (g:∀b,b<w.heap.size→¬O b→w'.heap[b]?=w.heap[b]?) :
  ∀ {t:Ty} {cs:List Value} {d:t.den},Bo w O t cs d→Bo w' O' t cs d
 | .int _,_,_,h=>h
 | .bool,_,_,h=>h
 | .str,_,_,h=>h
 | .ref _,_,_,h=>h
 | .slice e,_,d,h=>by
  obtain⟨a,c,rfl,h1,l,m⟩:=h;refine⟨a,c,rfl,h1,l,?_⟩;rcases m with m|⟨ad,rfl,o,u⟩
  ·exact .inl m
  ·by_cases p:d=[]
   ·exact .inl p
   ·have s:ad.block<w.heap.size:=by
     obtain⟨x,r,rfl⟩:∃x r,d=x :: r:=List.exists_cons_of_ne_nil p;obtain⟨k,q,n,_⟩:=u 0 x rfl;have hp:=e.size_pos;have:k[0]?=some (k[0]'(by omega)):=An (by omega);have:=block_lt_of_cell (n 0 _ this)
     rwa [CK]at this
    refine .inr ⟨ad,rfl,f _ s o,fun i x hi=>?_⟩;obtain⟨k,q,n,z⟩:=u i x hi;refine⟨k,q,fun j v y=>?_,Bo.mono f g z⟩;rw[ACc (w:=w) (w':=w')]
    ·exact n j v y
    ·rw[CK];exact g _ s o
 | .prod a b,_,_,h=>by
  obtain⟨c1,c2,rfl,h1,l⟩:=h;exact⟨c1,c2,rfl,Bo.mono f g h1,Bo.mono f g l⟩
 | .agg t,_,_,h=>by
  have h:Bo w O t _ _:=h;exact(Bo.mono f g h:Bo w' O' t _ _)
theorem BX.mono {w w':World} {O O':Nat→Prop} (c:∀b,b<w.heap.size→¬O b→¬O' b) (e:∀b,b<w.heap.size→¬O b→w'.heap[b]?=w.heap[b]?)
  {t:Ty} {v:Value} {d:t.den} (h:BX w O t v d):BX w' O' t v d :=
 let ⟨cs,h1,a⟩:=h
 ⟨cs,h1.mono c e,a⟩
theorem Bo.zero (w:World) (O:Nat→Prop):∀t:Ty,Bo w O t t.zero t.dflt
 | .int k=>⟨rfl,by cases k<;>exact⟨by decide,by decide⟩⟩
 | .bool=>rfl
 | .str=>⟨rfl,by simp[Ty.dflt,AO]⟩
 | .slice _=>⟨none,0,rfl,by simp[Ty.dflt],by simp[Ty.dflt,AO],.inl rfl⟩
 | .ref _=>rfl
 | .prod a b=>⟨_,_,rfl,Bo.zero w O a,Bo.zero w O b⟩
 | .agg t=>(Bo.zero w O t:Bo w O t _ _)
end
section
open Go
structure PV where
 t:Ty
 d:t.den
def BO (t:Ty) (p:PV):Option t.den:=if h:p.t=t then some (h▸p.d) else none
theorem Ef (t:Ty) (d:t.den):BO t ⟨t,d⟩=some d:=by simp[BO]
def Gu:(t:Ty)→Nat→t.den→Option PV
 | .prod a _,0,d=>some ⟨a,d.1⟩
 | .prod _ b,k+1,d=>Gu b k d.2
 | .int k,0,d=>some ⟨.int k,d⟩
 | .bool,0,d=>some ⟨.bool,d⟩
 | .str,0,d=>some ⟨.str,d⟩
 | .slice e,0,d=>some ⟨.slice e,d⟩
 | .agg t,0,d=>some ⟨.agg t,d⟩
 | .ref k,0,d=>some ⟨.ref k,d⟩
 | _,_,_=>none
def Lq:(t:Ty)→Nat→t.den→PV→Option t.den
 | .prod a _,0,d,x=>(BO a x).map fun y=>(y,d.2)
 | .prod _ b,k+1,d,x=>(Lq b k d.2 x).map fun y=>(d.1,y)
 | .int k,0,_,x=>BO (.int k) x
 | .bool,0,_,x=>BO .bool x
 | .str,0,_,x=>BO .str x
 | .slice e,0,_,x=>BO (.slice e) x
 | .agg t,0,_,x=>BO (.agg t) x
 | .ref k,0,_,x=>BO (.ref k) x
 | _,_,_,_=>none
def J3:Ty→Nat→Option Nat
 | .prod _ _,0=>some 0
 | .prod a b,k+1=>(J3 b k).map (a.size + ·)
 | .int _,0=>some 0
 | .bool,0=>some 0
 | .str,0=>some 0
 | .slice _,0=>some 0
 | .agg _,0=>some 0
 | .ref _,0=>some 0
 | _,_=>none
def WD:Ty→Nat→Option Ty
 | .prod a _,0=>some a
 | .prod _ b,k+1=>WD b k
 | .int k,0=>some (.int k)
 | .bool,0=>some .bool
 | .str,0=>some .str
 | .slice e,0=>some (.slice e)
 | .agg t,0=>some (.agg t)
 | .ref k,0=>some (.ref k)
 | _,_=>none
def Qm:List Nat→(t:Ty)→t.den→Option PV
 | [],t,d=>some ⟨t,d⟩
 | k :: r,.agg t,d=>match Gu t k d with
  | some pv=>Qm r pv.t pv.d
  | none=>none
 | _ :: _,_,_=>none
def Sb:List Nat→(t:Ty)→t.den→PV→Option t.den
 | [],t,_,x=>BO t x
 | k :: r,.agg t,d,x=>match Gu t k d with
  | some pv=>match Sb r pv.t pv.d x with
   | some y=>Lq t k d ⟨pv.t,y⟩
   | none=>none
  | none=>none
 | _ :: _,_,_,_=>none
def Ln:List Nat→Ty→Option Nat
 | [],_=>some 0
 | k :: r,.agg t=>match J3 t k,WD t k with
  | some o,some u=>(Ln r u).map (o + ·)
  | _,_=>none
 | _ :: _,_=>none
inductive AV where
 
 | p (t:Ty) (d:t.den)
 
 | raw (v:Value)
 
 | sr (n:Nat) (e:Ty) (lo hi:Nat)
 
 | ep (n:Nat) (e:Ty) (i:Nat) (path:List Nat) (off:Nat)
 
 | pc (e:Ty) (d:List e.den)
 
 | ip (t:Ty) (d:t.den)
 
 | bp (n:Nat) (path:List Nat) (off:Nat)
 | fn (f:FuncId)
 
 | clo (f:FuncId) (ns:List Nat)
 
 | mp (n:Nat)
 
 | yl (n:Nat)
 
 | nin (n:Nat) (e:Ty) (i len:Nat)
 
 | ag (l:List AV)
 | tup (l:List AV)
 
 | top
inductive Obj where
 | arr (et:TypeId) (e:Ty) (xs:List e.den)
 | box (et:TypeId) (st:Bool) (fs:List AV)
 
 | mapo (k v:Ty) (l:List (k.den×v.den))
 
 | itr (k v:Ty) (l:List (k.den×v.den)) (left:List Nat) (cur:Option Nat)
 
 | nest (et iet:TypeId) (k e:Ty) (xs:List (k.den×List e.den)) (h:Option Nat)
 
 | frame (tm:Array Value) (fs:List (Nat×AV))
 
 | loop (L:Go.Loop)
 
 | dfr
structure St where
 env:List (Nat×AV)
 objs:List (Nat×Obj)
def lk {α:Type}:Nat→List (Nat×α)→Option α
 | _,[]=>none
 | k,(j,v) :: r=>if k=j then some v else lk k r
def del {α:Type}:Nat→List (Nat×α)→List (Nat×α)
 | _,[]=>[]
 | k,(j,v) :: r=>if k=j then del k r else (j,v) :: del k r
def upd {α:Type}:Nat→α→List (Nat×α)→List (Nat×α)
 | _,_,[]=>[]
 | k,u,(j,v) :: r=>if k=j then (j,u) :: upd k u r else (j,v) :: upd k u r
def sub {α:Type} (xs:List α) (lo hi:Nat):List α:=(xs.drop lo).take (hi-lo)
theorem He {α:Type} (xs:List α):sub xs 0 xs.length=xs:=by simp[sub]
structure TI where
 ty:Ty
 offs:List (Nat×Nat):=[]
 el:TypeId:=0
 bytes:Nat
inductive RV where
 | p (t:Ty) (d:t.den)
 | own (et:TypeId) (e:Ty) (xs:List e.den)
@[reducible] def Kj:List Ty→Type
 | []=>Unit
 | t :: r=>t.den×Kj r
def Ty.flat:Ty→Bool
 | .slice _=>false
 | .prod a b=>a.flat&&b.flat
 | .agg t=>t.flat
 | .int _=>true
 | .bool=>true
 | .str=>true
 | .ref _=>true
def RV.flat:RV→Bool
 | .p t _=>t.flat
 | .own _ _ _=>false
structure Ae where
 ins:List Ty
 lend:Bool:=false
 pre:Kj ins→Prop
 out:Kj ins→List RV
structure Tb where
 ty:List (Nat×TI)
 fns:List (Nat×Ae)
 
 pure:List Nat:=[]
 
 nests:List (Nat×TypeId):=[]
 
 live:List Nat:=[]
def inB (n:Nat):List Nat→Bool
 | []=>false
 | m :: r=>if n=m then true else inB n r
def Gm:Value→AV
 | .int k n=>if k.min≤n∧n≤k.max then .p (.int k) n else .raw (.int k n)
 | .bool b=>.p .bool b
 | .string s=>if s.size≤AO then .p .str s else .raw (.string s)
 | v=>.raw v
def Ah (σ:St):Operand→Option AV
 | .tmp t=>lk t σ.env
 | .const v=>some (Gm v)
 | .func f=>some (.fn f)
 | .global _=>none
def Oz (e:Ty) (lo hi:Nat):Option Obj→Option (List e.den)
 | some (.arr _ a xs)=>BO (.slice e) ⟨.slice a,sub xs lo hi⟩
 | some (.nest _ _ k a xs none)=>BO (.slice e) ⟨.slice (.agg (.prod k (.slice a))),sub xs lo hi⟩
 | _=>none
def O2 (e:Ty) (i:Nat):Option Obj→Option (List e.den)
 | some (.nest _ _ k a xs none)=>BO (.slice e) ⟨.slice a,(xs.getD i (k.dflt,[])).2⟩
 | _=>none
def EO (l:Bool) (σ:St):(t:Ty)→AV→Option t.den
 | t,.p u d=>BO t ⟨u,d⟩
 | .slice e,.sr n a lo hi=>if l=true∧a=e then Oz e lo hi (lk n σ.objs) else none
 | .slice e,.nin n a i _=>if l=true∧a=e then O2 e i (lk n σ.objs) else none
 | .slice _,.raw (.slice none 0 0)=>some []
 | _,_=>none
def LV {α β:Type}:Option α→Option β→Option (α×β)
 | some a,some b=>some (a,b)
 | _,_=>none
def J4 (l:Bool) (σ:St):List AV→(t:Ty)→Option t.den
 | [],_=>none
 | [x],t=>EO l σ t x
 | x :: y :: r,.prod a b=>LV (EO l σ a x) (J4 l σ (y :: r) b)
 | _ :: _ :: _,_=>none
def Kk (l:Bool) (σ:St):(t:Ty)→AV→Option t.den
 | .agg t,.ag fs=>J4 l σ fs t
 | t,x=>EO l σ t x
def AW (n:Nat):List Nat→Bool
 | []=>false
 | m :: r=>if n=m then true else AW n r
theorem AY (n:Nat):∀l:List Nat,AW n l=true↔n∈l
 | []=>by simp[AW]
 | m :: r=>by
  simp only[AW,By];split
  ·rename_i h;simp[h]
  ·rename_i h;simp[h,AY n r]
mutual
def AV.fgt (hs:List Nat):AV→AV
 | .sr m e lo hi=>if AW m hs=true then .top else .sr m e lo hi
 | .ep m e i path off=>if AW m hs=true then .top else .ep m e i path off
 | .nin m e i len=>if AW m hs=true then .top else .nin m e i len
 | .bp m path off=>if AW m hs=true then .top else .bp m path off
 | .mp m=>if AW m hs=true then .top else .mp m
 | .yl m=>if AW m hs=true then .top else .yl m
 | .clo f ns=>if (ns.any fun n=>AW n hs)=true then .top else .clo f ns
 | .ag l=>.ag (AV.fgts hs l)
 | .tup l=>.tup (AV.fgts hs l)
 | .p t d=>.p t d
 | .pc e d=>.pc e d
 | .raw v=>.raw v
 | .ip t d=>.ip t d
 | .fn f=>.fn f
 | .top=>.top
def AV.fgts (hs:List Nat):List AV→List AV
 | []=>[]
 | x :: r=>AV.fgt hs x :: AV.fgts hs r
end
def BT (hs:List Nat):List (Nat×AV)→List (Nat×AV)
 | []=>[]
 | (s,x) :: r=>(s,x.fgt hs) :: BT hs r
def Obj.fgt (hs:List Nat):Obj→Obj
 | .arr et e xs=>.arr et e xs
 | .box et st fs=>.box et st (AV.fgts hs fs)
 | .mapo k v l=>.mapo k v l
 | .nest et b k e xs h=>.nest et b k e xs h
 | .frame i fs=>.frame i (BT hs fs)
 | .loop L=>.loop L
 | .itr c g d f a=>.itr c g d f a
 | .dfr=>.dfr
def Af (a hs:List Nat):List (Nat×Obj)→List (Nat×Obj)
 | []=>[]
 | (n,o) :: r=>if AW n a=true then Af a hs r else (n,o.fgt hs) :: Af a hs r
mutual
def AV.trn (n:Nat) (hs:List Nat):AV→AV
 | .nin m e i len=>if m=n∨AW m hs=true then .top else .nin m e i len
 | .sr m e lo hi=>if AW m hs=true then .top else .sr m e lo hi
 | .ep m e i path off=>if AW m hs=true then .top else .ep m e i path off
 | .bp m path off=>if AW m hs=true then .top else .bp m path off
 | .mp m=>if AW m hs=true then .top else .mp m
 | .yl m=>if AW m hs=true then .top else .yl m
 | .clo f ns=>if (ns.any fun n=>AW n hs)=true then .top else .clo f ns
 | .ag l=>.ag (AV.trns n hs l)
 | .tup l=>.tup (AV.trns n hs l)
 | .p t d=>.p t d
 | .pc e d=>.pc e d
 | .raw v=>.raw v
 | .ip t d=>.ip t d
 | .fn f=>.fn f
 | .top=>.top
def AV.trns (n:Nat) (hs:List Nat):List AV→List AV
 | []=>[]
 | x :: r=>AV.trn n hs x :: AV.trns n hs r
end
def Dr (n:Nat) (hs:List Nat):List (Nat×AV)→List (Nat×AV)
 | []=>[]
 | (s,x) :: r=>(s,x.trn n hs) :: Dr n hs r
def Obj.trn (n:Nat) (hs:List Nat):Obj→Obj
 | .arr et e xs=>.arr et e xs
 | .box et st fs=>.box et st (AV.trns n hs fs)
 | .mapo k v l=>.mapo k v l
 | .nest et b k e xs h=>.nest et b k e xs h
 | .frame i fs=>.frame i (Dr n hs fs)
 | .loop L=>.loop L
 | .itr c g d f a=>.itr c g d f a
 | .dfr=>.dfr
def CW (n:Nat) (hs:List Nat):List (Nat×Obj)→List (Nat×Obj)
 | []=>[]
 | (m,o) :: r=>if AW m (n :: hs)=true then CW n hs r else (m,o.trn n hs) :: CW n hs r
def Cb:Option Obj→Bool
 | some (.nest _ _ _ _ _ _)=>true
 | _=>false
def Ov (σ:St) (e:Ty):AV→Option (List e.den)
 | .sr n a lo hi=>if Cb (lk n σ.objs)=true then none else Kk true σ (.slice e) (.sr n a lo hi)
 | x=>Kk true σ (.slice e) x
end
section
open Go
def Aa (x y:ByteArray):Bool:=x.toList==y.toList
def HT (x y:ByteArray):Bool:=Op.bytesLess x.toList y.toList
def B7 (op:BinOp) (k:IntKind) (x y:Int):Int :=
 k.wrap (match op with
  | .and=>((BitVec.ofInt k.bits x &&& BitVec.ofInt k.bits y).toNat:Int)
  | .or=>((BitVec.ofInt k.bits x ||| BitVec.ofInt k.bits y).toNat:Int)
  | .xor=>((BitVec.ofInt k.bits x ^^^ BitVec.ofInt k.bits y).toNat:Int)
  | _=>((BitVec.ofInt k.bits x &&& ~~~BitVec.ofInt k.bits y).toNat:Int))
def Sc (k:IntKind) (x y:Int):Int:=k.wrap (x*2 ^ (min y.toNat k.bits))
def WE (k:IntKind) (x y:Int):Int:=x.fdiv (2 ^ (min y.toNat k.bits))
def Zj (k:IntKind) (a b:Int):BinOp→Prop×AV
 | .add=>(LU k (a+b),.p (.int k) (a+b))
 | .sub=>(LU k (a-b),.p (.int k) (a-b))
 | .mul=>(LU k (a*b),.p (.int k) (a*b))
 | .quo=>(b≠0∧LU k (a.tdiv b),.p (.int k) (a.tdiv b))
 | .rem=>(b≠0∧LU k (a.tmod b),.p (.int k) (a.tmod b))
 | .and=>(True,.p (.int k) (B7 .and k a b))
 | .or=>(True,.p (.int k) (B7 .or k a b))
 | .xor=>(True,.p (.int k) (B7 .xor k a b))
 | .andNot=>(True,.p (.int k) (B7 .andNot k a b))
 | .shl=>(False,.top)
 | .shr=>(False,.top)
 | .eql=>(True,.p .bool (a==b))
 | .neq=>(True,.p .bool (a != b))
 | .lss=>(True,.p .bool (decide (a<b)))
 | .leq=>(True,.p .bool (decide (a≤b)))
 | .gtr=>(True,.p .bool (decide (b<a)))
 | .geq=>(True,.p .bool (decide (b≤a)))
def TT (a b:ByteArray):BinOp→Prop×AV
 | .add=>(a.size+b.size≤AO,.p .str (a++b))
 | .eql=>(True,.p .bool (Aa a b))
 | .neq=>(True,.p .bool (!Aa a b))
 | .lss=>(True,.p .bool (HT a b))
 | .leq=>(True,.p .bool (HT a b||Aa a b))
 | .gtr=>(True,.p .bool (!(HT a b||Aa a b)))
 | .geq=>(True,.p .bool (!HT a b))
 | _=>(False,.top)
def wC (op:BinOp) (k:IntKind) (a:Int) (c:IntKind) (b:Int):Prop×AV :=
 match op with
 | .shl=>(0≤b,.p (.int k) (Sc k a b))
 | .shr=>(0≤b∧LU k (WE k a b),.p (.int k) (WE k a b))
 | op=>if k=c then Zj k a b op else (False,.top)
def oJ:Ty→AV
 | .slice _=>.raw (.slice none 0 0)
 | .ref k=>.raw (Ki k)
 | t=>.p t t.dflt
def oK:Ty→List AV
 | .prod a b=>oJ a :: oK b
 | t=>[oJ t]
def pfs:(t:Ty)→t.den→List AV
 | .prod a b,d=>.p a d.1 :: pfs b d.2
 | .int k,d=>[.p (.int k) d]
 | .bool,d=>[.p .bool d]
 | .str,d=>[.p .str d]
 | .slice e,d=>[.p (.slice e) d]
 | .agg t,d=>[.p (.agg t) d]
 | .ref k,d=>[.p (.ref k) d]
def AV.cells:AV→Nat
 | .p t _=>t.size
 | .ag _=>0
 | .tup _=>0
 | _=>1
def CA:List AV→Nat→Nat
 | _,0=>0
 | [],_+1=>0
 | x :: r,k+1=>x.cells+CA r k
def I3 (st:Bool) (fs:List AV):List Nat→Option AV
 | []=>if st then some (.ag fs) else fs[0]?
 | [k]=>if st then fs[k]? else none
 | k :: r=>if st then match fs[k]? with
   | some (.p t d)=>(Qm r t d).map fun pv=>.p pv.t pv.d
   | _=>none
  else none
def Nx (fs:List AV):List Nat→Option Nat
 | []=>some 0
 | k :: r=>match fs[k]? with
  | some (.p t _)=>(Ln r t).map (CA fs k + ·)
  | some _=>if r.isEmpty then some (CA fs k) else none
  | none=>none
def Ty.cell1:Ty→Bool
 | .agg _=>false
 | .prod _ _=>false
 | .int _=>true
 | .bool=>true
 | .str=>true
 | .slice _=>true
 | .ref _=>true
def CP (ty:Ty):AV→Bool
 | .p t _=>ty=t
 | .ag l=>match ty with|.agg t=>CA l l.length==t.size|_=>false
 | .tup _=>false
 | .top=>false
 | .raw u=>u.oneCell'&&ty.cell1
 | _=>ty.cell1
def Lr (ty:Ty):AV→Bool
 | .top=>ty.cell1
 | x=>CP ty x
def GS (n:Nat):Bool:=decide (1000000≤n)
mutual
def AV.frz (n:Nat) (e:Ty) (xs:List e.den):AV→AV
 | .sr m e' lo hi=>if m=n then (if e'=e then .p (.slice e) (sub xs lo hi) else .top) else .sr m e' lo hi
 | .ep m e' i path off=>if m=n then .top else .ep m e' i path off
 | .nin m e' i len=>if m=n then .top else .nin m e' i len
 | .ag l=>.ag (AV.frzs n e xs l)
 | .tup l=>.tup (AV.frzs n e xs l)
 | .p t d=>.p t d
 | .pc e d=>.pc e d
 | .raw v=>.raw v
 | .ip t d=>.ip t d
 | .bp m path off=>.bp m path off
 | .fn f=>.fn f
 | .clo f ns=>.clo f ns
 | .mp n=>.mp n
 | .yl n=>.yl n
 | .top=>.top
def AV.frzs (n:Nat) (e:Ty) (xs:List e.den):List AV→List AV
 | []=>[]
 | x :: r=>AV.frz n e xs x :: AV.frzs n e xs r
end
def DD (n:Nat) (e:Ty) (xs:List e.den):List (Nat×AV)→List (Nat×AV)
 | []=>[]
 | (s,x) :: r=>(s,x.frz n e xs) :: DD n e xs r
def A5 (n:Nat) (e:Ty) (xs:List e.den):List (Nat×Obj)→List (Nat×Obj)
 | []=>[]
 | (m,.arr et a ys) :: r=>(m,.arr et a ys) :: A5 n e xs r
 | (m,.box et st fs) :: r=>(m,.box et st (AV.frzs n e xs fs)) :: A5 n e xs r
 | (m,.mapo k v l) :: r=>(m,.mapo k v l) :: A5 n e xs r
 | (m,.nest et c k a ys h) :: r=>(m,.nest et c k a ys h) :: A5 n e xs r
 | (m,.frame j fs) :: r=>(m,.frame j (DD n e xs fs)) :: A5 n e xs r
 | (m,.loop L) :: r=>(m,.loop L) :: A5 n e xs r
 | (m,.itr d i f g b) :: r=>(m,.itr d i f g b) :: A5 n e xs r
 | (m,.dfr) :: r=>(m,.dfr) :: A5 n e xs r
def Zk (n:Nat) (σ:St):Option Obj→St
 | some (.arr _ e xs)=>⟨DD n e xs σ.env,A5 n e xs (del n σ.objs)⟩
 | some (.nest _ _ k e xs none)=>⟨DD n (.agg (.prod k (.slice e))) xs σ.env,A5 n (.agg (.prod k (.slice e))) xs (del n σ.objs)⟩
 | _=>σ
def frz (n:Nat) (σ:St):St:=if GS n=true then σ else Zk n σ (lk n σ.objs)
mutual
def AV.drp (n:Nat):AV→AV
 | .sr m e' lo hi=>if m=n then .top else .sr m e' lo hi
 | .ep m e' i path off=>if m=n then .top else .ep m e' i path off
 | .nin m e' i len=>if m=n then .top else .nin m e' i len
 | .ag l=>.ag (AV.drps n l)
 | .tup l=>.tup (AV.drps n l)
 | .p t d=>.p t d
 | .pc e d=>.pc e d
 | .raw v=>.raw v
 | .ip t d=>.ip t d
 | .bp m path off=>.bp m path off
 | .fn f=>.fn f
 | .clo f ns=>.clo f ns
 | .mp n=>.mp n
 | .yl n=>.yl n
 | .top=>.top
def AV.drps (n:Nat):List AV→List AV
 | []=>[]
 | x :: r=>AV.drp n x :: AV.drps n r
end
def FQ (n:Nat):List (Nat×AV)→List (Nat×AV)
 | []=>[]
 | (s,x) :: r=>(s,x.drp n) :: FQ n r
def BU (n:Nat):List (Nat×Obj)→List (Nat×Obj)
 | []=>[]
 | (m,.arr et a ys) :: r=>(m,.arr et a ys) :: BU n r
 | (m,.box et st fs) :: r=>(m,.box et st (AV.drps n fs)) :: BU n r
 | (m,.mapo k v l) :: r=>(m,.mapo k v l) :: BU n r
 | (m,.nest et c k a ys h) :: r=>(m,.nest et c k a ys h) :: BU n r
 | (m,.frame i fs) :: r=>(m,.frame i (FQ n fs)) :: BU n r
 | (m,.loop L) :: r=>(m,.loop L) :: BU n r
 | (m,.itr d g e f b) :: r=>(m,.itr d g e f b) :: BU n r
 | (m,.dfr) :: r=>(m,.dfr) :: BU n r
mutual
def AV.names:AV→List Nat
 | .sr m _ _ _=>[m]
 | .ag l=>AV.namess l
 | .tup l=>AV.namess l
 | .p _ _=>[]
 | .pc _ _=>[]
 | .raw _=>[]
 | .ip _ _=>[]
 | .bp _ _ _=>[]
 | .ep _ _ _ _ _=>[]
 | .nin _ _ _ _=>[]
 | .fn _=>[]
 | .clo _ _=>[]
 | .mp _=>[]
 | .yl _=>[]
 | .top=>[]
def AV.namess:List AV→List Nat
 | []=>[]
 | x :: r=>x.names++AV.namess r
end
def GJ (σ:St):Option Operand→Option (Option AV)
 | none=>some none
 | some x=>(Ah σ x).map some
def Eg (σ:St) (e:Ty):Nat→List (Nat×Operand)→Option (List e.den)
 | _,[]=>some []
 | k,(i,x) :: r=>if i=k then match Ah σ x with
   | some av=>match Kk false σ e av,Eg σ e (k+1) r with
    | some y,some ys=>some (y :: ys)
    | _,_=>none
   | none=>none
  else none
def Hf:AV→Bool
 | .p (.prod _ _) _=>false
 | .p _ _=>true
 | .raw u=>u.oneCell'
 | .ag _=>false
 | .tup _=>false
 | .top=>false
 | _=>true
def K1 (σ:St):Option AV→Option AV→Option AV
 | some (.p t _),some (.ag l)=>(Kk false σ t (.ag l)).map fun d=>.p t d
 | _,x=>x
def Dg (σ:St) (offs:List (Nat×Nat)):List AV→List (Nat×Operand)→Option (List AV)
 | fs,[]=>some fs
 | fs,(i,x) :: r=>match K1 σ fs[i]? (Ah σ x) with
  | some av=>if Hf av=true∧(fs[i]?.map AV.cells)=some av.cells∧offs[i]?=some (CA fs i,av.cells) then Dg σ offs (fs.set i av) r else none
  | none=>none
def Fy (l:Bool) (σ:St):(ts:List Ty)→List Operand→Option (Kj ts)
 | [],[]=>some ()
 | t :: ts,x :: xs=>match Ah σ x with
  | some av=>match Kk l σ t av,Fy l σ ts xs with
   | some y,some ys=>some (y,ys)
   | _,_=>none
  | none=>none
 | _,_=>none
def YK (name:Nat):RV→AV
 | .p t d=>.p t d
 | .own _ e xs=>.sr name e 0 xs.length
def O3 (name:Nat):RV→List (Nat×Obj)
 | .p _ _=>[]
 | .own et e xs=>[(name,.arr et e xs)]
def Ls:Nat→List RV→List AV
 | _,[]=>[]
 | n,r :: l=>YK n r :: Ls (n+10000) l
def Cm:Nat→List RV→List (Nat×Obj)
 | _,[]=>[]
 | n,r :: l=>O3 n r++Cm (n+10000) l
def I4 (name:Nat):List RV→AV
 | []=>.raw (.tuple #[])
 | [r]=>YK name r
 | l=>.tup (Ls name l)
def Ja:(t:Ty)→t.den→t.den→Bool
 | .int _,a,b=>(a:Int)==b
 | .bool,a,b=>(a:Bool)==b
 | .str,a,b=>(a:ByteArray)==b
 | .prod t u,a,b=>Ja t a.1 b.1&&Ja u a.2 b.2
 | .agg t,a,b=>Ja t a b
 | .slice _,_,_=>false
 | .ref _,_,_=>false
def Zl:Ty→Bool
 | .prod (.int _) (.int _)=>true
 | _=>false
def TV:Ty→Bool
 | .int _=>true
 | .bool=>true
 | .str=>true
 | .prod _ _=>false
 | .agg t=>Zl t
 | .slice _=>false
 | .ref _=>false
def A6 (a b:Ty) (k:a.den):List (a.den×b.den)→Option b.den
 | []=>none
 | x :: r=>if Ja a k x.1=true then some x.2 else A6 a b k r
def H3 (a b:Ty) (k:a.den) (v:b.den):List (a.den×b.den)→List (a.den×b.den)
 | []=>[(k,v)]
 | x :: r=>if Ja a k x.1=true then (k,v) :: r else x :: H3 a b k v r
abbrev BZ:=Option (Prop×AV×List (Nat×Obj))
def HF (x:AV) (lo hi:Option AV):BZ :=
 match x,lo,hi with
 | .p (.slice e) l,none,some (.p (.int _) h)=>some (0≤h∧h≤l.length,.p (.slice e) (sub l 0 h.toNat),[])
 | .p (.slice e) l,some (.p (.int _) a),none=>some (0≤a∧a≤l.length,.p (.slice e) (sub l a.toNat l.length),[])
 | .p (.slice e) l,some (.p (.int _) a),some (.p (.int _) h)=>some (0≤a∧a≤h∧h≤l.length,.p (.slice e) (sub l a.toNat h.toNat),[])
 | .p .str s,none,some (.p (.int _) h)=>some (0≤h∧h≤s.size,.p .str (s.extract 0 h.toNat),[])
 | .p .str s,some (.p (.int _) a),none=>some (0≤a∧a≤s.size,.p .str (s.extract a.toNat s.size),[])
 | .p .str s,some (.p (.int _) a),some (.p (.int _) h)=>some (0≤a∧a≤h∧h≤s.size,.p .str (s.extract a.toNat h.toNat),[])
 | .sr n e b c,none,some (.p (.int _) h)=>some (0≤h∧h≤(c-b:Nat),.sr n e b (b+h.toNat),[])
 | .sr n e b c,some (.p (.int _) a),none=>some (0≤a∧a≤(c-b:Nat),.sr n e (b+a.toNat) c,[])
 | .sr n e b c,some (.p (.int _) a),some (.p (.int _) h)=>some (0≤a∧a≤h∧h≤(c-b:Nat),.sr n e (b+a.toNat) (b+h.toNat),[])
 | _,_,_=>none
def GT:Option AV→BZ
 | some v=>some (True,v,[])
 | none=>none
def J5:Option AV→Option AV→Option AV→BZ
 | some (.p .bool true),x,_=>GT x
 | some (.p .bool false),_,y=>GT y
 | _,_,_=>none
def Jb (d:Nat) (t:TypeId):Option TI→BZ
 | some ⟨.agg u,_,_,_⟩=>some (True,.bp d [] 0,[(d,.box t true (oK u))])
 | some ⟨.int k,_,_,_⟩=>some (True,.bp d [] 0,[(d,.box t false [oJ (.int k)])])
 | some ⟨.bool,_,_,_⟩=>some (True,.bp d [] 0,[(d,.box t false [oJ .bool])])
 | some ⟨.str,_,_,_⟩=>some (True,.bp d [] 0,[(d,.box t false [oJ .str])])
 | some ⟨.slice e,_,_,_⟩=>some (True,.bp d [] 0,[(d,.box t false [oJ (.slice e)])])
 | some ⟨.ref k,_,_,_⟩=>some (True,.bp d [] 0,[(d,.box t false [oJ (.ref k)])])
 | _=>none
def Qn (d:Nat) (t:TypeId):Option TI→Option AV→BZ
 | some ⟨.agg u,_,_,_⟩,some (.p (.agg a) v)=>if u=a then some (True,.bp d [] 0,[(d,.box t true (pfs a v))]) else none
 | some ⟨.agg u,_,_,_⟩,some (.ag l)=>if l.map AV.cells=(oK u).map AV.cells then some (True,.bp d [] 0,[(d,.box t true l)]) else none
 | some ⟨.int k,_,_,_⟩,some v=>if CP (.int k) v then some (True,.bp d [] 0,[(d,.box t false [v])]) else none
 | some ⟨.bool,_,_,_⟩,some v=>if CP .bool v then some (True,.bp d [] 0,[(d,.box t false [v])]) else none
 | some ⟨.str,_,_,_⟩,some v=>if CP .str v then some (True,.bp d [] 0,[(d,.box t false [v])]) else none
 | some ⟨.slice e,_,_,_⟩,some v=>if CP (.slice e) v then some (True,.bp d [] 0,[(d,.box t false [v])]) else none
 | some ⟨.ref k,_,_,_⟩,some v=>if CP (.ref k) v then some (True,.bp d [] 0,[(d,.box t false [v])]) else none
 | _,_=>none
def H5 (σ:St) (parts:List (Nat×Operand)):Option TI→BZ
 | some ⟨.agg u,offs,_,_⟩=>GT ((Dg σ offs (oK u) parts).map AV.ag)
 | _=>none
def BV (a:Bool) (d:Nat) (n:Nat) (el:TypeId) (e:Ty):Option (List e.den)→BZ
 | some xs=>some (xs.length=n∧n*e.size≤16777216,if a then .p (.slice e) xs else .sr d e 0 n,if a then [] else [(d,.arr el e xs)])
 | none=>none
def BP (a:Bool) (σ:St) (d:Nat) (n:Nat) (parts:List (Nat×Operand)):Option TI→BZ
 | some ⟨.slice e,_,el,_⟩=>BV a d n el e (Eg σ e 0 parts)
 | _=>none
def Jc (d:Nat) (el b:TypeId) (n:Nat) (k e:Ty):Option k.den→AV→BZ
 | some a,.raw (.slice none 0 0)=>some (n=1∧k.size+1≤16777216,.sr d (.agg (.prod k (.slice e))) 0 1,[(d,.nest el b k e [(a,[])] none)])
 | some a,.pc c l=>if c=e then some ((n=1∧k.size+1≤16777216)∧List.length l=0,.sr d (.agg (.prod k (.slice e))) 0 1,[(d,.nest el b k e [(a,[])] none)]) else none
 | _,_=>none
def H6 (σ:St) (d:Nat) (el a:TypeId) (n:Nat):Ty→Option AV→BZ
 | .agg (.prod k (.slice e)),some (.ag [x,y])=>Jc d el a n k e (EO false σ k x) y
 | _,_=>none
def H7 (σ:St) (d:Nat) (a:TypeId) (n:Nat):List (Nat×Operand)→Option TI→BZ
 | [(0,x)],some ⟨.slice t,_,el,_⟩=>H6 σ d el a n t (Ah σ x)
 | _,_=>none
def Fz (tb:Tb) (σ:St) (d:Nat) (n:Nat) (parts:List (Nat×Operand)) (ti:Option TI):Option TypeId→BZ
 | some a=>H7 σ d a n parts ti
 | none=>BP (inB d tb.pure) σ d n parts ti
def Hg (ty:Ty) (fs:List AV) (a:List Nat) (off:Nat):Option AV→BZ
 | some v=>if CP ty v=true∧Nx fs a=some off then some (True,v,[]) else none
 | none=>none
def EP (ty:Ty) (a:List Nat) (off:Nat):Option Obj→BZ
 | some (.box _ st fs)=>Hg ty fs a off (I3 st fs a)
 | _=>none
def Hh (ty e:Ty) (a:List Nat) (off:Nat):Option PV→BZ
 | some ⟨t,d⟩=>if ty=t∧Ln a e=some off then some (True,.p t d,[]) else none
 | none=>none
def Hi (ty e:Ty) (i:Nat) (a:List Nat) (off:Nat):Option (List e.den)→BZ
 | some ys=>Hh ty e a off (Qm a e (ys.getD i e.dflt))
 | none=>none
def Lt (n:Nat) (ty:Ty) (i off:Nat) (k e:Ty) (x:k.den×List e.den):List Nat→BZ
 | [0]=>if ty=k∧off=0 then some (True,.p k x.1,[]) else none
 | [1]=>if ty=.slice e∧off=k.size then some (True,.nin n e i x.2.length,[]) else none
 | _=>none
def ER (n:Nat) (ty e:Ty) (i:Nat) (b:List Nat) (off:Nat):Option Obj→BZ
 | some (.arr _ a xs)=>Hi ty e i b off (BO (.slice e) ⟨.slice a,xs⟩)
 | some (.nest _ _ k a xs none)=>if e=.agg (.prod k (.slice a)) then Lt n ty i off k a (xs.getD i (k.dflt,[])) b else none
 | _=>none
def I5 (σ:St):Option TI→Option AV→BZ
 | some ti,some (.bp n a off)=>EP ti.ty a off (lk n σ.objs)
 | some ti,some (.ep n e i a off)=>ER n ti.ty e i a off (lk n σ.objs)
 | some ti,some (.ip u v)=>if ti.ty=u then some (True,.p u v,[]) else none
 | _,_=>none
def Hj (o:Option (Nat×Nat)) (a:Option Nat):Option PV→BZ
 | some ⟨t,d⟩=>if o.map (·.1)=a then some (True,.ip t d,[]) else none
 | none=>none
def Sd (v:Nat→AV):Option (Nat×Nat)→BZ
 | some (k,_)=>some (True,v k,[])
 | none=>none
def NY (f:Nat) (o:Option (Nat×Nat)):AV→BZ
 | .bp n a off=>Sd (fun k=>.bp n (a++[f]) (off+k)) o
 | .ep n e i a off=>Sd (fun k=>.ep n e i (a++[f]) (off+k)) o
 | .ip (.agg u) v=>Hj o (J3 u f) (Gu u f v)
 | _=>none
def GU (f:Nat):Option TI→Option AV→BZ
 | some ⟨.agg _,offs,0,_⟩,some x=>NY f offs[f]? x
 | _,_=>none
def I6 (offs:List (Nat×Nat)) (x:AV):AV→BZ
 | .p (.int _) k=>if 0≤k then NY k.toNat offs[k.toNat]? x else none
 | _=>none
def FT:Option TI→Option AV→Option AV→BZ
 | some ⟨.slice e,_,_,_⟩,some (.p (.slice a) l),some (.p (.int _) k)=>if e=a then some (0≤k∧k<l.length,.ip a (l.getD k.toNat a.dflt),[]) else none
 | some ⟨.slice e,_,_,_⟩,some (.sr n a lo hi),some (.p (.int _) k)=>if e=a then some (0≤k∧k<(hi-lo:Nat),.ep n a (lo+k.toNat) [] 0,[]) else none
 | some ⟨.agg _,offs,_+1,_⟩,some x,some i=>I6 offs x i
 | _,_,_=>none
def Ds:Option TI→Option AV→Option AV→BZ
 | some ⟨.str,_,_,_⟩,some (.p .str s),some (.p (.int _) k)=>some (0≤k∧k<s.size,.p (.int .u8) ((s.data.getD k.toNat 0).toNat:Int),[])
 | _,_,_=>none
def Se:Option AV→BZ
 | some (.bp n a off)=>some (True,.bp n a off,[])
 | some (.ip t v)=>some (True,.ip t v,[])
 | some (.ep n e i a off)=>some (True,.ep n e i a off,[])
 | _=>none
def Zm (a b:Bool):BinOp→BZ
 | .eql=>some (True,.p .bool (a==b),[])
 | .neq=>some (True,.p .bool (a != b),[])
 | _=>none
def O4:Option TI→Bool
 | some ⟨.bool,_,_,_⟩=>true
 | _=>false
def O5 (op:BinOp) (ti:Option TI):Option AV→Option AV→BZ
 | some (.p (.int k) a),some (.p (.int c) b)=>some ((wC op k a c b).1,(wC op k a c b).2,[])
 | some (.p .str a),some (.p .str b)=>some ((TT a b op).1,(TT a b op).2,[])
 | some (.p .bool a),some (.p .bool b)=>if O4 ti=true then Zm a b op else none
 | _,_=>none
def v4:UnOp→Option AV→BZ
 | .not,some (.p .bool b)=>some (True,.p .bool (!b),[])
 | .neg,some (.p (.int k) a)=>some (LU k (0-a),.p (.int k) (0-a),[])
 | _,_=>none
def Rq (l:List Int):ByteArray:=⟨(l.map fun x=>UInt8.ofNat x.toNat).toArray⟩
def I7:Option TI→Option TI→Option AV→BZ
 | some ⟨.int _,_,_,_⟩,some ⟨.int k,_,_,_⟩,some (.p (.int _) a)=>some (LU k a,.p (.int k) a,[])
 | some ⟨.slice (.int .u8),_,_,_⟩,some ⟨.str,_,_,_⟩,some (.p (.slice (.int .u8)) l)=>some (True,.p .str (Rq l),[])
 | _,_,_=>none
def Kl (d:Nat) (el:TypeId) (e:Ty) (n m:Int):Option TI→BZ
 | some ti=>some (n=m∧0≤n∧n.toNat*ti.bytes≤AO,.sr d e 0 n.toNat,[(d,.arr el e (List.replicate n.toNat e.dflt))])
 | none=>none
def H8 (tb:Tb) (d:Nat):Option TI→Option AV→Option AV→BZ
 | some ⟨.slice e,_,el,_⟩,some (.p (.int .i64) n),some (.p (.int .i64) m)=>Kl d el e n m (lk el tb.ty)
 | _,_,_=>none
def E9:Option TI→Option AV→Option (Option AV)→Option (Option AV)→BZ
 | some ⟨.slice e,_,_,_⟩,some (.p (.slice d) l),some a,some h=>if e=d then HF (.p (.slice d) l) a h else none
 | some ⟨.slice e,_,_,_⟩,some (.sr n d b c),some a,some h=>if e=d then HF (.sr n d b c) a h else none
 | some ⟨.str,_,_,_⟩,some (.p .str s),some a,some h=>HF (.p .str s) a h
 | _,_,_,_=>none
def Dh:Option TI→Option AV→Option AV→Option AV→BZ
 | some ⟨.slice e,_,_,_⟩,some (.p (.slice c) l),some (.p (.int _) a),some (.p (.int _) b)=>if e=c then some (a=(List.length l:Int)∧b=(List.length l:Int),.pc c l,[]) else none
 | _,_,_,_=>none
def D9 (i:Nat):Option AV→BZ
 | some (.tup l)=>GT l[i]?
 | _=>none
def Qo:Option TI→Option AV→BZ
 | some ⟨.slice _,_,_,_⟩,some (.p (.slice _) l)=>some (True,.p (.int .i64) (l.length:Int),[])
 | some ⟨.slice _,_,_,_⟩,some (.sr _ _ lo hi)=>some (True,.p (.int .i64) ((hi-lo:Nat):Int),[])
 | some ⟨.slice _,_,_,_⟩,some (.nin _ _ _ len)=>some (True,.p (.int .i64) (len:Int),[])
 | some ⟨.slice _,_,_,_⟩,some (.raw (.slice none 0 0))=>some (True,.p (.int .i64) (0:Int),[])
 | some ⟨.str,_,_,_⟩,some (.p .str s)=>some (True,.p (.int .i64) (s.size:Int),[])
 | _,_=>none
def Eh (d:Nat) (el:TypeId) (e:Ty):Option TI→Option (List e.den)→BZ
 | some ti,some ys=>some (ys.length*ti.bytes≤AO,.sr d e 0 ys.length,[(d,.arr el e ys)])
 | _,_=>none
def EA (tb:Tb) (σ:St) (d:Nat) (v:AV):Option TI→BZ
 | some ⟨.slice e,_,el,_⟩=>Eh d el e (lk el tb.ty) (Ov σ e v)
 | _=>none
def Jd (d:Nat) (el:TypeId) (e:Ty) (l:List e.den):Option TI→Option (List e.den)→BZ
 | some ti,some ys=>some (0<ys.length∧(l.length+ys.length)*ti.bytes≤AO,.sr d e 0 (l.length+ys.length),[(d,.arr el e (l++ys))])
 | _,_=>none
def H9 (tb:Tb) (σ:St) (d:Nat) (e:Ty) (l:List e.den) (v:AV):Option TI→BZ
 | some ⟨.slice a,_,el,_⟩=>if a=e then Jd d el e l (lk el tb.ty) (Ov σ e v) else none
 | _=>none
def CX (tb:Tb) (σ:St) (d:Nat) (t u:TypeId):Option AV→Option AV→BZ
 | some (.raw (.slice none 0 0)),some v=>if t=u then EA tb σ d v (lk t tb.ty) else none
 | some (.pc e l),some v=>if t=u then H9 tb σ d e l v (lk t tb.ty) else none
 | _,_=>none
def O6:Option AV→Option AV→BZ
 | some (.p (.int k) a),some (.p (.int c) b)=>if k=c then some (True,.p (.int k) (if b<a then b else a),[]) else none
 | _,_=>none
def IA:Option AV→Option AV→Option AV→BZ
 | some (.p (.int k) a),some (.p (.int d) b),some (.p (.int e) c)=>if k=d∧k=e then some (True,.p (.int k) (if c<(if b<a then b else a) then c else (if b<a then b else a)),[]) else none
 | _,_,_=>none
def O7:Option AV→Option AV→BZ
 | some (.p (.int k) a),some (.p (.int c) b)=>if k=c then some (True,.p (.int k) (if a<b then b else a),[]) else none
 | _,_=>none
def Je (d:Nat) (sp:Ae):Option (Kj sp.ins)→BZ
 | some ds=>if sp.lend=false∨(sp.out ds).all RV.flat=true then some (sp.pre ds,I4 d (sp.out ds),Cm d (sp.out ds)) else none
 | none=>none
def IB (σ:St) (d:Nat) (xs:List Operand):Option Ae→BZ
 | some sp=>Je d sp (Fy sp.lend σ sp.ins xs)
 | none=>none
def LW (tb:Tb) (σ:St) (d:Nat) (xs:List Operand):Option AV→BZ
 | some (.fn f)=>IB σ d xs (lk f tb.fns)
 | _=>none
def Cn (tb:Tb) (σ:St) (d:Nat):Builtin→List Operand→List TypeId→BZ
 | .len,[x],[t]=>Qo (lk t tb.ty) (Ah σ x)
 | .append,[x,y],[t,u]=>CX tb σ d t u (Ah σ x) (Ah σ y)
 | .min,[x,y],[_,_]=>O6 (Ah σ x) (Ah σ y)
 | .max,[x,y],[_,_]=>O7 (Ah σ x) (Ah σ y)
 | .min,[x,y,z],[_,_,_]=>IA (Ah σ x) (Ah σ y) (Ah σ z)
 | _,_,_=>none
def HV (σ:St):List Operand→Option (List Nat)
 | []=>some []
 | x :: r=>match Ah σ x,HV σ r with
  | some (.bp n [] 0),some ns=>some (n :: ns)
  | _,_=>none
def NZ (f:FuncId):Option (List Nat)→BZ
 | some ns=>some (True,.clo f ns,[])
 | none=>none
def WF (σ:St) (fn:Fn) (first a:List Operand):BZ :=
 match fn,first with
 | .func f,[]=>NZ f (HV σ a)
 | _,_=>none
def FZ (d:Nat):Option TI→Option TI→BZ
 | some a,some te=>some (True,.mp d,[(d,.mapo a.ty te.ty [])])
 | _,_=>none
def Fa (tb:Tb) (d:Nat):List (Nat×Nat)→BZ
 | [(k,e)]=>FZ d (lk k tb.ty) (lk e tb.ty)
 | _=>none
def FD (tb:Tb) (d:Nat):Option TI→BZ
 | some ⟨.ref 2,offs,_,_⟩=>Fa tb d offs
 | _=>none
def Km (a:Ty) (ok:Bool) (r:Option a.den):BZ :=
 if ok then some (True,.tup [.p a (r.getD a.dflt),.p .bool r.isSome],[]) else some (True,.p a (r.getD a.dflt),[])
def Jf (a b:Ty) (l:List (a.den×b.den)) (ok:Bool):Option a.den→BZ
 | some k=>if TV a=true then Km b ok (A6 a b k l) else none
 | none=>none
def HG (tb:Tb) (σ:St) (b d:Nat) (x:AV) (ok:Bool):Option Obj→BZ
 | some (.mapo a c l)=>if (lk b tb.ty).map TI.ty=some a∧(lk b tb.ty).map TI.el=some 0∧(lk d tb.ty).map TI.ty=some c then Jf a c l ok (Kk false σ a x) else none
 | _=>none
def IC (tb:Tb) (σ:St) (ok:Bool):Option TI→Option AV→Option AV→BZ
 | some ⟨.ref 2,[(k,e)],_,_⟩,some (.mp n),some x=>HG tb σ k e x ok (lk n σ.objs)
 | _,_,_=>none
def Cc (tb:Tb) (σ:St) (d:Nat) (xs:List Operand) (ts:List TypeId):Callee→BZ
 | .builtin b=>Cn tb σ d b xs ts
 | .value g=>LW tb σ d xs (Ah σ g)
 | _=>none
def aq (tb:Tb) (σ:St) (d:Nat):Op→BZ
 | .move x=>GT (Ah σ x)
 | .assign x=>GT (Ah σ x)
 | .pick c x y=>J5 (Ah σ c) (Ah σ x) (Ah σ y)
 | .alloc t=>Jb d t (lk t tb.ty)
 | .box t x=>Qn d t (lk t tb.ty) (Ah σ x)
 | .build t parts=>H5 σ parts.toList (lk t tb.ty)
 | .buildSlice t n parts=>Fz tb σ d n parts.toList (lk t tb.ty) (lk d tb.nests)
 | .load t x=>I5 σ (lk t tb.ty) (Ah σ x)
 | .fieldAddr s x f=>GU f (lk s tb.ty) (Ah σ x)
 | .indexAddr t x i=>FT (lk t tb.ty) (Ah σ x) (Ah σ i)
 | .index t x i=>Ds (lk t tb.ty) (Ah σ x) (Ah σ i)
 | .nilCheck x=>Se (Ah σ x)
 | .binOp op t x y _=>O5 op (lk t tb.ty) (Ah σ x) (Ah σ y)
 | .unOp op _ x=>v4 op (Ah σ x)
 | .convert s t x=>I7 (lk s tb.ty) (lk t tb.ty) (Ah σ x)
 | .makeSlice t l c=>H8 tb d (lk t tb.ty) (Ah σ l) (Ah σ c)
 | .slice t x none (some hi) (some b)=>Dh (lk t tb.ty) (Ah σ x) (Ah σ hi) (Ah σ b)
 | .slice t x lo hi none=>E9 (lk t tb.ty) (Ah σ x) (GJ σ lo) (GJ σ hi)
 | .extract x i=>D9 i (Ah σ x)
 | .call c=>Cc tb σ d c.args.toList c.argTypes.toList c.callee
 | .makeFunc fn first a=>WF σ fn first.toList a.toList
 | .makeMap t none=>FD tb d (lk t tb.ty)
 | .lookup t x i ok=>IC tb σ ok (lk t tb.ty) (Ah σ x) (Ah σ i)
 | _=>none
def Na:AV→Bool
 | .ag _=>false
 | _=>true
def Jg (st:Bool) (fs:List AV) (v:AV):List Nat→Option (List AV)
 | []=>if st then match v with
   | .p (.agg u) d=>some (pfs u d)
   | .ag l=>some l
   | _=>none
  else if Na v then some [v] else none
 | [k]=>if st&&Na v then some (fs.set k v) else none
 | k :: r=>if st then match fs[k]?,v with
   | some (.p t d),.p u x=>(Sb r t d ⟨u,x⟩).map fun y=>fs.set k (.p t y)
   | _,_=>none
  else none
abbrev DC:=Option (Prop×St)
def Ei (σ:St) (n:Nat) (et:TypeId) (st:Bool) (ty:Ty) (fs:List AV) (b:List Nat) (off:Nat) (v:AV):Option AV→Option (List AV)→DC
 | some u,some a=>if Lr ty u=true∧CP ty v=true∧Nx fs b=some off∧a.map AV.cells=fs.map AV.cells then some (True,⟨σ.env,upd n (.box et st a) σ.objs⟩) else none
 | _,_=>none
def DL (σ:St) (n:Nat) (ty:Ty) (a:List Nat) (off:Nat) (v:AV):Option Obj→DC
 | some (.box et st fs)=>Ei σ n et st ty fs a off v (I3 st fs a) (Jg st fs v a)
 | _=>none
def FE (σ:St) (n:Nat) (et:TypeId) (e:Ty) (i:Nat) (a:List Nat) (off:Nat) (ys:List e.den):Option e.den→DC
 | some z=>if Ln a e=some off then some (True,⟨σ.env,upd n (.arr et e (ys.set i z)) σ.objs⟩) else none
 | none=>none
def EB (σ:St) (n:Nat) (et:TypeId) (ty e:Ty) (i:Nat) (a:List Nat) (off:Nat):Option (List e.den)→Option ty.den→DC
 | some ys,some w=>FE σ n et e i a off ys (Sb a e (ys.getD i e.dflt) ⟨ty,w⟩)
 | _,_=>none
def LX (σ:St) (d n:Nat) (et a:TypeId) (k e:Ty) (xs:List (k.den×List e.den)) (i bytes:Nat):Option (List e.den)→DC
 | some ys=>if (lk d σ.objs).isNone=true∧ys.isEmpty=false then some (((xs.getD i (k.dflt,[])).2.length+ys.length)*bytes≤AO,
   ⟨(d,.sr d e 0 ((xs.getD i (k.dflt,[])).2.length+ys.length)) :: Dr n [] σ.env,(d,.arr a e ((xs.getD i (k.dflt,[])).2++ys)) :: (n,.nest et a k e xs (some i)) :: CW n [] σ.objs⟩) else none
 | none=>none
def Nb (σ:St) (d n:Nat) (el:TypeId) (b:Ty) (i:Nat) (v:AV):Option TI→Option Obj→DC
 | some ti,some (.nest et a k e xs none)=>if b=e∧a=el∧GS n=false then LX σ d n et a k e xs i ti.bytes (Ov σ e v) else none
 | _,_=>none
def Lu (tb:Tb) (σ:St) (d n:Nat) (a:Ty) (i:Nat) (v:AV):Option TI→DC
 | some ⟨.slice e,_,el,_⟩=>if a=e then Nb σ d n el e i v (lk el tb.ty) (lk n σ.objs) else none
 | _=>none
def Jh (σ:St) (n m:Nat) (et a:TypeId) (k e:Ty) (xs:List (k.den×List e.den)) (i hi:Nat):Option (List e.den)→DC
 | some ys=>some (hi=ys.length,⟨Dr n [m] σ.env,(n,.nest et a k e (xs.set i ((xs.getD i (k.dflt,[])).1,ys)) none) :: CW n [m] σ.objs⟩)
 | none=>none
def Kn (σ:St) (n m:Nat) (et a:TypeId) (k e:Ty) (xs:List (k.den×List e.den)) (i hi:Nat):Option Obj→DC
 | some (.arr c b ys)=>if c=a∧GS m=false∧GS n=false then Jh σ n m et a k e xs i hi (BO (.slice e) ⟨.slice b,ys⟩) else none
 | _=>none
def Ji (σ:St) (d n m:Nat) (et b:TypeId) (k e:Ty) (hi a bytes:Nat) (xs:List (k.den×List e.den)):Option (List (k.den×List e.den))→DC
 | some ys=>some (hi=xs.length∧a=ys.length∧(xs.length+ys.length)*bytes≤AO,
   ⟨(d,.sr n (.agg (.prod k (.slice e))) 0 (xs.length+ys.length)) :: BT [n,m] σ.env,(n,.nest et b k e (xs++ys) none) :: Af [n,m] [n,m] σ.objs⟩)
 | none=>none
def Ko (σ:St) (d n m:Nat) (et a:TypeId) (k e:Ty) (hi c bytes:Nat) (xs:List (k.den×List e.den)):Option Obj→DC
 | some (.nest _ f g b ys none)=>if f=a∧n≠m∧GS m=false then Ji σ d n m et a k e hi c bytes xs (BO (.slice (.agg (.prod k (.slice e)))) ⟨.slice (.agg (.prod g (.slice b))),ys⟩) else none
 | _=>none
def O8 (σ:St) (d n:Nat) (et b:TypeId) (k e:Ty) (hi bytes:Nat) (xs:List (k.den×List e.den)):AV→DC
 | .sr m _ 0 a=>Ko σ d n m et b k e hi a bytes xs (lk m σ.objs)
 | _=>none
def Nc (σ:St) (d m:Nat) (el b:TypeId) (k e:Ty) (ys:List (k.den×List e.den)) (a bytes:Nat):DC :=
 if (lk d σ.objs).isNone=true∧GS m=false then some (a=ys.length∧ys.length*bytes≤AO,
  ⟨(d,.sr d (.agg (.prod k (.slice e))) 0 ys.length) :: BT [m] σ.env,(d,.nest el b k e ys none) :: Af [m] [m] σ.objs⟩) else none
def Nf (σ:St) (d m:Nat) (el:TypeId) (t:Ty) (a:Nat):Option TI→Option Obj→DC
 | some ti,some (.nest _ b k e ys none)=>if t=.agg (.prod k (.slice e)) then Nc σ d m el b k e ys a ti.bytes else none
 | _,_=>none
def WG (tb:Tb) (σ:St) (d:Nat):AV→Option TI→DC
 | .sr m _ 0 a,some ⟨.slice t,_,el,_⟩=>Nf σ d m el t a (lk el tb.ty) (lk m σ.objs)
 | _,_=>none
def Kp (σ:St) (n m:Nat) (ty:Ty) (et a:TypeId) (k e:Ty) (xs:List (k.den×List e.den)) (i hi:Nat) (b:List Nat) (off:Nat):DC :=
 if ty=.slice e∧b=[1]∧off=k.size then Kn σ n m et a k e xs i hi (lk m σ.objs) else none
def DM (σ:St) (n:Nat) (ty e:Ty) (i:Nat) (b:List Nat) (off:Nat) (v:AV):Option Obj→DC
 | some (.arr et a xs)=>EB σ n et ty e i b off (BO (.slice e) ⟨.slice a,xs⟩) (Kk false σ ty v)
 | some (.nest et c k a xs (some j))=>match v with
  | .sr m E 0 hi=>if e=.agg (.prod k (.slice a))∧i=j∧E=a then Kp σ n m ty et c k a xs i hi b off else none
  | _=>none
 | _=>none
def HH (σ:St):Option TI→Option AV→Option AV→DC
 | some ti,some (.bp n a off),some v=>DL σ n ti.ty a off v (lk n σ.objs)
 | some ti,some (.ep n e i a off),some v=>DM σ n ti.ty e i a off v (lk n σ.objs)
 | _,_,_=>none
def Ej (σ:St) (d n:Nat) (et:TypeId) (e:Ty) (hi:Nat) (bytes:Nat):Option (List e.den)→Option (List e.den)→DC
 | some a,some ys=>some ((hi+ys.length)*bytes≤AO,⟨(d,.sr n e 0 (hi+ys.length)) :: FQ n σ.env,upd n (.arr et e (a.take hi++ys)) (BU n σ.objs)⟩)
 | _,_=>none
def CQ (σ:St) (d n:Nat) (el:TypeId) (e:Ty) (hi:Nat) (v:AV) (ys:Option (List e.den)):Option TI→Option Obj→DC
 | some ti,some (.arr et a xs)=>if et=el then Ej σ d n et e hi ti.bytes (BO (.slice e) ⟨.slice a,xs⟩) ys else none
 | some ti,some (.nest et b k a xs none)=>if et=el∧e=.agg (.prod k (.slice a)) then O8 σ d n et b k a hi ti.bytes xs v else none
 | _,_=>none
def EC (tb:Tb) (σ:St) (d:Nat) (n:Nat) (a:Ty) (hi:Nat) (v:AV):Option TI→DC
 | some ⟨.slice e,_,el,_⟩=>if e=a then CQ σ d n el e hi v (Ov σ e v) (lk el tb.ty) (lk n σ.objs) else none
 | _=>none
def Cz (tb:Tb) (σ:St) (d:Option Nat) (t u:TypeId):Option AV→Option AV→DC
 | some (.sr n e 0 hi),some v=>match d with
  | some d=>if t=u∧GS n=false then EC tb σ d n e hi v (lk t tb.ty) else none
  | none=>none
 | some (.nin n e i _),some v=>match d with
  | some d=>if t=u then Lu tb σ d n e i v (lk t tb.ty) else none
  | none=>none
 | some (.raw (.slice none 0 0)),some v=>match d with
  | some d=>if t=u then WG tb σ d v (lk t tb.ty) else none
  | none=>none
 | _,_=>none
def DN (tb:Tb) (σ:St) (d:Option Nat):Builtin→List Operand→List TypeId→DC
 | .append,[x,y],[t,u]=>Cz tb σ d t u (Ah σ x) (Ah σ y)
 | _,_,_=>none
def C0 (tb:Tb) (σ:St) (d:Option Nat) (xs:List Operand) (ts:List TypeId):Callee→DC
 | .builtin b=>DN tb σ d b xs ts
 | _=>none
def F0 (σ:St) (n:Nat) (a b:Ty) (l:List (a.den×b.den)):Option a.den→Option b.den→DC
 | some k,some v=>if TV a=true then some (True,⟨σ.env,upd n (.mapo a b (H3 a b k v l)) σ.objs⟩) else none
 | _,_=>none
def FN (tb:Tb) (σ:St) (n:Nat) (b:Nat) (x y:AV):Option Obj→DC
 | some (.mapo a c l)=>if (lk b tb.ty).map TI.ty=some a∧(lk b tb.ty).map TI.el=some 0 then F0 σ n a c l (Kk false σ a x) (Kk false σ c y) else none
 | _=>none
def Jj (tb:Tb) (σ:St):Option TI→Option AV→Option AV→Option AV→DC
 | some ⟨.ref 2,[(k,_)],_,_⟩,some (.mp n),some x,some y=>FN tb σ n k x y (lk n σ.objs)
 | _,_,_,_=>none
def Di (r:DC):Option Nat→DC
 | none=>r
 | some _=>none
def FF (tb:Tb) (σ:St) (d:Option Nat):Op→DC
 | .store t x y=>Di (HH σ (lk t tb.ty) (Ah σ x) (Ah σ y)) d
 | .mapUpdate t m x y=>Di (Jj tb σ (lk t tb.ty) (Ah σ m) (Ah σ x) (Ah σ y)) d
 | .call c=>C0 tb σ d c.args.toList c.argTypes.toList c.callee
 | _=>none
def St.add (σ:St) (v:AV) (obs:List (Nat×Obj)):Option Nat→St
 | some d=>⟨(d,v) :: σ.env,obs++σ.objs⟩
 | none=>⟨σ.env,obs++σ.objs⟩
def Kq:Option AV→List Nat
 | some v=>v.names
 | none=>[]
def Co (σ:St):List (Nat×Operand)→List Nat
 | []=>[]
 | (_,x) :: r=>Kq (Ah σ x)++Co σ r
def Kr:Option AV→List Nat
 | some (.ag l)=>AV.namess l
 | _=>[]
def Ek (σ:St):List (Nat×Operand)→List Nat
 | []=>[]
 | (_,x) :: r=>Kr (Ah σ x)++Ek σ r
def Bz (σ:St):Option AV→Option AV→List Nat
 | some (.ep n _ _ _ _),some v=>if Cb (lk n σ.objs)=true then [] else v.names
 | _,_=>[]
def ID:Option AV→Option AV→Option AV→List Nat
 | some (.mp _),some v,some u=>v.names++u.names
 | _,_,_=>[]
def CC (σ:St):Op→List Nat
 | .buildSlice _ _ parts=>Co σ parts.toList
 | .build _ parts=>Ek σ parts.toList
 | .store _ x y=>Bz σ (Ah σ x) (Ah σ y)
 | .mapUpdate _ m x y=>ID (Ah σ m) (Ah σ x) (Ah σ y)
 | _=>[]
def Ce:List Nat→St→St
 | [],σ=>σ
 | n :: r,σ=>Ce r (frz n σ)
def Ba (obs:List (Nat×Obj)) (σ:St):Bool:=obs.all fun p=>(lk p.1 σ.objs).isNone
def J6 (tb:Tb) (σ:St) (o:Oper):BZ→DC
 | some (vc,v,obs)=>if Ba obs σ=true then some (vc,σ.add v obs o.dst) else none
 | none=>FF tb σ o.dst o.op
def Ng (tb:Tb) (o:Oper) (σ:St):DC:=J6 tb σ o (aq tb σ (o.dst.getD 0) o.op)
def F1 (tb:Tb) (o:Oper) (σ:St):DC:=Ng tb o (Ce (CC σ o.op) σ)
def Qp (a:Bool):Option AV→Option Bool
 | some (.p .bool b)=>some (b==a)
 | _=>none
def Jk (σ:St) (a:Bool):Option Tmp→Option Bool
 | some g=>Qp a (lk g σ.env)
 | none=>none
def EX (ops:List Oper) (σ:St):Option (Nat×Bool)→Option Bool
 | none=>some true
 | some (j,a)=>Jk σ a ((ops[j]?).bind (·.dst))
def TW (vc:Prop):DC→DC
 | some (a,σ)=>some (vc∧a,σ)
 | none=>none
mutual
def Bp (tb:Tb) (ops:List Oper):List Oper→St→DC
 | [],σ=>some (True,σ)
 | o :: r,σ=>evG tb ops o r σ (EX ops σ o.guard)
def evG (tb:Tb) (ops:List Oper) (o:Oper) (r:List Oper) (σ:St):Option Bool→DC
 | some true=>evK tb ops r (F1 tb o σ)
 | some false=>Bp tb ops r (σ.add (.raw undef) [] o.dst)
 | none=>none
def evK (tb:Tb) (ops:List Oper) (r:List Oper):DC→DC
 | some (vc,σ)=>TW vc (Bp tb ops r σ)
 | none=>none
end
end
section
open Go Go.RowKit
theorem CL {w:World} {b:Nat} {o:_root_.Go.Obj} (h:w.heap[b]?=some o):b<w.heap.size:=by
 rcases Nat.lt_or_ge b w.heap.size with a|a
 ·exact a
 ·simp[Array.getElem?_eq_none a]at h
def blk:Value→Option Nat
 | .slice (some a) _ _=>some a.block
 | .pointer (some a)=>some a.block
 | .map (some b)=>some b
 | _=>none
def bk (v:Value) (b:Nat):Prop:=blk v=some b∨∃a:Array Value,v=.tuple a∧∃x∈a.toList,blk x=some b
theorem Lv {a:Option Addr} {m c b:Nat}:bk (.slice a m c) b↔blk (.slice a m c)=some b:=by
 constructor
 ·intro h;rcases h with h|⟨_,h,_⟩
  ·exact h
  ·cases h
 ·exact .inl
def plc:Value→Value
 | .tuple a=>a.getD 0 undef
 | v=>v
def DE (loc:Value) (sz lo hi:Nat) (v:Value):Prop :=
 ∃(a:Option Addr) (m c:Nat),loc=.slice a m c∧lo≤hi∧hi≤m∧∃(b:Option Addr) (d:Nat),v=.slice b (hi-lo) d∧hi-lo≤d∧(lo=0→b=a∧d=c)∧(lo<hi→b=a.map (·.add (lo*sz)))
structure Vw where
 w:World
 
 O:Nat→Prop
 
 L:Nat→Prop
 
 ρ:Nat→Value
def Lay (u v:Value):Prop:=v=u∨(u=.slice none 0 0∧∃a:Option Addr,v=.slice a 0 0)
def TX (V:Vw):AV→Value→Prop
 | .p t d,v=>BX V.w V.O t v d
 | .pc e d,v=>BX V.w V.O (.slice e) v d∧∃a:Option Addr,v=.slice a (List.length d) (List.length d)
 | .raw u,v=>v=u
 | .sr n e lo hi,v=>V.L n∧DE (plc (V.ρ n)) e.size lo hi v
 | .ep n e i _ off,v=>V.L n∧∃g m c:Nat,plc (V.ρ n)=.slice (some ⟨g,0,none⟩) m c∧i<m∧v=.pointer (some ⟨g,i*e.size+off,none⟩)
 | .nin n _ i len,v=>V.L n∧∃(h:Array Value) (a:Option Addr) (c:Nat) (u:Value),V.ρ n=.tuple h∧h[i+1]?=some u∧Lay u v∧v=.slice a len c
 | .ip t d,v=>∃(ad:Addr) (cs:List Value),v=.pointer (some ad)∧¬V.O ad.block∧(∀(j:Nat) (u:Value),cs[j]?=some u→V.w.cell? (ad.add j)=some u)∧Bo V.w V.O t cs d
 | .bp n _ off,v=>V.L n∧∃b:Nat,V.ρ n=.pointer (some ⟨b,0,none⟩)∧v=.pointer (some ⟨b,off,none⟩)
 | .fn f,v=>v=.func (.func f) #[] #[]
 | .clo f ns,v=>v=.func (.func f) #[] (ns.map V.ρ).toArray∧∀n∈ns,V.L n∧∃b:Nat,V.ρ n=.pointer (some ⟨b,0,none⟩)
 | .mp n,v=>V.L n∧∃b:Nat,V.ρ n=.map (some b)∧v=.map (some b)
 | .yl n,v=>V.L n∧∃b:Nat,V.ρ n=.pointer (some ⟨b,0,none⟩)∧v=.func (.yield b) #[] #[]
 | .top,_=>True
 | .ag _,_=>False
 | .tup _,_=>False
def NS (V:Vw):AV→List Value→Prop
 | .p t d,cs=>Bo V.w V.O t cs d
 | av,cs=>∃v,cs=[v]∧v.oneCell'=true∧TX V av v
def DX (V:Vw):List AV→List Value→Prop
 | [],cs=>cs=[]
 | x :: r,cs=>∃c1 c2:List Value,cs=c1++c2∧NS V x c1∧DX V r c2
def Rr (V:Vw):AV→Value→Prop
 | .ag l,v=>∃cs:List Value,v=.agg cs.toArray∧DX V l cs
 | x,v=>TX V x v
def J7 (V:Vw):List AV→List Value→Prop
 | [],a=>a=[]
 | x :: r,a=>∃(v:Value) (l:List Value),a=v :: l∧Rr V x v∧J7 V r l
theorem Rr.of1 {V:Vw} {x:AV} {v:Value} (h:TX V x v):Rr V x v:=by
 cases x;case ag l=>exact h.elim
 all_goals exact h
def B0 (V:Vw):AV→Value→Prop
 | .ag l,v=>∃cs:List Value,v=.agg cs.toArray∧DX V l cs
 | .tup l,v=>∃a:List Value,v=.tuple a.toArray∧J7 V l a
 | av,v=>TX V av v
theorem wD {V:Vw} {x:AV} {v:Value} (h:Rr V x v):B0 V x v:=by
 cases x;case tup l=>exact(show False from h).elim
 all_goals exact h
def Dp (w:World) (O:Nat→Prop) (e:Ty) (cells:List Value) (xs:List e.den):Prop :=
 ∀(i:Nat) (x:e.den),xs[i]?=some x→∃a:List Value,a.length=e.size∧(∀(j:Nat) (u:Value),a[j]?=some u→cells[i*e.size+j]?=some u)∧Bo w O e a x
def J8 (w:World) (O:Nat→Prop) (k v:Ty):List MapEntry→List (k.den×v.den)→Prop
 | [],[]=>True
 | e :: a,x :: xs=>BX w O k e.key x.1∧BX w O v e.val x.2∧J8 w O k v a xs
 | _,_=>False
def Qq (a:Array MapEntry) (clock:Nat):Prop:=(a.toList.map (·.born)).Nodup∧∀b∈a.toList.map (·.born),b<clock
def Ny (V:Vw) (et:TypeId) (e:Ty) (xs:List e.den) (loc:Value):Prop:=xs.length≤AO∧∃cells:List Value,V.w.ownsRow 0 et e.size loc xs.length cells∧Dp V.w V.O e cells xs
def YL (V:Vw) (a:TypeId) (k e:Ty) (hole:Bool) (cells:List Value) (i:Nat) (x:k.den×List e.den) (u:Value):Prop :=
 ∃(c1:List Value) (v:Value),(∀(j:Nat) (z:Value),(c1++[v])[j]?=some z→cells[i*(k.size+1)+j]?=some z)∧Bo V.w V.O k c1 x.1 ∧
  ((hole=true∧u=.slice none 0 0)∨(hole=false∧Lay u v∧Ny V a e x.2 u))
structure LY (V:Vw) (et iet:TypeId) (k e:Ty) (xs:List (k.den×List e.den)) (h:Option Nat) (o:Value) (ins:List Value) (cells:List Value):Prop where
 max:xs.length≤AO
 len:ins.length=xs.length
 own:V.w.ownsRow 0 et (k.size+1) o xs.length cells
 row:∀(i:Nat) (x:k.den×List e.den) (u:Value),xs[i]?=some x→ins[i]?=some u→YL V iet k e (h==some i) cells i x u
 dist:∀(i j b:Nat) (u v:Value),ins[i]?=some u→ins[j]?=some v→blk u=some b→blk v=some b→i=j
 out:∀(i b:Nat) (u:Value),ins[i]?=some u→blk u=some b→blk o≠some b
def Shp (loc o:Value) (ins:List Value):Prop:=loc=.tuple (o :: ins).toArray∨(loc=.slice none 0 0∧o=.slice none 0 0∧ins=[])
def A8t (V:Vw) (k v:Ty) (l:List (k.den×v.den)) (left:List Nat) (d:Option Nat) (r:Nat):Prop :=
 ∃(b:Nat) (a:Array MapEntry) (clock c:Nat) (seen:Array Nat),V.w.heap[r]?=some (.mapIter (some b) c seen clock)∧¬V.O b∧V.w.heap[b]?=some (.map a clock)∧J8 V.w V.O k v a.toList l∧Qq a clock ∧
  (∀s∈a.toList.map (·.born),s<c)∧c≤clock∧left.Nodup∧(∀i,i∈left↔∃e,a[i]?=some e∧e.born∉seen)∧(∀i,d=some i→∃e,a[i]?=some e∧seen.back?=some e.born)
def A3 (V:Vw):Obj→Value→Prop
 | .arr et e xs,loc=>Ny V et e xs loc
 | .nest et d k e xs h,loc=>∃(o:Value) (ins cells:List Value),Shp loc o ins∧LY V et d k e xs h o ins cells
 | .box et st fs,loc=>(st=false→fs.length=1)∧∃(b:Nat) (cs:List Value),loc=.pointer (some ⟨b,0,none⟩)∧V.w.heap[b]?=some (.cells cs.toArray et (0,0))∧DX V fs cs
 | .mapo k v l,loc=>∃(b:Nat) (a:Array MapEntry) (clock:Nat),loc=.map (some b)∧V.w.heap[b]?=some (.map a clock)∧J8 V.w V.O k v a.toList l∧Qq a clock
 | .frame f fs,loc=>loc=.pointer none∧∀s x,lk s fs=some x→B0 V x (f.getD s undef)
 | .itr k v l left c,loc=>∃r:Nat,loc=.pointer (some ⟨r,0,none⟩)∧A8t V k v l left c r
 | .loop L,loc=>∃b:Nat,loc=.pointer (some ⟨b,0,none⟩)∧V.w.heap[b]?=some (.loop L)
 | .dfr,loc=>∃b:Nat,loc=.pointer (some ⟨b,0,none⟩)∧V.w.heap[b]?=some (.deferred (some []))
structure Frm (K:Nat→Prop) (w0 w:World):Prop where
 os:w.os=w0.os
 tape:w.tape=w0.tape
 output:w.output=w0.output
 size:w0.heap.size≤w.heap.size
 block:∀k,K k→w.heap[k]?=w0.heap[k]?
def Gn (σ:St) (n:Nat):Prop:=∃o,lk n σ.objs=some o
def own (O0:Nat→Prop) (σ:St) (ρ:Nat→Value) (b:Nat):Prop:=O0 b∨∃n,Gn σ n∧bk (ρ n) b
def vw (w:World) (O0:Nat→Prop) (σ:St) (ρ:Nat→Value):Vw:=⟨w,own O0 σ ρ,Gn σ,ρ⟩
def A4z:Value→Bool
 | .slice _ _ _=>false
 | .tuple _=>false
 | _=>true
structure Fp where
 ds:List Deferred:=[]
 pin:List (Nat×Value):=[]
structure Bm (w0:World) (K O0:Nat→Prop) (nt:Nat) (ds:Fp) (σ:St) (ρ:Nat→Value) (a:Act) (w:World):Prop where
 frm:Frm K w0 w
 nt:a.tmps.size=nt
 defers:a.defers=ds.ds
 pin:∀p∈ds.pin,Gn σ p.1∧ρ p.1=p.2∧(A4z p.2=true∨GS p.1=true)
 objs:∀n o,lk n σ.objs=some o→A3 (vw w O0 σ ρ) o (ρ n)
 free:∀n b,Gn σ n→bk (ρ n) b→¬K b∧¬O0 b
 dist:∀n m b,Gn σ n→Gn σ m→bk (ρ n) b→bk (ρ m) b→n=m
 env:∀s v,lk s σ.env=some v→B0 (vw w O0 σ ρ) v (a.tmps.getD s undef)
structure CR (V V':Vw):Prop where
 O:∀b,b<V.w.heap.size→¬V.O b→¬V'.O b
 L:∀n,V.L n→V'.L n
 ρ:∀n,V.L n→V'.ρ n=V.ρ n
 heap:∀b,b<V.w.heap.size→¬V.O b→V'.w.heap[b]?=V.w.heap[b]?
theorem TX.keeps {V V':Vw} (h:CR V V'):∀ {x:AV} {v:Value},TX V x v→TX V' x v
 | .p _ _,_,b=>BX.mono h.O h.heap b
 | .pc _ _,_,b=>⟨BX.mono h.O h.heap b.1,b.2⟩
 | .raw _,_,b=>b
 | .sr n e lo hi,_,⟨a,hs⟩=>⟨h.L n a,by rw[h.ρ n a];exact hs⟩
 | .ep n e i _ off,_,⟨a,hs⟩=>⟨h.L n a,by rw[h.ρ n a];exact hs⟩
 | .nin n _ i len,_,⟨a,hs⟩=>⟨h.L n a,by rw[h.ρ n a];exact hs⟩
 | .ip t d,_,⟨ad,cs,c,g,k,m⟩=>by
  have l:ad.block<V.w.heap.size:=by
   have hp:=t.size_pos;have q:=m.length;have:=block_lt_of_cell (k 0 (cs[0]'(by omega)) (An (by omega)))
   rwa [CK]at this
  refine⟨ad,cs,c,h.O _ l g,fun j u o=>?_,Bo.mono h.O h.heap m⟩;rw[ACc (w:=V.w) (w':=V'.w)]
  ·exact k j u o
  ·rw[CK];exact h.heap _ l g
 | .bp n _ off,_,⟨a,hs⟩=>⟨h.L n a,by rw[h.ρ n a];exact hs⟩
 | .fn _,_,b=>b
 | .clo f ns,_,⟨c,hs⟩=>by
  refine⟨?_,fun n hn=>⟨h.L n (hs n hn).1,by rw[h.ρ n (hs n hn).1];exact(hs n hn).2⟩⟩;rw[c]
  congr 2
  exact AA2 fun n hn=>(h.ρ n (hs n hn).1).symm
 | .mp n,_,⟨a,hs⟩=>⟨h.L n a,by rw[h.ρ n a];exact hs⟩
 | .yl n,_,⟨a,hs⟩=>⟨h.L n a,by rw[h.ρ n a];exact hs⟩
 | .top,_,_=>trivial
 | .ag _,_,b=>b
 | .tup _,_,b=>b
theorem NS.keeps {V V':Vw} (h:CR V V') {x:AV} {cs:List Value} (a:NS V x cs):NS V' x cs:=by
 cases x;case p t d=>exact(Bo.mono h.O h.heap a:Bo V'.w V'.O t cs d)
 all_goals
  obtain⟨v,h1,b,c⟩:=a;exact⟨v,h1,b,c.keeps h⟩
theorem DX.keeps {V V':Vw} (h:CR V V'):∀ {l:List AV} {cs:List Value},DX V l cs→DX V' l cs
 | [],_,b=>b
 | _ :: _,_,⟨c1,c2,e,h1,a⟩=>⟨c1,c2,e,h1.keeps h,a.keeps h⟩
theorem Rr.keeps {V V':Vw} (h:CR V V') {x:AV} {v:Value} (a:Rr V x v):Rr V' x v:=by
 cases x;case ag l=>obtain⟨cs,h1,b⟩:=a;exact⟨cs,h1,b.keeps h⟩
 all_goals exact Rr.of1 (TX.keeps h a)
theorem J7.keeps {V V':Vw} (h:CR V V'):∀ {l:List AV} {a:List Value},J7 V l a→J7 V' l a
 | [],_,c=>c
 | _ :: _,_,⟨v,l,e,h1,b⟩=>⟨v,l,e,h1.keeps h,b.keeps h⟩
theorem B0.keeps {V V':Vw} (h:CR V V') {x:AV} {v:Value} (a:B0 V x v):B0 V' x v:=by
 cases x;case ag l=>obtain⟨cs,h1,b⟩:=a;exact⟨cs,h1,b.keeps h⟩
 case tup l=>obtain⟨cs,h1,b⟩:=a;exact⟨cs,h1,b.keeps h⟩
 all_goals
  simp only[B0]at a ⊢;exact TX.keeps h a
theorem Dp.keeps {V V':Vw} (h:CR V V') {e:Ty} {cells:List Value} {xs:List e.den} (d:Dp V.w V.O e cells xs):Dp V'.w V'.O e cells xs:=fun i x hi =>
 let ⟨a,h1,b,c⟩:=d i x hi
 ⟨a,h1,b,Bo.mono h.O h.heap c⟩
theorem J8.mono {w w':World} {O O':Nat→Prop} (a:∀b,b<w.heap.size→¬O b→¬O' b) (c:∀b,b<w.heap.size→¬O b→w'.heap[b]?=w.heap[b]?) {k v:Ty} :
  ∀ {d:List MapEntry} {l:List (k.den×v.den)},J8 w O k v d l→J8 w' O' k v d l
 | [],[],h=>h
 | [],_ :: _,h=>h.elim
 | _ :: _,[],h=>h.elim
 | _ :: _,_ :: _,⟨h1,e,f⟩=>⟨h1.mono a c,e.mono a c,f.mono a c⟩
theorem Jl {w w':World} {et:TypeId} {sz n:Nat} {loc:Value} {cells:List Value} (d:∀b,blk loc=some b→w'.heap[b]?=w.heap[b]?) (h:w.ownsRow 0 et sz loc n cells):w'.ownsRow 0 et sz loc n cells:=by
 obtain⟨h1,a⟩:=h;refine⟨h1,?_⟩;rcases a with a|⟨g,cap,c,rfl,e,f,i⟩
 ·exact .inl a
 ·exact .inr ⟨g,cap,c,rfl,e,(d g rfl).trans f,i⟩
theorem Ny.keeps {V V':Vw} (h:CR V V') {et:TypeId} {e:Ty} {xs:List e.den} {loc:Value} (a:∀b,blk loc=some b→V'.w.heap[b]?=V.w.heap[b]?) (f:Ny V et e xs loc):Ny V' et e xs loc:=by
 obtain⟨d,cells,h1,c⟩:=f;exact⟨d,cells,Jl a h1,c.keeps h⟩
theorem YL.keeps {V V':Vw} (h:CR V V') {c:TypeId} {k e:Ty} {hole:Bool} {cells:List Value} {i:Nat} {x:k.den×List e.den} {u:Value} (j:∀b,blk u=some b→V'.w.heap[b]?=V.w.heap[b]?) (l:YL V c k e hole cells i x u):YL V' c k e hole cells i x u:=by
 obtain⟨c1,v,h1,d,a⟩:=l;refine⟨c1,v,h1,Bo.mono h.O h.heap d,?_⟩;rcases a with a|⟨a,f,g⟩
 ·exact .inl a
 ·exact .inr ⟨a,f,g.keeps h j⟩
theorem A7 {o:Value} {ins:List Value} {b:Nat}:bk (.tuple (o :: ins).toArray) b↔blk o=some b∨∃(i:Nat) (u:Value),ins[i]?=some u∧blk u=some b:=by
 constructor
 ·rintro (h|⟨d,h,x,c,a⟩)
  ·cases h
  ·injection h with h
   subst h;simp only[By]at c;rcases c with rfl|c
   ·exact .inl a
   ·obtain⟨i,hi⟩:=List.getElem?_of_mem c;exact .inr ⟨i,x,hi,a⟩
 ·rintro (h|⟨i,u,hi,a⟩)
  ·exact .inr ⟨_,rfl,o,by simp,h⟩
  ·exact .inr ⟨_,rfl,u,by simp[AAf hi],a⟩
theorem Shp.bk {loc o:Value} {ins:List Value} {b:Nat} (h:Shp loc o ins):bk loc b↔bk (.tuple (o :: ins).toArray) b:=by
 rcases h with rfl|⟨rfl,rfl,rfl⟩
 ·exact Iff.rfl
 ·rw[A7,Lv];simp[blk]
theorem Shp.plc {loc o:Value} {ins:List Value} (h:Shp loc o ins):plc loc=o:=by
 rcases h with rfl|⟨rfl,rfl,rfl⟩<;>rfl
theorem Shp.tup {loc o:Value} {ins:List Value} {a:Array Value} (h:Shp loc o ins) (b:loc=.tuple a):a=(o :: ins).toArray:=by
 subst b;rcases h with h|⟨h,_⟩
 ·injection h
 ·cases h
theorem LY.keeps {V V':Vw} (h:CR V V') {et g:TypeId} {k e:Ty} {xs:List (k.den×List e.den)} {f:Option Nat} {o:Value} {ins cells:List Value} (d:∀b,bk (.tuple (o :: ins).toArray) b→V'.w.heap[b]?=V.w.heap[b]?) (a:LY V et g k e xs f o ins cells):LY V' et g k e xs f o ins cells :=
 ⟨a.max,a.len,Jl (fun b h1=>d b (A7.2 (.inl h1))) a.own,fun i x u h1 c=>(a.row i x u h1 c).keeps h (fun b j=>d b (A7.2 (.inr ⟨i,u,c,j⟩))),a.dist,a.out⟩
theorem TY {w:World} {et:TypeId} {sz n b:Nat} {loc:Value} {cells:List Value} (h:w.ownsRow 0 et sz loc n cells) (a:blk loc=some b):b<w.heap.size:=by
 rcases h.2 with ⟨rfl,_⟩|⟨g,cap,d,rfl,e,c,f⟩
 ·simp[blk]at a
 ·simp[blk]at a;subst a;exact CL c
theorem LY.block_lt {V:Vw} {et h:TypeId} {k e:Ty} {xs:List (k.den×List e.den)} {g:Option Nat} {o:Value} {ins cells:List Value} (d:LY V et h k e xs g o ins cells) {b:Nat} (f:bk (.tuple (o :: ins).toArray) b):b<V.w.heap.size:=by
 rcases A7.1 f with h1|⟨i,u,h1,c⟩
 ·exact TY d.own h1
 ·have hi:i<xs.length:=by have:=(Ro.1 h1).1;rw[d.len]at this;exact this
  obtain⟨c1,v,_,_,a⟩:=d.row i xs[i] u (An hi) h1;rcases a with ⟨_,a⟩|⟨_,_,_,j,a,_⟩
  ·rw[a]at c;simp[blk]at c
  ·exact TY a c
theorem A3.keeps {V V':Vw} (h:CR V V') {o:Obj} {loc:Value} (d:∀b,bk loc b→V'.w.heap[b]?=V.w.heap[b]?) (c:A3 V o loc):A3 V' o loc:=by
 cases o with
 | arr et e xs =>
  obtain⟨C,cells,⟨h1,a⟩,B⟩:=c;refine⟨C,cells,⟨h1,?_⟩,B.keeps h⟩;rcases a with a|⟨g,cap,i,rfl,E,F,G⟩
  ·exact .inl a
  ·exact .inr ⟨g,cap,i,rfl,E,(d g (.inl rfl)).trans F,G⟩
 | box et st fs =>
  obtain⟨h0,b,cs,rfl,h1,a⟩:=c;exact⟨h0,b,cs,rfl,(d b (.inl rfl)).trans h1,a.keeps h⟩
 | nest et K k e xs J =>
  obtain⟨o,ins,cells,hs,h1⟩:=c;exact⟨o,ins,cells,hs,h1.keeps h fun b A=>d b (hs.bk.2 A)⟩
 | mapo k v l =>
  obtain⟨b,m,cl,rfl,h1,a,f⟩:=c;exact⟨b,m,cl,rfl,(d b (.inl rfl)).trans h1,a.mono h.O h.heap,f⟩
 | frame M fs =>
  obtain⟨h0,h1⟩:=c;exact⟨h0,fun s x hs=>(h1 s x hs).keeps h⟩
 | itr k v l left i =>
  obtain⟨r,rfl,b,D,cl,I,H,h1,a,f,p,q,t,u,y,z,n⟩:=c;have j:=CL f;exact⟨r,rfl,b,D,cl,I,H,(d r (.inl rfl)).trans h1,h.O b j a,(h.heap b j a).trans f,p.mono h.O h.heap,q,t,u,y,z,n⟩
 | loop L =>
  obtain⟨b,rfl,h1⟩:=c;exact⟨b,rfl,(d b (.inl rfl)).trans h1⟩
 | dfr =>
  obtain⟨b,rfl,h1⟩:=c;exact⟨b,rfl,(d b (.inl rfl)).trans h1⟩
theorem A3.block_lt {V:Vw} {o:Obj} {loc:Value} (c:A3 V o loc) {b:Nat} (a:bk loc b):b<V.w.heap.size:=by
 cases o with
 | arr et e xs =>
  obtain⟨n,cells,⟨h1,d⟩,j⟩:=c;rcases d with ⟨rfl,_⟩|⟨g,cap,f,rfl,s,h,t⟩
  ·simp[bk,blk]at a
  ·simp[bk,blk]at a;subst a;exact CL h
 | box et st fs =>
  obtain⟨h0,b',cs,rfl,h1,d⟩:=c;simp[bk,blk]at a;subst a;exact CL h1
 | nest et p k e xs m =>
  obtain⟨o,ins,cells,hs,h1⟩:=c;exact h1.block_lt (hs.bk.1 a)
 | mapo k v l =>
  obtain⟨b',i,cl,rfl,h1,d⟩:=c;simp[bk,blk]at a;subst a;exact CL h1
 | frame y fs =>
  obtain⟨rfl,h1⟩:=c;simp[bk,blk]at a
 | itr k v l left f =>
  obtain⟨r,rfl,b',q,cl,x,u,h1,-⟩:=c;simp[bk,blk]at a;subst a;exact CL h1
 | loop L =>
  obtain⟨b',rfl,h1⟩:=c;simp[bk,blk]at a;subst a;exact CL h1
 | dfr =>
  obtain⟨b',rfl,h1⟩:=c;simp[bk,blk]at a;subst a;exact CL h1
section
variable {α:Type}
theorem A0 (k:Nat):∀(l r:List (Nat×α)),lk k (l++r)=(lk k l).or (lk k r)
 | [],_=>by simp[lk]
 | (j,v) :: l,r=>by
  simp only[ABm,lk];split
  ·simp
  ·exact A0 k l r
theorem GV (k n:Nat) (u:α):∀l:List (Nat×α),lk k (upd n u l)=if k=n then (lk n l).map (fun _=>u) else lk k l
 | []=>by simp[lk,upd]
 | (j,v) :: l=>by
  simp only[upd];by_cases hn:n=j
  ·subst hn;by_cases hk:k=n
   ·subst hk;simp[lk]
   ·simp[lk,hk,GV k n u l]
  ·simp only[As hn,lk];by_cases hk:k=n
   ·subst hk;simp[hn,GV k k u l]
   ·by_cases a:k=j
    ·subst a;simp[hk]
    ·simp[hk,a,GV k n u l]
theorem Qr (k n:Nat):∀l:List (Nat×α),lk k (del n l)=if k=n then none else lk k l
 | []=>by simp[lk,del]
 | (j,v) :: l=>by
  simp only[del];by_cases hn:n=j
  ·subst hn;rw[At rfl,Qr k n l];by_cases hk:k=n<;>simp[lk,hk]
  ·rw[As hn];simp only[lk,Qr k n l];by_cases hk:k=n
   ·subst hk;simp[hn]
   ·simp[hk]
end
end
section
open Go Go.RowKit
def ET (σ:St) (obs:List (Nat×Obj)):St:=⟨σ.env,obs++σ.objs⟩
structure QS (w:World) (O0:Nat→Prop) (σ:St) (ρ:Nat→Value) (v:AV) (obs:List (Nat×Obj)) (u:Value) (ρ':Nat→Value) (w':World):Prop where
 below:Below w.heap.size w w'
 rho:∀n,lk n obs=none→ρ' n=ρ n
 av:B0 (vw w' O0 (ET σ obs) ρ') v u
 obj:∀n o,lk n obs=some o→A3 (vw w' O0 (ET σ obs) ρ') o (ρ' n)
 new:∀n o b,lk n obs=some o→bk (ρ' n) b→w.heap.size≤b
 dist:∀n m o o' b,lk n obs=some o→lk m obs=some o'→bk (ρ' n) b→bk (ρ' m) b→n=m
theorem F2 {α:Type} {k:Nat} {v:α}:∀ {l:List (Nat×α)},lk k l=some v→(k,v)∈l
 | (j,u) :: l,h=>by
  simp only[lk]at h;split at h
  ·rename_i e;cases h;subst e;simp
  ·exact ON _ (F2 h)
theorem Nz {obs:List (Nat×Obj)} {σ:St} (h:Ba obs σ=true) {n:Nat} {o:Obj} (hn:lk n obs=some o):lk n σ.objs=none:=by
 simp only[Ba,GO]at h;simpa using h _ (F2 hn)
theorem Lw {σ:St} {obs:List (Nat×Obj)} {n:Nat} (h:Gn (ET σ obs) n):(∃o,lk n obs=some o)∨(lk n obs=none∧Gn σ n):=by
 obtain⟨o,h⟩:=h;simp only[ET,A0]at h;cases a:lk n obs with
 | some b=>exact .inl ⟨b,rfl⟩
 | none=>rw[a]at h;exact .inr ⟨rfl,o,by simpa using h⟩
theorem YM {σ:St} {obs:List (Nat×Obj)} (hf:Ba obs σ=true) {n:Nat} (h:Gn σ n):Gn (ET σ obs) n∧lk n obs=none:=by
 obtain⟨o,h⟩:=h;have hn:lk n obs=none:=by
  cases a:lk n obs with
  | none=>rfl
  | some b=>have:=Nz hf a;rw[this]at h;cases h
 exact⟨⟨o,by simp[ET,A0,hn,h]⟩,hn⟩
theorem IE {w w':World} {O0:Nat→Prop} {σ:St} {ρ ρ':Nat→Value} {obs:List (Nat×Obj)} (hf:Ba obs σ=true)
  (hb:Below w.heap.size w w') (hr:∀n,lk n obs=none→ρ' n=ρ n) (hn:∀n o b,lk n obs=some o→bk (ρ' n) b→w.heap.size≤b) :
  CR (vw w O0 σ ρ) (vw w' O0 (ET σ obs) ρ') where
 O:=by
  intro b hlt hO hO';rcases hO' with h0|⟨n,hl,hb'⟩
  ·exact hO (.inl h0)
  ·rcases Lw hl with ⟨o,ho⟩|⟨hno,hl'⟩
   ·have:=hn n o b ho hb';have hlt:b<w.heap.size:=hlt;omega
   ·exact hO (.inr ⟨n,hl',by rw[←hr n hno];exact hb'⟩)
 L:=fun n h=>(YM hf h).1
 ρ:=fun n h=>hr n (YM hf h).2
 heap:=fun b hlt _=>hb.block b hlt
theorem QS.keeps {w w':World} {O0:Nat→Prop} {σ:St} {ρ ρ':Nat→Value} {v:AV} {u:Value} {obs:List (Nat×Obj)} (hf:Ba obs σ=true) (h:QS w O0 σ ρ v obs u ρ' w') :
  CR (vw w O0 σ ρ) (vw w' O0 (ET σ obs) ρ'):=IE hf h.below h.rho h.new
theorem Frm.below {K:Nat→Prop} {w0 w w':World} (h:Frm K w0 w) (hb:Below w.heap.size w w') (hK:∀b,K b→b<w0.heap.size):Frm K w0 w' where
 os:=hb.os.trans h.os
 tape:=hb.tape.trans h.tape
 output:=hb.output.trans h.output
 size:=aT h.size hb.size
 block:=fun k hk=>(hb.block k (AAy (hK k hk) h.size)).trans (h.block k hk)
theorem J9 (a:Act) (dst:Option Tmp) (u:Value):(a.put dst u).tmps.size=a.tmps.size:=by
 cases dst<;>simp[Act.put]
theorem GW (a:Act) (dst:Option Tmp) (u:Value):(a.put dst u).defers=a.defers:=by cases dst<;>rfl
theorem Ks (a:Act) (d:Nat) (u:Value) (s:Nat) (b:d<a.tmps.size):(a.put (some d) u).tmps.getD s undef=if s=d then u else a.tmps.getD s undef:=by
 by_cases h:s=d
 ·subst h;simp[Act.put,b]
 ·have:¬d=s:=fun e=>h e.symm;simp[Act.put,h,this,Array.getElem?_setIfInBounds]
theorem Bm.add {w0:World} {K O0:Nat→Prop} {nt:Nat} {ds:Fp} {σ:St} {ρ:Nat→Value} {a:Act} {w:World} (h:Bm w0 K O0 nt ds σ ρ a w)
  (D:∀b,K b→b<w0.heap.size) (J:∀b,O0 b→b<w0.heap.size) {dst:Option Nat} (L:∀d,dst=some d→d<nt)
  {v:AV} {obs:List (Nat×Obj)} {u:Value} {ρ':Nat→Value} {w':World} (hf:Ba obs σ=true) (c:QS w O0 σ ρ v obs u ρ' w') :
  Bm w0 K O0 nt ds (σ.add v obs dst) ρ' (a.put dst u) w':=by
 have hk:=c.keeps hf;have G:(σ.add v obs dst).objs=obs++σ.objs:=by cases dst<;>rfl
 have l:∀n,Gn (σ.add v obs dst) n↔Gn (ET σ obs) n:=fun n=>by simp[Gn,G,ET]
 have H:vw w' O0 (σ.add v obs dst) ρ'=vw w' O0 (ET σ obs) ρ':=by
  have j:Gn (σ.add v obs dst)=Gn (ET σ obs):=funext fun n=>propext (l n);have g:own O0 (σ.add v obs dst) ρ'=own O0 (ET σ obs) ρ':=by
   funext b;simp only[own,j]
  simp only[vw,j,g]
 refine⟨h.frm.below c.below D,by rw[J9];exact h.nt,by rw[GW];exact h.defers,fun p hp=>?_,?_,?_,?_,?_⟩
 ·obtain⟨h1,k,I⟩:=h.pin p hp;have C:=YM hf h1;exact⟨(l p.1).2 C.1,(c.rho _ C.2).trans k,I⟩
 ·intro n o g;rw[G,A0]at g;rw[H];cases r:lk n obs with
  | some A=>rw[r]at g;cases g;exact c.obj n _ r
  | none =>
   rw[r]at g;have q:lk n σ.objs=some o:=by simpa using g
   rw[c.rho n r];refine(h.objs n o q).keeps hk fun b f=>?_;exact c.below.block b ((h.objs n o q).block_lt f)
 ·intro n b j f;rcases Lw ((l n).1 j) with ⟨o,g⟩|⟨t,z⟩
  ·have M:=c.new n o b g f;have:=h.frm.size;exact⟨fun y=>by have:=D b y;omega,fun y=>by have:=J b y;omega⟩
  ·rw[c.rho n t]at f;exact h.free n b z f
 ·intro n m b j z f i;rcases Lw ((l n).1 j) with ⟨o,g⟩|⟨t,hn⟩<;>rcases Lw ((l m).1 z) with ⟨A,q⟩|⟨F,E⟩
  ·exact c.dist n m o A b g q f i
  ·have h1:=c.new n o b g f;rw[c.rho m F]at i;obtain⟨B,k⟩:=E;have:=(h.objs m B k).block_lt i;have:b<w.heap.size:=this;omega
  ·have h1:=c.new m A b q i;rw[c.rho n t]at f;obtain⟨B,k⟩:=hn;have:=(h.objs n B k).block_lt f;have:b<w.heap.size:=this;omega
  ·rw[c.rho n t]at f;rw[c.rho m F]at i;exact h.dist n m b hn E f i
 ·intro s x hs;rw[H];cases dst with
  | none=>exact(h.env s x hs).keeps hk
  | some d =>
   simp only[St.add,lk]at hs;rw[Ks a d u s (by rw[h.nt];exact L d rfl)];split at hs
   ·rename_i e;cases hs;rw[At e];exact c.av
   ·rename_i e;rw[As e];exact(h.env s x hs).keeps hk
theorem QS.still {w:World} {O0:Nat→Prop} {σ:St} {ρ:Nat→Value} {v:AV} {u:Value} (h:B0 (vw w O0 σ ρ) v u):QS w O0 σ ρ v [] u ρ w where
 below:=Below.refl _ _
 rho:=fun _ _=>rfl
 av:=h
 obj:=fun _ _ h=>by cases h
 new:=fun _ _ _ h=>by cases h
 dist:=fun _ _ _ _ _ h=>by cases h
def EU (ρ:Nat→Value) (n:Nat) (x:Value):Nat→Value:=fun m=>if m=n then x else ρ m
theorem Bg (ρ:Nat→Value) (n:Nat) (x:Value):EU ρ n x n=x:=by simp[EU]
theorem QS.one {w w':World} {O0:Nat→Prop} {σ:St} {ρ:Nat→Value} {v:AV} {u loc:Value} {n:Nat} {o:Obj} (hb:Below w.heap.size w w')
  (hnew:∀b,bk loc b→w.heap.size≤b)
  (hav:B0 (vw w' O0 (ET σ [(n,o)]) (EU ρ n loc)) v u)
  (hobj:A3 (vw w' O0 (ET σ [(n,o)]) (EU ρ n loc)) o loc):QS w O0 σ ρ v [(n,o)] u (EU ρ n loc) w' where
 below:=hb
 rho:=fun m hm=>by
  simp only[lk]at hm;split at hm
  ·cases hm
  ·rename_i e;simp[EU,e]
 av:=hav
 obj:=fun m o' hm=>by
  simp only[lk]at hm;split at hm
  ·rename_i e;cases hm;subst e;rw[Bg];exact hobj
  ·cases hm
 new:=fun m o' b hm hb'=>by
  simp only[lk]at hm;split at hm
  ·rename_i e;subst e;rw[Bg]at hb';exact hnew b hb'
  ·cases hm
 dist:=fun m m' o1 o2 b h1 h2 _ _=>by
  simp only[lk]at h1 h2;split at h1
  ·split at h2
   ·omega
   ·cases h2
  ·cases h1
end
section
open Go Go.RowKit
theorem BA {t:Ty} {p:PV} {d:t.den} (h:BO t p=some d):p=⟨t,d⟩:=by
 obtain⟨u,x⟩:=p;simp only[BO]at h;split at h
 ·rename_i e;subst e;simpa using h
 ·cases h
theorem Bi {e a:Ty} {xs:List a.den} {ys:List e.den} (h:BO (.slice e) ⟨.slice a,xs⟩=some ys):a=e∧HEq xs ys:=by
 have b:=BA h;injection b with h1 c
 injection h1 with h1
 exact⟨h1,c⟩
theorem N0 {α:Type} (xs:List α) {lo hi:Nat} (h:hi≤xs.length):(sub xs lo hi).length=hi-lo:=by
 simp[sub];omega
theorem YN {α:Type} (xs:List α) (lo hi i:Nat) {x:α} (h:(sub xs lo hi)[i]?=some x):xs[lo+i]?=some x∧i<hi-lo:=by
 simp only[sub,oN,AAm]at h;split at h
 ·rename_i a;exact⟨h,a⟩
 ·cases h
theorem oL {w:World} {O':Nat→Prop} {et:TypeId} {e:Ty} {xs:List e.den} {loc v:Value} {cells:List Value} {lo hi:Nat} (G:∀b,blk loc=some b→¬O' b)
  (L:xs.length≤AO) (k:w.ownsRow 0 et e.size loc xs.length cells) (y:Dp w O' e cells xs) (H:DE loc e.size lo hi v):Bo w O' (.slice e) [v] (sub xs lo hi):=by
 obtain⟨a,m,c,h,J,A,l,n,rfl,s,h0,h1⟩:=H;have E:m=xs.length:=by
  rcases k.2 with ⟨d,hn⟩|⟨g,cap,o,d,_⟩
  ·rw[h]at d;injection d;omega
  ·rw[h]at d;injection d
 subst E;have f:=N0 xs (lo:=lo) A;refine⟨l,n,by rw[f],by rw[f];exact s,by rw[f];omega,?_⟩;by_cases D:lo<hi
 ·right;rcases k.2 with ⟨d,hn⟩|⟨g,cap,o,d,r⟩
  ·omega
  ·have t:=World.ownsRow.cells k (g:=g) (by rw[d];rfl);have ha:a=some ⟨g,0,none⟩:=by rw[h]at d;injection d
   subst ha;refine⟨_,h1 D,G _ (by rw[d];simp only[blk,CK]),fun i x B=>?_⟩;obtain⟨I,K⟩:=YN xs lo hi i B;obtain⟨p,z,q,F⟩:=y (lo+i) x I;refine⟨p,z,fun j u C=>?_,F⟩;have:=t _ u (q j u C);rw[DW]
   rwa [ABA,ABI]at this
 ·left;have:(sub xs lo hi).length=0:=by rw[f];omega
  exact So this
theorem Hk {w:World} {base:Nat} {et:TypeId} {sz n:Nat} {s:Value} {xs:List Value} (h:w.ownsRow base et sz s n xs):plc s=s:=by
 rcases h.2 with ⟨rfl,_⟩|⟨g,cap,a,rfl,_⟩<;>rfl
theorem O9 {V:Vw} {et:TypeId} {e:Ty} {xs:List e.den} {loc:Value} (h:A3 V (.arr et e xs) loc):plc loc=loc:=by
 obtain⟨_,_,h,_⟩:=h;exact Hk h
theorem YO {V:Vw} {O':Nat→Prop} (h:∀b,¬V.O b→¬O' b) {et:TypeId} {e:Ty} {xs:List e.den} {loc v:Value} {lo hi:Nat} (n:∀b,blk loc=some b→¬O' b)
  (a:A3 V (.arr et e xs) loc) (c:DE (plc loc) e.size lo hi v):Bo V.w O' (.slice e) [v] (sub xs lo hi):=by
 rw[O9 a]at c;obtain⟨l,cells,m,k⟩:=a;exact oL n l m (fun i x hi=>let ⟨d,h1,f,g⟩:=k i x hi;⟨d,h1,f,g.mono (fun b _ j=>h b j) (fun _ _ _=>rfl)⟩) c
theorem Fb {w:World} {et:TypeId} {sz n:Nat} {s:Value} {xs:List Value} (h:w.ownsRow 0 et sz s n xs):DE s sz 0 n s:=by
 rcases h.2 with ⟨rfl,hn⟩|⟨g,cap,a,rfl,_,_,b,_⟩
 ·exact⟨none,0,0,rfl,by omega,by omega,none,0,by rw[hn],by omega,fun _=>⟨rfl,rfl⟩,fun h=>by omega⟩
 ·exact⟨some ⟨g,0,none⟩,n,cap,rfl,by omega,by omega,some ⟨g,0,none⟩,cap,by simp,by omega,fun _=>⟨rfl,rfl⟩,fun _=>by simp[Mo]⟩
theorem WY {V:Vw} {O':Nat→Prop} (c:∀b,¬V.O b→¬O' b) {et:TypeId} {e:Ty} {xs:List e.den} {u:Value} (d:∀b,blk u=some b→¬O' b) (h:Ny V et e xs u):Bo V.w O' (.slice e) [u] xs:=by
 have h1:=h;obtain⟨_,_,a,_⟩:=h1;have:=YO (V:=V) c d (et:=et) (e:=e) (xs:=xs) (loc:=u) h (by rw[Hk a];exact Fb a)
 rwa [He]at this
theorem Kt {w:World} {base:Nat} {et:TypeId} {sz n m c:Nat} {a:Option Addr} {xs:List Value} (h:w.ownsRow base et sz (.slice a m c) n xs):m=n:=by
 rcases h.2 with ⟨b,hn⟩|⟨g,cap,d,b,_⟩
 ·injection b;omega
 ·injection b
theorem YP {V:Vw} {g:TypeId} {e:Ty} {xs:List e.den} {u:Value} {a:Option Addr} {len c:Nat} (f:Lay u (.slice a len c)) (h:Ny V g e xs u):len=xs.length:=by
 obtain⟨_,k,b,_⟩:=h;rcases f with rfl|⟨rfl,i,d⟩
 ·exact Kt b
 ·injection d with _ j
  have:=Kt b;omega
theorem wE {V:Vw} {j:TypeId} {e:Ty} {xs:List e.den} {u v:Value} (g:Lay u v) (h:Ny V j e xs u):∃(a:Option Addr) (c:Nat),v=.slice a xs.length c:=by
 rcases g with rfl|⟨rfl,a,rfl⟩
 ·obtain⟨_,k,f,_⟩:=h;obtain⟨_,_,_,_,_,_,b,d,i,_⟩:=Fb f;exact⟨b,d,i⟩
 ·have hn:=YP (.inr ⟨rfl,a,rfl⟩) h;exact⟨a,0,by rw[←hn]⟩
theorem oM {V:Vw} {O':Nat→Prop} {f:TypeId} {e:Ty} {xs:List e.den} {u v:Value} (b:Lay u v) (h:Ny V f e xs u) (c:Bo V.w O' (.slice e) [u] xs):Bo V.w O' (.slice e) [v] xs:=by
 rcases b with rfl|⟨rfl,a,rfl⟩
 ·exact c
 ·have hn:=YP (.inr ⟨rfl,a,rfl⟩) h;have d:xs=[]:=So hn.symm;subst d;exact⟨a,0,rfl,No _,by simp,.inl rfl⟩
theorem OA {V:Vw} {O':Nat→Prop} (g:∀b,¬V.O b→¬O' b) {et p:TypeId} {k e:Ty} {xs:List (k.den×List e.den)} {o:Value} {ins cells:List Value} (h:LY V et p k e xs none o ins cells)
  (n:∀(i b:Nat) (u:Value),ins[i]?=some u→blk u=some b→¬O' b):Dp V.w O' (.agg (.prod k (.slice e))) cells xs:=by
 intro i x hi;have j:i<ins.length:=by rw[h.len];exact(Ro.1 hi).1
 obtain⟨c1,v,h1,d,a⟩:=h.row i x ins[i] hi (An j);rcases a with ⟨a,_⟩|⟨_,l,f⟩
 ·cases a
 ·have m:=oM l f (WY g (fun b c=>n i b _ (An j) c) f);refine⟨c1++[v],by simp[Ty.size,d.length],h1,?_⟩;exact(⟨c1,[v],rfl,d.mono (fun b _ c=>g b c) (fun _ _ _=>rfl),m⟩:Bo V.w O' (.prod k (.slice e)) _ x)
theorem Zn {V:Vw} {O':Nat→Prop} (f:∀b,¬V.O b→¬O' b) {et l:TypeId} {k e:Ty} {xs:List (k.den×List e.den)} {loc v:Value} {lo hi:Nat} (a:∀b,bk loc b→¬O' b)
  (j:A3 V (.nest et l k e xs none) loc) (c:DE (plc loc) (k.size+1) lo hi v):Bo V.w O' (.slice (.agg (.prod k (.slice e)))) [v] (sub (α:=k.den×List e.den) xs lo hi):=by
 obtain⟨o,ins,cells,hs,h⟩:=j;rw[hs.plc]at c;exact oL (e:=.agg (.prod k (.slice e))) (xs:=xs) (fun b g=>a b (hs.bk.2 (A7.2 (.inl g)))) h.max h.own (OA f h fun i b u h1 d=>a b (hs.bk.2 (A7.2 (.inr ⟨i,u,h1,d⟩)))) c
theorem WZ {V:Vw} {p:Obj} {loc:Value} {a:Option Addr} {m c:Nat} (d:A3 V p loc) (h:plc loc=.slice a m c):∃et sz cells,V.w.ownsRow 0 et sz (.slice a m c) m cells∧m≤AO:=by
 cases p with
 | arr et e xs =>
  have h1:=O9 d;obtain⟨r,cells,i,_⟩:=d;rw[h1]at h;subst h;have j:m=xs.length:=by
   rcases i.2 with ⟨f,hn⟩|⟨g,cap,q,f,_⟩
   ·injection f;omega
   ·injection f
  subst j;exact⟨et,_,cells,i,r⟩
 | nest et u k e xs s =>
  obtain⟨o,ins,cells,hs,n⟩:=d;rw[hs.plc]at h;subst h;have i:=n.own;have j:m=xs.length:=by
   rcases i.2 with ⟨f,hn⟩|⟨g,cap,q,f,_⟩
   ·injection f;omega
   ·injection f
  subst j;exact⟨et,_,cells,i,n.max⟩
 | box et st fs=>obtain⟨_,b,cs,rfl,_⟩:=d;cases h
 | mapo k v l=>obtain⟨b,_,_,rfl,_⟩:=d;cases h
 | frame B fs=>obtain⟨rfl,_⟩:=d;cases h
 | loop L=>obtain⟨b,rfl,_⟩:=d;cases h
 | itr x A y z t=>obtain⟨b,rfl,_⟩:=d;cases h
 | dfr=>obtain⟨b,rfl,_⟩:=d;cases h
theorem Mp {V V':Vw} (c:V'.w=V.w) (d:V'.O=V.O) {et f:TypeId} {k e:Ty} {xs:List (k.den×List e.den)} {h:Option Nat} {loc:Value} (s:A3 V (.nest et f k e xs h) loc):A3 V' (.nest et f k e xs h) loc:=by
 obtain⟨o,ins,cells,q,a⟩:=s;refine⟨o,ins,cells,q,a.max,a.len,by rw[c];exact a.own,fun i x u h1 g=>?_,a.dist,a.out⟩;obtain⟨c1,v,j,l,b⟩:=a.row i x u h1 g;refine⟨c1,v,j,by rw[c,d];exact l,?_⟩;rcases b with b|⟨b,m,r,t,n,p⟩
 ·exact .inl b
 ·exact .inr ⟨b,m,r,t,by rw[c];exact n,by rw[c,d];exact p⟩
theorem r9 {V V':Vw} (d:V'.w=V.w) (g:∀b,¬V.O b→¬V'.O b) {et j:TypeId} {k e:Ty} {xs:List (k.den×List e.den)} {h:Option Nat} {loc:Value} (C:A3 V (.nest et j k e xs h) loc):A3 V' (.nest et j k e xs h) loc:=by
 obtain⟨o,ins,cells,A,a⟩:=C;refine⟨o,ins,cells,A,a.max,a.len,by rw[d];exact a.own,fun i x u h1 q=>?_,a.dist,a.out⟩;obtain⟨c1,v,r,s,c⟩:=a.row i x u h1 q;refine⟨c1,v,r,s.mono (fun b _ f=>g b f) (fun b _ _=>by rw[d]),?_⟩;rcases c with c|⟨c,t,B,D,y,z⟩
 ·exact .inl c
 ·refine .inr ⟨c,t,B,D,by rw[d];exact y,fun i x hi=>?_⟩;obtain⟨l,m,n,p⟩:=z i x hi;exact⟨l,m,n,p.mono (fun b _ f=>g b f) (fun b _ _=>by rw[d])⟩
theorem Sp {V:Vw} {et g:TypeId} {k e:Ty} {xs:List (k.den×List e.den)} {h:Option Nat} {loc v:Value} {c:Array Value} {i:Nat} {z:k.den×List e.den}
  (d:A3 V (.nest et g k e xs h) loc) (f:loc=.tuple c) (a:c[i+1]?=some v):xs[i]?=some (xs.getD i z):=by
 obtain⟨o,ins,cells,hs,h⟩:=d;obtain rfl:=hs.tup f;have a:ins[i]?=some v:=by simpa using a
 have b:i<xs.length:=by rw[←h.len];exact(Ro.1 a).1
 rw[An b,AS,An b];rfl
theorem A2m {V:Vw} {t:Obj} {loc u v:Value} {w:Array Value} {i len c:Nat} {a:Option Addr} (d:A3 V t loc) (z:loc=.tuple w) (j:w[i+1]?=some u) (n:Lay u v) (s:v=.slice a len c):len≤AO:=by
 subst z;cases t with
 | arr et e xs =>
  obtain⟨E,cells,y,_⟩:=d;rcases y.2 with ⟨r,_⟩|⟨g,cap,B,r,_⟩<;>cases r
 | nest et G k e xs D =>
  obtain⟨o,ins,cells,hs,q⟩:=d;obtain rfl:=hs.tup rfl;have j:ins[i]?=some u:=by simpa using j
  have x:i<xs.length:=by rw[←q.len];exact(Ro.1 j).1
  obtain⟨c1,N,h1,C,m⟩:=q.row i xs[i] u (An x) j;rcases m with ⟨_,m⟩|⟨_,_,p⟩
  ·subst s;rcases n with f|⟨_,A,f⟩
   ·rw[m]at f;injection f;omega
   ·injection f;omega
  ·rw[s]at n;rw[YP n p];exact p.1
 | box et st fs=>obtain⟨_,b,cs,h,_⟩:=d;cases h
 | mapo k v l=>obtain⟨b,_,_,h,_⟩:=d;cases h
 | frame M fs=>obtain⟨h,_⟩:=d;cases h
 | loop L=>obtain⟨b,h,_⟩:=d;cases h
 | itr H K I J F=>obtain⟨b,h,_⟩:=d;cases h
 | dfr=>obtain⟨b,h,_⟩:=d;cases h
theorem oO {V:Vw} {O':Nat→Prop} (g:∀b,¬V.O b→¬O' b) {et r:TypeId} {k e:Ty} {xs:List (k.den×List e.den)} {loc v:Value} {f:Array Value} {i:Nat} {x:k.den×List e.den} (n:∀b,bk loc b→¬O' b) {u:Value}
  (m:A3 V (.nest et r k e xs none) loc) (p:loc=.tuple f) (a:f[i+1]?=some u) (l:Lay u v) (q:xs[i]?=some x):Bo V.w O' (.slice e) [v] x.2:=by
 obtain⟨o,ins,cells,hs,h⟩:=m;obtain rfl:=hs.tup p;have a:ins[i]?=some u:=by simpa using a
 obtain⟨c1,y,h1,s,c⟩:=h.row i x u q a;rcases c with ⟨c,_⟩|⟨_,t,d⟩
 ·cases c
 ·exact oM l d (WY g (fun b j=>n b (hs.bk.2 (A7.2 (.inr ⟨i,_,a,j⟩)))) d)
section
variable {V:Vw} {O':Nat→Prop} {l:Bool} {σ:St}
theorem Zo (p:∀b,¬V.O b→¬O' b) (s:l=true→∀b,¬O' b) (q:∀n o,lk n σ.objs=some o→A3 V o (V.ρ n))
  {t:Ty} {x:AV} {d:t.den} {cs:List Value} (h:EO l σ t x=some d) (j:NS V x cs):Bo V.w O' t cs d:=by
 unfold EO at h;split at h
 ·rename_i u C;have:=BA h;injection this with h1 f
  subst h1;cases f;have j:Bo V.w V.O u cs C:=j;exact j.mono (fun b _ F=>p b F) (fun _ _ _=>rfl)
 ·rename_i e n D lo hi;split at h
  ·rename_i r;obtain⟨z,rfl⟩:=r;have m:=z;obtain⟨v,rfl,_,E,g⟩:=j;cases hn:lk n σ.objs with
   | none=>rw[hn]at h;simp[Oz]at h
   | some o =>
    rw[hn]at h;cases o with
    | box et st fs=>simp[Oz]at h
    | mapo k v l=>simp[Oz]at h
    | frame Q fs=>simp[Oz]at h
    | loop L=>simp[Oz]at h
    | itr K P M N J=>simp[Oz]at h
    | dfr=>simp[Oz]at h
    | nest et I k y xs m =>
     cases m with
     | some i=>simp[Oz]at h
     | none =>
      simp only[Oz]at h;obtain⟨h1,f⟩:=Bi h;subst h1;cases f;exact Zn p (fun b _=>s z b) (q n _ hn) g
    | arr et y xs =>
     simp only[Oz]at h;obtain⟨h1,f⟩:=Bi h;subst h1;cases f;exact YO p (fun b _=>s m b) (q n _ hn) g
  ·cases h
 ·rename_i e n D i len;split at h
  ·rename_i r;obtain⟨m,rfl⟩:=r;obtain⟨v,rfl,_,E,S,a,c,R,B,A,G,_⟩:=j;cases hn:lk n σ.objs with
   | none=>rw[hn]at h;simp[O2]at h
   | some o =>
    rw[hn]at h;unfold O2 at h;split at h
    ·rename_i et I k y xs H;cases H;obtain⟨h1,f⟩:=Bi h;subst h1;cases f;exact oO p (fun b _=>s m b) (q n _ hn) B A G (Sp (q n _ hn) B A)
    ·cases h
  ·cases h
 ·obtain⟨v,rfl,_,g⟩:=j;have g:v=_:=g;subst g;cases h;exact⟨none,0,rfl,by simp,by simp[AO],.inl rfl⟩
 ·cases h
theorem wF (i:∀b,¬V.O b→¬O' b) (k:l=true→∀b,¬O' b) (j:∀n o,lk n σ.objs=some o→A3 V o (V.ρ n)) :
  ∀ {fs:List AV} {t:Ty} {d:t.den} {cs:List Value},J4 l σ fs t=some d→DX V fs cs→Bo V.w O' t cs d
 | [],t,d,cs,h,f=>by simp[J4]at h
 | [x],t,d,cs,h,f=>by
  obtain⟨c1,c2,rfl,h1,c⟩:=f;have c:c2=[]:=c;subst c;rw[AAa];simp only[J4]at h;exact Zo i k j h h1
 | x :: y :: r,t,d,cs,h,f=>by
  obtain⟨c1,c2,rfl,h1,c⟩:=f;cases t;case prod a b =>
   simp only[J4]at h;cases e:EO l σ a x with
   | none=>rw[e]at h;simp[LV]at h
   | some m =>
    cases g:J4 l σ (y :: r) b with
    | none=>rw[e,g]at h;simp[LV]at h
    | some p =>
     rw[e,g]at h;simp only[LV]at h;cases h;exact⟨c1,c2,rfl,Zo i k j e h1,wF i k j g c⟩
  all_goals simp[J4]at h
theorem A2n {t:Ty} {x:AV} {d:t.den} {v:Value} (h:EO l σ t x=some d) (hp:∀u i,x≠.p u i) (e:B0 V x v):NS V x [v]∧t.wrap [v]=v:=by
 unfold EO at h;split at h
 ·exact absurd rfl (hp _ _)
 ·obtain⟨b,a,m,c,_,_,_,f,g,rfl,_⟩:=e;refine⟨⟨_,rfl,rfl,?_⟩,rfl⟩;exact⟨b,a,m,c,by assumption,by assumption,by assumption,f,g,rfl,by assumption⟩
 ·obtain⟨b,o,a,c,u,h1,j,k,rfl⟩:=e;exact⟨⟨_,rfl,rfl,b,o,a,c,u,h1,j,k,rfl⟩,rfl⟩
 ·have n:v=_:=e;subst n;exact⟨⟨_,rfl,rfl,rfl⟩,rfl⟩
 ·cases h
theorem KA (f:∀b,¬V.O b→¬O' b) (j:l=true→∀b,¬O' b) (i:∀n o,lk n σ.objs=some o→A3 V o (V.ρ n))
  {t:Ty} {x:AV} {d:t.den} {v:Value} (h:Kk l σ t x=some d) (g:B0 V x v):BX V.w O' t v d:=by
 unfold Kk at h;split at h
 ·rename_i t fs;obtain⟨cs,rfl,m⟩:=g;exact⟨cs,(wF f j i h m:Bo V.w O' t cs d),rfl⟩
 ·by_cases hp:∃u a,x=.p u a
  ·obtain⟨u,a,rfl⟩:=hp;have h:BO t ⟨u,a⟩=some d:=by simpa only[EO] using h
   have:=BA h;injection this with h1 c
   subst h1;cases c;exact BX.mono (fun b _ k=>f b k) (fun _ _ _=>rfl) g
  ·obtain⟨h1,c⟩:=A2n h (fun u a e=>hp ⟨u,a,e⟩) g;exact⟨[v],Zo f j i h h1,c.symm⟩
end
end
section
open Go Go.RowKit
def YQ:Ty→Value→Bool
 | .agg _,.agg _=>true
 | .agg _,_=>false
 | .prod _ _,_=>false
 | _,.agg _=>false
 | _,_=>true
def Mq (P : Program) (id : TypeId) (a b : IntKind) : Prop := ∃ c d : Field, P.underlying id = some (.struct #[c, d]) ∧ ((c.name != "_") = true ∧ (d.name != "_") = true) ∧ (c.offset = 0 ∧ d.offset = 1) ∧ (P.underlying c.type = some (.int a) ∧ P.underlying d.type = some (.int b)) ∧ P.stoodInHeld id = false
def TZ (P:Program) (id:TypeId):Ty→Nat→Prop
 | .agg (.prod (.int a) (.int b)),0=>Mq P id a b
 | _,_=>True
def isI (k:IntKind):Option TypeDesc→Bool
 | some (.int a)=>k==a
 | _=>false
theorem YR {k:IntKind} {d:Option TypeDesc} (h:isI k d=true):d=some (.int k):=by
 unfold isI at h;split at h
 ·rw[tO.1 h]
 ·cases h
def A48 (P:Program) (id:TypeId) (a b:IntKind):Option TypeDesc→Bool
 | some (.struct ⟨[c, d]⟩) => (c.name != "_") && (d.name != "_") && c.offset == 0 && d.offset == 1 && isI a (P.underlying c.type) && isI b (P.underlying d.type) && P.stoodInHeld id == false
 | _=>false
def wG (P:Program) (id:TypeId):Ty→Nat→Bool
 | .agg (.prod (.int a) (.int b)),0=>A48 P id a b (P.underlying id)
 | _,_=>true
theorem wH {P:Program} {id:TypeId} {t:Ty} {el:Nat} (h:wG P id t el=true):TZ P id t el:=by
 unfold wG at h;unfold TZ;split at h
 ·unfold A48 at h;split at h
  ·rename_i a b hu;simp only[AT,tO]at h;obtain⟨⟨⟨⟨⟨⟨h1,c⟩,d⟩,e⟩,f⟩,g⟩,i⟩:=h;exact⟨a,b,hu,⟨h1,c⟩,⟨d,e⟩,⟨YR f,YR g⟩,i⟩
  ·cases h
 ·trivial
def ED (P:Program) (tb:Tb) (id:TypeId) (ti:TI):Prop :=
 (((∀p∈ti.offs,p.2≠0)∧0<ti.bytes∧TZ P id ti.ty ti.el)∧∃(i:TypeInfo) (z:Value),P.info? id=some i∧i.size=ti.ty.size∧i.bytes=ti.bytes∧i.zero=some z∧z.cells=ti.ty.zero.toArray) ∧
 match ti.ty with
 | .int k=>P.underlying id=some (.int k)
 | .bool=>P.underlying id=some .bool
 | .str=>P.underlying id=some .string
 | .slice e=>P.underlying id=some (.slice ti.el)∧∃te,lk ti.el tb.ty=some te∧te.ty=e
 | .agg _=>(∃fs:Array Field,ti.el=0∧P.underlying id=some (.struct fs)∧ti.offs.map some=fs.toList.map fun f=>(P.info? f.type).map fun i=>(f.offset,i.size)) ∨
   ∃n e i,ti.el≠0∧P.underlying id=some (.array n e)∧P.info? e=some i∧ti.offs=(List.range n).map fun k=>(k*i.size,i.size)
 | .prod _ _=>False
 | .ref j=>∃d,P.underlying id=some d∧(match d with|.struct _=>False|.array _ _=>False|_=>True) ∧
   ∀k e,j=2→ti.offs=[(k,e)]→d=.map k e∧∃(a te:TI) (z:Value),lk k tb.ty=some a∧lk e tb.ty=some te∧(∃i,P.info? e=some i∧i.zero=some z)∧z.cells=te.ty.zero.toArray∧YQ te.ty z=true
def DF (P:Program) (tb:Tb):Prop:=∀id ti,lk id tb.ty=some ti→ED P tb id ti
def wI:Value→Value→Bool
 | .int k n,.int c d=>k==c&&n==d
 | .bool a,.bool b=>a==b
 | .string s,.string e=>s.size==0&&e.size==0
 | .slice none 0 0,.slice none 0 0=>true
 | .pointer none,.pointer none=>true
 | .nilFunc,.nilFunc=>true
 | .map none,.map none=>true
 | _,_=>false
theorem wJ {a b:Value} (h:wI a b=true):a=b:=by
 unfold wI at h;split at h
 ·simp only[AT,tO]at h;obtain⟨rfl,rfl⟩:=h;rfl
 ·simp only[tO]at h;rw[h]
 ·rename_i s c;simp only[AT,tO]at h;have:s=c:=by
   obtain⟨⟨l⟩⟩:=s;obtain⟨⟨l'⟩⟩:=c;have h1:l.length=0:=h.1;have d:l'.length=0:=h.2;rw[So h1,So d]
  rw[this]
 ·rfl
 ·rfl
 ·rfl
 ·rfl
 ·cases h
def OB:List Value→List Value→Bool
 | [],[]=>true
 | a :: l,b :: r=>wI a b&&OB l r
 | _,_=>false
theorem Qs:∀ {l r:List Value},OB l r=true→l=r
 | [],[],_=>rfl
 | a :: l,b :: r,h=>by
  simp only[OB,AT]at h;rw[wJ h.1,Qs h.2]
 | [],_ :: _,h=>by simp[OB]at h
 | _ :: _,[],h=>by simp[OB]at h
def A49 (ty:Ty) (bytes:Nat):Option TypeInfo→Bool
 | some i=>i.size==ty.size&&i.bytes==bytes&&(match i.zero with|some z=>OB z.cells.toList ty.zero|none=>false)
 | none=>false
def A5M (offs:List (Nat×Nat)) (n:Nat):Option TypeInfo→Bool
 | some i=>offs==(List.range n).map fun k=>(k*i.size,i.size)
 | none=>false
def A4a (e:Nat) (te:Option TI):Option TypeInfo→Bool
 | some i=>match i.zero,te with|some z,some te=>OB z.cells.toList te.ty.zero&&YQ te.ty z|_,_=>false
 | none=>false
def A4A (P:Program) (tb:Tb) (j:Nat) (d:TypeDesc):List (Nat×Nat)→Bool
 | [(k,e)]=>j != 2||(match d with|.map b a=>b==k&&a==e&&(lk k tb.ty).isSome&&A4a e (lk e tb.ty) (P.info? e)|_=>false)
 | _=>true
theorem A2o {P:Program} {tb:Tb} {j:Nat} {d:TypeDesc} {offs:List (Nat×Nat)} (h:A4A P tb j d offs=true):∀k e,j=2→offs=[(k,e)]→d=.map k e∧∃(b te:TI) (z:Value),lk k tb.ty=some b∧lk e tb.ty=some te∧(∃i,P.info? e=some i∧i.zero=some z)∧z.cells=te.ty.zero.toArray∧YQ te.ty z=true:=by
 rintro k e rfl rfl;simp only[A4A,bne_self_eq_false,ACA]at h;split at h
 ·simp only[AT,tO]at h;obtain⟨⟨⟨rfl,rfl⟩,c⟩,a⟩:=h;refine⟨rfl,?_⟩;obtain⟨b,g⟩:=ABa.1 c;unfold A4a at a;split at a
  ·rename_i i hi;split at a
   ·rename_i z te l f;simp only[AT]at a;exact⟨b,te,z,g,f,⟨i,hi,l⟩,by rw[←Qs a.1],a.2⟩
   ·cases a
  ·cases a
 ·cases h
def A5N (P:Program) (tb:Tb) (ti:TI):Ty→Option TypeDesc→Bool
 | .int k,some (.int a)=>k==a
 | .bool,some .bool=>true
 | .str,some .string=>true
 | .slice e,some (.slice el)=>el==ti.el&&(match lk ti.el tb.ty with|some te=>decide (te.ty=e)|none=>false)
 | .agg _,some (.struct fs)=>ti.el==0&&ti.offs.map some==fs.toList.map fun f=>(P.info? f.type).map fun i=>(f.offset,i.size)
 | .agg _,some (.array n e)=>ti.el != 0&&A5M ti.offs n (P.info? e)
 | .ref _,some (.struct _)=>false
 | .ref _,some (.array _ _)=>false
 | .ref j,some d=>A4A P tb j d ti.offs
 | _,_=>false
def tiB (P:Program) (tb:Tb) (id:TypeId) (ti:TI):Bool:=((ti.offs.all fun p=>p.2 != 0)&&(decide (0<ti.bytes)&&wG P id ti.ty ti.el))&&A49 ti.ty ti.bytes (P.info? id)&&A5N P tb ti ti.ty (P.underlying id)
theorem A4B {P:Program} {tb:Tb} {id:TypeId} {ti:TI} (h:tiB P tb id ti=true):ED P tb id ti:=by
 simp only[tiB,AT]at h;obtain⟨⟨⟨h0,f,g⟩,h1⟩,a⟩:=h;refine⟨⟨⟨fun p hp=>by simpa using (GO.1 h0) p hp,by simpa using f,wH g⟩,?_⟩,?_⟩
 ·unfold A49 at h1;split at h1
  ·rename_i i hi;simp only[AT,tO]at h1;obtain⟨⟨b,c⟩,d⟩:=h1;split at d
   ·rename_i z k;exact⟨i,z,hi,b,c,k,by rw[←Qs d]⟩
   ·cases d
  ·cases h1
 ·generalize hu:P.underlying id=u at a;generalize ti.ty=t at a;cases t<;>cases u<;>simp only[A5N]at a<;>try(cases a;done)
  all_goals
   rename_i u;cases u<;>simp only at a<;>try(cases a;done)
  ·have:=tO.1 a;subst this;rfl
  ·rfl
  ·rfl
  ·simp only[AT,tO]at a;obtain⟨b,c⟩:=a;split at c
   ·rename_i te j;exact⟨by rw[b],te,j,by simpa using c⟩
   ·cases c
  ·rename_i n e;simp only[AT,ABY]at a;obtain⟨b,a⟩:=a;unfold A5M at a;split at a
   ·rename_i i hi;exact .inr ⟨_,_,i,b,rfl,hi,by simpa using a⟩
   ·cases a
  ·simp only[AT,tO]at a;exact .inl ⟨_,a.1,rfl,a.2⟩
  all_goals exact⟨_,rfl,trivial,A2o a⟩
theorem A2p {P:Program} {tb:Tb} (h:(tb.ty.all fun p=>tiB P tb p.1 p.2)=true):DF P tb:=fun id ti hi=>by
 rw[GO]at h;exact A4B (h _ (F2 hi))
def Ty.isAgg:Ty→Bool
 | .agg _=>true
 | .int _=>false
 | .bool=>false
 | .str=>false
 | .slice _=>false
 | .prod _ _=>false
 | .ref _=>false
section
variable {P:Program} {tb:Tb} {id:TypeId} {ti:TI} (w:World)
theorem Lx {i:TypeInfo} (h:P.info? id=some i):(typeInfo id).run P w=.ok i w:=by simp[typeInfo,h]
theorem A2q (h:ED P tb id ti):(isAgg id).run P w=.ok ti.ty.isAgg w:=by
 obtain⟨_,a⟩:=h;cases c:ti.ty<;>rw[c]at a<;>simp only at a;case agg =>
  rcases a with ⟨fs,_,hu,_⟩|⟨n,e,_,_,hu,_⟩<;>simp[isAgg,dO hu,Ty.isAgg]
 case slice=>simp[isAgg,dO a.1,Ty.isAgg]
 case ref k =>
  obtain⟨d,hu,b,_⟩:=a;cases d<;>first|exact b.elim|simp[isAgg,dO hu,Ty.isAgg]
 all_goals simp[isAgg,dO a,Ty.isAgg]
theorem IG (h:ED P tb id ti):(sizeOf id).run P w=.ok ti.ty.size w:=by
 obtain⟨⟨_,i,z,h1,a,_⟩,_⟩:=h;simp[sizeOf,Lx w h1,a]
theorem ED.noprod (h:ED P tb id ti) {a b:Ty}:ti.ty≠.prod a b:=by
 intro e;have:=h.2;rw[e]at this;exact this
theorem Zp (h:ED P tb id ti) {ad:Addr} {cs:List Value} (d:cs.length=ti.ty.size) (e:∀(j:Nat) (u:Value),cs[j]?=some u→w.cell? (ad.add j)=some u) :
  (loadVar id ad).run P w=.ok (ti.ty.wrap cs) w:=by
 have i:=fun a b=>h.noprod (a:=a) (b:=b);simp only[loadVar,AAK,A2q w h,AAb];cases f:ti.ty;case prod a b=>exact absurd f (i a b)
 case agg u =>
  have g:ti.ty.size=cs.length:=d.symm;simp only[Ty.isAgg,AAH,AAK,IG w h,AAb,g,run_loadCells_list w ad cs e,Ty.wrap];rfl
 all_goals
  rw[f]at d;obtain⟨c,rfl⟩:=AAV.1 d;have h0:=e 0 c rfl;rw[Mo]at h0;simp[Ty.isAgg,Ty.wrap,h0]
theorem El (h:ED P tb id ti) {ad:Addr} {cs:List Value} (b:cs.length=ti.ty.size) (a:∀(j:Nat) (u:Value),cs[j]?=some u→w.cell? (ad.add j)=some u) :
  (Instr.loadAt id (.pointer (some ad))).run P w=.ok (ti.ty.wrap cs) w:=by
 simp[Instr.loadAt,Instr.sureAddr,Zp w h b a]
end
end
end Go.Proofs.YtdapahgnpbehbaaGreat.Fw
