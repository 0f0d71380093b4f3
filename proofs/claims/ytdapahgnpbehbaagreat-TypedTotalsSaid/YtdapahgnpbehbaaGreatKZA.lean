/- Typed values, how they lie in memory, the executor's words and the table of types: what they mean. -/
import Derived.ProofKit
import Derived.Orders
import Derived.Laws.AppendOwn
import Derived.Laws.MakeOwn
import Derived.Laws.OwnMore
set_option linter.unusedVariables false
set_option linter.unusedSimpArgs false
namespace Go.Proofs.YtdapahgnpbehbaaGreat.Fw
section
open Go
abbrev AS:=@List.getD_eq_getElem?_getD
abbrev AT:=@List.getElem?_eq_getElem
abbrev An:=@Bool.and_eq_true
abbrev As:=@List.take_of_length_le
abbrev At:=@if_neg
abbrev BY:=@if_pos
abbrev By:=@decide_eq_true_eq
abbrev DO:=@Classical.byContradiction
abbrev Do:=@List.all_eq_true
abbrev GO:=@List.mem_cons
abbrev IF:=@List.drop_eq_nil_of_le
abbrev IN:=@Nat.zero_le
abbrev IS:=@Int.ofNat_lt
abbrev If:=@List.mem_map
abbrev Is:=@Option.map_eq_some_iff
abbrev NO:=@Nat.le_refl
abbrev No:=@List.length_cons
abbrev OF:=@Bool.not_eq_true'
abbrev ON:=@List.mem_append
abbrev OR:=@List.length_append
abbrev OS:=@List.drop_eq_getElem_cons
abbrev Of:=@List.any_eq_true
abbrev On:=@decide_eq_false_iff_not
abbrev QB:=@List.getElem?_eq_some_iff
abbrev SH:=@List.length_take
abbrev TO:=@List.foldl_cons
abbrev To:=@Nat.le_trans
abbrev aS:=@Go.run_underlying
abbrev aT:=@List.eq_nil_of_length_eq_zero
abbrev bY:=@List.mem_cons_of_mem
abbrev dO:=@Array.getElem?_eq_some_iff
abbrev f5:=@List.take_length
abbrev f7:=@Int.toNat_natCast
abbrev gO:=@List.getElem?_eq_none
abbrev iF:=@List.length_singleton
abbrev iN:=@Bool.or_eq_true
abbrev iS:=@List.mem_range
abbrev nO:=@List.length_map
abbrev oF:=@Int.ofNat_le
abbrev oN:=@Int.natCast_nonneg
abbrev oR:=@List.pairwise_iff_getElem
abbrev oS:=@List.getElem?_append_left
abbrev tO:=@List.map_cons
abbrev AA0:=@List.getElem?_take
abbrev AA1:=@beq_iff_eq
abbrev AA2:=@Nat.mul_le_mul_right
abbrev AA3:=@List.getElem?_append_right
abbrev AA4:=@List.mem_filter
abbrev AA5:=@List.nodup_cons
abbrev AA6:=@Go.Result.andThen_ok
abbrev AA7:=@List.getElem_mem
abbrev AA8:=@List.ext_getElem
abbrev AA9:=@Array.getElem?_eq_getElem
abbrev AAa:=@List.append_nil
abbrev AAb:=@List.mem_of_mem_take
abbrev AAc:=@List.range_succ
abbrev AAd:=@List.length_set
abbrev AAe:=@List.mem_of_getElem?
abbrev AAf:=@List.mem_iff_getElem
abbrev AAg:=@List.mem_iff_getElem?
abbrev AAh:=@List.mem_singleton
abbrev AAi:=@List.getElem?_drop
abbrev AAj:=@List.drop_zero
abbrev AAk:=@List.getElem?_append
abbrev AAl:=@Bool.or_eq_false_iff
abbrev AAm:=@List.getElem?_cons_zero
abbrev AAn:=@List.filter_cons
abbrev AAo:=@List.length_take_le
abbrev AAp:=@Int.tdiv_eq_ediv_of_nonneg
abbrev AAq:=@Option.some.injEq
abbrev AAr:=@List.pairwise_map
abbrev AAs:=@List.getElem?_set
abbrev AAt:=@List.append_assoc
abbrev AAu:=@Nat.lt_of_lt_of_le
abbrev AAv:=@List.length_filter_le
abbrev AAw:=@List.map_congr_left
abbrev AAx:=@List.map_append
abbrev AAy:=@List.getElem?_map
abbrev AAz:=@Bool.and_eq_false_iff
abbrev AAA:=@List.take_succ_cons
abbrev AAB:=@List.getElem?_replicate
abbrev AAC:=@if_true
abbrev AAD:=@List.prefix_refl
abbrev AAE:=@Option.isNone_iff_eq_none
abbrev AAF:=@List.nodup_append
abbrev AAG:=@List.mem_of_mem_drop
abbrev AAH:=@Go.Sem.run_bind
abbrev AAI:=@Bool.not_eq_false'
abbrev AAJ:=@Bool.false_eq_true
abbrev AAK:=@beq_eq_false_iff_ne
abbrev AAL:=@Nat.zero_add
abbrev AAM:=@List.length_nil
abbrev AAN:=@List.all_eq_false
abbrev AAO:=@Int.not_lt
abbrev AAP:=@Nat.succ_mul
abbrev AAQ:=@List.length_eq_one_iff
abbrev AAS:=@List.take_zero
abbrev AAT:=@List.mem_or_eq_of_mem_set
abbrev AAU:=@if_false
abbrev AAV:=@List.length_drop
abbrev AAW:=@Int.toNat_of_nonneg
abbrev AAX:=@congrArg
abbrev AAY:=@Option.map_some
abbrev AAZ:=@List.filter_append
abbrev AB0:=@List.all_cons
abbrev AB1:=@List.pairwise_append
abbrev AB2:=@List.countP_cons
abbrev AB3:=@List.cons_append
abbrev AB4:=@Nat.sub_self
abbrev AB5:=@Int.le_trans
abbrev AB7:=@Bool.eq_iff_iff
abbrev AB8:=@Option.isSome_iff_exists
abbrev AB9:=@List.pairwise_cons
abbrev ABa:=@List.take_append_of_le_length
abbrev ABb:=@List.mem_append_left
abbrev ABc:=@decide_eq_true
abbrev ABd:=@Nat.mul_le_mul_left
abbrev ABe:=@Nat.min_eq_left
abbrev ABf:=@List.nil_append
abbrev ABg:=@List.cons.injEq
abbrev ABh:=@Array.length_toList
abbrev ABi:=@List.length_pos_of_mem
abbrev ABj:=@Int.tmod_eq_emod_of_nonneg
abbrev ABk:=@List.getElem_map
abbrev ABl:=@List.drop_length
abbrev ABm:=@List.take_append_drop
abbrev ABn:=@List.mem_cons_self
abbrev ABo:=@List.getElem_range
abbrev ABp:=@ByteArray.size_append
abbrev ABq:=@List.take_take
abbrev ABr:=@List.mem_take_iff_getElem
abbrev ABs:=@Array.mapM_eq_mapM_toList
abbrev ABt:=@BitVec.testBit_toNat
abbrev ABu:=@Nat.lt_trichotomy
abbrev ABv:=@List.length_erase_of_mem
abbrev ABw:=@List.foldl_append
abbrev ABx:=@List.any_append
abbrev ABy:=@List.all_append
abbrev ABA:=@List.getElem?_range
abbrev ABC:=@decide_eq_false
abbrev ABD:=@List.map_map
abbrev ABE:=@List.filter_nil
abbrev ABF:=@Nat.add_assoc
abbrev ABG:=@List.flatMap_cons
abbrev ABH:=@Int.fdiv_eq_ediv_of_nonneg
abbrev ABI:=@List.mem_of_find?_eq_some
abbrev ABJ:=@List.drop_drop
abbrev ABK:=@Nat.add_mul
abbrev ABL:=@Option.some.inj
abbrev ABM:=@Nat.le_antisymm
abbrev ABN:=@List.set_cons_succ
abbrev ABO:=@List.find?_eq_none
abbrev ABP:=@Bool.true_and
abbrev ABQ:=@List.getElem?_set_self
abbrev ABR:=@not_true_eq_false
abbrev ABS:=@bne_iff_ne
abbrev ABT:=@List.length_range
abbrev ABU:=@List.ext_getElem?
abbrev ABV:=@Bool.eq_false_iff
abbrev ABW:=@Array.toList_eraseIdxIfInBounds
abbrev ABX:=@Nat.zero_mul
abbrev ABY:=@List.set_append_right
abbrev ABZ:=@List.mem_append_right
abbrev AC0:=@List.map_nil
abbrev AC1:=@List.eq_nil_iff_forall_not_mem
abbrev AC2:=@List.countP_le_length
abbrev AC3:=@Int.toNat_lt
abbrev AC4:=@Option.getD_some
abbrev AC5:=@List.exists_mem_of_length_pos
abbrev AC8:=@List.mem_erase_of_ne
abbrev AC9:=@Go.World.cell?_of_block
abbrev ACa:=@Bool.not_true
abbrev ACb:=@Nat.and_le_left
abbrev ACc:=@List.drop_succ_cons
abbrev ACd:=@Int.le_refl
abbrev ACe:=@Option.isSome_some
abbrev ACf:=@Nat.sub_zero
abbrev ACg:=@Nat.min_self
abbrev ACh:=@Nat.lt_of_le_of_lt
abbrev ACi:=@Nat.le_of_eq
abbrev ACj:=@List.zip_cons_cons
abbrev ACk:=@List.set_cons_zero
abbrev ACl:=@List.prefix_append
abbrev ACm:=@List.mem_filterMap
abbrev ACn:=@List.countP_append
abbrev ACo:=@Int.lt_of_le_of_lt
abbrev ACp:=@Option.some_or
abbrev ACr:=@Bool.not_false
abbrev ACs:=@Option.ext
abbrev ACv:=@Bool.not_eq_false
abbrev ACw:=@Prod.mk.injEq
abbrev ACx:=@List.sum_cons
abbrev ACy:=@Bool.false_or
abbrev ACz:=@Nat.lt_succ_self
abbrev ACA:=@Nat.le_of_not_lt
abbrev ACB:=@List.range'_succ
abbrev ACC:=@List.perm_middle
abbrev ACD:=@List.getElem_set
abbrev ACE:=@List.drop_append
abbrev ACF:=@Nat.le_of_lt
abbrev ACG:=@List.find?_some
abbrev ACH:=@Nat.mod_lt
abbrev ACI:=@Array.ext'
abbrev ACJ:=@Ne.symm
inductive Ty where
 | int (k:IntKind)
 | bool
 | str
 | slice (e:Ty)
 | prod (a b:Ty)
 | agg (t:Ty)
 
 | ref (k:Nat)
 deriving DecidableEq
def KH:Nat→Value
 | 0=>.pointer none
 | 1=>.nilFunc
 | _=>.map none
@[reducible] def Ty.den:Ty→Type
 | .int _=>Int
 | .bool=>Bool
 | .str=>ByteArray
 | .slice e=>List e.den
 | .prod a b=>a.den×b.den
 | .agg t=>t.den
 | .ref _=>Unit
def Ty.size:Ty→Nat
 | .prod a b=>a.size+b.size
 | .agg t=>t.size
 | .int _=>1
 | .bool=>1
 | .str=>1
 | .slice _=>1
 | .ref _=>1
def Ty.dflt:(t:Ty)→t.den
 | .int _=>(0:Int)
 | .bool=>false
 | .str=>ByteArray.empty
 | .slice _=>[]
 | .prod a b=>(a.dflt,b.dflt)
 | .agg t=>t.dflt
 | .ref _=>()
def Ty.zero:Ty→List Value
 | .int k=>[.int k 0]
 | .bool=>[.bool false]
 | .str=>[.string ByteArray.empty]
 | .slice _=>[.slice none 0 0]
 | .prod a b=>a.zero++b.zero
 | .agg t=>t.zero
 | .ref k=>[KH k]
def Ty.wrap:Ty→List Value→Value
 | .agg _,cs=>.agg cs.toArray
 | .prod _ _,cs=>.agg cs.toArray
 | .int _,cs=>cs.headD undef
 | .bool,cs=>cs.headD undef
 | .str,cs=>cs.headD undef
 | .slice _,cs=>cs.headD undef
 | .ref _,cs=>cs.headD undef
def K9 (k:IntKind) (n:Int):Prop:=k.min≤n∧n≤k.max
def AO:Nat:=140737488355328
def Br (w:World) (O:Nat→Prop):(t:Ty)→List Value→t.den→Prop
 | .int k,cs,d=>cs=[.int k d]∧K9 k d
 | .bool,cs,d=>cs=[.bool d]
 | .str,cs,d=>cs=[.string d]∧ByteArray.size d≤AO
 | .slice e,cs,d=>∃(a:Option Addr) (c:Nat),cs=[.slice a (List.length d) c]∧List.length d≤c∧List.length d≤AO ∧
   (d=[]∨∃ad:Addr,a=some ad∧¬O ad.block ∧
    ∀(i:Nat) (x:e.den),d[i]?=some x→∃f:List Value,f.length=e.size∧(∀(j:Nat) (v:Value),f[j]?=some v→w.cell? (ad.add (i*e.size+j))=some v)∧Br w O e f x)
 | .prod a b,cs,d=>∃c1 c2:List Value,cs=c1++c2∧Br w O a c1 d.1∧Br w O b c2 d.2
 | .agg t,cs,d=>Br w O t cs d
 | .ref k,cs,_=>cs=[KH k]
def BW (w:World) (O:Nat→Prop) (t:Ty) (v:Value) (d:t.den):Prop:=∃cs,Br w O t cs d∧v=t.wrap cs
theorem CG (a:Addr) (n:Nat):(a.add n).block=a.block:=by unfold Addr.add;split<;>rfl
theorem DP (a:Addr) (i j:Nat):(a.add i).add j=a.add (i+j):=by
 unfold Addr.add;by_cases hi:i=0<;>by_cases b:j=0<;>simp[hi,b,ABF]
theorem MS (a:Addr):a.add 0=a:=rfl
theorem Y7 (g j:Nat):(⟨g,0,none⟩:Addr).add j=⟨g,j,none⟩:=by
 unfold Addr.add;split<;>simp_all
theorem Jg (g i j:Nat):(⟨g,i,none⟩:Addr).add j=⟨g,i+j,none⟩:=by
 unfold Addr.add;split<;>simp_all
theorem Ty.size_pos:∀t:Ty,0<t.size
 | .int _=>by simp[Ty.size]
 | .bool=>by simp[Ty.size]
 | .str=>by simp[Ty.size]
 | .slice _=>by simp[Ty.size]
 | .ref _=>by simp[Ty.size]
 | .prod a b=>by have:=a.size_pos;simp[Ty.size];omega
 | .agg t=>by simpa[Ty.size] using t.size_pos
theorem Br.length {w:World} {O:Nat→Prop}:∀ {t:Ty} {cs:List Value} {d:t.den},Br w O t cs d→cs.length=t.size
 | .int _,_,_,h=>by obtain⟨rfl,_⟩:=h;rfl
 | .bool,_,_,h=>by have h:_=_:=h;subst h;rfl
 | .str,_,_,h=>by obtain⟨rfl,_⟩:=h;rfl
 | .slice _,_,_,h=>by obtain⟨_,_,rfl,_⟩:=h;rfl
 | .ref _,_,_,h=>by have h:_=_:=h;subst h;rfl
 | .prod a b,_,_,h=>by
  obtain⟨c1,c2,rfl,h1,c⟩:=h;simp[Ty.size,Br.length h1,Br.length c]
 | .agg t,_,_,h=>by
  have h:Br w O t _ _:=h;simpa[Ty.size] using Br.length h
theorem Br.one {w:World} {O:Nat→Prop}:∀ {t:Ty} {cs:List Value} {d:t.den},Br w O t cs d→∀v∈cs,v.oneCell'=true
 | .int _,_,_,h=>by obtain⟨rfl,_⟩:=h;simp[Value.oneCell']
 | .bool,_,_,h=>by have h:_=_:=h;subst h;simp[Value.oneCell']
 | .str,_,_,h=>by obtain⟨rfl,_⟩:=h;simp[Value.oneCell']
 | .slice _,_,_,h=>by obtain⟨_,_,rfl,_⟩:=h;simp[Value.oneCell']
 | .ref k,_,_,h=>by
  have h:_=[KH k]:=h;subst h;match k with
  | 0=>simp[Value.oneCell',KH]
  | 1=>simp[Value.oneCell',KH]
  | _+2=>simp[Value.oneCell',KH]
 | .prod a b,_,_,h=>by
  obtain⟨c1,c2,rfl,h1,e⟩:=h;intro v c;rcases ON.1 c with c|c
  ·exact Br.one h1 v c
  ·exact Br.one e v c
 | .agg t,_,_,h=>by
  have h:Br w O t _ _:=h;exact Br.one h
theorem Br.mono {w w':World} {O O':Nat→Prop} (f:∀b,b<w.heap.size→¬O b→¬O' b) (g:∀b,b<w.heap.size→¬O b→w'.heap[b]?=w.heap[b]?) :
  ∀ {t:Ty} {cs:List Value} {d:t.den},Br w O t cs d→Br w' O' t cs d
 | .int _,_,_,h=>h
 | .bool,_,_,h=>h
 | .str,_,_,h=>h
 | .ref _,_,_,h=>h
 | .slice e,_,d,h=>by
  obtain⟨a,c,rfl,h1,l,m⟩:=h;refine⟨a,c,rfl,h1,l,?_⟩;rcases m with m|⟨ad,rfl,o,u⟩
  ·exact .inl m
  ·by_cases p:d=[]
   ·exact .inl p
   ·have s:ad.block<w.heap.size:=by
     obtain⟨x,r,rfl⟩:∃x r,d=x :: r:=List.exists_cons_of_ne_nil p;obtain⟨k,q,n,_⟩:=u 0 x rfl;have hp:=e.size_pos;have:k[0]?=some (k[0]'(by omega)):=AT (by omega);have:=block_lt_of_cell (n 0 _ this)
     rwa [CG]at this
    refine .inr ⟨ad,rfl,f _ s o,fun i x hi=>?_⟩;obtain⟨k,q,n,hr⟩:=u i x hi;refine⟨k,q,fun j v y=>?_,Br.mono f g hr⟩;rw[AC9 (w:=w) (w':=w')]
    ·exact n j v y
    ·rw[CG];exact g _ s o
 | .prod a b,_,_,h=>by
  obtain⟨c1,c2,rfl,h1,l⟩:=h;exact⟨c1,c2,rfl,Br.mono f g h1,Br.mono f g l⟩
 | .agg t,_,_,h=>by
  have h:Br w O t _ _:=h;exact(Br.mono f g h:Br w' O' t _ _)
theorem BW.mono {w w':World} {O O':Nat→Prop} (c:∀b,b<w.heap.size→¬O b→¬O' b) (e:∀b,b<w.heap.size→¬O b→w'.heap[b]?=w.heap[b]?)
  {t:Ty} {v:Value} {d:t.den} (h:BW w O t v d):BW w' O' t v d :=
 let ⟨cs,h1,a⟩:=h
 ⟨cs,h1.mono c e,a⟩
theorem Br.zero (w:World) (O:Nat→Prop):∀t:Ty,Br w O t t.zero t.dflt
 | .int k=>⟨rfl,by cases k<;>exact⟨by decide,by decide⟩⟩
 | .bool=>rfl
 | .str=>⟨rfl,by simp[Ty.dflt,AO]⟩
 | .slice _=>⟨none,0,rfl,by simp[Ty.dflt],by simp[Ty.dflt,AO],.inl rfl⟩
 | .ref _=>rfl
 | .prod a b=>⟨_,_,rfl,Br.zero w O a,Br.zero w O b⟩
 | .agg t=>(Br.zero w O t:Br w O t _ _)
end
section
open Go
structure PV where
 t:Ty
 d:t.den
def BO (t:Ty) (p:PV):Option t.den:=if h:p.t=t then some (h▸p.d) else none
theorem EW (t:Ty) (d:t.den):BO t ⟨t,d⟩=some d:=by simp[BO]
def Gh:(t:Ty)→Nat→t.den→Option PV
 | .prod a _,0,d=>some ⟨a,d.1⟩
 | .prod _ b,k+1,d=>Gh b k d.2
 | .int k,0,d=>some ⟨.int k,d⟩
 | .bool,0,d=>some ⟨.bool,d⟩
 | .str,0,d=>some ⟨.str,d⟩
 | .slice e,0,d=>some ⟨.slice e,d⟩
 | .agg t,0,d=>some ⟨.agg t,d⟩
 | .ref k,0,d=>some ⟨.ref k,d⟩
 | _,_,_=>none
def Ld:(t:Ty)→Nat→t.den→PV→Option t.den
 | .prod a _,0,d,x=>(BO a x).map fun y=>(y,d.2)
 | .prod _ b,k+1,d,x=>(Ld b k d.2 x).map fun y=>(d.1,y)
 | .int k,0,_,x=>BO (.int k) x
 | .bool,0,_,x=>BO .bool x
 | .str,0,_,x=>BO .str x
 | .slice e,0,_,x=>BO (.slice e) x
 | .agg t,0,_,x=>BO (.agg t) x
 | .ref k,0,_,x=>BO (.ref k) x
 | _,_,_,_=>none
def Jh:Ty→Nat→Option Nat
 | .prod _ _,0=>some 0
 | .prod a b,k+1=>(Jh b k).map (a.size + ·)
 | .int _,0=>some 0
 | .bool,0=>some 0
 | .str,0=>some 0
 | .slice _,0=>some 0
 | .agg _,0=>some 0
 | .ref _,0=>some 0
 | _,_=>none
def VX:Ty→Nat→Option Ty
 | .prod a _,0=>some a
 | .prod _ b,k+1=>VX b k
 | .int k,0=>some (.int k)
 | .bool,0=>some .bool
 | .str,0=>some .str
 | .slice e,0=>some (.slice e)
 | .agg t,0=>some (.agg t)
 | .ref k,0=>some (.ref k)
 | _,_=>none
def QD:List Nat→(t:Ty)→t.den→Option PV
 | [],t,d=>some ⟨t,d⟩
 | k :: r,.agg t,d=>match Gh t k d with
  | some pv=>QD r pv.t pv.d
  | none=>none
 | _ :: _,_,_=>none
def R6:List Nat→(t:Ty)→t.den→PV→Option t.den
 | [],t,_,x=>BO t x
 | k :: r,.agg t,d,x=>match Gh t k d with
  | some pv=>match R6 r pv.t pv.d x with
   | some y=>Ld t k d ⟨pv.t,y⟩
   | none=>none
  | none=>none
 | _ :: _,_,_,_=>none
def LX:List Nat→Ty→Option Nat
 | [],_=>some 0
 | k :: r,.agg t=>match Jh t k,VX t k with
  | some o,some u=>(LX r u).map (o + ·)
  | _,_=>none
 | _ :: _,_=>none
inductive AV where
 
 | p (t:Ty) (d:t.den)
 
 | raw (v:Value)
 
 | sr (n:Nat) (e:Ty) (lo hi:Nat)
 
 | ep (n:Nat) (e:Ty) (i:Nat) (path:List Nat) (off:Nat)
 
 | pc (e:Ty) (d:List e.den)
 
 | ip (t:Ty) (d:t.den)
 
 | bp (n:Nat) (path:List Nat) (off:Nat)
 | fn (f:FuncId)
 
 | clo (f:FuncId) (ns:List Nat)
 
 | mp (n:Nat)
 
 | yl (n:Nat)
 
 | nin (n:Nat) (e:Ty) (i len:Nat)
 
 | ag (l:List AV)
 | tup (l:List AV)
 
 | top
inductive Obj where
 | arr (et:TypeId) (e:Ty) (xs:List e.den)
 | box (et:TypeId) (st:Bool) (fs:List AV)
 
 | mapo (k v:Ty) (l:List (k.den×v.den))
 
 | itr (k v:Ty) (l:List (k.den×v.den)) (left:List Nat) (cur:Option Nat)
 
 | nest (et iet:TypeId) (k e:Ty) (xs:List (k.den×List e.den)) (h:Option Nat)
 
 | frame (tm:Array Value) (fs:List (Nat×AV))
 
 | loop (L:Go.Loop)
 
 | dfr
structure St where
 env:List (Nat×AV)
 objs:List (Nat×Obj)
def lk {α:Type}:Nat→List (Nat×α)→Option α
 | _,[]=>none
 | k,(j,v) :: r=>if k=j then some v else lk k r
def del {α:Type}:Nat→List (Nat×α)→List (Nat×α)
 | _,[]=>[]
 | k,(j,v) :: r=>if k=j then del k r else (j,v) :: del k r
def upd {α:Type}:Nat→α→List (Nat×α)→List (Nat×α)
 | _,_,[]=>[]
 | k,u,(j,v) :: r=>if k=j then (j,u) :: upd k u r else (j,v) :: upd k u r
def sub {α:Type} (xs:List α) (lo hi:Nat):List α:=(xs.drop lo).take (hi-lo)
theorem HQ {α:Type} (xs:List α):sub xs 0 xs.length=xs:=by simp[sub]
structure TI where
 ty:Ty
 offs:List (Nat×Nat):=[]
 el:TypeId:=0
 bytes:Nat
inductive RV where
 | p (t:Ty) (d:t.den)
 | own (et:TypeId) (e:Ty) (xs:List e.den)
@[reducible] def KI:List Ty→Type
 | []=>Unit
 | t :: r=>t.den×KI r
def Ty.flat:Ty→Bool
 | .slice _=>false
 | .prod a b=>a.flat&&b.flat
 | .agg t=>t.flat
 | .int _=>true
 | .bool=>true
 | .str=>true
 | .ref _=>true
def RV.flat:RV→Bool
 | .p t _=>t.flat
 | .own _ _ _=>false
structure Ac where
 ins:List Ty
 lend:Bool:=false
 pre:KI ins→Prop
 out:KI ins→List RV
structure Tb where
 ty:List (Nat×TI)
 fns:List (Nat×Ac)
 
 pure:List Nat:=[]
 
 nests:List (Nat×TypeId):=[]
 
 live:List Nat:=[]
def inB (n:Nat):List Nat→Bool
 | []=>false
 | m :: r=>if n=m then true else inB n r
def Ga:Value→AV
 | .int k n=>if k.min≤n∧n≤k.max then .p (.int k) n else .raw (.int k n)
 | .bool b=>.p .bool b
 | .string s=>if s.size≤AO then .p .str s else .raw (.string s)
 | v=>.raw v
def Ae (σ:St):Operand→Option AV
 | .tmp t=>lk t σ.env
 | .const v=>some (Ga v)
 | .func f=>some (.fn f)
 | .global _=>none
def OL (e:Ty) (lo hi:Nat):Option Obj→Option (List e.den)
 | some (.arr _ a xs)=>BO (.slice e) ⟨.slice a,sub xs lo hi⟩
 | some (.nest _ _ k a xs none)=>BO (.slice e) ⟨.slice (.agg (.prod k (.slice a))),sub xs lo hi⟩
 | _=>none
def OM (e:Ty) (i:Nat):Option Obj→Option (List e.den)
 | some (.nest _ _ k a xs none)=>BO (.slice e) ⟨.slice a,(xs.getD i (k.dflt,[])).2⟩
 | _=>none
def EI (l:Bool) (σ:St):(t:Ty)→AV→Option t.den
 | t,.p u d=>BO t ⟨u,d⟩
 | .slice e,.sr n a lo hi=>if l=true∧a=e then OL e lo hi (lk n σ.objs) else none
 | .slice e,.nin n a i _=>if l=true∧a=e then OM e i (lk n σ.objs) else none
 | .slice _,.raw (.slice none 0 0)=>some []
 | _,_=>none
def LA {α β:Type}:Option α→Option β→Option (α×β)
 | some a,some b=>some (a,b)
 | _,_=>none
def Ji (l:Bool) (σ:St):List AV→(t:Ty)→Option t.den
 | [],_=>none
 | [x],t=>EI l σ t x
 | x :: y :: r,.prod a b=>LA (EI l σ a x) (Ji l σ (y :: r) b)
 | _ :: _ :: _,_=>none
def KJ (l:Bool) (σ:St):(t:Ty)→AV→Option t.den
 | .agg t,.ag fs=>Ji l σ fs t
 | t,x=>EI l σ t x
def AX (n:Nat):List Nat→Bool
 | []=>false
 | m :: r=>if n=m then true else AX n r
theorem AZ (n:Nat):∀l:List Nat,AX n l=true↔n∈l
 | []=>by simp[AX]
 | m :: r=>by
  simp only[AX,GO];split
  ·rename_i h;simp[h]
  ·rename_i h;simp[h,AZ n r]
mutual
def AV.fgt (hs:List Nat):AV→AV
 | .sr m e lo hi=>if AX m hs=true then .top else .sr m e lo hi
 | .ep m e i path off=>if AX m hs=true then .top else .ep m e i path off
 | .nin m e i len=>if AX m hs=true then .top else .nin m e i len
 | .bp m path off=>if AX m hs=true then .top else .bp m path off
 | .mp m=>if AX m hs=true then .top else .mp m
 | .yl m=>if AX m hs=true then .top else .yl m
 | .clo f ns=>if (ns.any fun n=>AX n hs)=true then .top else .clo f ns
 | .ag l=>.ag (AV.fgts hs l)
 | .tup l=>.tup (AV.fgts hs l)
 | .p t d=>.p t d
 | .pc e d=>.pc e d
 | .raw v=>.raw v
 | .ip t d=>.ip t d
 | .fn f=>.fn f
 | .top=>.top
def AV.fgts (hs:List Nat):List AV→List AV
 | []=>[]
 | x :: r=>AV.fgt hs x :: AV.fgts hs r
end
def Bi (hs:List Nat):List (Nat×AV)→List (Nat×AV)
 | []=>[]
 | (s,x) :: r=>(s,x.fgt hs) :: Bi hs r
def Obj.fgt (hs:List Nat):Obj→Obj
 | .arr et e xs=>.arr et e xs
 | .box et i fs=>.box et i (AV.fgts hs fs)
 | .mapo k v l=>.mapo k v l
 | .nest et b k e xs h=>.nest et b k e xs h
 | .frame j fs=>.frame j (Bi hs fs)
 | .loop L=>.loop L
 | .itr c g d f a=>.itr c g d f a
 | .dfr=>.dfr
def Ad (a hs:List Nat):List (Nat×Obj)→List (Nat×Obj)
 | []=>[]
 | (n,o) :: r=>if AX n a=true then Ad a hs r else (n,o.fgt hs) :: Ad a hs r
mutual
def AV.trn (n:Nat) (hs:List Nat):AV→AV
 | .nin m e i len=>if m=n∨AX m hs=true then .top else .nin m e i len
 | .sr m e lo hi=>if AX m hs=true then .top else .sr m e lo hi
 | .ep m e i path off=>if AX m hs=true then .top else .ep m e i path off
 | .bp m path off=>if AX m hs=true then .top else .bp m path off
 | .mp m=>if AX m hs=true then .top else .mp m
 | .yl m=>if AX m hs=true then .top else .yl m
 | .clo f ns=>if (ns.any fun n=>AX n hs)=true then .top else .clo f ns
 | .ag l=>.ag (AV.trns n hs l)
 | .tup l=>.tup (AV.trns n hs l)
 | .p t d=>.p t d
 | .pc e d=>.pc e d
 | .raw v=>.raw v
 | .ip t d=>.ip t d
 | .fn f=>.fn f
 | .top=>.top
def AV.trns (n:Nat) (hs:List Nat):List AV→List AV
 | []=>[]
 | x :: r=>AV.trn n hs x :: AV.trns n hs r
end
def Dk (n:Nat) (hs:List Nat):List (Nat×AV)→List (Nat×AV)
 | []=>[]
 | (s,x) :: r=>(s,x.trn n hs) :: Dk n hs r
def Obj.trn (n:Nat) (hs:List Nat):Obj→Obj
 | .arr et e xs=>.arr et e xs
 | .box et i fs=>.box et i (AV.trns n hs fs)
 | .mapo k v l=>.mapo k v l
 | .nest et b k e xs h=>.nest et b k e xs h
 | .frame j fs=>.frame j (Dk n hs fs)
 | .loop L=>.loop L
 | .itr c g d f a=>.itr c g d f a
 | .dfr=>.dfr
def CR (n:Nat) (hs:List Nat):List (Nat×Obj)→List (Nat×Obj)
 | []=>[]
 | (m,o) :: r=>if AX m (n :: hs)=true then CR n hs r else (m,o.trn n hs) :: CR n hs r
def CY:Option Obj→Bool
 | some (.nest _ _ _ _ _ _)=>true
 | _=>false
def OK (σ:St) (e:Ty):AV→Option (List e.den)
 | .sr n a lo hi=>if CY (lk n σ.objs)=true then none else KJ true σ (.slice e) (.sr n a lo hi)
 | x=>KJ true σ (.slice e) x
end
section
open Go
def Aa (x y:ByteArray):Bool:=x.toList==y.toList
def HJ (x y:ByteArray):Bool:=Op.bytesLess x.toList y.toList
def B6 (op:BinOp) (k:IntKind) (x y:Int):Int :=
 k.wrap (match op with
  | .and=>((BitVec.ofInt k.bits x &&& BitVec.ofInt k.bits y).toNat:Int)
  | .or=>((BitVec.ofInt k.bits x ||| BitVec.ofInt k.bits y).toNat:Int)
  | .xor=>((BitVec.ofInt k.bits x ^^^ BitVec.ofInt k.bits y).toNat:Int)
  | _=>((BitVec.ofInt k.bits x &&& ~~~BitVec.ofInt k.bits y).toNat:Int))
def R7 (k:IntKind) (x y:Int):Int:=k.wrap (x*2 ^ (min y.toNat k.bits))
def VY (k:IntKind) (x y:Int):Int:=x.fdiv (2 ^ (min y.toNat k.bits))
def Y8 (k:IntKind) (a b:Int):BinOp→Prop×AV
 | .add=>(K9 k (a+b),.p (.int k) (a+b))
 | .sub=>(K9 k (a-b),.p (.int k) (a-b))
 | .mul=>(K9 k (a*b),.p (.int k) (a*b))
 | .quo=>(b≠0∧K9 k (a.tdiv b),.p (.int k) (a.tdiv b))
 | .rem=>(b≠0∧K9 k (a.tmod b),.p (.int k) (a.tmod b))
 | .and=>(True,.p (.int k) (B6 .and k a b))
 | .or=>(True,.p (.int k) (B6 .or k a b))
 | .xor=>(True,.p (.int k) (B6 .xor k a b))
 | .andNot=>(True,.p (.int k) (B6 .andNot k a b))
 | .shl=>(False,.top)
 | .shr=>(False,.top)
 | .eql=>(True,.p .bool (a==b))
 | .neq=>(True,.p .bool (a != b))
 | .lss=>(True,.p .bool (decide (a<b)))
 | .leq=>(True,.p .bool (decide (a≤b)))
 | .gtr=>(True,.p .bool (decide (b<a)))
 | .geq=>(True,.p .bool (decide (b≤a)))
def Su (a b:ByteArray):BinOp→Prop×AV
 | .add=>(a.size+b.size≤AO,.p .str (a++b))
 | .eql=>(True,.p .bool (Aa a b))
 | .neq=>(True,.p .bool (!Aa a b))
 | .lss=>(True,.p .bool (HJ a b))
 | .leq=>(True,.p .bool (HJ a b||Aa a b))
 | .gtr=>(True,.p .bool (!(HJ a b||Aa a b)))
 | .geq=>(True,.p .bool (!HJ a b))
 | _=>(False,.top)
def tZ (op:BinOp) (k:IntKind) (a:Int) (c:IntKind) (b:Int):Prop×AV :=
 match op with
 | .shl=>(0≤b,.p (.int k) (R7 k a b))
 | .shr=>(0≤b∧K9 k (VY k a b),.p (.int k) (VY k a b))
 | op=>if k=c then Y8 k a b op else (False,.top)
def mI:Ty→AV
 | .slice _=>.raw (.slice none 0 0)
 | .ref k=>.raw (KH k)
 | t=>.p t t.dflt
def mJ:Ty→List AV
 | .prod a b=>mI a :: mJ b
 | t=>[mI t]
def pfs:(t:Ty)→t.den→List AV
 | .prod a b,d=>.p a d.1 :: pfs b d.2
 | .int k,d=>[.p (.int k) d]
 | .bool,d=>[.p .bool d]
 | .str,d=>[.p .str d]
 | .slice e,d=>[.p (.slice e) d]
 | .agg t,d=>[.p (.agg t) d]
 | .ref k,d=>[.p (.ref k) d]
def AV.cells:AV→Nat
 | .p t _=>t.size
 | .ag _=>0
 | .tup _=>0
 | _=>1
def B9:List AV→Nat→Nat
 | _,0=>0
 | [],_+1=>0
 | x :: r,k+1=>x.cells+B9 r k
def Ik (a:Bool) (fs:List AV):List Nat→Option AV
 | []=>if a then some (.ag fs) else fs[0]?
 | [k]=>if a then fs[k]? else none
 | k :: r=>if a then match fs[k]? with
   | some (.p t d)=>(QD r t d).map fun pv=>.p pv.t pv.d
   | _=>none
  else none
def NW (fs:List AV):List Nat→Option Nat
 | []=>some 0
 | k :: r=>match fs[k]? with
  | some (.p t _)=>(LX r t).map (B9 fs k + ·)
  | some _=>if r.isEmpty then some (B9 fs k) else none
  | none=>none
def Ty.cell1:Ty→Bool
 | .agg _=>false
 | .prod _ _=>false
 | .int _=>true
 | .bool=>true
 | .str=>true
 | .slice _=>true
 | .ref _=>true
def CL (ty:Ty):AV→Bool
 | .p t _=>ty=t
 | .ag l=>match ty with|.agg t=>B9 l l.length==t.size|_=>false
 | .tup _=>false
 | .top=>false
 | .raw u=>u.oneCell'&&ty.cell1
 | _=>ty.cell1
def Le (ty:Ty):AV→Bool
 | .top=>ty.cell1
 | x=>CL ty x
def GE (n:Nat):Bool:=decide (1000000≤n)
mutual
def AV.frz (n:Nat) (e:Ty) (xs:List e.den):AV→AV
 | .sr m e' lo hi=>if m=n then (if e'=e then .p (.slice e) (sub xs lo hi) else .top) else .sr m e' lo hi
 | .ep m e' i path off=>if m=n then .top else .ep m e' i path off
 | .nin m e' i len=>if m=n then .top else .nin m e' i len
 | .ag l=>.ag (AV.frzs n e xs l)
 | .tup l=>.tup (AV.frzs n e xs l)
 | .p t d=>.p t d
 | .pc e d=>.pc e d
 | .raw v=>.raw v
 | .ip t d=>.ip t d
 | .bp m path off=>.bp m path off
 | .fn f=>.fn f
 | .clo f ns=>.clo f ns
 | .mp n=>.mp n
 | .yl n=>.yl n
 | .top=>.top
def AV.frzs (n:Nat) (e:Ty) (xs:List e.den):List AV→List AV
 | []=>[]
 | x :: r=>AV.frz n e xs x :: AV.frzs n e xs r
end
def C0 (n:Nat) (e:Ty) (xs:List e.den):List (Nat×AV)→List (Nat×AV)
 | []=>[]
 | (s,x) :: r=>(s,x.frz n e xs) :: C0 n e xs r
def A4 (n:Nat) (e:Ty) (xs:List e.den):List (Nat×Obj)→List (Nat×Obj)
 | []=>[]
 | (m,.arr et a ys) :: r=>(m,.arr et a ys) :: A4 n e xs r
 | (m,.box et j fs) :: r=>(m,.box et j (AV.frzs n e xs fs)) :: A4 n e xs r
 | (m,.mapo k v l) :: r=>(m,.mapo k v l) :: A4 n e xs r
 | (m,.nest et c k a ys h) :: r=>(m,.nest et c k a ys h) :: A4 n e xs r
 | (m,.frame o fs) :: r=>(m,.frame o (C0 n e xs fs)) :: A4 n e xs r
 | (m,.loop L) :: r=>(m,.loop L) :: A4 n e xs r
 | (m,.itr d i f g b) :: r=>(m,.itr d i f g b) :: A4 n e xs r
 | (m,.dfr) :: r=>(m,.dfr) :: A4 n e xs r
def Y9 (n:Nat) (σ:St):Option Obj→St
 | some (.arr _ e xs)=>⟨C0 n e xs σ.env,A4 n e xs (del n σ.objs)⟩
 | some (.nest _ _ k e xs none)=>⟨C0 n (.agg (.prod k (.slice e))) xs σ.env,A4 n (.agg (.prod k (.slice e))) xs (del n σ.objs)⟩
 | _=>σ
def frz (n:Nat) (σ:St):St:=if GE n=true then σ else Y9 n σ (lk n σ.objs)
mutual
def AV.drp (n:Nat):AV→AV
 | .sr m e' lo hi=>if m=n then .top else .sr m e' lo hi
 | .ep m e' i path off=>if m=n then .top else .ep m e' i path off
 | .nin m e' i len=>if m=n then .top else .nin m e' i len
 | .ag l=>.ag (AV.drps n l)
 | .tup l=>.tup (AV.drps n l)
 | .p t d=>.p t d
 | .pc e d=>.pc e d
 | .raw v=>.raw v
 | .ip t d=>.ip t d
 | .bp m path off=>.bp m path off
 | .fn f=>.fn f
 | .clo f ns=>.clo f ns
 | .mp n=>.mp n
 | .yl n=>.yl n
 | .top=>.top
def AV.drps (n:Nat):List AV→List AV
 | []=>[]
 | x :: r=>AV.drp n x :: AV.drps n r
end
def FC (n:Nat):List (Nat×AV)→List (Nat×AV)
 | []=>[]
 | (s,x) :: r=>(s,x.drp n) :: FC n r
def BT (n:Nat):List (Nat×Obj)→List (Nat×Obj)
 | []=>[]
 | (m,.arr et a ys) :: r=>(m,.arr et a ys) :: BT n r
 | (m,.box et i fs) :: r=>(m,.box et i (AV.drps n fs)) :: BT n r
 | (m,.mapo k v l) :: r=>(m,.mapo k v l) :: BT n r
 | (m,.nest et c k a ys h) :: r=>(m,.nest et c k a ys h) :: BT n r
 | (m,.frame j fs) :: r=>(m,.frame j (FC n fs)) :: BT n r
 | (m,.loop L) :: r=>(m,.loop L) :: BT n r
 | (m,.itr d g e f b) :: r=>(m,.itr d g e f b) :: BT n r
 | (m,.dfr) :: r=>(m,.dfr) :: BT n r
mutual
def AV.names:AV→List Nat
 | .sr m _ _ _=>[m]
 | .ag l=>AV.namess l
 | .tup l=>AV.namess l
 | .p _ _=>[]
 | .pc _ _=>[]
 | .raw _=>[]
 | .ip _ _=>[]
 | .bp _ _ _=>[]
 | .ep _ _ _ _ _=>[]
 | .nin _ _ _ _=>[]
 | .fn _=>[]
 | .clo _ _=>[]
 | .mp _=>[]
 | .yl _=>[]
 | .top=>[]
def AV.namess:List AV→List Nat
 | []=>[]
 | x :: r=>x.names++AV.namess r
end
def F6 (σ:St):Option Operand→Option (Option AV)
 | none=>some none
 | some x=>(Ae σ x).map some
def EX (σ:St) (e:Ty):Nat→List (Nat×Operand)→Option (List e.den)
 | _,[]=>some []
 | k,(i,x) :: r=>if i=k then match Ae σ x with
   | some av=>match KJ false σ e av,EX σ e (k+1) r with
    | some y,some ys=>some (y :: ys)
    | _,_=>none
   | none=>none
  else none
def HR:AV→Bool
 | .p (.prod _ _) _=>false
 | .p _ _=>true
 | .raw u=>u.oneCell'
 | .ag _=>false
 | .tup _=>false
 | .top=>false
 | _=>true
def FD (σ:St):Option AV→Option AV→Option AV
 | some (.p t _),some (.ag l)=>(KJ false σ t (.ag l)).map fun d=>.p t d
 | _,x=>x
def DY (σ:St) (offs:List (Nat×Nat)):List AV→List (Nat×Operand)→Option (List AV)
 | fs,[]=>some fs
 | fs,(i,x) :: r=>match FD σ fs[i]? (Ae σ x) with
  | some av=>if HR av=true∧(fs[i]?.map AV.cells)=some av.cells∧offs[i]?=some (B9 fs i,av.cells) then DY σ offs (fs.set i av) r else none
  | none=>none
def Fh (l:Bool) (σ:St):(ts:List Ty)→List Operand→Option (KI ts)
 | [],[]=>some ()
 | t :: ts,x :: xs=>match Ae σ x with
  | some av=>match KJ l σ t av,Fh l σ ts xs with
   | some y,some ys=>some (y,ys)
   | _,_=>none
  | none=>none
 | _,_=>none
def Xl (name:Nat):RV→AV
 | .p t d=>.p t d
 | .own _ e xs=>.sr name e 0 xs.length
def OO (name:Nat):RV→List (Nat×Obj)
 | .p _ _=>[]
 | .own et e xs=>[(name,.arr et e xs)]
def Lf:Nat→List RV→List AV
 | _,[]=>[]
 | n,r :: l=>Xl n r :: Lf (n+10000) l
def Cj:Nat→List RV→List (Nat×Obj)
 | _,[]=>[]
 | n,r :: l=>OO n r++Cj (n+10000) l
def Il (name:Nat):List RV→AV
 | []=>.raw (.tuple #[])
 | [r]=>Xl name r
 | l=>.tup (Lf name l)
def JH:(t:Ty)→t.den→t.den→Bool
 | .int _,a,b=>(a:Int)==b
 | .bool,a,b=>(a:Bool)==b
 | .str,a,b=>(a:ByteArray)==b
 | .prod t u,a,b=>JH t a.1 b.1&&JH u a.2 b.2
 | .agg t,a,b=>JH t a b
 | .slice _,_,_=>false
 | .ref _,_,_=>false
def ZA:Ty→Bool
 | .prod (.int _) (.int _)=>true
 | _=>false
def Sv:Ty→Bool
 | .int _=>true
 | .bool=>true
 | .str=>true
 | .prod _ _=>false
 | .agg t=>ZA t
 | .slice _=>false
 | .ref _=>false
def A5 (a b:Ty) (k:a.den):List (a.den×b.den)→Option b.den
 | []=>none
 | x :: r=>if JH a k x.1=true then some x.2 else A5 a b k r
def Ho (a b:Ty) (k:a.den) (v:b.den):List (a.den×b.den)→List (a.den×b.den)
 | []=>[(k,v)]
 | x :: r=>if JH a k x.1=true then (k,v) :: r else x :: Ho a b k v r
abbrev BX:=Option (Prop×AV×List (Nat×Obj))
def G7 (x:AV) (lo hi:Option AV):BX :=
 match x,lo,hi with
 | .p (.slice e) l,none,some (.p (.int _) h)=>some (0≤h∧h≤l.length,.p (.slice e) (sub l 0 h.toNat),[])
 | .p (.slice e) l,some (.p (.int _) a),none=>some (0≤a∧a≤l.length,.p (.slice e) (sub l a.toNat l.length),[])
 | .p (.slice e) l,some (.p (.int _) a),some (.p (.int _) h)=>some (0≤a∧a≤h∧h≤l.length,.p (.slice e) (sub l a.toNat h.toNat),[])
 | .p .str s,none,some (.p (.int _) h)=>some (0≤h∧h≤s.size,.p .str (s.extract 0 h.toNat),[])
 | .p .str s,some (.p (.int _) a),none=>some (0≤a∧a≤s.size,.p .str (s.extract a.toNat s.size),[])
 | .p .str s,some (.p (.int _) a),some (.p (.int _) h)=>some (0≤a∧a≤h∧h≤s.size,.p .str (s.extract a.toNat h.toNat),[])
 | .sr n e b c,none,some (.p (.int _) h)=>some (0≤h∧h≤(c-b:Nat),.sr n e b (b+h.toNat),[])
 | .sr n e b c,some (.p (.int _) a),none=>some (0≤a∧a≤(c-b:Nat),.sr n e (b+a.toNat) c,[])
 | .sr n e b c,some (.p (.int _) a),some (.p (.int _) h)=>some (0≤a∧a≤h∧h≤(c-b:Nat),.sr n e (b+a.toNat) (b+h.toNat),[])
 | _,_,_=>none
def GF:Option AV→BX
 | some v=>some (True,v,[])
 | none=>none
def Jj:Option AV→Option AV→Option AV→BX
 | some (.p .bool true),x,_=>GF x
 | some (.p .bool false),_,y=>GF y
 | _,_,_=>none
def JI (d:Nat) (t:TypeId):Option TI→BX
 | some ⟨.agg u,_,_,_⟩=>some (True,.bp d [] 0,[(d,.box t true (mJ u))])
 | some ⟨.int k,_,_,_⟩=>some (True,.bp d [] 0,[(d,.box t false [mI (.int k)])])
 | some ⟨.bool,_,_,_⟩=>some (True,.bp d [] 0,[(d,.box t false [mI .bool])])
 | some ⟨.str,_,_,_⟩=>some (True,.bp d [] 0,[(d,.box t false [mI .str])])
 | some ⟨.slice e,_,_,_⟩=>some (True,.bp d [] 0,[(d,.box t false [mI (.slice e)])])
 | some ⟨.ref k,_,_,_⟩=>some (True,.bp d [] 0,[(d,.box t false [mI (.ref k)])])
 | _=>none
def QE (d:Nat) (t:TypeId):Option TI→Option AV→BX
 | some ⟨.agg u,_,_,_⟩,some (.p (.agg a) v)=>if u=a then some (True,.bp d [] 0,[(d,.box t true (pfs a v))]) else none
 | some ⟨.agg u,_,_,_⟩,some (.ag l)=>if l.map AV.cells=(mJ u).map AV.cells then some (True,.bp d [] 0,[(d,.box t true l)]) else none
 | some ⟨.int k,_,_,_⟩,some v=>if CL (.int k) v then some (True,.bp d [] 0,[(d,.box t false [v])]) else none
 | some ⟨.bool,_,_,_⟩,some v=>if CL .bool v then some (True,.bp d [] 0,[(d,.box t false [v])]) else none
 | some ⟨.str,_,_,_⟩,some v=>if CL .str v then some (True,.bp d [] 0,[(d,.box t false [v])]) else none
 | some ⟨.slice e,_,_,_⟩,some v=>if CL (.slice e) v then some (True,.bp d [] 0,[(d,.box t false [v])]) else none
 | some ⟨.ref k,_,_,_⟩,some v=>if CL (.ref k) v then some (True,.bp d [] 0,[(d,.box t false [v])]) else none
 | _,_=>none
def Hq (σ:St) (parts:List (Nat×Operand)):Option TI→BX
 | some ⟨.agg u,offs,_,_⟩=>GF ((DY σ offs (mJ u) parts).map AV.ag)
 | _=>none
def BU (a:Bool) (d:Nat) (n:Nat) (el:TypeId) (e:Ty):Option (List e.den)→BX
 | some xs=>some (xs.length=n∧n*e.size≤16777216,if a then .p (.slice e) xs else .sr d e 0 n,if a then [] else [(d,.arr el e xs)])
 | none=>none
def BQ (a:Bool) (σ:St) (d:Nat) (n:Nat) (parts:List (Nat×Operand)):Option TI→BX
 | some ⟨.slice e,_,el,_⟩=>BU a d n el e (EX σ e 0 parts)
 | _=>none
def JJ (d:Nat) (el b:TypeId) (n:Nat) (k e:Ty):Option k.den→AV→BX
 | some a,.raw (.slice none 0 0)=>some (n=1∧k.size+1≤16777216,.sr d (.agg (.prod k (.slice e))) 0 1,[(d,.nest el b k e [(a,[])] none)])
 | some a,.pc c l=>if c=e then some ((n=1∧k.size+1≤16777216)∧List.length l=0,.sr d (.agg (.prod k (.slice e))) 0 1,[(d,.nest el b k e [(a,[])] none)]) else none
 | _,_=>none
def Hr (σ:St) (d:Nat) (el a:TypeId) (n:Nat):Ty→Option AV→BX
 | .agg (.prod k (.slice e)),some (.ag [x,y])=>JJ d el a n k e (EI false σ k x) y
 | _,_=>none
def Hs (σ:St) (d:Nat) (a:TypeId) (n:Nat):List (Nat×Operand)→Option TI→BX
 | [(0,x)],some ⟨.slice t,_,el,_⟩=>Hr σ d el a n t (Ae σ x)
 | _,_=>none
def Fi (tb:Tb) (σ:St) (d:Nat) (n:Nat) (parts:List (Nat×Operand)) (ti:Option TI):Option TypeId→BX
 | some a=>Hs σ d a n parts ti
 | none=>BQ (inB d tb.pure) σ d n parts ti
def HS (ty:Ty) (fs:List AV) (a:List Nat) (off:Nat):Option AV→BX
 | some v=>if CL ty v=true∧NW fs a=some off then some (True,v,[]) else none
 | none=>none
def EJ (ty:Ty) (a:List Nat) (off:Nat):Option Obj→BX
 | some (.box _ b fs)=>HS ty fs a off (Ik b fs a)
 | _=>none
def HT (ty e:Ty) (a:List Nat) (off:Nat):Option PV→BX
 | some ⟨t,d⟩=>if ty=t∧LX a e=some off then some (True,.p t d,[]) else none
 | none=>none
def HV (ty e:Ty) (i:Nat) (a:List Nat) (off:Nat):Option (List e.den)→BX
 | some ys=>HT ty e a off (QD a e (ys.getD i e.dflt))
 | none=>none
def Lg (n:Nat) (ty:Ty) (i off:Nat) (k e:Ty) (x:k.den×List e.den):List Nat→BX
 | [0]=>if ty=k∧off=0 then some (True,.p k x.1,[]) else none
 | [1]=>if ty=.slice e∧off=k.size then some (True,.nin n e i x.2.length,[]) else none
 | _=>none
def EK (n:Nat) (ty e:Ty) (i:Nat) (b:List Nat) (off:Nat):Option Obj→BX
 | some (.arr _ a xs)=>HV ty e i b off (BO (.slice e) ⟨.slice a,xs⟩)
 | some (.nest _ _ k a xs none)=>if e=.agg (.prod k (.slice a)) then Lg n ty i off k a (xs.getD i (k.dflt,[])) b else none
 | _=>none
def Im (σ:St):Option TI→Option AV→BX
 | some ti,some (.bp n a off)=>EJ ti.ty a off (lk n σ.objs)
 | some ti,some (.ep n e i a off)=>EK n ti.ty e i a off (lk n σ.objs)
 | some ti,some (.ip u v)=>if ti.ty=u then some (True,.p u v,[]) else none
 | _,_=>none
def HW (o:Option (Nat×Nat)) (a:Option Nat):Option PV→BX
 | some ⟨t,d⟩=>if o.map (·.1)=a then some (True,.ip t d,[]) else none
 | none=>none
def R8 (v:Nat→AV):Option (Nat×Nat)→BX
 | some (k,_)=>some (True,v k,[])
 | none=>none
def NB (f:Nat) (o:Option (Nat×Nat)):AV→BX
 | .bp n a off=>R8 (fun k=>.bp n (a++[f]) (off+k)) o
 | .ep n e i a off=>R8 (fun k=>.ep n e i (a++[f]) (off+k)) o
 | .ip (.agg u) v=>HW o (Jh u f) (Gh u f v)
 | _=>none
def GG (f:Nat):Option TI→Option AV→BX
 | some ⟨.agg _,offs,0,_⟩,some x=>NB f offs[f]? x
 | _,_=>none
def Io (offs:List (Nat×Nat)) (x:AV):AV→BX
 | .p (.int _) k=>if 0≤k then NB k.toNat offs[k.toNat]? x else none
 | _=>none
def FE:Option TI→Option AV→Option AV→BX
 | some ⟨.slice e,_,_,_⟩,some (.p (.slice a) l),some (.p (.int _) k)=>if e=a then some (0≤k∧k<l.length,.ip a (l.getD k.toNat a.dflt),[]) else none
 | some ⟨.slice e,_,_,_⟩,some (.sr n a lo hi),some (.p (.int _) k)=>if e=a then some (0≤k∧k<(hi-lo:Nat),.ep n a (lo+k.toNat) [] 0,[]) else none
 | some ⟨.agg _,offs,_+1,_⟩,some x,some i=>Io offs x i
 | _,_,_=>none
def Dl:Option TI→Option AV→Option AV→BX
 | some ⟨.str,_,_,_⟩,some (.p .str s),some (.p (.int _) k)=>some (0≤k∧k<s.size,.p (.int .u8) ((s.data.getD k.toNat 0).toNat:Int),[])
 | _,_,_=>none
def R9:Option AV→BX
 | some (.bp n a off)=>some (True,.bp n a off,[])
 | some (.ip t v)=>some (True,.ip t v,[])
 | some (.ep n e i a off)=>some (True,.ep n e i a off,[])
 | _=>none
def ZB (a b:Bool):BinOp→BX
 | .eql=>some (True,.p .bool (a==b),[])
 | .neq=>some (True,.p .bool (a != b),[])
 | _=>none
def OP:Option TI→Bool
 | some ⟨.bool,_,_,_⟩=>true
 | _=>false
def OQ (op:BinOp) (ti:Option TI):Option AV→Option AV→BX
 | some (.p (.int k) a),some (.p (.int c) b)=>some ((tZ op k a c b).1,(tZ op k a c b).2,[])
 | some (.p .str a),some (.p .str b)=>some ((Su a b op).1,(Su a b op).2,[])
 | some (.p .bool a),some (.p .bool b)=>if OP ti=true then ZB a b op else none
 | _,_=>none
def tQ:UnOp→Option AV→BX
 | .not,some (.p .bool b)=>some (True,.p .bool (!b),[])
 | .neg,some (.p (.int k) a)=>some (K9 k (0-a),.p (.int k) (0-a),[])
 | _,_=>none
def RH (l:List Int):ByteArray:=⟨(l.map fun x=>UInt8.ofNat x.toNat).toArray⟩
def Ip:Option TI→Option TI→Option AV→BX
 | some ⟨.int _,_,_,_⟩,some ⟨.int k,_,_,_⟩,some (.p (.int _) a)=>some (K9 k a,.p (.int k) a,[])
 | some ⟨.slice (.int .u8),_,_,_⟩,some ⟨.str,_,_,_⟩,some (.p (.slice (.int .u8)) l)=>some (True,.p .str (RH l),[])
 | _,_,_=>none
def KK (d:Nat) (el:TypeId) (e:Ty) (n m:Int):Option TI→BX
 | some ti=>some (n=m∧0≤n∧n.toNat*ti.bytes≤AO,.sr d e 0 n.toNat,[(d,.arr el e (List.replicate n.toNat e.dflt))])
 | none=>none
def Ht (tb:Tb) (d:Nat):Option TI→Option AV→Option AV→BX
 | some ⟨.slice e,_,el,_⟩,some (.p (.int .i64) n),some (.p (.int .i64) m)=>KK d el e n m (lk el tb.ty)
 | _,_,_=>none
def Ex:Option TI→Option AV→Option (Option AV)→Option (Option AV)→BX
 | some ⟨.slice e,_,_,_⟩,some (.p (.slice d) l),some a,some h=>if e=d then G7 (.p (.slice d) l) a h else none
 | some ⟨.slice e,_,_,_⟩,some (.sr n d b c),some a,some h=>if e=d then G7 (.sr n d b c) a h else none
 | some ⟨.str,_,_,_⟩,some (.p .str s),some a,some h=>G7 (.p .str s) a h
 | _,_,_,_=>none
def DZ:Option TI→Option AV→Option AV→Option AV→BX
 | some ⟨.slice e,_,_,_⟩,some (.p (.slice c) l),some (.p (.int _) a),some (.p (.int _) b)=>if e=c then some (a=(List.length l:Int)∧b=(List.length l:Int),.pc c l,[]) else none
 | _,_,_,_=>none
def Dw (i:Nat):Option AV→BX
 | some (.tup l)=>GF l[i]?
 | _=>none
def QF:Option TI→Option AV→BX
 | some ⟨.slice _,_,_,_⟩,some (.p (.slice _) l)=>some (True,.p (.int .i64) (l.length:Int),[])
 | some ⟨.slice _,_,_,_⟩,some (.sr _ _ lo hi)=>some (True,.p (.int .i64) ((hi-lo:Nat):Int),[])
 | some ⟨.slice _,_,_,_⟩,some (.nin _ _ _ len)=>some (True,.p (.int .i64) (len:Int),[])
 | some ⟨.slice _,_,_,_⟩,some (.raw (.slice none 0 0))=>some (True,.p (.int .i64) (0:Int),[])
 | some ⟨.str,_,_,_⟩,some (.p .str s)=>some (True,.p (.int .i64) (s.size:Int),[])
 | _,_=>none
def EY (d:Nat) (el:TypeId) (e:Ty):Option TI→Option (List e.den)→BX
 | some ti,some ys=>some (ys.length*ti.bytes≤AO,.sr d e 0 ys.length,[(d,.arr el e ys)])
 | _,_=>none
def Dx (tb:Tb) (σ:St) (d:Nat) (v:AV):Option TI→BX
 | some ⟨.slice e,_,el,_⟩=>EY d el e (lk el tb.ty) (OK σ e v)
 | _=>none
def JK (d:Nat) (el:TypeId) (e:Ty) (l:List e.den):Option TI→Option (List e.den)→BX
 | some ti,some ys=>some (0<ys.length∧(l.length+ys.length)*ti.bytes≤AO,.sr d e 0 (l.length+ys.length),[(d,.arr el e (l++ys))])
 | _,_=>none
def Hu (tb:Tb) (σ:St) (d:Nat) (e:Ty) (l:List e.den) (v:AV):Option TI→BX
 | some ⟨.slice a,_,el,_⟩=>if a=e then JK d el e l (lk el tb.ty) (OK σ e v) else none
 | _=>none
def CS (tb:Tb) (σ:St) (d:Nat) (t u:TypeId):Option AV→Option AV→BX
 | some (.raw (.slice none 0 0)),some v=>if t=u then Dx tb σ d v (lk t tb.ty) else none
 | some (.pc e l),some v=>if t=u then Hu tb σ d e l v (lk t tb.ty) else none
 | _,_=>none
def OT:Option AV→Option AV→BX
 | some (.p (.int k) a),some (.p (.int c) b)=>if k=c then some (True,.p (.int k) (if b<a then b else a),[]) else none
 | _,_=>none
def Hv:Option AV→Option AV→Option AV→BX
 | some (.p (.int k) a),some (.p (.int d) b),some (.p (.int e) c)=>if k=d∧k=e then some (True,.p (.int k) (if c<(if b<a then b else a) then c else (if b<a then b else a)),[]) else none
 | _,_,_=>none
def OU:Option AV→Option AV→BX
 | some (.p (.int k) a),some (.p (.int c) b)=>if k=c then some (True,.p (.int k) (if a<b then b else a),[]) else none
 | _,_=>none
def JL (d:Nat) (a:Ac):Option (KI a.ins)→BX
 | some ds=>if a.lend=false∨(a.out ds).all RV.flat=true then some (a.pre ds,Il d (a.out ds),Cj d (a.out ds)) else none
 | none=>none
def Hw (σ:St) (d:Nat) (xs:List Operand):Option Ac→BX
 | some a=>JL d a (Fh a.lend σ a.ins xs)
 | none=>none
def LB (tb:Tb) (σ:St) (d:Nat) (xs:List Operand):Option AV→BX
 | some (.fn f)=>Hw σ d xs (lk f tb.fns)
 | _=>none
def Ck (tb:Tb) (σ:St) (d:Nat):Builtin→List Operand→List TypeId→BX
 | .len,[x],[t]=>QF (lk t tb.ty) (Ae σ x)
 | .append,[x,y],[t,u]=>CS tb σ d t u (Ae σ x) (Ae σ y)
 | .min,[x,y],[_,_]=>OT (Ae σ x) (Ae σ y)
 | .max,[x,y],[_,_]=>OU (Ae σ x) (Ae σ y)
 | .min,[x,y,z],[_,_,_]=>Hv (Ae σ x) (Ae σ y) (Ae σ z)
 | _,_,_=>none
def HK (σ:St):List Operand→Option (List Nat)
 | []=>some []
 | x :: r=>match Ae σ x,HK σ r with
  | some (.bp n [] 0),some ns=>some (n :: ns)
  | _,_=>none
def NC (f:FuncId):Option (List Nat)→BX
 | some ns=>some (True,.clo f ns,[])
 | none=>none
def VZ (σ:St) (fn:Fn) (first a:List Operand):BX :=
 match fn,first with
 | .func f,[]=>NC f (HK σ a)
 | _,_=>none
def FL (d:Nat):Option TI→Option TI→BX
 | some a,some te=>some (True,.mp d,[(d,.mapo a.ty te.ty [])])
 | _,_=>none
def FM (tb:Tb) (d:Nat):List (Nat×Nat)→BX
 | [(k,e)]=>FL d (lk k tb.ty) (lk e tb.ty)
 | _=>none
def E0 (tb:Tb) (d:Nat):Option TI→BX
 | some ⟨.ref 2,offs,_,_⟩=>FM tb d offs
 | _=>none
def KL (a:Ty) (ok:Bool) (r:Option a.den):BX :=
 if ok then some (True,.tup [.p a (r.getD a.dflt),.p .bool r.isSome],[]) else some (True,.p a (r.getD a.dflt),[])
def JM (a b:Ty) (l:List (a.den×b.den)) (ok:Bool):Option a.den→BX
 | some k=>if Sv a=true then KL b ok (A5 a b k l) else none
 | none=>none
def G8 (tb:Tb) (σ:St) (b d:Nat) (x:AV) (ok:Bool):Option Obj→BX
 | some (.mapo a c l)=>if (lk b tb.ty).map TI.ty=some a∧(lk b tb.ty).map TI.el=some 0∧(lk d tb.ty).map TI.ty=some c then JM a c l ok (KJ false σ a x) else none
 | _=>none
def Hx (tb:Tb) (σ:St) (ok:Bool):Option TI→Option AV→Option AV→BX
 | some ⟨.ref 2,[(k,e)],_,_⟩,some (.mp n),some x=>G8 tb σ k e x ok (lk n σ.objs)
 | _,_,_=>none
def CZ (tb:Tb) (σ:St) (d:Nat) (xs:List Operand) (ts:List TypeId):Callee→BX
 | .builtin b=>Ck tb σ d b xs ts
 | .value g=>LB tb σ d xs (Ae σ g)
 | _=>none
def aq (tb:Tb) (σ:St) (d:Nat):Op→BX
 | .move x=>GF (Ae σ x)
 | .assign x=>GF (Ae σ x)
 | .pick c x y=>Jj (Ae σ c) (Ae σ x) (Ae σ y)
 | .alloc t=>JI d t (lk t tb.ty)
 | .box t x=>QE d t (lk t tb.ty) (Ae σ x)
 | .build t parts=>Hq σ parts.toList (lk t tb.ty)
 | .buildSlice t n parts=>Fi tb σ d n parts.toList (lk t tb.ty) (lk d tb.nests)
 | .load t x=>Im σ (lk t tb.ty) (Ae σ x)
 | .fieldAddr s x f=>GG f (lk s tb.ty) (Ae σ x)
 | .indexAddr t x i=>FE (lk t tb.ty) (Ae σ x) (Ae σ i)
 | .index t x i=>Dl (lk t tb.ty) (Ae σ x) (Ae σ i)
 | .nilCheck x=>R9 (Ae σ x)
 | .binOp op t x y _=>OQ op (lk t tb.ty) (Ae σ x) (Ae σ y)
 | .unOp op _ x=>tQ op (Ae σ x)
 | .convert s t x=>Ip (lk s tb.ty) (lk t tb.ty) (Ae σ x)
 | .makeSlice t l c=>Ht tb d (lk t tb.ty) (Ae σ l) (Ae σ c)
 | .slice t x none (some hi) (some b)=>DZ (lk t tb.ty) (Ae σ x) (Ae σ hi) (Ae σ b)
 | .slice t x lo hi none=>Ex (lk t tb.ty) (Ae σ x) (F6 σ lo) (F6 σ hi)
 | .extract x i=>Dw i (Ae σ x)
 | .call c=>CZ tb σ d c.args.toList c.argTypes.toList c.callee
 | .makeFunc fn first a=>VZ σ fn first.toList a.toList
 | .makeMap t none=>E0 tb d (lk t tb.ty)
 | .lookup t x i ok=>Hx tb σ ok (lk t tb.ty) (Ae σ x) (Ae σ i)
 | _=>none
def ND:AV→Bool
 | .ag _=>false
 | _=>true
def JN (a:Bool) (fs:List AV) (v:AV):List Nat→Option (List AV)
 | []=>if a then match v with
   | .p (.agg u) d=>some (pfs u d)
   | .ag l=>some l
   | _=>none
  else if ND v then some [v] else none
 | [k]=>if a&&ND v then some (fs.set k v) else none
 | k :: r=>if a then match fs[k]?,v with
   | some (.p t d),.p u x=>(R6 r t d ⟨u,x⟩).map fun y=>fs.set k (.p t y)
   | _,_=>none
  else none
abbrev Cz:=Option (Prop×St)
def EZ (σ:St) (n:Nat) (et:TypeId) (c:Bool) (ty:Ty) (fs:List AV) (b:List Nat) (off:Nat) (v:AV):Option AV→Option (List AV)→Cz
 | some u,some a=>if Le ty u=true∧CL ty v=true∧NW fs b=some off∧a.map AV.cells=fs.map AV.cells then some (True,⟨σ.env,upd n (.box et c a) σ.objs⟩) else none
 | _,_=>none
def DF (σ:St) (n:Nat) (ty:Ty) (a:List Nat) (off:Nat) (v:AV):Option Obj→Cz
 | some (.box et b fs)=>EZ σ n et b ty fs a off v (Ik b fs a) (JN b fs v a)
 | _=>none
def E1 (σ:St) (n:Nat) (et:TypeId) (e:Ty) (i:Nat) (a:List Nat) (off:Nat) (ys:List e.den):Option e.den→Cz
 | some z=>if LX a e=some off then some (True,⟨σ.env,upd n (.arr et e (ys.set i z)) σ.objs⟩) else none
 | none=>none
def Dy (σ:St) (n:Nat) (et:TypeId) (ty e:Ty) (i:Nat) (a:List Nat) (off:Nat):Option (List e.den)→Option ty.den→Cz
 | some ys,some w=>E1 σ n et e i a off ys (R6 a e (ys.getD i e.dflt) ⟨ty,w⟩)
 | _,_=>none
def LC (σ:St) (d n:Nat) (et a:TypeId) (k e:Ty) (xs:List (k.den×List e.den)) (i bytes:Nat):Option (List e.den)→Cz
 | some ys=>if (lk d σ.objs).isNone=true∧ys.isEmpty=false then some (((xs.getD i (k.dflt,[])).2.length+ys.length)*bytes≤AO,
   ⟨(d,.sr d e 0 ((xs.getD i (k.dflt,[])).2.length+ys.length)) :: Dk n [] σ.env,(d,.arr a e ((xs.getD i (k.dflt,[])).2++ys)) :: (n,.nest et a k e xs (some i)) :: CR n [] σ.objs⟩) else none
 | none=>none
def NE (σ:St) (d n:Nat) (el:TypeId) (b:Ty) (i:Nat) (v:AV):Option TI→Option Obj→Cz
 | some ti,some (.nest et a k e xs none)=>if b=e∧a=el∧GE n=false then LC σ d n et a k e xs i ti.bytes (OK σ e v) else none
 | _,_=>none
def Lh (tb:Tb) (σ:St) (d n:Nat) (a:Ty) (i:Nat) (v:AV):Option TI→Cz
 | some ⟨.slice e,_,el,_⟩=>if a=e then NE σ d n el e i v (lk el tb.ty) (lk n σ.objs) else none
 | _=>none
def JO (σ:St) (n m:Nat) (et a:TypeId) (k e:Ty) (xs:List (k.den×List e.den)) (i hi:Nat):Option (List e.den)→Cz
 | some ys=>some (hi=ys.length,⟨Dk n [m] σ.env,(n,.nest et a k e (xs.set i ((xs.getD i (k.dflt,[])).1,ys)) none) :: CR n [m] σ.objs⟩)
 | none=>none
def KM (σ:St) (n m:Nat) (et a:TypeId) (k e:Ty) (xs:List (k.den×List e.den)) (i hi:Nat):Option Obj→Cz
 | some (.arr c b ys)=>if c=a∧GE m=false∧GE n=false then JO σ n m et a k e xs i hi (BO (.slice e) ⟨.slice b,ys⟩) else none
 | _=>none
def JP (σ:St) (d n m:Nat) (et b:TypeId) (k e:Ty) (hi a bytes:Nat) (xs:List (k.den×List e.den)):Option (List (k.den×List e.den))→Cz
 | some ys=>some (hi=xs.length∧a=ys.length∧(xs.length+ys.length)*bytes≤AO,
   ⟨(d,.sr n (.agg (.prod k (.slice e))) 0 (xs.length+ys.length)) :: Bi [n,m] σ.env,(n,.nest et b k e (xs++ys) none) :: Ad [n,m] [n,m] σ.objs⟩)
 | none=>none
def KN (σ:St) (d n m:Nat) (et a:TypeId) (k e:Ty) (hi c bytes:Nat) (xs:List (k.den×List e.den)):Option Obj→Cz
 | some (.nest _ f g b ys none)=>if f=a∧n≠m∧GE m=false then JP σ d n m et a k e hi c bytes xs (BO (.slice (.agg (.prod k (.slice e)))) ⟨.slice (.agg (.prod g (.slice b))),ys⟩) else none
 | _=>none
def OV (σ:St) (d n:Nat) (et b:TypeId) (k e:Ty) (hi bytes:Nat) (xs:List (k.den×List e.den)):AV→Cz
 | .sr m _ 0 a=>KN σ d n m et b k e hi a bytes xs (lk m σ.objs)
 | _=>none
def NF (σ:St) (d m:Nat) (el b:TypeId) (k e:Ty) (ys:List (k.den×List e.den)) (a bytes:Nat):Cz :=
 if (lk d σ.objs).isNone=true∧GE m=false then some (a=ys.length∧ys.length*bytes≤AO,
  ⟨(d,.sr d (.agg (.prod k (.slice e))) 0 ys.length) :: Bi [m] σ.env,(d,.nest el b k e ys none) :: Ad [m] [m] σ.objs⟩) else none
def NH (σ:St) (d m:Nat) (el:TypeId) (t:Ty) (a:Nat):Option TI→Option Obj→Cz
 | some ti,some (.nest _ b k e ys none)=>if t=.agg (.prod k (.slice e)) then NF σ d m el b k e ys a ti.bytes else none
 | _,_=>none
def Va (tb:Tb) (σ:St) (d:Nat):AV→Option TI→Cz
 | .sr m _ 0 a,some ⟨.slice t,_,el,_⟩=>NH σ d m el t a (lk el tb.ty) (lk m σ.objs)
 | _,_=>none
def KO (σ:St) (n m:Nat) (ty:Ty) (et a:TypeId) (k e:Ty) (xs:List (k.den×List e.den)) (i hi:Nat) (b:List Nat) (off:Nat):Cz :=
 if ty=.slice e∧b=[1]∧off=k.size then KM σ n m et a k e xs i hi (lk m σ.objs) else none
def DG (σ:St) (n:Nat) (ty e:Ty) (i:Nat) (b:List Nat) (off:Nat) (v:AV):Option Obj→Cz
 | some (.arr et a xs)=>Dy σ n et ty e i b off (BO (.slice e) ⟨.slice a,xs⟩) (KJ false σ ty v)
 | some (.nest et c k a xs (some j))=>match v with
  | .sr m E 0 hi=>if e=.agg (.prod k (.slice a))∧i=j∧E=a then KO σ n m ty et c k a xs i hi b off else none
  | _=>none
 | _=>none
def G9 (σ:St):Option TI→Option AV→Option AV→Cz
 | some ti,some (.bp n a off),some v=>DF σ n ti.ty a off v (lk n σ.objs)
 | some ti,some (.ep n e i a off),some v=>DG σ n ti.ty e i a off v (lk n σ.objs)
 | _,_,_=>none
def Ea (σ:St) (d n:Nat) (et:TypeId) (e:Ty) (hi:Nat) (bytes:Nat):Option (List e.den)→Option (List e.den)→Cz
 | some a,some ys=>some ((hi+ys.length)*bytes≤AO,⟨(d,.sr n e 0 (hi+ys.length)) :: FC n σ.env,upd n (.arr et e (a.take hi++ys)) (BT n σ.objs)⟩)
 | _,_=>none
def CM (σ:St) (d n:Nat) (el:TypeId) (e:Ty) (hi:Nat) (v:AV) (ys:Option (List e.den)):Option TI→Option Obj→Cz
 | some ti,some (.arr et a xs)=>if et=el then Ea σ d n et e hi ti.bytes (BO (.slice e) ⟨.slice a,xs⟩) ys else none
 | some ti,some (.nest et b k a xs none)=>if et=el∧e=.agg (.prod k (.slice a)) then OV σ d n et b k a hi ti.bytes xs v else none
 | _,_=>none
def Dz (tb:Tb) (σ:St) (d:Nat) (n:Nat) (a:Ty) (hi:Nat) (v:AV):Option TI→Cz
 | some ⟨.slice e,_,el,_⟩=>if e=a then CM σ d n el e hi v (OK σ e v) (lk el tb.ty) (lk n σ.objs) else none
 | _=>none
def Cu (tb:Tb) (σ:St) (d:Option Nat) (t u:TypeId):Option AV→Option AV→Cz
 | some (.sr n e 0 hi),some v=>match d with
  | some d=>if t=u∧GE n=false then Dz tb σ d n e hi v (lk t tb.ty) else none
  | none=>none
 | some (.nin n e i _),some v=>match d with
  | some d=>if t=u then Lh tb σ d n e i v (lk t tb.ty) else none
  | none=>none
 | some (.raw (.slice none 0 0)),some v=>match d with
  | some d=>if t=u then Va tb σ d v (lk t tb.ty) else none
  | none=>none
 | _,_=>none
def DH (tb:Tb) (σ:St) (d:Option Nat):Builtin→List Operand→List TypeId→Cz
 | .append,[x,y],[t,u]=>Cu tb σ d t u (Ae σ x) (Ae σ y)
 | _,_,_=>none
def Cv (tb:Tb) (σ:St) (d:Option Nat) (xs:List Operand) (ts:List TypeId):Callee→Cz
 | .builtin b=>DH tb σ d b xs ts
 | _=>none
def Fj (σ:St) (n:Nat) (a b:Ty) (l:List (a.den×b.den)):Option a.den→Option b.den→Cz
 | some k,some v=>if Sv a=true then some (True,⟨σ.env,upd n (.mapo a b (Ho a b k v l)) σ.objs⟩) else none
 | _,_=>none
def E9 (tb:Tb) (σ:St) (n:Nat) (b:Nat) (x y:AV):Option Obj→Cz
 | some (.mapo a c l)=>if (lk b tb.ty).map TI.ty=some a∧(lk b tb.ty).map TI.el=some 0 then Fj σ n a c l (KJ false σ a x) (KJ false σ c y) else none
 | _=>none
def JQ (tb:Tb) (σ:St):Option TI→Option AV→Option AV→Option AV→Cz
 | some ⟨.ref 2,[(k,_)],_,_⟩,some (.mp n),some x,some y=>E9 tb σ n k x y (lk n σ.objs)
 | _,_,_,_=>none
def Da (r:Cz):Option Nat→Cz
 | none=>r
 | some _=>none
def E2 (tb:Tb) (σ:St) (d:Option Nat):Op→Cz
 | .store t x y=>Da (G9 σ (lk t tb.ty) (Ae σ x) (Ae σ y)) d
 | .mapUpdate t m x y=>Da (JQ tb σ (lk t tb.ty) (Ae σ m) (Ae σ x) (Ae σ y)) d
 | .call c=>Cv tb σ d c.args.toList c.argTypes.toList c.callee
 | _=>none
def St.add (σ:St) (v:AV) (obs:List (Nat×Obj)):Option Nat→St
 | some d=>⟨(d,v) :: σ.env,obs++σ.objs⟩
 | none=>⟨σ.env,obs++σ.objs⟩
def KP:Option AV→List Nat
 | some v=>v.names
 | none=>[]
def Cl (σ:St):List (Nat×Operand)→List Nat
 | []=>[]
 | (_,x) :: r=>KP (Ae σ x)++Cl σ r
def KQ:Option AV→List Nat
 | some (.ag l)=>AV.namess l
 | _=>[]
def Eb (σ:St):List (Nat×Operand)→List Nat
 | []=>[]
 | (_,x) :: r=>KQ (Ae σ x)++Eb σ r
def B1 (σ:St):Option AV→Option AV→List Nat
 | some (.ep n _ _ _ _),some v=>if CY (lk n σ.objs)=true then [] else v.names
 | _,_=>[]
def Hy:Option AV→Option AV→Option AV→List Nat
 | some (.mp _),some v,some u=>v.names++u.names
 | _,_,_=>[]
def CB (σ:St):Op→List Nat
 | .buildSlice _ _ parts=>Cl σ parts.toList
 | .build _ parts=>Eb σ parts.toList
 | .store _ x y=>B1 σ (Ae σ x) (Ae σ y)
 | .mapUpdate _ m x y=>Hy (Ae σ m) (Ae σ x) (Ae σ y)
 | _=>[]
def Ca:List Nat→St→St
 | [],σ=>σ
 | n :: r,σ=>Ca r (frz n σ)
def BZ (obs:List (Nat×Obj)) (σ:St):Bool:=obs.all fun p=>(lk p.1 σ.objs).isNone
def Jk (tb:Tb) (σ:St) (o:Oper):BX→Cz
 | some (vc,v,obs)=>if BZ obs σ=true then some (vc,σ.add v obs o.dst) else none
 | none=>E2 tb σ o.dst o.op
def NI (tb:Tb) (o:Oper) (σ:St):Cz:=Jk tb σ o (aq tb σ (o.dst.getD 0) o.op)
def Fk (tb:Tb) (o:Oper) (σ:St):Cz:=NI tb o (Ca (CB σ o.op) σ)
def QG (a:Bool):Option AV→Option Bool
 | some (.p .bool b)=>some (b==a)
 | _=>none
def JR (σ:St) (a:Bool):Option Tmp→Option Bool
 | some g=>QG a (lk g σ.env)
 | none=>none
def ER (ops:List Oper) (σ:St):Option (Nat×Bool)→Option Bool
 | none=>some true
 | some (j,a)=>JR σ a ((ops[j]?).bind (·.dst))
def Sw (vc:Prop):Cz→Cz
 | some (a,σ)=>some (vc∧a,σ)
 | none=>none
mutual
def Bt (tb:Tb) (ops:List Oper):List Oper→St→Cz
 | [],σ=>some (True,σ)
 | o :: r,σ=>evG tb ops o r σ (ER ops σ o.guard)
def evG (tb:Tb) (ops:List Oper) (o:Oper) (r:List Oper) (σ:St):Option Bool→Cz
 | some true=>evK tb ops r (Fk tb o σ)
 | some false=>Bt tb ops r (σ.add (.raw undef) [] o.dst)
 | none=>none
def evK (tb:Tb) (ops:List Oper) (r:List Oper):Cz→Cz
 | some (vc,σ)=>Sw vc (Bt tb ops r σ)
 | none=>none
end
end
section
open Go Go.RowKit
theorem CH {w:World} {b:Nat} {o:_root_.Go.Obj} (h:w.heap[b]?=some o):b<w.heap.size:=by
 rcases Nat.lt_or_ge b w.heap.size with a|a
 ·exact a
 ·simp[Array.getElem?_eq_none a]at h
def blk:Value→Option Nat
 | .slice (some a) _ _=>some a.block
 | .pointer (some a)=>some a.block
 | .map (some b)=>some b
 | _=>none
def bk (v:Value) (b:Nat):Prop:=blk v=some b∨∃a:Array Value,v=.tuple a∧∃x∈a.toList,blk x=some b
theorem Li {a:Option Addr} {m c b:Nat}:bk (.slice a m c) b↔blk (.slice a m c)=some b:=by
 constructor
 ·intro h;rcases h with h|⟨_,h,_⟩
  ·exact h
  ·cases h
 ·exact .inl
def plc:Value→Value
 | .tuple a=>a.getD 0 undef
 | v=>v
def DA (loc:Value) (sz lo hi:Nat) (v:Value):Prop :=
 ∃(a:Option Addr) (m c:Nat),loc=.slice a m c∧lo≤hi∧hi≤m∧∃(b:Option Addr) (d:Nat),v=.slice b (hi-lo) d∧hi-lo≤d∧(lo=0→b=a∧d=c)∧(lo<hi→b=a.map (·.add (lo*sz)))
structure Vw where
 w:World
 
 O:Nat→Prop
 
 L:Nat→Prop
 
 ρ:Nat→Value
def Lay (u v:Value):Prop:=v=u∨(u=.slice none 0 0∧∃a:Option Addr,v=.slice a 0 0)
def Sx (V:Vw):AV→Value→Prop
 | .p t d,v=>BW V.w V.O t v d
 | .pc e d,v=>BW V.w V.O (.slice e) v d∧∃a:Option Addr,v=.slice a (List.length d) (List.length d)
 | .raw u,v=>v=u
 | .sr n e lo hi,v=>V.L n∧DA (plc (V.ρ n)) e.size lo hi v
 | .ep n e i _ off,v=>V.L n∧∃g m c:Nat,plc (V.ρ n)=.slice (some ⟨g,0,none⟩) m c∧i<m∧v=.pointer (some ⟨g,i*e.size+off,none⟩)
 | .nin n _ i len,v=>V.L n∧∃(h:Array Value) (a:Option Addr) (c:Nat) (u:Value),V.ρ n=.tuple h∧h[i+1]?=some u∧Lay u v∧v=.slice a len c
 | .ip t d,v=>∃(ad:Addr) (cs:List Value),v=.pointer (some ad)∧¬V.O ad.block∧(∀(j:Nat) (u:Value),cs[j]?=some u→V.w.cell? (ad.add j)=some u)∧Br V.w V.O t cs d
 | .bp n _ off,v=>V.L n∧∃b:Nat,V.ρ n=.pointer (some ⟨b,0,none⟩)∧v=.pointer (some ⟨b,off,none⟩)
 | .fn f,v=>v=.func (.func f) #[] #[]
 | .clo f ns,v=>v=.func (.func f) #[] (ns.map V.ρ).toArray∧∀n∈ns,V.L n∧∃b:Nat,V.ρ n=.pointer (some ⟨b,0,none⟩)
 | .mp n,v=>V.L n∧∃b:Nat,V.ρ n=.map (some b)∧v=.map (some b)
 | .yl n,v=>V.L n∧∃b:Nat,V.ρ n=.pointer (some ⟨b,0,none⟩)∧v=.func (.yield b) #[] #[]
 | .top,_=>True
 | .ag _,_=>False
 | .tup _,_=>False
def M2 (V:Vw):AV→List Value→Prop
 | .p t d,cs=>Br V.w V.O t cs d
 | av,cs=>∃v,cs=[v]∧v.oneCell'=true∧Sx V av v
def DQ (V:Vw):List AV→List Value→Prop
 | [],cs=>cs=[]
 | x :: r,cs=>∃c1 c2:List Value,cs=c1++c2∧M2 V x c1∧DQ V r c2
def RI (V:Vw):AV→Value→Prop
 | .ag l,v=>∃cs:List Value,v=.agg cs.toArray∧DQ V l cs
 | x,v=>Sx V x v
def Jl (V:Vw):List AV→List Value→Prop
 | [],a=>a=[]
 | x :: r,a=>∃(v:Value) (l:List Value),a=v :: l∧RI V x v∧Jl V r l
theorem RI.of1 {V:Vw} {x:AV} {v:Value} (h:Sx V x v):RI V x v:=by
 cases x;case ag l=>exact h.elim
 all_goals exact h
def B2 (V:Vw):AV→Value→Prop
 | .ag l,v=>∃cs:List Value,v=.agg cs.toArray∧DQ V l cs
 | .tup l,v=>∃a:List Value,v=.tuple a.toArray∧Jl V l a
 | av,v=>Sx V av v
theorem t5 {V:Vw} {x:AV} {v:Value} (h:RI V x v):B2 V x v:=by
 cases x;case tup l=>exact(show False from h).elim
 all_goals exact h
def Dh (w:World) (O:Nat→Prop) (e:Ty) (cells:List Value) (xs:List e.den):Prop :=
 ∀(i:Nat) (x:e.den),xs[i]?=some x→∃a:List Value,a.length=e.size∧(∀(j:Nat) (u:Value),a[j]?=some u→cells[i*e.size+j]?=some u)∧Br w O e a x
def Jm (w:World) (O:Nat→Prop) (k v:Ty):List MapEntry→List (k.den×v.den)→Prop
 | [],[]=>True
 | e :: a,x :: xs=>BW w O k e.key x.1∧BW w O v e.val x.2∧Jm w O k v a xs
 | _,_=>False
def QH (a:Array MapEntry) (clock:Nat):Prop:=(a.toList.map (·.born)).Nodup∧∀b∈a.toList.map (·.born),b<clock
def NX (V:Vw) (et:TypeId) (e:Ty) (xs:List e.den) (loc:Value):Prop:=xs.length≤AO∧∃cells:List Value,V.w.ownsRow 0 et e.size loc xs.length cells∧Dh V.w V.O e cells xs
def Xm (V:Vw) (a:TypeId) (k e:Ty) (hole:Bool) (cells:List Value) (i:Nat) (x:k.den×List e.den) (u:Value):Prop :=
 ∃(c1:List Value) (v:Value),(∀(j:Nat) (z:Value),(c1++[v])[j]?=some z→cells[i*(k.size+1)+j]?=some z)∧Br V.w V.O k c1 x.1 ∧
  ((hole=true∧u=.slice none 0 0)∨(hole=false∧Lay u v∧NX V a e x.2 u))
structure LD (V:Vw) (et iet:TypeId) (k e:Ty) (xs:List (k.den×List e.den)) (h:Option Nat) (o:Value) (ins:List Value) (cells:List Value):Prop where
 max:xs.length≤AO
 len:ins.length=xs.length
 own:V.w.ownsRow 0 et (k.size+1) o xs.length cells
 row:∀(i:Nat) (x:k.den×List e.den) (u:Value),xs[i]?=some x→ins[i]?=some u→Xm V iet k e (h==some i) cells i x u
 dist:∀(i j b:Nat) (u v:Value),ins[i]?=some u→ins[j]?=some v→blk u=some b→blk v=some b→i=j
 out:∀(i b:Nat) (u:Value),ins[i]?=some u→blk u=some b→blk o≠some b
def Shp (loc o:Value) (ins:List Value):Prop:=loc=.tuple (o :: ins).toArray∨(loc=.slice none 0 0∧o=.slice none 0 0∧ins=[])
def A6R (V:Vw) (k v:Ty) (l:List (k.den×v.den)) (left:List Nat) (d:Option Nat) (r:Nat):Prop :=
 ∃(b:Nat) (a:Array MapEntry) (clock c:Nat) (seen:Array Nat),V.w.heap[r]?=some (.mapIter (some b) c seen clock)∧¬V.O b∧V.w.heap[b]?=some (.map a clock)∧Jm V.w V.O k v a.toList l∧QH a clock ∧
  (∀s∈a.toList.map (·.born),s<c)∧c≤clock∧left.Nodup∧(∀i,i∈left↔∃e,a[i]?=some e∧e.born∉seen)∧(∀i,d=some i→∃e,a[i]?=some e∧seen.back?=some e.born)
def A1 (V:Vw):Obj→Value→Prop
 | .arr et e xs,loc=>NX V et e xs loc
 | .nest et d k e xs h,loc=>∃(o:Value) (ins cells:List Value),Shp loc o ins∧LD V et d k e xs h o ins cells
 | .box et f fs,loc=>(f=false→fs.length=1)∧∃(b:Nat) (cs:List Value),loc=.pointer (some ⟨b,0,none⟩)∧V.w.heap[b]?=some (.cells cs.toArray et (0,0))∧DQ V fs cs
 | .mapo k v l,loc=>∃(b:Nat) (a:Array MapEntry) (clock:Nat),loc=.map (some b)∧V.w.heap[b]?=some (.map a clock)∧Jm V.w V.O k v a.toList l∧QH a clock
 | .frame g fs,loc=>loc=.pointer none∧∀s x,lk s fs=some x→B2 V x (g.getD s undef)
 | .itr k v l left c,loc=>∃r:Nat,loc=.pointer (some ⟨r,0,none⟩)∧A6R V k v l left c r
 | .loop L,loc=>∃b:Nat,loc=.pointer (some ⟨b,0,none⟩)∧V.w.heap[b]?=some (.loop L)
 | .dfr,loc=>∃b:Nat,loc=.pointer (some ⟨b,0,none⟩)∧V.w.heap[b]?=some (.deferred (some []))
structure Frm (K:Nat→Prop) (w0 w:World):Prop where
 os:w.os=w0.os
 tape:w.tape=w0.tape
 output:w.output=w0.output
 size:w0.heap.size≤w.heap.size
 block:∀k,K k→w.heap[k]?=w0.heap[k]?
def Gb (σ:St) (n:Nat):Prop:=∃o,lk n σ.objs=some o
def own (O0:Nat→Prop) (σ:St) (ρ:Nat→Value) (b:Nat):Prop:=O0 b∨∃n,Gb σ n∧bk (ρ n) b
def vw (w:World) (O0:Nat→Prop) (σ:St) (ρ:Nat→Value):Vw:=⟨w,own O0 σ ρ,Gb σ,ρ⟩
def A39:Value→Bool
 | .slice _ _ _=>false
 | .tuple _=>false
 | _=>true
structure Fp where
 ds:List Deferred:=[]
 pin:List (Nat×Value):=[]
structure Bo (w0:World) (K O0:Nat→Prop) (nt:Nat) (ds:Fp) (σ:St) (ρ:Nat→Value) (a:Act) (w:World):Prop where
 frm:Frm K w0 w
 nt:a.tmps.size=nt
 defers:a.defers=ds.ds
 pin:∀p∈ds.pin,Gb σ p.1∧ρ p.1=p.2∧(A39 p.2=true∨GE p.1=true)
 objs:∀n o,lk n σ.objs=some o→A1 (vw w O0 σ ρ) o (ρ n)
 free:∀n b,Gb σ n→bk (ρ n) b→¬K b∧¬O0 b
 dist:∀n m b,Gb σ n→Gb σ m→bk (ρ n) b→bk (ρ m) b→n=m
 env:∀s v,lk s σ.env=some v→B2 (vw w O0 σ ρ) v (a.tmps.getD s undef)
structure CN (V V':Vw):Prop where
 O:∀b,b<V.w.heap.size→¬V.O b→¬V'.O b
 L:∀n,V.L n→V'.L n
 ρ:∀n,V.L n→V'.ρ n=V.ρ n
 heap:∀b,b<V.w.heap.size→¬V.O b→V'.w.heap[b]?=V.w.heap[b]?
theorem Sx.keeps {V V':Vw} (h:CN V V'):∀ {x:AV} {v:Value},Sx V x v→Sx V' x v
 | .p _ _,_,b=>BW.mono h.O h.heap b
 | .pc _ _,_,b=>⟨BW.mono h.O h.heap b.1,b.2⟩
 | .raw _,_,b=>b
 | .sr n e lo hi,_,⟨a,hs⟩=>⟨h.L n a,by rw[h.ρ n a];exact hs⟩
 | .ep n e i _ off,_,⟨a,hs⟩=>⟨h.L n a,by rw[h.ρ n a];exact hs⟩
 | .nin n _ i len,_,⟨a,hs⟩=>⟨h.L n a,by rw[h.ρ n a];exact hs⟩
 | .ip t d,_,⟨ad,cs,c,g,k,hr⟩=>by
  have l:ad.block<V.w.heap.size:=by
   have hp:=t.size_pos;have o:=hr.length;have:=block_lt_of_cell (k 0 (cs[0]'(by omega)) (AT (by omega)))
   rwa [CG]at this
  refine⟨ad,cs,c,h.O _ l g,fun j u m=>?_,Br.mono h.O h.heap hr⟩;rw[AC9 (w:=V.w) (w':=V'.w)]
  ·exact k j u m
  ·rw[CG];exact h.heap _ l g
 | .bp n _ off,_,⟨a,hs⟩=>⟨h.L n a,by rw[h.ρ n a];exact hs⟩
 | .fn _,_,b=>b
 | .clo f ns,_,⟨c,hs⟩=>by
  refine⟨?_,fun n hn=>⟨h.L n (hs n hn).1,by rw[h.ρ n (hs n hn).1];exact(hs n hn).2⟩⟩;rw[c]
  congr 2
  exact AAw fun n hn=>(h.ρ n (hs n hn).1).symm
 | .mp n,_,⟨a,hs⟩=>⟨h.L n a,by rw[h.ρ n a];exact hs⟩
 | .yl n,_,⟨a,hs⟩=>⟨h.L n a,by rw[h.ρ n a];exact hs⟩
 | .top,_,_=>trivial
 | .ag _,_,b=>b
 | .tup _,_,b=>b
theorem M2.keeps {V V':Vw} (h:CN V V') {x:AV} {cs:List Value} (a:M2 V x cs):M2 V' x cs:=by
 cases x;case p t d=>exact(Br.mono h.O h.heap a:Br V'.w V'.O t cs d)
 all_goals
  obtain⟨v,h1,b,c⟩:=a;exact⟨v,h1,b,c.keeps h⟩
theorem DQ.keeps {V V':Vw} (h:CN V V'):∀ {l:List AV} {cs:List Value},DQ V l cs→DQ V' l cs
 | [],_,b=>b
 | _ :: _,_,⟨c1,c2,e,h1,a⟩=>⟨c1,c2,e,h1.keeps h,a.keeps h⟩
theorem RI.keeps {V V':Vw} (h:CN V V') {x:AV} {v:Value} (a:RI V x v):RI V' x v:=by
 cases x;case ag l=>obtain⟨cs,h1,b⟩:=a;exact⟨cs,h1,b.keeps h⟩
 all_goals exact RI.of1 (Sx.keeps h a)
theorem Jl.keeps {V V':Vw} (h:CN V V'):∀ {l:List AV} {a:List Value},Jl V l a→Jl V' l a
 | [],_,c=>c
 | _ :: _,_,⟨v,l,e,h1,b⟩=>⟨v,l,e,h1.keeps h,b.keeps h⟩
theorem B2.keeps {V V':Vw} (h:CN V V') {x:AV} {v:Value} (a:B2 V x v):B2 V' x v:=by
 cases x;case ag l=>obtain⟨cs,h1,b⟩:=a;exact⟨cs,h1,b.keeps h⟩
 case tup l=>obtain⟨cs,h1,b⟩:=a;exact⟨cs,h1,b.keeps h⟩
 all_goals
  simp only[B2]at a ⊢;exact Sx.keeps h a
theorem Dh.keeps {V V':Vw} (h:CN V V') {e:Ty} {cells:List Value} {xs:List e.den} (d:Dh V.w V.O e cells xs):Dh V'.w V'.O e cells xs:=fun i x hi =>
 let ⟨a,h1,b,c⟩:=d i x hi
 ⟨a,h1,b,Br.mono h.O h.heap c⟩
theorem Jm.mono {w w':World} {O O':Nat→Prop} (a:∀b,b<w.heap.size→¬O b→¬O' b) (c:∀b,b<w.heap.size→¬O b→w'.heap[b]?=w.heap[b]?) {k v:Ty} :
  ∀ {d:List MapEntry} {l:List (k.den×v.den)},Jm w O k v d l→Jm w' O' k v d l
 | [],[],h=>h
 | [],_ :: _,h=>h.elim
 | _ :: _,[],h=>h.elim
 | _ :: _,_ :: _,⟨h1,e,f⟩=>⟨h1.mono a c,e.mono a c,f.mono a c⟩
theorem JS {w w':World} {et:TypeId} {sz n:Nat} {loc:Value} {cells:List Value} (d:∀b,blk loc=some b→w'.heap[b]?=w.heap[b]?) (h:w.ownsRow 0 et sz loc n cells):w'.ownsRow 0 et sz loc n cells:=by
 obtain⟨h1,a⟩:=h;refine⟨h1,?_⟩;rcases a with a|⟨g,cap,c,rfl,e,f,i⟩
 ·exact .inl a
 ·exact .inr ⟨g,cap,c,rfl,e,(d g rfl).trans f,i⟩
theorem NX.keeps {V V':Vw} (h:CN V V') {et:TypeId} {e:Ty} {xs:List e.den} {loc:Value} (a:∀b,blk loc=some b→V'.w.heap[b]?=V.w.heap[b]?) (f:NX V et e xs loc):NX V' et e xs loc:=by
 obtain⟨d,cells,h1,c⟩:=f;exact⟨d,cells,JS a h1,c.keeps h⟩
theorem Xm.keeps {V V':Vw} (h:CN V V') {c:TypeId} {k e:Ty} {hole:Bool} {cells:List Value} {i:Nat} {x:k.den×List e.den} {u:Value} (j:∀b,blk u=some b→V'.w.heap[b]?=V.w.heap[b]?) (l:Xm V c k e hole cells i x u):Xm V' c k e hole cells i x u:=by
 obtain⟨c1,v,h1,d,a⟩:=l;refine⟨c1,v,h1,Br.mono h.O h.heap d,?_⟩;rcases a with a|⟨a,f,g⟩
 ·exact .inl a
 ·exact .inr ⟨a,f,g.keeps h j⟩
theorem A6 {o:Value} {ins:List Value} {b:Nat}:bk (.tuple (o :: ins).toArray) b↔blk o=some b∨∃(i:Nat) (u:Value),ins[i]?=some u∧blk u=some b:=by
 constructor
 ·rintro (h|⟨d,h,x,c,a⟩)
  ·cases h
  ·injection h with h
   subst h;simp only[GO]at c;rcases c with rfl|c
   ·exact .inl a
   ·obtain⟨i,hi⟩:=List.getElem?_of_mem c;exact .inr ⟨i,x,hi,a⟩
 ·rintro (h|⟨i,u,hi,a⟩)
  ·exact .inr ⟨_,rfl,o,by simp,h⟩
  ·exact .inr ⟨_,rfl,u,by simp[AAe hi],a⟩
theorem Shp.bk {loc o:Value} {ins:List Value} {b:Nat} (h:Shp loc o ins):bk loc b↔bk (.tuple (o :: ins).toArray) b:=by
 rcases h with rfl|⟨rfl,rfl,rfl⟩
 ·exact Iff.rfl
 ·rw[A6,Li];simp[blk]
theorem Shp.plc {loc o:Value} {ins:List Value} (h:Shp loc o ins):plc loc=o:=by
 rcases h with rfl|⟨rfl,rfl,rfl⟩<;>rfl
theorem Shp.tup {loc o:Value} {ins:List Value} {a:Array Value} (h:Shp loc o ins) (b:loc=.tuple a):a=(o :: ins).toArray:=by
 subst b;rcases h with h|⟨h,_⟩
 ·injection h
 ·cases h
theorem LD.keeps {V V':Vw} (h:CN V V') {et g:TypeId} {k e:Ty} {xs:List (k.den×List e.den)} {f:Option Nat} {o:Value} {ins cells:List Value} (d:∀b,bk (.tuple (o :: ins).toArray) b→V'.w.heap[b]?=V.w.heap[b]?) (a:LD V et g k e xs f o ins cells):LD V' et g k e xs f o ins cells :=
 ⟨a.max,a.len,JS (fun b h1=>d b (A6.2 (.inl h1))) a.own,fun i x u h1 c=>(a.row i x u h1 c).keeps h (fun b j=>d b (A6.2 (.inr ⟨i,u,c,j⟩))),a.dist,a.out⟩
theorem Sy {w:World} {et:TypeId} {sz n b:Nat} {loc:Value} {cells:List Value} (h:w.ownsRow 0 et sz loc n cells) (a:blk loc=some b):b<w.heap.size:=by
 rcases h.2 with ⟨rfl,_⟩|⟨g,cap,d,rfl,e,c,f⟩
 ·simp[blk]at a
 ·simp[blk]at a;subst a;exact CH c
theorem LD.block_lt {V:Vw} {et h:TypeId} {k e:Ty} {xs:List (k.den×List e.den)} {g:Option Nat} {o:Value} {ins cells:List Value} (d:LD V et h k e xs g o ins cells) {b:Nat} (f:bk (.tuple (o :: ins).toArray) b):b<V.w.heap.size:=by
 rcases A6.1 f with h1|⟨i,u,h1,c⟩
 ·exact Sy d.own h1
 ·have hi:i<xs.length:=by have:=(QB.1 h1).1;rw[d.len]at this;exact this
  obtain⟨c1,v,_,_,a⟩:=d.row i xs[i] u (AT hi) h1;rcases a with ⟨_,a⟩|⟨_,_,_,j,a,_⟩
  ·rw[a]at c;simp[blk]at c
  ·exact Sy a c
theorem A1.keeps {V V':Vw} (h:CN V V') {o:Obj} {loc:Value} (d:∀b,bk loc b→V'.w.heap[b]?=V.w.heap[b]?) (c:A1 V o loc):A1 V' o loc:=by
 cases o with
 | arr et e xs =>
  obtain⟨C,cells,⟨h1,a⟩,B⟩:=c;refine⟨C,cells,⟨h1,?_⟩,B.keeps h⟩;rcases a with a|⟨g,cap,i,rfl,E,F,G⟩
  ·exact .inl a
  ·exact .inr ⟨g,cap,i,rfl,E,(d g (.inl rfl)).trans F,G⟩
 | box et M fs =>
  obtain⟨h0,b,cs,rfl,h1,a⟩:=c;exact⟨h0,b,cs,rfl,(d b (.inl rfl)).trans h1,a.keeps h⟩
 | nest et K k e xs J =>
  obtain⟨o,ins,cells,hs,h1⟩:=c;exact⟨o,ins,cells,hs,h1.keeps h fun b A=>d b (hs.bk.2 A)⟩
 | mapo k v l =>
  obtain⟨b,m,cl,rfl,h1,a,f⟩:=c;exact⟨b,m,cl,rfl,(d b (.inl rfl)).trans h1,a.mono h.O h.heap,f⟩
 | frame N fs =>
  obtain⟨h0,h1⟩:=c;exact⟨h0,fun s x hs=>(h1 s x hs).keeps h⟩
 | itr k v l left i =>
  obtain⟨r,rfl,b,D,cl,I,H,h1,a,f,p,q,t,u,y,z,n⟩:=c;have j:=CH f;exact⟨r,rfl,b,D,cl,I,H,(d r (.inl rfl)).trans h1,h.O b j a,(h.heap b j a).trans f,p.mono h.O h.heap,q,t,u,y,z,n⟩
 | loop L =>
  obtain⟨b,rfl,h1⟩:=c;exact⟨b,rfl,(d b (.inl rfl)).trans h1⟩
 | dfr =>
  obtain⟨b,rfl,h1⟩:=c;exact⟨b,rfl,(d b (.inl rfl)).trans h1⟩
theorem A1.block_lt {V:Vw} {o:Obj} {loc:Value} (c:A1 V o loc) {b:Nat} (a:bk loc b):b<V.w.heap.size:=by
 cases o with
 | arr et e xs =>
  obtain⟨n,cells,⟨h1,d⟩,j⟩:=c;rcases d with ⟨rfl,_⟩|⟨g,cap,f,rfl,s,h,t⟩
  ·simp[bk,blk]at a
  ·simp[bk,blk]at a;subst a;exact CH h
 | box et y fs =>
  obtain⟨h0,b',cs,rfl,h1,d⟩:=c;simp[bk,blk]at a;subst a;exact CH h1
 | nest et p k e xs m =>
  obtain⟨o,ins,cells,hs,h1⟩:=c;exact h1.block_lt (hs.bk.1 a)
 | mapo k v l =>
  obtain⟨b',i,cl,rfl,h1,d⟩:=c;simp[bk,blk]at a;subst a;exact CH h1
 | frame z fs =>
  obtain⟨rfl,h1⟩:=c;simp[bk,blk]at a
 | itr k v l left f =>
  obtain⟨r,rfl,b',q,cl,x,u,h1,-⟩:=c;simp[bk,blk]at a;subst a;exact CH h1
 | loop L =>
  obtain⟨b',rfl,h1⟩:=c;simp[bk,blk]at a;subst a;exact CH h1
 | dfr =>
  obtain⟨b',rfl,h1⟩:=c;simp[bk,blk]at a;subst a;exact CH h1
section
variable {α:Type}
theorem A0 (k:Nat):∀(l r:List (Nat×α)),lk k (l++r)=(lk k l).or (lk k r)
 | [],_=>by simp[lk]
 | (j,v) :: l,r=>by
  simp only[AB3,lk];split
  ·simp
  ·exact A0 k l r
theorem GH (k n:Nat) (u:α):∀l:List (Nat×α),lk k (upd n u l)=if k=n then (lk n l).map (fun _=>u) else lk k l
 | []=>by simp[lk,upd]
 | (j,v) :: l=>by
  simp only[upd];by_cases hn:n=j
  ·subst hn;by_cases hk:k=n
   ·subst hk;simp[lk]
   ·simp[lk,hk,GH k n u l]
  ·simp only[At hn,lk];by_cases hk:k=n
   ·subst hk;simp[hn,GH k k u l]
   ·by_cases a:k=j
    ·subst a;simp[hk]
    ·simp[hk,a,GH k n u l]
theorem QI (k n:Nat):∀l:List (Nat×α),lk k (del n l)=if k=n then none else lk k l
 | []=>by simp[lk,del]
 | (j,v) :: l=>by
  simp only[del];by_cases hn:n=j
  ·subst hn;rw[BY rfl,QI k n l];by_cases hk:k=n<;>simp[lk,hk]
  ·rw[At hn];simp only[lk,QI k n l];by_cases hk:k=n
   ·subst hk;simp[hn]
   ·simp[hk]
end
end
section
open Go Go.RowKit
def EL (σ:St) (obs:List (Nat×Obj)):St:=⟨σ.env,obs++σ.objs⟩
structure QS (w:World) (O0:Nat→Prop) (σ:St) (ρ:Nat→Value) (v:AV) (obs:List (Nat×Obj)) (u:Value) (ρ':Nat→Value) (w':World):Prop where
 below:Below w.heap.size w w'
 rho:∀n,lk n obs=none→ρ' n=ρ n
 av:B2 (vw w' O0 (EL σ obs) ρ') v u
 obj:∀n o,lk n obs=some o→A1 (vw w' O0 (EL σ obs) ρ') o (ρ' n)
 new:∀n o b,lk n obs=some o→bk (ρ' n) b→w.heap.size≤b
 dist:∀n m o o' b,lk n obs=some o→lk m obs=some o'→bk (ρ' n) b→bk (ρ' m) b→n=m
theorem Fl {α:Type} {k:Nat} {v:α}:∀ {l:List (Nat×α)},lk k l=some v→(k,v)∈l
 | (j,u) :: l,h=>by
  simp only[lk]at h;split at h
  ·rename_i e;cases h;subst e;simp
  ·exact bY _ (Fl h)
theorem NY {obs:List (Nat×Obj)} {σ:St} (h:BZ obs σ=true) {n:Nat} {o:Obj} (hn:lk n obs=some o):lk n σ.objs=none:=by
 simp only[BZ,Do]at h;simpa using h _ (Fl hn)
theorem Lj {σ:St} {obs:List (Nat×Obj)} {n:Nat} (h:Gb (EL σ obs) n):(∃o,lk n obs=some o)∨(lk n obs=none∧Gb σ n):=by
 obtain⟨o,h⟩:=h;simp only[EL,A0]at h;cases a:lk n obs with
 | some b=>exact .inl ⟨b,rfl⟩
 | none=>rw[a]at h;exact .inr ⟨rfl,o,by simpa using h⟩
theorem Xn {σ:St} {obs:List (Nat×Obj)} (hf:BZ obs σ=true) {n:Nat} (h:Gb σ n):Gb (EL σ obs) n∧lk n obs=none:=by
 obtain⟨o,h⟩:=h;have hn:lk n obs=none:=by
  cases a:lk n obs with
  | none=>rfl
  | some b=>have:=NY hf a;rw[this]at h;cases h
 exact⟨⟨o,by simp[EL,A0,hn,h]⟩,hn⟩
theorem Hz {w w':World} {O0:Nat→Prop} {σ:St} {ρ ρ':Nat→Value} {obs:List (Nat×Obj)} (hf:BZ obs σ=true)
  (hb:Below w.heap.size w w') (hr:∀n,lk n obs=none→ρ' n=ρ n) (hn:∀n o b,lk n obs=some o→bk (ρ' n) b→w.heap.size≤b) :
  CN (vw w O0 σ ρ) (vw w' O0 (EL σ obs) ρ') where
 O:=by
  intro b hlt hO hO';rcases hO' with h0|⟨n,hl,hb'⟩
  ·exact hO (.inl h0)
  ·rcases Lj hl with ⟨o,ho⟩|⟨hno,hl'⟩
   ·have:=hn n o b ho hb';have hlt:b<w.heap.size:=hlt;omega
   ·exact hO (.inr ⟨n,hl',by rw[←hr n hno];exact hb'⟩)
 L:=fun n h=>(Xn hf h).1
 ρ:=fun n h=>hr n (Xn hf h).2
 heap:=fun b hlt _=>hb.block b hlt
theorem QS.keeps {w w':World} {O0:Nat→Prop} {σ:St} {ρ ρ':Nat→Value} {v:AV} {u:Value} {obs:List (Nat×Obj)} (hf:BZ obs σ=true) (h:QS w O0 σ ρ v obs u ρ' w') :
  CN (vw w O0 σ ρ) (vw w' O0 (EL σ obs) ρ'):=Hz hf h.below h.rho h.new
theorem Frm.below {K:Nat→Prop} {w0 w w':World} (h:Frm K w0 w) (hb:Below w.heap.size w w') (hK:∀b,K b→b<w0.heap.size):Frm K w0 w' where
 os:=hb.os.trans h.os
 tape:=hb.tape.trans h.tape
 output:=hb.output.trans h.output
 size:=To h.size hb.size
 block:=fun k hk=>(hb.block k (AAu (hK k hk) h.size)).trans (h.block k hk)
theorem Jn (a:Act) (dst:Option Tmp) (u:Value):(a.put dst u).tmps.size=a.tmps.size:=by
 cases dst<;>simp[Act.put]
theorem GI (a:Act) (dst:Option Tmp) (u:Value):(a.put dst u).defers=a.defers:=by cases dst<;>rfl
theorem KR (a:Act) (d:Nat) (u:Value) (s:Nat) (b:d<a.tmps.size):(a.put (some d) u).tmps.getD s undef=if s=d then u else a.tmps.getD s undef:=by
 by_cases h:s=d
 ·subst h;simp[Act.put,b]
 ·have:¬d=s:=fun e=>h e.symm;simp[Act.put,h,this,Array.getElem?_setIfInBounds]
theorem Bo.add {w0:World} {K O0:Nat→Prop} {nt:Nat} {ds:Fp} {σ:St} {ρ:Nat→Value} {a:Act} {w:World} (h:Bo w0 K O0 nt ds σ ρ a w)
  (D:∀b,K b→b<w0.heap.size) (J:∀b,O0 b→b<w0.heap.size) {dst:Option Nat} (L:∀d,dst=some d→d<nt)
  {v:AV} {obs:List (Nat×Obj)} {u:Value} {ρ':Nat→Value} {w':World} (hf:BZ obs σ=true) (c:QS w O0 σ ρ v obs u ρ' w') :
  Bo w0 K O0 nt ds (σ.add v obs dst) ρ' (a.put dst u) w':=by
 have hk:=c.keeps hf;have G:(σ.add v obs dst).objs=obs++σ.objs:=by cases dst<;>rfl
 have l:∀n,Gb (σ.add v obs dst) n↔Gb (EL σ obs) n:=fun n=>by simp[Gb,G,EL]
 have H:vw w' O0 (σ.add v obs dst) ρ'=vw w' O0 (EL σ obs) ρ':=by
  have j:Gb (σ.add v obs dst)=Gb (EL σ obs):=funext fun n=>propext (l n);have g:own O0 (σ.add v obs dst) ρ'=own O0 (EL σ obs) ρ':=by
   funext b;simp only[own,j]
  simp only[vw,j,g]
 refine⟨h.frm.below c.below D,by rw[Jn];exact h.nt,by rw[GI];exact h.defers,fun p hp=>?_,?_,?_,?_,?_⟩
 ·obtain⟨h1,k,I⟩:=h.pin p hp;have C:=Xn hf h1;exact⟨(l p.1).2 C.1,(c.rho _ C.2).trans k,I⟩
 ·intro n o g;rw[G,A0]at g;rw[H];cases r:lk n obs with
  | some A=>rw[r]at g;cases g;exact c.obj n _ r
  | none =>
   rw[r]at g;have q:lk n σ.objs=some o:=by simpa using g
   rw[c.rho n r];refine(h.objs n o q).keeps hk fun b f=>?_;exact c.below.block b ((h.objs n o q).block_lt f)
 ·intro n b j f;rcases Lj ((l n).1 j) with ⟨o,g⟩|⟨t,z⟩
  ·have M:=c.new n o b g f;have:=h.frm.size;exact⟨fun y=>by have:=D b y;omega,fun y=>by have:=J b y;omega⟩
  ·rw[c.rho n t]at f;exact h.free n b z f
 ·intro n m b j z f i;rcases Lj ((l n).1 j) with ⟨o,g⟩|⟨t,hn⟩<;>rcases Lj ((l m).1 z) with ⟨A,q⟩|⟨F,E⟩
  ·exact c.dist n m o A b g q f i
  ·have h1:=c.new n o b g f;rw[c.rho m F]at i;obtain⟨B,k⟩:=E;have:=(h.objs m B k).block_lt i;have:b<w.heap.size:=this;omega
  ·have h1:=c.new m A b q i;rw[c.rho n t]at f;obtain⟨B,k⟩:=hn;have:=(h.objs n B k).block_lt f;have:b<w.heap.size:=this;omega
  ·rw[c.rho n t]at f;rw[c.rho m F]at i;exact h.dist n m b hn E f i
 ·intro s x hs;rw[H];cases dst with
  | none=>exact(h.env s x hs).keeps hk
  | some d =>
   simp only[St.add,lk]at hs;rw[KR a d u s (by rw[h.nt];exact L d rfl)];split at hs
   ·rename_i e;cases hs;rw[BY e];exact c.av
   ·rename_i e;rw[At e];exact(h.env s x hs).keeps hk
theorem QS.still {w:World} {O0:Nat→Prop} {σ:St} {ρ:Nat→Value} {v:AV} {u:Value} (h:B2 (vw w O0 σ ρ) v u):QS w O0 σ ρ v [] u ρ w where
 below:=Below.refl _ _
 rho:=fun _ _=>rfl
 av:=h
 obj:=fun _ _ h=>by cases h
 new:=fun _ _ _ h=>by cases h
 dist:=fun _ _ _ _ _ h=>by cases h
def EM (ρ:Nat→Value) (n:Nat) (x:Value):Nat→Value:=fun m=>if m=n then x else ρ m
theorem Bj (ρ:Nat→Value) (n:Nat) (x:Value):EM ρ n x n=x:=by simp[EM]
theorem QS.one {w w':World} {O0:Nat→Prop} {σ:St} {ρ:Nat→Value} {v:AV} {u loc:Value} {n:Nat} {o:Obj} (hb:Below w.heap.size w w')
  (hnew:∀b,bk loc b→w.heap.size≤b)
  (hav:B2 (vw w' O0 (EL σ [(n,o)]) (EM ρ n loc)) v u)
  (hobj:A1 (vw w' O0 (EL σ [(n,o)]) (EM ρ n loc)) o loc):QS w O0 σ ρ v [(n,o)] u (EM ρ n loc) w' where
 below:=hb
 rho:=fun m hm=>by
  simp only[lk]at hm;split at hm
  ·cases hm
  ·rename_i e;simp[EM,e]
 av:=hav
 obj:=fun m o' hm=>by
  simp only[lk]at hm;split at hm
  ·rename_i e;cases hm;subst e;rw[Bj];exact hobj
  ·cases hm
 new:=fun m o' b hm hb'=>by
  simp only[lk]at hm;split at hm
  ·rename_i e;subst e;rw[Bj]at hb';exact hnew b hb'
  ·cases hm
 dist:=fun m m' o1 o2 b h1 h2 _ _=>by
  simp only[lk]at h1 h2;split at h1
  ·split at h2
   ·omega
   ·cases h2
  ·cases h1
end
section
open Go Go.RowKit
theorem BB {t:Ty} {p:PV} {d:t.den} (h:BO t p=some d):p=⟨t,d⟩:=by
 obtain⟨u,x⟩:=p;simp only[BO]at h;split at h
 ·rename_i e;subst e;simpa using h
 ·cases h
theorem Bm {e a:Ty} {xs:List a.den} {ys:List e.den} (h:BO (.slice e) ⟨.slice a,xs⟩=some ys):a=e∧HEq xs ys:=by
 have b:=BB h;injection b with h1 c
 injection h1 with h1
 exact⟨h1,c⟩
theorem NZ {α:Type} (xs:List α) {lo hi:Nat} (h:hi≤xs.length):(sub xs lo hi).length=hi-lo:=by
 simp[sub];omega
theorem Xo {α:Type} (xs:List α) (lo hi i:Nat) {x:α} (h:(sub xs lo hi)[i]?=some x):xs[lo+i]?=some x∧i<hi-lo:=by
 simp only[sub,AA0,AAi]at h;split at h
 ·rename_i a;exact⟨h,a⟩
 ·cases h
theorem mK {w:World} {O':Nat→Prop} {et:TypeId} {e:Ty} {xs:List e.den} {loc v:Value} {cells:List Value} {lo hi:Nat} (F:∀b,blk loc=some b→¬O' b)
  (K:xs.length≤AO) (k:w.ownsRow 0 et e.size loc xs.length cells) (y:Dh w O' e cells xs) (G:DA loc e.size lo hi v):Br w O' (.slice e) [v] (sub xs lo hi):=by
 obtain⟨a,m,c,h,I,A,l,n,rfl,s,h0,h1⟩:=G;have E:m=xs.length:=by
  rcases k.2 with ⟨d,hn⟩|⟨g,cap,o,d,_⟩
  ·rw[h]at d;injection d;omega
  ·rw[h]at d;injection d
 subst E;have f:=NZ xs (lo:=lo) A;refine⟨l,n,by rw[f],by rw[f];exact s,by rw[f];omega,?_⟩;by_cases D:lo<hi
 ·right;rcases k.2 with ⟨d,hn⟩|⟨g,cap,o,d,r⟩
  ·omega
  ·have t:=World.ownsRow.cells k (g:=g) (by rw[d];rfl);have ha:a=some ⟨g,0,none⟩:=by rw[h]at d;injection d
   subst ha;refine⟨_,h1 D,F _ (by rw[d];simp only[blk,CG]),fun i x B=>?_⟩;obtain⟨H,J⟩:=Xo xs lo hi i B;obtain⟨p,z,q,hr⟩:=y (lo+i) x H;refine⟨p,z,fun j u C=>?_,hr⟩;have:=t _ u (q j u C);rw[DP]
   rwa [ABK,ABF]at this
 ·left;have:(sub xs lo hi).length=0:=by rw[f];omega
  exact aT this
theorem HX {w:World} {base:Nat} {et:TypeId} {sz n:Nat} {s:Value} {xs:List Value} (h:w.ownsRow base et sz s n xs):plc s=s:=by
 rcases h.2 with ⟨rfl,_⟩|⟨g,cap,a,rfl,_⟩<;>rfl
theorem OW {V:Vw} {et:TypeId} {e:Ty} {xs:List e.den} {loc:Value} (h:A1 V (.arr et e xs) loc):plc loc=loc:=by
 obtain⟨_,_,h,_⟩:=h;exact HX h
theorem Xp {V:Vw} {O':Nat→Prop} (h:∀b,¬V.O b→¬O' b) {et:TypeId} {e:Ty} {xs:List e.den} {loc v:Value} {lo hi:Nat} (n:∀b,blk loc=some b→¬O' b)
  (a:A1 V (.arr et e xs) loc) (c:DA (plc loc) e.size lo hi v):Br V.w O' (.slice e) [v] (sub xs lo hi):=by
 rw[OW a]at c;obtain⟨l,cells,m,k⟩:=a;exact mK n l m (fun i x hi=>let ⟨d,h1,f,g⟩:=k i x hi;⟨d,h1,f,g.mono (fun b _ j=>h b j) (fun _ _ _=>rfl)⟩) c
theorem FN {w:World} {et:TypeId} {sz n:Nat} {s:Value} {xs:List Value} (h:w.ownsRow 0 et sz s n xs):DA s sz 0 n s:=by
 rcases h.2 with ⟨rfl,hn⟩|⟨g,cap,a,rfl,_,_,b,_⟩
 ·exact⟨none,0,0,rfl,by omega,by omega,none,0,by rw[hn],by omega,fun _=>⟨rfl,rfl⟩,fun h=>by omega⟩
 ·exact⟨some ⟨g,0,none⟩,n,cap,rfl,by omega,by omega,some ⟨g,0,none⟩,cap,by simp,by omega,fun _=>⟨rfl,rfl⟩,fun _=>by simp[MS]⟩
theorem Vt {V:Vw} {O':Nat→Prop} (c:∀b,¬V.O b→¬O' b) {et:TypeId} {e:Ty} {xs:List e.den} {u:Value} (d:∀b,blk u=some b→¬O' b) (h:NX V et e xs u):Br V.w O' (.slice e) [u] xs:=by
 have h1:=h;obtain⟨_,_,a,_⟩:=h1;have:=Xp (V:=V) c d (et:=et) (e:=e) (xs:=xs) (loc:=u) h (by rw[HX a];exact FN a)
 rwa [HQ]at this
theorem KS {w:World} {base:Nat} {et:TypeId} {sz n m c:Nat} {a:Option Addr} {xs:List Value} (h:w.ownsRow base et sz (.slice a m c) n xs):m=n:=by
 rcases h.2 with ⟨b,hn⟩|⟨g,cap,d,b,_⟩
 ·injection b;omega
 ·injection b
theorem Xq {V:Vw} {g:TypeId} {e:Ty} {xs:List e.den} {u:Value} {a:Option Addr} {len c:Nat} (f:Lay u (.slice a len c)) (h:NX V g e xs u):len=xs.length:=by
 obtain⟨_,k,b,_⟩:=h;rcases f with rfl|⟨rfl,i,d⟩
 ·exact KS b
 ·injection d with _ j
  have:=KS b;omega
theorem t7 {V:Vw} {j:TypeId} {e:Ty} {xs:List e.den} {u v:Value} (g:Lay u v) (h:NX V j e xs u):∃(a:Option Addr) (c:Nat),v=.slice a xs.length c:=by
 rcases g with rfl|⟨rfl,a,rfl⟩
 ·obtain⟨_,k,f,_⟩:=h;obtain⟨_,_,_,_,_,_,b,d,i,_⟩:=FN f;exact⟨b,d,i⟩
 ·have hn:=Xq (.inr ⟨rfl,a,rfl⟩) h;exact⟨a,0,by rw[←hn]⟩
theorem mL {V:Vw} {O':Nat→Prop} {d:TypeId} {e:Ty} {xs:List e.den} {u v:Value} (b:Lay u v) (h:NX V d e xs u) (hr:Br V.w O' (.slice e) [u] xs):Br V.w O' (.slice e) [v] xs:=by
 rcases b with rfl|⟨rfl,a,rfl⟩
 ·exact hr
 ·have hn:=Xq (.inr ⟨rfl,a,rfl⟩) h;have c:xs=[]:=aT hn.symm;subst c;exact⟨a,0,rfl,NO _,by simp,.inl rfl⟩
theorem Na {V:Vw} {O':Nat→Prop} (g:∀b,¬V.O b→¬O' b) {et n:TypeId} {k e:Ty} {xs:List (k.den×List e.den)} {o:Value} {ins cells:List Value} (h:LD V et n k e xs none o ins cells)
  (m:∀(i b:Nat) (u:Value),ins[i]?=some u→blk u=some b→¬O' b):Dh V.w O' (.agg (.prod k (.slice e))) cells xs:=by
 intro i x hi;have j:i<ins.length:=by rw[h.len];exact(QB.1 hi).1
 obtain⟨c1,v,h1,d,a⟩:=h.row i x ins[i] hi (AT j);rcases a with ⟨a,_⟩|⟨_,l,f⟩
 ·cases a
 ·have hr:=mL l f (Vt g (fun b c=>m i b _ (AT j) c) f);refine⟨c1++[v],by simp[Ty.size,d.length],h1,?_⟩;exact(⟨c1,[v],rfl,d.mono (fun b _ c=>g b c) (fun _ _ _=>rfl),hr⟩:Br V.w O' (.prod k (.slice e)) _ x)
theorem ZC {V:Vw} {O':Nat→Prop} (f:∀b,¬V.O b→¬O' b) {et l:TypeId} {k e:Ty} {xs:List (k.den×List e.den)} {loc v:Value} {lo hi:Nat} (a:∀b,bk loc b→¬O' b)
  (j:A1 V (.nest et l k e xs none) loc) (c:DA (plc loc) (k.size+1) lo hi v):Br V.w O' (.slice (.agg (.prod k (.slice e)))) [v] (sub (α:=k.den×List e.den) xs lo hi):=by
 obtain⟨o,ins,cells,hs,h⟩:=j;rw[hs.plc]at c;exact mK (e:=.agg (.prod k (.slice e))) (xs:=xs) (fun b g=>a b (hs.bk.2 (A6.2 (.inl g)))) h.max h.own (Na f h fun i b u h1 d=>a b (hs.bk.2 (A6.2 (.inr ⟨i,u,h1,d⟩)))) c
theorem Vu {V:Vw} {p:Obj} {loc:Value} {a:Option Addr} {m c:Nat} (d:A1 V p loc) (h:plc loc=.slice a m c):∃et sz cells,V.w.ownsRow 0 et sz (.slice a m c) m cells∧m≤AO:=by
 cases p with
 | arr et e xs =>
  have h1:=OW d;obtain⟨r,cells,i,_⟩:=d;rw[h1]at h;subst h;have j:m=xs.length:=by
   rcases i.2 with ⟨f,hn⟩|⟨g,cap,q,f,_⟩
   ·injection f;omega
   ·injection f
  subst j;exact⟨et,_,cells,i,r⟩
 | nest et u k e xs s =>
  obtain⟨o,ins,cells,hs,n⟩:=d;rw[hs.plc]at h;subst h;have i:=n.own;have j:m=xs.length:=by
   rcases i.2 with ⟨f,hn⟩|⟨g,cap,q,f,_⟩
   ·injection f;omega
   ·injection f
  subst j;exact⟨et,_,cells,i,n.max⟩
 | box et B fs=>obtain⟨_,b,cs,rfl,_⟩:=d;cases h
 | mapo k v l=>obtain⟨b,_,_,rfl,_⟩:=d;cases h
 | frame C fs=>obtain⟨rfl,_⟩:=d;cases h
 | loop L=>obtain⟨b,rfl,_⟩:=d;cases h
 | itr x A y z t=>obtain⟨b,rfl,_⟩:=d;cases h
 | dfr=>obtain⟨b,rfl,_⟩:=d;cases h
theorem MT {V V':Vw} (c:V'.w=V.w) (d:V'.O=V.O) {et f:TypeId} {k e:Ty} {xs:List (k.den×List e.den)} {h:Option Nat} {loc:Value} (s:A1 V (.nest et f k e xs h) loc):A1 V' (.nest et f k e xs h) loc:=by
 obtain⟨o,ins,cells,q,a⟩:=s;refine⟨o,ins,cells,q,a.max,a.len,by rw[c];exact a.own,fun i x u h1 g=>?_,a.dist,a.out⟩;obtain⟨c1,v,j,l,b⟩:=a.row i x u h1 g;refine⟨c1,v,j,by rw[c,d];exact l,?_⟩;rcases b with b|⟨b,m,r,t,n,p⟩
 ·exact .inl b
 ·exact .inr ⟨b,m,r,t,by rw[c];exact n,by rw[c,d];exact p⟩
theorem pL {V V':Vw} (d:V'.w=V.w) (g:∀b,¬V.O b→¬V'.O b) {et j:TypeId} {k e:Ty} {xs:List (k.den×List e.den)} {h:Option Nat} {loc:Value} (C:A1 V (.nest et j k e xs h) loc):A1 V' (.nest et j k e xs h) loc:=by
 obtain⟨o,ins,cells,A,a⟩:=C;refine⟨o,ins,cells,A,a.max,a.len,by rw[d];exact a.own,fun i x u h1 q=>?_,a.dist,a.out⟩;obtain⟨c1,v,r,s,c⟩:=a.row i x u h1 q;refine⟨c1,v,r,s.mono (fun b _ f=>g b f) (fun b _ _=>by rw[d]),?_⟩;rcases c with c|⟨c,t,B,D,y,z⟩
 ·exact .inl c
 ·refine .inr ⟨c,t,B,D,by rw[d];exact y,fun i x hi=>?_⟩;obtain⟨l,m,n,p⟩:=z i x hi;exact⟨l,m,n,p.mono (fun b _ f=>g b f) (fun b _ _=>by rw[d])⟩
theorem SI {V:Vw} {et g:TypeId} {k e:Ty} {xs:List (k.den×List e.den)} {h:Option Nat} {loc v:Value} {c:Array Value} {i:Nat} {z:k.den×List e.den}
  (d:A1 V (.nest et g k e xs h) loc) (f:loc=.tuple c) (a:c[i+1]?=some v):xs[i]?=some (xs.getD i z):=by
 obtain⟨o,ins,cells,hs,h⟩:=d;obtain rfl:=hs.tup f;have a:ins[i]?=some v:=by simpa using a
 have b:i<xs.length:=by rw[←h.len];exact(QB.1 a).1
 rw[AT b,AS,AT b];rfl
theorem A17 {V:Vw} {t:Obj} {loc u v:Value} {w:Array Value} {i len c:Nat} {a:Option Addr} (d:A1 V t loc) (z:loc=.tuple w) (j:w[i+1]?=some u) (n:Lay u v) (s:v=.slice a len c):len≤AO:=by
 subst z;cases t with
 | arr et e xs =>
  obtain⟨E,cells,y,_⟩:=d;rcases y.2 with ⟨r,_⟩|⟨g,cap,B,r,_⟩<;>cases r
 | nest et G k e xs D =>
  obtain⟨o,ins,cells,hs,q⟩:=d;obtain rfl:=hs.tup rfl;have j:ins[i]?=some u:=by simpa using j
  have x:i<xs.length:=by rw[←q.len];exact(QB.1 j).1
  obtain⟨c1,O,h1,C,m⟩:=q.row i xs[i] u (AT x) j;rcases m with ⟨_,m⟩|⟨_,_,p⟩
  ·subst s;rcases n with f|⟨_,A,f⟩
   ·rw[m]at f;injection f;omega
   ·injection f;omega
  ·rw[s]at n;rw[Xq n p];exact p.1
 | box et M fs=>obtain⟨_,b,cs,h,_⟩:=d;cases h
 | mapo k v l=>obtain⟨b,_,_,h,_⟩:=d;cases h
 | frame N fs=>obtain⟨h,_⟩:=d;cases h
 | loop L=>obtain⟨b,h,_⟩:=d;cases h
 | itr H K I J F=>obtain⟨b,h,_⟩:=d;cases h
 | dfr=>obtain⟨b,h,_⟩:=d;cases h
theorem mM {V:Vw} {O':Nat→Prop} (g:∀b,¬V.O b→¬O' b) {et r:TypeId} {k e:Ty} {xs:List (k.den×List e.den)} {loc v:Value} {f:Array Value} {i:Nat} {x:k.den×List e.den} (n:∀b,bk loc b→¬O' b) {u:Value}
  (m:A1 V (.nest et r k e xs none) loc) (p:loc=.tuple f) (a:f[i+1]?=some u) (l:Lay u v) (q:xs[i]?=some x):Br V.w O' (.slice e) [v] x.2:=by
 obtain⟨o,ins,cells,hs,h⟩:=m;obtain rfl:=hs.tup p;have a:ins[i]?=some u:=by simpa using a
 obtain⟨c1,y,h1,s,c⟩:=h.row i x u q a;rcases c with ⟨c,_⟩|⟨_,t,d⟩
 ·cases c
 ·exact mL l d (Vt g (fun b j=>n b (hs.bk.2 (A6.2 (.inr ⟨i,_,a,j⟩)))) d)
section
variable {V:Vw} {O':Nat→Prop} {l:Bool} {σ:St}
theorem ZD (p:∀b,¬V.O b→¬O' b) (s:l=true→∀b,¬O' b) (q:∀n o,lk n σ.objs=some o→A1 V o (V.ρ n))
  {t:Ty} {x:AV} {d:t.den} {cs:List Value} (h:EI l σ t x=some d) (j:M2 V x cs):Br V.w O' t cs d:=by
 unfold EI at h;split at h
 ·rename_i u C;have:=BB h;injection this with h1 f
  subst h1;cases f;have j:Br V.w V.O u cs C:=j;exact j.mono (fun b _ F=>p b F) (fun _ _ _=>rfl)
 ·rename_i e n D lo hi;split at h
  ·rename_i r;obtain⟨z,rfl⟩:=r;have m:=z;obtain⟨v,rfl,_,E,g⟩:=j;cases hn:lk n σ.objs with
   | none=>rw[hn]at h;simp[OL]at h
   | some o =>
    rw[hn]at h;cases o with
    | box et Q fs=>simp[OL]at h
    | mapo k v l=>simp[OL]at h
    | frame R fs=>simp[OL]at h
    | loop L=>simp[OL]at h
    | itr K P M N J=>simp[OL]at h
    | dfr=>simp[OL]at h
    | nest et I k y xs m =>
     cases m with
     | some i=>simp[OL]at h
     | none =>
      simp only[OL]at h;obtain⟨h1,f⟩:=Bm h;subst h1;cases f;exact ZC p (fun b _=>s z b) (q n _ hn) g
    | arr et y xs =>
     simp only[OL]at h;obtain⟨h1,f⟩:=Bm h;subst h1;cases f;exact Xp p (fun b _=>s m b) (q n _ hn) g
  ·cases h
 ·rename_i e n D i len;split at h
  ·rename_i r;obtain⟨m,rfl⟩:=r;obtain⟨v,rfl,_,E,T,a,c,S,B,A,G,_⟩:=j;cases hn:lk n σ.objs with
   | none=>rw[hn]at h;simp[OM]at h
   | some o =>
    rw[hn]at h;unfold OM at h;split at h
    ·rename_i et I k y xs H;cases H;obtain⟨h1,f⟩:=Bm h;subst h1;cases f;exact mM p (fun b _=>s m b) (q n _ hn) B A G (SI (q n _ hn) B A)
    ·cases h
  ·cases h
 ·obtain⟨v,rfl,_,g⟩:=j;have g:v=_:=g;subst g;cases h;exact⟨none,0,rfl,by simp,by simp[AO],.inl rfl⟩
 ·cases h
theorem t8 (i:∀b,¬V.O b→¬O' b) (k:l=true→∀b,¬O' b) (j:∀n o,lk n σ.objs=some o→A1 V o (V.ρ n)) :
  ∀ {fs:List AV} {t:Ty} {d:t.den} {cs:List Value},Ji l σ fs t=some d→DQ V fs cs→Br V.w O' t cs d
 | [],t,d,cs,h,f=>by simp[Ji]at h
 | [x],t,d,cs,h,f=>by
  obtain⟨c1,c2,rfl,h1,c⟩:=f;have c:c2=[]:=c;subst c;rw[AAa];simp only[Ji]at h;exact ZD i k j h h1
 | x :: y :: r,t,d,cs,h,f=>by
  obtain⟨c1,c2,rfl,h1,c⟩:=f;cases t;case prod a b =>
   simp only[Ji]at h;cases e:EI l σ a x with
   | none=>rw[e]at h;simp[LA]at h
   | some m =>
    cases g:Ji l σ (y :: r) b with
    | none=>rw[e,g]at h;simp[LA]at h
    | some p =>
     rw[e,g]at h;simp only[LA]at h;cases h;exact⟨c1,c2,rfl,ZD i k j e h1,t8 i k j g c⟩
  all_goals simp[Ji]at h
theorem A18 {t:Ty} {x:AV} {d:t.den} {v:Value} (h:EI l σ t x=some d) (hp:∀u i,x≠.p u i) (e:B2 V x v):M2 V x [v]∧t.wrap [v]=v:=by
 unfold EI at h;split at h
 ·exact absurd rfl (hp _ _)
 ·obtain⟨b,a,m,c,_,_,_,f,g,rfl,_⟩:=e;refine⟨⟨_,rfl,rfl,?_⟩,rfl⟩;exact⟨b,a,m,c,by assumption,by assumption,by assumption,f,g,rfl,by assumption⟩
 ·obtain⟨b,o,a,c,u,h1,j,k,rfl⟩:=e;exact⟨⟨_,rfl,rfl,b,o,a,c,u,h1,j,k,rfl⟩,rfl⟩
 ·have n:v=_:=e;subst n;exact⟨⟨_,rfl,rfl,rfl⟩,rfl⟩
 ·cases h
theorem Jo (f:∀b,¬V.O b→¬O' b) (j:l=true→∀b,¬O' b) (i:∀n o,lk n σ.objs=some o→A1 V o (V.ρ n))
  {t:Ty} {x:AV} {d:t.den} {v:Value} (h:KJ l σ t x=some d) (g:B2 V x v):BW V.w O' t v d:=by
 unfold KJ at h;split at h
 ·rename_i t fs;obtain⟨cs,rfl,m⟩:=g;exact⟨cs,(t8 f j i h m:Br V.w O' t cs d),rfl⟩
 ·by_cases hp:∃u a,x=.p u a
  ·obtain⟨u,a,rfl⟩:=hp;have h:BO t ⟨u,a⟩=some d:=by simpa only[EI] using h
   have:=BB h;injection this with h1 c
   subst h1;cases c;exact BW.mono (fun b _ k=>f b k) (fun _ _ _=>rfl) g
  ·obtain⟨h1,c⟩:=A18 h (fun u a e=>hp ⟨u,a,e⟩) g;exact⟨[v],ZD f j i h h1,c.symm⟩
end
end
section
open Go Go.RowKit
def Xr:Ty→Value→Bool
 | .agg _,.agg _=>true
 | .agg _,_=>false
 | .prod _ _,_=>false
 | _,.agg _=>false
 | _,_=>true
def MU (P : Program) (id : TypeId) (a b : IntKind) : Prop := ∃ c d : Field, P.underlying id = some (.struct #[c, d]) ∧ ((c.name != "_") = true ∧ (d.name != "_") = true) ∧ (c.offset = 0 ∧ d.offset = 1) ∧ (P.underlying c.type = some (.int a) ∧ P.underlying d.type = some (.int b)) ∧ P.stoodInHeld id = false
def Sz (P:Program) (id:TypeId):Ty→Nat→Prop
 | .agg (.prod (.int a) (.int b)),0=>MU P id a b
 | _,_=>True
def isI (k:IntKind):Option TypeDesc→Bool
 | some (.int a)=>k==a
 | _=>false
theorem Xs {k:IntKind} {d:Option TypeDesc} (h:isI k d=true):d=some (.int k):=by
 unfold isI at h;split at h
 ·rw[AA1.1 h]
 ·cases h
def A2N (P:Program) (id:TypeId) (a b:IntKind):Option TypeDesc→Bool
 | some (.struct ⟨[c, d]⟩) => (c.name != "_") && (d.name != "_") && c.offset == 0 && d.offset == 1 && isI a (P.underlying c.type) && isI b (P.underlying d.type) && P.stoodInHeld id == false
 | _=>false
def t9 (P:Program) (id:TypeId):Ty→Nat→Bool
 | .agg (.prod (.int a) (.int b)),0=>A2N P id a b (P.underlying id)
 | _,_=>true
theorem uA {P:Program} {id:TypeId} {t:Ty} {el:Nat} (h:t9 P id t el=true):Sz P id t el:=by
 unfold t9 at h;unfold Sz;split at h
 ·unfold A2N at h;split at h
  ·rename_i a b hu;simp only[An,AA1]at h;obtain⟨⟨⟨⟨⟨⟨h1,c⟩,d⟩,e⟩,f⟩,g⟩,i⟩:=h;exact⟨a,b,hu,⟨h1,c⟩,⟨d,e⟩,⟨Xs f,Xs g⟩,i⟩
  ·cases h
 ·trivial
def D0 (P:Program) (tb:Tb) (id:TypeId) (ti:TI):Prop :=
 (((∀p∈ti.offs,p.2≠0)∧0<ti.bytes∧Sz P id ti.ty ti.el)∧∃(i:TypeInfo) (z:Value),P.info? id=some i∧i.size=ti.ty.size∧i.bytes=ti.bytes∧i.zero=some z∧z.cells=ti.ty.zero.toArray) ∧
 match ti.ty with
 | .int k=>P.underlying id=some (.int k)
 | .bool=>P.underlying id=some .bool
 | .str=>P.underlying id=some .string
 | .slice e=>P.underlying id=some (.slice ti.el)∧∃te,lk ti.el tb.ty=some te∧te.ty=e
 | .agg _=>(∃fs:Array Field,ti.el=0∧P.underlying id=some (.struct fs)∧ti.offs.map some=fs.toList.map fun f=>(P.info? f.type).map fun i=>(f.offset,i.size)) ∨
   ∃n e i,ti.el≠0∧P.underlying id=some (.array n e)∧P.info? e=some i∧ti.offs=(List.range n).map fun k=>(k*i.size,i.size)
 | .prod _ _=>False
 | .ref j=>∃d,P.underlying id=some d∧(match d with|.struct _=>False|.array _ _=>False|_=>True) ∧
   ∀k e,j=2→ti.offs=[(k,e)]→d=.map k e∧∃(a te:TI) (z:Value),lk k tb.ty=some a∧lk e tb.ty=some te∧(∃i,P.info? e=some i∧i.zero=some z)∧z.cells=te.ty.zero.toArray∧Xr te.ty z=true
def DB (P:Program) (tb:Tb):Prop:=∀id ti,lk id tb.ty=some ti→D0 P tb id ti
def uB:Value→Value→Bool
 | .int k n,.int c d=>k==c&&n==d
 | .bool a,.bool b=>a==b
 | .string s,.string e=>s.size==0&&e.size==0
 | .slice none 0 0,.slice none 0 0=>true
 | .pointer none,.pointer none=>true
 | .nilFunc,.nilFunc=>true
 | .map none,.map none=>true
 | _,_=>false
theorem uC {a b:Value} (h:uB a b=true):a=b:=by
 unfold uB at h;split at h
 ·simp only[An,AA1]at h;obtain⟨rfl,rfl⟩:=h;rfl
 ·simp only[AA1]at h;rw[h]
 ·rename_i s c;simp only[An,AA1]at h;have:s=c:=by
   obtain⟨⟨l⟩⟩:=s;obtain⟨⟨l'⟩⟩:=c;have h1:l.length=0:=h.1;have d:l'.length=0:=h.2;rw[aT h1,aT d]
  rw[this]
 ·rfl
 ·rfl
 ·rfl
 ·rfl
 ·cases h
def Nb:List Value→List Value→Bool
 | [],[]=>true
 | a :: l,b :: r=>uB a b&&Nb l r
 | _,_=>false
theorem QJ:∀ {l r:List Value},Nb l r=true→l=r
 | [],[],_=>rfl
 | a :: l,b :: r,h=>by
  simp only[Nb,An]at h;rw[uC h.1,QJ h.2]
 | [],_ :: _,h=>by simp[Nb]at h
 | _ :: _,[],h=>by simp[Nb]at h
def A2O (ty:Ty) (bytes:Nat):Option TypeInfo→Bool
 | some i=>i.size==ty.size&&i.bytes==bytes&&(match i.zero with|some z=>Nb z.cells.toList ty.zero|none=>false)
 | none=>false
def A4h (offs:List (Nat×Nat)) (n:Nat):Option TypeInfo→Bool
 | some i=>offs==(List.range n).map fun k=>(k*i.size,i.size)
 | none=>false
def A2P (e:Nat) (te:Option TI):Option TypeInfo→Bool
 | some i=>match i.zero,te with|some z,some te=>Nb z.cells.toList te.ty.zero&&Xr te.ty z|_,_=>false
 | none=>false
def A3a (P:Program) (tb:Tb) (j:Nat) (d:TypeDesc):List (Nat×Nat)→Bool
 | [(k,e)]=>j != 2||(match d with|.map b a=>b==k&&a==e&&(lk k tb.ty).isSome&&A2P e (lk e tb.ty) (P.info? e)|_=>false)
 | _=>true
theorem A19 {P:Program} {tb:Tb} {j:Nat} {d:TypeDesc} {offs:List (Nat×Nat)} (h:A3a P tb j d offs=true):∀k e,j=2→offs=[(k,e)]→d=.map k e∧∃(b te:TI) (z:Value),lk k tb.ty=some b∧lk e tb.ty=some te∧(∃i,P.info? e=some i∧i.zero=some z)∧z.cells=te.ty.zero.toArray∧Xr te.ty z=true:=by
 rintro k e rfl rfl;simp only[A3a,bne_self_eq_false,ACy]at h;split at h
 ·simp only[An,AA1]at h;obtain⟨⟨⟨rfl,rfl⟩,c⟩,a⟩:=h;refine⟨rfl,?_⟩;obtain⟨b,g⟩:=AB8.1 c;unfold A2P at a;split at a
  ·rename_i i hi;split at a
   ·rename_i z te l f;simp only[An]at a;exact⟨b,te,z,g,f,⟨i,hi,l⟩,by rw[←QJ a.1],a.2⟩
   ·cases a
  ·cases a
 ·cases h
def A4i (P:Program) (tb:Tb) (ti:TI):Ty→Option TypeDesc→Bool
 | .int k,some (.int a)=>k==a
 | .bool,some .bool=>true
 | .str,some .string=>true
 | .slice e,some (.slice el)=>el==ti.el&&(match lk ti.el tb.ty with|some te=>decide (te.ty=e)|none=>false)
 | .agg _,some (.struct fs)=>ti.el==0&&ti.offs.map some==fs.toList.map fun f=>(P.info? f.type).map fun i=>(f.offset,i.size)
 | .agg _,some (.array n e)=>ti.el != 0&&A4h ti.offs n (P.info? e)
 | .ref _,some (.struct _)=>false
 | .ref _,some (.array _ _)=>false
 | .ref j,some d=>A3a P tb j d ti.offs
 | _,_=>false
def tiB (P:Program) (tb:Tb) (id:TypeId) (ti:TI):Bool:=((ti.offs.all fun p=>p.2 != 0)&&(decide (0<ti.bytes)&&t9 P id ti.ty ti.el))&&A2O ti.ty ti.bytes (P.info? id)&&A4i P tb ti ti.ty (P.underlying id)
theorem A3b {P:Program} {tb:Tb} {id:TypeId} {ti:TI} (h:tiB P tb id ti=true):D0 P tb id ti:=by
 simp only[tiB,An]at h;obtain⟨⟨⟨h0,f,g⟩,h1⟩,a⟩:=h;refine⟨⟨⟨fun p hp=>by simpa using (Do.1 h0) p hp,by simpa using f,uA g⟩,?_⟩,?_⟩
 ·unfold A2O at h1;split at h1
  ·rename_i i hi;simp only[An,AA1]at h1;obtain⟨⟨b,c⟩,d⟩:=h1;split at d
   ·rename_i z k;exact⟨i,z,hi,b,c,k,by rw[←QJ d]⟩
   ·cases d
  ·cases h1
 ·generalize hu:P.underlying id=u at a;generalize ti.ty=t at a;cases t<;>cases u<;>simp only[A4i]at a<;>try(cases a;done)
  all_goals
   rename_i u;cases u<;>simp only at a<;>try(cases a;done)
  ·have:=AA1.1 a;subst this;rfl
  ·rfl
  ·rfl
  ·simp only[An,AA1]at a;obtain⟨b,c⟩:=a;split at c
   ·rename_i te j;exact⟨by rw[b],te,j,by simpa using c⟩
   ·cases c
  ·rename_i n e;simp only[An,ABS]at a;obtain⟨b,a⟩:=a;unfold A4h at a;split at a
   ·rename_i i hi;exact .inr ⟨_,_,i,b,rfl,hi,by simpa using a⟩
   ·cases a
  ·simp only[An,AA1]at a;exact .inl ⟨_,a.1,rfl,a.2⟩
  all_goals exact⟨_,rfl,trivial,A19 a⟩
theorem A1a {P:Program} {tb:Tb} (h:(tb.ty.all fun p=>tiB P tb p.1 p.2)=true):DB P tb:=fun id ti hi=>by
 rw[Do]at h;exact A3b (h _ (Fl hi))
def Ty.isAgg:Ty→Bool
 | .agg _=>true
 | .int _=>false
 | .bool=>false
 | .str=>false
 | .slice _=>false
 | .prod _ _=>false
 | .ref _=>false
section
variable {P:Program} {tb:Tb} {id:TypeId} {ti:TI} (w:World)
theorem Lk {i:TypeInfo} (h:P.info? id=some i):(typeInfo id).run P w=.ok i w:=by simp[typeInfo,h]
theorem A1b (h:D0 P tb id ti):(isAgg id).run P w=.ok ti.ty.isAgg w:=by
 obtain⟨_,a⟩:=h;cases c:ti.ty<;>rw[c]at a<;>simp only at a;case agg =>
  rcases a with ⟨fs,_,hu,_⟩|⟨n,e,_,_,hu,_⟩<;>simp[isAgg,aS hu,Ty.isAgg]
 case slice=>simp[isAgg,aS a.1,Ty.isAgg]
 case ref k =>
  obtain⟨d,hu,b,_⟩:=a;cases d<;>first|exact b.elim|simp[isAgg,aS hu,Ty.isAgg]
 all_goals simp[isAgg,aS a,Ty.isAgg]
theorem H0 (h:D0 P tb id ti):(sizeOf id).run P w=.ok ti.ty.size w:=by
 obtain⟨⟨_,i,z,h1,a,_⟩,_⟩:=h;simp[sizeOf,Lk w h1,a]
theorem D0.noprod (h:D0 P tb id ti) {a b:Ty}:ti.ty≠.prod a b:=by
 intro e;have:=h.2;rw[e]at this;exact this
theorem ZE (h:D0 P tb id ti) {ad:Addr} {cs:List Value} (d:cs.length=ti.ty.size) (e:∀(j:Nat) (u:Value),cs[j]?=some u→w.cell? (ad.add j)=some u) :
  (loadVar id ad).run P w=.ok (ti.ty.wrap cs) w:=by
 have i:=fun a b=>h.noprod (a:=a) (b:=b);simp only[loadVar,AAH,A1b w h,AA6];cases f:ti.ty;case prod a b=>exact absurd f (i a b)
 case agg u =>
  have g:ti.ty.size=cs.length:=d.symm;simp only[Ty.isAgg,AAC,AAH,H0 w h,AA6,g,run_loadCells_list w ad cs e,Ty.wrap];rfl
 all_goals
  rw[f]at d;obtain⟨c,rfl⟩:=AAQ.1 d;have h0:=e 0 c rfl;rw[MS]at h0;simp[Ty.isAgg,Ty.wrap,h0]
theorem Ec (h:D0 P tb id ti) {ad:Addr} {cs:List Value} (b:cs.length=ti.ty.size) (a:∀(j:Nat) (u:Value),cs[j]?=some u→w.cell? (ad.add j)=some u) :
  (Instr.loadAt id (.pointer (some ad))).run P w=.ok (ti.ty.wrap cs) w:=by
 simp[Instr.loadAt,Instr.sureAddr,ZE w h b a]
end
end
end Go.Proofs.YtdapahgnpbehbaaGreat.Fw
