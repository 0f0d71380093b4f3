/- Typed values, how they lie in memory, the executor's words and the table of types: what they mean. -/
import Derived.ProofKit
import Derived.Orders
import Derived.Laws.AppendOwn
import Derived.Laws.MakeOwn
import Derived.Laws.OwnMore
set_option linter.unusedVariables false
set_option linter.unusedSimpArgs false
namespace Go.Proofs.YtdapahgnpbehbaaGreat.Fw
section
open Go
abbrev AS:=@List.getD_eq_getElem?_getD
abbrev AT:=@List.getElem?_eq_getElem
abbrev An:=@List.take_of_length_le
abbrev As:=@Bool.and_eq_true
abbrev At:=@if_neg
abbrev BY:=@if_pos
abbrev By:=@List.mem_cons
abbrev DO:=@Classical.byContradiction
abbrev Do:=@List.length_append
abbrev GO:=@List.mem_map
abbrev IF:=@List.drop_eq_nil_of_le
abbrev IN:=@List.all_eq_true
abbrev IS:=@decide_eq_true_eq
abbrev If:=@List.mem_cons_of_mem
abbrev Is:=@Nat.le_refl
abbrev NO:=@Nat.zero_le
abbrev No:=@Option.map_eq_some_iff
abbrev OF:=@List.length_cons
abbrev ON:=@List.drop_eq_getElem_cons
abbrev OR:=@Int.ofNat_lt
abbrev OS:=@List.length_take
abbrev Of:=@List.mem_append
abbrev On:=@decide_eq_false_iff_not
abbrev O5:=@List.foldl_cons
abbrev TO:=@Nat.le_trans
abbrev To:=@List.length_map
abbrev aS:=@List.length_singleton
abbrev aT:=@List.getElem?_eq_some_iff
abbrev bY:=@Bool.not_eq_true'
abbrev dO:=@List.getElem?_eq_none
abbrev f8:=@Int.ofNat_le
abbrev gO:=@List.any_eq_true
abbrev iF:=@Go.run_underlying
abbrev iN:=@Int.toNat_natCast
abbrev iS:=@List.take_length
abbrev nO:=@List.eq_nil_of_length_eq_zero
abbrev oF:=@List.append_assoc
abbrev oN:=@List.mem_range
abbrev oR:=@List.pairwise_iff_getElem
abbrev oS:=@Nat.mul_le_mul_right
abbrev tO:=@List.map_congr_left
abbrev AA0:=@List.getElem?_map
abbrev AA1:=@Int.natCast_nonneg
abbrev AA2:=@List.getElem?_append_right
abbrev AA4:=@List.map_cons
abbrev AA5:=@List.getElem?_append_left
abbrev AA6:=@List.mem_iff_getElem
abbrev AAd:=@List.range_succ
abbrev AAe:=@List.getElem?_take
abbrev AAh:=@List.append_nil
abbrev AAi:=@Bool.or_eq_true
abbrev AAj:=@Array.getElem?_eq_some_iff
abbrev AAk:=@List.mem_filter
abbrev AAl:=@List.map_append
abbrev AAm:=@List.length_set
abbrev AAn:=@List.filter_cons
abbrev AAo:=@List.length_take_le
abbrev AAp:=@List.mem_append_left
abbrev AAq:=@beq_iff_eq
abbrev AAr:=@List.length_drop
abbrev AAs:=@List.getElem_mem
abbrev AAt:=@List.nodup_cons
abbrev AAu:=@List.mem_of_mem_take
abbrev AAv:=@List.drop_zero
abbrev AAw:=@List.mem_iff_getElem?
abbrev AAx:=@List.pairwise_cons
abbrev AAy:=@List.getElem?_set
abbrev AAz:=@List.getElem?_drop
abbrev AAA:=@Go.Result.andThen_ok
abbrev AAB:=@List.mem_of_getElem?
abbrev AAC:=@Bool.or_eq_false_iff
abbrev AAD:=@Array.getElem?_eq_getElem
abbrev AAE:=@List.ext_getElem
abbrev AAF:=@List.getElem?_range
abbrev AAG:=@Int.tdiv_eq_ediv_of_nonneg
abbrev AAH:=@List.prefix_refl
abbrev AAI:=@Nat.sub_self
abbrev AAJ:=@Nat.lt_of_lt_of_le
abbrev AAK:=@List.length_filter_le
abbrev AAL:=@Option.isNone_iff_eq_none
abbrev AAM:=@List.getElem?_append
abbrev AAN:=@List.nodup_append
abbrev AAO:=@List.set_append_right
abbrev AAP:=@Bool.and_eq_false_iff
abbrev AAQ:=@if_true
abbrev AAR:=@List.pairwise_map
abbrev AAS:=@Nat.zero_add
abbrev AAT:=@Bool.false_eq_true
abbrev AAU:=@Nat.min_eq_left
abbrev AAV:=@List.take_succ_cons
abbrev AAW:=@List.length_nil
abbrev AAX:=@List.take_zero
abbrev AAY:=@List.getElem?_replicate
abbrev AAZ:=@List.all_eq_false
abbrev AB0:=@Nat.succ_mul
abbrev AB1:=@List.mem_singleton
abbrev AB2:=@Go.Sem.run_bind
abbrev AB3:=@Bool.not_eq_false'
abbrev AB4:=@List.length_eq_one_iff
abbrev AB6:=@congrArg
abbrev AB7:=@Option.getD_some
abbrev AB8:=@beq_eq_false_iff_ne
abbrev AB9:=@Option.some.injEq
abbrev ABa:=@List.mem_append_right
abbrev ABb:=@List.map_map
abbrev ABc:=@Int.not_lt
abbrev ABd:=@Option.map_some
abbrev ABe:=@Nat.pos_of_ne_zero
abbrev ABf:=@List.set_cons_zero
abbrev ABg:=@List.getElem?_cons_zero
abbrev ABh:=@List.all_cons
abbrev ABi:=@List.countP_cons
abbrev ABj:=@Int.le_trans
abbrev ABk:=@if_false
abbrev ABl:=@List.drop_succ_cons
abbrev ABm:=@Int.toNat_of_nonneg
abbrev ABn:=@List.mem_or_eq_of_mem_set
abbrev ABo:=@List.nil_append
abbrev ABp:=@Option.isSome_iff_exists
abbrev ABq:=@List.mem_cons_self
abbrev ABr:=@List.filter_append
abbrev ABs:=@List.pairwise_append
abbrev ABt:=@List.mem_of_mem_drop
abbrev ABu:=@List.foldl_append
abbrev ABv:=@Nat.mul_le_mul_left
abbrev ABw:=@List.cons.injEq
abbrev ABx:=@Bool.eq_iff_iff
abbrev ABy:=@Int.tmod_eq_emod_of_nonneg
abbrev ABz:=@List.cons_append
abbrev ABA:=@List.take_append_drop
abbrev ABB:=@List.mem_filterMap
abbrev ABD:=@ByteArray.size_append
abbrev ABE:=@decide_eq_true
abbrev ABF:=@List.mem_take_iff_getElem
abbrev ABG:=@Array.mapM_eq_mapM_toList
abbrev ABH:=@BitVec.testBit_toNat
abbrev ABI:=@List.length_range
abbrev ABJ:=@List.ext_getElem?
abbrev ABK:=@List.all_append
abbrev ABM:=@Array.length_toList
abbrev ABN:=@List.drop_length
abbrev ABO:=@List.take_take
abbrev ABP:=@List.drop_left
abbrev ABR:=@List.getElem_range
abbrev ABS:=@decide_eq_false
abbrev ABT:=@Nat.le_of_lt
abbrev ABU:=@List.length_replicate
abbrev ABV:=@List.flatMap_cons
abbrev ABW:=@Int.fdiv_eq_ediv_of_nonneg
abbrev ABX:=@List.mem_of_find?_eq_some
abbrev ABY:=@List.drop_drop
abbrev ABZ:=@List.getElem_map
abbrev AC0:=@List.replicate_succ
abbrev AC1:=@Nat.le_antisymm
abbrev AC2:=@List.set_cons_succ
abbrev AC3:=@List.filter_nil
abbrev AC4:=@List.any_append
abbrev AC5:=@Int.lt_of_le_of_lt
abbrev AC6:=@Bool.true_and
abbrev AC7:=@Bool.not_true
abbrev AC8:=@List.length_pos_of_mem
abbrev AC9:=@List.getElem?_set_self
abbrev ACa:=@not_true_eq_false
abbrev ACb:=@Nat.lt_trichotomy
abbrev ACc:=@List.idxOf_append
abbrev ACd:=@Int.le_refl
abbrev ACe:=@Bool.eq_false_iff
abbrev ACf:=@Array.toList_eraseIdxIfInBounds
abbrev ACg:=@Bool.not_false
abbrev ACh:=@Nat.le_of_eq
abbrev ACi:=@List.map_nil
abbrev ACj:=@List.eq_nil_iff_forall_not_mem
abbrev ACk:=@Int.toNat_lt
abbrev ACl:=@List.exists_mem_of_length_pos
abbrev ACo:=@List.mem_erase_of_ne
abbrev ACp:=@Go.World.cell?_of_block
abbrev ACq:=@Int.ofNat.inj
abbrev ACr:=@bne_iff_ne
abbrev ACs:=@Nat.and_le_left
abbrev ACt:=@Nat.add_mul
abbrev ACu:=@List.filter_sublist
abbrev ACv:=@Option.isSome_some
abbrev ACw:=@Nat.zero_mul
abbrev ACx:=@Nat.lt_of_le_of_lt
abbrev ACy:=@List.zip_cons_cons
abbrev ACz:=@List.prefix_append
abbrev ACA:=@List.find?_eq_none
abbrev ACB:=@List.countP_append
abbrev ACC:=@Int.add_zero
abbrev ACD:=@Option.some_or
abbrev ACE:=@List.foldl_nil
abbrev ACG:=@Option.ext
abbrev ACI:=@Prod.mk.injEq
abbrev ACJ:=@Nat.add_assoc
abbrev ACK:=@List.sum_cons
abbrev ACL:=@Bool.false_or
abbrev ACM:=@Nat.lt_succ_self
abbrev ACN:=@List.range'_succ
abbrev ACO:=@List.perm_middle
abbrev ACP:=@List.mem_flatMap
abbrev ACQ:=@List.drop_append
abbrev ACR:=@Nat.min_self
abbrev ACS:=@Nat.add_zero
abbrev ACT:=@List.find?_some
abbrev ACU:=@Int.le_of_lt
abbrev ACW:=@Nat.mod_lt
abbrev ACX:=@Ne.symm
inductive Ty where
 | int (k:IntKind)
 | bool
 | str
 | slice (e:Ty)
 | prod (a b:Ty)
 | agg (t:Ty)
 
 | ref (k:Nat)
 deriving DecidableEq
def Kt:Nat→Value
 | 0=>.pointer none
 | 1=>.nilFunc
 | _=>.map none
@[reducible] def Ty.den:Ty→Type
 | .int _=>Int
 | .bool=>Bool
 | .str=>ByteArray
 | .slice e=>List e.den
 | .prod a b=>a.den×b.den
 | .agg t=>t.den
 | .ref _=>Unit
def Ty.size:Ty→Nat
 | .prod a b=>a.size+b.size
 | .agg t=>t.size
 | .int _=>1
 | .bool=>1
 | .str=>1
 | .slice _=>1
 | .ref _=>1
def Ty.dflt:(t:Ty)→t.den
 | .int _=>(0:Int)
 | .bool=>false
 | .str=>ByteArray.empty
 | .slice _=>[]
 | .prod a b=>(a.dflt,b.dflt)
 | .agg t=>t.dflt
 | .ref _=>()
def Ty.zero:Ty→List Value
 | .int k=>[.int k 0]
 | .bool=>[.bool false]
 | .str=>[.string ByteArray.empty]
 | .slice _=>[.slice none 0 0]
 | .prod a b=>a.zero++b.zero
 | .agg t=>t.zero
 | .ref k=>[Kt k]
def Ty.wrap:Ty→List Value→Value
 | .agg _,cs=>.agg cs.toArray
 | .prod _ _,cs=>.agg cs.toArray
 | .int _,cs=>cs.headD undef
 | .bool,cs=>cs.headD undef
 | .str,cs=>cs.headD undef
 | .slice _,cs=>cs.headD undef
 | .ref _,cs=>cs.headD undef
def Li (k:IntKind) (n:Int):Prop:=k.min≤n∧n≤k.max
def AO:Nat:=140737488355328
def Bq (w:World) (O:Nat→Prop):(t:Ty)→List Value→t.den→Prop
 | .int k,cs,d=>cs=[.int k d]∧Li k d
 | .bool,cs,d=>cs=[.bool d]
 | .str,cs,d=>cs=[.string d]∧ByteArray.size d≤AO
 | .slice e,cs,d=>∃(a:Option Addr) (c:Nat),cs=[.slice a (List.length d) c]∧List.length d≤c∧List.length d≤AO ∧
   (d=[]∨∃ad:Addr,a=some ad∧¬O ad.block ∧
    ∀(i:Nat) (x:e.den),d[i]?=some x→∃f:List Value,f.length=e.size∧(∀(j:Nat) (v:Value),f[j]?=some v→w.cell? (ad.add (i*e.size+j))=some v)∧Bq w O e f x)
 | .prod a b,cs,d=>∃c1 c2:List Value,cs=c1++c2∧Bq w O a c1 d.1∧Bq w O b c2 d.2
 | .agg t,cs,d=>Bq w O t cs d
 | .ref k,cs,_=>cs=[Kt k]
def Bb (w:World) (O:Nat→Prop) (t:Ty) (v:Value) (d:t.den):Prop:=∃cs,Bq w O t cs d∧v=t.wrap cs
theorem CQ (a:Addr) (n:Nat):(a.add n).block=a.block:=by unfold Addr.add;split<;>rfl
theorem Da (a:Addr) (i j:Nat):(a.add i).add j=a.add (i+j):=by
 unfold Addr.add;grind
theorem Mx (a:Addr):a.add 0=a:=rfl
theorem aB (g j:Nat):(⟨g,0,none⟩:Addr).add j=⟨g,j,none⟩:=by
 unfold Addr.add;split<;>simp_all
theorem KE (g i j:Nat):(⟨g,i,none⟩:Addr).add j=⟨g,i+j,none⟩:=by
 unfold Addr.add;split<;>simp_all
theorem Ty.size_pos:∀t:Ty,0<t.size
 | .int _=>by simp[Ty.size]
 | .bool=>by simp[Ty.size]
 | .str=>by simp[Ty.size]
 | .slice _=>by simp[Ty.size]
 | .ref _=>by simp[Ty.size]
 | .prod a b=>by have:=a.size_pos;simp[Ty.size];omega
 | .agg t=>by simpa[Ty.size] using t.size_pos
theorem Bq.length {w:World} {O:Nat→Prop}:∀ {t:Ty} {cs:List Value} {d:t.den},Bq w O t cs d→cs.length=t.size
 | .int _,_,_,h=>by obtain⟨rfl,_⟩:=h;rfl
 | .bool,_,_,h=>by have h:_=_:=h;subst h;rfl
 | .str,_,_,h=>by obtain⟨rfl,_⟩:=h;rfl
 | .slice _,_,_,h=>by obtain⟨_,_,rfl,_⟩:=h;rfl
 | .ref _,_,_,h=>by have h:_=_:=h;subst h;rfl
 | .prod a b,_,_,h=>by
  obtain⟨c1,c2,rfl,h1,c⟩:=h;simp[Ty.size,Bq.length h1,Bq.length c]
 | .agg t,_,_,h=>by
  have h:Bq w O t _ _:=h;simpa[Ty.size] using Bq.length h
theorem Bq.one {w:World} {O:Nat→Prop}:∀ {t:Ty} {cs:List Value} {d:t.den},Bq w O t cs d→∀v∈cs,v.oneCell'=true
 | .int _,_,_,h=>by obtain⟨rfl,_⟩:=h;simp[Value.oneCell']
 | .bool,_,_,h=>by have h:_=_:=h;subst h;simp[Value.oneCell']
 | .str,_,_,h=>by obtain⟨rfl,_⟩:=h;simp[Value.oneCell']
 | .slice _,_,_,h=>by obtain⟨_,_,rfl,_⟩:=h;simp[Value.oneCell']
 | .ref k,_,_,h=>by
  have h:_=[Kt k]:=h;subst h;match k with
  | 0=>simp[Value.oneCell',Kt]
  | 1=>simp[Value.oneCell',Kt]
  | _+2=>simp[Value.oneCell',Kt]
 | .prod a b,_,_,h=>by
  obtain⟨c1,c2,rfl,h1,e⟩:=h;intro v c;rcases Of.1 c with c|c
  ·exact Bq.one h1 v c
  ·exact Bq.one e v c
 | .agg t,_,_,h=>by
  have h:Bq w O t _ _:=h;exact Bq.one h
theorem Bq.mono {w w':World} {O O':Nat→Prop} (f:∀b,b<w.heap.size→¬O b→¬O' b) (k:∀b,b<w.heap.size→¬O b→w'.heap[b]?=w.heap[b]?) :
  ∀ {t:Ty} {cs:List Value} {d:t.den},Bq w O t cs d→Bq w' O' t cs d
 | .int _,_,_,h=>h
 | .bool,_,_,h=>h
 | .str,_,_,h=>h
 | .ref _,_,_,h=>h
 | .slice e,_,d,h=>by
  obtain⟨a,c,rfl,h1,l,m⟩:=h;refine⟨a,c,rfl,h1,l,?_⟩;rcases m with m|⟨ad,rfl,s,q⟩
  ·exact .inl m
  ·by_cases o:d=[]
   ·exact .inl o
   ·have y:ad.block<w.heap.size:=by
     obtain⟨x,r,rfl⟩:∃x r,d=x :: r:=List.exists_cons_of_ne_nil o;obtain⟨g,p,n,_⟩:=q 0 x rfl;have hp:=e.size_pos;have:g[0]?=some (g[0]'(by omega)):=AT (by omega);have:=block_lt_of_cell (n 0 _ this)
     rwa [CQ]at this
    refine .inr ⟨ad,rfl,f _ y s,fun i x hi=>?_⟩;obtain⟨g,p,n,z⟩:=q i x hi;refine⟨g,p,fun j v u=>?_,Bq.mono f k z⟩;rw[ACp (w:=w) (w':=w')]
    ·exact n j v u
    ·grind [CQ]
 | .prod a b,_,_,h=>by
  obtain⟨c1,c2,rfl,h1,l⟩:=h;exact⟨c1,c2,rfl,Bq.mono f k h1,Bq.mono f k l⟩
 | .agg t,_,_,h=>by
  have h:Bq w O t _ _:=h;exact(Bq.mono f k h:Bq w' O' t _ _)
theorem Bb.mono {w w':World} {O O':Nat→Prop} (c:∀b,b<w.heap.size→¬O b→¬O' b) (e:∀b,b<w.heap.size→¬O b→w'.heap[b]?=w.heap[b]?)
  {t:Ty} {v:Value} {d:t.den} (h:Bb w O t v d):Bb w' O' t v d :=
 let ⟨cs,h1,a⟩:=h
 ⟨cs,h1.mono c e,a⟩
theorem Bq.zero (w:World) (O:Nat→Prop):∀t:Ty,Bq w O t t.zero t.dflt
 | .int k=>⟨rfl,by cases k<;>exact⟨by decide,by decide⟩⟩
 | .bool=>rfl
 | .str=>⟨rfl,by simp[Ty.dflt,AO]⟩
 | .slice _=>⟨none,0,rfl,by simp[Ty.dflt],by simp[Ty.dflt,AO],.inl rfl⟩
 | .ref _=>rfl
 | .prod a b=>⟨_,_,rfl,Bq.zero w O a,Bq.zero w O b⟩
 | .agg t=>(Bq.zero w O t:Bq w O t _ _)
end
section
open Go
structure PV where
 t:Ty
 d:t.den
def BP (t:Ty) (p:PV):Option t.den:=if h:p.t=t then some (h▸p.d) else none
theorem Eo (t:Ty) (d:t.den):BP t ⟨t,d⟩=some d:=by simp[BP]
def Gy:(t:Ty)→Nat→t.den→Option PV
 | .prod a _,0,d=>some ⟨a,d.1⟩
 | .prod _ b,k+1,d=>Gy b k d.2
 | .int k,0,d=>some ⟨.int k,d⟩
 | .bool,0,d=>some ⟨.bool,d⟩
 | .str,0,d=>some ⟨.str,d⟩
 | .slice e,0,d=>some ⟨.slice e,d⟩
 | .agg t,0,d=>some ⟨.agg t,d⟩
 | .ref k,0,d=>some ⟨.ref k,d⟩
 | _,_,_=>none
def L8:(t:Ty)→Nat→t.den→PV→Option t.den
 | .prod a _,0,d,x=>(BP a x).map fun y=>(y,d.2)
 | .prod _ b,k+1,d,x=>(L8 b k d.2 x).map fun y=>(d.1,y)
 | .int k,0,_,x=>BP (.int k) x
 | .bool,0,_,x=>BP .bool x
 | .str,0,_,x=>BP .str x
 | .slice e,0,_,x=>BP (.slice e) x
 | .agg t,0,_,x=>BP (.agg t) x
 | .ref k,0,_,x=>BP (.ref k) x
 | _,_,_,_=>none
def KF:Ty→Nat→Option Nat
 | .prod _ _,0=>some 0
 | .prod a b,k+1=>(KF b k).map (a.size + ·)
 | .int _,0=>some 0
 | .bool,0=>some 0
 | .str,0=>some 0
 | .slice _,0=>some 0
 | .agg _,0=>some 0
 | .ref _,0=>some 0
 | _,_=>none
def WX:Ty→Nat→Option Ty
 | .prod a _,0=>some a
 | .prod _ b,k+1=>WX b k
 | .int k,0=>some (.int k)
 | .bool,0=>some .bool
 | .str,0=>some .str
 | .slice e,0=>some (.slice e)
 | .agg t,0=>some (.agg t)
 | .ref k,0=>some (.ref k)
 | _,_=>none
def Qp:List Nat→(t:Ty)→t.den→Option PV
 | [],t,d=>some ⟨t,d⟩
 | k :: r,.agg t,d=>match Gy t k d with
  | some pv=>Qp r pv.t pv.d
  | none=>none
 | _ :: _,_,_=>none
def Sg:List Nat→(t:Ty)→t.den→PV→Option t.den
 | [],t,_,x=>BP t x
 | k :: r,.agg t,d,x=>match Gy t k d with
  | some pv=>match Sg r pv.t pv.d x with
   | some y=>L8 t k d ⟨pv.t,y⟩
   | none=>none
  | none=>none
 | _ :: _,_,_,_=>none
def L5:List Nat→Ty→Option Nat
 | [],_=>some 0
 | k :: r,.agg t=>match KF t k,WX t k with
  | some o,some u=>(L5 r u).map (o + ·)
  | _,_=>none
 | _ :: _,_=>none
inductive AV where
 
 | p (t:Ty) (d:t.den)
 
 | raw (v:Value)
 
 | sr (n:Nat) (e:Ty) (lo hi:Nat)
 
 | ep (n:Nat) (e:Ty) (i:Nat) (path:List Nat) (off:Nat)
 
 | pc (e:Ty) (d:List e.den)
 
 | ip (t:Ty) (d:t.den)
 
 | bp (n:Nat) (path:List Nat) (off:Nat)
 | fn (f:FuncId)
 
 | clo (f:FuncId) (ns:List Nat)
 
 | mp (n:Nat)
 
 | yl (n:Nat)
 
 | nin (n:Nat) (e:Ty) (i len:Nat)
 
 | ag (l:List AV)
 | tup (l:List AV)
 
 | top
inductive Obj where
 | arr (et:TypeId) (e:Ty) (xs:List e.den)
 | box (et:TypeId) (st:Bool) (fs:List AV)
 
 | mapo (k v:Ty) (l:List (k.den×v.den))
 
 | itr (k v:Ty) (l:List (k.den×v.den)) (left:List Nat) (cur:Option Nat)
 
 | nest (et iet:TypeId) (k e:Ty) (xs:List (k.den×List e.den)) (h:Option Nat)
 
 | frame (tm:Array Value) (fs:List (Nat×AV))
 
 | loop (L:Go.Loop)
 
 | dfr
structure St where
 env:List (Nat×AV)
 objs:List (Nat×Obj)
def lk {α:Type}:Nat→List (Nat×α)→Option α
 | _,[]=>none
 | k,(j,v) :: r=>if k=j then some v else lk k r
def del {α:Type}:Nat→List (Nat×α)→List (Nat×α)
 | _,[]=>[]
 | k,(j,v) :: r=>if k=j then del k r else (j,v) :: del k r
def upd {α:Type}:Nat→α→List (Nat×α)→List (Nat×α)
 | _,_,[]=>[]
 | k,u,(j,v) :: r=>if k=j then (j,u) :: upd k u r else (j,v) :: upd k u r
def sub {α:Type} (xs:List α) (lo hi:Nat):List α:=(xs.drop lo).take (hi-lo)
theorem Hl {α:Type} (xs:List α):sub xs 0 xs.length=xs:=by simp[sub]
structure TI where
 ty:Ty
 offs:List (Nat×Nat):=[]
 el:TypeId:=0
 bytes:Nat
inductive RV where
 | p (t:Ty) (d:t.den)
 | own (et:TypeId) (e:Ty) (xs:List e.den)
@[reducible] def Ku:List Ty→Type
 | []=>Unit
 | t :: r=>t.den×Ku r
def Ty.flat:Ty→Bool
 | .slice _=>false
 | .prod a b=>a.flat&&b.flat
 | .agg t=>t.flat
 | .int _=>true
 | .bool=>true
 | .str=>true
 | .ref _=>true
def RV.flat:RV→Bool
 | .p t _=>t.flat
 | .own _ _ _=>false
structure Ad where
 ins:List Ty
 lend:Bool:=false
 pre:Ku ins→Prop
 out:Ku ins→List RV
structure Tb where
 ty:List (Nat×TI)
 fns:List (Nat×Ad)
 
 pure:List Nat:=[]
 
 nests:List (Nat×TypeId):=[]
 
 live:List Nat:=[]
def inB (n:Nat):List Nat→Bool
 | []=>false
 | m :: r=>if n=m then true else inB n r
def Gr:Value→AV
 | .int k n=>if k.min≤n∧n≤k.max then .p (.int k) n else .raw (.int k n)
 | .bool b=>.p .bool b
 | .string s=>if s.size≤AO then .p .str s else .raw (.string s)
 | v=>.raw v
def Aj (σ:St):Operand→Option AV
 | .tmp t=>lk t σ.env
 | .const v=>some (Gr v)
 | .func f=>some (.fn f)
 | .global _=>none
def O7 (e:Ty) (lo hi:Nat):Option Obj→Option (List e.den)
 | some (.arr _ a xs)=>BP (.slice e) ⟨.slice a,sub xs lo hi⟩
 | some (.nest _ _ k a xs none)=>BP (.slice e) ⟨.slice (.agg (.prod k (.slice a))),sub xs lo hi⟩
 | _=>none
def O8 (e:Ty) (i:Nat):Option Obj→Option (List e.den)
 | some (.nest _ _ k a xs none)=>BP (.slice e) ⟨.slice a,(xs.getD i (k.dflt,[])).2⟩
 | _=>none
def EZ (l:Bool) (σ:St):(t:Ty)→AV→Option t.den
 | t,.p u d=>BP t ⟨u,d⟩
 | .slice e,.sr n a lo hi=>if l=true∧a=e then O7 e lo hi (lk n σ.objs) else none
 | .slice e,.nin n a i _=>if l=true∧a=e then O8 e i (lk n σ.objs) else none
 | .slice _,.raw (.slice none 0 0)=>some []
 | _,_=>none
def Lj {α β:Type}:Option α→Option β→Option (α×β)
 | some a,some b=>some (a,b)
 | _,_=>none
def KG (l:Bool) (σ:St):List AV→(t:Ty)→Option t.den
 | [],_=>none
 | [x],t=>EZ l σ t x
 | x :: y :: r,.prod a b=>Lj (EZ l σ a x) (KG l σ (y :: r) b)
 | _ :: _ :: _,_=>none
def Kv (l:Bool) (σ:St):(t:Ty)→AV→Option t.den
 | .agg t,.ag fs=>KG l σ fs t
 | t,x=>EZ l σ t x
def AY (n:Nat):List Nat→Bool
 | []=>false
 | m :: r=>if n=m then true else AY n r
theorem AZ (n:Nat):∀l:List Nat,AY n l=true↔n∈l
 | []=>by simp[AY]
 | m :: r=>by
  simp only[AY,By];split
  ·rename_i h;simp[h]
  ·rename_i h;simp[h,AZ n r]
mutual
def AV.fgt (hs:List Nat):AV→AV
 | .sr m e lo hi=>if AY m hs=true then .top else .sr m e lo hi
 | .ep m e i path off=>if AY m hs=true then .top else .ep m e i path off
 | .nin m e i len=>if AY m hs=true then .top else .nin m e i len
 | .bp m path off=>if AY m hs=true then .top else .bp m path off
 | .mp m=>if AY m hs=true then .top else .mp m
 | .yl m=>if AY m hs=true then .top else .yl m
 | .clo f ns=>if (ns.any fun n=>AY n hs)=true then .top else .clo f ns
 | .ag l=>.ag (AV.fgts hs l)
 | .tup l=>.tup (AV.fgts hs l)
 | .p t d=>.p t d
 | .pc e d=>.pc e d
 | .raw v=>.raw v
 | .ip t d=>.ip t d
 | .fn f=>.fn f
 | .top=>.top
def AV.fgts (hs:List Nat):List AV→List AV
 | []=>[]
 | x :: r=>AV.fgt hs x :: AV.fgts hs r
end
def BV (hs:List Nat):List (Nat×AV)→List (Nat×AV)
 | []=>[]
 | (s,x) :: r=>(s,x.fgt hs) :: BV hs r
def Obj.fgt (hs:List Nat):Obj→Obj
 | .arr et e xs=>.arr et e xs
 | .box et st fs=>.box et st (AV.fgts hs fs)
 | .mapo k v l=>.mapo k v l
 | .nest et b k e xs h=>.nest et b k e xs h
 | .frame i fs=>.frame i (BV hs fs)
 | .loop L=>.loop L
 | .itr c g d f a=>.itr c g d f a
 | .dfr=>.dfr
def Af (a hs:List Nat):List (Nat×Obj)→List (Nat×Obj)
 | []=>[]
 | (n,o) :: r=>if AY n a=true then Af a hs r else (n,o.fgt hs) :: Af a hs r
mutual
def AV.trn (n:Nat) (hs:List Nat):AV→AV
 | .nin m e i len=>if m=n∨AY m hs=true then .top else .nin m e i len
 | .sr m e lo hi=>if AY m hs=true then .top else .sr m e lo hi
 | .ep m e i path off=>if AY m hs=true then .top else .ep m e i path off
 | .bp m path off=>if AY m hs=true then .top else .bp m path off
 | .mp m=>if AY m hs=true then .top else .mp m
 | .yl m=>if AY m hs=true then .top else .yl m
 | .clo f ns=>if (ns.any fun n=>AY n hs)=true then .top else .clo f ns
 | .ag l=>.ag (AV.trns n hs l)
 | .tup l=>.tup (AV.trns n hs l)
 | .p t d=>.p t d
 | .pc e d=>.pc e d
 | .raw v=>.raw v
 | .ip t d=>.ip t d
 | .fn f=>.fn f
 | .top=>.top
def AV.trns (n:Nat) (hs:List Nat):List AV→List AV
 | []=>[]
 | x :: r=>AV.trn n hs x :: AV.trns n hs r
end
def Dy (n:Nat) (hs:List Nat):List (Nat×AV)→List (Nat×AV)
 | []=>[]
 | (s,x) :: r=>(s,x.trn n hs) :: Dy n hs r
def Obj.trn (n:Nat) (hs:List Nat):Obj→Obj
 | .arr et e xs=>.arr et e xs
 | .box et st fs=>.box et st (AV.trns n hs fs)
 | .mapo k v l=>.mapo k v l
 | .nest et b k e xs h=>.nest et b k e xs h
 | .frame i fs=>.frame i (Dy n hs fs)
 | .loop L=>.loop L
 | .itr c g d f a=>.itr c g d f a
 | .dfr=>.dfr
def CZ (n:Nat) (hs:List Nat):List (Nat×Obj)→List (Nat×Obj)
 | []=>[]
 | (m,o) :: r=>if AY m (n :: hs)=true then CZ n hs r else (m,o.trn n hs) :: CZ n hs r
def Ci:Option Obj→Bool
 | some (.nest _ _ _ _ _ _)=>true
 | _=>false
def O6 (σ:St) (e:Ty):AV→Option (List e.den)
 | .sr n a lo hi=>if Ci (lk n σ.objs)=true then none else Kv true σ (.slice e) (.sr n a lo hi)
 | x=>Kv true σ (.slice e) x
end
section
open Go
def Ab (x y:ByteArray):Bool:=x.toList==y.toList
def Hd (x y:ByteArray):Bool:=Op.bytesLess x.toList y.toList
def CB (op:BinOp) (k:IntKind) (x y:Int):Int :=
 k.wrap (match op with
  | .and=>((BitVec.ofInt k.bits x &&& BitVec.ofInt k.bits y).toNat:Int)
  | .or=>((BitVec.ofInt k.bits x ||| BitVec.ofInt k.bits y).toNat:Int)
  | .xor=>((BitVec.ofInt k.bits x ^^^ BitVec.ofInt k.bits y).toNat:Int)
  | _=>((BitVec.ofInt k.bits x &&& ~~~BitVec.ofInt k.bits y).toNat:Int))
def Sh (k:IntKind) (x y:Int):Int:=k.wrap (x*2 ^ (min y.toNat k.bits))
def WY (k:IntKind) (x y:Int):Int:=x.fdiv (2 ^ (min y.toNat k.bits))
def aC (k:IntKind) (a b:Int):BinOp→Prop×AV
 | .add=>(Li k (a+b),.p (.int k) (a+b))
 | .sub=>(Li k (a-b),.p (.int k) (a-b))
 | .mul=>(Li k (a*b),.p (.int k) (a*b))
 | .quo=>(b≠0∧Li k (a.tdiv b),.p (.int k) (a.tdiv b))
 | .rem=>(b≠0∧Li k (a.tmod b),.p (.int k) (a.tmod b))
 | .and=>(True,.p (.int k) (CB .and k a b))
 | .or=>(True,.p (.int k) (CB .or k a b))
 | .xor=>(True,.p (.int k) (CB .xor k a b))
 | .andNot=>(True,.p (.int k) (CB .andNot k a b))
 | .shl=>(False,.top)
 | .shr=>(False,.top)
 | .eql=>(True,.p .bool (a==b))
 | .neq=>(True,.p .bool (a != b))
 | .lss=>(True,.p .bool (decide (a<b)))
 | .leq=>(True,.p .bool (decide (a≤b)))
 | .gtr=>(True,.p .bool (decide (b<a)))
 | .geq=>(True,.p .bool (decide (b≤a)))
def Tc (a b:ByteArray):BinOp→Prop×AV
 | .add=>(a.size+b.size≤AO,.p .str (a++b))
 | .eql=>(True,.p .bool (Ab a b))
 | .neq=>(True,.p .bool (!Ab a b))
 | .lss=>(True,.p .bool (Hd a b))
 | .leq=>(True,.p .bool (Hd a b||Ab a b))
 | .gtr=>(True,.p .bool (!(Hd a b||Ab a b)))
 | .geq=>(True,.p .bool (!Hd a b))
 | _=>(False,.top)
def yC (op:BinOp) (k:IntKind) (a:Int) (c:IntKind) (b:Int):Prop×AV :=
 match op with
 | .shl=>(0≤b,.p (.int k) (Sh k a b))
 | .shr=>(0≤b∧Li k (WY k a b),.p (.int k) (WY k a b))
 | op=>if k=c then aC k a b op else (False,.top)
def pY:Ty→AV
 | .slice _=>.raw (.slice none 0 0)
 | .ref k=>.raw (Kt k)
 | t=>.p t t.dflt
def pZ:Ty→List AV
 | .prod a b=>pY a :: pZ b
 | t=>[pY t]
def pfs:(t:Ty)→t.den→List AV
 | .prod a b,d=>.p a d.1 :: pfs b d.2
 | .int k,d=>[.p (.int k) d]
 | .bool,d=>[.p .bool d]
 | .str,d=>[.p .str d]
 | .slice e,d=>[.p (.slice e) d]
 | .agg t,d=>[.p (.agg t) d]
 | .ref k,d=>[.p (.ref k) d]
def AV.cells:AV→Nat
 | .p t _=>t.size
 | .ag _=>0
 | .tup _=>0
 | _=>1
def CE:List AV→Nat→Nat
 | _,0=>0
 | [],_+1=>0
 | x :: r,k+1=>x.cells+CE r k
def JG (st:Bool) (fs:List AV):List Nat→Option AV
 | []=>if st then some (.ag fs) else fs[0]?
 | [k]=>if st then fs[k]? else none
 | k :: r=>if st then match fs[k]? with
   | some (.p t d)=>(Qp r t d).map fun pv=>.p pv.t pv.d
   | _=>none
  else none
def OB (fs:List AV):List Nat→Option Nat
 | []=>some 0
 | k :: r=>match fs[k]? with
  | some (.p t _)=>(L5 r t).map (CE fs k + ·)
  | some _=>if r.isEmpty then some (CE fs k) else none
  | none=>none
def Ty.cell1:Ty→Bool
 | .agg _=>false
 | .prod _ _=>false
 | .int _=>true
 | .bool=>true
 | .str=>true
 | .slice _=>true
 | .ref _=>true
def CU (ty:Ty):AV→Bool
 | .p t _=>ty=t
 | .ag l=>match ty with|.agg t=>CE l l.length==t.size|_=>false
 | .tup _=>false
 | .top=>false
 | .raw u=>u.oneCell'&&ty.cell1
 | _=>ty.cell1
def L9 (ty:Ty):AV→Bool
 | .top=>ty.cell1
 | x=>CU ty x
def GX (n:Nat):Bool:=decide (1000000≤n)
mutual
def AV.frz (n:Nat) (e:Ty) (xs:List e.den):AV→AV
 | .sr m e' lo hi=>if m=n then (if e'=e then .p (.slice e) (sub xs lo hi) else .top) else .sr m e' lo hi
 | .ep m e' i path off=>if m=n then .top else .ep m e' i path off
 | .nin m e' i len=>if m=n then .top else .nin m e' i len
 | .ag l=>.ag (AV.frzs n e xs l)
 | .tup l=>.tup (AV.frzs n e xs l)
 | .p t d=>.p t d
 | .pc e d=>.pc e d
 | .raw v=>.raw v
 | .ip t d=>.ip t d
 | .bp m path off=>.bp m path off
 | .fn f=>.fn f
 | .clo f ns=>.clo f ns
 | .mp n=>.mp n
 | .yl n=>.yl n
 | .top=>.top
def AV.frzs (n:Nat) (e:Ty) (xs:List e.den):List AV→List AV
 | []=>[]
 | x :: r=>AV.frz n e xs x :: AV.frzs n e xs r
end
def DJ (n:Nat) (e:Ty) (xs:List e.den):List (Nat×AV)→List (Nat×AV)
 | []=>[]
 | (s,x) :: r=>(s,x.frz n e xs) :: DJ n e xs r
def A7 (n:Nat) (e:Ty) (xs:List e.den):List (Nat×Obj)→List (Nat×Obj)
 | []=>[]
 | (m,.arr et a ys) :: r=>(m,.arr et a ys) :: A7 n e xs r
 | (m,.box et st fs) :: r=>(m,.box et st (AV.frzs n e xs fs)) :: A7 n e xs r
 | (m,.mapo k v l) :: r=>(m,.mapo k v l) :: A7 n e xs r
 | (m,.nest et c k a ys h) :: r=>(m,.nest et c k a ys h) :: A7 n e xs r
 | (m,.frame j fs) :: r=>(m,.frame j (DJ n e xs fs)) :: A7 n e xs r
 | (m,.loop L) :: r=>(m,.loop L) :: A7 n e xs r
 | (m,.itr d i f g b) :: r=>(m,.itr d i f g b) :: A7 n e xs r
 | (m,.dfr) :: r=>(m,.dfr) :: A7 n e xs r
def aD (n:Nat) (σ:St):Option Obj→St
 | some (.arr _ e xs)=>⟨DJ n e xs σ.env,A7 n e xs (del n σ.objs)⟩
 | some (.nest _ _ k e xs none)=>⟨DJ n (.agg (.prod k (.slice e))) xs σ.env,A7 n (.agg (.prod k (.slice e))) xs (del n σ.objs)⟩
 | _=>σ
def frz (n:Nat) (σ:St):St:=if GX n=true then σ else aD n σ (lk n σ.objs)
mutual
def AV.drp (n:Nat):AV→AV
 | .sr m e' lo hi=>if m=n then .top else .sr m e' lo hi
 | .ep m e' i path off=>if m=n then .top else .ep m e' i path off
 | .nin m e' i len=>if m=n then .top else .nin m e' i len
 | .ag l=>.ag (AV.drps n l)
 | .tup l=>.tup (AV.drps n l)
 | .p t d=>.p t d
 | .pc e d=>.pc e d
 | .raw v=>.raw v
 | .ip t d=>.ip t d
 | .bp m path off=>.bp m path off
 | .fn f=>.fn f
 | .clo f ns=>.clo f ns
 | .mp n=>.mp n
 | .yl n=>.yl n
 | .top=>.top
def AV.drps (n:Nat):List AV→List AV
 | []=>[]
 | x :: r=>AV.drp n x :: AV.drps n r
end
def FY (n:Nat):List (Nat×AV)→List (Nat×AV)
 | []=>[]
 | (s,x) :: r=>(s,x.drp n) :: FY n r
def BW (n:Nat):List (Nat×Obj)→List (Nat×Obj)
 | []=>[]
 | (m,.arr et a ys) :: r=>(m,.arr et a ys) :: BW n r
 | (m,.box et st fs) :: r=>(m,.box et st (AV.drps n fs)) :: BW n r
 | (m,.mapo k v l) :: r=>(m,.mapo k v l) :: BW n r
 | (m,.nest et c k a ys h) :: r=>(m,.nest et c k a ys h) :: BW n r
 | (m,.frame i fs) :: r=>(m,.frame i (FY n fs)) :: BW n r
 | (m,.loop L) :: r=>(m,.loop L) :: BW n r
 | (m,.itr d g e f b) :: r=>(m,.itr d g e f b) :: BW n r
 | (m,.dfr) :: r=>(m,.dfr) :: BW n r
mutual
def AV.names:AV→List Nat
 | .sr m _ _ _=>[m]
 | .ag l=>AV.namess l
 | .tup l=>AV.namess l
 | .p _ _=>[]
 | .pc _ _=>[]
 | .raw _=>[]
 | .ip _ _=>[]
 | .bp _ _ _=>[]
 | .ep _ _ _ _ _=>[]
 | .nin _ _ _ _=>[]
 | .fn _=>[]
 | .clo _ _=>[]
 | .mp _=>[]
 | .yl _=>[]
 | .top=>[]
def AV.namess:List AV→List Nat
 | []=>[]
 | x :: r=>x.names++AV.namess r
end
def GP (σ:St):Option Operand→Option (Option AV)
 | none=>some none
 | some x=>(Aj σ x).map some
def Ep (σ:St) (e:Ty):Nat→List (Nat×Operand)→Option (List e.den)
 | _,[]=>some []
 | k,(i,x) :: r=>if i=k then match Aj σ x with
   | some av=>match Kv false σ e av,Ep σ e (k+1) r with
    | some y,some ys=>some (y :: ys)
    | _,_=>none
   | none=>none
  else none
def Hm:AV→Bool
 | .p (.prod _ _) _=>false
 | .p _ _=>true
 | .raw u=>u.oneCell'
 | .ag _=>false
 | .tup _=>false
 | .top=>false
 | _=>true
def FZ (σ:St):Option AV→Option AV→Option AV
 | some (.p t _),some (.ag l)=>(Kv false σ t (.ag l)).map fun d=>.p t d
 | _,x=>x
def Dj (σ:St) (offs:List (Nat×Nat)):List AV→List (Nat×Operand)→Option (List AV)
 | fs,[]=>some fs
 | fs,(i,x) :: r=>match FZ σ fs[i]? (Aj σ x) with
  | some av=>if Hm av=true∧(fs[i]?.map AV.cells)=some av.cells∧offs[i]?=some (CE fs i,av.cells) then Dj σ offs (fs.set i av) r else none
  | none=>none
def F4 (l:Bool) (σ:St):(ts:List Ty)→List Operand→Option (Ku ts)
 | [],[]=>some ()
 | t :: ts,x :: xs=>match Aj σ x with
  | some av=>match Kv l σ t av,F4 l σ ts xs with
   | some y,some ys=>some (y,ys)
   | _,_=>none
  | none=>none
 | _,_=>none
def Yj (name:Nat):RV→AV
 | .p t d=>.p t d
 | .own _ e xs=>.sr name e 0 xs.length
def O9 (name:Nat):RV→List (Nat×Obj)
 | .p _ _=>[]
 | .own et e xs=>[(name,.arr et e xs)]
def MA:Nat→List RV→List AV
 | _,[]=>[]
 | n,r :: l=>Yj n r :: MA (n+10000) l
def Cr:Nat→List RV→List (Nat×Obj)
 | _,[]=>[]
 | n,r :: l=>O9 n r++Cr (n+10000) l
def JH (name:Nat):List RV→AV
 | []=>.raw (.tuple #[])
 | [r]=>Yj name r
 | l=>.tup (MA name l)
def Jk:(t:Ty)→t.den→t.den→Bool
 | .int _,a,b=>(a:Int)==b
 | .bool,a,b=>(a:Bool)==b
 | .str,a,b=>(a:ByteArray)==b
 | .prod t u,a,b=>Jk t a.1 b.1&&Jk u a.2 b.2
 | .agg t,a,b=>Jk t a b
 | .slice _,_,_=>false
 | .ref _,_,_=>false
def aE:Ty→Bool
 | .prod (.int _) (.int _)=>true
 | _=>false
def Td:Ty→Bool
 | .int _=>true
 | .bool=>true
 | .str=>true
 | .prod _ _=>false
 | .agg t=>aE t
 | .slice _=>false
 | .ref _=>false
def A8 (a b:Ty) (k:a.den):List (a.den×b.den)→Option b.den
 | []=>none
 | x :: r=>if Jk a k x.1=true then some x.2 else A8 a b k r
def IC (a b:Ty) (k:a.den) (v:b.den):List (a.den×b.den)→List (a.den×b.den)
 | []=>[(k,v)]
 | x :: r=>if Jk a k x.1=true then (k,v) :: r else x :: IC a b k v r
abbrev Bc:=Option (Prop×AV×List (Nat×Obj))
def HJ (x:AV) (lo hi:Option AV):Bc :=
 match x,lo,hi with
 | .p (.slice e) l,none,some (.p (.int _) h)=>some (0≤h∧h≤l.length,.p (.slice e) (sub l 0 h.toNat),[])
 | .p (.slice e) l,some (.p (.int _) a),none=>some (0≤a∧a≤l.length,.p (.slice e) (sub l a.toNat l.length),[])
 | .p (.slice e) l,some (.p (.int _) a),some (.p (.int _) h)=>some (0≤a∧a≤h∧h≤l.length,.p (.slice e) (sub l a.toNat h.toNat),[])
 | .p .str s,none,some (.p (.int _) h)=>some (0≤h∧h≤s.size,.p .str (s.extract 0 h.toNat),[])
 | .p .str s,some (.p (.int _) a),none=>some (0≤a∧a≤s.size,.p .str (s.extract a.toNat s.size),[])
 | .p .str s,some (.p (.int _) a),some (.p (.int _) h)=>some (0≤a∧a≤h∧h≤s.size,.p .str (s.extract a.toNat h.toNat),[])
 | .sr n e b c,none,some (.p (.int _) h)=>some (0≤h∧h≤(c-b:Nat),.sr n e b (b+h.toNat),[])
 | .sr n e b c,some (.p (.int _) a),none=>some (0≤a∧a≤(c-b:Nat),.sr n e (b+a.toNat) c,[])
 | .sr n e b c,some (.p (.int _) a),some (.p (.int _) h)=>some (0≤a∧a≤h∧h≤(c-b:Nat),.sr n e (b+a.toNat) (b+h.toNat),[])
 | _,_,_=>none
def GY:Option AV→Bc
 | some v=>some (True,v,[])
 | none=>none
def KH:Option AV→Option AV→Option AV→Bc
 | some (.p .bool true),x,_=>GY x
 | some (.p .bool false),_,y=>GY y
 | _,_,_=>none
def Jl (d:Nat) (t:TypeId):Option TI→Bc
 | some ⟨.agg u,_,_,_⟩=>some (True,.bp d [] 0,[(d,.box t true (pZ u))])
 | some ⟨.int k,_,_,_⟩=>some (True,.bp d [] 0,[(d,.box t false [pY (.int k)])])
 | some ⟨.bool,_,_,_⟩=>some (True,.bp d [] 0,[(d,.box t false [pY .bool])])
 | some ⟨.str,_,_,_⟩=>some (True,.bp d [] 0,[(d,.box t false [pY .str])])
 | some ⟨.slice e,_,_,_⟩=>some (True,.bp d [] 0,[(d,.box t false [pY (.slice e)])])
 | some ⟨.ref k,_,_,_⟩=>some (True,.bp d [] 0,[(d,.box t false [pY (.ref k)])])
 | _=>none
def Qq (d:Nat) (t:TypeId):Option TI→Option AV→Bc
 | some ⟨.agg u,_,_,_⟩,some (.p (.agg a) v)=>if u=a then some (True,.bp d [] 0,[(d,.box t true (pfs a v))]) else none
 | some ⟨.agg u,_,_,_⟩,some (.ag l)=>if l.map AV.cells=(pZ u).map AV.cells then some (True,.bp d [] 0,[(d,.box t true l)]) else none
 | some ⟨.int k,_,_,_⟩,some v=>if CU (.int k) v then some (True,.bp d [] 0,[(d,.box t false [v])]) else none
 | some ⟨.bool,_,_,_⟩,some v=>if CU .bool v then some (True,.bp d [] 0,[(d,.box t false [v])]) else none
 | some ⟨.str,_,_,_⟩,some v=>if CU .str v then some (True,.bp d [] 0,[(d,.box t false [v])]) else none
 | some ⟨.slice e,_,_,_⟩,some v=>if CU (.slice e) v then some (True,.bp d [] 0,[(d,.box t false [v])]) else none
 | some ⟨.ref k,_,_,_⟩,some v=>if CU (.ref k) v then some (True,.bp d [] 0,[(d,.box t false [v])]) else none
 | _,_=>none
def ID (σ:St) (parts:List (Nat×Operand)):Option TI→Bc
 | some ⟨.agg u,offs,_,_⟩=>GY ((Dj σ offs (pZ u) parts).map AV.ag)
 | _=>none
def BX (a:Bool) (d:Nat) (n:Nat) (el:TypeId) (e:Ty):Option (List e.den)→Bc
 | some xs=>some (xs.length=n∧n*e.size≤16777216,if a then .p (.slice e) xs else .sr d e 0 n,if a then [] else [(d,.arr el e xs)])
 | none=>none
def BQ (a:Bool) (σ:St) (d:Nat) (n:Nat) (parts:List (Nat×Operand)):Option TI→Bc
 | some ⟨.slice e,_,el,_⟩=>BX a d n el e (Ep σ e 0 parts)
 | _=>none
def Jm (d:Nat) (el b:TypeId) (n:Nat) (k e:Ty):Option k.den→AV→Bc
 | some a,.raw (.slice none 0 0)=>some (n=1∧k.size+1≤16777216,.sr d (.agg (.prod k (.slice e))) 0 1,[(d,.nest el b k e [(a,[])] none)])
 | some a,.pc c l=>if c=e then some ((n=1∧k.size+1≤16777216)∧List.length l=0,.sr d (.agg (.prod k (.slice e))) 0 1,[(d,.nest el b k e [(a,[])] none)]) else none
 | _,_=>none
def IE (σ:St) (d:Nat) (el a:TypeId) (n:Nat):Ty→Option AV→Bc
 | .agg (.prod k (.slice e)),some (.ag [x,y])=>Jm d el a n k e (EZ false σ k x) y
 | _,_=>none
def IG (σ:St) (d:Nat) (a:TypeId) (n:Nat):List (Nat×Operand)→Option TI→Bc
 | [(0,x)],some ⟨.slice t,_,el,_⟩=>IE σ d el a n t (Aj σ x)
 | _,_=>none
def F5 (tb:Tb) (σ:St) (d:Nat) (n:Nat) (parts:List (Nat×Operand)) (ti:Option TI):Option TypeId→Bc
 | some a=>IG σ d a n parts ti
 | none=>BQ (inB d tb.pure) σ d n parts ti
def Hn (ty:Ty) (fs:List AV) (a:List Nat) (off:Nat):Option AV→Bc
 | some v=>if CU ty v=true∧OB fs a=some off then some (True,v,[]) else none
 | none=>none
def Ea (ty:Ty) (a:List Nat) (off:Nat):Option Obj→Bc
 | some (.box _ st fs)=>Hn ty fs a off (JG st fs a)
 | _=>none
def Ho (ty e:Ty) (a:List Nat) (off:Nat):Option PV→Bc
 | some ⟨t,d⟩=>if ty=t∧L5 a e=some off then some (True,.p t d,[]) else none
 | none=>none
def Hq (ty e:Ty) (i:Nat) (a:List Nat) (off:Nat):Option (List e.den)→Bc
 | some ys=>Ho ty e a off (Qp a e (ys.getD i e.dflt))
 | none=>none
def MB (n:Nat) (ty:Ty) (i off:Nat) (k e:Ty) (x:k.den×List e.den):List Nat→Bc
 | [0]=>if ty=k∧off=0 then some (True,.p k x.1,[]) else none
 | [1]=>if ty=.slice e∧off=k.size then some (True,.nin n e i x.2.length,[]) else none
 | _=>none
def Eb (n:Nat) (ty e:Ty) (i:Nat) (b:List Nat) (off:Nat):Option Obj→Bc
 | some (.arr _ a xs)=>Hq ty e i b off (BP (.slice e) ⟨.slice a,xs⟩)
 | some (.nest _ _ k a xs none)=>if e=.agg (.prod k (.slice a)) then MB n ty i off k a (xs.getD i (k.dflt,[])) b else none
 | _=>none
def JJ (σ:St):Option TI→Option AV→Bc
 | some ti,some (.bp n a off)=>Ea ti.ty a off (lk n σ.objs)
 | some ti,some (.ep n e i a off)=>Eb n ti.ty e i a off (lk n σ.objs)
 | some ti,some (.ip u v)=>if ti.ty=u then some (True,.p u v,[]) else none
 | _,_=>none
def Hr (o:Option (Nat×Nat)) (a:Option Nat):Option PV→Bc
 | some ⟨t,d⟩=>if o.map (·.1)=a then some (True,.ip t d,[]) else none
 | none=>none
def Si (v:Nat→AV):Option (Nat×Nat)→Bc
 | some (k,_)=>some (True,v k,[])
 | none=>none
def Nf (f:Nat) (o:Option (Nat×Nat)):AV→Bc
 | .bp n a off=>Si (fun k=>.bp n (a++[f]) (off+k)) o
 | .ep n e i a off=>Si (fun k=>.ep n e i (a++[f]) (off+k)) o
 | .ip (.agg u) v=>Hr o (KF u f) (Gy u f v)
 | _=>none
def GZ (f:Nat):Option TI→Option AV→Bc
 | some ⟨.agg _,offs,0,_⟩,some x=>Nf f offs[f]? x
 | _,_=>none
def JK (offs:List (Nat×Nat)) (x:AV):AV→Bc
 | .p (.int _) k=>if 0≤k then Nf k.toNat offs[k.toNat]? x else none
 | _=>none
def Fa:Option TI→Option AV→Option AV→Bc
 | some ⟨.slice e,_,_,_⟩,some (.p (.slice a) l),some (.p (.int _) k)=>if e=a then some (0≤k∧k<l.length,.ip a (l.getD k.toNat a.dflt),[]) else none
 | some ⟨.slice e,_,_,_⟩,some (.sr n a lo hi),some (.p (.int _) k)=>if e=a then some (0≤k∧k<(hi-lo:Nat),.ep n a (lo+k.toNat) [] 0,[]) else none
 | some ⟨.agg _,offs,_+1,_⟩,some x,some i=>JK offs x i
 | _,_,_=>none
def Dz:Option TI→Option AV→Option AV→Bc
 | some ⟨.str,_,_,_⟩,some (.p .str s),some (.p (.int _) k)=>some (0≤k∧k<s.size,.p (.int .u8) ((s.data.getD k.toNat 0).toNat:Int),[])
 | _,_,_=>none
def Sj:Option AV→Bc
 | some (.bp n a off)=>some (True,.bp n a off,[])
 | some (.ip t v)=>some (True,.ip t v,[])
 | some (.ep n e i a off)=>some (True,.ep n e i a off,[])
 | _=>none
def aF (a b:Bool):BinOp→Bc
 | .eql=>some (True,.p .bool (a==b),[])
 | .neq=>some (True,.p .bool (a != b),[])
 | _=>none
def PI:Option TI→Bool
 | some ⟨.bool,_,_,_⟩=>true
 | _=>false
def PJ (op:BinOp) (ti:Option TI):Option AV→Option AV→Bc
 | some (.p (.int k) a),some (.p (.int c) b)=>some ((yC op k a c b).1,(yC op k a c b).2,[])
 | some (.p .str a),some (.p .str b)=>some ((Tc a b op).1,(Tc a b op).2,[])
 | some (.p .bool a),some (.p .bool b)=>if PI ti=true then aF a b op else none
 | _,_=>none
def xZ:UnOp→Option AV→Bc
 | .not,some (.p .bool b)=>some (True,.p .bool (!b),[])
 | .neg,some (.p (.int k) a)=>some (Li k (0-a),.p (.int k) (0-a),[])
 | _,_=>none
def Rw (l:List Int):ByteArray:=⟨(l.map fun x=>UInt8.ofNat x.toNat).toArray⟩
def JL:Option TI→Option TI→Option AV→Bc
 | some ⟨.int _,_,_,_⟩,some ⟨.int k,_,_,_⟩,some (.p (.int _) a)=>some (Li k a,.p (.int k) a,[])
 | some ⟨.slice (.int .u8),_,_,_⟩,some ⟨.str,_,_,_⟩,some (.p (.slice (.int .u8)) l)=>some (True,.p .str (Rw l),[])
 | _,_,_=>none
def Kw (d:Nat) (el:TypeId) (e:Ty) (n m:Int):Option TI→Bc
 | some ti=>some (n=m∧0≤n∧n.toNat*ti.bytes≤AO,.sr d e 0 n.toNat,[(d,.arr el e (List.replicate n.toNat e.dflt))])
 | none=>none
def II (tb:Tb) (d:Nat):Option TI→Option AV→Option AV→Bc
 | some ⟨.slice e,_,el,_⟩,some (.p (.int .i64) n),some (.p (.int .i64) m)=>Kw d el e n m (lk el tb.ty)
 | _,_,_=>none
def FE:Option TI→Option AV→Option (Option AV)→Option (Option AV)→Bc
 | some ⟨.slice e,_,_,_⟩,some (.p (.slice d) l),some a,some h=>if e=d then HJ (.p (.slice d) l) a h else none
 | some ⟨.slice e,_,_,_⟩,some (.sr n d b c),some a,some h=>if e=d then HJ (.sr n d b c) a h else none
 | some ⟨.str,_,_,_⟩,some (.p .str s),some a,some h=>HJ (.p .str s) a h
 | _,_,_,_=>none
def Dk:Option TI→Option AV→Option AV→Option AV→Bc
 | some ⟨.slice e,_,_,_⟩,some (.p (.slice c) l),some (.p (.int _) a),some (.p (.int _) b)=>if e=c then some (a=(List.length l:Int)∧b=(List.length l:Int),.pc c l,[]) else none
 | _,_,_,_=>none
def EE (i:Nat):Option AV→Bc
 | some (.tup l)=>GY l[i]?
 | _=>none
def Qr:Option TI→Option AV→Bc
 | some ⟨.slice _,_,_,_⟩,some (.p (.slice _) l)=>some (True,.p (.int .i64) (l.length:Int),[])
 | some ⟨.slice _,_,_,_⟩,some (.sr _ _ lo hi)=>some (True,.p (.int .i64) ((hi-lo:Nat):Int),[])
 | some ⟨.slice _,_,_,_⟩,some (.nin _ _ _ len)=>some (True,.p (.int .i64) (len:Int),[])
 | some ⟨.slice _,_,_,_⟩,some (.raw (.slice none 0 0))=>some (True,.p (.int .i64) (0:Int),[])
 | some ⟨.str,_,_,_⟩,some (.p .str s)=>some (True,.p (.int .i64) (s.size:Int),[])
 | _,_=>none
def Eq (d:Nat) (el:TypeId) (e:Ty):Option TI→Option (List e.den)→Bc
 | some ti,some ys=>some (ys.length*ti.bytes≤AO,.sr d e 0 ys.length,[(d,.arr el e ys)])
 | _,_=>none
def EF (tb:Tb) (σ:St) (d:Nat) (v:AV):Option TI→Bc
 | some ⟨.slice e,_,el,_⟩=>Eq d el e (lk el tb.ty) (O6 σ e v)
 | _=>none
def Jn (d:Nat) (el:TypeId) (e:Ty) (l:List e.den):Option TI→Option (List e.den)→Bc
 | some ti,some ys=>some (0<ys.length∧(l.length+ys.length)*ti.bytes≤AO,.sr d e 0 (l.length+ys.length),[(d,.arr el e (l++ys))])
 | _,_=>none
def IJ (tb:Tb) (σ:St) (d:Nat) (e:Ty) (l:List e.den) (v:AV):Option TI→Bc
 | some ⟨.slice a,_,el,_⟩=>if a=e then Jn d el e l (lk el tb.ty) (O6 σ e v) else none
 | _=>none
def Ca (tb:Tb) (σ:St) (d:Nat) (t u:TypeId):Option AV→Option AV→Bc
 | some (.raw (.slice none 0 0)),some v=>if t=u then EF tb σ d v (lk t tb.ty) else none
 | some (.pc e l),some v=>if t=u then IJ tb σ d e l v (lk t tb.ty) else none
 | _,_=>none
def PK:Option AV→Option AV→Bc
 | some (.p (.int k) a),some (.p (.int c) b)=>if k=c then some (True,.p (.int k) (if b<a then b else a),[]) else none
 | _,_=>none
def IK:Option AV→Option AV→Option AV→Bc
 | some (.p (.int k) a),some (.p (.int d) b),some (.p (.int e) c)=>if k=d∧k=e then some (True,.p (.int k) (if c<(if b<a then b else a) then c else (if b<a then b else a)),[]) else none
 | _,_,_=>none
def PM:Option AV→Option AV→Bc
 | some (.p (.int k) a),some (.p (.int c) b)=>if k=c then some (True,.p (.int k) (if a<b then b else a),[]) else none
 | _,_=>none
def Jo (d:Nat) (sp:Ad):Option (Ku sp.ins)→Bc
 | some ds=>if sp.lend=false∨(sp.out ds).all RV.flat=true then some (sp.pre ds,JH d (sp.out ds),Cr d (sp.out ds)) else none
 | none=>none
def IL (σ:St) (d:Nat) (xs:List Operand):Option Ad→Bc
 | some sp=>Jo d sp (F4 sp.lend σ sp.ins xs)
 | none=>none
def Lk (tb:Tb) (σ:St) (d:Nat) (xs:List Operand):Option AV→Bc
 | some (.fn f)=>IL σ d xs (lk f tb.fns)
 | _=>none
def Cs (tb:Tb) (σ:St) (d:Nat):Builtin→List Operand→List TypeId→Bc
 | .len,[x],[t]=>Qr (lk t tb.ty) (Aj σ x)
 | .append,[x,y],[t,u]=>Ca tb σ d t u (Aj σ x) (Aj σ y)
 | .min,[x,y],[_,_]=>PK (Aj σ x) (Aj σ y)
 | .max,[x,y],[_,_]=>PM (Aj σ x) (Aj σ y)
 | .min,[x,y,z],[_,_,_]=>IK (Aj σ x) (Aj σ y) (Aj σ z)
 | _,_,_=>none
def He (σ:St):List Operand→Option (List Nat)
 | []=>some []
 | x :: r=>match Aj σ x,He σ r with
  | some (.bp n [] 0),some ns=>some (n :: ns)
  | _,_=>none
def Ng (f:FuncId):Option (List Nat)→Bc
 | some ns=>some (True,.clo f ns,[])
 | none=>none
def WZ (σ:St) (fn:Fn) (first a:List Operand):Bc :=
 match fn,first with
 | .func f,[]=>Ng f (He σ a)
 | _,_=>none
def Ff (d:Nat):Option TI→Option TI→Bc
 | some a,some te=>some (True,.mp d,[(d,.mapo a.ty te.ty [])])
 | _,_=>none
def Fg (tb:Tb) (d:Nat):List (Nat×Nat)→Bc
 | [(k,e)]=>Ff d (lk k tb.ty) (lk e tb.ty)
 | _=>none
def FI (tb:Tb) (d:Nat):Option TI→Bc
 | some ⟨.ref 2,offs,_,_⟩=>Fg tb d offs
 | _=>none
def Kx (a:Ty) (ok:Bool) (r:Option a.den):Bc :=
 if ok then some (True,.tup [.p a (r.getD a.dflt),.p .bool r.isSome],[]) else some (True,.p a (r.getD a.dflt),[])
def Jp (a b:Ty) (l:List (a.den×b.den)) (ok:Bool):Option a.den→Bc
 | some k=>if Td a=true then Kx b ok (A8 a b k l) else none
 | none=>none
def HK (tb:Tb) (σ:St) (b d:Nat) (x:AV) (ok:Bool):Option Obj→Bc
 | some (.mapo a c l)=>if (lk b tb.ty).map TI.ty=some a∧(lk b tb.ty).map TI.el=some 0∧(lk d tb.ty).map TI.ty=some c then Jp a c l ok (Kv false σ a x) else none
 | _=>none
def IM (tb:Tb) (σ:St) (ok:Bool):Option TI→Option AV→Option AV→Bc
 | some ⟨.ref 2,[(k,e)],_,_⟩,some (.mp n),some x=>HK tb σ k e x ok (lk n σ.objs)
 | _,_,_=>none
def Cj (tb:Tb) (σ:St) (d:Nat) (xs:List Operand) (ts:List TypeId):Callee→Bc
 | .builtin b=>Cs tb σ d b xs ts
 | .value g=>Lk tb σ d xs (Aj σ g)
 | _=>none
def aq (tb:Tb) (σ:St) (d:Nat):Op→Bc
 | .move x=>GY (Aj σ x)
 | .assign x=>GY (Aj σ x)
 | .pick c x y=>KH (Aj σ c) (Aj σ x) (Aj σ y)
 | .alloc t=>Jl d t (lk t tb.ty)
 | .box t x=>Qq d t (lk t tb.ty) (Aj σ x)
 | .build t parts=>ID σ parts.toList (lk t tb.ty)
 | .buildSlice t n parts=>F5 tb σ d n parts.toList (lk t tb.ty) (lk d tb.nests)
 | .load t x=>JJ σ (lk t tb.ty) (Aj σ x)
 | .fieldAddr s x f=>GZ f (lk s tb.ty) (Aj σ x)
 | .indexAddr t x i=>Fa (lk t tb.ty) (Aj σ x) (Aj σ i)
 | .index t x i=>Dz (lk t tb.ty) (Aj σ x) (Aj σ i)
 | .nilCheck x=>Sj (Aj σ x)
 | .binOp op t x y _=>PJ op (lk t tb.ty) (Aj σ x) (Aj σ y)
 | .unOp op _ x=>xZ op (Aj σ x)
 | .convert s t x=>JL (lk s tb.ty) (lk t tb.ty) (Aj σ x)
 | .makeSlice t l c=>II tb d (lk t tb.ty) (Aj σ l) (Aj σ c)
 | .slice t x none (some hi) (some b)=>Dk (lk t tb.ty) (Aj σ x) (Aj σ hi) (Aj σ b)
 | .slice t x lo hi none=>FE (lk t tb.ty) (Aj σ x) (GP σ lo) (GP σ hi)
 | .extract x i=>EE i (Aj σ x)
 | .call c=>Cj tb σ d c.args.toList c.argTypes.toList c.callee
 | .makeFunc fn first a=>WZ σ fn first.toList a.toList
 | .makeMap t none=>FI tb d (lk t tb.ty)
 | .lookup t x i ok=>IM tb σ ok (lk t tb.ty) (Aj σ x) (Aj σ i)
 | _=>none
def Nh:AV→Bool
 | .ag _=>false
 | _=>true
def Jq (st:Bool) (fs:List AV) (v:AV):List Nat→Option (List AV)
 | []=>if st then match v with
   | .p (.agg u) d=>some (pfs u d)
   | .ag l=>some l
   | _=>none
  else if Nh v then some [v] else none
 | [k]=>if st&&Nh v then some (fs.set k v) else none
 | k :: r=>if st then match fs[k]?,v with
   | some (.p t d),.p u x=>(Sg r t d ⟨u,x⟩).map fun y=>fs.set k (.p t y)
   | _,_=>none
  else none
abbrev DI:=Option (Prop×St)
def Er (σ:St) (n:Nat) (et:TypeId) (st:Bool) (ty:Ty) (fs:List AV) (b:List Nat) (off:Nat) (v:AV):Option AV→Option (List AV)→DI
 | some u,some a=>if L9 ty u=true∧CU ty v=true∧OB fs b=some off∧a.map AV.cells=fs.map AV.cells then some (True,⟨σ.env,upd n (.box et st a) σ.objs⟩) else none
 | _,_=>none
def DR (σ:St) (n:Nat) (ty:Ty) (a:List Nat) (off:Nat) (v:AV):Option Obj→DI
 | some (.box et st fs)=>Er σ n et st ty fs a off v (JG st fs a) (Jq st fs v a)
 | _=>none
def FJ (σ:St) (n:Nat) (et:TypeId) (e:Ty) (i:Nat) (a:List Nat) (off:Nat) (ys:List e.den):Option e.den→DI
 | some z=>if L5 a e=some off then some (True,⟨σ.env,upd n (.arr et e (ys.set i z)) σ.objs⟩) else none
 | none=>none
def EH (σ:St) (n:Nat) (et:TypeId) (ty e:Ty) (i:Nat) (a:List Nat) (off:Nat):Option (List e.den)→Option ty.den→DI
 | some ys,some w=>FJ σ n et e i a off ys (Sg a e (ys.getD i e.dflt) ⟨ty,w⟩)
 | _,_=>none
def Ll (σ:St) (d n:Nat) (et a:TypeId) (k e:Ty) (xs:List (k.den×List e.den)) (i bytes:Nat):Option (List e.den)→DI
 | some ys=>if (lk d σ.objs).isNone=true∧ys.isEmpty=false then some (((xs.getD i (k.dflt,[])).2.length+ys.length)*bytes≤AO,
   ⟨(d,.sr d e 0 ((xs.getD i (k.dflt,[])).2.length+ys.length)) :: Dy n [] σ.env,(d,.arr a e ((xs.getD i (k.dflt,[])).2++ys)) :: (n,.nest et a k e xs (some i)) :: CZ n [] σ.objs⟩) else none
 | none=>none
def Ni (σ:St) (d n:Nat) (el:TypeId) (b:Ty) (i:Nat) (v:AV):Option TI→Option Obj→DI
 | some ti,some (.nest et a k e xs none)=>if b=e∧a=el∧GX n=false then Ll σ d n et a k e xs i ti.bytes (O6 σ e v) else none
 | _,_=>none
def MC (tb:Tb) (σ:St) (d n:Nat) (a:Ty) (i:Nat) (v:AV):Option TI→DI
 | some ⟨.slice e,_,el,_⟩=>if a=e then Ni σ d n el e i v (lk el tb.ty) (lk n σ.objs) else none
 | _=>none
def Jr (σ:St) (n m:Nat) (et a:TypeId) (k e:Ty) (xs:List (k.den×List e.den)) (i hi:Nat):Option (List e.den)→DI
 | some ys=>some (hi=ys.length,⟨Dy n [m] σ.env,(n,.nest et a k e (xs.set i ((xs.getD i (k.dflt,[])).1,ys)) none) :: CZ n [m] σ.objs⟩)
 | none=>none
def Ky (σ:St) (n m:Nat) (et a:TypeId) (k e:Ty) (xs:List (k.den×List e.den)) (i hi:Nat):Option Obj→DI
 | some (.arr c b ys)=>if c=a∧GX m=false∧GX n=false then Jr σ n m et a k e xs i hi (BP (.slice e) ⟨.slice b,ys⟩) else none
 | _=>none
def Js (σ:St) (d n m:Nat) (et b:TypeId) (k e:Ty) (hi a bytes:Nat) (xs:List (k.den×List e.den)):Option (List (k.den×List e.den))→DI
 | some ys=>some (hi=xs.length∧a=ys.length∧(xs.length+ys.length)*bytes≤AO,
   ⟨(d,.sr n (.agg (.prod k (.slice e))) 0 (xs.length+ys.length)) :: BV [n,m] σ.env,(n,.nest et b k e (xs++ys) none) :: Af [n,m] [n,m] σ.objs⟩)
 | none=>none
def Kz (σ:St) (d n m:Nat) (et a:TypeId) (k e:Ty) (hi c bytes:Nat) (xs:List (k.den×List e.den)):Option Obj→DI
 | some (.nest _ f g b ys none)=>if f=a∧n≠m∧GX m=false then Js σ d n m et a k e hi c bytes xs (BP (.slice (.agg (.prod k (.slice e)))) ⟨.slice (.agg (.prod g (.slice b))),ys⟩) else none
 | _=>none
def PN (σ:St) (d n:Nat) (et b:TypeId) (k e:Ty) (hi bytes:Nat) (xs:List (k.den×List e.den)):AV→DI
 | .sr m _ 0 a=>Kz σ d n m et b k e hi a bytes xs (lk m σ.objs)
 | _=>none
def Nj (σ:St) (d m:Nat) (el b:TypeId) (k e:Ty) (ys:List (k.den×List e.den)) (a bytes:Nat):DI :=
 if (lk d σ.objs).isNone=true∧GX m=false then some (a=ys.length∧ys.length*bytes≤AO,
  ⟨(d,.sr d (.agg (.prod k (.slice e))) 0 ys.length) :: BV [m] σ.env,(d,.nest el b k e ys none) :: Af [m] [m] σ.objs⟩) else none
def Nk (σ:St) (d m:Nat) (el:TypeId) (t:Ty) (a:Nat):Option TI→Option Obj→DI
 | some ti,some (.nest _ b k e ys none)=>if t=.agg (.prod k (.slice e)) then Nj σ d m el b k e ys a ti.bytes else none
 | _,_=>none
def Wa (tb:Tb) (σ:St) (d:Nat):AV→Option TI→DI
 | .sr m _ 0 a,some ⟨.slice t,_,el,_⟩=>Nk σ d m el t a (lk el tb.ty) (lk m σ.objs)
 | _,_=>none
def K0 (σ:St) (n m:Nat) (ty:Ty) (et a:TypeId) (k e:Ty) (xs:List (k.den×List e.den)) (i hi:Nat) (b:List Nat) (off:Nat):DI :=
 if ty=.slice e∧b=[1]∧off=k.size then Ky σ n m et a k e xs i hi (lk m σ.objs) else none
def DS (σ:St) (n:Nat) (ty e:Ty) (i:Nat) (b:List Nat) (off:Nat) (v:AV):Option Obj→DI
 | some (.arr et a xs)=>EH σ n et ty e i b off (BP (.slice e) ⟨.slice a,xs⟩) (Kv false σ ty v)
 | some (.nest et c k a xs (some j))=>match v with
  | .sr m E 0 hi=>if e=.agg (.prod k (.slice a))∧i=j∧E=a then K0 σ n m ty et c k a xs i hi b off else none
  | _=>none
 | _=>none
def HL (σ:St):Option TI→Option AV→Option AV→DI
 | some ti,some (.bp n a off),some v=>DR σ n ti.ty a off v (lk n σ.objs)
 | some ti,some (.ep n e i a off),some v=>DS σ n ti.ty e i a off v (lk n σ.objs)
 | _,_,_=>none
def Es (σ:St) (d n:Nat) (et:TypeId) (e:Ty) (hi:Nat) (bytes:Nat):Option (List e.den)→Option (List e.den)→DI
 | some a,some ys=>some ((hi+ys.length)*bytes≤AO,⟨(d,.sr n e 0 (hi+ys.length)) :: FY n σ.env,upd n (.arr et e (a.take hi++ys)) (BW n σ.objs)⟩)
 | _,_=>none
def CV (σ:St) (d n:Nat) (el:TypeId) (e:Ty) (hi:Nat) (v:AV) (ys:Option (List e.den)):Option TI→Option Obj→DI
 | some ti,some (.arr et a xs)=>if et=el then Es σ d n et e hi ti.bytes (BP (.slice e) ⟨.slice a,xs⟩) ys else none
 | some ti,some (.nest et b k a xs none)=>if et=el∧e=.agg (.prod k (.slice a)) then PN σ d n et b k a hi ti.bytes xs v else none
 | _,_=>none
def EI (tb:Tb) (σ:St) (d:Nat) (n:Nat) (a:Ty) (hi:Nat) (v:AV):Option TI→DI
 | some ⟨.slice e,_,el,_⟩=>if e=a then CV σ d n el e hi v (O6 σ e v) (lk el tb.ty) (lk n σ.objs) else none
 | _=>none
def DE (tb:Tb) (σ:St) (d:Option Nat) (t u:TypeId):Option AV→Option AV→DI
 | some (.sr n e 0 hi),some v=>match d with
  | some d=>if t=u∧GX n=false then EI tb σ d n e hi v (lk t tb.ty) else none
  | none=>none
 | some (.nin n e i _),some v=>match d with
  | some d=>if t=u then MC tb σ d n e i v (lk t tb.ty) else none
  | none=>none
 | some (.raw (.slice none 0 0)),some v=>match d with
  | some d=>if t=u then Wa tb σ d v (lk t tb.ty) else none
  | none=>none
 | _,_=>none
def DT (tb:Tb) (σ:St) (d:Option Nat):Builtin→List Operand→List TypeId→DI
 | .append,[x,y],[t,u]=>DE tb σ d t u (Aj σ x) (Aj σ y)
 | _,_,_=>none
def DF (tb:Tb) (σ:St) (d:Option Nat) (xs:List Operand) (ts:List TypeId):Callee→DI
 | .builtin b=>DT tb σ d b xs ts
 | _=>none
def F6 (σ:St) (n:Nat) (a b:Ty) (l:List (a.den×b.den)):Option a.den→Option b.den→DI
 | some k,some v=>if Td a=true then some (True,⟨σ.env,upd n (.mapo a b (IC a b k v l)) σ.objs⟩) else none
 | _,_=>none
def FT (tb:Tb) (σ:St) (n:Nat) (b:Nat) (x y:AV):Option Obj→DI
 | some (.mapo a c l)=>if (lk b tb.ty).map TI.ty=some a∧(lk b tb.ty).map TI.el=some 0 then F6 σ n a c l (Kv false σ a x) (Kv false σ c y) else none
 | _=>none
def Jt (tb:Tb) (σ:St):Option TI→Option AV→Option AV→Option AV→DI
 | some ⟨.ref 2,[(k,_)],_,_⟩,some (.mp n),some x,some y=>FT tb σ n k x y (lk n σ.objs)
 | _,_,_,_=>none
def Dl (r:DI):Option Nat→DI
 | none=>r
 | some _=>none
def FK (tb:Tb) (σ:St) (d:Option Nat):Op→DI
 | .store t x y=>Dl (HL σ (lk t tb.ty) (Aj σ x) (Aj σ y)) d
 | .mapUpdate t m x y=>Dl (Jt tb σ (lk t tb.ty) (Aj σ m) (Aj σ x) (Aj σ y)) d
 | .call c=>DF tb σ d c.args.toList c.argTypes.toList c.callee
 | _=>none
def St.add (σ:St) (v:AV) (obs:List (Nat×Obj)):Option Nat→St
 | some d=>⟨(d,v) :: σ.env,obs++σ.objs⟩
 | none=>⟨σ.env,obs++σ.objs⟩
def K2:Option AV→List Nat
 | some v=>v.names
 | none=>[]
def Ct (σ:St):List (Nat×Operand)→List Nat
 | []=>[]
 | (_,x) :: r=>K2 (Aj σ x)++Ct σ r
def K3:Option AV→List Nat
 | some (.ag l)=>AV.namess l
 | _=>[]
def Et (σ:St):List (Nat×Operand)→List Nat
 | []=>[]
 | (_,x) :: r=>K3 (Aj σ x)++Et σ r
def B0 (σ:St):Option AV→Option AV→List Nat
 | some (.ep n _ _ _ _),some v=>if Ci (lk n σ.objs)=true then [] else v.names
 | _,_=>[]
def X1:Option AV→Option AV→Option AV→List Nat
 | some (.mp _),some v,some u=>v.names++u.names
 | _,_,_=>[]
def CG (σ:St):Op→List Nat
 | .buildSlice _ _ parts=>Ct σ parts.toList
 | .build _ parts=>Et σ parts.toList
 | .store _ x y=>B0 σ (Aj σ x) (Aj σ y)
 | .mapUpdate _ m x y=>X1 (Aj σ m) (Aj σ x) (Aj σ y)
 | _=>[]
def Ck:List Nat→St→St
 | [],σ=>σ
 | n :: r,σ=>Ck r (frz n σ)
def Bd (obs:List (Nat×Obj)) (σ:St):Bool:=obs.all fun p=>(lk p.1 σ.objs).isNone
def KI (tb:Tb) (σ:St) (o:Oper):Bc→DI
 | some (vc,v,obs)=>if Bd obs σ=true then some (vc,σ.add v obs o.dst) else none
 | none=>FK tb σ o.dst o.op
def Nl (tb:Tb) (o:Oper) (σ:St):DI:=KI tb σ o (aq tb σ (o.dst.getD 0) o.op)
def F7 (tb:Tb) (o:Oper) (σ:St):DI:=Nl tb o (Ck (CG σ o.op) σ)
def Qs (a:Bool):Option AV→Option Bool
 | some (.p .bool b)=>some (b==a)
 | _=>none
def Ju (σ:St) (a:Bool):Option Tmp→Option Bool
 | some g=>Qs a (lk g σ.env)
 | none=>none
def Ef (ops:List Oper) (σ:St):Option (Nat×Bool)→Option Bool
 | none=>some true
 | some (j,a)=>Ju σ a ((ops[j]?).bind (·.dst))
def Te (vc:Prop):DI→DI
 | some (a,σ)=>some (vc∧a,σ)
 | none=>none
mutual
def Br (tb:Tb) (ops:List Oper):List Oper→St→DI
 | [],σ=>some (True,σ)
 | o :: r,σ=>evG tb ops o r σ (Ef ops σ o.guard)
def evG (tb:Tb) (ops:List Oper) (o:Oper) (r:List Oper) (σ:St):Option Bool→DI
 | some true=>evK tb ops r (F7 tb o σ)
 | some false=>Br tb ops r (σ.add (.raw undef) [] o.dst)
 | none=>none
def evK (tb:Tb) (ops:List Oper) (r:List Oper):DI→DI
 | some (vc,σ)=>Te vc (Br tb ops r σ)
 | none=>none
end
end
section
open Go Go.RowKit
theorem CR {w:World} {b:Nat} {o:_root_.Go.Obj} (h:w.heap[b]?=some o):b<w.heap.size:=by grind
def blk:Value→Option Nat
 | .slice (some a) _ _=>some a.block
 | .pointer (some a)=>some a.block
 | .map (some b)=>some b
 | _=>none
def bk (v:Value) (b:Nat):Prop:=blk v=some b∨∃a:Array Value,v=.tuple a∧∃x∈a.toList,blk x=some b
theorem MD {a:Option Addr} {m c b:Nat}:bk (.slice a m c) b↔blk (.slice a m c)=some b:=by
 constructor
 ·intro h;rcases h with h|⟨_,h,_⟩
  ·exact h
  ·cases h
 ·exact .inl
def plc:Value→Value
 | .tuple a=>a.getD 0 undef
 | v=>v
def DK (loc:Value) (sz lo hi:Nat) (v:Value):Prop :=
 ∃(a:Option Addr) (m c:Nat),loc=.slice a m c∧lo≤hi∧hi≤m∧∃(b:Option Addr) (d:Nat),v=.slice b (hi-lo) d∧hi-lo≤d∧(lo=0→b=a∧d=c)∧(lo<hi→b=a.map (·.add (lo*sz)))
structure Vw where
 w:World
 
 O:Nat→Prop
 
 L:Nat→Prop
 
 ρ:Nat→Value
def Lay (u v:Value):Prop:=v=u∨(u=.slice none 0 0∧∃a:Option Addr,v=.slice a 0 0)
def Tf (V:Vw):AV→Value→Prop
 | .p t d,v=>Bb V.w V.O t v d
 | .pc e d,v=>Bb V.w V.O (.slice e) v d∧∃a:Option Addr,v=.slice a (List.length d) (List.length d)
 | .raw u,v=>v=u
 | .sr n e lo hi,v=>V.L n∧DK (plc (V.ρ n)) e.size lo hi v
 | .ep n e i _ off,v=>V.L n∧∃g m c:Nat,plc (V.ρ n)=.slice (some ⟨g,0,none⟩) m c∧i<m∧v=.pointer (some ⟨g,i*e.size+off,none⟩)
 | .nin n _ i len,v=>V.L n∧∃(h:Array Value) (a:Option Addr) (c:Nat) (u:Value),V.ρ n=.tuple h∧h[i+1]?=some u∧Lay u v∧v=.slice a len c
 | .ip t d,v=>∃(ad:Addr) (cs:List Value),v=.pointer (some ad)∧¬V.O ad.block∧(∀(j:Nat) (u:Value),cs[j]?=some u→V.w.cell? (ad.add j)=some u)∧Bq V.w V.O t cs d
 | .bp n _ off,v=>V.L n∧∃b:Nat,V.ρ n=.pointer (some ⟨b,0,none⟩)∧v=.pointer (some ⟨b,off,none⟩)
 | .fn f,v=>v=.func (.func f) #[] #[]
 | .clo f ns,v=>v=.func (.func f) #[] (ns.map V.ρ).toArray∧∀n∈ns,V.L n∧∃b:Nat,V.ρ n=.pointer (some ⟨b,0,none⟩)
 | .mp n,v=>V.L n∧∃b:Nat,V.ρ n=.map (some b)∧v=.map (some b)
 | .yl n,v=>V.L n∧∃b:Nat,V.ρ n=.pointer (some ⟨b,0,none⟩)∧v=.func (.yield b) #[] #[]
 | .top,_=>True
 | .ag _,_=>False
 | .tup _,_=>False
def NZ (V:Vw):AV→List Value→Prop
 | .p t d,cs=>Bq V.w V.O t cs d
 | av,cs=>∃v,cs=[v]∧v.oneCell'=true∧Tf V av v
def Db (V:Vw):List AV→List Value→Prop
 | [],cs=>cs=[]
 | x :: r,cs=>∃c1 c2:List Value,cs=c1++c2∧NZ V x c1∧Db V r c2
def Rx (V:Vw):AV→Value→Prop
 | .ag l,v=>∃cs:List Value,v=.agg cs.toArray∧Db V l cs
 | x,v=>Tf V x v
def KJ (V:Vw):List AV→List Value→Prop
 | [],a=>a=[]
 | x :: r,a=>∃(v:Value) (l:List Value),a=v :: l∧Rx V x v∧KJ V r l
theorem Rx.of1 {V:Vw} {x:AV} {v:Value} (h:Tf V x v):Rx V x v:=by
 cases x;case ag l=>exact h.elim
 all_goals exact h
def B1 (V:Vw):AV→Value→Prop
 | .ag l,v=>∃cs:List Value,v=.agg cs.toArray∧Db V l cs
 | .tup l,v=>∃a:List Value,v=.tuple a.toArray∧KJ V l a
 | av,v=>Tf V av v
theorem yD {V:Vw} {x:AV} {v:Value} (h:Rx V x v):B1 V x v:=by
 cases x;case tup l=>exact(show False from h).elim
 all_goals exact h
def Dv (w:World) (O:Nat→Prop) (e:Ty) (cells:List Value) (xs:List e.den):Prop :=
 ∀(i:Nat) (x:e.den),xs[i]?=some x→∃a:List Value,a.length=e.size∧(∀(j:Nat) (u:Value),a[j]?=some u→cells[i*e.size+j]?=some u)∧Bq w O e a x
def KK (w:World) (O:Nat→Prop) (k v:Ty):List MapEntry→List (k.den×v.den)→Prop
 | [],[]=>True
 | e :: a,x :: xs=>Bb w O k e.key x.1∧Bb w O v e.val x.2∧KK w O k v a xs
 | _,_=>False
def Qt (a:Array MapEntry) (clock:Nat):Prop:=(a.toList.map (·.born)).Nodup∧∀b∈a.toList.map (·.born),b<clock
def OC (V:Vw) (et:TypeId) (e:Ty) (xs:List e.den) (loc:Value):Prop:=xs.length≤AO∧∃cells:List Value,V.w.ownsRow 0 et e.size loc xs.length cells∧Dv V.w V.O e cells xs
def Yk (V:Vw) (a:TypeId) (k e:Ty) (hole:Bool) (cells:List Value) (i:Nat) (x:k.den×List e.den) (u:Value):Prop :=
 ∃(c1:List Value) (v:Value),(∀(j:Nat) (z:Value),(c1++[v])[j]?=some z→cells[i*(k.size+1)+j]?=some z)∧Bq V.w V.O k c1 x.1 ∧
  ((hole=true∧u=.slice none 0 0)∨(hole=false∧Lay u v∧OC V a e x.2 u))
structure Lm (V:Vw) (et iet:TypeId) (k e:Ty) (xs:List (k.den×List e.den)) (h:Option Nat) (o:Value) (ins:List Value) (cells:List Value):Prop where
 max:xs.length≤AO
 len:ins.length=xs.length
 own:V.w.ownsRow 0 et (k.size+1) o xs.length cells
 row:∀(i:Nat) (x:k.den×List e.den) (u:Value),xs[i]?=some x→ins[i]?=some u→Yk V iet k e (h==some i) cells i x u
 dist:∀(i j b:Nat) (u v:Value),ins[i]?=some u→ins[j]?=some v→blk u=some b→blk v=some b→i=j
 out:∀(i b:Nat) (u:Value),ins[i]?=some u→blk u=some b→blk o≠some b
def Shp (loc o:Value) (ins:List Value):Prop:=loc=.tuple (o :: ins).toArray∨(loc=.slice none 0 0∧o=.slice none 0 0∧ins=[])
def A9V (V:Vw) (k v:Ty) (l:List (k.den×v.den)) (left:List Nat) (d:Option Nat) (r:Nat):Prop :=
 ∃(b:Nat) (a:Array MapEntry) (clock c:Nat) (seen:Array Nat),V.w.heap[r]?=some (.mapIter (some b) c seen clock)∧¬V.O b∧V.w.heap[b]?=some (.map a clock)∧KK V.w V.O k v a.toList l∧Qt a clock ∧
  (∀s∈a.toList.map (·.born),s<c)∧c≤clock∧left.Nodup∧(∀i,i∈left↔∃e,a[i]?=some e∧e.born∉seen)∧(∀i,d=some i→∃e,a[i]?=some e∧seen.back?=some e.born)
def A2 (V:Vw):Obj→Value→Prop
 | .arr et e xs,loc=>OC V et e xs loc
 | .nest et d k e xs h,loc=>∃(o:Value) (ins cells:List Value),Shp loc o ins∧Lm V et d k e xs h o ins cells
 | .box et st fs,loc=>(st=false→fs.length=1)∧∃(b:Nat) (cs:List Value),loc=.pointer (some ⟨b,0,none⟩)∧V.w.heap[b]?=some (.cells cs.toArray et (0,0))∧Db V fs cs
 | .mapo k v l,loc=>∃(b:Nat) (a:Array MapEntry) (clock:Nat),loc=.map (some b)∧V.w.heap[b]?=some (.map a clock)∧KK V.w V.O k v a.toList l∧Qt a clock
 | .frame f fs,loc=>loc=.pointer none∧∀s x,lk s fs=some x→B1 V x (f.getD s undef)
 | .itr k v l left c,loc=>∃r:Nat,loc=.pointer (some ⟨r,0,none⟩)∧A9V V k v l left c r
 | .loop L,loc=>∃b:Nat,loc=.pointer (some ⟨b,0,none⟩)∧V.w.heap[b]?=some (.loop L)
 | .dfr,loc=>∃b:Nat,loc=.pointer (some ⟨b,0,none⟩)∧V.w.heap[b]?=some (.deferred (some []))
structure Frm (K:Nat→Prop) (w0 w:World):Prop where
 os:w.os=w0.os
 tape:w.tape=w0.tape
 output:w.output=w0.output
 size:w0.heap.size≤w.heap.size
 block:∀k,K k→w.heap[k]?=w0.heap[k]?
def Gt (σ:St) (n:Nat):Prop:=∃o,lk n σ.objs=some o
def own (O0:Nat→Prop) (σ:St) (ρ:Nat→Value) (b:Nat):Prop:=O0 b∨∃n,Gt σ n∧bk (ρ n) b
def vw (w:World) (O0:Nat→Prop) (σ:St) (ρ:Nat→Value):Vw:=⟨w,own O0 σ ρ,Gt σ,ρ⟩
def A69:Value→Bool
 | .slice _ _ _=>false
 | .tuple _=>false
 | _=>true
structure Fp where
 ds:List Deferred:=[]
 pin:List (Nat×Value):=[]
structure Bn (w0:World) (K O0:Nat→Prop) (nt:Nat) (ds:Fp) (σ:St) (ρ:Nat→Value) (a:Act) (w:World):Prop where
 frm:Frm K w0 w
 nt:a.tmps.size=nt
 defers:a.defers=ds.ds
 pin:∀p∈ds.pin,Gt σ p.1∧ρ p.1=p.2∧(A69 p.2=true∨GX p.1=true)
 objs:∀n o,lk n σ.objs=some o→A2 (vw w O0 σ ρ) o (ρ n)
 free:∀n b,Gt σ n→bk (ρ n) b→¬K b∧¬O0 b
 dist:∀n m b,Gt σ n→Gt σ m→bk (ρ n) b→bk (ρ m) b→n=m
 env:∀s v,lk s σ.env=some v→B1 (vw w O0 σ ρ) v (a.tmps.getD s undef)
structure CW (V V':Vw):Prop where
 O:∀b,b<V.w.heap.size→¬V.O b→¬V'.O b
 L:∀n,V.L n→V'.L n
 ρ:∀n,V.L n→V'.ρ n=V.ρ n
 heap:∀b,b<V.w.heap.size→¬V.O b→V'.w.heap[b]?=V.w.heap[b]?
theorem Tf.keeps {V V':Vw} (h:CW V V'):∀ {x:AV} {v:Value},Tf V x v→Tf V' x v
 | .p _ _,_,b=>Bb.mono h.O h.heap b
 | .pc _ _,_,b=>⟨Bb.mono h.O h.heap b.1,b.2⟩
 | .raw _,_,b=>b
 | .sr n e lo hi,_,⟨a,hs⟩=>⟨h.L n a,by rw[h.ρ n a];exact hs⟩
 | .ep n e i _ off,_,⟨a,hs⟩=>⟨h.L n a,by rw[h.ρ n a];exact hs⟩
 | .nin n _ i len,_,⟨a,hs⟩=>⟨h.L n a,by rw[h.ρ n a];exact hs⟩
 | .ip t d,_,⟨ad,cs,c,g,k,m⟩=>by
  have l:ad.block<V.w.heap.size:=by
   have hp:=t.size_pos;have q:=m.length;have:=block_lt_of_cell (k 0 (cs[0]'(by omega)) (AT (by omega)))
   rwa [CQ]at this
  refine⟨ad,cs,c,h.O _ l g,fun j u o=>?_,Bq.mono h.O h.heap m⟩;rw[ACp (w:=V.w) (w':=V'.w)]
  ·exact k j u o
  ·rw[CQ];exact h.heap _ l g
 | .bp n _ off,_,⟨a,hs⟩=>⟨h.L n a,by rw[h.ρ n a];exact hs⟩
 | .fn _,_,b=>b
 | .clo f ns,_,⟨c,hs⟩=>by
  refine⟨?_,fun n hn=>⟨h.L n (hs n hn).1,by rw[h.ρ n (hs n hn).1];exact(hs n hn).2⟩⟩;rw[c]
  congr 2
  exact tO fun n hn=>(h.ρ n (hs n hn).1).symm
 | .mp n,_,⟨a,hs⟩=>⟨h.L n a,by rw[h.ρ n a];exact hs⟩
 | .yl n,_,⟨a,hs⟩=>⟨h.L n a,by rw[h.ρ n a];exact hs⟩
 | .top,_,_=>trivial
 | .ag _,_,b=>b
 | .tup _,_,b=>b
theorem NZ.keeps {V V':Vw} (h:CW V V') {x:AV} {cs:List Value} (a:NZ V x cs):NZ V' x cs:=by
 cases x;case p t d=>exact(Bq.mono h.O h.heap a:Bq V'.w V'.O t cs d)
 all_goals
  obtain⟨v,h1,b,c⟩:=a;exact⟨v,h1,b,c.keeps h⟩
theorem Db.keeps {V V':Vw} (h:CW V V'):∀ {l:List AV} {cs:List Value},Db V l cs→Db V' l cs
 | [],_,b=>b
 | _ :: _,_,⟨c1,c2,e,h1,a⟩=>⟨c1,c2,e,h1.keeps h,a.keeps h⟩
theorem Rx.keeps {V V':Vw} (h:CW V V') {x:AV} {v:Value} (a:Rx V x v):Rx V' x v:=by
 cases x;case ag l=>obtain⟨cs,h1,b⟩:=a;exact⟨cs,h1,b.keeps h⟩
 all_goals exact Rx.of1 (Tf.keeps h a)
theorem KJ.keeps {V V':Vw} (h:CW V V'):∀ {l:List AV} {a:List Value},KJ V l a→KJ V' l a
 | [],_,c=>c
 | _ :: _,_,⟨v,l,e,h1,b⟩=>⟨v,l,e,h1.keeps h,b.keeps h⟩
theorem B1.keeps {V V':Vw} (h:CW V V') {x:AV} {v:Value} (a:B1 V x v):B1 V' x v:=by
 cases x;case ag l=>obtain⟨cs,h1,b⟩:=a;exact⟨cs,h1,b.keeps h⟩
 case tup l=>obtain⟨cs,h1,b⟩:=a;exact⟨cs,h1,b.keeps h⟩
 all_goals
  simp only[B1]at a ⊢;exact Tf.keeps h a
theorem Dv.keeps {V V':Vw} (h:CW V V') {e:Ty} {cells:List Value} {xs:List e.den} (d:Dv V.w V.O e cells xs):Dv V'.w V'.O e cells xs:=fun i x hi =>
 let ⟨a,h1,b,c⟩:=d i x hi
 ⟨a,h1,b,Bq.mono h.O h.heap c⟩
theorem KK.mono {w w':World} {O O':Nat→Prop} (a:∀b,b<w.heap.size→¬O b→¬O' b) (c:∀b,b<w.heap.size→¬O b→w'.heap[b]?=w.heap[b]?) {k v:Ty} :
  ∀ {d:List MapEntry} {l:List (k.den×v.den)},KK w O k v d l→KK w' O' k v d l
 | [],[],h=>h
 | [],_ :: _,h=>h.elim
 | _ :: _,[],h=>h.elim
 | _ :: _,_ :: _,⟨h1,e,f⟩=>⟨h1.mono a c,e.mono a c,f.mono a c⟩
theorem Jv {w w':World} {et:TypeId} {sz n:Nat} {loc:Value} {cells:List Value} (d:∀b,blk loc=some b→w'.heap[b]?=w.heap[b]?) (h:w.ownsRow 0 et sz loc n cells):w'.ownsRow 0 et sz loc n cells:=by
 obtain⟨h1,a⟩:=h;refine⟨h1,?_⟩;rcases a with a|⟨g,cap,c,rfl,e,f,i⟩
 ·exact .inl a
 ·exact .inr ⟨g,cap,c,rfl,e,(d g rfl).trans f,i⟩
theorem OC.keeps {V V':Vw} (h:CW V V') {et:TypeId} {e:Ty} {xs:List e.den} {loc:Value} (a:∀b,blk loc=some b→V'.w.heap[b]?=V.w.heap[b]?) (f:OC V et e xs loc):OC V' et e xs loc:=by
 obtain⟨d,cells,h1,c⟩:=f;exact⟨d,cells,Jv a h1,c.keeps h⟩
theorem Yk.keeps {V V':Vw} (h:CW V V') {c:TypeId} {k e:Ty} {hole:Bool} {cells:List Value} {i:Nat} {x:k.den×List e.den} {u:Value} (j:∀b,blk u=some b→V'.w.heap[b]?=V.w.heap[b]?) (l:Yk V c k e hole cells i x u):Yk V' c k e hole cells i x u:=by
 obtain⟨c1,v,h1,d,a⟩:=l;refine⟨c1,v,h1,Bq.mono h.O h.heap d,?_⟩;rcases a with a|⟨a,f,g⟩
 ·exact .inl a
 ·exact .inr ⟨a,f,g.keeps h j⟩
theorem A9 {o:Value} {ins:List Value} {b:Nat}:bk (.tuple (o :: ins).toArray) b↔blk o=some b∨∃(i:Nat) (u:Value),ins[i]?=some u∧blk u=some b:=by
 constructor
 ·rintro (h|⟨d,h,x,c,a⟩)
  ·cases h
  ·injection h with h
   subst h;simp only[By]at c;rcases c with rfl|c
   ·exact .inl a
   ·obtain⟨i,hi⟩:=List.getElem?_of_mem c;exact .inr ⟨i,x,hi,a⟩
 ·rintro (h|⟨i,u,hi,a⟩)
  ·exact .inr ⟨_,rfl,o,by simp,h⟩
  ·exact .inr ⟨_,rfl,u,by simp[AAB hi],a⟩
theorem Shp.bk {loc o:Value} {ins:List Value} {b:Nat} (h:Shp loc o ins):bk loc b↔bk (.tuple (o :: ins).toArray) b:=by
 rcases h with rfl|⟨rfl,rfl,rfl⟩
 ·exact Iff.rfl
 ·grind [A9,MD,blk]
theorem Shp.plc {loc o:Value} {ins:List Value} (h:Shp loc o ins):plc loc=o:=by
 rcases h with rfl|⟨rfl,rfl,rfl⟩<;>rfl
theorem Shp.tup {loc o:Value} {ins:List Value} {a:Array Value} (h:Shp loc o ins) (b:loc=.tuple a):a=(o :: ins).toArray:=by
 subst b;rcases h with h|⟨h,_⟩
 ·injection h
 ·cases h
theorem Lm.keeps {V V':Vw} (h:CW V V') {et g:TypeId} {k e:Ty} {xs:List (k.den×List e.den)} {f:Option Nat} {o:Value} {ins cells:List Value} (d:∀b,bk (.tuple (o :: ins).toArray) b→V'.w.heap[b]?=V.w.heap[b]?) (a:Lm V et g k e xs f o ins cells):Lm V' et g k e xs f o ins cells :=
 ⟨a.max,a.len,Jv (fun b h1=>d b (A9.2 (.inl h1))) a.own,fun i x u h1 c=>(a.row i x u h1 c).keeps h (fun b j=>d b (A9.2 (.inr ⟨i,u,c,j⟩))),a.dist,a.out⟩
theorem Tg {w:World} {et:TypeId} {sz n b:Nat} {loc:Value} {cells:List Value} (h:w.ownsRow 0 et sz loc n cells) (a:blk loc=some b):b<w.heap.size:=by
 rcases h.2 with ⟨rfl,_⟩|⟨g,cap,c,rfl,d,e,f⟩
 ·simp[blk]at a
 ·grind [blk,CR]
theorem Lm.block_lt {V:Vw} {et h:TypeId} {k e:Ty} {xs:List (k.den×List e.den)} {g:Option Nat} {o:Value} {ins cells:List Value} (d:Lm V et h k e xs g o ins cells) {b:Nat} (f:bk (.tuple (o :: ins).toArray) b):b<V.w.heap.size:=by
 rcases A9.1 f with h1|⟨i,u,h1,c⟩
 ·exact Tg d.own h1
 ·have hi:i<xs.length:=by have:=(aT.1 h1).1;rw[d.len]at this;exact this
  obtain⟨c1,v,_,_,a⟩:=d.row i xs[i] u (AT hi) h1;rcases a with ⟨_,a⟩|⟨_,_,_,j,a,_⟩
  ·rw[a]at c;simp[blk]at c
  ·exact Tg a c
theorem A2.keeps {V V':Vw} (h:CW V V') {o:Obj} {loc:Value} (d:∀b,bk loc b→V'.w.heap[b]?=V.w.heap[b]?) (c:A2 V o loc):A2 V' o loc:=by
 cases o with
 | arr et e xs =>
  obtain⟨C,cells,⟨h1,a⟩,B⟩:=c;refine⟨C,cells,⟨h1,?_⟩,B.keeps h⟩;rcases a with a|⟨g,cap,i,rfl,E,F,G⟩
  ·exact .inl a
  ·exact .inr ⟨g,cap,i,rfl,E,(d g (.inl rfl)).trans F,G⟩
 | box et st fs =>
  obtain⟨h0,b,cs,rfl,h1,a⟩:=c;exact⟨h0,b,cs,rfl,(d b (.inl rfl)).trans h1,a.keeps h⟩
 | nest et K k e xs J =>
  obtain⟨o,ins,cells,hs,h1⟩:=c;exact⟨o,ins,cells,hs,h1.keeps h fun b A=>d b (hs.bk.2 A)⟩
 | mapo k v l =>
  obtain⟨b,m,cl,rfl,h1,a,f⟩:=c;exact⟨b,m,cl,rfl,(d b (.inl rfl)).trans h1,a.mono h.O h.heap,f⟩
 | frame M fs =>
  obtain⟨h0,h1⟩:=c;exact⟨h0,fun s x hs=>(h1 s x hs).keeps h⟩
 | itr k v l left i =>
  obtain⟨r,rfl,b,D,cl,I,H,h1,a,f,p,q,t,u,y,z,n⟩:=c;have j:=CR f;exact⟨r,rfl,b,D,cl,I,H,(d r (.inl rfl)).trans h1,h.O b j a,(h.heap b j a).trans f,p.mono h.O h.heap,q,t,u,y,z,n⟩
 | loop L =>
  obtain⟨b,rfl,h1⟩:=c;exact⟨b,rfl,(d b (.inl rfl)).trans h1⟩
 | dfr =>
  obtain⟨b,rfl,h1⟩:=c;exact⟨b,rfl,(d b (.inl rfl)).trans h1⟩
theorem A2.block_lt {V:Vw} {o:Obj} {loc:Value} (c:A2 V o loc) {b:Nat} (a:bk loc b):b<V.w.heap.size:=by
 cases o with
 | arr et e xs =>
  obtain⟨m,cells,⟨h1,d⟩,i⟩:=c;rcases d with ⟨rfl,_⟩|⟨g,cap,f,rfl,q,s,t⟩
  ·simp[bk,blk]at a
  ·grind [bk,blk,CR]
 | box et st fs =>
  obtain⟨h0,b',cs,rfl,h1,d⟩:=c;simp[bk,blk]at a;subst a;exact CR h1
 | nest et n k e xs j =>
  obtain⟨o,ins,cells,hs,h1⟩:=c;exact h1.block_lt (hs.bk.1 a)
 | mapo k v l =>
  obtain⟨b',h,cl,rfl,h1,d⟩:=c;simp[bk,blk]at a;subst a;exact CR h1
 | frame y fs =>
  obtain⟨rfl,h1⟩:=c;simp[bk,blk]at a
 | itr k v l left f =>
  obtain⟨r,rfl,b',p,cl,x,u,h1,-⟩:=c;simp[bk,blk]at a;subst a;exact CR h1
 | loop L =>
  obtain⟨b',rfl,h1⟩:=c;simp[bk,blk]at a;subst a;exact CR h1
 | dfr =>
  obtain⟨b',rfl,h1⟩:=c;simp[bk,blk]at a;subst a;exact CR h1
section
variable {α:Type}
theorem A1 (k:Nat):∀(l r:List (Nat×α)),lk k (l++r)=(lk k l).or (lk k r)
 | [],_=>by simp[lk]
 | (j,v) :: l,r=>by
  simp only[ABz,lk];split
  ·simp
  ·exact A1 k l r
theorem Ga (k n:Nat) (u:α):∀l:List (Nat×α),lk k (upd n u l)=if k=n then (lk n l).map (fun _=>u) else lk k l
 | []=>by simp[lk,upd]
 | (j,v) :: l=>by
  simp only[upd];by_cases hn:n=j
  ·subst hn;by_cases hk:k=n
   ·subst hk;simp[lk]
   ·simp[lk,hk,Ga k n u l]
  ·simp only[At hn,lk];by_cases hk:k=n
   ·subst hk;simp[hn,Ga k k u l]
   ·by_cases a:k=j
    ·subst a;simp[hk]
    ·simp[hk,a,Ga k n u l]
theorem Qu (k n:Nat):∀l:List (Nat×α),lk k (del n l)=if k=n then none else lk k l
 | []=>by simp[lk,del]
 | (j,v) :: l=>by
  simp only[del];by_cases hn:n=j
  ·subst hn;rw[BY rfl,Qu k n l];grind [lk]
  ·rw[At hn];simp only[lk,Qu k n l];grind
end
end
section
open Go Go.RowKit
def Ec (σ:St) (obs:List (Nat×Obj)):St:=⟨σ.env,obs++σ.objs⟩
structure QS (w:World) (O0:Nat→Prop) (σ:St) (ρ:Nat→Value) (v:AV) (obs:List (Nat×Obj)) (u:Value) (ρ':Nat→Value) (w':World):Prop where
 below:Below w.heap.size w w'
 rho:∀n,lk n obs=none→ρ' n=ρ n
 av:B1 (vw w' O0 (Ec σ obs) ρ') v u
 obj:∀n o,lk n obs=some o→A2 (vw w' O0 (Ec σ obs) ρ') o (ρ' n)
 new:∀n o b,lk n obs=some o→bk (ρ' n) b→w.heap.size≤b
 dist:∀n m o o' b,lk n obs=some o→lk m obs=some o'→bk (ρ' n) b→bk (ρ' m) b→n=m
theorem F8 {α:Type} {k:Nat} {v:α}:∀ {l:List (Nat×α)},lk k l=some v→(k,v)∈l
 | (j,u) :: l,h=>by
  simp only[lk]at h;split at h
  ·grind
  ·exact If _ (F8 h)
theorem OD {obs:List (Nat×Obj)} {σ:St} (h:Bd obs σ=true) {n:Nat} {o:Obj} (hn:lk n obs=some o):lk n σ.objs=none:=by
 simp only[Bd,IN]at h;simpa using h _ (F8 hn)
theorem ME {σ:St} {obs:List (Nat×Obj)} {n:Nat} (h:Gt (Ec σ obs) n):(∃o,lk n obs=some o)∨(lk n obs=none∧Gt σ n):=by
 obtain⟨o,h⟩:=h;simp only[Ec,A1]at h;cases a:lk n obs with
 | some b=>exact .inl ⟨b,rfl⟩
 | none=>rw[a]at h;exact .inr ⟨rfl,o,by simpa using h⟩
theorem Yl {σ:St} {obs:List (Nat×Obj)} (hf:Bd obs σ=true) {n:Nat} (h:Gt σ n):Gt (Ec σ obs) n∧lk n obs=none:=by
 obtain⟨o,h⟩:=h;have hn:lk n obs=none:=by
  cases a:lk n obs with
  | none=>rfl
  | some b=>have:=OD hf a;rw[this]at h;cases h
 exact⟨⟨o,by simp[Ec,A1,hn,h]⟩,hn⟩
theorem IP {w w':World} {O0:Nat→Prop} {σ:St} {ρ ρ':Nat→Value} {obs:List (Nat×Obj)} (hf:Bd obs σ=true)
  (hb:Below w.heap.size w w') (hr:∀n,lk n obs=none→ρ' n=ρ n) (hn:∀n o b,lk n obs=some o→bk (ρ' n) b→w.heap.size≤b) :
  CW (vw w O0 σ ρ) (vw w' O0 (Ec σ obs) ρ') where
 O:=by
  intro b hlt hO hO';rcases hO' with h0|⟨n,hl,hb'⟩
  ·exact hO (.inl h0)
  ·rcases ME hl with ⟨o,ho⟩|⟨hno,hl'⟩
   ·have:=hn n o b ho hb';have hlt:b<w.heap.size:=hlt;omega
   ·exact hO (.inr ⟨n,hl',by rw[←hr n hno];exact hb'⟩)
 L:=fun n h=>(Yl hf h).1
 ρ:=fun n h=>hr n (Yl hf h).2
 heap:=fun b hlt _=>hb.block b hlt
theorem QS.keeps {w w':World} {O0:Nat→Prop} {σ:St} {ρ ρ':Nat→Value} {v:AV} {u:Value} {obs:List (Nat×Obj)} (hf:Bd obs σ=true) (h:QS w O0 σ ρ v obs u ρ' w') :
  CW (vw w O0 σ ρ) (vw w' O0 (Ec σ obs) ρ'):=IP hf h.below h.rho h.new
theorem Frm.below {K:Nat→Prop} {w0 w w':World} (h:Frm K w0 w) (hb:Below w.heap.size w w') (hK:∀b,K b→b<w0.heap.size):Frm K w0 w' where
 os:=hb.os.trans h.os
 tape:=hb.tape.trans h.tape
 output:=hb.output.trans h.output
 size:=TO h.size hb.size
 block:=fun k hk=>(hb.block k (AAJ (hK k hk) h.size)).trans (h.block k hk)
theorem KL (a:Act) (dst:Option Tmp) (u:Value):(a.put dst u).tmps.size=a.tmps.size:=by
 cases dst<;>simp[Act.put]
theorem Gb (a:Act) (dst:Option Tmp) (u:Value):(a.put dst u).defers=a.defers:=by cases dst<;>rfl
theorem K4 (a:Act) (d:Nat) (u:Value) (s:Nat) (b:d<a.tmps.size):(a.put (some d) u).tmps.getD s undef=if s=d then u else a.tmps.getD s undef:=by
 by_cases h:s=d
 ·subst h;simp[Act.put,b]
 ·have:¬d=s:=fun e=>h e.symm;simp[Act.put,h,this,Array.getElem?_setIfInBounds]
theorem Bn.add {w0:World} {K O0:Nat→Prop} {nt:Nat} {ds:Fp} {σ:St} {ρ:Nat→Value} {a:Act} {w:World} (h:Bn w0 K O0 nt ds σ ρ a w)
  (H:∀b,K b→b<w0.heap.size) (J:∀b,O0 b→b<w0.heap.size) {dst:Option Nat} (I:∀d,dst=some d→d<nt)
  {v:AV} {obs:List (Nat×Obj)} {u:Value} {ρ':Nat→Value} {w':World} (hf:Bd obs σ=true) (c:QS w O0 σ ρ v obs u ρ' w') :
  Bn w0 K O0 nt ds (σ.add v obs dst) ρ' (a.put dst u) w':=by
 have hk:=c.keeps hf;have E:(σ.add v obs dst).objs=obs++σ.objs:=by cases dst<;>rfl
 have l:∀n,Gt (σ.add v obs dst) n↔Gt (Ec σ obs) n:=fun n=>by simp[Gt,E,Ec]
 have F:vw w' O0 (σ.add v obs dst) ρ'=vw w' O0 (Ec σ obs) ρ':=by
  have k:Gt (σ.add v obs dst)=Gt (Ec σ obs):=funext fun n=>propext (l n);have g:own O0 (σ.add v obs dst) ρ'=own O0 (Ec σ obs) ρ':=by grind [own]
  simp only[vw,k,g]
 refine⟨h.frm.below c.below H,by rw[KL];exact h.nt,by rw[Gb];exact h.defers,fun p hp=>?_,?_,?_,?_,?_⟩
 ·obtain⟨h1,j,G⟩:=h.pin p hp;have B:=Yl hf h1;exact⟨(l p.1).2 B.1,(c.rho _ B.2).trans j,G⟩
 ·intro n o g;rw[E,A1]at g;rw[F];cases r:lk n obs with
  | some z=>rw[r]at g;cases g;exact c.obj n _ r
  | none =>
   rw[r]at g;have q:lk n σ.objs=some o:=by simpa using g
   rw[c.rho n r];refine(h.objs n o q).keeps hk fun b f=>?_;exact c.below.block b ((h.objs n o q).block_lt f)
 ·intro n b k f;rcases ME ((l n).1 k) with ⟨o,g⟩|⟨t,y⟩
  ·have L:=c.new n o b g f;have:=h.frm.size;grind
  ·rw[c.rho n t]at f;exact h.free n b y f
 ·intro n m b k y f i;rcases ME ((l n).1 k) with ⟨o,g⟩|⟨t,hn⟩<;>rcases ME ((l m).1 y) with ⟨z,q⟩|⟨D,C⟩
  ·exact c.dist n m o z b g q f i
  ·have h1:=c.new n o b g f;rw[c.rho m D]at i;obtain⟨A,j⟩:=C;have:=(h.objs m A j).block_lt i;have:b<w.heap.size:=this;omega
  ·have h1:=c.new m z b q i;rw[c.rho n t]at f;obtain⟨A,j⟩:=hn;have:=(h.objs n A j).block_lt f;have:b<w.heap.size:=this;omega
  ·rw[c.rho n t]at f;rw[c.rho m D]at i;exact h.dist n m b hn C f i
 ·intro s x hs;rw[F];cases dst with
  | none=>exact(h.env s x hs).keeps hk
  | some d =>
   simp only[St.add,lk]at hs;rw[K4 a d u s (by rw[h.nt];exact I d rfl)];split at hs
   ·rename_i e;cases hs;rw[BY e];exact c.av
   ·rename_i e;rw[At e];exact(h.env s x hs).keeps hk
theorem QS.still {w:World} {O0:Nat→Prop} {σ:St} {ρ:Nat→Value} {v:AV} {u:Value} (h:B1 (vw w O0 σ ρ) v u):QS w O0 σ ρ v [] u ρ w where
 below:=Below.refl _ _
 rho:=fun _ _=>rfl
 av:=h
 obj:=fun _ _ h=>by cases h
 new:=fun _ _ _ h=>by cases h
 dist:=fun _ _ _ _ _ h=>by cases h
def Ek (ρ:Nat→Value) (n:Nat) (x:Value):Nat→Value:=fun m=>if m=n then x else ρ m
theorem Bj (ρ:Nat→Value) (n:Nat) (x:Value):Ek ρ n x n=x:=by simp[Ek]
theorem QS.one {w w':World} {O0:Nat→Prop} {σ:St} {ρ:Nat→Value} {v:AV} {u loc:Value} {n:Nat} {o:Obj} (hb:Below w.heap.size w w')
  (hnew:∀b,bk loc b→w.heap.size≤b)
  (hav:B1 (vw w' O0 (Ec σ [(n,o)]) (Ek ρ n loc)) v u)
  (hobj:A2 (vw w' O0 (Ec σ [(n,o)]) (Ek ρ n loc)) o loc):QS w O0 σ ρ v [(n,o)] u (Ek ρ n loc) w' where
 below:=hb
 rho:=fun m hm=>by grind [lk,Ek]
 av:=hav
 obj:=fun m o' hm=>by grind [lk,Bj]
 new:=fun m o' b hm hb'=>by grind [lk,Bj]
 dist:=fun m m' o1 o2 b h1 h2 _ _=>by grind [lk]
end
section
open Go Go.RowKit
theorem BD {t:Ty} {p:PV} {d:t.den} (h:BP t p=some d):p=⟨t,d⟩:=by
 obtain⟨u,x⟩:=p;grind [BP]
theorem Bk {e a:Ty} {xs:List a.den} {ys:List e.den} (h:BP (.slice e) ⟨.slice a,xs⟩=some ys):a=e∧HEq xs ys:=by
 have b:=BD h;grind
theorem OE {α:Type} (xs:List α) {lo hi:Nat} (h:hi≤xs.length):(sub xs lo hi).length=hi-lo:=by
 simp[sub];omega
theorem Ym {α:Type} (xs:List α) (lo hi i:Nat) {x:α} (h:(sub xs lo hi)[i]?=some x):xs[lo+i]?=some x∧i<hi-lo:=by grind [sub]
theorem p4 {w:World} {O':Nat→Prop} {et:TypeId} {e:Ty} {xs:List e.den} {loc v:Value} {cells:List Value} {lo hi:Nat} (y:∀b,blk loc=some b→¬O' b)
  (H:xs.length≤AO) (h:w.ownsRow 0 et e.size loc xs.length cells) (p:Dv w O' e cells xs) (z:DK loc e.size lo hi v):Bq w O' (.slice e) [v] (sub xs lo hi):=by
 obtain⟨a,m,c,j,F,q,k,l,rfl,o,h0,h1⟩:=z;have u:m=xs.length:=by
  rcases h.2 with ⟨d,hn⟩|⟨g,cap,n,d,_⟩
  ·grind
  ·rw[j]at d;injection d
 subst u;have f:=OE xs (lo:=lo) q;refine⟨k,l,by rw[f],by rw[f];exact o,by rw[f];omega,?_⟩;by_cases t:lo<hi
 ·right;rcases h.2 with ⟨d,hn⟩|⟨g,cap,n,d,r⟩
  ·omega
  ·have D:=World.ownsRow.cells h (g:=g) (by rw[d];rfl);have ha:a=some ⟨g,0,none⟩:=by rw[j]at d;injection d
   subst ha;refine⟨_,h1 t,y _ (by rw[d];simp only[blk,CQ]),fun i x s=>?_⟩;obtain⟨A,G⟩:=Ym xs lo hi i s;obtain⟨B,E,C,I⟩:=p (lo+i) x A;grind [Da]
 ·simp_all
theorem Hs {w:World} {base:Nat} {et:TypeId} {sz n:Nat} {s:Value} {xs:List Value} (h:w.ownsRow base et sz s n xs):plc s=s:=by
 rcases h.2 with ⟨rfl,_⟩|⟨g,cap,a,rfl,_⟩<;>rfl
theorem PO {V:Vw} {et:TypeId} {e:Ty} {xs:List e.den} {loc:Value} (h:A2 V (.arr et e xs) loc):plc loc=loc:=by
 obtain⟨_,_,h,_⟩:=h;exact Hs h
theorem Yn {V:Vw} {O':Nat→Prop} (h:∀b,¬V.O b→¬O' b) {et:TypeId} {e:Ty} {xs:List e.den} {loc v:Value} {lo hi:Nat} (n:∀b,blk loc=some b→¬O' b)
  (a:A2 V (.arr et e xs) loc) (c:DK (plc loc) e.size lo hi v):Bq V.w O' (.slice e) [v] (sub xs lo hi):=by
 rw[PO a]at c;obtain⟨l,cells,m,k⟩:=a;exact p4 n l m (fun i x hi=>let ⟨d,h1,f,g⟩:=k i x hi;⟨d,h1,f,g.mono (fun b _ j=>h b j) (fun _ _ _=>rfl)⟩) c
theorem Fh {w:World} {et:TypeId} {sz n:Nat} {s:Value} {xs:List Value} (h:w.ownsRow 0 et sz s n xs):DK s sz 0 n s:=by
 rcases h.2 with ⟨rfl,hn⟩|⟨g,cap,a,rfl,_,_,b,_⟩
 ·exact⟨none,0,0,rfl,by omega,by omega,none,0,by rw[hn],by omega,fun _=>⟨rfl,rfl⟩,fun h=>by omega⟩
 ·exact⟨some ⟨g,0,none⟩,n,cap,rfl,by omega,by omega,some ⟨g,0,none⟩,cap,by simp,by omega,fun _=>⟨rfl,rfl⟩,fun _=>by simp[Mx]⟩
theorem Wr {V:Vw} {O':Nat→Prop} (c:∀b,¬V.O b→¬O' b) {et:TypeId} {e:Ty} {xs:List e.den} {u:Value} (d:∀b,blk u=some b→¬O' b) (h:OC V et e xs u):Bq V.w O' (.slice e) [u] xs:=by
 have h1:=h;obtain⟨_,_,a,_⟩:=h1;have:=Yn (V:=V) c d (et:=et) (e:=e) (xs:=xs) (loc:=u) h (by rw[Hs a];exact Fh a)
 rwa [Hl]at this
theorem K5 {w:World} {base:Nat} {et:TypeId} {sz n m c:Nat} {a:Option Addr} {xs:List Value} (h:w.ownsRow base et sz (.slice a m c) n xs):m=n:=by
 rcases h.2 with ⟨b,hn⟩|⟨g,cap,d,b,_⟩
 ·injection b;omega
 ·injection b
theorem Yo {V:Vw} {f:TypeId} {e:Ty} {xs:List e.den} {u:Value} {a:Option Addr} {len c:Nat} (b:Lay u (.slice a len c)) (h:OC V f e xs u):len=xs.length:=by
 obtain⟨_,j,d,_⟩:=h;rcases b with rfl|⟨rfl,g,i⟩
 ·exact K5 d
 ·grind [K5]
theorem yE {V:Vw} {j:TypeId} {e:Ty} {xs:List e.den} {u v:Value} (g:Lay u v) (h:OC V j e xs u):∃(a:Option Addr) (c:Nat),v=.slice a xs.length c:=by
 rcases g with rfl|⟨rfl,a,rfl⟩
 ·obtain⟨_,k,f,_⟩:=h;obtain⟨_,_,_,_,_,_,b,d,i,_⟩:=Fh f;exact⟨b,d,i⟩
 ·have hn:=Yo (.inr ⟨rfl,a,rfl⟩) h;exact⟨a,0,by rw[←hn]⟩
theorem p5 {V:Vw} {O':Nat→Prop} {f:TypeId} {e:Ty} {xs:List e.den} {u v:Value} (b:Lay u v) (h:OC V f e xs u) (c:Bq V.w O' (.slice e) [u] xs):Bq V.w O' (.slice e) [v] xs:=by
 rcases b with rfl|⟨rfl,a,rfl⟩
 ·exact c
 ·have hn:=Yo (.inr ⟨rfl,a,rfl⟩) h;have d:xs=[]:=nO hn.symm;subst d;exact⟨a,0,rfl,Is _,by simp,.inl rfl⟩
theorem OG {V:Vw} {O':Nat→Prop} (g:∀b,¬V.O b→¬O' b) {et p:TypeId} {k e:Ty} {xs:List (k.den×List e.den)} {o:Value} {ins cells:List Value} (h:Lm V et p k e xs none o ins cells)
  (n:∀(i b:Nat) (u:Value),ins[i]?=some u→blk u=some b→¬O' b):Dv V.w O' (.agg (.prod k (.slice e))) cells xs:=by
 intro i x hi;have j:i<ins.length:=by rw[h.len];exact(aT.1 hi).1
 obtain⟨c1,v,h1,d,a⟩:=h.row i x ins[i] hi (AT j);rcases a with ⟨a,_⟩|⟨_,l,f⟩
 ·cases a
 ·have m:=p5 l f (Wr g (fun b c=>n i b _ (AT j) c) f);refine⟨c1++[v],by simp[Ty.size,d.length],h1,?_⟩;exact(⟨c1,[v],rfl,d.mono (fun b _ c=>g b c) (fun _ _ _=>rfl),m⟩:Bq V.w O' (.prod k (.slice e)) _ x)
theorem aG {V:Vw} {O':Nat→Prop} (f:∀b,¬V.O b→¬O' b) {et l:TypeId} {k e:Ty} {xs:List (k.den×List e.den)} {loc v:Value} {lo hi:Nat} (a:∀b,bk loc b→¬O' b)
  (j:A2 V (.nest et l k e xs none) loc) (c:DK (plc loc) (k.size+1) lo hi v):Bq V.w O' (.slice (.agg (.prod k (.slice e)))) [v] (sub (α:=k.den×List e.den) xs lo hi):=by
 obtain⟨o,ins,cells,hs,h⟩:=j;rw[hs.plc]at c;exact p4 (e:=.agg (.prod k (.slice e))) (xs:=xs) (fun b g=>a b (hs.bk.2 (A9.2 (.inl g)))) h.max h.own (OG f h fun i b u h1 d=>a b (hs.bk.2 (A9.2 (.inr ⟨i,u,h1,d⟩)))) c
theorem Ws {V:Vw} {p:Obj} {loc:Value} {a:Option Addr} {m c:Nat} (d:A2 V p loc) (h:plc loc=.slice a m c):∃et sz cells,V.w.ownsRow 0 et sz (.slice a m c) m cells∧m≤AO:=by
 cases p with
 | arr et e xs =>
  have h1:=PO d;obtain⟨r,cells,i,_⟩:=d;rw[h1]at h;subst h;have j:m=xs.length:=by
   rcases i.2 with ⟨f,hn⟩|⟨g,cap,q,f,_⟩
   ·injection f;omega
   ·injection f
  subst j;exact⟨et,_,cells,i,r⟩
 | nest et u k e xs s =>
  obtain⟨o,ins,cells,hs,n⟩:=d;rw[hs.plc]at h;subst h;have i:=n.own;have j:m=xs.length:=by
   rcases i.2 with ⟨f,hn⟩|⟨g,cap,q,f,_⟩
   ·injection f;omega
   ·injection f
  subst j;exact⟨et,_,cells,i,n.max⟩
 | box et st fs=>obtain⟨_,b,cs,rfl,_⟩:=d;cases h
 | mapo k v l=>obtain⟨b,_,_,rfl,_⟩:=d;cases h
 | frame B fs=>obtain⟨rfl,_⟩:=d;cases h
 | loop L=>obtain⟨b,rfl,_⟩:=d;cases h
 | itr x A y z t=>obtain⟨b,rfl,_⟩:=d;cases h
 | dfr=>obtain⟨b,rfl,_⟩:=d;cases h
theorem My {V V':Vw} (c:V'.w=V.w) (d:V'.O=V.O) {et f:TypeId} {k e:Ty} {xs:List (k.den×List e.den)} {h:Option Nat} {loc:Value} (s:A2 V (.nest et f k e xs h) loc):A2 V' (.nest et f k e xs h) loc:=by
 obtain⟨o,ins,cells,q,a⟩:=s;refine⟨o,ins,cells,q,a.max,a.len,by rw[c];exact a.own,fun i x u h1 g=>?_,a.dist,a.out⟩;obtain⟨c1,v,j,l,b⟩:=a.row i x u h1 g;refine⟨c1,v,j,by rw[c,d];exact l,?_⟩;rcases b with b|⟨b,m,r,t,n,p⟩
 ·exact .inl b
 ·exact .inr ⟨b,m,r,t,by rw[c];exact n,by rw[c,d];exact p⟩
theorem tV {V V':Vw} (d:V'.w=V.w) (g:∀b,¬V.O b→¬V'.O b) {et j:TypeId} {k e:Ty} {xs:List (k.den×List e.den)} {h:Option Nat} {loc:Value} (C:A2 V (.nest et j k e xs h) loc):A2 V' (.nest et j k e xs h) loc:=by
 obtain⟨o,ins,cells,A,a⟩:=C;refine⟨o,ins,cells,A,a.max,a.len,by rw[d];exact a.own,fun i x u h1 q=>?_,a.dist,a.out⟩;obtain⟨c1,v,r,s,c⟩:=a.row i x u h1 q;refine⟨c1,v,r,s.mono (fun b _ f=>g b f) (fun b _ _=>by rw[d]),?_⟩;rcases c with c|⟨c,t,B,D,y,z⟩
 ·exact .inl c
 ·refine .inr ⟨c,t,B,D,by rw[d];exact y,fun i x hi=>?_⟩;obtain⟨l,m,n,p⟩:=z i x hi;exact⟨l,m,n,p.mono (fun b _ f=>g b f) (fun b _ _=>by rw[d])⟩
theorem Sv {V:Vw} {et g:TypeId} {k e:Ty} {xs:List (k.den×List e.den)} {h:Option Nat} {loc v:Value} {c:Array Value} {i:Nat} {z:k.den×List e.den}
  (d:A2 V (.nest et g k e xs h) loc) (f:loc=.tuple c) (a:c[i+1]?=some v):xs[i]?=some (xs.getD i z):=by
 obtain⟨o,ins,cells,hs,h⟩:=d;obtain rfl:=hs.tup f;have a:ins[i]?=some v:=by simpa using a
 have b:i<xs.length:=by rw[←h.len];exact(aT.1 a).1
 rw[AT b,AS,AT b];rfl
theorem A3M {V:Vw} {t:Obj} {loc u v:Value} {w:Array Value} {i len c:Nat} {a:Option Addr} (d:A2 V t loc) (z:loc=.tuple w) (f:w[i+1]?=some u) (j:Lay u v) (s:v=.slice a len c):len≤AO:=by
 subst z;cases t with
 | arr et e xs =>
  obtain⟨E,cells,y,_⟩:=d;rcases y.2 with ⟨r,_⟩|⟨g,cap,B,r,_⟩<;>cases r
 | nest et G k e xs D =>
  obtain⟨o,ins,cells,hs,q⟩:=d;obtain rfl:=hs.tup rfl;have f:ins[i]?=some u:=by simpa using f
  have x:i<xs.length:=by rw[←q.len];exact(aT.1 f).1
  obtain⟨c1,N,h1,C,m⟩:=q.row i xs[i] u (AT x) f;rcases m with ⟨_,m⟩|⟨_,_,n⟩
  ·subst s;rcases j with p|⟨_,A,p⟩
   ·grind
   ·injection p;omega
  ·rw[s]at j;rw[Yo j n];exact n.1
 | box et st fs=>obtain⟨_,b,cs,h,_⟩:=d;cases h
 | mapo k v l=>obtain⟨b,_,_,h,_⟩:=d;cases h
 | frame M fs=>obtain⟨h,_⟩:=d;cases h
 | loop L=>obtain⟨b,h,_⟩:=d;cases h
 | itr H K I J F=>obtain⟨b,h,_⟩:=d;cases h
 | dfr=>obtain⟨b,h,_⟩:=d;cases h
theorem p6 {V:Vw} {O':Nat→Prop} (p:∀b,¬V.O b→¬O' b) {et l:TypeId} {k e:Ty} {xs:List (k.den×List e.den)} {loc v:Value} {d:Array Value} {i:Nat} {x:k.den×List e.den} (s:∀b,bk loc b→¬O' b) {u:Value}
  (f:A2 V (.nest et l k e xs none) loc) (g:loc=.tuple d) (c:d[i+1]?=some u) (r:Lay u v) (j:xs[i]?=some x):Bq V.w O' (.slice e) [v] x.2:=by
 obtain⟨o,ins,cells,hs,h⟩:=f;obtain rfl:=hs.tup g;have c:ins[i]?=some u:=by simpa using c
 obtain⟨c1,t,h1,m,a⟩:=h.row i x u j c;rcases a with ⟨a,_⟩|⟨_,q,n⟩
 ·cases a
 ·grind [p5,Wr,A9]
section
variable {V:Vw} {O':Nat→Prop} {l:Bool} {σ:St}
theorem aH (p:∀b,¬V.O b→¬O' b) (y:l=true→∀b,¬O' b) (s:∀n o,lk n σ.objs=some o→A2 V o (V.ρ n))
  {t:Ty} {x:AV} {d:t.den} {cs:List Value} (h:EZ l σ t x=some d) (g:NZ V x cs):Bq V.w O' t cs d:=by
 unfold EZ at h;split at h
 ·rename_i u z;have:=BD h;injection this with h1 j
  subst h1;cases j;have g:Bq V.w V.O u cs z:=g;exact g.mono (fun b _ D=>p b D) (fun _ _ _=>rfl)
 ·rename_i e n A lo hi;split at h
  ·rename_i q;obtain⟨r,rfl⟩:=q;have m:=r;obtain⟨v,rfl,_,C,f⟩:=g;cases hn:lk n σ.objs with
   | none=>rw[hn]at h;simp[O7]at h
   | some o =>
    rw[hn]at h;cases o with
    | box et st fs=>simp[O7]at h
    | mapo k v l=>simp[O7]at h
    | frame P fs=>simp[O7]at h
    | loop L=>simp[O7]at h
    | itr J N K M H=>simp[O7]at h
    | dfr=>simp[O7]at h
    | nest et I k B xs m =>
     cases m with
     | some i=>simp[O7]at h
     | none =>
      simp only[O7]at h;obtain⟨h1,j⟩:=Bk h;subst h1;cases j;exact aG p (fun b _=>y r b) (s n _ hn) f
    | arr et B xs =>
     simp only[O7]at h;obtain⟨h1,j⟩:=Bk h;subst h1;cases j;exact Yn p (fun b _=>y m b) (s n _ hn) f
  ·cases h
 ·rename_i e n A i len;split at h
  ·rename_i q;obtain⟨m,rfl⟩:=q;obtain⟨v,rfl,_,C,R,a,c,Q,G,F,E,_⟩:=g;cases hn:lk n σ.objs with
   | none=>rw[hn]at h;simp[O8]at h
   | some o =>
    rw[hn]at h;unfold O8 at h;split at h
    ·grind [Bk,p6,Sv]
    ·cases h
  ·cases h
 ·obtain⟨v,rfl,_,f⟩:=g;have f:v=_:=f;subst f;cases h;exact⟨none,0,rfl,by simp,by simp[AO],.inl rfl⟩
 ·cases h
theorem yF (i:∀b,¬V.O b→¬O' b) (k:l=true→∀b,¬O' b) (j:∀n o,lk n σ.objs=some o→A2 V o (V.ρ n)) :
  ∀ {fs:List AV} {t:Ty} {d:t.den} {cs:List Value},KG l σ fs t=some d→Db V fs cs→Bq V.w O' t cs d
 | [],t,d,cs,h,f=>by simp[KG]at h
 | [x],t,d,cs,h,f=>by
  obtain⟨c1,c2,rfl,h1,e⟩:=f;have e:c2=[]:=e;grind [KG,aH]
 | x :: y :: r,t,d,cs,h,f=>by
  obtain⟨c1,c2,rfl,h1,e⟩:=f;cases t;case prod a b =>
   simp only[KG]at h;cases c:EZ l σ a x with
   | none=>rw[c]at h;simp[Lj]at h
   | some m =>
    cases g:KG l σ (y :: r) b with
    | none=>rw[c,g]at h;simp[Lj]at h
    | some p =>
     rw[c,g]at h;simp only[Lj]at h;cases h;exact⟨c1,c2,rfl,aH i k j c h1,yF i k j g e⟩
  all_goals simp[KG]at h
theorem A3N {t:Ty} {x:AV} {d:t.den} {v:Value} (h:EZ l σ t x=some d) (hp:∀u i,x≠.p u i) (e:B1 V x v):NZ V x [v]∧t.wrap [v]=v:=by
 unfold EZ at h;split at h
 ·exact absurd rfl (hp _ _)
 ·obtain⟨b,a,m,c,_,_,_,f,g,rfl,_⟩:=e;refine⟨⟨_,rfl,rfl,?_⟩,rfl⟩;exact⟨b,a,m,c,by assumption,by assumption,by assumption,f,g,rfl,by assumption⟩
 ·obtain⟨b,o,a,c,u,h1,j,k,rfl⟩:=e;exact⟨⟨_,rfl,rfl,b,o,a,c,u,h1,j,k,rfl⟩,rfl⟩
 ·have n:v=_:=e;subst n;exact⟨⟨_,rfl,rfl,rfl⟩,rfl⟩
 ·cases h
theorem KM (f:∀b,¬V.O b→¬O' b) (j:l=true→∀b,¬O' b) (i:∀n o,lk n σ.objs=some o→A2 V o (V.ρ n))
  {t:Ty} {x:AV} {d:t.den} {v:Value} (h:Kv l σ t x=some d) (g:B1 V x v):Bb V.w O' t v d:=by
 unfold Kv at h;split at h
 ·rename_i t fs;obtain⟨cs,rfl,m⟩:=g;exact⟨cs,(yF f j i h m:Bq V.w O' t cs d),rfl⟩
 ·by_cases hp:∃u a,x=.p u a
  ·obtain⟨u,a,rfl⟩:=hp;have h:BP t ⟨u,a⟩=some d:=by simpa only[EZ] using h
   have:=BD h;injection this with h1 c
   subst h1;cases c;exact Bb.mono (fun b _ k=>f b k) (fun _ _ _=>rfl) g
  ·obtain⟨h1,c⟩:=A3N h (fun u a e=>hp ⟨u,a,e⟩) g;exact⟨[v],aH f j i h h1,c.symm⟩
end
end
section
open Go Go.RowKit
def Yp:Ty→Value→Bool
 | .agg _,.agg _=>true
 | .agg _,_=>false
 | .prod _ _,_=>false
 | _,.agg _=>false
 | _,_=>true
def Mz (P : Program) (id : TypeId) (a b : IntKind) : Prop := ∃ c d : Field, P.underlying id = some (.struct #[c, d]) ∧ ((c.name != "_") = true ∧ (d.name != "_") = true) ∧ (c.offset = 0 ∧ d.offset = 1) ∧ (P.underlying c.type = some (.int a) ∧ P.underlying d.type = some (.int b)) ∧ P.stoodInHeld id = false
def Th (P:Program) (id:TypeId):Ty→Nat→Prop
 | .agg (.prod (.int a) (.int b)),0=>Mz P id a b
 | _,_=>True
def isI (k:IntKind):Option TypeDesc→Bool
 | some (.int a)=>k==a
 | _=>false
theorem Yq {k:IntKind} {d:Option TypeDesc} (h:isI k d=true):d=some (.int k):=by
 unfold isI at h;grind
def A5K (P:Program) (id:TypeId) (a b:IntKind):Option TypeDesc→Bool
 | some (.struct ⟨[c, d]⟩) => (c.name != "_") && (d.name != "_") && c.offset == 0 && d.offset == 1 && isI a (P.underlying c.type) && isI b (P.underlying d.type) && P.stoodInHeld id == false
 | _=>false
def yG (P:Program) (id:TypeId):Ty→Nat→Bool
 | .agg (.prod (.int a) (.int b)),0=>A5K P id a b (P.underlying id)
 | _,_=>true
theorem yH {P:Program} {id:TypeId} {t:Ty} {el:Nat} (h:yG P id t el=true):Th P id t el:=by
 unfold yG at h;unfold Th;split at h
 ·unfold A5K at h;split at h
  ·rename_i a b hu;simp only[As,AAq]at h;obtain⟨⟨⟨⟨⟨⟨h1,c⟩,d⟩,e⟩,f⟩,g⟩,i⟩:=h;exact⟨a,b,hu,⟨h1,c⟩,⟨d,e⟩,⟨Yq f,Yq g⟩,i⟩
  ·cases h
 ·trivial
def EJ (P:Program) (tb:Tb) (id:TypeId) (ti:TI):Prop :=
 (((∀p∈ti.offs,p.2≠0)∧0<ti.bytes∧Th P id ti.ty ti.el)∧∃(i:TypeInfo) (z:Value),P.info? id=some i∧i.size=ti.ty.size∧i.bytes=ti.bytes∧i.zero=some z∧z.cells=ti.ty.zero.toArray) ∧
 match ti.ty with
 | .int k=>P.underlying id=some (.int k)
 | .bool=>P.underlying id=some .bool
 | .str=>P.underlying id=some .string
 | .slice e=>P.underlying id=some (.slice ti.el)∧∃te,lk ti.el tb.ty=some te∧te.ty=e
 | .agg _=>(∃fs:Array Field,ti.el=0∧P.underlying id=some (.struct fs)∧ti.offs.map some=fs.toList.map fun f=>(P.info? f.type).map fun i=>(f.offset,i.size)) ∨
   ∃n e i,ti.el≠0∧P.underlying id=some (.array n e)∧P.info? e=some i∧ti.offs=(List.range n).map fun k=>(k*i.size,i.size)
 | .prod _ _=>False
 | .ref j=>∃d,P.underlying id=some d∧(match d with|.struct _=>False|.array _ _=>False|_=>True) ∧
   ∀k e,j=2→ti.offs=[(k,e)]→d=.map k e∧∃(a te:TI) (z:Value),lk k tb.ty=some a∧lk e tb.ty=some te∧(∃i,P.info? e=some i∧i.zero=some z)∧z.cells=te.ty.zero.toArray∧Yp te.ty z=true
def DL (P:Program) (tb:Tb):Prop:=∀id ti,lk id tb.ty=some ti→EJ P tb id ti
def yI:Value→Value→Bool
 | .int k n,.int c d=>k==c&&n==d
 | .bool a,.bool b=>a==b
 | .string s,.string e=>s.size==0&&e.size==0
 | .slice none 0 0,.slice none 0 0=>true
 | .pointer none,.pointer none=>true
 | .nilFunc,.nilFunc=>true
 | .map none,.map none=>true
 | _,_=>false
theorem yJ {a b:Value} (h:yI a b=true):a=b:=by
 unfold yI at h;split at h
 ·grind
 ·grind
 ·simp_all
 ·rfl
 ·rfl
 ·rfl
 ·rfl
 ·cases h
def OH:List Value→List Value→Bool
 | [],[]=>true
 | a :: l,b :: r=>yI a b&&OH l r
 | _,_=>false
theorem Qv:∀ {l r:List Value},OH l r=true→l=r
 | [],[],_=>rfl
 | a :: l,b :: r,h=>by
  simp only[OH,As]at h;rw[yJ h.1,Qv h.2]
 | [],_ :: _,h=>by simp[OH]at h
 | _ :: _,[],h=>by simp[OH]at h
def A5L (ty:Ty) (bytes:Nat):Option TypeInfo→Bool
 | some i=>i.size==ty.size&&i.bytes==bytes&&(match i.zero with|some z=>OH z.cells.toList ty.zero|none=>false)
 | none=>false
def A7h (offs:List (Nat×Nat)) (n:Nat):Option TypeInfo→Bool
 | some i=>offs==(List.range n).map fun k=>(k*i.size,i.size)
 | none=>false
def A5M (e:Nat) (te:Option TI):Option TypeInfo→Bool
 | some i=>match i.zero,te with|some z,some te=>OH z.cells.toList te.ty.zero&&Yp te.ty z|_,_=>false
 | none=>false
def A6a (P:Program) (tb:Tb) (j:Nat) (d:TypeDesc):List (Nat×Nat)→Bool
 | [(k,e)]=>j != 2||(match d with|.map b a=>b==k&&a==e&&(lk k tb.ty).isSome&&A5M e (lk e tb.ty) (P.info? e)|_=>false)
 | _=>true
theorem A3O {P:Program} {tb:Tb} {j:Nat} {d:TypeDesc} {offs:List (Nat×Nat)} (h:A6a P tb j d offs=true):∀k e,j=2→offs=[(k,e)]→d=.map k e∧∃(a te:TI) (z:Value),lk k tb.ty=some a∧lk e tb.ty=some te∧(∃i,P.info? e=some i∧i.zero=some z)∧z.cells=te.ty.zero.toArray∧Yp te.ty z=true:=by
 rintro k e rfl rfl;simp only[A6a,bne_self_eq_false,ACL]at h;split at h
 ·simp only[As,AAq]at h;obtain⟨⟨⟨rfl,rfl⟩,b⟩,c⟩:=h;refine⟨rfl,?_⟩;obtain⟨a,f⟩:=ABp.1 b;unfold A5M at c;grind [Qv]
 ·cases h
def A7i (P:Program) (tb:Tb) (ti:TI):Ty→Option TypeDesc→Bool
 | .int k,some (.int a)=>k==a
 | .bool,some .bool=>true
 | .str,some .string=>true
 | .slice e,some (.slice el)=>el==ti.el&&(match lk ti.el tb.ty with|some te=>decide (te.ty=e)|none=>false)
 | .agg _,some (.struct fs)=>ti.el==0&&ti.offs.map some==fs.toList.map fun f=>(P.info? f.type).map fun i=>(f.offset,i.size)
 | .agg _,some (.array n e)=>ti.el != 0&&A7h ti.offs n (P.info? e)
 | .ref _,some (.struct _)=>false
 | .ref _,some (.array _ _)=>false
 | .ref j,some d=>A6a P tb j d ti.offs
 | _,_=>false
def tiB (P:Program) (tb:Tb) (id:TypeId) (ti:TI):Bool:=((ti.offs.all fun p=>p.2 != 0)&&(decide (0<ti.bytes)&&yG P id ti.ty ti.el))&&A5L ti.ty ti.bytes (P.info? id)&&A7i P tb ti ti.ty (P.underlying id)
theorem A6b {P:Program} {tb:Tb} {id:TypeId} {ti:TI} (h:tiB P tb id ti=true):EJ P tb id ti:=by
 simp only[tiB,As]at h;obtain⟨⟨⟨h0,c,d⟩,h1⟩,a⟩:=h;refine⟨⟨⟨fun p hp=>by simpa using (IN.1 h0) p hp,by simpa using c,yH d⟩,?_⟩,?_⟩
 ·unfold A5L at h1;grind [Qv]
 ·generalize hu:P.underlying id=u at a;generalize ti.ty=t at a;cases t<;>cases u<;>simp only[A7i]at a<;>try(cases a;done)
  all_goals
   rename_i u;cases u<;>simp only at a<;>try(cases a;done)
  ·grind
  ·rfl
  ·rfl
  ·grind
  ·rename_i n e;simp only[As,ACr]at a;obtain⟨b,a⟩:=a;unfold A7h at a;split at a
   ·rename_i i hi;exact .inr ⟨_,_,i,b,rfl,hi,by simpa using a⟩
   ·cases a
  ·grind
  all_goals exact⟨_,rfl,trivial,A3O a⟩
theorem A3P {P:Program} {tb:Tb} (h:(tb.ty.all fun p=>tiB P tb p.1 p.2)=true):DL P tb:=fun id ti hi=>by
 rw[IN]at h;exact A6b (h _ (F8 hi))
def Ty.isAgg:Ty→Bool
 | .agg _=>true
 | .int _=>false
 | .bool=>false
 | .str=>false
 | .slice _=>false
 | .prod _ _=>false
 | .ref _=>false
section
variable {P:Program} {tb:Tb} {id:TypeId} {ti:TI} (w:World)
theorem MF {i:TypeInfo} (h:P.info? id=some i):(typeInfo id).run P w=.ok i w:=by simp[typeInfo,h]
theorem A3Q (h:EJ P tb id ti):(isAgg id).run P w=.ok ti.ty.isAgg w:=by
 obtain⟨_,a⟩:=h;cases c:ti.ty<;>rw[c]at a<;>simp only at a;case agg =>
  rcases a with ⟨fs,_,hu,_⟩|⟨n,e,_,_,hu,_⟩<;>simp[isAgg,iF hu,Ty.isAgg]
 case slice=>simp[isAgg,iF a.1,Ty.isAgg]
 case ref k =>
  obtain⟨d,hu,b,_⟩:=a;cases d<;>first|exact b.elim|simp[isAgg,iF hu,Ty.isAgg]
 all_goals simp[isAgg,iF a,Ty.isAgg]
theorem IQ (h:EJ P tb id ti):(sizeOf id).run P w=.ok ti.ty.size w:=by
 obtain⟨⟨_,i,z,h1,a,_⟩,_⟩:=h;simp[sizeOf,MF w h1,a]
theorem EJ.noprod (h:EJ P tb id ti) {a b:Ty}:ti.ty≠.prod a b:=by
 intro e;have:=h.2;rw[e]at this;exact this
theorem aI (h:EJ P tb id ti) {ad:Addr} {cs:List Value} (d:cs.length=ti.ty.size) (e:∀(j:Nat) (u:Value),cs[j]?=some u→w.cell? (ad.add j)=some u) :
  (loadVar id ad).run P w=.ok (ti.ty.wrap cs) w:=by
 have i:=fun a b=>h.noprod (a:=a) (b:=b);simp only[loadVar,AB2,A3Q w h,AAA];cases f:ti.ty;case prod a b=>exact absurd f (i a b)
 case agg u =>
  have g:ti.ty.size=cs.length:=d.symm;simp only[Ty.isAgg,AAQ,AB2,IQ w h,AAA,g,run_loadCells_list w ad cs e,Ty.wrap];rfl
 all_goals
  rw[f]at d;obtain⟨c,rfl⟩:=AB4.1 d;have h0:=e 0 c rfl;rw[Mx]at h0;simp[Ty.isAgg,Ty.wrap,h0]
theorem Eu (h:EJ P tb id ti) {ad:Addr} {cs:List Value} (b:cs.length=ti.ty.size) (a:∀(j:Nat) (u:Value),cs[j]?=some u→w.cell? (ad.add j)=some u) :
  (Instr.loadAt id (.pointer (some ad))).run P w=.ok (ti.ty.wrap cs) w:=by
 simp[Instr.loadAt,Instr.sureAddr,aI w h b a]
end
end
end Go.Proofs.YtdapahgnpbehbaaGreat.Fw
