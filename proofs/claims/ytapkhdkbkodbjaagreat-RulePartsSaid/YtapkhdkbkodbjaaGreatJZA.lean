/- Typed values, how they lie in memory, the executor's words and the table of types: what they mean. -/
import Derived.ProofKit
import Derived.Orders
import Derived.Laws.AppendOwn
import Derived.Laws.MakeOwn
import Derived.Laws.OwnMore
set_option linter.unusedVariables false
set_option linter.unusedSimpArgs false
namespace Go.Proofs.YtapkhdkbkodbjaaGreat.Fw
section
open Go
abbrev AS:=@List.getD_eq_getElem?_getD
abbrev AT:=@Bool.and_eq_true
abbrev An:=@if_neg
abbrev As:=@List.take_of_length_le
abbrev At:=@List.getElem?_eq_getElem
abbrev BY:=@if_pos
abbrev By:=@List.drop_eq_nil_of_le
abbrev DO:=@List.mem_cons
abbrev Do:=@Classical.byContradiction
abbrev Fe:=@decide_eq_true_eq
abbrev GO:=@List.length_append
abbrev IF:=@List.mem_map
abbrev IN:=@Int.ofNat_lt
abbrev IS:=@Nat.zero_le
abbrev If:=@Option.map_eq_some_iff
abbrev Is:=@List.all_eq_true
abbrev NO:=@Nat.le_refl
abbrev No:=@List.mem_append
abbrev OF:=@List.mem_cons_of_mem
abbrev ON:=@List.length_take
abbrev OR:=@List.foldl_cons
abbrev OS:=@List.length_cons
abbrev Of:=@List.length_map
abbrev On:=@decide_eq_false_iff_not
abbrev TO:=@List.drop_eq_getElem_cons
abbrev To:=@List.length_singleton
abbrev UA:=@Int.ofNat_le
abbrev UB:=@Bool.not_eq_true'
abbrev UC:=@List.getElem?_eq_some_iff
abbrev UD:=@Nat.le_trans
abbrev UE:=@List.take_length
abbrev UF:=@List.any_eq_true
abbrev UG:=@Int.toNat_natCast
abbrev UH:=@Go.run_underlying
abbrev UI:=@List.map_congr_left
abbrev UJ:=@List.getElem?_eq_none
abbrev UK:=@List.pairwise_iff_getElem
abbrev UL:=@List.eq_nil_of_length_eq_zero
abbrev UM:=@List.mem_range
abbrev UN:=@List.append_assoc
abbrev UO:=@List.append_nil
abbrev UP:=@Nat.mul_le_mul_right
abbrev UQ:=@List.map_cons
abbrev UR:=@List.getElem?_append_left
abbrev US:=@List.getElem?_take
abbrev UT:=@List.getElem?_append_right
abbrev UU:=@Bool.or_eq_true
abbrev UV:=@Array.getElem?_eq_some_iff
abbrev UW:=@List.pairwise_cons
abbrev YB:=@List.mem_singleton
abbrev YC:=@List.mem_append_left
abbrev YD:=@beq_iff_eq
abbrev YE:=@List.length_drop
abbrev YF:=@List.range_succ
abbrev YG:=@List.length_set
abbrev YH:=@List.length_filter_le
abbrev YI:=@List.ext_getElem
abbrev YJ:=@List.drop_zero
abbrev YK:=@List.map_append
abbrev aS:=@Go.Result.andThen_ok
abbrev aT:=@List.nodup_cons
abbrev bY:=@List.mem_iff_getElem?
abbrev dO:=@List.filter_cons
abbrev f6:=@List.mem_of_mem_take
abbrev gO:=@List.mem_of_getElem?
abbrev iF:=@Bool.or_eq_false_iff
abbrev iN:=@Array.getElem?_eq_getElem
abbrev iS:=@List.getElem?_map
abbrev nO:=@List.getElem_mem
abbrev oF:=@Int.natCast_nonneg
abbrev oN:=@List.length_take_le
abbrev oR:=@Int.not_le
abbrev oS:=@Int.tdiv_eq_ediv_of_nonneg
abbrev tO:=@Option.some.injEq
abbrev AA8:=@Nat.lt_of_lt_of_le
abbrev AA9:=@Option.isNone_iff_eq_none
abbrev AAa:=@List.take_succ_cons
abbrev AAb:=@Int.not_lt
abbrev AAc:=@List.map_map
abbrev AAd:=@List.mem_iff_getElem
abbrev AAe:=@List.getElem?_append
abbrev AAq:=@List.prefix_refl
abbrev AD1:=@if_true
abbrev ADf:=@List.take_zero
abbrev ADg:=@List.getElem?_drop
abbrev ADt:=@Bool.and_eq_false_iff
abbrev ADu:=@Int.toNat_of_nonneg
abbrev ADv:=@List.mem_filter
abbrev ADw:=@List.length_nil
abbrev ADx:=@congrArg
abbrev ADy:=@List.pairwise_map
abbrev ADz:=@List.getElem?_set
abbrev ADA:=@Go.Sem.run_bind
abbrev ADB:=@Bool.false_eq_true
abbrev ADC:=@beq_eq_false_iff_ne
abbrev ADD:=@Int.le_trans
abbrev ADF:=@List.cons_append
abbrev ADJ:=@List.nodup_append
abbrev ADK:=@Nat.zero_add
abbrev ADM:=@List.mem_cons_self
abbrev ADQ:=@Bool.not_eq_false'
abbrev ADS:=@List.length_eq_one_iff
abbrev ADT:=@List.drop_succ_cons
abbrev ADU:=@Nat.succ_mul
abbrev ADW:=@List.all_eq_false
abbrev ADX:=@decide_eq_true
abbrev ADY:=@decide_eq_false
abbrev ADZ:=@Nat.pos_of_ne_zero
abbrev AE0:=@List.nil_append
abbrev AE1:=@List.getElem?_cons_zero
abbrev AE2:=@List.pairwise_append
abbrev AE3:=@Nat.sub_self
abbrev AE4:=@if_false
abbrev AE5:=@List.getElem?_range
abbrev AE6:=@List.mem_or_eq_of_mem_set
abbrev AE7:=@List.all_cons
abbrev AE8:=@Nat.le_antisymm
abbrev AE9:=@List.mem_append_right
abbrev AEa:=@Bool.eq_iff_iff
abbrev AEb:=@Option.isSome_iff_exists
abbrev AEc:=@List.mem_of_mem_drop
abbrev AEd:=@List.getElem?_replicate
abbrev AEe:=@List.any_eq_false
abbrev AEf:=@Bool.eq_false_iff
abbrev AEg:=@Option.map_some
abbrev AEh:=@Nat.mul_le_mul_left
abbrev AEi:=@Nat.min_eq_left
abbrev AEj:=@List.cons.injEq
abbrev AEk:=@Int.tmod_eq_emod_of_nonneg
abbrev AEl:=@List.getElem_map
abbrev AEm:=@List.countP_cons
abbrev AEn:=@List.take_append_drop
abbrev AEo:=@List.set_append_right
abbrev AEp:=@List.getElem_range
abbrev AEq:=@List.filter_append
abbrev AEs:=@ByteArray.size_append
abbrev AEt:=@List.mem_take_iff_getElem
abbrev AEu:=@Int.le_refl
abbrev AEv:=@Array.mapM_eq_mapM_toList
abbrev AEw:=@BitVec.testBit_toNat
abbrev AEx:=@List.foldl_append
abbrev AEz:=@List.drop_left
abbrev AEB:=@List.filter_nil
abbrev AEC:=@List.any_append
abbrev AED:=@List.all_append
abbrev AEE:=@List.length_range
abbrev AEF:=@List.flatMap_cons
abbrev AEG:=@List.mem_of_find?_eq_some
abbrev AEH:=@List.drop_drop
abbrev AEK:=@List.replicate_succ
abbrev AEL:=@Array.length_toList
abbrev AEM:=@bne_iff_ne
abbrev AEN:=@Nat.add_sub_cancel_left
abbrev AEO:=@List.set_cons_zero
abbrev AEP:=@List.length_pos_of_mem
abbrev AEQ:=@List.getElem?_set_self
abbrev AER:=@not_true_eq_false
abbrev AES:=@Nat.lt_trichotomy
abbrev AET:=@Nat.add_mul
abbrev AEU:=@List.idxOf_append
abbrev AEV:=@List.ext_getElem?
abbrev AEW:=@List.map_nil
abbrev AEX:=@List.length_replicate
abbrev AEY:=@List.eq_nil_iff_forall_not_mem
abbrev AEZ:=@Int.toNat_lt
abbrev AF0:=@Int.add_zero
abbrev AF1:=@Option.getD_some
abbrev AF2:=@Nat.lt_succ_self
abbrev AF3:=@List.exists_mem_of_length_pos
abbrev AF4:=@List.drop_length
abbrev AF5:=@List.replicate_succ'
abbrev AF6:=@List.mem_erase_of_ne
abbrev AF7:=@Go.World.cell?_of_block
abbrev AF8:=@Prod.mk.injEq
abbrev AF9:=@Nat.and_le_left
abbrev AFa:=@Option.isSome_some
abbrev AFb:=@Nat.zero_mul
abbrev AFc:=@Nat.lt_of_le_of_lt
abbrev AFd:=@Nat.le_of_lt
abbrev AFe:=@List.zip_cons_cons
abbrev AFf:=@List.set_cons_succ
abbrev AFg:=@List.prefix_append
abbrev AFh:=@List.mem_filterMap
abbrev AFi:=@List.find?_eq_none
abbrev AFj:=@List.countP_append
abbrev AFk:=@Int.lt_of_le_of_lt
abbrev AFl:=@Option.some_or
abbrev AFm:=@List.take_take
abbrev AFn:=@Option.ext
abbrev AFo:=@Nat.add_assoc
abbrev AFp:=@Int.ofNat.inj
abbrev AFr:=@Bool.true_and
abbrev AFs:=@Bool.false_or
abbrev AFt:=@Bool.and_comm
abbrev AFu:=@List.range'_succ
abbrev AFv:=@List.perm_middle
abbrev AFw:=@List.drop_append
abbrev AFx:=@List.find?_some
abbrev AFy:=@Int.le_of_lt
abbrev AFA:=@Nat.mod_lt
abbrev AFB:=@List.map_id
abbrev AFC:=@Prod.ext
inductive Ty where
 | int (k:IntKind)
 | bool
 | str
 | slice (e:Ty)
 | prod (a b:Ty)
 | agg (t:Ty)
 
 | ref (k:Nat)
 deriving DecidableEq
def Ln:Nat->Value
 | 0=>.pointer none
 | 1=>.nilFunc
 | _=>.map none
@[reducible] def Ty.den:Ty->Type
 | .int _=>Int
 | .bool=>Bool
 | .str=>ByteArray
 | .slice e=>List e.den
 | .prod a b=>a.den×b.den
 | .agg t=>t.den
 | .ref _=>Unit
def Ty.size:Ty->Nat
 | .prod a b=>a.size+b.size
 | .agg t=>t.size
 | .int _=>1
 | .bool=>1
 | .str=>1
 | .slice _=>1
 | .ref _=>1
def Ty.dflt:(t:Ty)->t.den
 | .int _=>(0:Int)
 | .bool=>false
 | .str=>ByteArray.empty
 | .slice _=>[]
 | .prod a b=>(a.dflt,b.dflt)
 | .agg t=>t.dflt
 | .ref _=>()
def Ty.zero:Ty->List Value
 | .int k=>[.int k 0]
 | .bool=>[.bool false]
 | .str=>[.string ByteArray.empty]
 | .slice _=>[.slice none 0 0]
 | .prod a b=>a.zero++b.zero
 | .agg t=>t.zero
 | .ref k=>[Ln k]
def Ty.wrap:Ty->List Value->Value
 | .agg _,cs=>.agg cs.toArray
 | .prod _ _,cs=>.agg cs.toArray
 | .int _,cs=>cs.headD undef
 | .bool,cs=>cs.headD undef
 | .str,cs=>cs.headD undef
 | .slice _,cs=>cs.headD undef
 | .ref _,cs=>cs.headD undef
def KO (k:IntKind) (n:Int):Prop:=k.min<=n/\n<=k.max
def AP:Nat:=140737488355328
def B0 (w:World) (O:Nat->Prop):(t:Ty)->List Value->t.den->Prop
 | .int k,cs,d=>cs=[.int k d]/\KO k d
 | .bool,cs,d=>cs=[.bool d]
 | .str,cs,d=>cs=[.string d]/\ByteArray.size d<=AP
 | .slice e,cs,d=>∃(a:Option Addr) (c:Nat),cs=[.slice a (List.length d) c]/\List.length d<=c/\List.length d<=AP /\
   (d=[]\/∃ad:Addr,a=some ad/\¬O ad.block /\
    ∀(i:Nat) (x:e.den),d[i]?=some x->∃f:List Value,f.length=e.size/\(∀(j:Nat) (v:Value),f[j]?=some v->w.cell? (ad.add (i*e.size+j))=some v)/\B0 w O e f x)
 | .prod a b,cs,d=>∃c1 c2:List Value,cs=c1++c2/\B0 w O a c1 d.1/\B0 w O b c2 d.2
 | .agg t,cs,d=>B0 w O t cs d
 | .ref k,cs,_=>cs=[Ln k]
def Bl (w:World) (O:Nat->Prop) (t:Ty) (v:Value) (d:t.den):Prop:=∃cs,B0 w O t cs d/\v=t.wrap cs
theorem CO (a:Addr) (n:Nat):(a.add n).block=a.block:=by unfold Addr.add;split<;>rfl
theorem DV (a:Addr) (i j:Nat):(a.add i).add j=a.add (i+j):=by
 unfold Addr.add;grind
theorem M4 (a:Addr):a.add 0=a:=rfl
theorem eK (g j:Nat):(⟨g,0,none⟩:Addr).add j=⟨g,j,none⟩:=by
 unfold Addr.add;split<;>simp_all
theorem Jm (g i j:Nat):(⟨g,i,none⟩:Addr).add j=⟨g,i+j,none⟩:=by
 unfold Addr.add;split<;>simp_all
theorem Ty.size_pos:∀t:Ty,0<t.size
 | .int _=>by simp[Ty.size]
 | .bool=>by simp[Ty.size]
 | .str=>by simp[Ty.size]
 | .slice _=>by simp[Ty.size]
 | .ref _=>by simp[Ty.size]
 | .prod a b=>by have:=a.size_pos;simp[Ty.size];omega
 | .agg t=>by simpa[Ty.size] using t.size_pos
theorem B0.length {w:World} {O:Nat->Prop}:∀ {t:Ty} {cs:List Value} {d:t.den},B0 w O t cs d->cs.length=t.size
 | .int _,_,_,h=>by obtain⟨rfl,_⟩:=h;rfl
 | .bool,_,_,h=>by have h:_=_:=h;subst h;rfl
 | .str,_,_,h=>by obtain⟨rfl,_⟩:=h;rfl
 | .slice _,_,_,h=>by obtain⟨_,_,rfl,_⟩:=h;rfl
 | .ref _,_,_,h=>by have h:_=_:=h;subst h;rfl
 | .prod a b,_,_,h=>by
  obtain⟨c1,c2,rfl,h1,c⟩:=h;simp[Ty.size,B0.length h1,B0.length c]
 | .agg t,_,_,h=>by
  have h:B0 w O t _ _:=h;simpa[Ty.size] using B0.length h
theorem B0.one {w:World} {O:Nat->Prop}:∀ {t:Ty} {cs:List Value} {d:t.den},B0 w O t cs d->∀v∈cs,v.oneCell'=true
 | .int _,_,_,h=>by obtain⟨rfl,_⟩:=h;simp[Value.oneCell']
 | .bool,_,_,h=>by have h:_=_:=h;subst h;simp[Value.oneCell']
 | .str,_,_,h=>by obtain⟨rfl,_⟩:=h;simp[Value.oneCell']
 | .slice _,_,_,h=>by obtain⟨_,_,rfl,_⟩:=h;simp[Value.oneCell']
 | .ref k,_,_,h=>by
  have h:_=[Ln k]:=h;subst h;match k with
  | 0=>simp[Value.oneCell',Ln]
  | 1=>simp[Value.oneCell',Ln]
  | _+2=>simp[Value.oneCell',Ln]
 | .prod a b,_,_,h=>by
  obtain⟨c1,c2,rfl,h1,e⟩:=h;intro v c;rcases No.1 c with c|c
  ·exact B0.one h1 v c
  ·exact B0.one e v c
 | .agg t,_,_,h=>by
  have h:B0 w O t _ _:=h;exact B0.one h
theorem B0.mono {w w':World} {O O':Nat->Prop} (f:∀b,b<w.heap.size->¬O b->¬O' b) (k:∀b,b<w.heap.size->¬O b->w'.heap[b]?=w.heap[b]?) :
  ∀ {t:Ty} {cs:List Value} {d:t.den},B0 w O t cs d->B0 w' O' t cs d
 | .int _,_,_,h=>h
 | .bool,_,_,h=>h
 | .str,_,_,h=>h
 | .ref _,_,_,h=>h
 | .slice e,_,d,h=>by
  obtain⟨a,c,rfl,h1,l,m⟩:=h;refine⟨a,c,rfl,h1,l,?_⟩;rcases m with m|⟨ad,rfl,s,q⟩
  ·exact .inl m
  ·by_cases o:d=[]
   ·exact .inl o
   ·have y:ad.block<w.heap.size:=by
     obtain⟨x,r,rfl⟩:∃x r,d=x :: r:=List.exists_cons_of_ne_nil o;obtain⟨g,p,n,_⟩:=q 0 x rfl;have hp:=e.size_pos;have:g[0]?=some (g[0]'(by omega)):=At (by omega);have:=block_lt_of_cell (n 0 _ this)
     rwa [CO]at this
    refine .inr ⟨ad,rfl,f _ y s,λi x hi=>?_⟩;obtain⟨g,p,n,z⟩:=q i x hi;refine⟨g,p,λj v u=>?_,B0.mono f k z⟩;rw[AF7 (w:=w) (w':=w')]
    ·exact n j v u
    ·grind [CO]
 | .prod a b,_,_,h=>by
  obtain⟨c1,c2,rfl,h1,l⟩:=h;exact⟨c1,c2,rfl,B0.mono f k h1,B0.mono f k l⟩
 | .agg t,_,_,h=>by
  have h:B0 w O t _ _:=h;exact(B0.mono f k h:B0 w' O' t _ _)
theorem Bl.mono {w w':World} {O O':Nat->Prop} (c:∀b,b<w.heap.size->¬O b->¬O' b) (e:∀b,b<w.heap.size->¬O b->w'.heap[b]?=w.heap[b]?)
  {t:Ty} {v:Value} {d:t.den} (h:Bl w O t v d):Bl w' O' t v d :=
 let ⟨cs,h1,a⟩:=h
 ⟨cs,h1.mono c e,a⟩
theorem B0.zero (w:World) (O:Nat->Prop):∀t:Ty,B0 w O t t.zero t.dflt
 | .int k=>⟨rfl,by cases k<;>exact⟨by decide,by decide⟩⟩
 | .bool=>rfl
 | .str=>⟨rfl,by simp[Ty.dflt,AP]⟩
 | .slice _=>⟨none,0,rfl,by simp[Ty.dflt],by simp[Ty.dflt,AP],.inl rfl⟩
 | .ref _=>rfl
 | .prod a b=>⟨_,_,rfl,B0.zero w O a,B0.zero w O b⟩
 | .agg t=>(B0.zero w O t:B0 w O t _ _)
end
section
open Go
structure PV where
 t:Ty
 d:t.den
def BW (t:Ty) (p:PV):Option t.den:=if h:p.t=t then some (h▸p.d) else none
theorem Ff (t:Ty) (d:t.den):BW t ⟨t,d⟩=some d:=by simp[BW]
def HI:(t:Ty)->Nat->t.den->Option PV
 | .prod a _,0,d=>some ⟨a,d.1⟩
 | .prod _ b,k+1,d=>HI b k d.2
 | .int k,0,d=>some ⟨.int k,d⟩
 | .bool,0,d=>some ⟨.bool,d⟩
 | .str,0,d=>some ⟨.str,d⟩
 | .slice e,0,d=>some ⟨.slice e,d⟩
 | .agg t,0,d=>some ⟨.agg t,d⟩
 | .ref k,0,d=>some ⟨.ref k,d⟩
 | _,_,_=>none
def Nl:(t:Ty)->Nat->t.den->PV->Option t.den
 | .prod a _,0,d,x=>(BW a x).map λy=>(y,d.2)
 | .prod _ b,k+1,d,x=>(Nl b k d.2 x).map λy=>(d.1,y)
 | .int k,0,_,x=>BW (.int k) x
 | .bool,0,_,x=>BW .bool x
 | .str,0,_,x=>BW .str x
 | .slice e,0,_,x=>BW (.slice e) x
 | .agg t,0,_,x=>BW (.agg t) x
 | .ref k,0,_,x=>BW (.ref k) x
 | _,_,_,_=>none
def KQ:Ty->Nat->Option Nat
 | .prod _ _,0=>some 0
 | .prod a b,k+1=>(KQ b k).map (a.size + ·)
 | .int _,0=>some 0
 | .bool,0=>some 0
 | .str,0=>some 0
 | .slice _,0=>some 0
 | .agg _,0=>some 0
 | .ref _,0=>some 0
 | _,_=>none
def aP:Ty->Nat->Option Ty
 | .prod a _,0=>some a
 | .prod _ b,k+1=>aP b k
 | .int k,0=>some (.int k)
 | .bool,0=>some .bool
 | .str,0=>some .str
 | .slice e,0=>some (.slice e)
 | .agg t,0=>some (.agg t)
 | .ref k,0=>some (.ref k)
 | _,_=>none
def Th:List Nat->(t:Ty)->t.den->Option PV
 | [],t,d=>some ⟨t,d⟩
 | k :: r,.agg t,d=>match HI t k d with
  | some pv=>Th r pv.t pv.d
  | none=>none
 | _ :: _,_,_=>none
def VI:List Nat->(t:Ty)->t.den->PV->Option t.den
 | [],t,_,x=>BW t x
 | k :: r,.agg t,d,x=>match HI t k d with
  | some pv=>match VI r pv.t pv.d x with
   | some y=>Nl t k d ⟨pv.t,y⟩
   | none=>none
  | none=>none
 | _ :: _,_,_,_=>none
def Lt:List Nat->Ty->Option Nat
 | [],_=>some 0
 | k :: r,.agg t=>match KQ t k,aP t k with
  | some o,some u=>(Lt r u).map (o + ·)
  | _,_=>none
 | _ :: _,_=>none
inductive AV where
 
 | p (t:Ty) (d:t.den)
 
 | raw (v:Value)
 
 | sr (n:Nat) (e:Ty) (lo hi:Nat)
 
 | ep (n:Nat) (e:Ty) (i:Nat) (path:List Nat) (off:Nat)
 
 | pc (e:Ty) (d:List e.den)
 
 | ip (t:Ty) (d:t.den)
 
 | bp (n:Nat) (path:List Nat) (off:Nat)
 | fn (f:FuncId)
 
 | clo (f:FuncId) (ns:List Nat)
 
 | mp (n:Nat)
 
 | yl (n:Nat)
 
 | nin (n:Nat) (e:Ty) (i len:Nat)
 
 | ag (l:List AV)
 | tup (l:List AV)
 
 | top
inductive Obj where
 | arr (et:TypeId) (e:Ty) (xs:List e.den)
 | box (et:TypeId) (st:Bool) (fs:List AV)
 
 | mapo (k v:Ty) (l:List (k.den×v.den))
 
 | itr (k v:Ty) (l:List (k.den×v.den)) (left:List Nat) (cur:Option Nat)
 
 | nest (et iet:TypeId) (k e:Ty) (xs:List (k.den×List e.den)) (h:Option Nat)
 
 | frame (tm:Array Value) (fs:List (Nat×AV))
 
 | loop (L:Go.Loop)
 
 | dfr
structure St where
 env:List (Nat×AV)
 objs:List (Nat×Obj)
def lk {α:Type}:Nat->List (Nat×α)->Option α
 | _,[]=>none
 | k,(j,v) :: r=>if k=j then some v else lk k r
def del {α:Type}:Nat->List (Nat×α)->List (Nat×α)
 | _,[]=>[]
 | k,(j,v) :: r=>if k=j then del k r else (j,v) :: del k r
def upd {α:Type}:Nat->α->List (Nat×α)->List (Nat×α)
 | _,_,[]=>[]
 | k,u,(j,v) :: r=>if k=j then (j,u) :: upd k u r else (j,v) :: upd k u r
def sub {α:Type} (xs:List α) (lo hi:Nat):List α:=(xs.drop lo).take (hi-lo)
theorem Ij {α:Type} (xs:List α):sub xs 0 xs.length=xs:=by simp[sub]
structure TI where
 ty:Ty
 offs:List (Nat×Nat):=[]
 el:TypeId:=0
 bytes:Nat
inductive RV where
 | p (t:Ty) (d:t.den)
 | own (et:TypeId) (e:Ty) (xs:List e.den)
@[reducible] def KR:List Ty->Type
 | []=>Unit
 | t :: r=>t.den×KR r
def Ty.flat:Ty->Bool
 | .slice _=>false
 | .prod a b=>a.flat&&b.flat
 | .agg t=>t.flat
 | .int _=>true
 | .bool=>true
 | .str=>true
 | .ref _=>true
def RV.flat:RV->Bool
 | .p t _=>t.flat
 | .own _ _ _=>false
structure Aa where
 ins:List Ty
 lend:Bool:=false
 pre:KR ins->Prop
 out:KR ins->List RV
structure Tb where
 ty:List (Nat×TI)
 fns:List (Nat×Aa)
 
 pure:List Nat:=[]
 
 nests:List (Nat×TypeId):=[]
 
 live:List Nat:=[]
def inB (n:Nat):List Nat->Bool
 | []=>false
 | m :: r=>if n=m then true else inB n r
def HV:Value->AV
 | .int k n=>if k.min<=n/\n<=k.max then .p (.int k) n else .raw (.int k n)
 | .bool b=>.p .bool b
 | .string s=>if s.size<=AP then .p .str s else .raw (.string s)
 | v=>.raw v
def Ak (σ:St):Operand->Option AV
 | .tmp t=>lk t σ.env
 | .const v=>some (HV v)
 | .func f=>some (.fn f)
 | .global _=>none
def RW (e:Ty) (lo hi:Nat):Option Obj->Option (List e.den)
 | some (.arr _ a xs)=>BW (.slice e) ⟨.slice a,sub xs lo hi⟩
 | some (.nest _ _ k a xs none)=>BW (.slice e) ⟨.slice (.agg (.prod k (.slice a))),sub xs lo hi⟩
 | _=>none
def RZ (e:Ty) (i:Nat):Option Obj->Option (List e.den)
 | some (.nest _ _ k a xs none)=>BW (.slice e) ⟨.slice a,(xs.getD i (k.dflt,[])).2⟩
 | _=>none
def Eh (l:Bool) (σ:St):(t:Ty)->AV->Option t.den
 | t,.p u d=>BW t ⟨u,d⟩
 | .slice e,.sr n a lo hi=>if l=true/\a=e then RW e lo hi (lk n σ.objs) else none
 | .slice e,.nin n a i _=>if l=true/\a=e then RZ e i (lk n σ.objs) else none
 | .slice _,.raw (.slice none 0 0)=>some []
 | _,_=>none
def Lu {α β:Type}:Option α->Option β->Option (α×β)
 | some a,some b=>some (a,b)
 | _,_=>none
def KS (l:Bool) (σ:St):List AV->(t:Ty)->Option t.den
 | [],_=>none
 | [x],t=>Eh l σ t x
 | x :: y :: r,.prod a b=>Lu (Eh l σ a x) (KS l σ (y :: r) b)
 | _ :: _ :: _,_=>none
def LQ (l:Bool) (σ:St):(t:Ty)->AV->Option t.den
 | .agg t,.ag fs=>KS l σ fs t
 | t,x=>Eh l σ t x
def Ac (n:Nat):List Nat->Bool
 | []=>false
 | m :: r=>if n=m then true else Ac n r
theorem Af (n:Nat):∀l:List Nat,Ac n l=true↔n∈l
 | []=>by simp[Ac]
 | m :: r=>by
  simp only[Ac,DO];split
  ·rename_i h;simp[h]
  ·rename_i h;simp[h,Af n r]
mutual
def AV.fgt (hs:List Nat):AV->AV
 | .sr m e lo hi=>if Ac m hs=true then .top else .sr m e lo hi
 | .ep m e i path off=>if Ac m hs=true then .top else .ep m e i path off
 | .nin m e i len=>if Ac m hs=true then .top else .nin m e i len
 | .bp m path off=>if Ac m hs=true then .top else .bp m path off
 | .mp m=>if Ac m hs=true then .top else .mp m
 | .yl m=>if Ac m hs=true then .top else .yl m
 | .clo f ns=>if (ns.any λn=>Ac n hs)=true then .top else .clo f ns
 | .ag l=>.ag (AV.fgts hs l)
 | .tup l=>.tup (AV.fgts hs l)
 | .p t d=>.p t d
 | .pc e d=>.pc e d
 | .raw v=>.raw v
 | .ip t d=>.ip t d
 | .fn f=>.fn f
 | .top=>.top
def AV.fgts (hs:List Nat):List AV->List AV
 | []=>[]
 | x :: r=>AV.fgt hs x :: AV.fgts hs r
end
def Bu (hs:List Nat):List (Nat×AV)->List (Nat×AV)
 | []=>[]
 | (s,x) :: r=>(s,x.fgt hs) :: Bu hs r
def Obj.fgt (hs:List Nat):Obj->Obj
 | .arr et e xs=>.arr et e xs
 | .box et st fs=>.box et st (AV.fgts hs fs)
 | .mapo k v l=>.mapo k v l
 | .nest et b k e xs h=>.nest et b k e xs h
 | .frame i fs=>.frame i (Bu hs fs)
 | .loop L=>.loop L
 | .itr c g d f a=>.itr c g d f a
 | .dfr=>.dfr
def Ao (a hs:List Nat):List (Nat×Obj)->List (Nat×Obj)
 | []=>[]
 | (n,o) :: r=>if Ac n a=true then Ao a hs r else (n,o.fgt hs) :: Ao a hs r
mutual
def AV.trn (n:Nat) (hs:List Nat):AV->AV
 | .nin m e i len=>if m=n\/Ac m hs=true then .top else .nin m e i len
 | .sr m e lo hi=>if Ac m hs=true then .top else .sr m e lo hi
 | .ep m e i path off=>if Ac m hs=true then .top else .ep m e i path off
 | .bp m path off=>if Ac m hs=true then .top else .bp m path off
 | .mp m=>if Ac m hs=true then .top else .mp m
 | .yl m=>if Ac m hs=true then .top else .yl m
 | .clo f ns=>if (ns.any λn=>Ac n hs)=true then .top else .clo f ns
 | .ag l=>.ag (AV.trns n hs l)
 | .tup l=>.tup (AV.trns n hs l)
 | .p t d=>.p t d
 | .pc e d=>.pc e d
 | .raw v=>.raw v
 | .ip t d=>.ip t d
 | .fn f=>.fn f
 | .top=>.top
def AV.trns (n:Nat) (hs:List Nat):List AV->List AV
 | []=>[]
 | x :: r=>AV.trn n hs x :: AV.trns n hs r
end
def EY (n:Nat) (hs:List Nat):List (Nat×AV)->List (Nat×AV)
 | []=>[]
 | (s,x) :: r=>(s,x.trn n hs) :: EY n hs r
def Obj.trn (n:Nat) (hs:List Nat):Obj->Obj
 | .arr et e xs=>.arr et e xs
 | .box et st fs=>.box et st (AV.trns n hs fs)
 | .mapo k v l=>.mapo k v l
 | .nest et b k e xs h=>.nest et b k e xs h
 | .frame i fs=>.frame i (EY n hs fs)
 | .loop L=>.loop L
 | .itr c g d f a=>.itr c g d f a
 | .dfr=>.dfr
def Ck (n:Nat) (hs:List Nat):List (Nat×Obj)->List (Nat×Obj)
 | []=>[]
 | (m,o) :: r=>if Ac m (n :: hs)=true then Ck n hs r else (m,o.trn n hs) :: Ck n hs r
def Cs:Option Obj->Bool
 | some (.nest _ _ _ _ _ _)=>true
 | _=>false
def PZ (σ:St) (e:Ty):AV->Option (List e.den)
 | .sr n a lo hi=>if Cs (lk n σ.objs)=true then none else LQ true σ (.slice e) (.sr n a lo hi)
 | x=>LQ true σ (.slice e) x
end
section
open Go
def AY (x y:ByteArray):Bool:=x.toList==y.toList
def HR (x y:ByteArray):Bool:=Op.bytesLess x.toList y.toList
def CC (op:BinOp) (k:IntKind) (x y:Int):Int :=
 k.wrap (match op with
  | .and=>((BitVec.ofInt k.bits x &&& BitVec.ofInt k.bits y).toNat:Int)
  | .or=>((BitVec.ofInt k.bits x ||| BitVec.ofInt k.bits y).toNat:Int)
  | .xor=>((BitVec.ofInt k.bits x ^^^ BitVec.ofInt k.bits y).toNat:Int)
  | _=>((BitVec.ofInt k.bits x &&& ~~~BitVec.ofInt k.bits y).toNat:Int))
def Ti (k:IntKind) (x y:Int):Int:=k.wrap (x*2 ^ (min y.toNat k.bits))
def YO (k:IntKind) (x y:Int):Int:=x.fdiv (2 ^ (min y.toNat k.bits))
def lB (k:IntKind) (a b:Int):BinOp->Prop×AV
 | .add=>(KO k (a+b),.p (.int k) (a+b))
 | .sub=>(KO k (a-b),.p (.int k) (a-b))
 | .mul=>(KO k (a*b),.p (.int k) (a*b))
 | .quo=>(b≠0/\KO k (a.tdiv b),.p (.int k) (a.tdiv b))
 | .rem=>(b≠0/\KO k (a.tmod b),.p (.int k) (a.tmod b))
 | .and=>(True,.p (.int k) (CC .and k a b))
 | .or=>(True,.p (.int k) (CC .or k a b))
 | .xor=>(True,.p (.int k) (CC .xor k a b))
 | .andNot=>(True,.p (.int k) (CC .andNot k a b))
 | .shl=>(False,.top)
 | .shr=>(False,.top)
 | .eql=>(True,.p .bool (a==b))
 | .neq=>(True,.p .bool (a != b))
 | .lss=>(True,.p .bool (decide (a<b)))
 | .leq=>(True,.p .bool (decide (a<=b)))
 | .gtr=>(True,.p .bool (decide (b<a)))
 | .geq=>(True,.p .bool (decide (b<=a)))
def YP (a b:ByteArray):BinOp->Prop×AV
 | .add=>(a.size+b.size<=AP,.p .str (a++b))
 | .eql=>(True,.p .bool (AY a b))
 | .neq=>(True,.p .bool (!AY a b))
 | .lss=>(True,.p .bool (HR a b))
 | .leq=>(True,.p .bool (HR a b||AY a b))
 | .gtr=>(True,.p .bool (!(HR a b||AY a b)))
 | .geq=>(True,.p .bool (!HR a b))
 | _=>(False,.top)
def bin (op:BinOp) (k:IntKind) (a:Int) (c:IntKind) (b:Int):Prop×AV :=
 match op with
 | .shl=>(0<=b,.p (.int k) (Ti k a b))
 | .shr=>(0<=b/\KO k (YO k a b),.p (.int k) (YO k a b))
 | op=>if k=c then lB k a b op else (False,.top)
def yQ:Ty->AV
 | .slice _=>.raw (.slice none 0 0)
 | .ref k=>.raw (Ln k)
 | t=>.p t t.dflt
def yR:Ty->List AV
 | .prod a b=>yQ a :: yR b
 | t=>[yQ t]
def pfs:(t:Ty)->t.den->List AV
 | .prod a b,d=>.p a d.1 :: pfs b d.2
 | .int k,d=>[.p (.int k) d]
 | .bool,d=>[.p .bool d]
 | .str,d=>[.p .str d]
 | .slice e,d=>[.p (.slice e) d]
 | .agg t,d=>[.p (.agg t) d]
 | .ref k,d=>[.p (.ref k) d]
def AV.cells:AV->Nat
 | .p t _=>t.size
 | .ag _=>0
 | .tup _=>0
 | _=>1
def CL:List AV->Nat->Nat
 | _,0=>0
 | [],_+1=>0
 | x :: r,k+1=>x.cells+CL r k
def Jn (st:Bool) (fs:List AV):List Nat->Option AV
 | []=>if st then some (.ag fs) else fs[0]?
 | [k]=>if st then fs[k]? else none
 | k :: r=>if st then match fs[k]? with
   | some (.p t d)=>(Th r t d).map λpv=>.p pv.t pv.d
   | _=>none
  else none
def Pa (fs:List AV):List Nat->Option Nat
 | []=>some 0
 | k :: r=>match fs[k]? with
  | some (.p t _)=>(Lt r t).map (CL fs k + ·)
  | some _=>if r.isEmpty then some (CL fs k) else none
  | none=>none
def Ty.cell1:Ty->Bool
 | .agg _=>false
 | .prod _ _=>false
 | .int _=>true
 | .bool=>true
 | .str=>true
 | .slice _=>true
 | .ref _=>true
def Ca (ty:Ty):AV->Bool
 | .p t _=>ty=t
 | .ag l=>match ty with|.agg t=>CL l l.length==t.size|_=>false
 | .tup _=>false
 | .top=>false
 | .raw u=>u.oneCell'&&ty.cell1
 | _=>ty.cell1
def Ns (ty:Ty):AV->Bool
 | .top=>ty.cell1
 | x=>Ca ty x
def Gq (n:Nat):Bool:=decide (1000000<=n)
mutual
def AV.frz (n:Nat) (e:Ty) (xs:List e.den):AV->AV
 | .sr m e' lo hi=>if m=n then (if e'=e then .p (.slice e) (sub xs lo hi) else .top) else .sr m e' lo hi
 | .ep m e' i path off=>if m=n then .top else .ep m e' i path off
 | .nin m e' i len=>if m=n then .top else .nin m e' i len
 | .ag l=>.ag (AV.frzs n e xs l)
 | .tup l=>.tup (AV.frzs n e xs l)
 | .p t d=>.p t d
 | .pc e d=>.pc e d
 | .raw v=>.raw v
 | .ip t d=>.ip t d
 | .bp m path off=>.bp m path off
 | .fn f=>.fn f
 | .clo f ns=>.clo f ns
 | .mp n=>.mp n
 | .yl n=>.yl n
 | .top=>.top
def AV.frzs (n:Nat) (e:Ty) (xs:List e.den):List AV->List AV
 | []=>[]
 | x :: r=>AV.frz n e xs x :: AV.frzs n e xs r
end
def DW (n:Nat) (e:Ty) (xs:List e.den):List (Nat×AV)->List (Nat×AV)
 | []=>[]
 | (s,x) :: r=>(s,x.frz n e xs) :: DW n e xs r
def BB (n:Nat) (e:Ty) (xs:List e.den):List (Nat×Obj)->List (Nat×Obj)
 | []=>[]
 | (m,.arr et a ys) :: r=>(m,.arr et a ys) :: BB n e xs r
 | (m,.box et st fs) :: r=>(m,.box et st (AV.frzs n e xs fs)) :: BB n e xs r
 | (m,.mapo k v l) :: r=>(m,.mapo k v l) :: BB n e xs r
 | (m,.nest et c k a ys h) :: r=>(m,.nest et c k a ys h) :: BB n e xs r
 | (m,.frame j fs) :: r=>(m,.frame j (DW n e xs fs)) :: BB n e xs r
 | (m,.loop L) :: r=>(m,.loop L) :: BB n e xs r
 | (m,.itr d i f g b) :: r=>(m,.itr d i f g b) :: BB n e xs r
 | (m,.dfr) :: r=>(m,.dfr) :: BB n e xs r
def lC (n:Nat) (σ:St):Option Obj->St
 | some (.arr _ e xs)=>⟨DW n e xs σ.env,BB n e xs (del n σ.objs)⟩
 | some (.nest _ _ k e xs none)=>⟨DW n (.agg (.prod k (.slice e))) xs σ.env,BB n (.agg (.prod k (.slice e))) xs (del n σ.objs)⟩
 | _=>σ
def frz (n:Nat) (σ:St):St:=if Gq n=true then σ else lC n σ (lk n σ.objs)
mutual
def AV.drp (n:Nat):AV->AV
 | .sr m e' lo hi=>if m=n then .top else .sr m e' lo hi
 | .ep m e' i path off=>if m=n then .top else .ep m e' i path off
 | .nin m e' i len=>if m=n then .top else .nin m e' i len
 | .ag l=>.ag (AV.drps n l)
 | .tup l=>.tup (AV.drps n l)
 | .p t d=>.p t d
 | .pc e d=>.pc e d
 | .raw v=>.raw v
 | .ip t d=>.ip t d
 | .bp m path off=>.bp m path off
 | .fn f=>.fn f
 | .clo f ns=>.clo f ns
 | .mp n=>.mp n
 | .yl n=>.yl n
 | .top=>.top
def AV.drps (n:Nat):List AV->List AV
 | []=>[]
 | x :: r=>AV.drp n x :: AV.drps n r
end
def F2 (n:Nat):List (Nat×AV)->List (Nat×AV)
 | []=>[]
 | (s,x) :: r=>(s,x.drp n) :: F2 n r
def Bg (n:Nat):List (Nat×Obj)->List (Nat×Obj)
 | []=>[]
 | (m,.arr et a ys) :: r=>(m,.arr et a ys) :: Bg n r
 | (m,.box et st fs) :: r=>(m,.box et st (AV.drps n fs)) :: Bg n r
 | (m,.mapo k v l) :: r=>(m,.mapo k v l) :: Bg n r
 | (m,.nest et c k a ys h) :: r=>(m,.nest et c k a ys h) :: Bg n r
 | (m,.frame i fs) :: r=>(m,.frame i (F2 n fs)) :: Bg n r
 | (m,.loop L) :: r=>(m,.loop L) :: Bg n r
 | (m,.itr d g e f b) :: r=>(m,.itr d g e f b) :: Bg n r
 | (m,.dfr) :: r=>(m,.dfr) :: Bg n r
mutual
def AV.names:AV->List Nat
 | .sr m _ _ _=>[m]
 | .ag l=>AV.namess l
 | .tup l=>AV.namess l
 | .p _ _=>[]
 | .pc _ _=>[]
 | .raw _=>[]
 | .ip _ _=>[]
 | .bp _ _ _=>[]
 | .ep _ _ _ _ _=>[]
 | .nin _ _ _ _=>[]
 | .fn _=>[]
 | .clo _ _=>[]
 | .mp _=>[]
 | .yl _=>[]
 | .top=>[]
def AV.namess:List AV->List Nat
 | []=>[]
 | x :: r=>x.names++AV.namess r
end
def Gr (σ:St):Option Operand->Option (Option AV)
 | none=>some none
 | some x=>(Ak σ x).map some
def FD (σ:St) (e:Ty):Nat->List (Nat×Operand)->Option (List e.den)
 | _,[]=>some []
 | k,(i,x) :: r=>if i=k then match Ak σ x with
   | some av=>match LQ false σ e av,FD σ e (k+1) r with
    | some y,some ys=>some (y :: ys)
    | _,_=>none
   | none=>none
  else none
def Ik:AV->Bool
 | .p (.prod _ _) _=>false
 | .p _ _=>true
 | .raw u=>u.oneCell'
 | .ag _=>false
 | .tup _=>false
 | .top=>false
 | _=>true
def F3 (σ:St):Option AV->Option AV->Option AV
 | some (.p t _),some (.ag l)=>(LQ false σ t (.ag l)).map λd=>.p t d
 | _,x=>x
def Dy (σ:St) (offs:List (Nat×Nat)):List AV->List (Nat×Operand)->Option (List AV)
 | fs,[]=>some fs
 | fs,(i,x) :: r=>match F3 σ fs[i]? (Ak σ x) with
  | some av=>if Ik av=true/\(fs[i]?.map AV.cells)=some av.cells/\offs[i]?=some (CL fs i,av.cells) then Dy σ offs (fs.set i av) r else none
  | none=>none
def GP (l:Bool) (σ:St):(ts:List Ty)->List Operand->Option (KR ts)
 | [],[]=>some ()
 | t :: ts,x :: xs=>match Ak σ x with
  | some av=>match LQ l σ t av,GP l σ ts xs with
   | some y,some ys=>some (y,ys)
   | _,_=>none
  | none=>none
 | _,_=>none
def eL (name:Nat):RV->AV
 | .p t d=>.p t d
 | .own _ e xs=>.sr name e 0 xs.length
def Sj (name:Nat):RV->List (Nat×Obj)
 | .p _ _=>[]
 | .own et e xs=>[(name,.arr et e xs)]
def Nt:Nat->List RV->List AV
 | _,[]=>[]
 | n,r :: l=>eL n r :: Nt (n+10000) l
def DF:Nat->List RV->List (Nat×Obj)
 | _,[]=>[]
 | n,r :: l=>Sj n r++DF (n+10000) l
def Jo (name:Nat):List RV->AV
 | []=>.raw (.tuple #[])
 | [r]=>eL name r
 | l=>.tup (Nt name l)
def Hj:(t:Ty)->t.den->t.den->Bool
 | .int _,a,b=>(a:Int)==b
 | .bool,a,b=>(a:Bool)==b
 | .str,a,b=>(a:ByteArray)==b
 | .prod t u,a,b=>Hj t a.1 b.1&&Hj u a.2 b.2
 | .agg t,a,b=>Hj t a b
 | .slice _,_,_=>false
 | .ref _,_,_=>false
def lD:Ty->Bool
 | .prod (.int _) (.int _)=>true
 | _=>false
def YQ:Ty->Bool
 | .int _=>true
 | .bool=>true
 | .str=>true
 | .prod _ _=>false
 | .agg t=>lD t
 | .slice _=>false
 | .ref _=>false
def Be (a b:Ty) (k:a.den):List (a.den×b.den)->Option b.den
 | []=>none
 | x :: r=>if Hj a k x.1=true then some x.2 else Be a b k r
def GM (a b:Ty) (k:a.den) (v:b.den):List (a.den×b.den)->List (a.den×b.den)
 | []=>[(k,v)]
 | x :: r=>if Hj a k x.1=true then (k,v) :: r else x :: GM a b k v r
abbrev Ba:=Option (Prop×AV×List (Nat×Obj))
def Hk (x:AV) (lo hi:Option AV):Ba :=
 match x,lo,hi with
 | .p (.slice e) l,none,some (.p (.int _) h)=>some (0<=h/\h<=l.length,.p (.slice e) (sub l 0 h.toNat),[])
 | .p (.slice e) l,some (.p (.int _) a),none=>some (0<=a/\a<=l.length,.p (.slice e) (sub l a.toNat l.length),[])
 | .p (.slice e) l,some (.p (.int _) a),some (.p (.int _) h)=>some (0<=a/\a<=h/\h<=l.length,.p (.slice e) (sub l a.toNat h.toNat),[])
 | .p .str s,none,some (.p (.int _) h)=>some (0<=h/\h<=s.size,.p .str (s.extract 0 h.toNat),[])
 | .p .str s,some (.p (.int _) a),none=>some (0<=a/\a<=s.size,.p .str (s.extract a.toNat s.size),[])
 | .p .str s,some (.p (.int _) a),some (.p (.int _) h)=>some (0<=a/\a<=h/\h<=s.size,.p .str (s.extract a.toNat h.toNat),[])
 | .sr n e b c,none,some (.p (.int _) h)=>some (0<=h/\h<=(c-b:Nat),.sr n e b (b+h.toNat),[])
 | .sr n e b c,some (.p (.int _) a),none=>some (0<=a/\a<=(c-b:Nat),.sr n e (b+a.toNat) c,[])
 | .sr n e b c,some (.p (.int _) a),some (.p (.int _) h)=>some (0<=a/\a<=h/\h<=(c-b:Nat),.sr n e (b+a.toNat) (b+h.toNat),[])
 | _,_,_=>none
def Gt:Option AV->Ba
 | some v=>some (True,v,[])
 | none=>none
def LR:Option AV->Option AV->Option AV->Ba
 | some (.p .bool true),x,_=>Gt x
 | some (.p .bool false),_,y=>Gt y
 | _,_,_=>none
def KT (d:Nat) (t:TypeId):Option TI->Ba
 | some ⟨.agg u,_,_,_⟩=>some (True,.bp d [] 0,[(d,.box t true (yR u))])
 | some ⟨.int k,_,_,_⟩=>some (True,.bp d [] 0,[(d,.box t false [yQ (.int k)])])
 | some ⟨.bool,_,_,_⟩=>some (True,.bp d [] 0,[(d,.box t false [yQ .bool])])
 | some ⟨.str,_,_,_⟩=>some (True,.bp d [] 0,[(d,.box t false [yQ .str])])
 | some ⟨.slice e,_,_,_⟩=>some (True,.bp d [] 0,[(d,.box t false [yQ (.slice e)])])
 | some ⟨.ref k,_,_,_⟩=>some (True,.bp d [] 0,[(d,.box t false [yQ (.ref k)])])
 | _=>none
def Tj (d:Nat) (t:TypeId):Option TI->Option AV->Ba
 | some ⟨.agg u,_,_,_⟩,some (.p (.agg a) v)=>if u=a then some (True,.bp d [] 0,[(d,.box t true (pfs a v))]) else none
 | some ⟨.agg u,_,_,_⟩,some (.ag l)=>if l.map AV.cells=(yR u).map AV.cells then some (True,.bp d [] 0,[(d,.box t true l)]) else none
 | some ⟨.int k,_,_,_⟩,some v=>if Ca (.int k) v then some (True,.bp d [] 0,[(d,.box t false [v])]) else none
 | some ⟨.bool,_,_,_⟩,some v=>if Ca .bool v then some (True,.bp d [] 0,[(d,.box t false [v])]) else none
 | some ⟨.str,_,_,_⟩,some v=>if Ca .str v then some (True,.bp d [] 0,[(d,.box t false [v])]) else none
 | some ⟨.slice e,_,_,_⟩,some v=>if Ca (.slice e) v then some (True,.bp d [] 0,[(d,.box t false [v])]) else none
 | some ⟨.ref k,_,_,_⟩,some v=>if Ca (.ref k) v then some (True,.bp d [] 0,[(d,.box t false [v])]) else none
 | _,_=>none
def JS (σ:St) (parts:List (Nat×Operand)):Option TI->Ba
 | some ⟨.agg u,offs,_,_⟩=>Gt ((Dy σ offs (yR u) parts).map AV.ag)
 | _=>none
def Bp (a:Bool) (d:Nat) (n:Nat) (el:TypeId) (e:Ty):Option (List e.den)->Ba
 | some xs=>some (xs.length=n/\n*e.size<=16777216,if a then .p (.slice e) xs else .sr d e 0 n,if a then [] else [(d,.arr el e xs)])
 | none=>none
def Bh (a:Bool) (σ:St) (d:Nat) (n:Nat) (parts:List (Nat×Operand)):Option TI->Ba
 | some ⟨.slice e,_,el,_⟩=>Bp a d n el e (FD σ e 0 parts)
 | _=>none
def KU (d:Nat) (el b:TypeId) (n:Nat) (k e:Ty):Option k.den->AV->Ba
 | some a,.raw (.slice none 0 0)=>some (n=1/\k.size+1<=16777216,.sr d (.agg (.prod k (.slice e))) 0 1,[(d,.nest el b k e [(a,[])] none)])
 | some a,.pc c l=>if c=e then some ((n=1/\k.size+1<=16777216)/\List.length l=0,.sr d (.agg (.prod k (.slice e))) 0 1,[(d,.nest el b k e [(a,[])] none)]) else none
 | _,_=>none
def JT (σ:St) (d:Nat) (el a:TypeId) (n:Nat):Ty->Option AV->Ba
 | .agg (.prod k (.slice e)),some (.ag [x,y])=>KU d el a n k e (Eh false σ k x) y
 | _,_=>none
def JU (σ:St) (d:Nat) (a:TypeId) (n:Nat):List (Nat×Operand)->Option TI->Ba
 | [(0,x)],some ⟨.slice t,_,el,_⟩=>JT σ d el a n t (Ak σ x)
 | _,_=>none
def Gm (tb:Tb) (σ:St) (d:Nat) (n:Nat) (parts:List (Nat×Operand)) (ti:Option TI):Option TypeId->Ba
 | some a=>JU σ d a n parts ti
 | none=>Bh (inB d tb.pure) σ d n parts ti
def Il (ty:Ty) (fs:List AV) (a:List Nat) (off:Nat):Option AV->Ba
 | some v=>if Ca ty v=true/\Pa fs a=some off then some (True,v,[]) else none
 | none=>none
def El (ty:Ty) (a:List Nat) (off:Nat):Option Obj->Ba
 | some (.box _ st fs)=>Il ty fs a off (Jn st fs a)
 | _=>none
def Im (ty e:Ty) (a:List Nat) (off:Nat):Option PV->Ba
 | some ⟨t,d⟩=>if ty=t/\Lt a e=some off then some (True,.p t d,[]) else none
 | none=>none
def Io (ty e:Ty) (i:Nat) (a:List Nat) (off:Nat):Option (List e.den)->Ba
 | some ys=>Im ty e a off (Th a e (ys.getD i e.dflt))
 | none=>none
def OT (n:Nat) (ty:Ty) (i off:Nat) (k e:Ty) (x:k.den×List e.den):List Nat->Ba
 | [0]=>if ty=k/\off=0 then some (True,.p k x.1,[]) else none
 | [1]=>if ty=.slice e/\off=k.size then some (True,.nin n e i x.2.length,[]) else none
 | _=>none
def Em (n:Nat) (ty e:Ty) (i:Nat) (b:List Nat) (off:Nat):Option Obj->Ba
 | some (.arr _ a xs)=>Io ty e i b off (BW (.slice e) ⟨.slice a,xs⟩)
 | some (.nest _ _ k a xs none)=>if e=.agg (.prod k (.slice a)) then OT n ty i off k a (xs.getD i (k.dflt,[])) b else none
 | _=>none
def Jp (σ:St):Option TI->Option AV->Ba
 | some ti,some (.bp n a off)=>El ti.ty a off (lk n σ.objs)
 | some ti,some (.ep n e i a off)=>Em n ti.ty e i a off (lk n σ.objs)
 | some ti,some (.ip u v)=>if ti.ty=u then some (True,.p u v,[]) else none
 | _,_=>none
def Ip (o:Option (Nat×Nat)) (a:Option Nat):Option PV->Ba
 | some ⟨t,d⟩=>if o.map (·.1)=a then some (True,.ip t d,[]) else none
 | none=>none
def VJ (v:Nat->AV):Option (Nat×Nat)->Ba
 | some (k,_)=>some (True,v k,[])
 | none=>none
def Pb (f:Nat) (o:Option (Nat×Nat)):AV->Ba
 | .bp n a off=>VJ (λk=>.bp n (a++[f]) (off+k)) o
 | .ep n e i a off=>VJ (λk=>.ep n e i (a++[f]) (off+k)) o
 | .ip (.agg u) v=>Ip o (KQ u f) (HI u f v)
 | _=>none
def HJ (f:Nat):Option TI->Option AV->Ba
 | some ⟨.agg _,offs,0,_⟩,some x=>Pb f offs[f]? x
 | _,_=>none
def KV (offs:List (Nat×Nat)) (x:AV):AV->Ba
 | .p (.int _) k=>if 0<=k then Pb k.toNat offs[k.toNat]? x else none
 | _=>none
def F4:Option TI->Option AV->Option AV->Ba
 | some ⟨.slice e,_,_,_⟩,some (.p (.slice a) l),some (.p (.int _) k)=>if e=a then some (0<=k/\k<l.length,.ip a (l.getD k.toNat a.dflt),[]) else none
 | some ⟨.slice e,_,_,_⟩,some (.sr n a lo hi),some (.p (.int _) k)=>if e=a then some (0<=k/\k<(hi-lo:Nat),.ep n a (lo+k.toNat) [] 0,[]) else none
 | some ⟨.agg _,offs,_+1,_⟩,some x,some i=>KV offs x i
 | _,_,_=>none
def Ed:Option TI->Option AV->Option AV->Ba
 | some ⟨.str,_,_,_⟩,some (.p .str s),some (.p (.int _) k)=>some (0<=k/\k<s.size,.p (.int .u8) ((s.data.getD k.toNat 0).toNat:Int),[])
 | _,_,_=>none
def VK:Option AV->Ba
 | some (.bp n a off)=>some (True,.bp n a off,[])
 | some (.ip t v)=>some (True,.ip t v,[])
 | some (.ep n e i a off)=>some (True,.ep n e i a off,[])
 | _=>none
def lE (a b:Bool):BinOp->Ba
 | .eql=>some (True,.p .bool (a==b),[])
 | .neq=>some (True,.p .bool (a != b),[])
 | _=>none
def Sk:Option TI->Bool
 | some ⟨.bool,_,_,_⟩=>true
 | _=>false
def Ra (op:BinOp) (ti:Option TI):Option AV->Option AV->Ba
 | some (.p (.int k) a),some (.p (.int c) b)=>some ((bin op k a c b).1,(bin op k a c b).2,[])
 | some (.p .str a),some (.p .str b)=>some ((YP a b op).1,(YP a b op).2,[])
 | some (.p .bool a),some (.p .bool b)=>if Sk ti=true then lE a b op else none
 | _,_=>none
def qUn:UnOp->Option AV->Ba
 | .not,some (.p .bool b)=>some (True,.p .bool (!b),[])
 | .neg,some (.p (.int k) a)=>some (KO k (0-a),.p (.int k) (0-a),[])
 | _,_=>none
def Sl (l:List Int):ByteArray:=⟨(l.map λx=>UInt8.ofNat x.toNat).toArray⟩
def Jq:Option TI->Option TI->Option AV->Ba
 | some ⟨.int _,_,_,_⟩,some ⟨.int k,_,_,_⟩,some (.p (.int _) a)=>some (KO k a,.p (.int k) a,[])
 | some ⟨.slice (.int .u8),_,_,_⟩,some ⟨.str,_,_,_⟩,some (.p (.slice (.int .u8)) l)=>some (True,.p .str (Sl l),[])
 | _,_,_=>none
def Lv (d:Nat) (el:TypeId) (e:Ty) (n m:Int):Option TI->Ba
 | some ti=>some (n=m/\0<=n/\n.toNat*ti.bytes<=AP,.sr d e 0 n.toNat,[(d,.arr el e (List.replicate n.toNat e.dflt))])
 | none=>none
def Iq (tb:Tb) (d:Nat):Option TI->Option AV->Option AV->Ba
 | some ⟨.slice e,_,el,_⟩,some (.p (.int .i64) n),some (.p (.int .i64) m)=>Lv d el e n m (lk el tb.ty)
 | _,_,_=>none
def FX:Option TI->Option AV->Option (Option AV)->Option (Option AV)->Ba
 | some ⟨.slice e,_,_,_⟩,some (.p (.slice d) l),some a,some h=>if e=d then Hk (.p (.slice d) l) a h else none
 | some ⟨.slice e,_,_,_⟩,some (.sr n d b c),some a,some h=>if e=d then Hk (.sr n d b c) a h else none
 | some ⟨.str,_,_,_⟩,some (.p .str s),some a,some h=>Hk (.p .str s) a h
 | _,_,_,_=>none
def Dz:Option TI->Option AV->Option AV->Option AV->Ba
 | some ⟨.slice e,_,_,_⟩,some (.p (.slice c) l),some (.p (.int _) a),some (.p (.int _) b)=>if e=c then some (a=(List.length l:Int)/\b=(List.length l:Int),.pc c l,[]) else none
 | _,_,_,_=>none
def Eo (i:Nat):Option AV->Ba
 | some (.tup l)=>Gt l[i]?
 | _=>none
def Tk:Option TI->Option AV->Ba
 | some ⟨.slice _,_,_,_⟩,some (.p (.slice _) l)=>some (True,.p (.int .i64) (l.length:Int),[])
 | some ⟨.slice _,_,_,_⟩,some (.sr _ _ lo hi)=>some (True,.p (.int .i64) ((hi-lo:Nat):Int),[])
 | some ⟨.slice _,_,_,_⟩,some (.nin _ _ _ len)=>some (True,.p (.int .i64) (len:Int),[])
 | some ⟨.slice _,_,_,_⟩,some (.raw (.slice none 0 0))=>some (True,.p (.int .i64) (0:Int),[])
 | some ⟨.str,_,_,_⟩,some (.p .str s)=>some (True,.p (.int .i64) (s.size:Int),[])
 | _,_=>none
def FH (d:Nat) (el:TypeId) (e:Ty):Option TI->Option (List e.den)->Ba
 | some ti,some ys=>some (ys.length*ti.bytes<=AP,.sr d e 0 ys.length,[(d,.arr el e ys)])
 | _,_=>none
def Ep (tb:Tb) (σ:St) (d:Nat) (v:AV):Option TI->Ba
 | some ⟨.slice e,_,el,_⟩=>FH d el e (lk el tb.ty) (PZ σ e v)
 | _=>none
def KW (d:Nat) (el:TypeId) (e:Ty) (l:List e.den):Option TI->Option (List e.den)->Ba
 | some ti,some ys=>some (0<ys.length/\(l.length+ys.length)*ti.bytes<=AP,.sr d e 0 (l.length+ys.length),[(d,.arr el e (l++ys))])
 | _,_=>none
def JV (tb:Tb) (σ:St) (d:Nat) (e:Ty) (l:List e.den) (v:AV):Option TI->Ba
 | some ⟨.slice a,_,el,_⟩=>if a=e then KW d el e l (lk el tb.ty) (PZ σ e v) else none
 | _=>none
def Cl (tb:Tb) (σ:St) (d:Nat) (t u:TypeId):Option AV->Option AV->Ba
 | some (.raw (.slice none 0 0)),some v=>if t=u then Ep tb σ d v (lk t tb.ty) else none
 | some (.pc e l),some v=>if t=u then JV tb σ d e l v (lk t tb.ty) else none
 | _,_=>none
def Rb:Option AV->Option AV->Ba
 | some (.p (.int k) a),some (.p (.int c) b)=>if k=c then some (True,.p (.int k) (if b<a then b else a),[]) else none
 | _,_=>none
def Ir:Option AV->Option AV->Option AV->Ba
 | some (.p (.int k) a),some (.p (.int d) b),some (.p (.int e) c)=>if k=d/\k=e then some (True,.p (.int k) (if c<(if b<a then b else a) then c else (if b<a then b else a)),[]) else none
 | _,_,_=>none
def Nu (k:IntKind) (a:Int):Option AV->Option Int
 | some (.p (.int c) b)=>if k=c then some (if b<a then b else a) else none
 | _=>none
def Fg (σ:St) (k:IntKind):Option Int->List Operand->Option Int
 | some a,x :: r=>Fg σ k (Nu k a (Ak σ x)) r
 | o,_=>o
def Pc (k:IntKind):Option Int->Ba
 | some m=>some (True,.p (.int k) m,[])
 | none=>none
def Nv (σ:St) (r:List Operand):Option AV->Ba
 | some (.p (.int k) a)=>Pc k (Fg σ k (some a) r)
 | _=>none
def Rc:Option AV->Option AV->Ba
 | some (.p (.int k) a),some (.p (.int c) b)=>if k=c then some (True,.p (.int k) (if a<b then b else a),[]) else none
 | _,_=>none
def KX (d:Nat) (sp:Aa):Option (KR sp.ins)->Ba
 | some ds=>if sp.lend=false\/(sp.out ds).all RV.flat=true then some (sp.pre ds,Jo d (sp.out ds),DF d (sp.out ds)) else none
 | none=>none
def JW (σ:St) (d:Nat) (xs:List Operand):Option Aa->Ba
 | some sp=>KX d sp (GP sp.lend σ sp.ins xs)
 | none=>none
def Lw (tb:Tb) (σ:St) (d:Nat) (xs:List Operand):Option AV->Ba
 | some (.fn f)=>JW σ d xs (lk f tb.fns)
 | _=>none
def DM (tb:Tb) (σ:St) (d:Nat):Builtin->List Operand->List TypeId->Ba
 | .len,[x],[t]=>Tk (lk t tb.ty) (Ak σ x)
 | .append,[x,y],[t,u]=>Cl tb σ d t u (Ak σ x) (Ak σ y)
 | .min,[x,y],[_,_]=>Rb (Ak σ x) (Ak σ y)
 | .max,[x,y],[_,_]=>Rc (Ak σ x) (Ak σ y)
 | .min,[x,y,z],[_,_,_]=>Ir (Ak σ x) (Ak σ y) (Ak σ z)
 | .min,x :: y :: z :: u :: r,_=>Nv σ (y :: z :: u :: r) (Ak σ x)
 | _,_,_=>none
def Hl (σ:St):List Operand->Option (List Nat)
 | []=>some []
 | x :: r=>match Ak σ x,Hl σ r with
  | some (.bp n [] 0),some ns=>some (n :: ns)
  | _,_=>none
def Pd (f:FuncId):Option (List Nat)->Ba
 | some ns=>some (True,.clo f ns,[])
 | none=>none
def aQ (σ:St) (fn:Fn) (first a:List Operand):Ba :=
 match fn,first with
 | .func f,[]=>Pd f (Hl σ a)
 | _,_=>none
def GW (d:Nat):Option TI->Option TI->Ba
 | some a,some te=>some (True,.mp d,[(d,.mapo a.ty te.ty [])])
 | _,_=>none
def GX (tb:Tb) (d:Nat):List (Nat×Nat)->Ba
 | [(k,e)]=>GW d (lk k tb.ty) (lk e tb.ty)
 | _=>none
def F5 (tb:Tb) (d:Nat):Option TI->Ba
 | some ⟨.ref 2,offs,_,_⟩=>GX tb d offs
 | _=>none
def Lx (a:Ty) (ok:Bool) (r:Option a.den):Ba :=
 if ok then some (True,.tup [.p a (r.getD a.dflt),.p .bool r.isSome],[]) else some (True,.p a (r.getD a.dflt),[])
def KY (a b:Ty) (l:List (a.den×b.den)) (ok:Bool):Option a.den->Ba
 | some k=>if YQ a=true then Lx b ok (Be a b k l) else none
 | none=>none
def Hm (tb:Tb) (σ:St) (b d:Nat) (x:AV) (ok:Bool):Option Obj->Ba
 | some (.mapo a c l)=>if (lk b tb.ty).map TI.ty=some a/\(lk b tb.ty).map TI.el=some 0/\(lk d tb.ty).map TI.ty=some c then KY a c l ok (LQ false σ a x) else none
 | _=>none
def It (tb:Tb) (σ:St) (ok:Bool):Option TI->Option AV->Option AV->Ba
 | some ⟨.ref 2,[(k,e)],_,_⟩,some (.mp n),some x=>Hm tb σ k e x ok (lk n σ.objs)
 | _,_,_=>none
def DB (tb:Tb) (σ:St) (d:Nat) (xs:List Operand) (ts:List TypeId):Callee->Ba
 | .builtin b=>DM tb σ d b xs ts
 | .value g=>Lw tb σ d xs (Ak σ g)
 | _=>none
def aq (tb:Tb) (σ:St) (d:Nat):Op->Ba
 | .move x=>Gt (Ak σ x)
 | .assign x=>Gt (Ak σ x)
 | .pick c x y=>LR (Ak σ c) (Ak σ x) (Ak σ y)
 | .alloc t=>KT d t (lk t tb.ty)
 | .box t x=>Tj d t (lk t tb.ty) (Ak σ x)
 | .build t parts=>JS σ parts.toList (lk t tb.ty)
 | .buildSlice t n parts=>Gm tb σ d n parts.toList (lk t tb.ty) (lk d tb.nests)
 | .load t x=>Jp σ (lk t tb.ty) (Ak σ x)
 | .fieldAddr s x f=>HJ f (lk s tb.ty) (Ak σ x)
 | .indexAddr t x i=>F4 (lk t tb.ty) (Ak σ x) (Ak σ i)
 | .index t x i=>Ed (lk t tb.ty) (Ak σ x) (Ak σ i)
 | .nilCheck x=>VK (Ak σ x)
 | .binOp op t x y _=>Ra op (lk t tb.ty) (Ak σ x) (Ak σ y)
 | .unOp op _ x=>qUn op (Ak σ x)
 | .convert s t x=>Jq (lk s tb.ty) (lk t tb.ty) (Ak σ x)
 | .makeSlice t l c=>Iq tb d (lk t tb.ty) (Ak σ l) (Ak σ c)
 | .slice t x none (some hi) (some b)=>Dz (lk t tb.ty) (Ak σ x) (Ak σ hi) (Ak σ b)
 | .slice t x lo hi none=>FX (lk t tb.ty) (Ak σ x) (Gr σ lo) (Gr σ hi)
 | .extract x i=>Eo i (Ak σ x)
 | .call c=>DB tb σ d c.args.toList c.argTypes.toList c.callee
 | .makeFunc fn first a=>aQ σ fn first.toList a.toList
 | .makeMap t none=>F5 tb d (lk t tb.ty)
 | .lookup t x i ok=>It tb σ ok (lk t tb.ty) (Ak σ x) (Ak σ i)
 | _=>none
def Pe:AV->Bool
 | .ag _=>false
 | _=>true
def KZ (st:Bool) (fs:List AV) (v:AV):List Nat->Option (List AV)
 | []=>if st then match v with
   | .p (.agg u) d=>some (pfs u d)
   | .ag l=>some l
   | _=>none
  else if Pe v then some [v] else none
 | [k]=>if st&&Pe v then some (fs.set k v) else none
 | k :: r=>if st then match fs[k]?,v with
   | some (.p t d),.p u x=>(VI r t d ⟨u,x⟩).map λy=>fs.set k (.p t y)
   | _,_=>none
  else none
abbrev DE:=Option (Prop×St)
def FI (σ:St) (n:Nat) (et:TypeId) (st:Bool) (ty:Ty) (fs:List AV) (b:List Nat) (off:Nat) (v:AV):Option AV->Option (List AV)->DE
 | some u,some a=>if Ns ty u=true/\Ca ty v=true/\Pa fs b=some off/\a.map AV.cells=fs.map AV.cells then some (True,⟨σ.env,upd n (.box et st a) σ.objs⟩) else none
 | _,_=>none
def Dj (σ:St) (n:Nat) (ty:Ty) (a:List Nat) (off:Nat) (v:AV):Option Obj->DE
 | some (.box et st fs)=>FI σ n et st ty fs a off v (Jn st fs a) (KZ st fs v a)
 | _=>none
def F6 (σ:St) (n:Nat) (et:TypeId) (e:Ty) (i:Nat) (a:List Nat) (off:Nat) (ys:List e.den):Option e.den->DE
 | some z=>if Lt a e=some off then some (True,⟨σ.env,upd n (.arr et e (ys.set i z)) σ.objs⟩) else none
 | none=>none
def Eq (σ:St) (n:Nat) (et:TypeId) (ty e:Ty) (i:Nat) (a:List Nat) (off:Nat):Option (List e.den)->Option ty.den->DE
 | some ys,some w=>F6 σ n et e i a off ys (VI a e (ys.getD i e.dflt) ⟨ty,w⟩)
 | _,_=>none
def Ly (σ:St) (d n:Nat) (et a:TypeId) (k e:Ty) (xs:List (k.den×List e.den)) (i bytes:Nat):Option (List e.den)->DE
 | some ys=>if (lk d σ.objs).isNone=true/\ys.isEmpty=false then some (((xs.getD i (k.dflt,[])).2.length+ys.length)*bytes<=AP,
   ⟨(d,.sr d e 0 ((xs.getD i (k.dflt,[])).2.length+ys.length)) :: EY n [] σ.env,(d,.arr a e ((xs.getD i (k.dflt,[])).2++ys)) :: (n,.nest et a k e xs (some i)) :: Ck n [] σ.objs⟩) else none
 | none=>none
def Pf (σ:St) (d n:Nat) (el:TypeId) (b:Ty) (i:Nat) (v:AV):Option TI->Option Obj->DE
 | some ti,some (.nest et a k e xs none)=>if b=e/\a=el/\Gq n=false then Ly σ d n et a k e xs i ti.bytes (PZ σ e v) else none
 | _,_=>none
def Nw (tb:Tb) (σ:St) (d n:Nat) (a:Ty) (i:Nat) (v:AV):Option TI->DE
 | some ⟨.slice e,_,el,_⟩=>if a=e then Pf σ d n el e i v (lk el tb.ty) (lk n σ.objs) else none
 | _=>none
def Ka (σ:St) (n m:Nat) (et a:TypeId) (k e:Ty) (xs:List (k.den×List e.den)) (i hi:Nat):Option (List e.den)->DE
 | some ys=>some (hi=ys.length,⟨EY n [m] σ.env,(n,.nest et a k e (xs.set i ((xs.getD i (k.dflt,[])).1,ys)) none) :: Ck n [m] σ.objs⟩)
 | none=>none
def Lz (σ:St) (n m:Nat) (et a:TypeId) (k e:Ty) (xs:List (k.den×List e.den)) (i hi:Nat):Option Obj->DE
 | some (.arr c b ys)=>if c=a/\Gq m=false/\Gq n=false then Ka σ n m et a k e xs i hi (BW (.slice e) ⟨.slice b,ys⟩) else none
 | _=>none
def Kb (σ:St) (d n m:Nat) (et b:TypeId) (k e:Ty) (hi a bytes:Nat) (xs:List (k.den×List e.den)):Option (List (k.den×List e.den))->DE
 | some ys=>some (hi=xs.length/\a=ys.length/\(xs.length+ys.length)*bytes<=AP,
   ⟨(d,.sr n (.agg (.prod k (.slice e))) 0 (xs.length+ys.length)) :: Bu [n,m] σ.env,(n,.nest et b k e (xs++ys) none) :: Ao [n,m] [n,m] σ.objs⟩)
 | none=>none
def L1 (σ:St) (d n m:Nat) (et a:TypeId) (k e:Ty) (hi c bytes:Nat) (xs:List (k.den×List e.den)):Option Obj->DE
 | some (.nest _ f g b ys none)=>if f=a/\n≠m/\Gq m=false then Kb σ d n m et a k e hi c bytes xs (BW (.slice (.agg (.prod k (.slice e)))) ⟨.slice (.agg (.prod g (.slice b))),ys⟩) else none
 | _=>none
def Sm (σ:St) (d n:Nat) (et b:TypeId) (k e:Ty) (hi bytes:Nat) (xs:List (k.den×List e.den)):AV->DE
 | .sr m _ 0 a=>L1 σ d n m et b k e hi a bytes xs (lk m σ.objs)
 | _=>none
def Pg (σ:St) (d m:Nat) (el b:TypeId) (k e:Ty) (ys:List (k.den×List e.den)) (a bytes:Nat):DE :=
 if (lk d σ.objs).isNone=true/\Gq m=false then some (a=ys.length/\ys.length*bytes<=AP,
  ⟨(d,.sr d (.agg (.prod k (.slice e))) 0 ys.length) :: Bu [m] σ.env,(d,.nest el b k e ys none) :: Ao [m] [m] σ.objs⟩) else none
def Ph (σ:St) (d m:Nat) (el:TypeId) (t:Ty) (a:Nat):Option TI->Option Obj->DE
 | some ti,some (.nest _ b k e ys none)=>if t=.agg (.prod k (.slice e)) then Pg σ d m el b k e ys a ti.bytes else none
 | _,_=>none
def aR (tb:Tb) (σ:St) (d:Nat):AV->Option TI->DE
 | .sr m _ 0 a,some ⟨.slice t,_,el,_⟩=>Ph σ d m el t a (lk el tb.ty) (lk m σ.objs)
 | _,_=>none
def L2 (σ:St) (n m:Nat) (ty:Ty) (et a:TypeId) (k e:Ty) (xs:List (k.den×List e.den)) (i hi:Nat) (b:List Nat) (off:Nat):DE :=
 if ty=.slice e/\b=[1]/\off=k.size then Lz σ n m et a k e xs i hi (lk m σ.objs) else none
def Dk (σ:St) (n:Nat) (ty e:Ty) (i:Nat) (b:List Nat) (off:Nat) (v:AV):Option Obj->DE
 | some (.arr et a xs)=>Eq σ n et ty e i b off (BW (.slice e) ⟨.slice a,xs⟩) (LQ false σ ty v)
 | some (.nest et c k a xs (some j))=>match v with
  | .sr m E 0 hi=>if e=.agg (.prod k (.slice a))/\i=j/\E=a then L2 σ n m ty et c k a xs i hi b off else none
  | _=>none
 | _=>none
def Hn (σ:St):Option TI->Option AV->Option AV->DE
 | some ti,some (.bp n a off),some v=>Dj σ n ti.ty a off v (lk n σ.objs)
 | some ti,some (.ep n e i a off),some v=>Dk σ n ti.ty e i a off v (lk n σ.objs)
 | _,_,_=>none
def FJ (σ:St) (d n:Nat) (et:TypeId) (e:Ty) (hi:Nat) (bytes:Nat):Option (List e.den)->Option (List e.den)->DE
 | some a,some ys=>some ((hi+ys.length)*bytes<=AP,⟨(d,.sr n e 0 (hi+ys.length)) :: F2 n σ.env,upd n (.arr et e (a.take hi++ys)) (Bg n σ.objs)⟩)
 | _,_=>none
def Ci (σ:St) (d n:Nat) (el:TypeId) (e:Ty) (hi:Nat) (v:AV) (ys:Option (List e.den)):Option TI->Option Obj->DE
 | some ti,some (.arr et a xs)=>if et=el then FJ σ d n et e hi ti.bytes (BW (.slice e) ⟨.slice a,xs⟩) ys else none
 | some ti,some (.nest et b k a xs none)=>if et=el/\e=.agg (.prod k (.slice a)) then Sm σ d n et b k a hi ti.bytes xs v else none
 | _,_=>none
def Er (tb:Tb) (σ:St) (d:Nat) (n:Nat) (a:Ty) (hi:Nat) (v:AV):Option TI->DE
 | some ⟨.slice e,_,el,_⟩=>if e=a then Ci σ d n el e hi v (PZ σ e v) (lk el tb.ty) (lk n σ.objs) else none
 | _=>none
def DN (tb:Tb) (σ:St) (d:Option Nat) (t u:TypeId):Option AV->Option AV->DE
 | some (.sr n e 0 hi),some v=>match d with
  | some d=>if t=u/\Gq n=false then Er tb σ d n e hi v (lk t tb.ty) else none
  | none=>none
 | some (.nin n e i _),some v=>match d with
  | some d=>if t=u then Nw tb σ d n e i v (lk t tb.ty) else none
  | none=>none
 | some (.raw (.slice none 0 0)),some v=>match d with
  | some d=>if t=u then aR tb σ d v (lk t tb.ty) else none
  | none=>none
 | _,_=>none
def Dm (tb:Tb) (σ:St) (d:Option Nat):Builtin->List Operand->List TypeId->DE
 | .append,[x,y],[t,u]=>DN tb σ d t u (Ak σ x) (Ak σ y)
 | _,_,_=>none
def DP (tb:Tb) (σ:St) (d:Option Nat) (xs:List Operand) (ts:List TypeId):Callee->DE
 | .builtin b=>Dm tb σ d b xs ts
 | _=>none
def Gn (σ:St) (n:Nat) (a b:Ty) (l:List (a.den×b.den)):Option a.den->Option b.den->DE
 | some k,some v=>if YQ a=true then some (True,⟨σ.env,upd n (.mapo a b (GM a b k v l)) σ.objs⟩) else none
 | _,_=>none
def F7 (tb:Tb) (σ:St) (n:Nat) (b:Nat) (x y:AV):Option Obj->DE
 | some (.mapo a c l)=>if (lk b tb.ty).map TI.ty=some a/\(lk b tb.ty).map TI.el=some 0 then Gn σ n a c l (LQ false σ a x) (LQ false σ c y) else none
 | _=>none
def Kd (tb:Tb) (σ:St):Option TI->Option AV->Option AV->Option AV->DE
 | some ⟨.ref 2,[(k,_)],_,_⟩,some (.mp n),some x,some y=>F7 tb σ n k x y (lk n σ.objs)
 | _,_,_,_=>none
def D0 (r:DE):Option Nat->DE
 | none=>r
 | some _=>none
def Fh (tb:Tb) (σ:St) (d:Option Nat):Op->DE
 | .store t x y=>D0 (Hn σ (lk t tb.ty) (Ak σ x) (Ak σ y)) d
 | .mapUpdate t m x y=>D0 (Kd tb σ (lk t tb.ty) (Ak σ m) (Ak σ x) (Ak σ y)) d
 | .call c=>DP tb σ d c.args.toList c.argTypes.toList c.callee
 | _=>none
def St.add (σ:St) (v:AV) (obs:List (Nat×Obj)):Option Nat->St
 | some d=>⟨(d,v) :: σ.env,obs++σ.objs⟩
 | none=>⟨σ.env,obs++σ.objs⟩
def M5:Option AV->List Nat
 | some v=>v.names
 | none=>[]
def DX (σ:St):List (Nat×Operand)->List Nat
 | []=>[]
 | (_,x) :: r=>M5 (Ak σ x)++DX σ r
def M6:Option AV->List Nat
 | some (.ag l)=>AV.namess l
 | _=>[]
def FK (σ:St):List (Nat×Operand)->List Nat
 | []=>[]
 | (_,x) :: r=>M6 (Ak σ x)++FK σ r
def Ce (σ:St):Option AV->Option AV->List Nat
 | some (.ep n _ _ _ _),some v=>if Cs (lk n σ.objs)=true then [] else v.names
 | _,_=>[]
def Jr:Option AV->Option AV->Option AV->List Nat
 | some (.mp _),some v,some u=>v.names++u.names
 | _,_,_=>[]
def CP (σ:St):Op->List Nat
 | .buildSlice _ _ parts=>DX σ parts.toList
 | .build _ parts=>FK σ parts.toList
 | .store _ x y=>Ce σ (Ak σ x) (Ak σ y)
 | .mapUpdate _ m x y=>Jr (Ak σ m) (Ak σ x) (Ak σ y)
 | _=>[]
def Ct:List Nat->St->St
 | [],σ=>σ
 | n :: r,σ=>Ct r (frz n σ)
def Bi (obs:List (Nat×Obj)) (σ:St):Bool:=obs.all λp=>(lk p.1 σ.objs).isNone
def LS (tb:Tb) (σ:St) (o:Oper):Ba->DE
 | some (vc,v,obs)=>if Bi obs σ=true then some (vc,σ.add v obs o.dst) else none
 | none=>Fh tb σ o.dst o.op
def Pi (tb:Tb) (o:Oper) (σ:St):DE:=LS tb σ o (aq tb σ (o.dst.getD 0) o.op)
def GQ (tb:Tb) (o:Oper) (σ:St):DE:=Pi tb o (Ct (CP σ o.op) σ)
def Rd (a:Bool):Option AV->Option Bool
 | some (.p .bool b)=>some (b==a)
 | _=>none
def Ke (σ:St) (a:Bool):Option Tmp->Option Bool
 | some g=>Rd a (lk g σ.env)
 | none=>none
def E2 (ops:List Oper) (σ:St):Option (Nat×Bool)->Option Bool
 | none=>some true
 | some (j,a)=>Ke σ a ((ops[j]?).bind (·.dst))
def YL (vc:Prop):DE->DE
 | some (a,σ)=>some (vc/\a,σ)
 | none=>none
mutual
def B1 (tb:Tb) (ops:List Oper):List Oper->St->DE
 | [],σ=>some (True,σ)
 | o :: r,σ=>evG tb ops o r σ (E2 ops σ o.guard)
def evG (tb:Tb) (ops:List Oper) (o:Oper) (r:List Oper) (σ:St):Option Bool->DE
 | some true=>evK tb ops r (GQ tb o σ)
 | some false=>B1 tb ops r (σ.add (.raw undef) [] o.dst)
 | none=>none
def evK (tb:Tb) (ops:List Oper) (r:List Oper):DE->DE
 | some (vc,σ)=>YL vc (B1 tb ops r σ)
 | none=>none
end
end
section
open Go Go.RowKit
theorem CQ {w:World} {b:Nat} {o:_root_.Go.Obj} (h:w.heap[b]?=some o):b<w.heap.size:=by grind
def blk:Value->Option Nat
 | .slice (some a) _ _=>some a.block
 | .pointer (some a)=>some a.block
 | .map (some b)=>some b
 | _=>none
def bk (v:Value) (b:Nat):Prop:=blk v=some b\/∃a:Array Value,v=.tuple a/\∃x∈a.toList,blk x=some b
theorem L3 {a:Option Addr} {m c b:Nat}:bk (.slice a m c) b↔blk (.slice a m c)=some b:=by
 constructor
 ·intro h;rcases h with h|⟨_,h,_⟩
  ·exact h
  ·cases h
 ·exact .inl
def plc:Value->Value
 | .tuple a=>a.getD 0 undef
 | v=>v
def DG (loc:Value) (sz lo hi:Nat) (v:Value):Prop :=
 ∃(a:Option Addr) (m c:Nat),loc=.slice a m c/\lo<=hi/\hi<=m/\∃(b:Option Addr) (d:Nat),v=.slice b (hi-lo) d/\hi-lo<=d/\(lo=0->b=a/\d=c)/\(lo<hi->b=a.map (·.add (lo*sz)))
structure Vw where
 w:World
 
 O:Nat->Prop
 
 L:Nat->Prop
 
 ρ:Nat->Value
def Lay (u v:Value):Prop:=v=u\/(u=.slice none 0 0/\∃a:Option Addr,v=.slice a 0 0)
def VL (V:Vw):AV->Value->Prop
 | .p t d,v=>Bl V.w V.O t v d
 | .pc e d,v=>Bl V.w V.O (.slice e) v d/\∃a:Option Addr,v=.slice a (List.length d) (List.length d)
 | .raw u,v=>v=u
 | .sr n e lo hi,v=>V.L n/\DG (plc (V.ρ n)) e.size lo hi v
 | .ep n e i _ off,v=>V.L n/\∃g m c:Nat,plc (V.ρ n)=.slice (some ⟨g,0,none⟩) m c/\i<m/\v=.pointer (some ⟨g,i*e.size+off,none⟩)
 | .nin n _ i len,v=>V.L n/\∃(h:Array Value) (a:Option Addr) (c:Nat) (u:Value),V.ρ n=.tuple h/\h[i+1]?=some u/\Lay u v/\v=.slice a len c
 | .ip t d,v=>∃(ad:Addr) (cs:List Value),v=.pointer (some ad)/\¬V.O ad.block/\(∀(j:Nat) (u:Value),cs[j]?=some u->V.w.cell? (ad.add j)=some u)/\B0 V.w V.O t cs d
 | .bp n _ off,v=>V.L n/\∃b:Nat,V.ρ n=.pointer (some ⟨b,0,none⟩)/\v=.pointer (some ⟨b,off,none⟩)
 | .fn f,v=>v=.func (.func f) #[] #[]
 | .clo f ns,v=>v=.func (.func f) #[] (ns.map V.ρ).toArray/\∀n∈ns,V.L n/\∃b:Nat,V.ρ n=.pointer (some ⟨b,0,none⟩)
 | .mp n,v=>V.L n/\∃b:Nat,V.ρ n=.map (some b)/\v=.map (some b)
 | .yl n,v=>V.L n/\∃b:Nat,V.ρ n=.pointer (some ⟨b,0,none⟩)/\v=.func (.yield b) #[] #[]
 | .top,_=>True
 | .ag _,_=>False
 | .tup _,_=>False
def Nm (V:Vw):AV->List Value->Prop
 | .p t d,cs=>B0 V.w V.O t cs d
 | av,cs=>∃v,cs=[v]/\v.oneCell'=true/\VL V av v
def Dn (V:Vw):List AV->List Value->Prop
 | [],cs=>cs=[]
 | x :: r,cs=>∃c1 c2:List Value,cs=c1++c2/\Nm V x c1/\Dn V r c2
def Sn (V:Vw):AV->Value->Prop
 | .ag l,v=>∃cs:List Value,v=.agg cs.toArray/\Dn V l cs
 | x,v=>VL V x v
def Js (V:Vw):List AV->List Value->Prop
 | [],a=>a=[]
 | x :: r,a=>∃(v:Value) (l:List Value),a=v :: l/\Sn V x v/\Js V r l
theorem Sn.of1 {V:Vw} {x:AV} {v:Value} (h:VL V x v):Sn V x v:=by
 cases x;case ag l=>exact h.elim
 all_goals exact h
def B7 (V:Vw):AV->Value->Prop
 | .ag l,v=>∃cs:List Value,v=.agg cs.toArray/\Dn V l cs
 | .tup l,v=>∃a:List Value,v=.tuple a.toArray/\Js V l a
 | av,v=>VL V av v
theorem A1m {V:Vw} {x:AV} {v:Value} (h:Sn V x v):B7 V x v:=by
 cases x;case tup l=>exact(show False from h).elim
 all_goals exact h
def Dx (w:World) (O:Nat->Prop) (e:Ty) (cells:List Value) (xs:List e.den):Prop :=
 ∀(i:Nat) (x:e.den),xs[i]?=some x->∃a:List Value,a.length=e.size/\(∀(j:Nat) (u:Value),a[j]?=some u->cells[i*e.size+j]?=some u)/\B0 w O e a x
def OU (w:World) (O:Nat->Prop) (k v:Ty):List MapEntry->List (k.den×v.den)->Prop
 | [],[]=>True
 | e :: a,x :: xs=>Bl w O k e.key x.1/\Bl w O v e.val x.2/\OU w O k v a xs
 | _,_=>False
def aU (a:Array MapEntry) (clock:Nat):Prop:=(a.toList.map (·.born)).Nodup/\∀b∈a.toList.map (·.born),b<clock
def OV (V:Vw) (et:TypeId) (e:Ty) (xs:List e.den) (loc:Value):Prop:=xs.length<=AP/\∃cells:List Value,V.w.ownsRow 0 et e.size loc xs.length cells/\Dx V.w V.O e cells xs
def aV (V:Vw) (a:TypeId) (k e:Ty) (hole:Bool) (cells:List Value) (i:Nat) (x:k.den×List e.den) (u:Value):Prop :=
 ∃(c1:List Value) (v:Value),(∀(j:Nat) (z:Value),(c1++[v])[j]?=some z->cells[i*(k.size+1)+j]?=some z)/\B0 V.w V.O k c1 x.1 /\
  ((hole=true/\u=.slice none 0 0)\/(hole=false/\Lay u v/\OV V a e x.2 u))
structure LT (V:Vw) (et iet:TypeId) (k e:Ty) (xs:List (k.den×List e.den)) (h:Option Nat) (o:Value) (ins:List Value) (cells:List Value):Prop where
 max:xs.length<=AP
 len:ins.length=xs.length
 own:V.w.ownsRow 0 et (k.size+1) o xs.length cells
 row:∀(i:Nat) (x:k.den×List e.den) (u:Value),xs[i]?=some x->ins[i]?=some u->aV V iet k e (h==some i) cells i x u
 dist:∀(i j b:Nat) (u v:Value),ins[i]?=some u->ins[j]?=some v->blk u=some b->blk v=some b->i=j
 out:∀(i b:Nat) (u:Value),ins[i]?=some u->blk u=some b->blk o≠some b
def Shp (loc o:Value) (ins:List Value):Prop:=loc=.tuple (o :: ins).toArray\/(loc=.slice none 0 0/\o=.slice none 0 0/\ins=[])
def ADE (V:Vw) (k v:Ty) (l:List (k.den×v.den)) (left:List Nat) (d:Option Nat) (r:Nat):Prop :=
 ∃(b:Nat) (a:Array MapEntry) (clock c:Nat) (seen:Array Nat),V.w.heap[r]?=some (.mapIter (some b) c seen clock)/\¬V.O b/\V.w.heap[b]?=some (.map a clock)/\OU V.w V.O k v a.toList l/\aU a clock /\
  (∀s∈a.toList.map (·.born),s<c)/\c<=clock/\left.Nodup/\(∀i,i∈left↔∃e,a[i]?=some e/\e.born∉seen)/\(∀i,d=some i->∃e,a[i]?=some e/\seen.back?=some e.born)
def A8 (V:Vw):Obj->Value->Prop
 | .arr et e xs,loc=>OV V et e xs loc
 | .nest et d k e xs h,loc=>∃(o:Value) (ins cells:List Value),Shp loc o ins/\LT V et d k e xs h o ins cells
 | .box et st fs,loc=>(st=false->fs.length=1)/\∃(b:Nat) (cs:List Value),loc=.pointer (some ⟨b,0,none⟩)/\V.w.heap[b]?=some (.cells cs.toArray et (0,0))/\Dn V fs cs
 | .mapo k v l,loc=>∃(b:Nat) (a:Array MapEntry) (clock:Nat),loc=.map (some b)/\V.w.heap[b]?=some (.map a clock)/\OU V.w V.O k v a.toList l/\aU a clock
 | .frame f fs,loc=>loc=.pointer none/\∀s x,lk s fs=some x->B7 V x (f.getD s undef)
 | .itr k v l left c,loc=>∃r:Nat,loc=.pointer (some ⟨r,0,none⟩)/\ADE V k v l left c r
 | .loop L,loc=>∃b:Nat,loc=.pointer (some ⟨b,0,none⟩)/\V.w.heap[b]?=some (.loop L)
 | .dfr,loc=>∃b:Nat,loc=.pointer (some ⟨b,0,none⟩)/\V.w.heap[b]?=some (.deferred (some []))
structure Frm (K:Nat->Prop) (w0 w:World):Prop where
 os:w.os=w0.os
 tape:w.tape=w0.tape
 output:w.output=w0.output
 size:w0.heap.size<=w.heap.size
 block:∀k,K k->w.heap[k]?=w0.heap[k]?
def HH (σ:St) (n:Nat):Prop:=∃o,lk n σ.objs=some o
def own (O0:Nat->Prop) (σ:St) (ρ:Nat->Value) (b:Nat):Prop:=O0 b\/∃n,HH σ n/\bk (ρ n) b
def vw (w:World) (O0:Nat->Prop) (σ:St) (ρ:Nat->Value):Vw:=⟨w,own O0 σ ρ,HH σ,ρ⟩
def A8N:Value->Bool
 | .slice _ _ _=>false
 | .tuple _=>false
 | _=>true
structure Fp where
 ds:List Deferred:=[]
 pin:List (Nat×Value):=[]
structure Bv (w0:World) (K O0:Nat->Prop) (nt:Nat) (ds:Fp) (σ:St) (ρ:Nat->Value) (a:Act) (w:World):Prop where
 frm:Frm K w0 w
 nt:a.tmps.size=nt
 defers:a.defers=ds.ds
 pin:∀p∈ds.pin,HH σ p.1/\ρ p.1=p.2/\(A8N p.2=true\/Gq p.1=true)
 objs:∀n o,lk n σ.objs=some o->A8 (vw w O0 σ ρ) o (ρ n)
 free:∀n b,HH σ n->bk (ρ n) b->¬K b/\¬O0 b
 dist:∀n m b,HH σ n->HH σ m->bk (ρ n) b->bk (ρ m) b->n=m
 env:∀s v,lk s σ.env=some v->B7 (vw w O0 σ ρ) v (a.tmps.getD s undef)
structure Cb (V V':Vw):Prop where
 O:∀b,b<V.w.heap.size->¬V.O b->¬V'.O b
 L:∀n,V.L n->V'.L n
 ρ:∀n,V.L n->V'.ρ n=V.ρ n
 heap:∀b,b<V.w.heap.size->¬V.O b->V'.w.heap[b]?=V.w.heap[b]?
theorem VL.keeps {V V':Vw} (h:Cb V V'):∀ {x:AV} {v:Value},VL V x v->VL V' x v
 | .p _ _,_,b=>Bl.mono h.O h.heap b
 | .pc _ _,_,b=>⟨Bl.mono h.O h.heap b.1,b.2⟩
 | .raw _,_,b=>b
 | .sr n e lo hi,_,⟨a,hs⟩=>⟨h.L n a,by rw[h.ρ n a];exact hs⟩
 | .ep n e i _ off,_,⟨a,hs⟩=>⟨h.L n a,by rw[h.ρ n a];exact hs⟩
 | .nin n _ i len,_,⟨a,hs⟩=>⟨h.L n a,by rw[h.ρ n a];exact hs⟩
 | .ip t d,_,⟨ad,cs,c,g,k,m⟩=>by
  have l:ad.block<V.w.heap.size:=by
   have hp:=t.size_pos;have q:=m.length;have:=block_lt_of_cell (k 0 (cs[0]'(by omega)) (At (by omega)))
   rwa [CO]at this
  refine⟨ad,cs,c,h.O _ l g,λj u o=>?_,B0.mono h.O h.heap m⟩;rw[AF7 (w:=V.w) (w':=V'.w)]
  ·exact k j u o
  ·rw[CO];exact h.heap _ l g
 | .bp n _ off,_,⟨a,hs⟩=>⟨h.L n a,by rw[h.ρ n a];exact hs⟩
 | .fn _,_,b=>b
 | .clo f ns,_,⟨c,hs⟩=>by
  refine⟨?_,λn hn=>⟨h.L n (hs n hn).1,by rw[h.ρ n (hs n hn).1];exact(hs n hn).2⟩⟩;rw[c]
  congr 2
  exact UI λn hn=>(h.ρ n (hs n hn).1).symm
 | .mp n,_,⟨a,hs⟩=>⟨h.L n a,by rw[h.ρ n a];exact hs⟩
 | .yl n,_,⟨a,hs⟩=>⟨h.L n a,by rw[h.ρ n a];exact hs⟩
 | .top,_,_=>trivial
 | .ag _,_,b=>b
 | .tup _,_,b=>b
theorem Nm.keeps {V V':Vw} (h:Cb V V') {x:AV} {cs:List Value} (a:Nm V x cs):Nm V' x cs:=by
 cases x;case p t d=>exact(B0.mono h.O h.heap a:B0 V'.w V'.O t cs d)
 all_goals
  obtain⟨v,h1,b,c⟩:=a;exact⟨v,h1,b,c.keeps h⟩
theorem Dn.keeps {V V':Vw} (h:Cb V V'):∀ {l:List AV} {cs:List Value},Dn V l cs->Dn V' l cs
 | [],_,b=>b
 | _ :: _,_,⟨c1,c2,e,h1,a⟩=>⟨c1,c2,e,h1.keeps h,a.keeps h⟩
theorem Sn.keeps {V V':Vw} (h:Cb V V') {x:AV} {v:Value} (a:Sn V x v):Sn V' x v:=by
 cases x;case ag l=>obtain⟨cs,h1,b⟩:=a;exact⟨cs,h1,b.keeps h⟩
 all_goals exact Sn.of1 (VL.keeps h a)
theorem Js.keeps {V V':Vw} (h:Cb V V'):∀ {l:List AV} {a:List Value},Js V l a->Js V' l a
 | [],_,c=>c
 | _ :: _,_,⟨v,l,e,h1,b⟩=>⟨v,l,e,h1.keeps h,b.keeps h⟩
theorem B7.keeps {V V':Vw} (h:Cb V V') {x:AV} {v:Value} (a:B7 V x v):B7 V' x v:=by
 cases x;case ag l=>obtain⟨cs,h1,b⟩:=a;exact⟨cs,h1,b.keeps h⟩
 case tup l=>obtain⟨cs,h1,b⟩:=a;exact⟨cs,h1,b.keeps h⟩
 all_goals
  simp only[B7]at a ⊢;exact VL.keeps h a
theorem Dx.keeps {V V':Vw} (h:Cb V V') {e:Ty} {cells:List Value} {xs:List e.den} (d:Dx V.w V.O e cells xs):Dx V'.w V'.O e cells xs:=λi x hi =>
 let ⟨a,h1,b,c⟩:=d i x hi
 ⟨a,h1,b,B0.mono h.O h.heap c⟩
theorem OU.mono {w w':World} {O O':Nat->Prop} (a:∀b,b<w.heap.size->¬O b->¬O' b) (c:∀b,b<w.heap.size->¬O b->w'.heap[b]?=w.heap[b]?) {k v:Ty} :
  ∀ {d:List MapEntry} {l:List (k.den×v.den)},OU w O k v d l->OU w' O' k v d l
 | [],[],h=>h
 | [],_ :: _,h=>h.elim
 | _ :: _,[],h=>h.elim
 | _ :: _,_ :: _,⟨h1,e,f⟩=>⟨h1.mono a c,e.mono a c,f.mono a c⟩
theorem JY {w w':World} {et:TypeId} {sz n:Nat} {loc:Value} {cells:List Value} (d:∀b,blk loc=some b->w'.heap[b]?=w.heap[b]?) (h:w.ownsRow 0 et sz loc n cells):w'.ownsRow 0 et sz loc n cells:=by
 obtain⟨h1,a⟩:=h;refine⟨h1,?_⟩;rcases a with a|⟨g,cap,c,rfl,e,f,i⟩
 ·exact .inl a
 ·exact .inr ⟨g,cap,c,rfl,e,(d g rfl).trans f,i⟩
theorem OV.keeps {V V':Vw} (h:Cb V V') {et:TypeId} {e:Ty} {xs:List e.den} {loc:Value} (a:∀b,blk loc=some b->V'.w.heap[b]?=V.w.heap[b]?) (f:OV V et e xs loc):OV V' et e xs loc:=by
 obtain⟨d,cells,h1,c⟩:=f;exact⟨d,cells,JY a h1,c.keeps h⟩
theorem aV.keeps {V V':Vw} (h:Cb V V') {c:TypeId} {k e:Ty} {hole:Bool} {cells:List Value} {i:Nat} {x:k.den×List e.den} {u:Value} (j:∀b,blk u=some b->V'.w.heap[b]?=V.w.heap[b]?) (l:aV V c k e hole cells i x u):aV V' c k e hole cells i x u:=by
 obtain⟨c1,v,h1,d,a⟩:=l;refine⟨c1,v,h1,B0.mono h.O h.heap d,?_⟩;rcases a with a|⟨a,f,g⟩
 ·exact .inl a
 ·exact .inr ⟨a,f,g.keeps h j⟩
theorem A9 {o:Value} {ins:List Value} {b:Nat}:bk (.tuple (o :: ins).toArray) b↔blk o=some b\/∃(i:Nat) (u:Value),ins[i]?=some u/\blk u=some b:=by
 constructor
 ·rintro (h|⟨d,h,x,c,a⟩)
  ·cases h
  ·injection h with h
   subst h;simp only[DO]at c;rcases c with rfl|c
   ·exact .inl a
   ·obtain⟨i,hi⟩:=List.getElem?_of_mem c;exact .inr ⟨i,x,hi,a⟩
 ·rintro (h|⟨i,u,hi,a⟩)
  ·exact .inr ⟨_,rfl,o,by simp,h⟩
  ·exact .inr ⟨_,rfl,u,by simp[gO hi],a⟩
theorem Shp.bk {loc o:Value} {ins:List Value} {b:Nat} (h:Shp loc o ins):bk loc b↔bk (.tuple (o :: ins).toArray) b:=by
 rcases h with rfl|⟨rfl,rfl,rfl⟩
 ·exact Iff.rfl
 ·grind [A9,L3,blk]
theorem Shp.plc {loc o:Value} {ins:List Value} (h:Shp loc o ins):plc loc=o:=by
 rcases h with rfl|⟨rfl,rfl,rfl⟩<;>rfl
theorem Shp.tup {loc o:Value} {ins:List Value} {a:Array Value} (h:Shp loc o ins) (b:loc=.tuple a):a=(o :: ins).toArray:=by
 subst b;rcases h with h|⟨h,_⟩
 ·injection h
 ·cases h
theorem LT.keeps {V V':Vw} (h:Cb V V') {et g:TypeId} {k e:Ty} {xs:List (k.den×List e.den)} {f:Option Nat} {o:Value} {ins cells:List Value} (d:∀b,bk (.tuple (o :: ins).toArray) b->V'.w.heap[b]?=V.w.heap[b]?) (a:LT V et g k e xs f o ins cells):LT V' et g k e xs f o ins cells :=
 ⟨a.max,a.len,JY (λb h1=>d b (A9.2 (.inl h1))) a.own,λi x u h1 c=>(a.row i x u h1 c).keeps h (λb j=>d b (A9.2 (.inr ⟨i,u,c,j⟩))),a.dist,a.out⟩
theorem VM {w:World} {et:TypeId} {sz n b:Nat} {loc:Value} {cells:List Value} (h:w.ownsRow 0 et sz loc n cells) (a:blk loc=some b):b<w.heap.size:=by
 rcases h.2 with ⟨rfl,_⟩|⟨g,cap,c,rfl,d,e,f⟩
 ·simp[blk]at a
 ·grind [blk,CQ]
theorem LT.block_lt {V:Vw} {et h:TypeId} {k e:Ty} {xs:List (k.den×List e.den)} {g:Option Nat} {o:Value} {ins cells:List Value} (d:LT V et h k e xs g o ins cells) {b:Nat} (f:bk (.tuple (o :: ins).toArray) b):b<V.w.heap.size:=by
 rcases A9.1 f with h1|⟨i,u,h1,c⟩
 ·exact VM d.own h1
 ·have hi:i<xs.length:=by have:=(UC.1 h1).1;rw[d.len]at this;exact this
  obtain⟨c1,v,_,_,a⟩:=d.row i xs[i] u (At hi) h1;rcases a with ⟨_,a⟩|⟨_,_,_,j,a,_⟩
  ·rw[a]at c;simp[blk]at c
  ·exact VM a c
theorem A8.keeps {V V':Vw} (h:Cb V V') {o:Obj} {loc:Value} (d:∀b,bk loc b->V'.w.heap[b]?=V.w.heap[b]?) (c:A8 V o loc):A8 V' o loc:=by
 cases o with
 | arr et e xs =>
  obtain⟨C,cells,⟨h1,a⟩,B⟩:=c;refine⟨C,cells,⟨h1,?_⟩,B.keeps h⟩;rcases a with a|⟨g,cap,i,rfl,E,F,G⟩
  ·exact .inl a
  ·exact .inr ⟨g,cap,i,rfl,E,(d g (.inl rfl)).trans F,G⟩
 | box et st fs =>
  obtain⟨h0,b,cs,rfl,h1,a⟩:=c;exact⟨h0,b,cs,rfl,(d b (.inl rfl)).trans h1,a.keeps h⟩
 | nest et K k e xs J =>
  obtain⟨o,ins,cells,hs,h1⟩:=c;exact⟨o,ins,cells,hs,h1.keeps h λb A=>d b (hs.bk.2 A)⟩
 | mapo k v l =>
  obtain⟨b,m,cl,rfl,h1,a,f⟩:=c;exact⟨b,m,cl,rfl,(d b (.inl rfl)).trans h1,a.mono h.O h.heap,f⟩
 | frame M fs =>
  obtain⟨h0,h1⟩:=c;exact⟨h0,λs x hs=>(h1 s x hs).keeps h⟩
 | itr k v l left i =>
  obtain⟨r,rfl,b,D,cl,I,H,h1,a,f,p,q,t,u,y,z,n⟩:=c;have j:=CQ f;exact⟨r,rfl,b,D,cl,I,H,(d r (.inl rfl)).trans h1,h.O b j a,(h.heap b j a).trans f,p.mono h.O h.heap,q,t,u,y,z,n⟩
 | loop L =>
  obtain⟨b,rfl,h1⟩:=c;exact⟨b,rfl,(d b (.inl rfl)).trans h1⟩
 | dfr =>
  obtain⟨b,rfl,h1⟩:=c;exact⟨b,rfl,(d b (.inl rfl)).trans h1⟩
theorem A8.block_lt {V:Vw} {o:Obj} {loc:Value} (c:A8 V o loc) {b:Nat} (a:bk loc b):b<V.w.heap.size:=by
 cases o with
 | arr et e xs =>
  obtain⟨m,cells,⟨h1,d⟩,i⟩:=c;rcases d with ⟨rfl,_⟩|⟨g,cap,f,rfl,q,s,t⟩
  ·simp[bk,blk]at a
  ·grind [bk,blk,CQ]
 | box et st fs =>
  obtain⟨h0,b',cs,rfl,h1,d⟩:=c;simp[bk,blk]at a;subst a;exact CQ h1
 | nest et n k e xs j =>
  obtain⟨o,ins,cells,hs,h1⟩:=c;exact h1.block_lt (hs.bk.1 a)
 | mapo k v l =>
  obtain⟨b',h,cl,rfl,h1,d⟩:=c;simp[bk,blk]at a;subst a;exact CQ h1
 | frame y fs =>
  obtain⟨rfl,h1⟩:=c;simp[bk,blk]at a
 | itr k v l left f =>
  obtain⟨r,rfl,b',p,cl,x,u,h1,-⟩:=c;simp[bk,blk]at a;subst a;exact CQ h1
 | loop L =>
  obtain⟨b',rfl,h1⟩:=c;simp[bk,blk]at a;subst a;exact CQ h1
 | dfr =>
  obtain⟨b',rfl,h1⟩:=c;simp[bk,blk]at a;subst a;exact CQ h1
section
variable {α:Type}
theorem A5 (k:Nat):∀(l r:List (Nat×α)),lk k (l++r)=(lk k l).or (lk k r)
 | [],_=>by simp[lk]
 | (j,v) :: l,r=>by
  simp only[ADF,lk];split
  ·simp
  ·exact A5 k l r
theorem GY (k n:Nat) (u:α):∀l:List (Nat×α),lk k (upd n u l)=if k=n then (lk n l).map (λ_=>u) else lk k l
 | []=>by simp[lk,upd]
 | (j,v) :: l=>by
  simp only[upd];by_cases hn:n=j
  ·subst hn;by_cases hk:k=n
   ·subst hk;simp[lk]
   ·simp[lk,hk,GY k n u l]
  ·simp only[An hn,lk];by_cases hk:k=n
   ·subst hk;simp[hn,GY k k u l]
   ·by_cases a:k=j
    ·subst a;simp[hk]
    ·simp[hk,a,GY k n u l]
theorem Re (k n:Nat):∀l:List (Nat×α),lk k (del n l)=if k=n then none else lk k l
 | []=>by simp[lk,del]
 | (j,v) :: l=>by
  simp only[del];by_cases hn:n=j
  ·subst hn;rw[BY rfl,Re k n l];grind [lk]
  ·rw[An hn];simp only[lk,Re k n l];grind
end
end
section
open Go Go.RowKit
def EZ (σ:St) (obs:List (Nat×Obj)):St:=⟨σ.env,obs++σ.objs⟩
structure QS (w:World) (O0:Nat->Prop) (σ:St) (ρ:Nat->Value) (v:AV) (obs:List (Nat×Obj)) (u:Value) (ρ':Nat->Value) (w':World):Prop where
 below:Below w.heap.size w w'
 rho:∀n,lk n obs=none->ρ' n=ρ n
 av:B7 (vw w' O0 (EZ σ obs) ρ') v u
 obj:∀n o,lk n obs=some o->A8 (vw w' O0 (EZ σ obs) ρ') o (ρ' n)
 new:∀n o b,lk n obs=some o->bk (ρ' n) b->w.heap.size<=b
 dist:∀n m o o' b,lk n obs=some o->lk m obs=some o'->bk (ρ' n) b->bk (ρ' m) b->n=m
theorem F8 {α:Type} {k:Nat} {v:α}:∀ {l:List (Nat×α)},lk k l=some v->(k,v)∈l
 | (j,u) :: l,h=>by
  simp only[lk]at h;split at h
  ·grind
  ·exact OF _ (F8 h)
theorem OW {obs:List (Nat×Obj)} {σ:St} (h:Bi obs σ=true) {n:Nat} {o:Obj} (hn:lk n obs=some o):lk n σ.objs=none:=by
 simp only[Bi,Is]at h;simpa using h _ (F8 hn)
theorem L4 {σ:St} {obs:List (Nat×Obj)} {n:Nat} (h:HH (EZ σ obs) n):(∃o,lk n obs=some o)\/(lk n obs=none/\HH σ n):=by
 obtain⟨o,h⟩:=h;simp only[EZ,A5]at h;cases a:lk n obs with
 | some b=>exact .inl ⟨b,rfl⟩
 | none=>rw[a]at h;exact .inr ⟨rfl,o,by simpa using h⟩
theorem aW {σ:St} {obs:List (Nat×Obj)} (hf:Bi obs σ=true) {n:Nat} (h:HH σ n):HH (EZ σ obs) n/\lk n obs=none:=by
 obtain⟨o,h⟩:=h;have hn:lk n obs=none:=by
  cases a:lk n obs with
  | none=>rfl
  | some b=>have:=OW hf a;rw[this]at h;cases h
 exact⟨⟨o,by simp[EZ,A5,hn,h]⟩,hn⟩
theorem Ho {w w':World} {O0:Nat->Prop} {σ:St} {ρ ρ':Nat->Value} {obs:List (Nat×Obj)} (hf:Bi obs σ=true)
  (hb:Below w.heap.size w w') (hr:∀n,lk n obs=none->ρ' n=ρ n) (hn:∀n o b,lk n obs=some o->bk (ρ' n) b->w.heap.size<=b) :
  Cb (vw w O0 σ ρ) (vw w' O0 (EZ σ obs) ρ') where
 O:=by
  intro b hlt hO hO';rcases hO' with h0|⟨n,hl,hb'⟩
  ·exact hO (.inl h0)
  ·rcases L4 hl with ⟨o,ho⟩|⟨hno,hl'⟩
   ·have:=hn n o b ho hb';have hlt:b<w.heap.size:=hlt;omega
   ·exact hO (.inr ⟨n,hl',by rw[<-hr n hno];exact hb'⟩)
 L:=λn h=>(aW hf h).1
 ρ:=λn h=>hr n (aW hf h).2
 heap:=λb hlt _=>hb.block b hlt
theorem QS.keeps {w w':World} {O0:Nat->Prop} {σ:St} {ρ ρ':Nat->Value} {v:AV} {u:Value} {obs:List (Nat×Obj)} (hf:Bi obs σ=true) (h:QS w O0 σ ρ v obs u ρ' w') :
  Cb (vw w O0 σ ρ) (vw w' O0 (EZ σ obs) ρ'):=Ho hf h.below h.rho h.new
theorem Frm.below {K:Nat->Prop} {w0 w w':World} (h:Frm K w0 w) (hb:Below w.heap.size w w') (hK:∀b,K b->b<w0.heap.size):Frm K w0 w' where
 os:=hb.os.trans h.os
 tape:=hb.tape.trans h.tape
 output:=hb.output.trans h.output
 size:=UD h.size hb.size
 block:=λk hk=>(hb.block k (AA8 (hK k hk) h.size)).trans (h.block k hk)
theorem L5 (a:Act) (dst:Option Tmp) (u:Value):(a.put dst u).tmps.size=a.tmps.size:=by
 cases dst<;>simp[Act.put]
theorem Hq (a:Act) (dst:Option Tmp) (u:Value):(a.put dst u).defers=a.defers:=by cases dst<;>rfl
theorem Kg (a:Act) (d:Nat) (u:Value) (s:Nat) (b:d<a.tmps.size):(a.put (some d) u).tmps.getD s undef=if s=d then u else a.tmps.getD s undef:=by
 by_cases h:s=d
 ·subst h;simp[Act.put,b]
 ·have:¬d=s:=λe=>h e.symm;simp[Act.put,h,this,Array.getElem?_setIfInBounds]
theorem Bv.add {w0:World} {K O0:Nat->Prop} {nt:Nat} {ds:Fp} {σ:St} {ρ:Nat->Value} {a:Act} {w:World} (h:Bv w0 K O0 nt ds σ ρ a w)
  (H:∀b,K b->b<w0.heap.size) (J:∀b,O0 b->b<w0.heap.size) {dst:Option Nat} (I:∀d,dst=some d->d<nt)
  {v:AV} {obs:List (Nat×Obj)} {u:Value} {ρ':Nat->Value} {w':World} (hf:Bi obs σ=true) (c:QS w O0 σ ρ v obs u ρ' w') :
  Bv w0 K O0 nt ds (σ.add v obs dst) ρ' (a.put dst u) w':=by
 have hk:=c.keeps hf;have E:(σ.add v obs dst).objs=obs++σ.objs:=by cases dst<;>rfl
 have l:∀n,HH (σ.add v obs dst) n↔HH (EZ σ obs) n:=λn=>by simp[HH,E,EZ]
 have F:vw w' O0 (σ.add v obs dst) ρ'=vw w' O0 (EZ σ obs) ρ':=by
  have k:HH (σ.add v obs dst)=HH (EZ σ obs):=funext λn=>propext (l n);have g:own O0 (σ.add v obs dst) ρ'=own O0 (EZ σ obs) ρ':=by grind [own]
  simp only[vw,k,g]
 refine⟨h.frm.below c.below H,by rw[L5];exact h.nt,by rw[Hq];exact h.defers,λp hp=>?_,?_,?_,?_,?_⟩
 ·obtain⟨h1,j,G⟩:=h.pin p hp;have B:=aW hf h1;exact⟨(l p.1).2 B.1,(c.rho _ B.2).trans j,G⟩
 ·intro n o g;rw[E,A5]at g;rw[F];cases r:lk n obs with
  | some z=>rw[r]at g;cases g;exact c.obj n _ r
  | none =>
   rw[r]at g;have q:lk n σ.objs=some o:=by simpa using g
   rw[c.rho n r];refine(h.objs n o q).keeps hk λb f=>?_;exact c.below.block b ((h.objs n o q).block_lt f)
 ·intro n b k f;rcases L4 ((l n).1 k) with ⟨o,g⟩|⟨t,y⟩
  ·have L:=c.new n o b g f;have:=h.frm.size;grind
  ·rw[c.rho n t]at f;exact h.free n b y f
 ·intro n m b k y f i;rcases L4 ((l n).1 k) with ⟨o,g⟩|⟨t,hn⟩<;>rcases L4 ((l m).1 y) with ⟨z,q⟩|⟨D,C⟩
  ·exact c.dist n m o z b g q f i
  ·have h1:=c.new n o b g f;rw[c.rho m D]at i;obtain⟨A,j⟩:=C;have:=(h.objs m A j).block_lt i;have:b<w.heap.size:=this;omega
  ·have h1:=c.new m z b q i;rw[c.rho n t]at f;obtain⟨A,j⟩:=hn;have:=(h.objs n A j).block_lt f;have:b<w.heap.size:=this;omega
  ·rw[c.rho n t]at f;rw[c.rho m D]at i;exact h.dist n m b hn C f i
 ·intro s x hs;rw[F];cases dst with
  | none=>exact(h.env s x hs).keeps hk
  | some d =>
   simp only[St.add,lk]at hs;rw[Kg a d u s (by rw[h.nt];exact I d rfl)];split at hs
   ·rename_i e;cases hs;rw[BY e];exact c.av
   ·rename_i e;rw[An e];exact(h.env s x hs).keeps hk
theorem QS.still {w:World} {O0:Nat->Prop} {σ:St} {ρ:Nat->Value} {v:AV} {u:Value} (h:B7 (vw w O0 σ ρ) v u):QS w O0 σ ρ v [] u ρ w where
 below:=Below.refl _ _
 rho:=λ_ _=>rfl
 av:=h
 obj:=λ_ _ h=>by cases h
 new:=λ_ _ _ h=>by cases h
 dist:=λ_ _ _ _ _ h=>by cases h
def Ei (ρ:Nat->Value) (n:Nat) (x:Value):Nat->Value:=λm=>if m=n then x else ρ m
theorem Bn (ρ:Nat->Value) (n:Nat) (x:Value):Ei ρ n x n=x:=by simp[Ei]
theorem QS.one {w w':World} {O0:Nat->Prop} {σ:St} {ρ:Nat->Value} {v:AV} {u loc:Value} {n:Nat} {o:Obj} (hb:Below w.heap.size w w')
  (hnew:∀b,bk loc b->w.heap.size<=b)
  (hav:B7 (vw w' O0 (EZ σ [(n,o)]) (Ei ρ n loc)) v u)
  (hobj:A8 (vw w' O0 (EZ σ [(n,o)]) (Ei ρ n loc)) o loc):QS w O0 σ ρ v [(n,o)] u (Ei ρ n loc) w' where
 below:=hb
 rho:=λm hm=>by grind [lk,Ei]
 av:=hav
 obj:=λm o' hm=>by grind [lk,Bn]
 new:=λm o' b hm hb'=>by grind [lk,Bn]
 dist:=λm m' o1 o2 b h1 h2 _ _=>by grind [lk]
end
section
open Go Go.RowKit
theorem BI {t:Ty} {p:PV} {d:t.den} (h:BW t p=some d):p=⟨t,d⟩:=by
 obtain⟨u,x⟩:=p;grind [BW]
theorem Bq {e a:Ty} {xs:List a.den} {ys:List e.den} (h:BW (.slice e) ⟨.slice a,xs⟩=some ys):a=e/\HEq xs ys:=by
 have b:=BI h;grind
theorem OX {α:Type} (xs:List α) {lo hi:Nat} (h:hi<=xs.length):(sub xs lo hi).length=hi-lo:=by
 simp[sub];omega
theorem aX {α:Type} (xs:List α) (lo hi i:Nat) {x:α} (h:(sub xs lo hi)[i]?=some x):xs[lo+i]?=some x/\i<hi-lo:=by grind [sub]
theorem pL {w:World} {O':Nat->Prop} {et:TypeId} {e:Ty} {xs:List e.den} {loc v:Value} {cells:List Value} {lo hi:Nat} (y:∀b,blk loc=some b->¬O' b)
  (H:xs.length<=AP) (h:w.ownsRow 0 et e.size loc xs.length cells) (p:Dx w O' e cells xs) (z:DG loc e.size lo hi v):B0 w O' (.slice e) [v] (sub xs lo hi):=by
 obtain⟨a,m,c,j,F,q,k,l,rfl,o,h0,h1⟩:=z;have u:m=xs.length:=by
  rcases h.2 with ⟨d,hn⟩|⟨g,cap,n,d,_⟩
  ·grind
  ·rw[j]at d;injection d
 subst u;have f:=OX xs (lo:=lo) q;refine⟨k,l,by rw[f],by rw[f];exact o,by rw[f];omega,?_⟩;by_cases t:lo<hi
 ·right;rcases h.2 with ⟨d,hn⟩|⟨g,cap,n,d,r⟩
  ·omega
  ·have D:=World.ownsRow.cells h (g:=g) (by rw[d];rfl);have ha:a=some ⟨g,0,none⟩:=by rw[j]at d;injection d
   subst ha;refine⟨_,h1 t,y _ (by rw[d];simp only[blk,CO]),λi x s=>?_⟩;obtain⟨A,G⟩:=aX xs lo hi i s;obtain⟨B,E,C,I⟩:=p (lo+i) x A;grind [DV]
 ·simp_all
theorem HW {w:World} {base:Nat} {et:TypeId} {sz n:Nat} {s:Value} {xs:List Value} (h:w.ownsRow base et sz s n xs):plc s=s:=by
 rcases h.2 with ⟨rfl,_⟩|⟨g,cap,a,rfl,_⟩<;>rfl
theorem Pj {V:Vw} {et:TypeId} {e:Ty} {xs:List e.den} {loc:Value} (h:A8 V (.arr et e xs) loc):plc loc=loc:=by
 obtain⟨_,_,h,_⟩:=h;exact HW h
theorem aY {V:Vw} {O':Nat->Prop} (h:∀b,¬V.O b->¬O' b) {et:TypeId} {e:Ty} {xs:List e.den} {loc v:Value} {lo hi:Nat} (n:∀b,blk loc=some b->¬O' b)
  (a:A8 V (.arr et e xs) loc) (c:DG (plc loc) e.size lo hi v):B0 V.w O' (.slice e) [v] (sub xs lo hi):=by
 rw[Pj a]at c;obtain⟨l,cells,m,k⟩:=a;exact pL n l m (λi x hi=>let ⟨d,h1,f,g⟩:=k i x hi;⟨d,h1,f,g.mono (λb _ j=>h b j) (λ_ _ _=>rfl)⟩) c
theorem Fi {w:World} {et:TypeId} {sz n:Nat} {s:Value} {xs:List Value} (h:w.ownsRow 0 et sz s n xs):DG s sz 0 n s:=by
 rcases h.2 with ⟨rfl,hn⟩|⟨g,cap,a,rfl,_,_,b,_⟩
 ·exact⟨none,0,0,rfl,by omega,by omega,none,0,by rw[hn],by omega,λ_=>⟨rfl,rfl⟩,λh=>by omega⟩
 ·exact⟨some ⟨g,0,none⟩,n,cap,rfl,by omega,by omega,some ⟨g,0,none⟩,cap,by simp,by omega,λ_=>⟨rfl,rfl⟩,λ_=>by simp[M4]⟩
theorem Yd {V:Vw} {O':Nat->Prop} (c:∀b,¬V.O b->¬O' b) {et:TypeId} {e:Ty} {xs:List e.den} {u:Value} (d:∀b,blk u=some b->¬O' b) (h:OV V et e xs u):B0 V.w O' (.slice e) [u] xs:=by
 have h1:=h;obtain⟨_,_,a,_⟩:=h1;have:=aY (V:=V) c d (et:=et) (e:=e) (xs:=xs) (loc:=u) h (by rw[HW a];exact Fi a)
 rwa [Ij]at this
theorem Kh {w:World} {base:Nat} {et:TypeId} {sz n m c:Nat} {a:Option Addr} {xs:List Value} (h:w.ownsRow base et sz (.slice a m c) n xs):m=n:=by
 rcases h.2 with ⟨b,hn⟩|⟨g,cap,d,b,_⟩
 ·injection b;omega
 ·injection b
theorem aZ {V:Vw} {f:TypeId} {e:Ty} {xs:List e.den} {u:Value} {a:Option Addr} {len c:Nat} (b:Lay u (.slice a len c)) (h:OV V f e xs u):len=xs.length:=by
 obtain⟨_,j,d,_⟩:=h;rcases b with rfl|⟨rfl,g,i⟩
 ·exact Kh d
 ·grind [Kh]
theorem A1n {V:Vw} {j:TypeId} {e:Ty} {xs:List e.den} {u v:Value} (g:Lay u v) (h:OV V j e xs u):∃(a:Option Addr) (c:Nat),v=.slice a xs.length c:=by
 rcases g with rfl|⟨rfl,a,rfl⟩
 ·obtain⟨_,k,f,_⟩:=h;obtain⟨_,_,_,_,_,_,b,d,i,_⟩:=Fi f;exact⟨b,d,i⟩
 ·have hn:=aZ (.inr ⟨rfl,a,rfl⟩) h;exact⟨a,0,by rw[<-hn]⟩
theorem pM {V:Vw} {O':Nat->Prop} {f:TypeId} {e:Ty} {xs:List e.den} {u v:Value} (b:Lay u v) (h:OV V f e xs u) (c:B0 V.w O' (.slice e) [u] xs):B0 V.w O' (.slice e) [v] xs:=by
 rcases b with rfl|⟨rfl,a,rfl⟩
 ·exact c
 ·have hn:=aZ (.inr ⟨rfl,a,rfl⟩) h;have d:xs=[]:=UL hn.symm;subst d;exact⟨a,0,rfl,NO _,by simp,.inl rfl⟩
theorem OY {V:Vw} {O':Nat->Prop} (g:∀b,¬V.O b->¬O' b) {et p:TypeId} {k e:Ty} {xs:List (k.den×List e.den)} {o:Value} {ins cells:List Value} (h:LT V et p k e xs none o ins cells)
  (n:∀(i b:Nat) (u:Value),ins[i]?=some u->blk u=some b->¬O' b):Dx V.w O' (.agg (.prod k (.slice e))) cells xs:=by
 intro i x hi;have j:i<ins.length:=by rw[h.len];exact(UC.1 hi).1
 obtain⟨c1,v,h1,d,a⟩:=h.row i x ins[i] hi (At j);rcases a with ⟨a,_⟩|⟨_,l,f⟩
 ·cases a
 ·have m:=pM l f (Yd g (λb c=>n i b _ (At j) c) f);refine⟨c1++[v],by simp[Ty.size,d.length],h1,?_⟩;exact(⟨c1,[v],rfl,d.mono (λb _ c=>g b c) (λ_ _ _=>rfl),m⟩:B0 V.w O' (.prod k (.slice e)) _ x)
theorem eO {V:Vw} {O':Nat->Prop} (f:∀b,¬V.O b->¬O' b) {et l:TypeId} {k e:Ty} {xs:List (k.den×List e.den)} {loc v:Value} {lo hi:Nat} (a:∀b,bk loc b->¬O' b)
  (j:A8 V (.nest et l k e xs none) loc) (c:DG (plc loc) (k.size+1) lo hi v):B0 V.w O' (.slice (.agg (.prod k (.slice e)))) [v] (sub (α:=k.den×List e.den) xs lo hi):=by
 obtain⟨o,ins,cells,hs,h⟩:=j;rw[hs.plc]at c;exact pL (e:=.agg (.prod k (.slice e))) (xs:=xs) (λb g=>a b (hs.bk.2 (A9.2 (.inl g)))) h.max h.own (OY f h λi b u h1 d=>a b (hs.bk.2 (A9.2 (.inr ⟨i,u,h1,d⟩)))) c
theorem Ye {V:Vw} {p:Obj} {loc:Value} {a:Option Addr} {m c:Nat} (d:A8 V p loc) (h:plc loc=.slice a m c):∃et sz cells,V.w.ownsRow 0 et sz (.slice a m c) m cells/\m<=AP:=by
 cases p with
 | arr et e xs =>
  have h1:=Pj d;obtain⟨r,cells,i,_⟩:=d;rw[h1]at h;subst h;have j:m=xs.length:=by
   rcases i.2 with ⟨f,hn⟩|⟨g,cap,q,f,_⟩
   ·injection f;omega
   ·injection f
  subst j;exact⟨et,_,cells,i,r⟩
 | nest et u k e xs s =>
  obtain⟨o,ins,cells,hs,n⟩:=d;rw[hs.plc]at h;subst h;have i:=n.own;have j:m=xs.length:=by
   rcases i.2 with ⟨f,hn⟩|⟨g,cap,q,f,_⟩
   ·injection f;omega
   ·injection f
  subst j;exact⟨et,_,cells,i,n.max⟩
 | box et st fs=>obtain⟨_,b,cs,rfl,_⟩:=d;cases h
 | mapo k v l=>obtain⟨b,_,_,rfl,_⟩:=d;cases h
 | frame B fs=>obtain⟨rfl,_⟩:=d;cases h
 | loop L=>obtain⟨b,rfl,_⟩:=d;cases h
 | itr x A y z t=>obtain⟨b,rfl,_⟩:=d;cases h
 | dfr=>obtain⟨b,rfl,_⟩:=d;cases h
theorem M7 {V V':Vw} (c:V'.w=V.w) (d:V'.O=V.O) {et f:TypeId} {k e:Ty} {xs:List (k.den×List e.den)} {h:Option Nat} {loc:Value} (s:A8 V (.nest et f k e xs h) loc):A8 V' (.nest et f k e xs h) loc:=by
 obtain⟨o,ins,cells,q,a⟩:=s;refine⟨o,ins,cells,q,a.max,a.len,by rw[c];exact a.own,λi x u h1 g=>?_,a.dist,a.out⟩;obtain⟨c1,v,j,l,b⟩:=a.row i x u h1 g;refine⟨c1,v,j,by rw[c,d];exact l,?_⟩;rcases b with b|⟨b,m,r,t,n,p⟩
 ·exact .inl b
 ·exact .inr ⟨b,m,r,t,by rw[c];exact n,by rw[c,d];exact p⟩
theorem yS {V V':Vw} (d:V'.w=V.w) (g:∀b,¬V.O b->¬V'.O b) {et j:TypeId} {k e:Ty} {xs:List (k.den×List e.den)} {h:Option Nat} {loc:Value} (C:A8 V (.nest et j k e xs h) loc):A8 V' (.nest et j k e xs h) loc:=by
 obtain⟨o,ins,cells,A,a⟩:=C;refine⟨o,ins,cells,A,a.max,a.len,by rw[d];exact a.own,λi x u h1 q=>?_,a.dist,a.out⟩;obtain⟨c1,v,r,s,c⟩:=a.row i x u h1 q;refine⟨c1,v,r,s.mono (λb _ f=>g b f) (λb _ _=>by rw[d]),?_⟩;rcases c with c|⟨c,t,B,D,y,z⟩
 ·exact .inl c
 ·refine .inr ⟨c,t,B,D,by rw[d];exact y,λi x hi=>?_⟩;obtain⟨l,m,n,p⟩:=z i x hi;exact⟨l,m,n,p.mono (λb _ f=>g b f) (λb _ _=>by rw[d])⟩
theorem a9 {V:Vw} {et g:TypeId} {k e:Ty} {xs:List (k.den×List e.den)} {h:Option Nat} {loc v:Value} {c:Array Value} {i:Nat} {z:k.den×List e.den}
  (d:A8 V (.nest et g k e xs h) loc) (f:loc=.tuple c) (a:c[i+1]?=some v):xs[i]?=some (xs.getD i z):=by
 obtain⟨o,ins,cells,hs,h⟩:=d;obtain rfl:=hs.tup f;have a:ins[i]?=some v:=by simpa using a
 have b:i<xs.length:=by rw[<-h.len];exact(UC.1 a).1
 rw[At b,AS,At b];rfl
theorem A4P {V:Vw} {t:Obj} {loc u v:Value} {w:Array Value} {i len c:Nat} {a:Option Addr} (d:A8 V t loc) (z:loc=.tuple w) (f:w[i+1]?=some u) (j:Lay u v) (s:v=.slice a len c):len<=AP:=by
 subst z;cases t with
 | arr et e xs =>
  obtain⟨E,cells,y,_⟩:=d;rcases y.2 with ⟨r,_⟩|⟨g,cap,B,r,_⟩<;>cases r
 | nest et G k e xs D =>
  obtain⟨o,ins,cells,hs,q⟩:=d;obtain rfl:=hs.tup rfl;have f:ins[i]?=some u:=by simpa using f
  have x:i<xs.length:=by rw[<-q.len];exact(UC.1 f).1
  obtain⟨c1,N,h1,C,m⟩:=q.row i xs[i] u (At x) f;rcases m with ⟨_,m⟩|⟨_,_,n⟩
  ·subst s;rcases j with p|⟨_,A,p⟩
   ·grind
   ·injection p;omega
  ·rw[s]at j;rw[aZ j n];exact n.1
 | box et st fs=>obtain⟨_,b,cs,h,_⟩:=d;cases h
 | mapo k v l=>obtain⟨b,_,_,h,_⟩:=d;cases h
 | frame M fs=>obtain⟨h,_⟩:=d;cases h
 | loop L=>obtain⟨b,h,_⟩:=d;cases h
 | itr H K I J F=>obtain⟨b,h,_⟩:=d;cases h
 | dfr=>obtain⟨b,h,_⟩:=d;cases h
theorem A4Q {V:Vw} {O':Nat->Prop} (p:∀b,¬V.O b->¬O' b) {et l:TypeId} {k e:Ty} {xs:List (k.den×List e.den)} {loc v:Value} {d:Array Value} {i:Nat} {x:k.den×List e.den} (s:∀b,bk loc b->¬O' b) {u:Value}
  (f:A8 V (.nest et l k e xs none) loc) (g:loc=.tuple d) (c:d[i+1]?=some u) (r:Lay u v) (j:xs[i]?=some x):B0 V.w O' (.slice e) [v] x.2:=by
 obtain⟨o,ins,cells,hs,h⟩:=f;obtain rfl:=hs.tup g;have c:ins[i]?=some u:=by simpa using c
 obtain⟨c1,t,h1,m,a⟩:=h.row i x u j c;rcases a with ⟨a,_⟩|⟨_,q,n⟩
 ·cases a
 ·grind [pM,Yd,A9]
section
variable {V:Vw} {O':Nat->Prop} {l:Bool} {σ:St}
theorem eQ (p:∀b,¬V.O b->¬O' b) (y:l=true->∀b,¬O' b) (s:∀n o,lk n σ.objs=some o->A8 V o (V.ρ n))
  {t:Ty} {x:AV} {d:t.den} {cs:List Value} (h:Eh l σ t x=some d) (g:Nm V x cs):B0 V.w O' t cs d:=by
 unfold Eh at h;split at h
 ·rename_i u z;have:=BI h;injection this with h1 j
  subst h1;cases j;have g:B0 V.w V.O u cs z:=g;exact g.mono (λb _ D=>p b D) (λ_ _ _=>rfl)
 ·rename_i e n A lo hi;split at h
  ·rename_i q;obtain⟨r,rfl⟩:=q;have m:=r;obtain⟨v,rfl,_,C,f⟩:=g;cases hn:lk n σ.objs with
   | none=>rw[hn]at h;simp[RW]at h
   | some o =>
    rw[hn]at h;cases o with
    | box et st fs=>simp[RW]at h
    | mapo k v l=>simp[RW]at h
    | frame P fs=>simp[RW]at h
    | loop L=>simp[RW]at h
    | itr J N K M H=>simp[RW]at h
    | dfr=>simp[RW]at h
    | nest et I k B xs m =>
     cases m with
     | some i=>simp[RW]at h
     | none =>
      simp only[RW]at h;obtain⟨h1,j⟩:=Bq h;subst h1;cases j;exact eO p (λb _=>y r b) (s n _ hn) f
    | arr et B xs =>
     simp only[RW]at h;obtain⟨h1,j⟩:=Bq h;subst h1;cases j;exact aY p (λb _=>y m b) (s n _ hn) f
  ·cases h
 ·rename_i e n A i len;split at h
  ·rename_i q;obtain⟨m,rfl⟩:=q;obtain⟨v,rfl,_,C,R,a,c,Q,G,F,E,_⟩:=g;cases hn:lk n σ.objs with
   | none=>rw[hn]at h;simp[RZ]at h
   | some o =>
    rw[hn]at h;unfold RZ at h;split at h
    ·grind [Bq,A4Q,a9]
    ·cases h
  ·cases h
 ·obtain⟨v,rfl,_,f⟩:=g;have f:v=_:=f;subst f;cases h;exact⟨none,0,rfl,by simp,by simp[AP],.inl rfl⟩
 ·cases h
theorem A1o (i:∀b,¬V.O b->¬O' b) (k:l=true->∀b,¬O' b) (j:∀n o,lk n σ.objs=some o->A8 V o (V.ρ n)) :
  ∀ {fs:List AV} {t:Ty} {d:t.den} {cs:List Value},KS l σ fs t=some d->Dn V fs cs->B0 V.w O' t cs d
 | [],t,d,cs,h,f=>by simp[KS]at h
 | [x],t,d,cs,h,f=>by
  obtain⟨c1,c2,rfl,h1,e⟩:=f;have e:c2=[]:=e;grind [KS,eQ]
 | x :: y :: r,t,d,cs,h,f=>by
  obtain⟨c1,c2,rfl,h1,e⟩:=f;cases t;case prod a b =>
   simp only[KS]at h;cases c:Eh l σ a x with
   | none=>rw[c]at h;simp[Lu]at h
   | some m =>
    cases g:KS l σ (y :: r) b with
    | none=>rw[c,g]at h;simp[Lu]at h
    | some p =>
     rw[c,g]at h;simp only[Lu]at h;cases h;exact⟨c1,c2,rfl,eQ i k j c h1,A1o i k j g e⟩
  all_goals simp[KS]at h
theorem A4R {t:Ty} {x:AV} {d:t.den} {v:Value} (h:Eh l σ t x=some d) (hp:∀u i,x≠.p u i) (e:B7 V x v):Nm V x [v]/\t.wrap [v]=v:=by
 unfold Eh at h;split at h
 ·exact absurd rfl (hp _ _)
 ·obtain⟨b,a,m,c,_,_,_,f,g,rfl,_⟩:=e;refine⟨⟨_,rfl,rfl,?_⟩,rfl⟩;exact⟨b,a,m,c,by assumption,by assumption,by assumption,f,g,rfl,by assumption⟩
 ·obtain⟨b,o,a,c,u,h1,j,k,rfl⟩:=e;exact⟨⟨_,rfl,rfl,b,o,a,c,u,h1,j,k,rfl⟩,rfl⟩
 ·have n:v=_:=e;subst n;exact⟨⟨_,rfl,rfl,rfl⟩,rfl⟩
 ·cases h
theorem Iu (f:∀b,¬V.O b->¬O' b) (j:l=true->∀b,¬O' b) (i:∀n o,lk n σ.objs=some o->A8 V o (V.ρ n))
  {t:Ty} {x:AV} {d:t.den} {v:Value} (h:LQ l σ t x=some d) (g:B7 V x v):Bl V.w O' t v d:=by
 unfold LQ at h;split at h
 ·rename_i t fs;obtain⟨cs,rfl,m⟩:=g;exact⟨cs,(A1o f j i h m:B0 V.w O' t cs d),rfl⟩
 ·by_cases hp:∃u a,x=.p u a
  ·obtain⟨u,a,rfl⟩:=hp;have h:BW t ⟨u,a⟩=some d:=by simpa only[Eh] using h
   have:=BI h;injection this with h1 c
   subst h1;cases c;exact Bl.mono (λb _ k=>f b k) (λ_ _ _=>rfl) g
  ·obtain⟨h1,c⟩:=A4R h (λu a e=>hp ⟨u,a,e⟩) g;exact⟨[v],eQ f j i h h1,c.symm⟩
end
end
section
open Go Go.RowKit
def bA:Ty->Value->Bool
 | .agg _,.agg _=>true
 | .agg _,_=>false
 | .prod _ _,_=>false
 | _,.agg _=>false
 | _,_=>true
def M8 (P : Program) (id : TypeId) (a b : IntKind) : Prop := ∃ c d : Field, P.underlying id = some (.struct #[c, d]) /\ ((c.name != "_") = true /\ (d.name != "_") = true) /\ (c.offset = 0 /\ d.offset = 1) /\ (P.underlying c.type = some (.int a) /\ P.underlying d.type = some (.int b)) /\ P.stoodInHeld id = false
def VN (P:Program) (id:TypeId):Ty->Nat->Prop
 | .agg (.prod (.int a) (.int b)),0=>M8 P id a b
 | _,_=>True
def isI (k:IntKind):Option TypeDesc->Bool
 | some (.int a)=>k==a
 | _=>false
theorem VO {k:IntKind} {d:Option TypeDesc} (h:isI k d=true):d=some (.int k):=by
 unfold isI at h;grind
def A8m (P:Program) (id:TypeId) (a b:IntKind):Option TypeDesc->Bool
 | some (.struct ⟨[c, d]⟩) => (c.name != "_") && (d.name != "_") && c.offset == 0 && d.offset == 1 && isI a (P.underlying c.type) && isI b (P.underlying d.type) && P.stoodInHeld id == false
 | _=>false
def A1p (P:Program) (id:TypeId):Ty->Nat->Bool
 | .agg (.prod (.int a) (.int b)),0=>A8m P id a b (P.underlying id)
 | _,_=>true
theorem A1q {P:Program} {id:TypeId} {t:Ty} {el:Nat} (h:A1p P id t el=true):VN P id t el:=by
 unfold A1p at h;unfold VN;split at h
 ·unfold A8m at h;split at h
  ·rename_i a b hu;simp only[AT,YD]at h;obtain⟨⟨⟨⟨⟨⟨h1,c⟩,d⟩,e⟩,f⟩,g⟩,i⟩:=h;exact⟨a,b,hu,⟨h1,c⟩,⟨d,e⟩,⟨VO f,VO g⟩,i⟩
  ·cases h
 ·trivial
def EH (P:Program) (tb:Tb) (id:TypeId) (ti:TI):Prop :=
 (((∀p∈ti.offs,p.2≠0)/\0<ti.bytes/\VN P id ti.ty ti.el)/\∃(i:TypeInfo) (z:Value),P.info? id=some i/\i.size=ti.ty.size/\i.bytes=ti.bytes/\i.zero=some z/\z.cells=ti.ty.zero.toArray) /\
 match ti.ty with
 | .int k=>P.underlying id=some (.int k)
 | .bool=>P.underlying id=some .bool
 | .str=>P.underlying id=some .string
 | .slice e=>P.underlying id=some (.slice ti.el)/\∃te,lk ti.el tb.ty=some te/\te.ty=e
 | .agg _=>(∃fs:Array Field,ti.el=0/\P.underlying id=some (.struct fs)/\ti.offs.map some=fs.toList.map λf=>(P.info? f.type).map λi=>(f.offset,i.size)) \/
   ∃n e i,ti.el≠0/\P.underlying id=some (.array n e)/\P.info? e=some i/\ti.offs=(List.range n).map λk=>(k*i.size,i.size)
 | .prod _ _=>False
 | .ref j=>∃d,P.underlying id=some d/\(match d with|.struct _=>False|.array _ _=>False|_=>True) /\
   ∀k e,j=2->ti.offs=[(k,e)]->d=.map k e/\∃(a te:TI) (z:Value),lk k tb.ty=some a/\lk e tb.ty=some te/\(∃i,P.info? e=some i/\i.zero=some z)/\z.cells=te.ty.zero.toArray/\bA te.ty z=true
def DH (P:Program) (tb:Tb):Prop:=∀id ti,lk id tb.ty=some ti->EH P tb id ti
def A1r:Value->Value->Bool
 | .int k n,.int c d=>k==c&&n==d
 | .bool a,.bool b=>a==b
 | .string s,.string e=>s.size==0&&e.size==0
 | .slice none 0 0,.slice none 0 0=>true
 | .pointer none,.pointer none=>true
 | .nilFunc,.nilFunc=>true
 | .map none,.map none=>true
 | _,_=>false
theorem A1s {a b:Value} (h:A1r a b=true):a=b:=by
 unfold A1r at h;split at h
 ·grind
 ·grind
 ·simp_all
 ·rfl
 ·rfl
 ·rfl
 ·rfl
 ·cases h
def OZ:List Value->List Value->Bool
 | [],[]=>true
 | a :: l,b :: r=>A1r a b&&OZ l r
 | _,_=>false
theorem Rf:∀ {l r:List Value},OZ l r=true->l=r
 | [],[],_=>rfl
 | a :: l,b :: r,h=>by
  simp only[OZ,AT]at h;rw[A1s h.1,Rf h.2]
 | [],_ :: _,h=>by simp[OZ]at h
 | _ :: _,[],h=>by simp[OZ]at h
def A8n (ty:Ty) (bytes:Nat):Option TypeInfo->Bool
 | some i=>i.size==ty.size&&i.bytes==bytes&&(match i.zero with|some z=>OZ z.cells.toList ty.zero|none=>false)
 | none=>false
def AAf (offs:List (Nat×Nat)) (n:Nat):Option TypeInfo->Bool
 | some i=>offs==(List.range n).map λk=>(k*i.size,i.size)
 | none=>false
def A8o (e:Nat) (te:Option TI):Option TypeInfo->Bool
 | some i=>match i.zero,te with|some z,some te=>OZ z.cells.toList te.ty.zero&&bA te.ty z|_,_=>false
 | none=>false
def A8O (P:Program) (tb:Tb) (j:Nat) (d:TypeDesc):List (Nat×Nat)->Bool
 | [(k,e)]=>j != 2||(match d with|.map b a=>b==k&&a==e&&(lk k tb.ty).isSome&&A8o e (lk e tb.ty) (P.info? e)|_=>false)
 | _=>true
theorem A4S {P:Program} {tb:Tb} {j:Nat} {d:TypeDesc} {offs:List (Nat×Nat)} (h:A8O P tb j d offs=true):∀k e,j=2->offs=[(k,e)]->d=.map k e/\∃(a te:TI) (z:Value),lk k tb.ty=some a/\lk e tb.ty=some te/\(∃i,P.info? e=some i/\i.zero=some z)/\z.cells=te.ty.zero.toArray/\bA te.ty z=true:=by
 rintro k e rfl rfl;simp only[A8O,bne_self_eq_false,AFs]at h;split at h
 ·simp only[AT,YD]at h;obtain⟨⟨⟨rfl,rfl⟩,b⟩,c⟩:=h;refine⟨rfl,?_⟩;obtain⟨a,f⟩:=AEb.1 b;unfold A8o at c;grind [Rf]
 ·cases h
def AAg (P:Program) (tb:Tb) (ti:TI):Ty->Option TypeDesc->Bool
 | .int k,some (.int a)=>k==a
 | .bool,some .bool=>true
 | .str,some .string=>true
 | .slice e,some (.slice el)=>el==ti.el&&(match lk ti.el tb.ty with|some te=>decide (te.ty=e)|none=>false)
 | .agg _,some (.struct fs)=>ti.el==0&&ti.offs.map some==fs.toList.map λf=>(P.info? f.type).map λi=>(f.offset,i.size)
 | .agg _,some (.array n e)=>ti.el != 0&&AAf ti.offs n (P.info? e)
 | .ref _,some (.struct _)=>false
 | .ref _,some (.array _ _)=>false
 | .ref j,some d=>A8O P tb j d ti.offs
 | _,_=>false
def tiB (P:Program) (tb:Tb) (id:TypeId) (ti:TI):Bool:=((ti.offs.all λp=>p.2 != 0)&&(decide (0<ti.bytes)&&A1p P id ti.ty ti.el))&&A8n ti.ty ti.bytes (P.info? id)&&AAg P tb ti ti.ty (P.underlying id)
theorem A8P {P:Program} {tb:Tb} {id:TypeId} {ti:TI} (h:tiB P tb id ti=true):EH P tb id ti:=by
 simp only[tiB,AT]at h;obtain⟨⟨⟨h0,c,d⟩,h1⟩,a⟩:=h;refine⟨⟨⟨λp hp=>by simpa using (Is.1 h0) p hp,by simpa using c,A1q d⟩,?_⟩,?_⟩
 ·unfold A8n at h1;grind [Rf]
 ·generalize hu:P.underlying id=u at a;generalize ti.ty=t at a;cases t<;>cases u<;>simp only[AAg]at a<;>try(cases a;done)
  all_goals
   rename_i u;cases u<;>simp only at a<;>try(cases a;done)
  ·grind
  ·rfl
  ·rfl
  ·grind
  ·rename_i n e;simp only[AT,AEM]at a;obtain⟨b,a⟩:=a;unfold AAf at a;split at a
   ·rename_i i hi;exact .inr ⟨_,_,i,b,rfl,hi,by simpa using a⟩
   ·cases a
  ·grind
  all_goals exact⟨_,rfl,trivial,A4S a⟩
theorem A4T {P:Program} {tb:Tb} (h:(tb.ty.all λp=>tiB P tb p.1 p.2)=true):DH P tb:=λid ti hi=>by
 rw[Is]at h;exact A8P (h _ (F8 hi))
def Ty.isAgg:Ty->Bool
 | .agg _=>true
 | .int _=>false
 | .bool=>false
 | .str=>false
 | .slice _=>false
 | .prod _ _=>false
 | .ref _=>false
section
variable {P:Program} {tb:Tb} {id:TypeId} {ti:TI} (w:World)
theorem L6 {i:TypeInfo} (h:P.info? id=some i):(typeInfo id).run P w=.ok i w:=by simp[typeInfo,h]
theorem A4U (h:EH P tb id ti):(isAgg id).run P w=.ok ti.ty.isAgg w:=by
 obtain⟨_,a⟩:=h;cases c:ti.ty<;>rw[c]at a<;>simp only at a;case agg =>
  rcases a with ⟨fs,_,hu,_⟩|⟨n,e,_,_,hu,_⟩<;>simp[isAgg,UH hu,Ty.isAgg]
 case slice=>simp[isAgg,UH a.1,Ty.isAgg]
 case ref k =>
  obtain⟨d,hu,b,_⟩:=a;cases d<;>first|exact b.elim|simp[isAgg,UH hu,Ty.isAgg]
 all_goals simp[isAgg,UH a,Ty.isAgg]
theorem Hr (h:EH P tb id ti):(sizeOf id).run P w=.ok ti.ty.size w:=by
 obtain⟨⟨_,i,z,h1,a,_⟩,_⟩:=h;simp[sizeOf,L6 w h1,a]
theorem EH.noprod (h:EH P tb id ti) {a b:Ty}:ti.ty≠.prod a b:=by
 intro e;have:=h.2;rw[e]at this;exact this
theorem eU (h:EH P tb id ti) {ad:Addr} {cs:List Value} (d:cs.length=ti.ty.size) (e:∀(j:Nat) (u:Value),cs[j]?=some u->w.cell? (ad.add j)=some u) :
  (loadVar id ad).run P w=.ok (ti.ty.wrap cs) w:=by
 have i:=λa b=>h.noprod (a:=a) (b:=b);simp only[loadVar,ADA,A4U w h,aS];cases f:ti.ty;case prod a b=>exact absurd f (i a b)
 case agg u =>
  have g:ti.ty.size=cs.length:=d.symm;simp only[Ty.isAgg,AD1,ADA,Hr w h,aS,g,run_loadCells_list w ad cs e,Ty.wrap];rfl
 all_goals
  rw[f]at d;obtain⟨c,rfl⟩:=ADS.1 d;have h0:=e 0 c rfl;rw[M4]at h0;simp[Ty.isAgg,Ty.wrap,h0]
theorem Es (h:EH P tb id ti) {ad:Addr} {cs:List Value} (b:cs.length=ti.ty.size) (a:∀(j:Nat) (u:Value),cs[j]?=some u->w.cell? (ad.add j)=some u) :
  (Instr.loadAt id (.pointer (some ad))).run P w=.ok (ti.ty.wrap cs) w:=by
 simp[Instr.loadAt,Instr.sureAddr,eU w h b a]
end
end
end Go.Proofs.YtapkhdkbkodbjaaGreat.Fw
