/- Typed values, how they lie in memory, the executor's words and the table of types: what they mean. -/
import Derived.ProofKit
import Derived.Orders
import Derived.Laws.AppendOwn
import Derived.Laws.MakeOwn
import Derived.Laws.OwnMore
set_option linter.unusedVariables false
set_option linter.unusedSimpArgs false
namespace Go.Proofs.YtapkhdkbkodbjaaGreat.Fw
section
open Go
theorem oa {p:Prop} (h:p:=by omega):p:=h
theorem sc {p:Prop} (h:p:=by simp):p:=h
theorem dc {p:Prop} (h:p:=by decide):p:=h
abbrev AS:=@List.getD_eq_getElem?_getD
abbrev AT:=@List.getElem?_eq_getElem
abbrev An:=@Bool.and_eq_true
abbrev As:=@List.length_append
abbrev At:=@List.mem_cons
abbrev BY:=@if_neg
abbrev By:=@List.take_of_length_le
abbrev DO:=@if_pos
abbrev Do:=@List.mem_append
abbrev Y1:=@List.mem_map
abbrev GO:=@List.mem_cons_of_mem
abbrev IF:=@List.length_cons
abbrev IN:=@Int.ofNat_lt
abbrev IS:=@Classical.byContradiction
abbrev If:=@List.length_singleton
abbrev Is:=@decide_eq_true_eq
abbrev NO:=@List.all_eq_true
abbrev No:=@Nat.le_refl
abbrev OF:=@List.length_map
abbrev ON:=@Nat.zero_le
abbrev OR:=@Option.map_eq_some_iff
abbrev OS:=@List.length_take
abbrev Of:=@List.map_congr_left
abbrev On:=@List.getElem?_eq_some_iff
abbrev SQ:=@List.mem_singleton
abbrev SR:=@List.drop_eq_getElem_cons
abbrev SU:=@List.foldl_cons
abbrev SV:=@List.drop_eq_nil_of_le
abbrev SW:=@List.take_length
abbrev SX:=@Nat.le_trans
abbrev SY:=@Int.ofNat_le
abbrev SZ:=@List.append_assoc
abbrev Sa:=@Bool.not_eq_true'
abbrev Sb:=@Go.run_underlying
abbrev Sc:=@Int.toNat_natCast
abbrev Sd:=@decide_eq_false_iff_not
abbrev Se:=@List.getElem?_append_left
abbrev Sf:=@List.getElem?_append_right
abbrev Sg:=@Array.getElem?_eq_some_iff
abbrev Sh:=@Int.le_refl
abbrev Si:=@List.getElem?_eq_none
abbrev Sj:=@List.map_cons
abbrev Sk:=@List.eq_nil_of_length_eq_zero
abbrev Sl:=@List.pairwise_iff_getElem
abbrev Sm:=@List.pairwise_cons
abbrev Sn:=@List.mem_iff_getElem?
abbrev TO:=@List.not_mem_nil
abbrev To:=@List.any_eq_true
abbrev UI:=@Nat.mul_le_mul_right
abbrev UJ:=@List.mem_range
abbrev UK:=@List.map_append
abbrev UL:=@List.append_nil
abbrev UM:=@List.mem_append_left
abbrev UN:=@List.nodup_cons
abbrev UO:=@Bool.or_eq_true
abbrev UP:=@List.getElem?_take
abbrev UQ:=@beq_iff_eq
abbrev UR:=@List.mem_of_getElem?
abbrev aS:=@List.length_drop
abbrev aT:=@List.getElem_mem
abbrev bY:=@List.map_map
abbrev gO:=@List.mem_cons_self
abbrev iF:=@List.pairwise_map
abbrev iN:=@List.nodup_append
abbrev iS:=@List.mem_of_mem_take
abbrev nO:=@List.getElem?_map
abbrev oF:=@List.range_succ
abbrev oN:=@congrArg
abbrev oR:=@List.drop_zero
abbrev oS:=@List.length_set
abbrev tO:=@Go.Result.andThen_ok
abbrev AA0:=@Bool.false_eq_true
abbrev AA1:=@List.length_nil
abbrev AA2:=@Bool.or_eq_false_iff
abbrev AA3:=@Option.isNone_iff_eq_none
abbrev AA4:=@Array.getElem?_eq_getElem
abbrev AA5:=@List.filter_cons
abbrev AA6:=@List.ext_getElem
abbrev AA7:=@List.length_take_le
abbrev AA8:=@List.pairwise_singleton
abbrev AA9:=@List.getElem?_drop
abbrev AAa:=@List.getElem?_append
abbrev AAb:=@List.length_filter_le
abbrev AAc:=@Int.add_zero
abbrev AAd:=@if_true
abbrev AAe:=@List.mem_filter
abbrev AAf:=@Option.some.injEq
abbrev AAg:=@List.take_zero
abbrev AAh:=@List.getElem?_set
abbrev AAi:=@List.mem_iff_getElem
abbrev AAj:=@Nat.lt_of_lt_of_le
abbrev AAk:=@List.take_succ_cons
abbrev AAl:=@List.nil_append
abbrev AAm:=@Go.Sem.run_bind
abbrev AAn:=@List.prefix_refl
abbrev AAo:=@List.cons_append
abbrev AAp:=@if_false
abbrev AAq:=@List.pairwise_append
abbrev AAr:=@Int.natCast_nonneg
abbrev AAs:=@beq_eq_false_iff_ne
abbrev AAt:=@Nat.succ_mul
abbrev AAu:=@List.mem_append_right
abbrev AAv:=@Int.le_trans
abbrev AAw:=@or_false
abbrev AAx:=@Nat.pos_of_ne_zero
abbrev AAy:=@Nat.le_antisymm
abbrev AAz:=@List.all_cons
abbrev AAA:=@List.mem_of_mem_drop
abbrev AAB:=@Int.not_lt
abbrev AAC:=@Nat.zero_add
abbrev AAD:=@Int.tdiv_eq_ediv_of_nonneg
abbrev AAE:=@List.getElem?_range
abbrev AAF:=@List.drop_succ_cons
abbrev AAG:=@Int.toNat_of_nonneg
abbrev AAH:=@Bool.eq_false_iff
abbrev AAI:=@List.mem_or_eq_of_mem_set
abbrev AAJ:=@Nat.sub_self
abbrev AAK:=@Nat.min_eq_left
abbrev AAL:=@List.take_append_drop
abbrev AAM:=@Option.isSome_iff_exists
abbrev AAN:=@List.getElem?_replicate
abbrev AAO:=@List.foldl_append
abbrev AAP:=@Option.map_some
abbrev AAQ:=@Nat.mul_le_mul_left
abbrev AAR:=@List.replicate_succ
abbrev AAS:=@List.length_eq_one_iff
abbrev AAT:=@Int.tmod_eq_emod_of_nonneg
abbrev AAU:=@List.getElem_map
abbrev AAV:=@List.drop_length
abbrev AAW:=@List.countP_cons
abbrev AAX:=@List.getElem_range
abbrev AAY:=@ByteArray.size_append
abbrev AAZ:=@Bool.and_eq_false_iff
abbrev AB0:=@decide_eq_true
abbrev AB1:=@List.mem_take_iff_getElem
abbrev AB2:=@Array.mapM_eq_mapM_toList
abbrev AB3:=@BitVec.testBit_toNat
abbrev AB4:=@List.cons.injEq
abbrev AB5:=@List.any_eq_false
abbrev AB6:=@List.all_eq_false
abbrev AB7:=@List.all_append
abbrev AB9:=@Int.add_comm
abbrev ABb:=@Nat.add_sub_cancel_left
abbrev ABc:=@List.getElem?_cons_zero
abbrev ABd:=@List.drop_left
abbrev ABf:=@List.filter_append
abbrev ABg:=@Bool.not_eq_false'
abbrev ABh:=@decide_eq_false
abbrev ABi:=@List.set_append_right
abbrev ABj:=@List.map_nil
abbrev ABk:=@List.any_append
abbrev ABl:=@Bool.eq_iff_iff
abbrev ABm:=@List.length_range
abbrev ABn:=@List.flatMap_cons
abbrev ABo:=@List.mem_of_find?_eq_some
abbrev ABp:=@List.drop_drop
abbrev ABs:=@Array.length_toList
abbrev ABt:=@List.set_cons_zero
abbrev ABu:=@List.filter_nil
abbrev ABv:=@not_true_eq_false
abbrev ABw:=@bne_iff_ne
abbrev ABx:=@Option.ext
abbrev ABy:=@Nat.lt_trichotomy
abbrev ABz:=@Nat.add_mul
abbrev ABA:=@List.replicate_append_replicate
abbrev ABB:=@List.ext_getElem?
abbrev ABC:=@List.length_replicate
abbrev ABD:=@List.eq_nil_iff_forall_not_mem
abbrev ABE:=@decide_eq_decide
abbrev ABF:=@Option.getD_some
abbrev ABG:=@List.exists_mem_of_length_pos
abbrev ABH:=@List.mem_erase_of_ne
abbrev ABI:=@Go.World.cell?_of_block
abbrev ABJ:=@Int.ofNat.inj
abbrev ABK:=@Bool.true_and
abbrev ABL:=@Nat.and_le_left
abbrev ABM:=@Option.isSome_some
abbrev ABN:=@Nat.lt_of_le_of_lt
abbrev ABO:=@Nat.le_of_lt
abbrev ABP:=@List.zip_cons_cons
abbrev ABQ:=@List.set_cons_succ
abbrev ABR:=@List.prefix_append
abbrev ABS:=@List.mem_filterMap
abbrev ABT:=@List.map_id'
abbrev ABU:=@List.find?_eq_none
abbrev ABV:=@List.countP_append
abbrev ABW:=@Int.lt_of_le_of_lt
abbrev ABX:=@Option.some_or
abbrev ABY:=@List.range_add
abbrev ABZ:=@List.foldl_nil
abbrev AC0:=@List.take_add_one
abbrev AC1:=@List.idxOf_append
abbrev AC2:=@Prod.mk.injEq
abbrev AC3:=@Nat.add_assoc
abbrev AC5:=@Bool.and_true
abbrev AC6:=@List.perm_middle
abbrev AC7:=@List.drop_append
abbrev AC8:=@Nat.zero_mul
abbrev AC9:=@List.find?_some
abbrev ACa:=@Int.zero_add
abbrev ACb:=@Int.sub_self
abbrev ACd:=@Nat.mod_lt
abbrev ACe:=@Int.not_le
inductive Ty where
 | int (k:IntKind)
 | bool
 | str
 | slice (e:Ty)
 | prod (a b:Ty)
 | agg (t:Ty)
 
 | ref (k:Nat)
 deriving DecidableEq
def LT:Nat->Value
 | 0=>.pointer none
 | 1=>.nilFunc
 | _=>.map none
@[reducible] def Ty.den:Ty->Type
 | .int _=>Int
 | .bool=>Bool
 | .str=>ByteArray
 | .slice e=>List e.den
 | .prod a b=>a.den×b.den
 | .agg t=>t.den
 | .ref _=>Unit
def Ty.size:Ty->Nat
 | .prod a b=>a.size+b.size
 | .agg t=>t.size
 | .int _=>1
 | .bool=>1
 | .str=>1
 | .slice _=>1
 | .ref _=>1
def Ty.dflt:(t:Ty)->t.den
 | .int _=>(0:Int)
 | .bool=>false
 | .str=>ByteArray.empty
 | .slice _=>[]
 | .prod a b=>(a.dflt,b.dflt)
 | .agg t=>t.dflt
 | .ref _=>()
def Ty.zero:Ty->List Value
 | .int k=>[.int k 0]
 | .bool=>[.bool false]
 | .str=>[.string ByteArray.empty]
 | .slice _=>[.slice none 0 0]
 | .prod a b=>a.zero++b.zero
 | .agg t=>t.zero
 | .ref k=>[LT k]
def Ty.wrap:Ty->List Value->Value
 | .agg _,cs=>.agg cs.toArray
 | .prod _ _,cs=>.agg cs.toArray
 | .int _,cs=>cs.headD undef
 | .bool,cs=>cs.headD undef
 | .str,cs=>cs.headD undef
 | .slice _,cs=>cs.headD undef
 | .ref _,cs=>cs.headD undef
def KG (k:IntKind) (n:Int):Prop:=k.min<=n/\n<=k.max
def AP:Nat:=140737488355328
def Bx (w:World) (O:Nat->Prop):(t:Ty)->List Value->t.den->Prop
 | .int k,cs,d=>cs=[.int k d]/\KG k d
 | .bool,cs,d=>cs=[.bool d]
 | .str,cs,d=>cs=[.string d]/\ByteArray.size d<=AP
 | .slice e,cs,d=>∃(a:Option Addr) (c:Nat),cs=[.slice a (List.length d) c]/\List.length d<=c/\List.length d<=AP /\
   (d=[]\/∃ad:Addr,a=some ad/\¬O ad.block /\
    ∀(i:Nat) (x:e.den),d[i]?=some x->∃f:List Value,f.length=e.size/\(∀(j:Nat) (v:Value),f[j]?=some v->w.cell? (ad.add (i*e.size+j))=some v)/\Bx w O e f x)
 | .prod a b,cs,d=>∃c1 c2:List Value,cs=c1++c2/\Bx w O a c1 d.1/\Bx w O b c2 d.2
 | .agg t,cs,d=>Bx w O t cs d
 | .ref k,cs,_=>cs=[LT k]
def BV (w:World) (O:Nat->Prop) (t:Ty) (v:Value) (d:t.den):Prop:=∃cs,Bx w O t cs d/\v=t.wrap cs
theorem CH (a:Addr) (n:Nat):(a.add n).block=a.block:=by unfold Addr.add;split<;>rfl
theorem DL (a:Addr) (i j:Nat):(a.add i).add j=a.add (i+j):=by
 unfold Addr.add;grind
theorem Mm (a:Addr):a.add 0=a:=rfl
theorem d7 (g j:Nat):(⟨g,0,none⟩:Addr).add j=⟨g,j,none⟩:=by
 unfold Addr.add;split<;>simp_all
theorem Jf (g i j:Nat):(⟨g,i,none⟩:Addr).add j=⟨g,i+j,none⟩:=by
 unfold Addr.add;split<;>simp_all
theorem Ty.size_pos:∀t:Ty,0<t.size
 | .int _=>by simp[Ty.size]
 | .bool=>by simp[Ty.size]
 | .str=>by simp[Ty.size]
 | .slice _=>by simp[Ty.size]
 | .ref _=>by simp[Ty.size]
 | .prod a b=>by have:=a.size_pos;simp[Ty.size];omega
 | .agg t=>by simpa[Ty.size] using t.size_pos
theorem Bx.length {w:World} {O:Nat->Prop}:∀ {t:Ty} {cs:List Value} {d:t.den},Bx w O t cs d->cs.length=t.size
 | .int _,_,_,h=>by obtain⟨rfl,_⟩:=h;rfl
 | .bool,_,_,h=>by have h:_=_:=h;subst h;rfl
 | .str,_,_,h=>by obtain⟨rfl,_⟩:=h;rfl
 | .slice _,_,_,h=>by obtain⟨_,_,rfl,_⟩:=h;rfl
 | .ref _,_,_,h=>by have h:_=_:=h;subst h;rfl
 | .prod a b,_,_,h=>by
  obtain⟨c1,c2,rfl,h1,c⟩:=h;simp[Ty.size,Bx.length h1,Bx.length c]
 | .agg t,_,_,h=>by
  have h:Bx w O t _ _:=h;simpa[Ty.size] using Bx.length h
theorem Bx.one {w:World} {O:Nat->Prop}:∀ {t:Ty} {cs:List Value} {d:t.den},Bx w O t cs d->∀v∈cs,v.oneCell'=true
 | .int _,_,_,h=>by obtain⟨rfl,_⟩:=h;simp[Value.oneCell']
 | .bool,_,_,h=>by have h:_=_:=h;subst h;simp[Value.oneCell']
 | .str,_,_,h=>by obtain⟨rfl,_⟩:=h;simp[Value.oneCell']
 | .slice _,_,_,h=>by obtain⟨_,_,rfl,_⟩:=h;simp[Value.oneCell']
 | .ref k,_,_,h=>by
  have h:_=[LT k]:=h;subst h;match k with
  | 0=>simp[Value.oneCell',LT]
  | 1=>simp[Value.oneCell',LT]
  | _+2=>simp[Value.oneCell',LT]
 | .prod a b,_,_,h=>by
  obtain⟨c1,c2,rfl,h1,e⟩:=h;intro v c;rcases Do.1 c with c|c
  .exact Bx.one h1 v c
  exact Bx.one e v c
 | .agg t,_,_,h=>by
  have h:Bx w O t _ _:=h;exact Bx.one h
theorem Bx.mono {w w':World} {O O':Nat->Prop} (f:∀b,b<w.heap.size->¬O b->¬O' b) (k:∀b,b<w.heap.size->¬O b->w'.heap[b]?=w.heap[b]?) :
  ∀ {t:Ty} {cs:List Value} {d:t.den},Bx w O t cs d->Bx w' O' t cs d
 | .int _,_,_,h=>h
 | .bool,_,_,h=>h
 | .str,_,_,h=>h
 | .ref _,_,_,h=>h
 | .slice e,_,d,h=>by
  obtain⟨a,c,rfl,h1,l,m⟩:=h;refine⟨a,c,rfl,h1,l,?_⟩;rcases m with m|⟨ad,rfl,o,hx⟩
  .exact .inl m
  by_cases hd:d=[]
  .exact .inl hd
  have q:ad.block<w.heap.size:=by
   obtain⟨x,r,rfl⟩:∃x r,d=x :: r:=List.exists_cons_of_ne_nil hd;obtain⟨g,hl,n,_⟩:=hx 0 x rfl;have u:=e.size_pos;have:g[0]?=some (g[0]'(by omega)):=AT oa;have:=block_lt_of_cell (n 0 _ this)
   rwa [CH]at this
  refine .inr ⟨ad,rfl,f _ q o,λi x hi=>?_⟩;obtain⟨g,hl,n,s⟩:=hx i x hi;refine⟨g,hl,λj v p=>?_,Bx.mono f k s⟩;rw[ABI (w:=w) (w':=w')]
  .exact n j v p
  grind [CH]
 | .prod a b,_,_,h=>by
  obtain⟨c1,c2,rfl,h1,l⟩:=h;exact⟨c1,c2,rfl,Bx.mono f k h1,Bx.mono f k l⟩
 | .agg t,_,_,h=>by
  have h:Bx w O t _ _:=h;exact(Bx.mono f k h:Bx w' O' t _ _)
theorem BV.mono {w w':World} {O O':Nat->Prop} (c:∀b,b<w.heap.size->¬O b->¬O' b) (e:∀b,b<w.heap.size->¬O b->w'.heap[b]?=w.heap[b]?)
  {t:Ty} {v:Value} {d:t.den} (h:BV w O t v d):BV w' O' t v d :=
 let ⟨cs,h1,a⟩:=h
 ⟨cs,h1.mono c e,a⟩
theorem Bx.zero (w:World) (O:Nat->Prop):∀t:Ty,Bx w O t t.zero t.dflt
 | .int k=>⟨rfl,by cases k<;>exact⟨by decide,by decide⟩⟩
 | .bool=>rfl
 | .str=>⟨rfl,by simp[Ty.dflt,AP]⟩
 | .slice _=>⟨none,0,rfl,by simp[Ty.dflt],by simp[Ty.dflt,AP],.inl rfl⟩
 | .ref _=>rfl
 | .prod a b=>⟨_,_,rfl,Bx.zero w O a,Bx.zero w O b⟩
 | .agg t=>(Bx.zero w O t:Bx w O t _ _)
end
section
open Go
structure PV where
 t:Ty
 d:t.den
def BQ (t:Ty) (p:PV):Option t.den:=if h:p.t=t then some (h▸p.d) else none
theorem Gf (t:Ty) (d:t.den):BQ t ⟨t,d⟩=some d:=by simp[BQ]
def HS:(t:Ty)->Nat->t.den->Option PV
 | .prod a _,0,d=>some ⟨a,d.1⟩
 | .prod _ b,k+1,d=>HS b k d.2
 | .int k,0,d=>some ⟨.int k,d⟩
 | .bool,0,d=>some ⟨.bool,d⟩
 | .str,0,d=>some ⟨.str,d⟩
 | .slice e,0,d=>some ⟨.slice e,d⟩
 | .agg t,0,d=>some ⟨.agg t,d⟩
 | .ref k,0,d=>some ⟨.ref k,d⟩
 | _,_,_=>none
def OA:(t:Ty)->Nat->t.den->PV->Option t.den
 | .prod a _,0,d,x=>(BQ a x).map λy=>(y,d.2)
 | .prod _ b,k+1,d,x=>(OA b k d.2 x).map λy=>(d.1,y)
 | .int k,0,_,x=>BQ (.int k) x
 | .bool,0,_,x=>BQ .bool x
 | .str,0,_,x=>BQ .str x
 | .slice e,0,_,x=>BQ (.slice e) x
 | .agg t,0,_,x=>BQ (.agg t) x
 | .ref k,0,_,x=>BQ (.ref k) x
 | _,_,_,_=>none
def LP:Ty->Nat->Option Nat
 | .prod _ _,0=>some 0
 | .prod a b,k+1=>(LP b k).map (a.size + ·)
 | .int _,0=>some 0
 | .bool,0=>some 0
 | .str,0=>some 0
 | .slice _,0=>some 0
 | .agg _,0=>some 0
 | .ref _,0=>some 0
 | _,_=>none
def d8:Ty->Nat->Option Ty
 | .prod a _,0=>some a
 | .prod _ b,k+1=>d8 b k
 | .int k,0=>some (.int k)
 | .bool,0=>some .bool
 | .str,0=>some .str
 | .slice e,0=>some (.slice e)
 | .agg t,0=>some (.agg t)
 | .ref k,0=>some (.ref k)
 | _,_=>none
def VJ:List Nat->(t:Ty)->t.den->Option PV
 | [],t,d=>some ⟨t,d⟩
 | k :: r,.agg t,d=>match HS t k d with
  | some pv=>VJ r pv.t pv.d
  | none=>none
 | _ :: _,_,_=>none
def YH:List Nat->(t:Ty)->t.den->PV->Option t.den
 | [],t,_,x=>BQ t x
 | k :: r,.agg t,d,x=>match HS t k d with
  | some pv=>match YH r pv.t pv.d x with
   | some y=>OA t k d ⟨pv.t,y⟩
   | none=>none
  | none=>none
 | _ :: _,_,_,_=>none
def NQ:List Nat->Ty->Option Nat
 | [],_=>some 0
 | k :: r,.agg t=>match LP t k,d8 t k with
  | some o,some u=>(NQ r u).map (o + ·)
  | _,_=>none
 | _ :: _,_=>none
inductive AV where
 
 | p (t:Ty) (d:t.den)
 
 | raw (v:Value)
 
 | sr (n:Nat) (e:Ty) (lo hi:Nat)
 
 | ep (n:Nat) (e:Ty) (i:Nat) (path:List Nat) (off:Nat)
 
 | pc (e:Ty) (d:List e.den)
 
 | ip (t:Ty) (d:t.den)
 
 | bp (n:Nat) (path:List Nat) (off:Nat)
 | fn (f:FuncId)
 
 | clo (f:FuncId) (ns:List Nat)
 
 | mp (n:Nat)
 
 | yl (n:Nat)
 
 | nin (n:Nat) (e:Ty) (i len:Nat)
 
 | ag (l:List AV)
 | tup (l:List AV)
 
 | top
inductive Obj where
 | arr (et:TypeId) (e:Ty) (xs:List e.den)
 | box (et:TypeId) (st:Bool) (fs:List AV)
 
 | mapo (k v:Ty) (l:List (k.den×v.den))
 
 | itr (k v:Ty) (l:List (k.den×v.den)) (left:List Nat) (cur:Option Nat)
 
 | nest (et iet:TypeId) (k e:Ty) (xs:List (k.den×List e.den)) (h:Option Nat)
 
 | frame (tm:Array Value) (fs:List (Nat×AV))
 
 | loop (L:Go.Loop)
 
 | dfr
structure St where
 env:List (Nat×AV)
 objs:List (Nat×Obj)
def lk {α:Type}:Nat->List (Nat×α)->Option α
 | _,[]=>none
 | k,(j,v) :: r=>if k=j then some v else lk k r
def del {α:Type}:Nat->List (Nat×α)->List (Nat×α)
 | _,[]=>[]
 | k,(j,v) :: r=>if k=j then del k r else (j,v) :: del k r
def upd {α:Type}:Nat->α->List (Nat×α)->List (Nat×α)
 | _,_,[]=>[]
 | k,u,(j,v) :: r=>if k=j then (j,u) :: upd k u r else (j,v) :: upd k u r
def sub {α:Type} (xs:List α) (lo hi:Nat):List α:=(xs.drop lo).take (hi-lo)
theorem KH {α:Type} (xs:List α):sub xs 0 xs.length=xs:=by simp[sub]
structure TI where
 ty:Ty
 offs:List (Nat×Nat):=[]
 el:TypeId:=0
 bytes:Nat
inductive RV where
 | p (t:Ty) (d:t.den)
 | own (et:TypeId) (e:Ty) (xs:List e.den)
@[reducible] def KI:List Ty->Type
 | []=>Unit
 | t :: r=>t.den×KI r
def Ty.flat:Ty->Bool
 | .slice _=>false
 | .prod a b=>a.flat&&b.flat
 | .agg t=>t.flat
 | .int _=>true
 | .bool=>true
 | .str=>true
 | .ref _=>true
def RV.flat:RV->Bool
 | .p t _=>t.flat
 | .own _ _ _=>false
structure Ab where
 ins:List Ty
 lend:Bool:=false
 pre:KI ins->Prop
 out:KI ins->List RV
structure Tb where
 ty:List (Nat×TI)
 fns:List (Nat×Ab)
 
 pure:List Nat:=[]
 
 nests:List (Nat×TypeId):=[]
 
 live:List Nat:=[]
def inB (n:Nat):List Nat->Bool
 | []=>false
 | m :: r=>if n=m then true else inB n r
def Il:Value->AV
 | .int k n=>if k.min<=n/\n<=k.max then .p (.int k) n else .raw (.int k n)
 | .bool b=>.p .bool b
 | .string s=>if s.size<=AP then .p .str s else .raw (.string s)
 | v=>.raw v
def Aq (σ:St):Operand->Option AV
 | .tmp t=>lk t σ.env
 | .const v=>some (Il v)
 | .func f=>some (.fn f)
 | .global _=>none
def Q6 (e:Ty) (lo hi:Nat):Option Obj->Option (List e.den)
 | some (.arr _ a xs)=>BQ (.slice e) ⟨.slice a,sub xs lo hi⟩
 | some (.nest _ _ k a xs none)=>BQ (.slice e) ⟨.slice (.agg (.prod k (.slice a))),sub xs lo hi⟩
 | _=>none
def Tu (e:Ty) (i:Nat):Option Obj->Option (List e.den)
 | some (.nest _ _ k a xs none)=>BQ (.slice e) ⟨.slice a,(xs.getD i (k.dflt,[])).2⟩
 | _=>none
def E3 (l:Bool) (σ:St):(t:Ty)->AV->Option t.den
 | t,.p u d=>BQ t ⟨u,d⟩
 | .slice e,.sr n a lo hi=>if l=true/\a=e then Q6 e lo hi (lk n σ.objs) else none
 | .slice e,.nin n a i _=>if l=true/\a=e then Tu e i (lk n σ.objs) else none
 | .slice _,.raw (.slice none 0 0)=>some []
 | _,_=>none
def NZ {α β:Type}:Option α->Option β->Option (α×β)
 | some a,some b=>some (a,b)
 | _,_=>none
def LQ (l:Bool) (σ:St):List AV->(t:Ty)->Option t.den
 | [],_=>none
 | [x],t=>E3 l σ t x
 | x :: y :: r,.prod a b=>NZ (E3 l σ a x) (LQ l σ (y :: r) b)
 | _ :: _ :: _,_=>none
def NR (l:Bool) (σ:St):(t:Ty)->AV->Option t.den
 | .agg t,.ag fs=>LQ l σ fs t
 | t,x=>E3 l σ t x
def AU (n:Nat):List Nat->Bool
 | []=>false
 | m :: r=>if n=m then true else AU n r
theorem Aa (n:Nat):∀l:List Nat,AU n l=true↔n∈l
 | []=>by simp[AU]
 | m :: r=>by
  simp only[AU,At];split
  .rename_i h;simp[h]
  rename_i h;simp[h,Aa n r]
mutual
def AV.fgt (hs:List Nat):AV->AV
 | .sr m e lo hi=>if AU m hs=true then .top else .sr m e lo hi
 | .ep m e i path off=>if AU m hs=true then .top else .ep m e i path off
 | .nin m e i len=>if AU m hs=true then .top else .nin m e i len
 | .bp m path off=>if AU m hs=true then .top else .bp m path off
 | .mp m=>if AU m hs=true then .top else .mp m
 | .yl m=>if AU m hs=true then .top else .yl m
 | .clo f ns=>if (ns.any λn=>AU n hs)=true then .top else .clo f ns
 | .ag l=>.ag (AV.fgts hs l)
 | .tup l=>.tup (AV.fgts hs l)
 | .p t d=>.p t d
 | .pc e d=>.pc e d
 | .raw v=>.raw v
 | .ip t d=>.ip t d
 | .fn f=>.fn f
 | .top=>.top
def AV.fgts (hs:List Nat):List AV->List AV
 | []=>[]
 | x :: r=>AV.fgt hs x :: AV.fgts hs r
end
def CU (hs:List Nat):List (Nat×AV)->List (Nat×AV)
 | []=>[]
 | (s,x) :: r=>(s,x.fgt hs) :: CU hs r
def Obj.fgt (hs:List Nat):Obj->Obj
 | .arr et e xs=>.arr et e xs
 | .box et st fs=>.box et st (AV.fgts hs fs)
 | .mapo k v l=>.mapo k v l
 | .nest et b k e xs h=>.nest et b k e xs h
 | .frame i fs=>.frame i (CU hs fs)
 | .loop L=>.loop L
 | .itr c g d f a=>.itr c g d f a
 | .dfr=>.dfr
def Ay (hd hs:List Nat):List (Nat×Obj)->List (Nat×Obj)
 | []=>[]
 | (n,o) :: r=>if AU n hd=true then Ay hd hs r else (n,o.fgt hs) :: Ay hd hs r
mutual
def AV.trn (n:Nat) (hs:List Nat):AV->AV
 | .nin m e i len=>if m=n\/AU m hs=true then .top else .nin m e i len
 | .sr m e lo hi=>if AU m hs=true then .top else .sr m e lo hi
 | .ep m e i path off=>if AU m hs=true then .top else .ep m e i path off
 | .bp m path off=>if AU m hs=true then .top else .bp m path off
 | .mp m=>if AU m hs=true then .top else .mp m
 | .yl m=>if AU m hs=true then .top else .yl m
 | .clo f ns=>if (ns.any λn=>AU n hs)=true then .top else .clo f ns
 | .ag l=>.ag (AV.trns n hs l)
 | .tup l=>.tup (AV.trns n hs l)
 | .p t d=>.p t d
 | .pc e d=>.pc e d
 | .raw v=>.raw v
 | .ip t d=>.ip t d
 | .fn f=>.fn f
 | .top=>.top
def AV.trns (n:Nat) (hs:List Nat):List AV->List AV
 | []=>[]
 | x :: r=>AV.trn n hs x :: AV.trns n hs r
end
def FI (n:Nat) (hs:List Nat):List (Nat×AV)->List (Nat×AV)
 | []=>[]
 | (s,x) :: r=>(s,x.trn n hs) :: FI n hs r
def Obj.trn (n:Nat) (hs:List Nat):Obj->Obj
 | .arr et e xs=>.arr et e xs
 | .box et st fs=>.box et st (AV.trns n hs fs)
 | .mapo k v l=>.mapo k v l
 | .nest et b k e xs h=>.nest et b k e xs h
 | .frame i fs=>.frame i (FI n hs fs)
 | .loop L=>.loop L
 | .itr c g d f a=>.itr c g d f a
 | .dfr=>.dfr
def DT (n:Nat) (hs:List Nat):List (Nat×Obj)->List (Nat×Obj)
 | []=>[]
 | (m,o) :: r=>if AU m (n :: hs)=true then DT n hs r else (m,o.trn n hs) :: DT n hs r
def DA:Option Obj->Bool
 | some (.nest _ _ _ _ _ _)=>true
 | _=>false
def Q1 (σ:St) (e:Ty):AV->Option (List e.den)
 | .sr n a lo hi=>if DA (lk n σ.objs)=true then none else NR true σ (.slice e) (.sr n a lo hi)
 | x=>NR true σ (.slice e) x
end
section
open Go
def Ac (x y:ByteArray):Bool:=x.toList==y.toList
def Ce (x y:ByteArray):Bool:=Op.bytesLess x.toList y.toList
def Cf (op:BinOp) (k:IntKind) (x y:Int):Int :=
 k.wrap (match op with
  | .and=>((BitVec.ofInt k.bits x &&& BitVec.ofInt k.bits y).toNat:Int)
  | .or=>((BitVec.ofInt k.bits x ||| BitVec.ofInt k.bits y).toNat:Int)
  | .xor=>((BitVec.ofInt k.bits x ^^^ BitVec.ofInt k.bits y).toNat:Int)
  | _=>((BitVec.ofInt k.bits x &&& ~~~BitVec.ofInt k.bits y).toNat:Int))
def aE (k:IntKind) (x y:Int):Int:=k.wrap (x*2 ^ (min y.toNat k.bits))
def d9 (k:IntKind) (x y:Int):Int:=x.fdiv (2 ^ (min y.toNat k.bits))
def vC (k:IntKind) (a b:Int):BinOp->Prop×AV
 | .add=>(KG k (a+b),.p (.int k) (a+b))
 | .sub=>(KG k (a-b),.p (.int k) (a-b))
 | .mul=>(KG k (a*b),.p (.int k) (a*b))
 | .quo=>(b≠0/\KG k (a.tdiv b),.p (.int k) (a.tdiv b))
 | .rem=>(b≠0/\KG k (a.tmod b),.p (.int k) (a.tmod b))
 | .and=>(True,.p (.int k) (Cf .and k a b))
 | .or=>(True,.p (.int k) (Cf .or k a b))
 | .xor=>(True,.p (.int k) (Cf .xor k a b))
 | .andNot=>(True,.p (.int k) (Cf .andNot k a b))
 | .shl=>(False,.top)
 | .shr=>(False,.top)
 | .eql=>(True,.p .bool (a==b))
 | .neq=>(True,.p .bool (a != b))
 | .lss=>(True,.p .bool (decide (a<b)))
 | .leq=>(True,.p .bool (decide (a<=b)))
 | .gtr=>(True,.p .bool (decide (b<a)))
 | .geq=>(True,.p .bool (decide (b<=a)))
def aF (a b:ByteArray):BinOp->Prop×AV
 | .add=>(a.size+b.size<=AP,.p .str (a++b))
 | .eql=>(True,.p .bool (Ac a b))
 | .neq=>(True,.p .bool (!Ac a b))
 | .lss=>(True,.p .bool (Ce a b))
 | .leq=>(True,.p .bool (Ce a b||Ac a b))
 | .gtr=>(True,.p .bool (!(Ce a b||Ac a b)))
 | .geq=>(True,.p .bool (!Ce a b))
 | _=>(False,.top)
def bin (op:BinOp) (k:IntKind) (a:Int) (c:IntKind) (b:Int):Prop×AV :=
 match op with
 | .shl=>(0<=b,.p (.int k) (aE k a b))
 | .shr=>(0<=b/\KG k (d9 k a b),.p (.int k) (d9 k a b))
 | op=>if k=c then vC k a b op else (False,.top)
def zK:Ty->AV
 | .slice _=>.raw (.slice none 0 0)
 | .ref k=>.raw (LT k)
 | t=>.p t t.dflt
def zL:Ty->List AV
 | .prod a b=>zK a :: zL b
 | t=>[zK t]
def pfs:(t:Ty)->t.den->List AV
 | .prod a b,d=>.p a d.1 :: pfs b d.2
 | .int k,d=>[.p (.int k) d]
 | .bool,d=>[.p .bool d]
 | .str,d=>[.p .str d]
 | .slice e,d=>[.p (.slice e) d]
 | .agg t,d=>[.p (.agg t) d]
 | .ref k,d=>[.p (.ref k) d]
def AV.cells:AV->Nat
 | .p t _=>t.size
 | .ag _=>0
 | .tup _=>0
 | _=>1
def CM:List AV->Nat->Nat
 | _,0=>0
 | [],_+1=>0
 | x :: r,k+1=>x.cells+CM r k
def K7 (st:Bool) (fs:List AV):List Nat->Option AV
 | []=>if st then some (.ag fs) else fs[0]?
 | [k]=>if st then fs[k]? else none
 | k :: r=>if st then match fs[k]? with
   | some (.p t d)=>(VJ r t d).map λpv=>.p pv.t pv.d
   | _=>none
  else none
def Q7 (fs:List AV):List Nat->Option Nat
 | []=>some 0
 | k :: r=>match fs[k]? with
  | some (.p t _)=>(NQ r t).map (CM fs k + ·)
  | some _=>if r.isEmpty then some (CM fs k) else none
  | none=>none
def Ty.cell1:Ty->Bool
 | .agg _=>false
 | .prod _ _=>false
 | .int _=>true
 | .bool=>true
 | .str=>true
 | .slice _=>true
 | .ref _=>true
def Ca (ty:Ty):AV->Bool
 | .p t _=>ty=t
 | .ag l=>match ty with|.agg t=>CM l l.length==t.size|_=>false
 | .tup _=>false
 | .top=>false
 | .raw u=>u.oneCell'&&ty.cell1
 | _=>ty.cell1
def PK (ty:Ty):AV->Bool
 | .top=>ty.cell1
 | x=>Ca ty x
def G8 (n:Nat):Bool:=decide (1000000<=n)
mutual
def AV.frz (n:Nat) (e:Ty) (xs:List e.den):AV->AV
 | .sr m e' lo hi=>if m=n then (if e'=e then .p (.slice e) (sub xs lo hi) else .top) else .sr m e' lo hi
 | .ep m e' i path off=>if m=n then .top else .ep m e' i path off
 | .nin m e' i len=>if m=n then .top else .nin m e' i len
 | .ag l=>.ag (AV.frzs n e xs l)
 | .tup l=>.tup (AV.frzs n e xs l)
 | .p t d=>.p t d
 | .pc e d=>.pc e d
 | .raw v=>.raw v
 | .ip t d=>.ip t d
 | .bp m path off=>.bp m path off
 | .fn f=>.fn f
 | .clo f ns=>.clo f ns
 | .mp n=>.mp n
 | .yl n=>.yl n
 | .top=>.top
def AV.frzs (n:Nat) (e:Ty) (xs:List e.den):List AV->List AV
 | []=>[]
 | x :: r=>AV.frz n e xs x :: AV.frzs n e xs r
end
def DW (n:Nat) (e:Ty) (xs:List e.den):List (Nat×AV)->List (Nat×AV)
 | []=>[]
 | (s,x) :: r=>(s,x.frz n e xs) :: DW n e xs r
def BC (n:Nat) (e:Ty) (xs:List e.den):List (Nat×Obj)->List (Nat×Obj)
 | []=>[]
 | (m,.arr et a ys) :: r=>(m,.arr et a ys) :: BC n e xs r
 | (m,.box et st fs) :: r=>(m,.box et st (AV.frzs n e xs fs)) :: BC n e xs r
 | (m,.mapo k v l) :: r=>(m,.mapo k v l) :: BC n e xs r
 | (m,.nest et c k a ys h) :: r=>(m,.nest et c k a ys h) :: BC n e xs r
 | (m,.frame j fs) :: r=>(m,.frame j (DW n e xs fs)) :: BC n e xs r
 | (m,.loop L) :: r=>(m,.loop L) :: BC n e xs r
 | (m,.itr d i f g b) :: r=>(m,.itr d i f g b) :: BC n e xs r
 | (m,.dfr) :: r=>(m,.dfr) :: BC n e xs r
def vE (n:Nat) (σ:St):Option Obj->St
 | some (.arr _ e xs)=>⟨DW n e xs σ.env,BC n e xs (del n σ.objs)⟩
 | some (.nest _ _ k e xs none)=>⟨DW n (.agg (.prod k (.slice e))) xs σ.env,BC n (.agg (.prod k (.slice e))) xs (del n σ.objs)⟩
 | _=>σ
def frz (n:Nat) (σ:St):St:=if G8 n=true then σ else vE n σ (lk n σ.objs)
mutual
def AV.drp (n:Nat):AV->AV
 | .sr m e' lo hi=>if m=n then .top else .sr m e' lo hi
 | .ep m e' i path off=>if m=n then .top else .ep m e' i path off
 | .nin m e' i len=>if m=n then .top else .nin m e' i len
 | .ag l=>.ag (AV.drps n l)
 | .tup l=>.tup (AV.drps n l)
 | .p t d=>.p t d
 | .pc e d=>.pc e d
 | .raw v=>.raw v
 | .ip t d=>.ip t d
 | .bp m path off=>.bp m path off
 | .fn f=>.fn f
 | .clo f ns=>.clo f ns
 | .mp n=>.mp n
 | .yl n=>.yl n
 | .top=>.top
def AV.drps (n:Nat):List AV->List AV
 | []=>[]
 | x :: r=>AV.drp n x :: AV.drps n r
end
def GJ (n:Nat):List (Nat×AV)->List (Nat×AV)
 | []=>[]
 | (s,x) :: r=>(s,x.drp n) :: GJ n r
def Bj (n:Nat):List (Nat×Obj)->List (Nat×Obj)
 | []=>[]
 | (m,.arr et a ys) :: r=>(m,.arr et a ys) :: Bj n r
 | (m,.box et st fs) :: r=>(m,.box et st (AV.drps n fs)) :: Bj n r
 | (m,.mapo k v l) :: r=>(m,.mapo k v l) :: Bj n r
 | (m,.nest et c k a ys h) :: r=>(m,.nest et c k a ys h) :: Bj n r
 | (m,.frame i fs) :: r=>(m,.frame i (GJ n fs)) :: Bj n r
 | (m,.loop L) :: r=>(m,.loop L) :: Bj n r
 | (m,.itr d g e f b) :: r=>(m,.itr d g e f b) :: Bj n r
 | (m,.dfr) :: r=>(m,.dfr) :: Bj n r
mutual
def AV.names:AV->List Nat
 | .sr m _ _ _=>[m]
 | .ag l=>AV.namess l
 | .tup l=>AV.namess l
 | .p _ _=>[]
 | .pc _ _=>[]
 | .raw _=>[]
 | .ip _ _=>[]
 | .bp _ _ _=>[]
 | .ep _ _ _ _ _=>[]
 | .nin _ _ _ _=>[]
 | .fn _=>[]
 | .clo _ _=>[]
 | .mp _=>[]
 | .yl _=>[]
 | .top=>[]
def AV.namess:List AV->List Nat
 | []=>[]
 | x :: r=>x.names++AV.namess r
end
def HN (σ:St):Option Operand->Option (Option AV)
 | none=>some none
 | some x=>(Aq σ x).map some
def FJ (σ:St) (e:Ty):Nat->List (Nat×Operand)->Option (List e.den)
 | _,[]=>some []
 | k,(i,x) :: r=>if i=k then match Aq σ x with
   | some av=>match NR false σ e av,FJ σ e (k+1) r with
    | some y,some ys=>some (y :: ys)
    | _,_=>none
   | none=>none
  else none
def KJ:AV->Bool
 | .p (.prod _ _) _=>false
 | .p _ _=>true
 | .raw u=>u.oneCell'
 | .ag _=>false
 | .tup _=>false
 | .top=>false
 | _=>true
def GK (σ:St):Option AV->Option AV->Option AV
 | some (.p t _),some (.ag l)=>(NR false σ t (.ag l)).map λd=>.p t d
 | _,x=>x
def EL (σ:St) (offs:List (Nat×Nat)):List AV->List (Nat×Operand)->Option (List AV)
 | fs,[]=>some fs
 | fs,(i,x) :: r=>match GK σ fs[i]? (Aq σ x) with
  | some av=>if KJ av=true/\(fs[i]?.map AV.cells)=some av.cells/\offs[i]?=some (CM fs i,av.cells) then EL σ offs (fs.set i av) r else none
  | none=>none
def Gg (l:Bool) (σ:St):(ts:List Ty)->List Operand->Option (KI ts)
 | [],[]=>some ()
 | t :: ts,x :: xs=>match Aq σ x with
  | some av=>match NR l σ t av,Gg l σ ts xs with
   | some y,some ys=>some (y,ys)
   | _,_=>none
  | none=>none
 | _,_=>none
def lO (name:Nat):RV->AV
 | .p t d=>.p t d
 | .own _ e xs=>.sr name e 0 xs.length
def VK (name:Nat):RV->List (Nat×Obj)
 | .p _ _=>[]
 | .own et e xs=>[(name,.arr et e xs)]
def Im:Nat->List RV->List AV
 | _,[]=>[]
 | n,r :: l=>lO n r :: Im (n+10000) l
def DB:Nat->List RV->List (Nat×Obj)
 | _,[]=>[]
 | n,r :: l=>VK n r++DB (n+10000) l
def Hy (name:Nat):List RV->AV
 | []=>.raw (.tuple #[])
 | [r]=>lO name r
 | l=>.tup (Im name l)
def Ii:(t:Ty)->t.den->t.den->Bool
 | .int _,a,b=>(a:Int)==b
 | .bool,a,b=>(a:Bool)==b
 | .str,a,b=>(a:ByteArray)==b
 | .prod t u,a,b=>Ii t a.1 b.1&&Ii u a.2 b.2
 | .agg t,a,b=>Ii t a b
 | .slice _,_,_=>false
 | .ref _,_,_=>false
def vF:Ty->Bool
 | .prod (.int _) (.int _)=>true
 | _=>false
def aG:Ty->Bool
 | .int _=>true
 | .bool=>true
 | .str=>true
 | .prod _ _=>false
 | .agg t=>vF t
 | .slice _=>false
 | .ref _=>false
def BX (a b:Ty) (k:a.den):List (a.den×b.den)->Option b.den
 | []=>none
 | x :: r=>if Ii a k x.1=true then some x.2 else BX a b k r
def Fh (a b:Ty) (k:a.den) (v:b.den):List (a.den×b.den)->List (a.den×b.den)
 | []=>[(k,v)]
 | x :: r=>if Ii a k x.1=true then (k,v) :: r else x :: Fh a b k v r
abbrev BZ:=Option (Prop×AV×List (Nat×Obj))
def JC (x:AV) (lo hi:Option AV):BZ :=
 match x,lo,hi with
 | .p (.slice e) l,none,some (.p (.int _) h)=>some (0<=h/\h<=l.length,.p (.slice e) (sub l 0 h.toNat),[])
 | .p (.slice e) l,some (.p (.int _) a),none=>some (0<=a/\a<=l.length,.p (.slice e) (sub l a.toNat l.length),[])
 | .p (.slice e) l,some (.p (.int _) a),some (.p (.int _) h)=>some (0<=a/\a<=h/\h<=l.length,.p (.slice e) (sub l a.toNat h.toNat),[])
 | .p .str s,none,some (.p (.int _) h)=>some (0<=h/\h<=s.size,.p .str (s.extract 0 h.toNat),[])
 | .p .str s,some (.p (.int _) a),none=>some (0<=a/\a<=s.size,.p .str (s.extract a.toNat s.size),[])
 | .p .str s,some (.p (.int _) a),some (.p (.int _) h)=>some (0<=a/\a<=h/\h<=s.size,.p .str (s.extract a.toNat h.toNat),[])
 | .sr n e b c,none,some (.p (.int _) h)=>some (0<=h/\h<=(c-b:Nat),.sr n e b (b+h.toNat),[])
 | .sr n e b c,some (.p (.int _) a),none=>some (0<=a/\a<=(c-b:Nat),.sr n e (b+a.toNat) c,[])
 | .sr n e b c,some (.p (.int _) a),some (.p (.int _) h)=>some (0<=a/\a<=h/\h<=(c-b:Nat),.sr n e (b+a.toNat) (b+h.toNat),[])
 | _,_,_=>none
def G9:Option AV->BZ
 | some v=>some (True,v,[])
 | none=>none
def LU:Option AV->Option AV->Option AV->BZ
 | some (.p .bool true),x,_=>G9 x
 | some (.p .bool false),_,y=>G9 y
 | _,_,_=>none
def LV (d:Nat) (t:TypeId):Option TI->BZ
 | some ⟨.agg u,_,_,_⟩=>some (True,.bp d [] 0,[(d,.box t true (zL u))])
 | some ⟨.int k,_,_,_⟩=>some (True,.bp d [] 0,[(d,.box t false [zK (.int k)])])
 | some ⟨.bool,_,_,_⟩=>some (True,.bp d [] 0,[(d,.box t false [zK .bool])])
 | some ⟨.str,_,_,_⟩=>some (True,.bp d [] 0,[(d,.box t false [zK .str])])
 | some ⟨.slice e,_,_,_⟩=>some (True,.bp d [] 0,[(d,.box t false [zK (.slice e)])])
 | some ⟨.ref k,_,_,_⟩=>some (True,.bp d [] 0,[(d,.box t false [zK (.ref k)])])
 | _=>none
def VL (d:Nat) (t:TypeId):Option TI->Option AV->BZ
 | some ⟨.agg u,_,_,_⟩,some (.p (.agg a) v)=>if u=a then some (True,.bp d [] 0,[(d,.box t true (pfs a v))]) else none
 | some ⟨.agg u,_,_,_⟩,some (.ag l)=>if l.map AV.cells=(zL u).map AV.cells then some (True,.bp d [] 0,[(d,.box t true l)]) else none
 | some ⟨.int k,_,_,_⟩,some v=>if Ca (.int k) v then some (True,.bp d [] 0,[(d,.box t false [v])]) else none
 | some ⟨.bool,_,_,_⟩,some v=>if Ca .bool v then some (True,.bp d [] 0,[(d,.box t false [v])]) else none
 | some ⟨.str,_,_,_⟩,some v=>if Ca .str v then some (True,.bp d [] 0,[(d,.box t false [v])]) else none
 | some ⟨.slice e,_,_,_⟩,some v=>if Ca (.slice e) v then some (True,.bp d [] 0,[(d,.box t false [v])]) else none
 | some ⟨.ref k,_,_,_⟩,some v=>if Ca (.ref k) v then some (True,.bp d [] 0,[(d,.box t false [v])]) else none
 | _,_=>none
def KK (σ:St) (parts:List (Nat×Operand)):Option TI->BZ
 | some ⟨.agg u,offs,_,_⟩=>G9 ((EL σ offs (zL u) parts).map AV.ag)
 | _=>none
def B3 (a:Bool) (d:Nat) (n:Nat) (el:TypeId) (e:Ty):Option (List e.den)->BZ
 | some xs=>some (xs.length=n/\n*e.size<=16777216,if a then .p (.slice e) xs else .sr d e 0 n,if a then [] else [(d,.arr el e xs)])
 | none=>none
def Bp (a:Bool) (σ:St) (d:Nat) (n:Nat) (parts:List (Nat×Operand)):Option TI->BZ
 | some ⟨.slice e,_,el,_⟩=>B3 a d n el e (FJ σ e 0 parts)
 | _=>none
def LX (d:Nat) (el b:TypeId) (n:Nat) (k e:Ty):Option k.den->AV->BZ
 | some a,.raw (.slice none 0 0)=>some (n=1/\k.size+1<=16777216,.sr d (.agg (.prod k (.slice e))) 0 1,[(d,.nest el b k e [(a,[])] none)])
 | some a,.pc c l=>if c=e then some ((n=1/\k.size+1<=16777216)/\List.length l=0,.sr d (.agg (.prod k (.slice e))) 0 1,[(d,.nest el b k e [(a,[])] none)]) else none
 | _,_=>none
def KL (σ:St) (d:Nat) (el a:TypeId) (n:Nat):Ty->Option AV->BZ
 | .agg (.prod k (.slice e)),some (.ag [x,y])=>LX d el a n k e (E3 false σ k x) y
 | _,_=>none
def KM (σ:St) (d:Nat) (a:TypeId) (n:Nat):List (Nat×Operand)->Option TI->BZ
 | [(0,x)],some ⟨.slice t,_,el,_⟩=>KL σ d el a n t (Aq σ x)
 | _,_=>none
def HT (tb:Tb) (σ:St) (d:Nat) (n:Nat) (parts:List (Nat×Operand)) (ti:Option TI):Option TypeId->BZ
 | some a=>KM σ d a n parts ti
 | none=>Bp (inB d tb.pure) σ d n parts ti
def KN (ty:Ty) (fs:List AV) (a:List Nat) (off:Nat):Option AV->BZ
 | some v=>if Ca ty v=true/\Q7 fs a=some off then some (True,v,[]) else none
 | none=>none
def Eu (ty:Ty) (a:List Nat) (off:Nat):Option Obj->BZ
 | some (.box _ st fs)=>KN ty fs a off (K7 st fs a)
 | _=>none
def KO (ty e:Ty) (a:List Nat) (off:Nat):Option PV->BZ
 | some ⟨t,d⟩=>if ty=t/\NQ a e=some off then some (True,.p t d,[]) else none
 | none=>none
def KP (ty e:Ty) (i:Nat) (a:List Nat) (off:Nat):Option (List e.den)->BZ
 | some ys=>KO ty e a off (VJ a e (ys.getD i e.dflt))
 | none=>none
def Q8 (n:Nat) (ty:Ty) (i off:Nat) (k e:Ty) (x:k.den×List e.den):List Nat->BZ
 | [0]=>if ty=k/\off=0 then some (True,.p k x.1,[]) else none
 | [1]=>if ty=.slice e/\off=k.size then some (True,.nin n e i x.2.length,[]) else none
 | _=>none
def Ew (n:Nat) (ty e:Ty) (i:Nat) (b:List Nat) (off:Nat):Option Obj->BZ
 | some (.arr _ a xs)=>KP ty e i b off (BQ (.slice e) ⟨.slice a,xs⟩)
 | some (.nest _ _ k a xs none)=>if e=.agg (.prod k (.slice a)) then Q8 n ty i off k a (xs.getD i (k.dflt,[])) b else none
 | _=>none
def K8 (σ:St):Option TI->Option AV->BZ
 | some ti,some (.bp n a off)=>Eu ti.ty a off (lk n σ.objs)
 | some ti,some (.ep n e i a off)=>Ew n ti.ty e i a off (lk n σ.objs)
 | some ti,some (.ip u v)=>if ti.ty=u then some (True,.p u v,[]) else none
 | _,_=>none
def KQ (o:Option (Nat×Nat)) (a:Option Nat):Option PV->BZ
 | some ⟨t,d⟩=>if o.map (·.1)=a then some (True,.ip t d,[]) else none
 | none=>none
def YI (v:Nat->AV):Option (Nat×Nat)->BZ
 | some (k,_)=>some (True,v k,[])
 | none=>none
def So (f:Nat) (o:Option (Nat×Nat)):AV->BZ
 | .bp n a off=>YI (λk=>.bp n (a++[f]) (off+k)) o
 | .ep n e i a off=>YI (λk=>.ep n e i (a++[f]) (off+k)) o
 | .ip (.agg u) v=>KQ o (LP u f) (HS u f v)
 | _=>none
def Hz (f:Nat):Option TI->Option AV->BZ
 | some ⟨.agg _,offs,0,_⟩,some x=>So f offs[f]? x
 | _,_=>none
def Mn (offs:List (Nat×Nat)) (x:AV):AV->BZ
 | .p (.int _) k=>if 0<=k then So k.toNat offs[k.toNat]? x else none
 | _=>none
def GL:Option TI->Option AV->Option AV->BZ
 | some ⟨.slice e,_,_,_⟩,some (.p (.slice a) l),some (.p (.int _) k)=>if e=a then some (0<=k/\k<l.length,.ip a (l.getD k.toNat a.dflt),[]) else none
 | some ⟨.slice e,_,_,_⟩,some (.sr n a lo hi),some (.p (.int _) k)=>if e=a then some (0<=k/\k<(hi-lo:Nat),.ep n a (lo+k.toNat) [] 0,[]) else none
 | some ⟨.agg _,offs,_+1,_⟩,some x,some i=>Mn offs x i
 | _,_,_=>none
def Ej:Option TI->Option AV->Option AV->BZ
 | some ⟨.str,_,_,_⟩,some (.p .str s),some (.p (.int _) k)=>some (0<=k/\k<s.size,.p (.int .u8) ((s.data.getD k.toNat 0).toNat:Int),[])
 | _,_,_=>none
def YJ:Option AV->BZ
 | some (.bp n a off)=>some (True,.bp n a off,[])
 | some (.ip t v)=>some (True,.ip t v,[])
 | some (.ep n e i a off)=>some (True,.ep n e i a off,[])
 | _=>none
def vH (a b:Bool):BinOp->BZ
 | .eql=>some (True,.p .bool (a==b),[])
 | .neq=>some (True,.p .bool (a != b),[])
 | _=>none
def VM:Option TI->Bool
 | some ⟨.bool,_,_,_⟩=>true
 | _=>false
def Tv (op:BinOp) (ti:Option TI):Option AV->Option AV->BZ
 | some (.p (.int k) a),some (.p (.int c) b)=>some ((bin op k a c b).1,(bin op k a c b).2,[])
 | some (.p .str a),some (.p .str b)=>some ((aF a b op).1,(aF a b op).2,[])
 | some (.p .bool a),some (.p .bool b)=>if VM ti=true then vH a b op else none
 | _,_=>none
def qUn:UnOp->Option AV->BZ
 | .not,some (.p .bool b)=>some (True,.p .bool (!b),[])
 | .neg,some (.p (.int k) a)=>some (KG k (0-a),.p (.int k) (0-a),[])
 | _,_=>none
def Sp (l:List Int):ByteArray:=⟨(l.map λx=>UInt8.ofNat x.toNat).toArray⟩
def K9:Option TI->Option TI->Option AV->BZ
 | some ⟨.int _,_,_,_⟩,some ⟨.int k,_,_,_⟩,some (.p (.int _) a)=>some (KG k a,.p (.int k) a,[])
 | some ⟨.slice (.int .u8),_,_,_⟩,some ⟨.str,_,_,_⟩,some (.p (.slice (.int .u8)) l)=>some (True,.p .str (Sp l),[])
 | _,_,_=>none
def OB (d:Nat) (el:TypeId) (e:Ty) (n m:Int):Option TI->BZ
 | some ti=>some (n=m/\0<=n/\n.toNat*ti.bytes<=AP,.sr d e 0 n.toNat,[(d,.arr el e (List.replicate n.toNat e.dflt))])
 | none=>none
def Jg (tb:Tb) (d:Nat):Option TI->Option AV->Option AV->BZ
 | some ⟨.slice e,_,el,_⟩,some (.p (.int .i64) n),some (.p (.int .i64) m)=>OB d el e n m (lk el tb.ty)
 | _,_,_=>none
def Fi:Option TI->Option AV->Option (Option AV)->Option (Option AV)->BZ
 | some ⟨.slice e,_,_,_⟩,some (.p (.slice d) l),some a,some h=>if e=d then JC (.p (.slice d) l) a h else none
 | some ⟨.slice e,_,_,_⟩,some (.sr n d b c),some a,some h=>if e=d then JC (.sr n d b c) a h else none
 | some ⟨.str,_,_,_⟩,some (.p .str s),some a,some h=>JC (.p .str s) a h
 | _,_,_,_=>none
def EM:Option TI->Option AV->Option AV->Option AV->BZ
 | some ⟨.slice e,_,_,_⟩,some (.p (.slice c) l),some (.p (.int _) a),some (.p (.int _) b)=>if e=c then some (a=(List.length l:Int)/\b=(List.length l:Int),.pc c l,[]) else none
 | _,_,_,_=>none
def E4 (i:Nat):Option AV->BZ
 | some (.tup l)=>G9 l[i]?
 | _=>none
def VN:Option TI->Option AV->BZ
 | some ⟨.slice _,_,_,_⟩,some (.p (.slice _) l)=>some (True,.p (.int .i64) (l.length:Int),[])
 | some ⟨.slice _,_,_,_⟩,some (.sr _ _ lo hi)=>some (True,.p (.int .i64) ((hi-lo:Nat):Int),[])
 | some ⟨.slice _,_,_,_⟩,some (.nin _ _ _ len)=>some (True,.p (.int .i64) (len:Int),[])
 | some ⟨.slice _,_,_,_⟩,some (.raw (.slice none 0 0))=>some (True,.p (.int .i64) (0:Int),[])
 | some ⟨.str,_,_,_⟩,some (.p .str s)=>some (True,.p (.int .i64) (s.size:Int),[])
 | _,_=>none
def Fj (d:Nat) (el:TypeId) (e:Ty):Option TI->Option (List e.den)->BZ
 | some ti,some ys=>some (ys.length*ti.bytes<=AP,.sr d e 0 ys.length,[(d,.arr el e ys)])
 | _,_=>none
def E5 (tb:Tb) (σ:St) (d:Nat) (v:AV):Option TI->BZ
 | some ⟨.slice e,_,el,_⟩=>Fj d el e (lk el tb.ty) (Q1 σ e v)
 | _=>none
def LY (d:Nat) (el:TypeId) (e:Ty) (l:List e.den):Option TI->Option (List e.den)->BZ
 | some ti,some ys=>some (0<ys.length/\(l.length+ys.length)*ti.bytes<=AP,.sr d e 0 (l.length+ys.length),[(d,.arr el e (l++ys))])
 | _,_=>none
def KR (tb:Tb) (σ:St) (d:Nat) (e:Ty) (l:List e.den) (v:AV):Option TI->BZ
 | some ⟨.slice a,_,el,_⟩=>if a=e then LY d el e l (lk el tb.ty) (Q1 σ e v) else none
 | _=>none
def Dg (tb:Tb) (σ:St) (d:Nat) (t u:TypeId):Option AV->Option AV->BZ
 | some (.raw (.slice none 0 0)),some v=>if t=u then E5 tb σ d v (lk t tb.ty) else none
 | some (.pc e l),some v=>if t=u then KR tb σ d e l v (lk t tb.ty) else none
 | _,_=>none
def Tw:Option AV->Option AV->BZ
 | some (.p (.int k) a),some (.p (.int c) b)=>if k=c then some (True,.p (.int k) (if b<a then b else a),[]) else none
 | _,_=>none
def Jh:Option AV->Option AV->Option AV->BZ
 | some (.p (.int k) a),some (.p (.int d) b),some (.p (.int e) c)=>if k=d/\k=e then some (True,.p (.int k) (if c<(if b<a then b else a) then c else (if b<a then b else a)),[]) else none
 | _,_,_=>none
def PM (k:IntKind) (a:Int):Option AV->Option Int
 | some (.p (.int c) b)=>if k=c then some (if b<a then b else a) else none
 | _=>none
def Fk (σ:St) (k:IntKind):Option Int->List Operand->Option Int
 | some a,x :: r=>Fk σ k (PM k a (Aq σ x)) r
 | o,_=>o
def Sq (k:IntKind):Option Int->BZ
 | some m=>some (True,.p (.int k) m,[])
 | none=>none
def PN (σ:St) (r:List Operand):Option AV->BZ
 | some (.p (.int k) a)=>Sq k (Fk σ k (some a) r)
 | _=>none
def Tx:Option AV->Option AV->BZ
 | some (.p (.int k) a),some (.p (.int c) b)=>if k=c then some (True,.p (.int k) (if a<b then b else a),[]) else none
 | _,_=>none
def LZ (d:Nat) (sp:Ab):Option (KI sp.ins)->BZ
 | some ds=>if sp.lend=false\/(sp.out ds).all RV.flat=true then some (sp.pre ds,Hy d (sp.out ds),DB d (sp.out ds)) else none
 | none=>none
def KS (σ:St) (d:Nat) (xs:List Operand):Option Ab->BZ
 | some sp=>LZ d sp (Gg sp.lend σ sp.ins xs)
 | none=>none
def Na (tb:Tb) (σ:St) (d:Nat) (xs:List Operand):Option AV->BZ
 | some (.fn f)=>KS σ d xs (lk f tb.fns)
 | _=>none
def E6 (tb:Tb) (σ:St) (d:Nat):Builtin->List Operand->List TypeId->BZ
 | .len,[x],[t]=>VN (lk t tb.ty) (Aq σ x)
 | .append,[x,y],[t,u]=>Dg tb σ d t u (Aq σ x) (Aq σ y)
 | .min,[x,y],[_,_]=>Tw (Aq σ x) (Aq σ y)
 | .max,[x,y],[_,_]=>Tx (Aq σ x) (Aq σ y)
 | .min,[x,y,z],[_,_,_]=>Jh (Aq σ x) (Aq σ y) (Aq σ z)
 | .min,x :: y :: z :: u :: r,_=>PN σ (y :: z :: u :: r) (Aq σ x)
 | _,_,_=>none
def Io (σ:St):List Operand->Option (List Nat)
 | []=>some []
 | x :: r=>match Aq σ x,Io σ r with
  | some (.bp n [] 0),some ns=>some (n :: ns)
  | _,_=>none
def Sr (f:FuncId):Option (List Nat)->BZ
 | some ns=>some (True,.clo f ns,[])
 | none=>none
def eC (σ:St) (fn:Fn) (first a:List Operand):BZ :=
 match fn,first with
 | .func f,[]=>Sr f (Io σ a)
 | _,_=>none
def Hm (d:Nat):Option TI->Option TI->BZ
 | some a,some te=>some (True,.mp d,[(d,.mapo a.ty te.ty [])])
 | _,_=>none
def Hn (tb:Tb) (d:Nat):List (Nat×Nat)->BZ
 | [(k,e)]=>Hm d (lk k tb.ty) (lk e tb.ty)
 | _=>none
def Gh (tb:Tb) (d:Nat):Option TI->BZ
 | some ⟨.ref 2,offs,_,_⟩=>Hn tb d offs
 | _=>none
def OC (a:Ty) (ok:Bool) (r:Option a.den):BZ :=
 if ok then some (True,.tup [.p a (r.getD a.dflt),.p .bool r.isSome],[]) else some (True,.p a (r.getD a.dflt),[])
def La (a b:Ty) (l:List (a.den×b.den)) (ok:Bool):Option a.den->BZ
 | some k=>if aG a=true then OC b ok (BX a b k l) else none
 | none=>none
def JD (tb:Tb) (σ:St) (b d:Nat) (x:AV) (ok:Bool):Option Obj->BZ
 | some (.mapo a c l)=>if (lk b tb.ty).map TI.ty=some a/\(lk b tb.ty).map TI.el=some 0/\(lk d tb.ty).map TI.ty=some c then La a c l ok (NR false σ a x) else none
 | _=>none
def Ji (tb:Tb) (σ:St) (ok:Bool):Option TI->Option AV->Option AV->BZ
 | some ⟨.ref 2,[(k,e)],_,_⟩,some (.mp n),some x=>JD tb σ k e x ok (lk n σ.objs)
 | _,_,_=>none
def EO (tb:Tb) (σ:St) (d:Nat) (xs:List Operand) (ts:List TypeId):Callee->BZ
 | .builtin b=>E6 tb σ d b xs ts
 | .value g=>Na tb σ d xs (Aq σ g)
 | _=>none
def aq (tb:Tb) (σ:St) (d:Nat):Op->BZ
 | .move x=>G9 (Aq σ x)
 | .assign x=>G9 (Aq σ x)
 | .pick c x y=>LU (Aq σ c) (Aq σ x) (Aq σ y)
 | .alloc t=>LV d t (lk t tb.ty)
 | .box t x=>VL d t (lk t tb.ty) (Aq σ x)
 | .build t parts=>KK σ parts.toList (lk t tb.ty)
 | .buildSlice t n parts=>HT tb σ d n parts.toList (lk t tb.ty) (lk d tb.nests)
 | .load t x=>K8 σ (lk t tb.ty) (Aq σ x)
 | .fieldAddr s x f=>Hz f (lk s tb.ty) (Aq σ x)
 | .indexAddr t x i=>GL (lk t tb.ty) (Aq σ x) (Aq σ i)
 | .index t x i=>Ej (lk t tb.ty) (Aq σ x) (Aq σ i)
 | .nilCheck x=>YJ (Aq σ x)
 | .binOp op t x y _=>Tv op (lk t tb.ty) (Aq σ x) (Aq σ y)
 | .unOp op _ x=>qUn op (Aq σ x)
 | .convert s t x=>K9 (lk s tb.ty) (lk t tb.ty) (Aq σ x)
 | .makeSlice t l c=>Jg tb d (lk t tb.ty) (Aq σ l) (Aq σ c)
 | .slice t x none (some hi) (some b)=>EM (lk t tb.ty) (Aq σ x) (Aq σ hi) (Aq σ b)
 | .slice t x lo hi none=>Fi (lk t tb.ty) (Aq σ x) (HN σ lo) (HN σ hi)
 | .extract x i=>E4 i (Aq σ x)
 | .call c=>EO tb σ d c.args.toList c.argTypes.toList c.callee
 | .makeFunc fn first a=>eC σ fn first.toList a.toList
 | .makeMap t none=>Gh tb d (lk t tb.ty)
 | .lookup t x i ok=>Ji tb σ ok (lk t tb.ty) (Aq σ x) (Aq σ i)
 | _=>none
def Ss:AV->Bool
 | .ag _=>false
 | _=>true
def Lb (st:Bool) (fs:List AV) (v:AV):List Nat->Option (List AV)
 | []=>if st then match v with
   | .p (.agg u) d=>some (pfs u d)
   | .ag l=>some l
   | _=>none
  else if Ss v then some [v] else none
 | [k]=>if st&&Ss v then some (fs.set k v) else none
 | k :: r=>if st then match fs[k]?,v with
   | some (.p t d),.p u x=>(YH r t d ⟨u,x⟩).map λy=>fs.set k (.p t y)
   | _,_=>none
  else none
abbrev Cz:=Option (Prop×St)
def Fl (σ:St) (n:Nat) (et:TypeId) (st:Bool) (ty:Ty) (fs:List AV) (b:List Nat) (off:Nat) (v:AV):Option AV->Option (List AV)->Cz
 | some u,some a=>if PK ty u=true/\Ca ty v=true/\Q7 fs b=some off/\a.map AV.cells=fs.map AV.cells then some (True,⟨σ.env,upd n (.box et st a) σ.objs⟩) else none
 | _,_=>none
def Dh (σ:St) (n:Nat) (ty:Ty) (a:List Nat) (off:Nat) (v:AV):Option Obj->Cz
 | some (.box et st fs)=>Fl σ n et st ty fs a off v (K7 st fs a) (Lb st fs v a)
 | _=>none
def Gi (σ:St) (n:Nat) (et:TypeId) (e:Ty) (i:Nat) (a:List Nat) (off:Nat) (ys:List e.den):Option e.den->Cz
 | some z=>if NQ a e=some off then some (True,⟨σ.env,upd n (.arr et e (ys.set i z)) σ.objs⟩) else none
 | none=>none
def E7 (σ:St) (n:Nat) (et:TypeId) (ty e:Ty) (i:Nat) (a:List Nat) (off:Nat):Option (List e.den)->Option ty.den->Cz
 | some ys,some w=>Gi σ n et e i a off ys (YH a e (ys.getD i e.dflt) ⟨ty,w⟩)
 | _,_=>none
def PO (σ:St) (d n:Nat) (et a:TypeId) (k e:Ty) (xs:List (k.den×List e.den)) (i bytes:Nat):Option (List e.den)->Cz
 | some ys=>if (lk d σ.objs).isNone=true/\ys.isEmpty=false then some (((xs.getD i (k.dflt,[])).2.length+ys.length)*bytes<=AP,
   ⟨(d,.sr d e 0 ((xs.getD i (k.dflt,[])).2.length+ys.length)) :: FI n [] σ.env,(d,.arr a e ((xs.getD i (k.dflt,[])).2++ys)) :: (n,.nest et a k e xs (some i)) :: DT n [] σ.objs⟩) else none
 | none=>none
def VO (σ:St) (d n:Nat) (el:TypeId) (b:Ty) (i:Nat) (v:AV):Option TI->Option Obj->Cz
 | some ti,some (.nest et a k e xs none)=>if b=e/\a=el/\G8 n=false then PO σ d n et a k e xs i ti.bytes (Q1 σ e v) else none
 | _,_=>none
def Su (tb:Tb) (σ:St) (d n:Nat) (a:Ty) (i:Nat) (v:AV):Option TI->Cz
 | some ⟨.slice e,_,el,_⟩=>if a=e then VO σ d n el e i v (lk el tb.ty) (lk n σ.objs) else none
 | _=>none
def Lc (σ:St) (n m:Nat) (et a:TypeId) (k e:Ty) (xs:List (k.den×List e.den)) (i hi:Nat):Option (List e.den)->Cz
 | some ys=>some (hi=ys.length,⟨FI n [m] σ.env,(n,.nest et a k e (xs.set i ((xs.getD i (k.dflt,[])).1,ys)) none) :: DT n [m] σ.objs⟩)
 | none=>none
def OD (σ:St) (n m:Nat) (et a:TypeId) (k e:Ty) (xs:List (k.den×List e.den)) (i hi:Nat):Option Obj->Cz
 | some (.arr b e2 ys)=>if b=a/\G8 m=false/\G8 n=false then Lc σ n m et a k e xs i hi (BQ (.slice e) ⟨.slice e2,ys⟩) else none
 | _=>none
def Ld (σ:St) (d n m:Nat) (et b:TypeId) (k e:Ty) (hi a bytes:Nat) (xs:List (k.den×List e.den)):Option (List (k.den×List e.den))->Cz
 | some ys=>some (hi=xs.length/\a=ys.length/\(xs.length+ys.length)*bytes<=AP,
   ⟨(d,.sr n (.agg (.prod k (.slice e))) 0 (xs.length+ys.length)) :: CU [n,m] σ.env,(n,.nest et b k e (xs++ys) none) :: Ay [n,m] [n,m] σ.objs⟩)
 | none=>none
def OE (σ:St) (d n m:Nat) (et a:TypeId) (k e:Ty) (hi c bytes:Nat) (xs:List (k.den×List e.den)):Option Obj->Cz
 | some (.nest _ f g b ys none)=>if f=a/\n≠m/\G8 m=false then Ld σ d n m et a k e hi c bytes xs (BQ (.slice (.agg (.prod k (.slice e)))) ⟨.slice (.agg (.prod g (.slice b))),ys⟩) else none
 | _=>none
def VP (σ:St) (d n:Nat) (et b:TypeId) (k e:Ty) (hi bytes:Nat) (xs:List (k.den×List e.den)):AV->Cz
 | .sr m _ 0 a=>OE σ d n m et b k e hi a bytes xs (lk m σ.objs)
 | _=>none
def Sv (σ:St) (d m:Nat) (el b:TypeId) (k e:Ty) (ys:List (k.den×List e.den)) (a bytes:Nat):Cz :=
 if (lk d σ.objs).isNone=true/\G8 m=false then some (a=ys.length/\ys.length*bytes<=AP,
  ⟨(d,.sr d (.agg (.prod k (.slice e))) 0 ys.length) :: CU [m] σ.env,(d,.nest el b k e ys none) :: Ay [m] [m] σ.objs⟩) else none
def Sw (σ:St) (d m:Nat) (el:TypeId) (t:Ty) (a:Nat):Option TI->Option Obj->Cz
 | some ti,some (.nest _ b k e ys none)=>if t=.agg (.prod k (.slice e)) then Sv σ d m el b k e ys a ti.bytes else none
 | _,_=>none
def eD (tb:Tb) (σ:St) (d:Nat):AV->Option TI->Cz
 | .sr m _ 0 a,some ⟨.slice t,_,el,_⟩=>Sw σ d m el t a (lk el tb.ty) (lk m σ.objs)
 | _,_=>none
def OG (σ:St) (n m:Nat) (ty:Ty) (et a:TypeId) (k e:Ty) (xs:List (k.den×List e.den)) (i hi:Nat) (b:List Nat) (off:Nat):Cz :=
 if ty=.slice e/\b=[1]/\off=k.size then OD σ n m et a k e xs i hi (lk m σ.objs) else none
def Di (σ:St) (n:Nat) (ty e:Ty) (i:Nat) (b:List Nat) (off:Nat) (v:AV):Option Obj->Cz
 | some (.arr et a xs)=>E7 σ n et ty e i b off (BQ (.slice e) ⟨.slice a,xs⟩) (NR false σ ty v)
 | some (.nest et c k a xs (some j))=>match v with
  | .sr m E 0 hi=>if e=.agg (.prod k (.slice a))/\i=j/\E=a then OG σ n m ty et c k a xs i hi b off else none
  | _=>none
 | _=>none
def JE (σ:St):Option TI->Option AV->Option AV->Cz
 | some ti,some (.bp n a off),some v=>Dh σ n ti.ty a off v (lk n σ.objs)
 | some ti,some (.ep n e i a off),some v=>Di σ n ti.ty e i a off v (lk n σ.objs)
 | _,_,_=>none
def Fm (σ:St) (d n:Nat) (et:TypeId) (e:Ty) (hi:Nat) (bytes:Nat):Option (List e.den)->Option (List e.den)->Cz
 | some a,some ys=>some ((hi+ys.length)*bytes<=AP,⟨(d,.sr n e 0 (hi+ys.length)) :: GJ n σ.env,upd n (.arr et e (a.take hi++ys)) (Bj n σ.objs)⟩)
 | _,_=>none
def Ck (σ:St) (d n:Nat) (el:TypeId) (e:Ty) (hi:Nat) (v:AV) (ys:Option (List e.den)):Option TI->Option Obj->Cz
 | some ti,some (.arr et a xs)=>if et=el then Fm σ d n et e hi ti.bytes (BQ (.slice e) ⟨.slice a,xs⟩) ys else none
 | some ti,some (.nest et b k a xs none)=>if et=el/\e=.agg (.prod k (.slice a)) then VP σ d n et b k a hi ti.bytes xs v else none
 | _,_=>none
def E8 (tb:Tb) (σ:St) (d:Nat) (n:Nat) (a:Ty) (hi:Nat) (v:AV):Option TI->Cz
 | some ⟨.slice e,_,el,_⟩=>if e=a then Ck σ d n el e hi v (Q1 σ e v) (lk el tb.ty) (lk n σ.objs) else none
 | _=>none
def Ek (tb:Tb) (σ:St) (d:Option Nat) (t u:TypeId):Option AV->Option AV->Cz
 | some (.sr n e 0 hi),some v=>match d with
  | some d=>if t=u/\G8 n=false then E8 tb σ d n e hi v (lk t tb.ty) else none
  | none=>none
 | some (.nin n e i _),some v=>match d with
  | some d=>if t=u then Su tb σ d n e i v (lk t tb.ty) else none
  | none=>none
 | some (.raw (.slice none 0 0)),some v=>match d with
  | some d=>if t=u then eD tb σ d v (lk t tb.ty) else none
  | none=>none
 | _,_=>none
def E9 (tb:Tb) (σ:St) (d:Option Nat):Builtin->List Operand->List TypeId->Cz
 | .append,[x,y],[t,u]=>Ek tb σ d t u (Aq σ x) (Aq σ y)
 | _,_,_=>none
def EP (tb:Tb) (σ:St) (d:Option Nat) (xs:List Operand) (ts:List TypeId):Callee->Cz
 | .builtin b=>E9 tb σ d b xs ts
 | _=>none
def HV (σ:St) (n:Nat) (a b:Ty) (l:List (a.den×b.den)):Option a.den->Option b.den->Cz
 | some k,some v=>if aG a=true then some (True,⟨σ.env,upd n (.mapo a b (Fh a b k v l)) σ.objs⟩) else none
 | _,_=>none
def Ge (tb:Tb) (σ:St) (n:Nat) (b:Nat) (x y:AV):Option Obj->Cz
 | some (.mapo a c l)=>if (lk b tb.ty).map TI.ty=some a/\(lk b tb.ty).map TI.el=some 0 then HV σ n a c l (NR false σ a x) (NR false σ c y) else none
 | _=>none
def Le (tb:Tb) (σ:St):Option TI->Option AV->Option AV->Option AV->Cz
 | some ⟨.ref 2,[(k,_)],_,_⟩,some (.mp n),some x,some y=>Ge tb σ n k x y (lk n σ.objs)
 | _,_,_,_=>none
def ER (r:Cz):Option Nat->Cz
 | none=>r
 | some _=>none
def H0 (tb:Tb) (σ:St) (d:Option Nat):Op->Cz
 | .store t x y=>ER (JE σ (lk t tb.ty) (Aq σ x) (Aq σ y)) d
 | .mapUpdate t m x y=>ER (Le tb σ (lk t tb.ty) (Aq σ m) (Aq σ x) (Aq σ y)) d
 | .call c=>EP tb σ d c.args.toList c.argTypes.toList c.callee
 | _=>none
def St.add (σ:St) (v:AV) (obs:List (Nat×Obj)):Option Nat->St
 | some d=>⟨(d,v) :: σ.env,obs++σ.objs⟩
 | none=>⟨σ.env,obs++σ.objs⟩
def PP:Option AV->List Nat
 | some v=>v.names
 | none=>[]
def Dj (σ:St):List (Nat×Operand)->List Nat
 | []=>[]
 | (_,x) :: r=>PP (Aq σ x)++Dj σ r
def PQ:Option AV->List Nat
 | some (.ag l)=>AV.namess l
 | _=>[]
def Fq (σ:St):List (Nat×Operand)->List Nat
 | []=>[]
 | (_,x) :: r=>PQ (Aq σ x)++Fq σ r
def DM (σ:St):Option AV->Option AV->List Nat
 | some (.ep n _ _ _ _),some v=>if DA (lk n σ.objs)=true then [] else v.names
 | _,_=>[]
def Lf:Option AV->Option AV->Option AV->List Nat
 | some (.mp _),some v,some u=>v.names++u.names
 | _,_,_=>[]
def DU (σ:St):Op->List Nat
 | .buildSlice _ _ parts=>Dj σ parts.toList
 | .build _ parts=>Fq σ parts.toList
 | .store _ x y=>DM σ (Aq σ x) (Aq σ y)
 | .mapUpdate _ m x y=>Lf (Aq σ m) (Aq σ x) (Aq σ y)
 | _=>[]
def DN:List Nat->St->St
 | [],σ=>σ
 | n :: r,σ=>DN r (frz n σ)
def Bg (obs:List (Nat×Obj)) (σ:St):Bool:=obs.all λp=>(lk p.1 σ.objs).isNone
def PR (tb:Tb) (σ:St) (o:Oper):BZ->Cz
 | some (vc,v,obs)=>if Bg obs σ=true then some (vc,σ.add v obs o.dst) else none
 | none=>H0 tb σ o.dst o.op
def VQ (tb:Tb) (o:Oper) (σ:St):Cz:=PR tb σ o (aq tb σ (o.dst.getD 0) o.op)
def Ip (tb:Tb) (o:Oper) (σ:St):Cz:=VQ tb o (DN (DU σ o.op) σ)
def Q9 (a:Bool):Option AV->Option Bool
 | some (.p .bool b)=>some (b==a)
 | _=>none
def Lg (σ:St) (a:Bool):Option Tmp->Option Bool
 | some g=>Q9 a (lk g σ.env)
 | none=>none
def FF (ops:List Oper) (σ:St):Option (Nat×Bool)->Option Bool
 | none=>some true
 | some (j,a)=>Lg σ a ((ops[j]?).bind (·.dst))
def YK (vc:Prop):Cz->Cz
 | some (a,σ)=>some (vc/\a,σ)
 | none=>none
mutual
def B1 (tb:Tb) (ops:List Oper):List Oper->St->Cz
 | [],σ=>some (True,σ)
 | o :: r,σ=>evG tb ops o r σ (FF ops σ o.guard)
def evG (tb:Tb) (ops:List Oper) (o:Oper) (r:List Oper) (σ:St):Option Bool->Cz
 | some true=>evK tb ops r (Ip tb o σ)
 | some false=>B1 tb ops r (σ.add (.raw undef) [] o.dst)
 | none=>none
def evK (tb:Tb) (ops:List Oper) (r:List Oper):Cz->Cz
 | some (vc,σ)=>YK vc (B1 tb ops r σ)
 | none=>none
end
end
section
open Go Go.RowKit
theorem CJ {w:World} {b:Nat} {o:_root_.Go.Obj} (h:w.heap[b]?=some o):b<w.heap.size:=by grind
def blk:Value->Option Nat
 | .slice (some a) _ _=>some a.block
 | .pointer (some a)=>some a.block
 | .map (some b)=>some b
 | _=>none
def bk (v:Value) (b:Nat):Prop:=blk v=some b\/∃a:Array Value,v=.tuple a/\∃x∈a.toList,blk x=some b
theorem Lh {a:Option Addr} {m c b:Nat}:bk (.slice a m c) b↔blk (.slice a m c)=some b:=by
 constructor
 .intro h;rcases h with h|⟨_,h,_⟩
  .exact h
  cases h
 exact .inl
def plc:Value->Value
 | .tuple a=>a.getD 0 undef
 | v=>v
def DP (loc:Value) (sz lo hi:Nat) (v:Value):Prop :=
 ∃(a:Option Addr) (m c:Nat),loc=.slice a m c/\lo<=hi/\hi<=m/\∃(b:Option Addr) (d:Nat),v=.slice b (hi-lo) d/\hi-lo<=d/\(lo=0->b=a/\d=c)/\(lo<hi->b=a.map (·.add (lo*sz)))
structure Vw where
 w:World
 
 O:Nat->Prop
 
 L:Nat->Prop
 
 ρ:Nat->Value
def Lay (u v:Value):Prop:=v=u\/(u=.slice none 0 0/\∃a:Option Addr,v=.slice a 0 0)
def VR (V:Vw):AV->Value->Prop
 | .p t d,v=>BV V.w V.O t v d
 | .pc e d,v=>BV V.w V.O (.slice e) v d/\∃a:Option Addr,v=.slice a (List.length d) (List.length d)
 | .raw u,v=>v=u
 | .sr n e lo hi,v=>V.L n/\DP (plc (V.ρ n)) e.size lo hi v
 | .ep n e i _ off,v=>V.L n/\∃g m c:Nat,plc (V.ρ n)=.slice (some ⟨g,0,none⟩) m c/\i<m/\v=.pointer (some ⟨g,i*e.size+off,none⟩)
 | .nin n _ i len,v=>V.L n/\∃(h:Array Value) (a:Option Addr) (c:Nat) (u:Value),V.ρ n=.tuple h/\h[i+1]?=some u/\Lay u v/\v=.slice a len c
 | .ip t d,v=>∃(ad:Addr) (cs:List Value),v=.pointer (some ad)/\¬V.O ad.block/\(∀(j:Nat) (u:Value),cs[j]?=some u->V.w.cell? (ad.add j)=some u)/\Bx V.w V.O t cs d
 | .bp n _ off,v=>V.L n/\∃b:Nat,V.ρ n=.pointer (some ⟨b,0,none⟩)/\v=.pointer (some ⟨b,off,none⟩)
 | .fn f,v=>v=.func (.func f) #[] #[]
 | .clo f ns,v=>v=.func (.func f) #[] (ns.map V.ρ).toArray/\∀n∈ns,V.L n/\∃b:Nat,V.ρ n=.pointer (some ⟨b,0,none⟩)
 | .mp n,v=>V.L n/\∃b:Nat,V.ρ n=.map (some b)/\v=.map (some b)
 | .yl n,v=>V.L n/\∃b:Nat,V.ρ n=.pointer (some ⟨b,0,none⟩)/\v=.func (.yield b) #[] #[]
 | .top,_=>True
 | .ag _,_=>False
 | .tup _,_=>False
def NS (V:Vw):AV->List Value->Prop
 | .p t d,cs=>Bx V.w V.O t cs d
 | av,cs=>∃v,cs=[v]/\v.oneCell'=true/\VR V av v
def DX (V:Vw):List AV->List Value->Prop
 | [],cs=>cs=[]
 | x :: r,cs=>∃c1 c2:List Value,cs=c1++c2/\NS V x c1/\DX V r c2
def Sx (V:Vw):AV->Value->Prop
 | .ag l,v=>∃cs:List Value,v=.agg cs.toArray/\DX V l cs
 | x,v=>VR V x v
def H5 (V:Vw):List AV->List Value->Prop
 | [],a=>a=[]
 | x :: r,a=>∃(v:Value) (l:List Value),a=v :: l/\Sx V x v/\H5 V r l
theorem Sx.of1 {V:Vw} {x:AV} {v:Value} (h:VR V x v):Sx V x v:=by
 cases x;case ag l=>exact h.elim
 all_goals exact h
def B2 (V:Vw):AV->Value->Prop
 | .ag l,v=>∃cs:List Value,v=.agg cs.toArray/\DX V l cs
 | .tup l,v=>∃a:List Value,v=.tuple a.toArray/\H5 V l a
 | av,v=>VR V av v
theorem zS {V:Vw} {x:AV} {v:Value} (h:Sx V x v):B2 V x v:=by
 cases x;case tup l=>exact(show False from h).elim
 all_goals exact h
def De (w:World) (O:Nat->Prop) (e:Ty) (cells:List Value) (xs:List e.den):Prop :=
 ∀(i:Nat) (x:e.den),xs[i]?=some x->∃a:List Value,a.length=e.size/\(∀(j:Nat) (u:Value),a[j]?=some u->cells[i*e.size+j]?=some u)/\Bx w O e a x
def OH (w:World) (O:Nat->Prop) (k v:Ty):List MapEntry->List (k.den×v.den)->Prop
 | [],[]=>True
 | e :: a,x :: xs=>BV w O k e.key x.1/\BV w O v e.val x.2/\OH w O k v a xs
 | _,_=>False
def aH (a:Array MapEntry) (clock:Nat):Prop:=(a.toList.map (·.born)).Nodup/\∀b∈a.toList.map (·.born),b<clock
def RB (V:Vw) (et:TypeId) (e:Ty) (xs:List e.den) (loc:Value):Prop:=xs.length<=AP/\∃cells:List Value,V.w.ownsRow 0 et e.size loc xs.length cells/\De V.w V.O e cells xs
def aI (V:Vw) (a:TypeId) (k e:Ty) (hole:Bool) (cells:List Value) (i:Nat) (x:k.den×List e.den) (u:Value):Prop :=
 ∃(c1:List Value) (v:Value),(∀(j:Nat) (z:Value),(c1++[v])[j]?=some z->cells[i*(k.size+1)+j]?=some z)/\Bx V.w V.O k c1 x.1 /\
  ((hole=true/\u=.slice none 0 0)\/(hole=false/\Lay u v/\RB V a e x.2 u))
structure LA (V:Vw) (et iet:TypeId) (k e:Ty) (xs:List (k.den×List e.den)) (h:Option Nat) (o:Value) (ins:List Value) (cells:List Value):Prop where
 max:xs.length<=AP
 len:ins.length=xs.length
 own:V.w.ownsRow 0 et (k.size+1) o xs.length cells
 row:∀(i:Nat) (x:k.den×List e.den) (u:Value),xs[i]?=some x->ins[i]?=some u->aI V iet k e (h==some i) cells i x u
 dist:∀(i j b:Nat) (u v:Value),ins[i]?=some u->ins[j]?=some v->blk u=some b->blk v=some b->i=j
 out:∀(i b:Nat) (u:Value),ins[i]?=some u->blk u=some b->blk o≠some b
def Shp (loc o:Value) (ins:List Value):Prop:=loc=.tuple (o :: ins).toArray\/(loc=.slice none 0 0/\o=.slice none 0 0/\ins=[])
def A9r (V:Vw) (k v:Ty) (l:List (k.den×v.den)) (left:List Nat) (d:Option Nat) (r:Nat):Prop :=
 ∃(b:Nat) (a:Array MapEntry) (clock c:Nat) (seen:Array Nat),V.w.heap[r]?=some (.mapIter (some b) c seen clock)/\¬V.O b/\V.w.heap[b]?=some (.map a clock)/\OH V.w V.O k v a.toList l/\aH a clock /\
  (∀s∈a.toList.map (·.born),s<c)/\c<=clock/\left.Nodup/\(∀i,i∈left↔∃e,a[i]?=some e/\e.born∉seen)/\(∀i,d=some i->∃e,a[i]?=some e/\seen.back?=some e.born)
def A5 (V:Vw):Obj->Value->Prop
 | .arr et e xs,loc=>RB V et e xs loc
 | .nest et d k e xs h,loc=>∃(o:Value) (ins cells:List Value),Shp loc o ins/\LA V et d k e xs h o ins cells
 | .box et st fs,loc=>(st=false->fs.length=1)/\∃(b:Nat) (cs:List Value),loc=.pointer (some ⟨b,0,none⟩)/\V.w.heap[b]?=some (.cells cs.toArray et (0,0))/\DX V fs cs
 | .mapo k v l,loc=>∃(b:Nat) (a:Array MapEntry) (clock:Nat),loc=.map (some b)/\V.w.heap[b]?=some (.map a clock)/\OH V.w V.O k v a.toList l/\aH a clock
 | .frame f fs,loc=>loc=.pointer none/\∀s x,lk s fs=some x->B2 V x (f.getD s undef)
 | .itr k v l left c,loc=>∃r:Nat,loc=.pointer (some ⟨r,0,none⟩)/\A9r V k v l left c r
 | .loop L,loc=>∃b:Nat,loc=.pointer (some ⟨b,0,none⟩)/\V.w.heap[b]?=some (.loop L)
 | .dfr,loc=>∃b:Nat,loc=.pointer (some ⟨b,0,none⟩)/\V.w.heap[b]?=some (.deferred (some []))
structure Frm (K:Nat->Prop) (w0 w:World):Prop where
 os:w.os=w0.os
 tape:w.tape=w0.tape
 output:w.output=w0.output
 size:w0.heap.size<=w.heap.size
 block:∀k,K k->w.heap[k]?=w0.heap[k]?
def Gz (σ:St) (n:Nat):Prop:=∃o,lk n σ.objs=some o
def own (O0:Nat->Prop) (σ:St) (ρ:Nat->Value) (b:Nat):Prop:=O0 b\/∃n,Gz σ n/\bk (ρ n) b
def vw (w:World) (O0:Nat->Prop) (σ:St) (ρ:Nat->Value):Vw:=⟨w,own O0 σ ρ,Gz σ,ρ⟩
def A6F:Value->Bool
 | .slice _ _ _=>false
 | .tuple _=>false
 | _=>true
structure Fp where
 ds:List Deferred:=[]
 pin:List (Nat×Value):=[]
structure CA (w0:World) (K O0:Nat->Prop) (nt:Nat) (ds:Fp) (σ:St) (ρ:Nat->Value) (a:Act) (w:World):Prop where
 frm:Frm K w0 w
 nt:a.tmps.size=nt
 defers:a.defers=ds.ds
 pin:∀p∈ds.pin,Gz σ p.1/\ρ p.1=p.2/\(A6F p.2=true\/G8 p.1=true)
 objs:∀n o,lk n σ.objs=some o->A5 (vw w O0 σ ρ) o (ρ n)
 free:∀n b,Gz σ n->bk (ρ n) b->¬K b/\¬O0 b
 dist:∀n m b,Gz σ n->Gz σ m->bk (ρ n) b->bk (ρ m) b->n=m
 env:∀s v,lk s σ.env=some v->B2 (vw w O0 σ ρ) v (a.tmps.getD s undef)
structure Cl (V V':Vw):Prop where
 O:∀b,b<V.w.heap.size->¬V.O b->¬V'.O b
 L:∀n,V.L n->V'.L n
 ρ:∀n,V.L n->V'.ρ n=V.ρ n
 heap:∀b,b<V.w.heap.size->¬V.O b->V'.w.heap[b]?=V.w.heap[b]?
theorem VR.keeps {V V':Vw} (h:Cl V V'):∀ {x:AV} {v:Value},VR V x v->VR V' x v
 | .p _ _,_,hx=>BV.mono h.O h.heap hx
 | .pc _ _,_,hx=>⟨BV.mono h.O h.heap hx.1,hx.2⟩
 | .raw _,_,hx=>hx
 | .sr n e lo hi,_,⟨a,hs⟩=>⟨h.L n a,by rw[h.ρ n a];exact hs⟩
 | .ep n e i _ off,_,⟨a,hs⟩=>⟨h.L n a,by rw[h.ρ n a];exact hs⟩
 | .nin n _ i len,_,⟨a,hs⟩=>⟨h.L n a,by rw[h.ρ n a];exact hs⟩
 | .ip t d,_,⟨ad,cs,b,c,g,l⟩=>by
  have k:ad.block<V.w.heap.size:=by
   have o:=t.size_pos;have hl:=l.length;have:=block_lt_of_cell (g 0 (cs[0]'(by omega)) (AT oa))
   rwa [CH]at this
  refine⟨ad,cs,b,h.O _ k c,λj u m=>?_,Bx.mono h.O h.heap l⟩;rw[ABI (w:=V.w) (w':=V'.w)]
  .exact g j u m
  rw[CH];exact h.heap _ k c
 | .bp n _ off,_,⟨a,hs⟩=>⟨h.L n a,by rw[h.ρ n a];exact hs⟩
 | .fn _,_,hx=>hx
 | .clo f ns,_,⟨b,hs⟩=>by
  refine⟨?_,λn hn=>⟨h.L n (hs n hn).1,by rw[h.ρ n (hs n hn).1];exact(hs n hn).2⟩⟩;rw[b]
  congr 2
  exact Of λn hn=>(h.ρ n (hs n hn).1).symm
 | .mp n,_,⟨a,hs⟩=>⟨h.L n a,by rw[h.ρ n a];exact hs⟩
 | .yl n,_,⟨a,hs⟩=>⟨h.L n a,by rw[h.ρ n a];exact hs⟩
 | .top,_,_=>trivial
 | .ag _,_,hx=>hx
 | .tup _,_,hx=>hx
theorem NS.keeps {V V':Vw} (h:Cl V V') {x:AV} {cs:List Value} (hx:NS V x cs):NS V' x cs:=by
 cases x;case p t d=>exact(Bx.mono h.O h.heap hx:Bx V'.w V'.O t cs d)
 all_goals
  obtain⟨v,h1,a,b⟩:=hx;exact⟨v,h1,a,b.keeps h⟩
theorem DX.keeps {V V':Vw} (h:Cl V V'):∀ {l:List AV} {cs:List Value},DX V l cs->DX V' l cs
 | [],_,hx=>hx
 | _ :: _,_,⟨c1,c2,e,h1,a⟩=>⟨c1,c2,e,h1.keeps h,a.keeps h⟩
theorem Sx.keeps {V V':Vw} (h:Cl V V') {x:AV} {v:Value} (hx:Sx V x v):Sx V' x v:=by
 cases x;case ag l=>obtain⟨cs,h1,a⟩:=hx;exact⟨cs,h1,a.keeps h⟩
 all_goals exact Sx.of1 (VR.keeps h hx)
theorem H5.keeps {V V':Vw} (h:Cl V V'):∀ {l:List AV} {a:List Value},H5 V l a->H5 V' l a
 | [],_,hx=>hx
 | _ :: _,_,⟨v,l,e,h1,b⟩=>⟨v,l,e,h1.keeps h,b.keeps h⟩
theorem B2.keeps {V V':Vw} (h:Cl V V') {x:AV} {v:Value} (hx:B2 V x v):B2 V' x v:=by
 cases x;case ag l=>obtain⟨cs,h1,a⟩:=hx;exact⟨cs,h1,a.keeps h⟩
 case tup l=>obtain⟨cs,h1,a⟩:=hx;exact⟨cs,h1,a.keeps h⟩
 all_goals
  simp only[B2]at hx ⊢;exact VR.keeps h hx
theorem De.keeps {V V':Vw} (h:Cl V V') {e:Ty} {cells:List Value} {xs:List e.den} (hx:De V.w V.O e cells xs):De V'.w V'.O e cells xs:=λi x hi =>
 let ⟨a,h1,b,c⟩:=hx i x hi
 ⟨a,h1,b,Bx.mono h.O h.heap c⟩
theorem OH.mono {w w':World} {O O':Nat->Prop} (a:∀b,b<w.heap.size->¬O b->¬O' b) (c:∀b,b<w.heap.size->¬O b->w'.heap[b]?=w.heap[b]?) {k v:Ty} :
  ∀ {d:List MapEntry} {l:List (k.den×v.den)},OH w O k v d l->OH w' O' k v d l
 | [],[],h=>h
 | [],_ :: _,h=>h.elim
 | _ :: _,[],h=>h.elim
 | _ :: _,_ :: _,⟨h1,e,f⟩=>⟨h1.mono a c,e.mono a c,f.mono a c⟩
theorem JF {w w':World} {et:TypeId} {sz n:Nat} {loc:Value} {cells:List Value} (hb:∀b,blk loc=some b->w'.heap[b]?=w.heap[b]?) (h:w.ownsRow 0 et sz loc n cells):w'.ownsRow 0 et sz loc n cells:=by
 obtain⟨h1,a⟩:=h;refine⟨h1,?_⟩;rcases a with a|⟨g,cap,c,rfl,d,e,f⟩
 .exact .inl a
 exact .inr ⟨g,cap,c,rfl,d,(hb g rfl).trans e,f⟩
theorem RB.keeps {V V':Vw} (h:Cl V V') {et:TypeId} {e:Ty} {xs:List e.den} {loc:Value} (hb:∀b,blk loc=some b->V'.w.heap[b]?=V.w.heap[b]?) (hx:RB V et e xs loc):RB V' et e xs loc:=by
 obtain⟨c,cells,h1,a⟩:=hx;exact⟨c,cells,JF hb h1,a.keeps h⟩
theorem aI.keeps {V V':Vw} (h:Cl V V') {c:TypeId} {k e:Ty} {hole:Bool} {cells:List Value} {i:Nat} {x:k.den×List e.den} {u:Value} (hb:∀b,blk u=some b->V'.w.heap[b]?=V.w.heap[b]?) (hx:aI V c k e hole cells i x u):aI V' c k e hole cells i x u:=by
 obtain⟨c1,v,h1,d,a⟩:=hx;refine⟨c1,v,h1,Bx.mono h.O h.heap d,?_⟩;rcases a with a|⟨a,f,g⟩
 .exact .inl a
 exact .inr ⟨a,f,g.keeps h hb⟩
theorem A8 {o:Value} {ins:List Value} {b:Nat}:bk (.tuple (o :: ins).toArray) b↔blk o=some b\/∃(i:Nat) (u:Value),ins[i]?=some u/\blk u=some b:=by
 constructor
 .rintro (h|⟨a,h,x,hx,hb⟩)
  .cases h
  injection h with h
  subst h;simp only[At]at hx;rcases hx with rfl|hx
  .exact .inl hb
  obtain⟨i,hi⟩:=List.getElem?_of_mem hx;exact .inr ⟨i,x,hi,hb⟩
 rintro (h|⟨i,u,hi,hb⟩)
 .exact .inr ⟨_,rfl,o,by simp,h⟩
 exact .inr ⟨_,rfl,u,by simp[UR hi],hb⟩
theorem Shp.bk {loc o:Value} {ins:List Value} {b:Nat} (h:Shp loc o ins):bk loc b↔bk (.tuple (o :: ins).toArray) b:=by
 rcases h with rfl|⟨rfl,rfl,rfl⟩
 .exact Iff.rfl
 grind [A8,Lh,blk]
theorem Shp.plc {loc o:Value} {ins:List Value} (h:Shp loc o ins):plc loc=o:=by
 rcases h with rfl|⟨rfl,rfl,rfl⟩<;>rfl
theorem Shp.tup {loc o:Value} {ins:List Value} {a:Array Value} (h:Shp loc o ins) (b:loc=.tuple a):a=(o :: ins).toArray:=by
 subst b;rcases h with h|⟨h,_⟩
 .injection h
 cases h
theorem LA.keeps {V V':Vw} (h:Cl V V') {et c:TypeId} {k e:Ty} {xs:List (k.den×List e.den)} {hl:Option Nat} {o:Value} {ins cells:List Value} (hb:∀b,bk (.tuple (o :: ins).toArray) b->V'.w.heap[b]?=V.w.heap[b]?) (hx:LA V et c k e xs hl o ins cells):LA V' et c k e xs hl o ins cells :=
 ⟨hx.max,hx.len,JF (λb h1=>hb b (A8.2 (.inl h1))) hx.own,λi x u h1 a=>(hx.row i x u h1 a).keeps h (λb d=>hb b (A8.2 (.inr ⟨i,u,a,d⟩))),hx.dist,hx.out⟩
theorem VS {w:World} {et:TypeId} {sz n b:Nat} {loc:Value} {cells:List Value} (h:w.ownsRow 0 et sz loc n cells) (hb:blk loc=some b):b<w.heap.size:=by
 rcases h.2 with ⟨rfl,_⟩|⟨g,cap,a,rfl,c,d,e⟩
 .simp[blk]at hb
 grind [blk,CJ]
theorem LA.block_lt {V:Vw} {et d:TypeId} {k e:Ty} {xs:List (k.den×List e.den)} {hl:Option Nat} {o:Value} {ins cells:List Value} (hx:LA V et d k e xs hl o ins cells) {b:Nat} (hb:bk (.tuple (o :: ins).toArray) b):b<V.w.heap.size:=by
 rcases A8.1 hb with h1|⟨i,u,h1,c⟩
 .exact VS hx.own h1
 have hi:i<xs.length:=by have:=(On.1 h1).1;rw[hx.len]at this;exact this
 obtain⟨c1,v,_,_,a⟩:=hx.row i xs[i] u (AT hi) h1;rcases a with ⟨_,a⟩|⟨_,_,_,f,a,_⟩
 .rw[a]at c;simp[blk]at c
 exact VS a c
theorem A5.keeps {V V':Vw} (h:Cl V V') {o:Obj} {loc:Value} (hb:∀b,bk loc b->V'.w.heap[b]?=V.w.heap[b]?) (hx:A5 V o loc):A5 V' o loc:=by
 cases o with
 | arr et e xs =>
  obtain⟨A,cells,⟨h1,a⟩,z⟩:=hx;refine⟨A,cells,⟨h1,?_⟩,z.keeps h⟩;rcases a with a|⟨g,cap,d,rfl,C,D,E⟩
  .exact .inl a
  exact .inr ⟨g,cap,d,rfl,C,(hb g (.inl rfl)).trans D,E⟩
 | box et st fs =>
  obtain⟨h0,b,cs,rfl,h1,a⟩:=hx;exact⟨h0,b,cs,rfl,(hb b (.inl rfl)).trans h1,a.keeps h⟩
 | nest et H k e xs hl =>
  obtain⟨o,ins,cells,hs,h1⟩:=hx;exact⟨o,ins,cells,hs,h1.keeps h λb y=>hb b (hs.bk.2 y)⟩
 | mapo k v l =>
  obtain⟨b,i,cl,rfl,h1,a,c⟩:=hx;exact⟨b,i,cl,rfl,(hb b (.inl rfl)).trans h1,a.mono h.O h.heap,c⟩
 | frame I fs =>
  obtain⟨h0,h1⟩:=hx;exact⟨h0,λs x hs=>(h1 s x hs).keeps h⟩
 | itr k v l left d =>
  obtain⟨r,rfl,b,B,cl,G,F,h1,a,c,m,n,p,q,t,u,j⟩:=hx;have f:=CJ c;exact⟨r,rfl,b,B,cl,G,F,(hb r (.inl rfl)).trans h1,h.O b f a,(h.heap b f a).trans c,m.mono h.O h.heap,n,p,q,t,u,j⟩
 | loop L =>
  obtain⟨b,rfl,h1⟩:=hx;exact⟨b,rfl,(hb b (.inl rfl)).trans h1⟩
 | dfr =>
  obtain⟨b,rfl,h1⟩:=hx;exact⟨b,rfl,(hb b (.inl rfl)).trans h1⟩
theorem A5.block_lt {V:Vw} {o:Obj} {loc:Value} (hx:A5 V o loc) {b:Nat} (hb:bk loc b):b<V.w.heap.size:=by
 cases o with
 | arr et e xs =>
  obtain⟨i,cells,⟨h1,c⟩,h⟩:=hx;rcases c with ⟨rfl,_⟩|⟨g,cap,d,rfl,n,p,q⟩
  .simp[bk,blk]at hb
  grind [bk,blk,CJ]
 | box et st fs =>
  obtain⟨h0,a,cs,rfl,h1,c⟩:=hx;simp[bk,blk]at hb;subst hb;exact CJ h1
 | nest et j k e xs hl =>
  obtain⟨o,ins,cells,hs,h1⟩:=hx;exact h1.block_lt (hs.bk.1 hb)
 | mapo k v l =>
  obtain⟨a,f,cl,rfl,h1,c⟩:=hx;simp[bk,blk]at hb;subst hb;exact CJ h1
 | frame u fs =>
  obtain⟨rfl,h1⟩:=hx;simp[bk,blk]at hb
 | itr k v l left d =>
  obtain⟨r,rfl,a,m,cl,t,s,h1,-⟩:=hx;simp[bk,blk]at hb;subst hb;exact CJ h1
 | loop L =>
  obtain⟨a,rfl,h1⟩:=hx;simp[bk,blk]at hb;subst hb;exact CJ h1
 | dfr =>
  obtain⟨a,rfl,h1⟩:=hx;simp[bk,blk]at hb;subst hb;exact CJ h1
section
variable {α:Type}
theorem A7 (k:Nat):∀(l r:List (Nat×α)),lk k (l++r)=(lk k l).or (lk k r)
 | [],_=>by simp[lk]
 | (j,v) :: l,r=>by
  simp only[AAo,lk];split
  .simp
  exact A7 k l r
theorem GM (k n:Nat) (u:α):∀l:List (Nat×α),lk k (upd n u l)=if k=n then (lk n l).map (λ_=>u) else lk k l
 | []=>by simp[lk,upd]
 | (j,v) :: l=>by
  simp only[upd];by_cases hn:n=j
  .subst hn;by_cases hk:k=n
   .subst hk;simp[lk]
   simp[lk,hk,GM k n u l]
  simp only[BY hn,lk];by_cases hk:k=n
  .subst hk;simp[hn,GM k k u l]
  by_cases a:k=j
  .subst a;simp[hk]
  simp[hk,a,GM k n u l]
theorem RC (k n:Nat):∀l:List (Nat×α),lk k (del n l)=if k=n then none else lk k l
 | []=>by simp[lk,del]
 | (j,v) :: l=>by
  simp only[del];by_cases hn:n=j
  .subst hn;rw[DO rfl,RC k n l];grind [lk]
  rw[BY hn];simp only[lk,RC k n l];grind
end
end
section
open Go Go.RowKit
def EJ (σ:St) (obs:List (Nat×Obj)):St:=⟨σ.env,obs++σ.objs⟩
structure QS (w:World) (O0:Nat->Prop) (σ:St) (ρ:Nat->Value) (v:AV) (obs:List (Nat×Obj)) (u:Value) (ρ':Nat->Value) (w':World):Prop where
 below:Below w.heap.size w w'
 rho:∀n,lk n obs=none->ρ' n=ρ n
 av:B2 (vw w' O0 (EJ σ obs) ρ') v u
 obj:∀n o,lk n obs=some o->A5 (vw w' O0 (EJ σ obs) ρ') o (ρ' n)
 new:∀n o b,lk n obs=some o->bk (ρ' n) b->w.heap.size<=b
 dist:∀n m o o' b,lk n obs=some o->lk m obs=some o'->bk (ρ' n) b->bk (ρ' m) b->n=m
theorem FK {α:Type} {k:Nat} {v:α}:∀ {l:List (Nat×α)},lk k l=some v->(k,v)∈l
 | (j,u) :: l,h=>by
  simp only[lk]at h;split at h
  .grind
  exact GO _ (FK h)
theorem OI {obs:List (Nat×Obj)} {σ:St} (h:Bg obs σ=true) {n:Nat} {o:Obj} (hn:lk n obs=some o):lk n σ.objs=none:=by
 simp only[Bg,NO]at h;simpa using h _ (FK hn)
theorem Li {σ:St} {obs:List (Nat×Obj)} {n:Nat} (h:Gz (EJ σ obs) n):(∃o,lk n obs=some o)\/(lk n obs=none/\Gz σ n):=by
 obtain⟨o,h⟩:=h;simp only[EJ,A7]at h;cases a:lk n obs with
 | some b=>exact .inl ⟨b,rfl⟩
 | none=>rw[a]at h;exact .inr ⟨rfl,o,by simpa using h⟩
theorem aJ {σ:St} {obs:List (Nat×Obj)} (hf:Bg obs σ=true) {n:Nat} (h:Gz σ n):Gz (EJ σ obs) n/\lk n obs=none:=by
 obtain⟨o,h⟩:=h;have hn:lk n obs=none:=by
  cases a:lk n obs with
  | none=>rfl
  | some b=>have:=OI hf a;rw[this]at h;cases h
 exact⟨⟨o,by simp[EJ,A7,hn,h]⟩,hn⟩
theorem H6 {w w':World} {O0:Nat->Prop} {σ:St} {ρ ρ':Nat->Value} {obs:List (Nat×Obj)} (hf:Bg obs σ=true)
  (hb:Below w.heap.size w w') (hr:∀n,lk n obs=none->ρ' n=ρ n) (hn:∀n o b,lk n obs=some o->bk (ρ' n) b->w.heap.size<=b) :
  Cl (vw w O0 σ ρ) (vw w' O0 (EJ σ obs) ρ') where
 O:=by
  intro b hlt hO hO';rcases hO' with h0|⟨n,hl,hb'⟩
  .exact hO (.inl h0)
  rcases Li hl with ⟨o,ho⟩|⟨hno,hl'⟩
  .have:=hn n o b ho hb';have hlt:b<w.heap.size:=hlt;omega
  exact hO (.inr ⟨n,hl',by rw[<-hr n hno];exact hb'⟩)
 L:=λn h=>(aJ hf h).1
 ρ:=λn h=>hr n (aJ hf h).2
 heap:=λb hlt _=>hb.block b hlt
theorem QS.keeps {w w':World} {O0:Nat->Prop} {σ:St} {ρ ρ':Nat->Value} {v:AV} {u:Value} {obs:List (Nat×Obj)} (hf:Bg obs σ=true) (h:QS w O0 σ ρ v obs u ρ' w') :
  Cl (vw w O0 σ ρ) (vw w' O0 (EJ σ obs) ρ'):=H6 hf h.below h.rho h.new
theorem Frm.below {K:Nat->Prop} {w0 w w':World} (h:Frm K w0 w) (hb:Below w.heap.size w w') (hK:∀b,K b->b<w0.heap.size):Frm K w0 w' where
 os:=hb.os.trans h.os
 tape:=hb.tape.trans h.tape
 output:=hb.output.trans h.output
 size:=SX h.size hb.size
 block:=λk hk=>(hb.block k (AAj (hK k hk) h.size)).trans (h.block k hk)
theorem PT (a:Act) (dst:Option Tmp) (u:Value):(a.put dst u).tmps.size=a.tmps.size:=by
 cases dst<;>simp[Act.put]
theorem KT (a:Act) (dst:Option Tmp) (u:Value):(a.put dst u).defers=a.defers:=by cases dst<;>rfl
theorem Mo (a:Act) (d:Nat) (u:Value) (s:Nat) (hd:d<a.tmps.size):(a.put (some d) u).tmps.getD s undef=if s=d then u else a.tmps.getD s undef:=by
 by_cases h:s=d
 .subst h;simp[Act.put,hd]
 have:¬d=s:=λe=>h e.symm;simp[Act.put,h,this,Array.getElem?_setIfInBounds]
theorem CA.add {w0:World} {K O0:Nat->Prop} {nt:Nat} {ds:Fp} {σ:St} {ρ:Nat->Value} {a:Act} {w:World} (h:CA w0 K O0 nt ds σ ρ a w)
  (F:∀b,K b->b<w0.heap.size) (H:∀b,O0 b->b<w0.heap.size) {dst:Option Nat} (hd:∀d,dst=some d->d<nt)
  {v:AV} {obs:List (Nat×Obj)} {u:Value} {ρ':Nat->Value} {w':World} (hf:Bg obs σ=true) (c:QS w O0 σ ρ v obs u ρ' w') :
  CA w0 K O0 nt ds (σ.add v obs dst) ρ' (a.put dst u) w':=by
 have hk:=c.keeps hf;have C:(σ.add v obs dst).objs=obs++σ.objs:=by cases dst<;>rfl
 have j:∀n,Gz (σ.add v obs dst) n↔Gz (EJ σ obs) n:=λn=>by simp[Gz,C,EJ]
 have D:vw w' O0 (σ.add v obs dst) ρ'=vw w' O0 (EJ σ obs) ρ':=by
  have hl:Gz (σ.add v obs dst)=Gz (EJ σ obs):=funext λn=>propext (j n);have f:own O0 (σ.add v obs dst) ρ'=own O0 (EJ σ obs) ρ':=by grind [own]
  simp only[vw,hl,f]
 refine⟨h.frm.below c.below F,by rw[PT];exact h.nt,by rw[KT];exact h.defers,λp G=>?_,?_,?_,?_,?_⟩
 .obtain⟨h1,i,E⟩:=h.pin p G;have z:=aJ hf h1;exact⟨(j p.1).2 z.1,(c.rho _ z.2).trans i,E⟩
 .intro n o f;rw[C,A7]at f;rw[D];cases l:lk n obs with
  | some t=>rw[l]at f;cases f;exact c.obj n _ l
  | none =>
   rw[l]at f;have k:lk n σ.objs=some o:=by simpa using f
   rw[c.rho n l];refine(h.objs n o k).keeps hk λb hb=>?_;exact c.below.block b ((h.objs n o k).block_lt hb)
 .intro n b hl hb;rcases Li ((j n).1 hl) with ⟨o,f⟩|⟨q,r⟩
  .have I:=c.new n o b f hb;have:=h.frm.size;grind
  rw[c.rho n q]at hb;exact h.free n b r hb
 .intro n m b hl r hb g;rcases Li ((j n).1 hl) with ⟨o,f⟩|⟨q,hn⟩<;>rcases Li ((j m).1 r) with ⟨t,k⟩|⟨B,A⟩
  .exact c.dist n m o t b f k hb g
  .have h1:=c.new n o b f hb;rw[c.rho m B]at g;obtain⟨y,i⟩:=A;have:=(h.objs m y i).block_lt g;have:b<w.heap.size:=this;omega
  .have h1:=c.new m t b k g;rw[c.rho n q]at hb;obtain⟨y,i⟩:=hn;have:=(h.objs n y i).block_lt hb;have:b<w.heap.size:=this;omega
  rw[c.rho n q]at hb;rw[c.rho m B]at g;exact h.dist n m b hn A hb g
 intro s x hs;rw[D];cases dst with
 | none=>exact(h.env s x hs).keeps hk
 | some d =>
  simp only[St.add,lk]at hs;rw[Mo a d u s (by rw[h.nt];exact hd d rfl)];split at hs
  .rename_i e;cases hs;rw[DO e];exact c.av
  rename_i e;rw[BY e];exact(h.env s x hs).keeps hk
theorem QS.still {w:World} {O0:Nat->Prop} {σ:St} {ρ:Nat->Value} {v:AV} {u:Value} (h:B2 (vw w O0 σ ρ) v u):QS w O0 σ ρ v [] u ρ w where
 below:=Below.refl _ _
 rho:=λ_ _=>rfl
 av:=h
 obj:=λ_ _ h=>by cases h
 new:=λ_ _ _ h=>by cases h
 dist:=λ_ _ _ _ _ h=>by cases h
def Ex (ρ:Nat->Value) (n:Nat) (x:Value):Nat->Value:=λm=>if m=n then x else ρ m
theorem Bq (ρ:Nat->Value) (n:Nat) (x:Value):Ex ρ n x n=x:=by simp[Ex]
theorem QS.one {w w':World} {O0:Nat->Prop} {σ:St} {ρ:Nat->Value} {v:AV} {u loc:Value} {n:Nat} {o:Obj} (hb:Below w.heap.size w w')
  (hnew:∀b,bk loc b->w.heap.size<=b)
  (hav:B2 (vw w' O0 (EJ σ [(n,o)]) (Ex ρ n loc)) v u)
  (hobj:A5 (vw w' O0 (EJ σ [(n,o)]) (Ex ρ n loc)) o loc):QS w O0 σ ρ v [(n,o)] u (Ex ρ n loc) w' where
 below:=hb
 rho:=λm hm=>by grind [lk,Ex]
 av:=hav
 obj:=λm o' hm=>by grind [lk,Bq]
 new:=λm o' b hm hb'=>by grind [lk,Bq]
 dist:=λm m' o1 o2 b h1 h2 _ _=>by grind [lk]
end
section
open Go Go.RowKit
theorem BB {t:Ty} {p:PV} {d:t.den} (h:BQ t p=some d):p=⟨t,d⟩:=by
 obtain⟨u,x⟩:=p;grind [BQ]
theorem Bk {e a:Ty} {xs:List a.den} {ys:List e.den} (h:BQ (.slice e) ⟨.slice a,xs⟩=some ys):a=e/\HEq xs ys:=by
 have b:=BB h;grind
theorem OJ {α:Type} (xs:List α) {lo hi:Nat} (h:hi<=xs.length):(sub xs lo hi).length=hi-lo:=by
 simp[sub];omega
theorem aK {α:Type} (xs:List α) (lo hi i:Nat) {x:α} (h:(sub xs lo hi)[i]?=some x):xs[lo+i]?=some x/\i<hi-lo:=by grind [sub]
theorem qQ {w:World} {O':Nat->Prop} {et:TypeId} {e:Ty} {xs:List e.den} {loc v:Value} {cells:List Value} {lo hi:Nat} (u:∀b,blk loc=some b->¬O' b)
  (F:xs.length<=AP) (f:w.ownsRow 0 et e.size loc xs.length cells) (o:De w O' e cells xs) (y:DP loc e.size lo hi v):Bx w O' (.slice e) [v] (sub xs lo hi):=by
 obtain⟨a,m,c,h,D,p,j,k,rfl,n,h0,h1⟩:=y;have t:m=xs.length:=by
  rcases f.2 with ⟨d,hn⟩|⟨g,cap,l,d,_⟩
  .grind
  rw[h]at d;injection d
 subst t;have hl:=OJ xs (lo:=lo) p;refine⟨j,k,by rw[hl],by rw[hl];exact n,by rw[hl];omega,?_⟩;by_cases s:lo<hi
 .right;rcases f.2 with ⟨d,hn⟩|⟨g,cap,l,d,r⟩
  .omega
  have B:=World.ownsRow.cells f (g:=g) (by rw[d];rfl);have ha:a=some ⟨g,0,none⟩:=by rw[h]at d;injection d
  subst ha;refine⟨_,h1 s,u _ (by rw[d];simp only[blk,CH]),λi x q=>?_⟩;obtain⟨hx,E⟩:=aK xs lo hi i q;obtain⟨z,C,A,G⟩:=o (lo+i) x hx;grind [DL]
 simp_all
theorem HW {w:World} {base:Nat} {et:TypeId} {sz n:Nat} {s:Value} {xs:List Value} (h:w.ownsRow base et sz s n xs):plc s=s:=by
 rcases h.2 with ⟨rfl,_⟩|⟨g,cap,a,rfl,_⟩<;>rfl
theorem US {V:Vw} {et:TypeId} {e:Ty} {xs:List e.den} {loc:Value} (h:A5 V (.arr et e xs) loc):plc loc=loc:=by
 obtain⟨_,_,h,_⟩:=h;exact HW h
theorem aL {V:Vw} {O':Nat->Prop} (h:∀b,¬V.O b->¬O' b) {et:TypeId} {e:Ty} {xs:List e.den} {loc v:Value} {lo hi:Nat} (m:∀b,blk loc=some b->¬O' b)
  (a:A5 V (.arr et e xs) loc) (c:DP (plc loc) e.size lo hi v):Bx V.w O' (.slice e) [v] (sub xs lo hi):=by
 rw[US a]at c;obtain⟨k,cells,l,j⟩:=a;exact qQ m k l (λi x hi=>let ⟨d,h1,f,g⟩:=j i x hi;⟨d,h1,f,g.mono (λb _ hb=>h b hb) (λ_ _ _=>rfl)⟩) c
theorem GN {w:World} {et:TypeId} {sz n:Nat} {s:Value} {xs:List Value} (h:w.ownsRow 0 et sz s n xs):DP s sz 0 n s:=by
 rcases h.2 with ⟨rfl,hn⟩|⟨g,cap,a,rfl,_,_,b,_⟩
 .exact⟨none,0,0,rfl,by omega,by omega,none,0,by rw[hn],by omega,λ_=>⟨rfl,rfl⟩,λh=>by omega⟩
 exact⟨some ⟨g,0,none⟩,n,cap,rfl,by omega,by omega,some ⟨g,0,none⟩,cap,by simp,by omega,λ_=>⟨rfl,rfl⟩,λ_=>by simp[Mm]⟩
theorem Yc {V:Vw} {O':Nat->Prop} (c:∀b,¬V.O b->¬O' b) {et:TypeId} {e:Ty} {xs:List e.den} {u:Value} (d:∀b,blk u=some b->¬O' b) (h:RB V et e xs u):Bx V.w O' (.slice e) [u] xs:=by
 have h1:=h;obtain⟨_,_,a,_⟩:=h1;have:=aL (V:=V) c d (et:=et) (e:=e) (xs:=xs) (loc:=u) h (by rw[HW a];exact GN a)
 rwa [KH]at this
theorem KU {w:World} {base:Nat} {et:TypeId} {sz n m c:Nat} {a:Option Addr} {xs:List Value} (h:w.ownsRow base et sz (.slice a m c) n xs):m=n:=by
 rcases h.2 with ⟨b,hn⟩|⟨g,cap,d,b,_⟩
 .injection b;omega
 injection b
theorem aM {V:Vw} {d:TypeId} {e:Ty} {xs:List e.den} {u:Value} {a:Option Addr} {len c:Nat} (hl:Lay u (.slice a len c)) (h:RB V d e xs u):len=xs.length:=by
 obtain⟨_,i,b,_⟩:=h;rcases hl with rfl|⟨rfl,f,g⟩
 .exact KU b
 grind [KU]
theorem zT {V:Vw} {i:TypeId} {e:Ty} {xs:List e.den} {u v:Value} (hl:Lay u v) (h:RB V i e xs u):∃(a:Option Addr) (c:Nat),v=.slice a xs.length c:=by
 rcases hl with rfl|⟨rfl,a,rfl⟩
 .obtain⟨_,j,f,_⟩:=h;obtain⟨_,_,_,_,_,_,b,d,g,_⟩:=GN f;exact⟨b,d,g⟩
 have hn:=aM (.inr ⟨rfl,a,rfl⟩) h;exact⟨a,0,by rw[<-hn]⟩
theorem qR {V:Vw} {O':Nat->Prop} {c:TypeId} {e:Ty} {xs:List e.den} {u v:Value} (hl:Lay u v) (h:RB V c e xs u) (b:Bx V.w O' (.slice e) [u] xs):Bx V.w O' (.slice e) [v] xs:=by
 rcases hl with rfl|⟨rfl,a,rfl⟩
 .exact b
 have hn:=aM (.inr ⟨rfl,a,rfl⟩) h;have hx:xs=[]:=Sk hn.symm;subst hx;exact⟨a,0,rfl,No _,by simp,.inl rfl⟩
theorem OK {V:Vw} {O':Nat->Prop} (f:∀b,¬V.O b->¬O' b) {et n:TypeId} {k e:Ty} {xs:List (k.den×List e.den)} {o:Value} {ins cells:List Value} (h:LA V et n k e xs none o ins cells)
  (m:∀(i b:Nat) (u:Value),ins[i]?=some u->blk u=some b->¬O' b):De V.w O' (.agg (.prod k (.slice e))) cells xs:=by
 intro i x hi;have g:i<ins.length:=by rw[h.len];exact(On.1 hi).1
 obtain⟨c1,v,h1,c,a⟩:=h.row i x ins[i] hi (AT g);rcases a with ⟨a,_⟩|⟨_,j,d⟩
 .cases a
 have l:=qR j d (Yc f (λb hb=>m i b _ (AT g) hb) d);refine⟨c1++[v],by simp[Ty.size,c.length],h1,?_⟩;exact(⟨c1,[v],rfl,c.mono (λb _ hb=>f b hb) (λ_ _ _=>rfl),l⟩:Bx V.w O' (.prod k (.slice e)) _ x)
theorem eE {V:Vw} {O':Nat->Prop} (f:∀b,¬V.O b->¬O' b) {et j:TypeId} {k e:Ty} {xs:List (k.den×List e.den)} {loc v:Value} {lo hi:Nat} (a:∀b,bk loc b->¬O' b)
  (g:A5 V (.nest et j k e xs none) loc) (c:DP (plc loc) (k.size+1) lo hi v):Bx V.w O' (.slice (.agg (.prod k (.slice e)))) [v] (sub (α:=k.den×List e.den) xs lo hi):=by
 obtain⟨o,ins,cells,hs,h⟩:=g;rw[hs.plc]at c;exact qQ (e:=.agg (.prod k (.slice e))) (xs:=xs) (λb hb=>a b (hs.bk.2 (A8.2 (.inl hb)))) h.max h.own (OK f h λi b u h1 d=>a b (hs.bk.2 (A8.2 (.inr ⟨i,u,h1,d⟩)))) c
theorem Yd {V:Vw} {p:Obj} {loc:Value} {a:Option Addr} {m c:Nat} (d:A5 V p loc) (h:plc loc=.slice a m c):∃et sz cells,V.w.ownsRow 0 et sz (.slice a m c) m cells/\m<=AP:=by
 cases p with
 | arr et e xs =>
  have h1:=US d;obtain⟨r,cells,i,_⟩:=d;rw[h1]at h;subst h;have j:m=xs.length:=by
   rcases i.2 with ⟨f,hn⟩|⟨g,cap,q,f,_⟩
   .injection f;omega
   injection f
  subst j;exact⟨et,_,cells,i,r⟩
 | nest et t k e xs hl =>
  obtain⟨o,ins,cells,hs,n⟩:=d;rw[hs.plc]at h;subst h;have i:=n.own;have j:m=xs.length:=by
   rcases i.2 with ⟨f,hn⟩|⟨g,cap,q,f,_⟩
   .injection f;omega
   injection f
  subst j;exact⟨et,_,cells,i,n.max⟩
 | box et st fs=>obtain⟨_,b,cs,rfl,_⟩:=d;cases h
 | mapo k v l=>obtain⟨b,_,_,rfl,_⟩:=d;cases h
 | frame A fs=>obtain⟨rfl,_⟩:=d;cases h
 | loop L=>obtain⟨b,rfl,_⟩:=d;cases h
 | itr u z x y s=>obtain⟨b,rfl,_⟩:=d;cases h
 | dfr=>obtain⟨b,rfl,_⟩:=d;cases h
theorem Mp {V V':Vw} (c:V'.w=V.w) (d:V'.O=V.O) {et f:TypeId} {k e:Ty} {xs:List (k.den×List e.den)} {h:Option Nat} {loc:Value} (r:A5 V (.nest et f k e xs h) loc):A5 V' (.nest et f k e xs h) loc:=by
 obtain⟨o,ins,cells,hl,a⟩:=r;refine⟨o,ins,cells,hl,a.max,a.len,by rw[c];exact a.own,λi x u h1 g=>?_,a.dist,a.out⟩;obtain⟨c1,v,j,l,b⟩:=a.row i x u h1 g;refine⟨c1,v,j,by rw[c,d];exact l,?_⟩;rcases b with b|⟨b,m,q,s,n,p⟩
 .exact .inl b
 exact .inr ⟨b,m,q,s,by rw[c];exact n,by rw[c,d];exact p⟩
theorem vI {V V':Vw} (d:V'.w=V.w) (f:∀b,¬V.O b->¬V'.O b) {et g:TypeId} {k e:Ty} {xs:List (k.den×List e.den)} {h:Option Nat} {loc:Value} (A:A5 V (.nest et g k e xs h) loc):A5 V' (.nest et g k e xs h) loc:=by
 obtain⟨o,ins,cells,hl,a⟩:=A;refine⟨o,ins,cells,hl,a.max,a.len,by rw[d];exact a.own,λi x u h1 p=>?_,a.dist,a.out⟩;obtain⟨c1,v,q,r,c⟩:=a.row i x u h1 p;refine⟨c1,v,q,r.mono (λb _ hb=>f b hb) (λb _ _=>by rw[d]),?_⟩;rcases c with c|⟨c,s,z,B,t,y⟩
 .exact .inl c
 refine .inr ⟨c,s,z,B,by rw[d];exact t,λi x hi=>?_⟩;obtain⟨j,l,m,n⟩:=y i x hi;exact⟨j,l,m,n.mono (λb _ hb=>f b hb) (λb _ _=>by rw[d])⟩
theorem aN {V:Vw} {et g:TypeId} {k e:Ty} {xs:List (k.den×List e.den)} {h:Option Nat} {loc v:Value} {c:Array Value} {i:Nat} {z:k.den×List e.den}
  (d:A5 V (.nest et g k e xs h) loc) (f:loc=.tuple c) (a:c[i+1]?=some v):xs[i]?=some (xs.getD i z):=by
 obtain⟨o,ins,cells,hs,h⟩:=d;obtain rfl:=hs.tup f;have a:ins[i]?=some v:=by simpa using a
 have b:i<xs.length:=by rw[<-h.len];exact(On.1 a).1
 rw[AT b,AS,AT b];rfl
theorem A3V {V:Vw} {t:Obj} {loc u v:Value} {w:Array Value} {i len c:Nat} {a:Option Addr} (d:A5 V t loc) (z:loc=.tuple w) (f:w[i+1]?=some u) (j:Lay u v) (s:v=.slice a len c):len<=AP:=by
 subst z;cases t with
 | arr et e xs =>
  obtain⟨D,cells,y,_⟩:=d;rcases y.2 with ⟨r,_⟩|⟨g,cap,B,r,_⟩<;>cases r
 | nest et F k e xs hl =>
  obtain⟨o,ins,cells,hs,q⟩:=d;obtain rfl:=hs.tup rfl;have f:ins[i]?=some u:=by simpa using f
  have x:i<xs.length:=by rw[<-q.len];exact(On.1 f).1
  obtain⟨c1,M,h1,C,m⟩:=q.row i xs[i] u (AT x) f;rcases m with ⟨_,m⟩|⟨_,_,n⟩
  .subst s;rcases j with p|⟨_,A,p⟩
   .grind
   injection p;omega
  rw[s]at j;rw[aM j n];exact n.1
 | box et st fs=>obtain⟨_,b,cs,h,_⟩:=d;cases h
 | mapo k v l=>obtain⟨b,_,_,h,_⟩:=d;cases h
 | frame K fs=>obtain⟨h,_⟩:=d;cases h
 | loop L=>obtain⟨b,h,_⟩:=d;cases h
 | itr G J H I E=>obtain⟨b,h,_⟩:=d;cases h
 | dfr=>obtain⟨b,h,_⟩:=d;cases h
theorem A3W {V:Vw} {O':Nat->Prop} (n:∀b,¬V.O b->¬O' b) {et j:TypeId} {k e:Ty} {xs:List (k.den×List e.den)} {loc v:Value} {d:Array Value} {i:Nat} {x:k.den×List e.den} (r:∀b,bk loc b->¬O' b) {u:Value}
  (f:A5 V (.nest et j k e xs none) loc) (g:loc=.tuple d) (c:d[i+1]?=some u) (q:Lay u v) (hx:xs[i]?=some x):Bx V.w O' (.slice e) [v] x.2:=by
 obtain⟨o,ins,cells,hs,h⟩:=f;obtain rfl:=hs.tup g;have c:ins[i]?=some u:=by simpa using c
 obtain⟨c1,s,h1,l,a⟩:=h.row i x u hx c;rcases a with ⟨a,_⟩|⟨_,p,m⟩
 .cases a
 grind [qR,Yc,A8]
section
variable {V:Vw} {O':Nat->Prop} {l:Bool} {σ:St}
theorem qS (j:∀b,¬V.O b->¬O' b) (r:l=true->∀b,¬O' b) (q:∀n o,lk n σ.objs=some o->A5 V o (V.ρ n))
  {t:Ty} {x:AV} {d:t.den} {cs:List Value} (h:E3 l σ t x=some d) (hx:NS V x cs):Bx V.w O' t cs d:=by
 unfold E3 at h;split at h
 .rename_i u s;have:=BB h;injection this with h1 g
  subst h1;cases g;have hx:Bx V.w V.O u cs s:=hx;exact hx.mono (λb _ hb=>j b hb) (λ_ _ _=>rfl)
 .rename_i e n y lo hi;split at h
  .rename_i m;obtain⟨p,rfl⟩:=m;have hl:=p;obtain⟨v,rfl,_,z,f⟩:=hx;cases hn:lk n σ.objs with
   | none=>rw[hn]at h;simp[Q6]at h
   | some o =>
    rw[hn]at h;cases o with
    | box et st fs=>simp[Q6]at h
    | mapo k v l=>simp[Q6]at h
    | frame J fs=>simp[Q6]at h
    | loop L=>simp[Q6]at h
    | itr F I G H D=>simp[Q6]at h
    | dfr=>simp[Q6]at h
    | nest et E k e2 xs hl =>
     cases hl with
     | some i=>simp[Q6]at h
     | none =>
      simp only[Q6]at h;obtain⟨h1,g⟩:=Bk h;subst h1;cases g;exact eE j (λb _=>r p b) (q n _ hn) f
    | arr et e2 xs =>
     simp only[Q6]at h;obtain⟨h1,g⟩:=Bk h;subst h1;cases g;exact aL j (λb _=>r hl b) (q n _ hn) f
  cases h
 .rename_i e n y i len;split at h
  .rename_i m;obtain⟨hl,rfl⟩:=m;obtain⟨v,rfl,_,z,M,a,c,K,C,B,A,_⟩:=hx;cases hn:lk n σ.objs with
   | none=>rw[hn]at h;simp[Tu]at h
   | some o =>
    rw[hn]at h;unfold Tu at h;split at h
    .grind [Bk,A3W,aN]
    cases h
  cases h
 .obtain⟨v,rfl,_,f⟩:=hx;have f:v=_:=f;subst f;cases h;exact⟨none,0,rfl,by simp,by simp[AP],.inl rfl⟩
 cases h
theorem zU (e:∀b,¬V.O b->¬O' b) (g:l=true->∀b,¬O' b) (f:∀n o,lk n σ.objs=some o->A5 V o (V.ρ n)) :
  ∀ {fs:List AV} {t:Ty} {d:t.den} {cs:List Value},LQ l σ fs t=some d->DX V fs cs->Bx V.w O' t cs d
 | [],t,d,cs,h,hx=>by simp[LQ]at h
 | [x],t,d,cs,h,hx=>by
  obtain⟨c1,c2,rfl,h1,c⟩:=hx;have c:c2=[]:=c;grind [LQ,qS]
 | x :: y :: r,t,d,cs,h,hx=>by
  obtain⟨c1,c2,rfl,h1,c⟩:=hx;cases t;case prod a b =>
   simp only[LQ]at h;cases e1:E3 l σ a x with
   | none=>rw[e1]at h;simp[NZ]at h
   | some i =>
    cases e2:LQ l σ (y :: r) b with
    | none=>rw[e1,e2]at h;simp[NZ]at h
    | some j =>
     rw[e1,e2]at h;simp only[NZ]at h;cases h;exact⟨c1,c2,rfl,qS e g f e1 h1,zU e g f e2 c⟩
  all_goals simp[LQ]at h
theorem A3X {t:Ty} {x:AV} {d:t.den} {v:Value} (h:E3 l σ t x=some d) (k:∀u g,x≠.p u g) (hx:B2 V x v):NS V x [v]/\t.wrap [v]=v:=by
 unfold E3 at h;split at h
 .exact absurd rfl (k _ _)
 .obtain⟨b,a,m,c,_,_,_,e,f,rfl,_⟩:=hx;refine⟨⟨_,rfl,rfl,?_⟩,rfl⟩;exact⟨b,a,m,c,by assumption,by assumption,by assumption,e,f,rfl,by assumption⟩
 .obtain⟨b,o,a,c,u,h1,i,j,rfl⟩:=hx;exact⟨⟨_,rfl,rfl,b,o,a,c,u,h1,i,j,rfl⟩,rfl⟩
 .have n:v=_:=hx;subst n;exact⟨⟨_,rfl,rfl,rfl⟩,rfl⟩
 cases h
theorem LB (f:∀b,¬V.O b->¬O' b) (j:l=true->∀b,¬O' b) (g:∀n o,lk n σ.objs=some o->A5 V o (V.ρ n))
  {t:Ty} {x:AV} {d:t.den} {v:Value} (h:NR l σ t x=some d) (hx:B2 V x v):BV V.w O' t v d:=by
 unfold NR at h;split at h
 .rename_i t fs;obtain⟨cs,rfl,k⟩:=hx;exact⟨cs,(zU f j g h k:Bx V.w O' t cs d),rfl⟩
 by_cases i:∃u a,x=.p u a
 .obtain⟨u,a,rfl⟩:=i;have h:BQ t ⟨u,a⟩=some d:=by simpa only[E3] using h
  have:=BB h;injection this with h1 c
  subst h1;cases c;exact BV.mono (λb _ hb=>f b hb) (λ_ _ _=>rfl) hx
 obtain⟨h1,c⟩:=A3X h (λu a e=>i ⟨u,a,e⟩) hx;exact⟨[v],qS f j g h h1,c.symm⟩
end
end
section
open Go Go.RowKit
def aO:Ty->Value->Bool
 | .agg _,.agg _=>true
 | .agg _,_=>false
 | .prod _ _,_=>false
 | _,.agg _=>false
 | _,_=>true
def PU (P : Program) (id : TypeId) (a b : IntKind) : Prop := ∃ c d : Field, P.underlying id = some (.struct #[c, d]) /\ ((c.name != "_") = true /\ (d.name != "_") = true) /\ (c.offset = 0 /\ d.offset = 1) /\ (P.underlying c.type = some (.int a) /\ P.underlying d.type = some (.int b)) /\ P.stoodInHeld id = false
def VT (P:Program) (id:TypeId):Ty->Nat->Prop
 | .agg (.prod (.int a) (.int b)),0=>PU P id a b
 | _,_=>True
def isI (k:IntKind):Option TypeDesc->Bool
 | some (.int a)=>k==a
 | _=>false
theorem VU {k:IntKind} {d:Option TypeDesc} (h:isI k d=true):d=some (.int k):=by
 unfold isI at h;grind
def A68 (P:Program) (id:TypeId) (a b:IntKind):Option TypeDesc->Bool
 | some (.struct ⟨[c, d]⟩) => (c.name != "_") && (d.name != "_") && c.offset == 0 && d.offset == 1 && isI a (P.underlying c.type) && isI b (P.underlying d.type) && P.stoodInHeld id == false
 | _=>false
def zV (P:Program) (id:TypeId):Ty->Nat->Bool
 | .agg (.prod (.int a) (.int b)),0=>A68 P id a b (P.underlying id)
 | _,_=>true
theorem zW {P:Program} {id:TypeId} {t:Ty} {el:Nat} (h:zV P id t el=true):VT P id t el:=by
 unfold zV at h;unfold VT;split at h
 .unfold A68 at h;split at h
  .rename_i a b hu;simp only[An,UQ]at h;obtain⟨⟨⟨⟨⟨⟨h1,c⟩,d⟩,e⟩,f⟩,g⟩,i⟩:=h;exact⟨a,b,hu,⟨h1,c⟩,⟨d,e⟩,⟨VU f,VU g⟩,i⟩
  cases h
 trivial
def EK (P:Program) (tb:Tb) (id:TypeId) (ti:TI):Prop :=
 (((∀p∈ti.offs,p.2≠0)/\0<ti.bytes/\VT P id ti.ty ti.el)/\∃(i:TypeInfo) (z:Value),P.info? id=some i/\i.size=ti.ty.size/\i.bytes=ti.bytes/\i.zero=some z/\z.cells=ti.ty.zero.toArray) /\
 match ti.ty with
 | .int k=>P.underlying id=some (.int k)
 | .bool=>P.underlying id=some .bool
 | .str=>P.underlying id=some .string
 | .slice e=>P.underlying id=some (.slice ti.el)/\∃te,lk ti.el tb.ty=some te/\te.ty=e
 | .agg _=>(∃fs:Array Field,ti.el=0/\P.underlying id=some (.struct fs)/\ti.offs.map some=fs.toList.map λf=>(P.info? f.type).map λi=>(f.offset,i.size)) \/
   ∃n e i,ti.el≠0/\P.underlying id=some (.array n e)/\P.info? e=some i/\ti.offs=(List.range n).map λk=>(k*i.size,i.size)
 | .prod _ _=>False
 | .ref j=>∃d,P.underlying id=some d/\(match d with|.struct _=>False|.array _ _=>False|_=>True) /\
   ∀k e,j=2->ti.offs=[(k,e)]->d=.map k e/\∃(a te:TI) (z:Value),lk k tb.ty=some a/\lk e tb.ty=some te/\(∃i,P.info? e=some i/\i.zero=some z)/\z.cells=te.ty.zero.toArray/\aO te.ty z=true
def DC (P:Program) (tb:Tb):Prop:=∀id ti,lk id tb.ty=some ti->EK P tb id ti
def zX:Value->Value->Bool
 | .int k n,.int c d=>k==c&&n==d
 | .bool a,.bool b=>a==b
 | .string s,.string e=>s.size==0&&e.size==0
 | .slice none 0 0,.slice none 0 0=>true
 | .pointer none,.pointer none=>true
 | .nilFunc,.nilFunc=>true
 | .map none,.map none=>true
 | _,_=>false
theorem zY {a b:Value} (h:zX a b=true):a=b:=by
 unfold zX at h;split at h
 .grind
 .grind
 .simp_all
 .rfl
 .rfl
 .rfl
 .rfl
 cases h
def OL:List Value->List Value->Bool
 | [],[]=>true
 | a :: l,b :: r=>zX a b&&OL l r
 | _,_=>false
theorem RD:∀ {l r:List Value},OL l r=true->l=r
 | [],[],_=>rfl
 | a :: l,b :: r,h=>by
  simp only[OL,An]at h;rw[zY h.1,RD h.2]
 | [],_ :: _,h=>by simp[OL]at h
 | _ :: _,[],h=>by simp[OL]at h
def A69 (ty:Ty) (bytes:Nat):Option TypeInfo->Bool
 | some i=>i.size==ty.size&&i.bytes==bytes&&(match i.zero with|some z=>OL z.cells.toList ty.zero|none=>false)
 | none=>false
def A8g (offs:List (Nat×Nat)) (n:Nat):Option TypeInfo->Bool
 | some i=>offs==(List.range n).map λk=>(k*i.size,i.size)
 | none=>false
def A6a (e:Nat) (te:Option TI):Option TypeInfo->Bool
 | some i=>match i.zero,te with|some z,some te=>OL z.cells.toList te.ty.zero&&aO te.ty z|_,_=>false
 | none=>false
def A6G (P:Program) (tb:Tb) (j:Nat) (d:TypeDesc):List (Nat×Nat)->Bool
 | [(k,e)]=>j != 2||(match d with|.map b a=>b==k&&a==e&&(lk k tb.ty).isSome&&A6a e (lk e tb.ty) (P.info? e)|_=>false)
 | _=>true
theorem A3Y {P:Program} {tb:Tb} {j:Nat} {d:TypeDesc} {offs:List (Nat×Nat)} (h:A6G P tb j d offs=true):∀k e,j=2->offs=[(k,e)]->d=.map k e/\∃(a te:TI) (z:Value),lk k tb.ty=some a/\lk e tb.ty=some te/\(∃i,P.info? e=some i/\i.zero=some z)/\z.cells=te.ty.zero.toArray/\aO te.ty z=true:=by
 rintro k e rfl rfl;simp only[A6G,bne_self_eq_false,Bool.false_or]at h;split at h
 .simp only[An,UQ]at h;obtain⟨⟨⟨rfl,rfl⟩,b⟩,c⟩:=h;refine⟨rfl,?_⟩;obtain⟨a,f⟩:=AAM.1 b;unfold A6a at c;grind [RD]
 cases h
def A8h (P:Program) (tb:Tb) (ti:TI):Ty->Option TypeDesc->Bool
 | .int k,some (.int a)=>k==a
 | .bool,some .bool=>true
 | .str,some .string=>true
 | .slice e,some (.slice el)=>el==ti.el&&(match lk ti.el tb.ty with|some te=>decide (te.ty=e)|none=>false)
 | .agg _,some (.struct fs)=>ti.el==0&&ti.offs.map some==fs.toList.map λf=>(P.info? f.type).map λi=>(f.offset,i.size)
 | .agg _,some (.array n e)=>ti.el != 0&&A8g ti.offs n (P.info? e)
 | .ref _,some (.struct _)=>false
 | .ref _,some (.array _ _)=>false
 | .ref j,some d=>A6G P tb j d ti.offs
 | _,_=>false
def tiB (P:Program) (tb:Tb) (id:TypeId) (ti:TI):Bool:=((ti.offs.all λp=>p.2 != 0)&&(decide (0<ti.bytes)&&zV P id ti.ty ti.el))&&A69 ti.ty ti.bytes (P.info? id)&&A8h P tb ti ti.ty (P.underlying id)
theorem A6H {P:Program} {tb:Tb} {id:TypeId} {ti:TI} (h:tiB P tb id ti=true):EK P tb id ti:=by
 simp only[tiB,An]at h;obtain⟨⟨⟨h0,hb,c⟩,h1⟩,a⟩:=h;refine⟨⟨⟨λp d=>by simpa using (NO.1 h0) p d,by simpa using hb,zW c⟩,?_⟩,?_⟩
 .unfold A69 at h1;grind [RD]
 generalize hu:P.underlying id=u at a;generalize ti.ty=t at a;cases t<;>cases u<;>simp only[A8h]at a<;>try(cases a;done)
 all_goals
  rename_i u;cases u<;>simp only at a<;>try(cases a;done)
 .grind
 .rfl
 .rfl
 .grind
 .rename_i n e;simp only[An,ABw]at a;obtain⟨b,a⟩:=a;unfold A8g at a;split at a
  .rename_i i hi;exact .inr ⟨_,_,i,b,rfl,hi,by simpa using a⟩
  cases a
 .grind
 all_goals exact⟨_,rfl,trivial,A3Y a⟩
theorem A3Z {P:Program} {tb:Tb} (h:(tb.ty.all λp=>tiB P tb p.1 p.2)=true):DC P tb:=λid ti hi=>by
 rw[NO]at h;exact A6H (h _ (FK hi))
def Ty.isAgg:Ty->Bool
 | .agg _=>true
 | .int _=>false
 | .bool=>false
 | .str=>false
 | .slice _=>false
 | .prod _ _=>false
 | .ref _=>false
section
variable {P:Program} {tb:Tb} {id:TypeId} {ti:TI} (w:World)
theorem Lj {i:TypeInfo} (h:P.info? id=some i):(typeInfo id).run P w=.ok i w:=by simp[typeInfo,h]
theorem A40 (h:EK P tb id ti):(isAgg id).run P w=.ok ti.ty.isAgg w:=by
 obtain⟨_,a⟩:=h;cases ht:ti.ty<;>rw[ht]at a<;>simp only at a;case agg =>
  rcases a with ⟨fs,_,hu,_⟩|⟨n,e,_,_,hu,_⟩<;>simp[isAgg,Sb hu,Ty.isAgg]
 case slice=>simp[isAgg,Sb a.1,Ty.isAgg]
 case ref k =>
  obtain⟨d,hu,hd,_⟩:=a;cases d<;>first|exact hd.elim|simp[isAgg,Sb hu,Ty.isAgg]
 all_goals simp[isAgg,Sb a,Ty.isAgg]
theorem H7 (h:EK P tb id ti):(sizeOf id).run P w=.ok ti.ty.size w:=by
 obtain⟨⟨_,i,z,h1,a,_⟩,_⟩:=h;simp[sizeOf,Lj w h1,a]
theorem EK.noprod (h:EK P tb id ti) {a b:Ty}:ti.ty≠.prod a b:=by
 intro e;have:=h.2;rw[e]at this;exact this
theorem eF (h:EK P tb id ti) {ad:Addr} {cs:List Value} (hl:cs.length=ti.ty.size) (d:∀(j:Nat) (u:Value),cs[j]?=some u->w.cell? (ad.add j)=some u) :
  (loadVar id ad).run P w=.ok (ti.ty.wrap cs) w:=by
 have f:=λa b=>h.noprod (a:=a) (b:=b);simp only[loadVar,AAm,A40 w h,tO];cases ht:ti.ty;case prod a b=>exact absurd ht (f a b)
 case agg u =>
  have e:ti.ty.size=cs.length:=hl.symm;simp only[Ty.isAgg,AAd,AAm,H7 w h,tO,e,run_loadCells_list w ad cs d,Ty.wrap];rfl
 all_goals
  rw[ht]at hl;obtain⟨c,rfl⟩:=AAS.1 hl;have h0:=d 0 c rfl;rw[Mm]at h0;simp[Ty.isAgg,Ty.wrap,h0]
theorem EY (h:EK P tb id ti) {ad:Addr} {cs:List Value} (hl:cs.length=ti.ty.size) (a:∀(j:Nat) (u:Value),cs[j]?=some u->w.cell? (ad.add j)=some u) :
  (Instr.loadAt id (.pointer (some ad))).run P w=.ok (ti.ty.wrap cs) w:=by
 simp[Instr.loadAt,Instr.sureAddr,eF w h hl a]
end
end
end Go.Proofs.YtapkhdkbkodbjaaGreat.Fw
