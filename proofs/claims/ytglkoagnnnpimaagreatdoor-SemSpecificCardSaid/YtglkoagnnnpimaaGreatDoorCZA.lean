/- Typed values, how they lie in memory, the executor's words and the table of types: what they mean. -/
import Derived.ProofKit
import Derived.Orders
import Derived.Laws.AppendOwn
import Derived.Laws.MakeOwn
import Derived.Laws.OwnMore
set_option linter.unusedVariables false
set_option linter.unusedSimpArgs false
namespace Go.Proofs.YtglkoagnnnpimaaGreatDoor.Fw
theorem O1 {p:Prop} (h:p:=by omega):p:=h
theorem sc {p:Prop} (h:p:=by simp):p:=h
theorem dg {p:Prop} (h:p:=by decide):p:=h
variable {u v:Value} {Z W:List Value} {f g:TypeId} {b c n:Nat} {O U:Nat->Prop} {w Y S:World} {h:Option Nat} {a:Option Addr} {X V:Nat->Value} {d:Array Value} {P:Program} {T:Type} {R:Addr}
abbrev AS:=@List.getD_eq_getElem?_getD
abbrev AT:=@List.getElem?_eq_getElem
abbrev An:=@Bool.and_eq_true
abbrev As:=@if_neg
abbrev At:=@if_pos
abbrev BY:=@List.take_of_length_le
abbrev By:=@Classical.byContradiction
abbrev DO:=@Nat.zero_le
abbrev Do:=@List.length_append
abbrev GO:=@List.mem_cons
abbrev IF:=@List.mem_cons_of_mem
abbrev IN:=@decide_eq_true_eq
abbrev IS:=@List.mem_map
abbrev If:=@List.drop_eq_nil_of_le
abbrev Is:=@List.length_cons
abbrev NO:=@List.mem_append
abbrev No:=@Option.map_eq_some_iff
abbrev OF:=@List.all_eq_true
abbrev ON:=@List.drop_eq_getElem_cons
abbrev OR:=@List.foldl_cons
abbrev OS:=@Nat.le_refl
abbrev Of:=@List.length_take
abbrev On:=@Int.ofNat_lt
abbrev QO:=@List.getElem?_eq_some_iff
abbrev TO:=@Bool.not_eq_true'
abbrev To:=@decide_eq_false_iff_not
abbrev aS:=@List.length_map
abbrev aT:=@List.any_eq_true
abbrev bY:=@List.cons_append
abbrev f8:=@Go.run_underlying
abbrev gO:=@Int.toNat_natCast
abbrev iF:=@Nat.le_trans
abbrev iN:=@List.nil_append
abbrev iS:=@List.mem_cons_self
abbrev i5:=@List.length_singleton
abbrev nO:=@List.map_cons
abbrev oF:=@List.getElem?_eq_none
abbrev oN:=@Bool.or_eq_true
abbrev oR:=@List.mem_singleton
abbrev oS:=@List.pairwise_iff_getElem
abbrev sA:=@List.getElem?_append_right
abbrev tO:=@List.take_length
abbrev wH:=@List.mem_range
abbrev AA6:=@List.mem_append_left
abbrev AA7:=@List.getElem?_append_left
abbrev AA8:=@List.append_assoc
abbrev AA9:=@List.eq_nil_of_length_eq_zero
abbrev AAa:=@Nat.mul_le_mul_right
abbrev AAb:=@beq_iff_eq
abbrev AAc:=@Int.ofNat_le
abbrev AAd:=@List.map_congr_left
abbrev AAe:=@Array.getElem?_eq_some_iff
abbrev AAj:=@List.getElem?_take
abbrev AAp:=@Go.Result.andThen_ok
abbrev AAq:=@List.length_set
abbrev AAr:=@Bool.or_eq_false_iff
abbrev AAs:=@List.length_nil
abbrev AAt:=@List.ext_getElem
abbrev AAu:=@List.getElem_mem
abbrev AAv:=@List.append_nil
abbrev AAw:=@List.pairwise_cons
abbrev AAx:=@List.mem_of_mem_take
abbrev AAy:=@List.mem_iff_getElem
abbrev AAz:=@Array.getElem?_eq_getElem
abbrev AAA:=@List.range_succ
abbrev AAB:=@List.nodup_cons
abbrev AAC:=@List.mem_iff_getElem?
abbrev AAD:=@List.getElem?_map
abbrev AAE:=@Int.natCast_nonneg
abbrev AAF:=@List.mem_of_getElem?
abbrev AAG:=@List.pairwise_map
abbrev AAH:=@List.filter_cons
abbrev AAI:=@List.length_take_le
abbrev AAJ:=@Nat.lt_of_lt_of_le
abbrev AAK:=@Go.Sem.run_bind
abbrev AAL:=@List.drop_zero
abbrev AAM:=@List.getElem?_append
abbrev AAN:=@List.map_append
abbrev AAO:=@List.getElem?_drop
abbrev AAP:=@List.mem_append_right
abbrev AAQ:=@if_true
abbrev AAR:=@beq_eq_false_iff_ne
abbrev AAS:=@List.take_succ_cons
abbrev AAT:=@Option.isNone_iff_eq_none
abbrev AAU:=@List.getElem?_set
abbrev AAV:=@List.length_eq_one_iff
abbrev AAW:=@Int.not_lt
abbrev AAX:=@Nat.zero_add
abbrev AAY:=@Bool.and_eq_false_iff
abbrev AAZ:=@decide_eq_true
abbrev AB0:=@List.take_zero
abbrev AB1:=@Option.some.injEq
abbrev AB2:=@List.nodup_append
abbrev AB3:=@congrArg
abbrev AB4:=@Bool.false_eq_true
abbrev AB5:=@List.mem_or_eq_of_mem_set
abbrev AB6:=@List.mem_filter
abbrev AB7:=@Nat.lt_succ_self
abbrev AB8:=@Nat.succ_mul
abbrev AB9:=@if_false
abbrev ABa:=@List.getElem?_replicate
abbrev ABb:=@List.prefix_refl
abbrev ABc:=@List.length_drop
abbrev ABe:=@Int.tdiv_eq_ediv_of_nonneg
abbrev ABf:=@Int.toNat_of_nonneg
abbrev ABg:=@Int.le_refl
abbrev ABh:=@Nat.sub_self
abbrev ABi:=@List.singleton_append
abbrev ABj:=@List.map_nil
abbrev ABk:=@List.map_map
abbrev ABl:=@List.length_filter_le
abbrev ABm:=@List.cons.injEq
abbrev ABn:=@Option.isSome_iff_exists
abbrev ABo:=@List.mem_flatMap
abbrev ABp:=@List.mem_of_mem_drop
abbrev ABq:=@Nat.add_sub_cancel_left
abbrev ABr:=@List.all_cons
abbrev ABs:=@Int.le_trans
abbrev ABt:=@List.foldl_append
abbrev ABu:=@Option.map_some
abbrev ABv:=@Nat.mul_le_mul_left
abbrev ABw:=@Nat.min_eq_left
abbrev ABx:=@List.getElem?_range
abbrev ABy:=@List.flatMap_append
abbrev ABz:=@Int.tmod_eq_emod_of_nonneg
abbrev ABA:=@List.getElem_map
abbrev ABB:=@List.countP_cons
abbrev ABC:=@List.take_append_drop
abbrev ABD:=@List.getElem_range
abbrev ABE:=@ByteArray.size_append
abbrev ABF:=@List.mem_take_iff_getElem
abbrev ABG:=@Array.mapM_eq_mapM_toList
abbrev ABH:=@List.pairwise_append
abbrev ABI:=@BitVec.testBit_toNat
abbrev ABJ:=@List.flatMap_cons
abbrev ABL:=@Bool.eq_iff_iff
abbrev ABM:=@Bool.eq_false_iff
abbrev ABN:=@bne_eq_false_iff_eq
abbrev ABO:=@List.getElem?_cons_zero
abbrev ABP:=@Option.getD_some
abbrev ABQ:=@List.not_mem_nil
abbrev ABS:=@List.filter_append
abbrev ABT:=@Bool.not_eq_false'
abbrev ABU:=@List.any_append
abbrev ABV:=@not_true_eq_false
abbrev ABW:=@List.all_eq_false
abbrev ABX:=@Go.World.cell?_of_block
abbrev ABY:=@List.mem_of_find?_eq_some
abbrev ABZ:=@List.drop_drop
abbrev AC1:=@List.drop_length
abbrev AC3:=@decide_eq_false
abbrev AC4:=@Nat.le_antisymm
abbrev AC5:=@List.filter_nil
abbrev AC6:=@List.all_append
abbrev AC7:=@Bool.true_and
abbrev AC8:=@Bool.or_false
abbrev AC9:=@List.length_pos_of_mem
abbrev ACa:=@List.getElem?_set_self
abbrev ACb:=@bne_iff_ne
abbrev ACc:=@Nat.lt_trichotomy
abbrev ACd:=@Nat.add_mul
abbrev ACe:=@List.take_add_one
abbrev ACf:=@List.length_range
abbrev ACg:=@List.ext_getElem?
abbrev ACi:=@Bool.not_false
abbrev ACj:=@List.set_append_right
abbrev ACk:=@List.eq_nil_iff_forall_not_mem
abbrev ACl:=@List.cons.sizeOf_spec
abbrev ACm:=@List.exists_mem_of_length_pos
abbrev ACn:=@List.mem_erase_of_ne
abbrev ACo:=@List.getElem?_set_ne
abbrev ACp:=@Prod.mk.injEq
abbrev ACq:=@Nat.add_assoc
abbrev ACr:=@Nat.and_le_left
abbrev ACs:=@List.drop_succ_cons
abbrev ACt:=@Array.length_toList
abbrev ACu:=@Option.isSome_some
abbrev ACv:=@Nat.lt_of_le_of_lt
abbrev ACw:=@List.zip_cons_cons
abbrev ACx:=@List.set_cons_zero
abbrev ACy:=@List.set_cons_succ
abbrev ACz:=@List.prefix_append
abbrev ACA:=@List.mem_replicate
abbrev ACB:=@List.mem_filterMap
abbrev ACC:=@List.find?_eq_none
abbrev ACD:=@List.countP_append
abbrev ACE:=@Int.toNat_lt
abbrev ACF:=@Int.lt_of_le_of_lt
abbrev ACG:=@Int.add_zero
abbrev ACH:=@Option.some_or
abbrev ACI:=@List.take_take
abbrev ACJ:=@not_false_eq_true
abbrev ACK:=@Option.ext
abbrev ACL:=@List.any_eq_false
abbrev ACM:=@Int.not_le
abbrev ACP:=@Nat.succ_ne_zero
abbrev ACQ:=@List.reverse_nil
abbrev ACR:=@List.range'_succ
abbrev ACS:=@List.perm_middle
abbrev ACT:=@List.drop_append
abbrev ACU:=@Nat.zero_mul
abbrev ACV:=@List.find?_some
abbrev ACW:=@Nat.mod_lt
abbrev ACX:=@or_false
inductive Ty where
 | int (k:IntKind)
 | bool
 | str
 | slice (e:Ty)
 | prod (a b:Ty)
 | agg (t:Ty)
 
 | ref (k:Nat)
 deriving DecidableEq
def Y0:Nat->Value
 | 0=>.pointer none
 | 1=>.nilFunc
 | 2=>.map none
 | _=>.nilIface
abbrev QT:Type:=Option (Nat×Option ByteArray)
def QU (k:Nat):QT->Value
 | none=>Y0 k
 | some (t,none)=>.iface t (.agg #[])
 | some (t,some s)=>.iface t (.agg #[.string s])
def AO:Nat:=140737488355328
def A5B (k:Nat):QT->Prop
 | none=>True
 | some (_,none)=>k=3
 | some (_,some s)=>k=3/\s.size<=AO
@[reducible] def Ty.den:Ty->Type
 | .int _=>Int
 | .bool=>Bool
 | .str=>ByteArray
 | .slice e=>List e.den
 | .prod a b=>a.den×b.den
 | .agg t=>t.den
 | .ref _=>QT
def Ty.size:Ty->Nat
 | .prod a b=>a.size+b.size
 | .agg t=>t.size
 | .int _=>1
 | .bool=>1
 | .str=>1
 | .slice _=>1
 | .ref _=>1
def Ty.dflt:(t:Ty)->t.den
 | .int _=>(0:Int)
 | .bool=>false
 | .str=>ByteArray.empty
 | .slice _=>[]
 | .prod a b=>(a.dflt,b.dflt)
 | .agg t=>t.dflt
 | .ref _=>none
def Ty.zero:Ty->List Value
 | .int k=>[.int k 0]
 | .bool=>[.bool false]
 | .str=>[.string ByteArray.empty]
 | .slice _=>[.slice none 0 0]
 | .prod a b=>a.zero++b.zero
 | .agg t=>t.zero
 | .ref k=>[Y0 k]
def Ty.wrap:Ty->List Value->Value
 | .agg _,cs=>.agg cs.toArray
 | .prod _ _,cs=>.agg cs.toArray
 | .int _,cs=>cs.headD undef
 | .bool,cs=>cs.headD undef
 | .str,cs=>cs.headD undef
 | .slice _,cs=>cs.headD undef
 | .ref _,cs=>cs.headD undef
def H2 (k:IntKind) (n:Int):Prop:=k.min<=n/\n<=k.max
def Bq (w:World) (O:Nat->Prop):(t:Ty)->List Value->t.den->Prop
 | .int k,cs,d=>cs=[.int k d]/\H2 k d
 | .bool,cs,d=>cs=[.bool d]
 | .str,cs,d=>cs=[.string d]/\ByteArray.size d<=AO
 | .slice e,cs,d=>∃(a:Option Addr) (c:Nat),cs=[.slice a (List.length d) c]/\List.length d<=c/\List.length d<=AO /\
   (d=[]\/∃ad:Addr,a=some ad/\¬O ad.block /\
    ∀(i:Nat) (x:e.den),d[i]?=some x->∃f:List Value,f.length=e.size/\(∀(j:Nat) (v:Value),f[j]?=some v->w.cell? (ad.add (i*e.size+j))=some v)/\Bq w O e f x)
 | .prod a b,cs,d=>∃c1 c2:List Value,cs=c1++c2/\Bq w O a c1 d.1/\Bq w O b c2 d.2
 | .agg t,cs,d=>Bq w O t cs d
 | .ref k,cs,d=>cs=[QU k d]/\A5B k d
def BS (w:World) (O:Nat->Prop) (t:Ty) (v:Value) (d:t.den):Prop:=∃cs,Bq w O t cs d/\v=t.wrap cs
theorem B0 (a:Addr) (n:Nat):(a.add n).block=a.block:=by unfold Addr.add;split<;>rfl
theorem Cp (a:Addr) (i j:Nat):(a.add i).add j=a.add (i+j):=by
 unfold Addr.add;grind
theorem MQ (a:Addr):a.add 0=a:=rfl
theorem Th (g j:Nat):(⟨g,0,none⟩:Addr).add j=⟨g,j,none⟩:=by
 unfold Addr.add;split<;>simp_all
theorem Iy (g i j:Nat):(⟨g,i,none⟩:Addr).add j=⟨g,i+j,none⟩:=by
 unfold Addr.add;split<;>simp_all
theorem Ty.size_pos:∀t:Ty,0<t.size
 | .int _=>by simp[Ty.size]
 | .bool=>by simp[Ty.size]
 | .str=>by simp[Ty.size]
 | .slice _=>by simp[Ty.size]
 | .ref _=>by simp[Ty.size]
 | .prod a b=>by have:=a.size_pos;simp[Ty.size];omega
 | .agg t=>by simpa[Ty.size] using t.size_pos
theorem Bq.length {w:World} {O:Nat->Prop}:∀ {t:Ty} {cs:List Value} {d:t.den},Bq w O t cs d->cs.length=t.size
 | .int _,_,_,h=>by obtain⟨rfl,_⟩:=h;rfl
 | .bool,_,_,h=>by have h:_=_:=h;subst h;rfl
 | .str,_,_,h=>by obtain⟨rfl,_⟩:=h;rfl
 | .slice _,_,_,h=>by obtain⟨_,_,rfl,_⟩:=h;rfl
 | .ref _,_,_,h=>by obtain⟨rfl,_⟩:=h;rfl
 | .prod a b,_,_,h=>by
  obtain⟨c1,c2,rfl,h1,c⟩:=h;simp[Ty.size,Bq.length h1,Bq.length c]
 | .agg t,_,_,h=>by
  have h:Bq w O t _ _:=h;simpa[Ty.size] using Bq.length h
theorem Ti (k:Nat) (d:QT):(QU k d).oneCell'=true:=by
 match d with
 | some (_,none)=>rfl
 | some (_,some _)=>rfl
 | none=>match k with
  | 0=>rfl
  | 1=>rfl
  | 2=>rfl
  | _+3=>rfl
theorem Tj (k:Nat) (d:QT):(QU k d).cells=#[QU k d]:=by
 match d with
 | some (_,none)=>rfl
 | some (_,some _)=>rfl
 | none=>match k with
  | 0=>rfl
  | 1=>rfl
  | 2=>rfl
  | _+3=>rfl
theorem Bq.one {w:World} {O:Nat->Prop}:∀ {t:Ty} {cs:List Value} {d:t.den},Bq w O t cs d->∀v∈cs,v.oneCell'=true
 | .int _,_,_,h=>by obtain⟨rfl,_⟩:=h;simp[Value.oneCell']
 | .bool,_,_,h=>by have h:_=_:=h;subst h;simp[Value.oneCell']
 | .str,_,_,h=>by obtain⟨rfl,_⟩:=h;simp[Value.oneCell']
 | .slice _,_,_,h=>by obtain⟨_,_,rfl,_⟩:=h;simp[Value.oneCell']
 | .ref k,_,d,h=>by
  obtain⟨rfl,_⟩:=h;intro v c;obtain rfl:=oR.1 c;exact Ti k d
 | .prod a b,_,_,h=>by
  obtain⟨c1,c2,rfl,h1,e⟩:=h;intro v c;rcases NO.1 c with c|c
  .exact Bq.one h1 v c
  exact Bq.one e v c
 | .agg t,_,_,h=>by
  have h:Bq w O t _ _:=h;exact Bq.one h
theorem Bq.mono {w w':World} {O O':Nat->Prop} (f:∀b,b<w.heap.size->¬O b->¬O' b) (k:∀b,b<w.heap.size->¬O b->w'.heap[b]?=w.heap[b]?) :
  ∀ {t:Ty} {cs:List Value} {d:t.den},Bq w O t cs d->Bq w' O' t cs d
 | .int _,_,_,h=>h
 | .bool,_,_,h=>h
 | .str,_,_,h=>h
 | .ref _,_,_,h=>h
 | .slice e,_,d,h=>by
  obtain⟨a,c,rfl,h1,l,m⟩:=h;refine⟨a,c,rfl,h1,l,?_⟩;rcases m with m|⟨ad,rfl,s,q⟩
  .exact .inl m
  by_cases o:d=[]
  .exact .inl o
  have y:ad.block<w.heap.size:=by
   obtain⟨x,r,rfl⟩:∃x r,d=x :: r:=List.exists_cons_of_ne_nil o;obtain⟨g,p,n,_⟩:=q 0 x rfl;have A:=e.size_pos;have:g[0]?=some (g[0]'(by omega)):=AT O1;have:=block_lt_of_cell (n 0 _ this)
   rwa [B0]at this
  refine .inr ⟨ad,rfl,f _ y s,λi x hi=>?_⟩;obtain⟨g,p,n,z⟩:=q i x hi;refine⟨g,p,λj v u=>?_,Bq.mono f k z⟩;rw[ABX (w:=w) (w':=w')]
  .exact n j v u
  grind [B0]
 | .prod a b,_,_,h=>by
  obtain⟨c1,c2,rfl,h1,l⟩:=h;exact⟨c1,c2,rfl,Bq.mono f k h1,Bq.mono f k l⟩
 | .agg t,_,_,h=>by
  have h:Bq w O t _ _:=h;exact(Bq.mono f k h:Bq w' O' t _ _)
theorem BS.mono {w':World} {O':Nat->Prop} (c:∀b,b<w.heap.size->¬O b->¬O' b) (e:∀b,b<w.heap.size->¬O b->w'.heap[b]?=w.heap[b]?)
  {t:Ty} {v:Value} {d:t.den} (h:BS w O t v d):BS w' O' t v d :=
 let ⟨cs,h1,a⟩:=h
 ⟨cs,h1.mono c e,a⟩
theorem Bq.zero (w:World) (O:Nat->Prop):∀t:Ty,Bq w O t t.zero t.dflt
 | .int k=>⟨rfl,by cases k<;>exact⟨by decide,by decide⟩⟩
 | .bool=>rfl
 | .str=>⟨rfl,by simp[Ty.dflt,AO]⟩
 | .slice _=>⟨none,0,rfl,by simp[Ty.dflt],by simp[Ty.dflt,AO],.inl rfl⟩
 | .ref _=>⟨rfl,trivial⟩
 | .prod a b=>⟨_,_,rfl,Bq.zero w O a,Bq.zero w O b⟩
 | .agg t=>(Bq.zero w O t:Bq w O t _ _)
structure PV where
 t:Ty
 d:t.den
def BT (t:Ty) (p:PV):Option t.den:=if h:p.t=t then some (h▸p.d) else none
theorem GQ (t:Ty) (d:t.den):BT t ⟨t,d⟩=some d:=by simp[BT]
def Gz:(t:Ty)->Nat->t.den->Option PV
 | .prod a _,0,d=>some ⟨a,d.1⟩
 | .prod _ b,k+1,d=>Gz b k d.2
 | .int k,0,d=>some ⟨.int k,d⟩
 | .bool,0,d=>some ⟨.bool,d⟩
 | .str,0,d=>some ⟨.str,d⟩
 | .slice e,0,d=>some ⟨.slice e,d⟩
 | .agg t,0,d=>some ⟨.agg t,d⟩
 | .ref k,0,d=>some ⟨.ref k,d⟩
 | _,_,_=>none
def Nc:(t:Ty)->Nat->t.den->PV->Option t.den
 | .prod a _,0,d,x=>(BT a x).map λy=>(y,d.2)
 | .prod _ b,k+1,d,x=>(Nc b k d.2 x).map λy=>(d.1,y)
 | .int k,0,_,x=>BT (.int k) x
 | .bool,0,_,x=>BT .bool x
 | .str,0,_,x=>BT .str x
 | .slice e,0,_,x=>BT (.slice e) x
 | .agg t,0,_,x=>BT (.agg t) x
 | .ref k,0,_,x=>BT (.ref k) x
 | _,_,_,_=>none
def Kv:Ty->Nat->Option Nat
 | .prod _ _,0=>some 0
 | .prod a b,k+1=>(Kv b k).map (a.size + ·)
 | .int _,0=>some 0
 | .bool,0=>some 0
 | .str,0=>some 0
 | .slice _,0=>some 0
 | .agg _,0=>some 0
 | .ref _,0=>some 0
 | _,_=>none
def bP:Ty->Nat->Option Ty
 | .prod a _,0=>some a
 | .prod _ b,k+1=>bP b k
 | .int k,0=>some (.int k)
 | .bool,0=>some .bool
 | .str,0=>some .str
 | .slice e,0=>some (.slice e)
 | .agg t,0=>some (.agg t)
 | .ref k,0=>some (.ref k)
 | _,_=>none
def Tk:List Nat->(t:Ty)->t.den->Option PV
 | [],t,d=>some ⟨t,d⟩
 | k :: r,.agg t,d=>match Gz t k d with
  | some pv=>Tk r pv.t pv.d
  | none=>none
 | _ :: _,_,_=>none
def Wg:List Nat->(t:Ty)->t.den->PV->Option t.den
 | [],t,_,x=>BT t x
 | k :: r,.agg t,d,x=>match Gz t k d with
  | some pv=>match Wg r pv.t pv.d x with
   | some y=>Nc t k d ⟨pv.t,y⟩
   | none=>none
  | none=>none
 | _ :: _,_,_,_=>none
def Mz:List Nat->Ty->Option Nat
 | [],_=>some 0
 | k :: r,.agg t=>match Kv t k,bP t k with
  | some o,some u=>(Mz r u).map (o + ·)
  | _,_=>none
 | _ :: _,_=>none
inductive AV where
 
 | p (t:Ty) (d:t.den)
 
 | raw (v:Value)
 
 | sr (n:Nat) (e:Ty) (lo hi:Nat)
 
 | ep (n:Nat) (e:Ty) (i:Nat) (path:List Nat) (off:Nat)
 
 | pc (e:Ty) (d:List e.den)
 
 | ip (t:Ty) (d:t.den)
 
 | bp (n:Nat) (path:List Nat) (off:Nat)
 | fn (f:FuncId)
 
 | clo (f:FuncId) (ns:List Nat)
 
 | mp (n:Nat)
 
 | yl (n:Nat)
 
 | nin (n:Nat) (e:Ty) (i len:Nat)
 
 | ag (l:List AV)
 | tup (l:List AV)
 
 | top
inductive Obj where
 | arr (et:TypeId) (e:Ty) (xs:List e.den)
 | box (et:TypeId) (st:Bool) (fs:List AV)
 
 | mapo (k v:Ty) (l:List (k.den×v.den))
 
 | itr (k v:Ty) (l:List (k.den×v.den)) (left:List Nat) (cur:Option Nat)
 
 | nest (et iet:TypeId) (k e:Ty) (xs:List (k.den×List e.den)) (h:Option Nat)
 
 | frame (tm:Array Value) (fs:List (Nat×AV))
 
 | loop (L:Go.Loop)
 
 | dfr
 
 | sit (s:ByteArray) (pos:Nat)
structure St where
 env:List (Nat×AV)
 objs:List (Nat×Obj)
def lk {α:Type}:Nat->List (Nat×α)->Option α
 | _,[]=>none
 | k,(j,v) :: r=>if k=j then some v else lk k r
def del {α:Type}:Nat->List (Nat×α)->List (Nat×α)
 | _,[]=>[]
 | k,(j,v) :: r=>if k=j then del k r else (j,v) :: del k r
def upd {α:Type}:Nat->α->List (Nat×α)->List (Nat×α)
 | _,_,[]=>[]
 | k,u,(j,v) :: r=>if k=j then (j,u) :: upd k u r else (j,v) :: upd k u r
def sub {α:Type} (xs:List α) (lo hi:Nat):List α:=(xs.drop lo).take (hi-lo)
theorem Jg {α:Type} (xs:List α):sub xs 0 xs.length=xs:=by simp[sub]
structure TI where
 ty:Ty
 offs:List (Nat×Nat):=[]
 el:TypeId:=0
 bytes:Nat
inductive RV where
 | p (t:Ty) (d:t.den)
 | own (et:TypeId) (e:Ty) (xs:List e.den)
@[reducible] def IY:List Ty->Type
 | []=>Unit
 | t :: r=>t.den×IY r
def Ty.flat:Ty->Bool
 | .slice _=>false
 | .prod a b=>a.flat&&b.flat
 | .agg t=>t.flat
 | .int _=>true
 | .bool=>true
 | .str=>true
 | .ref _=>true
def RV.flat:RV->Bool
 | .p t _=>t.flat
 | .own _ _ _=>false
structure AW where
 ins:List Ty
 lend:Bool:=false
 pre:IY ins->Prop
 out:IY ins->List RV
structure Tb where
 ty:List (Nat×TI)
 fns:List (Nat×AW)
 
 pure:List Nat:=[]
 
 nests:List (Nat×TypeId):=[]
 
 live:List Nat:=[]
def inB (n:Nat):List Nat->Bool
 | []=>false
 | m :: r=>if n=m then true else inB n r
def H6:Value->AV
 | .int k n=>if k.min<=n/\n<=k.max then .p (.int k) n else .raw (.int k n)
 | .bool b=>.p .bool b
 | .string s=>if s.size<=AO then .p .str s else .raw (.string s)
 | v=>.raw v
def Ag (σ:St):Operand->Option AV
 | .tmp t=>lk t σ.env
 | .const v=>some (H6 v)
 | .func f=>some (.fn f)
 | .global _=>none
def Oj (e:Ty) (lo hi:Nat):Option Obj->Option (List e.den)
 | some (.arr _ a xs)=>BT (.slice e) ⟨.slice a,sub xs lo hi⟩
 | some (.nest _ _ k a xs none)=>BT (.slice e) ⟨.slice (.agg (.prod k (.slice a))),sub xs lo hi⟩
 | _=>none
def SW (e:Ty) (i:Nat):Option Obj->Option (List e.den)
 | some (.nest _ _ k a xs none)=>BT (.slice e) ⟨.slice a,(xs.getD i (k.dflt,[])).2⟩
 | _=>none
def Em (l:Bool) (σ:St):(t:Ty)->AV->Option t.den
 | t,.p u d=>BT t ⟨u,d⟩
 | .slice e,.sr n a lo hi=>if l=true/\a=e then Oj e lo hi (lk n σ.objs) else none
 | .slice e,.nin n a i _=>if l=true/\a=e then SW e i (lk n σ.objs) else none
 | .slice _,.raw (.slice none 0 0)=>some []
 | _,_=>none
def NC {α β:Type}:Option α->Option β->Option (α×β)
 | some a,some b=>some (a,b)
 | _,_=>none
def Kw (l:Bool) (σ:St):List AV->(t:Ty)->Option t.den
 | [],_=>none
 | [x],t=>Em l σ t x
 | x :: y :: r,.prod a b=>NC (Em l σ a x) (Kw l σ (y :: r) b)
 | _ :: _ :: _,_=>none
def IZ (l:Bool) (σ:St):(t:Ty)->AV->Option t.den
 | .agg t,.ag fs=>Kw l σ fs t
 | t,x=>Em l σ t x
def Ab (n:Nat):List Nat->Bool
 | []=>false
 | m :: r=>if n=m then true else Ab n r
theorem Ai (n:Nat):∀l:List Nat,Ab n l=true↔n∈l
 | []=>by simp[Ab]
 | m :: r=>by
  simp only[Ab,GO];split
  .rename_i h;simp[h]
  rename_i h;simp[h,Ai n r]
mutual
def AV.fgt (hs:List Nat):AV->AV
 | .sr m e lo hi=>if Ab m hs=true then .top else .sr m e lo hi
 | .ep m e i path off=>if Ab m hs=true then .top else .ep m e i path off
 | .nin m e i len=>if Ab m hs=true then .top else .nin m e i len
 | .bp m path off=>if Ab m hs=true then .top else .bp m path off
 | .mp m=>if Ab m hs=true then .top else .mp m
 | .yl m=>if Ab m hs=true then .top else .yl m
 | .clo f ns=>if (ns.any λn=>Ab n hs)=true then .top else .clo f ns
 | .ag l=>.ag (AV.fgts hs l)
 | .tup l=>.tup (AV.fgts hs l)
 | .p t d=>.p t d
 | .pc e d=>.pc e d
 | .raw v=>.raw v
 | .ip t d=>.ip t d
 | .fn f=>.fn f
 | .top=>.top
def AV.fgts (hs:List Nat):List AV->List AV
 | []=>[]
 | x :: r=>AV.fgt hs x :: AV.fgts hs r
end
def Cq (hs:List Nat):List (Nat×AV)->List (Nat×AV)
 | []=>[]
 | (s,x) :: r=>(s,x.fgt hs) :: Cq hs r
def Obj.fgt (hs:List Nat):Obj->Obj
 | .arr et e xs=>.arr et e xs
 | .box et st fs=>.box et st (AV.fgts hs fs)
 | .mapo k v l=>.mapo k v l
 | .nest et b k e xs h=>.nest et b k e xs h
 | .frame i fs=>.frame i (Cq hs fs)
 | .loop L=>.loop L
 | .itr c g d f a=>.itr c g d f a
 | .dfr=>.dfr
 | .sit sb sp=>.sit sb sp
def Az (a hs:List Nat):List (Nat×Obj)->List (Nat×Obj)
 | []=>[]
 | (n,o) :: r=>if Ab n a=true then Az a hs r else (n,o.fgt hs) :: Az a hs r
mutual
def AV.trn (n:Nat) (hs:List Nat):AV->AV
 | .nin m e i len=>if m=n\/Ab m hs=true then .top else .nin m e i len
 | .sr m e lo hi=>if Ab m hs=true then .top else .sr m e lo hi
 | .ep m e i path off=>if Ab m hs=true then .top else .ep m e i path off
 | .bp m path off=>if Ab m hs=true then .top else .bp m path off
 | .mp m=>if Ab m hs=true then .top else .mp m
 | .yl m=>if Ab m hs=true then .top else .yl m
 | .clo f ns=>if (ns.any λn=>Ab n hs)=true then .top else .clo f ns
 | .ag l=>.ag (AV.trns n hs l)
 | .tup l=>.tup (AV.trns n hs l)
 | .p t d=>.p t d
 | .pc e d=>.pc e d
 | .raw v=>.raw v
 | .ip t d=>.ip t d
 | .fn f=>.fn f
 | .top=>.top
def AV.trns (n:Nat) (hs:List Nat):List AV->List AV
 | []=>[]
 | x :: r=>AV.trn n hs x :: AV.trns n hs r
end
def EI (n:Nat) (hs:List Nat):List (Nat×AV)->List (Nat×AV)
 | []=>[]
 | (s,x) :: r=>(s,x.trn n hs) :: EI n hs r
def Obj.trn (n:Nat) (hs:List Nat):Obj->Obj
 | .arr et e xs=>.arr et e xs
 | .box et st fs=>.box et st (AV.trns n hs fs)
 | .mapo k v l=>.mapo k v l
 | .nest et b k e xs h=>.nest et b k e xs h
 | .frame i fs=>.frame i (EI n hs fs)
 | .loop L=>.loop L
 | .itr c g d f a=>.itr c g d f a
 | .dfr=>.dfr
 | .sit sb sp=>.sit sb sp
def Cv (n:Nat) (hs:List Nat):List (Nat×Obj)->List (Nat×Obj)
 | []=>[]
 | (m,o) :: r=>if Ab m (n :: hs)=true then Cv n hs r else (m,o.trn n hs) :: Cv n hs r
def C3:Option Obj->Bool
 | some (.nest _ _ _ _ _ _)=>true
 | _=>false
def Ol (σ:St) (e:Ty):AV->Option (List e.den)
 | .sr n a lo hi=>if C3 (lk n σ.objs)=true then none else IZ true σ (.slice e) (.sr n a lo hi)
 | x=>IZ true σ (.slice e) x
def AM (x y:ByteArray):Bool:=x.toList==y.toList
def CJ (x y:ByteArray):Bool:=Op.bytesLess x.toList y.toList
def Cl (op:BinOp) (k:IntKind) (x y:Int):Int :=
 k.wrap (match op with
  | .and=>((BitVec.ofInt k.bits x &&& BitVec.ofInt k.bits y).toNat:Int)
  | .or=>((BitVec.ofInt k.bits x ||| BitVec.ofInt k.bits y).toNat:Int)
  | .xor=>((BitVec.ofInt k.bits x ^^^ BitVec.ofInt k.bits y).toNat:Int)
  | _=>((BitVec.ofInt k.bits x &&& ~~~BitVec.ofInt k.bits y).toNat:Int))
def Y2 (k:IntKind) (x y:Int):Int:=k.wrap (x*2 ^ (min y.toNat k.bits))
def bQ (k:IntKind) (x y:Int):Int:=x.fdiv (2 ^ (min y.toNat k.bits))
def sB (k:IntKind) (a b:Int):BinOp->Prop×AV
 | .add=>(H2 k (a+b),.p (.int k) (a+b))
 | .sub=>(H2 k (a-b),.p (.int k) (a-b))
 | .mul=>(H2 k (a*b),.p (.int k) (a*b))
 | .quo=>(b≠0/\H2 k (a.tdiv b),.p (.int k) (a.tdiv b))
 | .rem=>(b≠0/\H2 k (a.tmod b),.p (.int k) (a.tmod b))
 | .and=>(True,.p (.int k) (Cl .and k a b))
 | .or=>(True,.p (.int k) (Cl .or k a b))
 | .xor=>(True,.p (.int k) (Cl .xor k a b))
 | .andNot=>(True,.p (.int k) (Cl .andNot k a b))
 | .shl=>(False,.top)
 | .shr=>(False,.top)
 | .eql=>(True,.p .bool (a==b))
 | .neq=>(True,.p .bool (a != b))
 | .lss=>(True,.p .bool (decide (a<b)))
 | .leq=>(True,.p .bool (decide (a<=b)))
 | .gtr=>(True,.p .bool (decide (b<a)))
 | .geq=>(True,.p .bool (decide (b<=a)))
def Y3 (a b:ByteArray):BinOp->Prop×AV
 | .add=>(a.size+b.size<=AO,.p .str (a++b))
 | .eql=>(True,.p .bool (AM a b))
 | .neq=>(True,.p .bool (!AM a b))
 | .lss=>(True,.p .bool (CJ a b))
 | .leq=>(True,.p .bool (CJ a b||AM a b))
 | .gtr=>(True,.p .bool (!(CJ a b||AM a b)))
 | .geq=>(True,.p .bool (!CJ a b))
 | _=>(False,.top)
def bin (op:BinOp) (k:IntKind) (a:Int) (c:IntKind) (b:Int):Prop×AV :=
 match op with
 | .shl=>(0<=b,.p (.int k) (Y2 k a b))
 | .shr=>(0<=b/\H2 k (bQ k a b),.p (.int k) (bQ k a b))
 | op=>if k=c then sB k a b op else (False,.top)
def sC:Ty->AV
 | .slice _=>.raw (.slice none 0 0)
 | .ref k=>.raw (Y0 k)
 | t=>.p t t.dflt
def zfs:Ty->List AV
 | .prod a b=>sC a :: zfs b
 | t=>[sC t]
def zfx:Bool->Ty->AV
 | true,.agg u=>.ag (zfs u)
 | _,t=>sC t
def Tl (b:Bool):Ty->List AV
 | .prod a c=>zfx b a :: Tl b c
 | t=>[zfx b t]
def pfs:(t:Ty)->t.den->List AV
 | .prod a b,d=>.p a d.1 :: pfs b d.2
 | .int k,d=>[.p (.int k) d]
 | .bool,d=>[.p .bool d]
 | .str,d=>[.p .str d]
 | .slice e,d=>[.p (.slice e) d]
 | .agg t,d=>[.p (.agg t) d]
 | .ref k,d=>[.p (.ref k) d]
mutual
def AV.cells:AV->Nat
 | .p t _=>t.size
 | .ag l=>AV.cellss l
 | .tup _=>0
 | .raw _=>1
 | .sr _ _ _ _=>1
 | .ep _ _ _ _ _=>1
 | .pc _ _=>1
 | .ip _ _=>1
 | .bp _ _ _=>1
 | .fn _=>1
 | .clo _ _=>1
 | .mp _=>1
 | .yl _=>1
 | .nin _ _ _ _=>1
 | .top=>1
def AV.cellss:List AV->Nat
 | []=>0
 | x :: r=>x.cells+AV.cellss r
end
def CO:List AV->Nat->Nat
 | _,0=>0
 | [],_+1=>0
 | x :: r,k+1=>x.cells+CO r k
def Eo:Bool->List AV->List Nat->Option AV
 | st,fs,[]=>if st then some (.ag fs) else fs[0]?
 | st,fs,[k]=>if st then fs[k]? else none
 | st,fs,k :: r=>if st then match fs[k]? with
   | some (.p t d)=>(Tk r t d).map λpv=>.p pv.t pv.d
   | some (.ag l)=>Eo true l r
   | _=>none
  else none
def Iz:List AV->List Nat->Option Nat
 | _,[]=>some 0
 | fs,k :: r=>match fs[k]? with
  | some (.p t _)=>(Mz r t).map (CO fs k + ·)
  | some (.ag l)=>(Iz l r).map (CO fs k + ·)
  | some _=>if r.isEmpty then some (CO fs k) else none
  | none=>none
def Ty.cell1:Ty->Bool
 | .agg _=>false
 | .prod _ _=>false
 | .int _=>true
 | .bool=>true
 | .str=>true
 | .slice _=>true
 | .ref _=>true
def CP (ty:Ty):AV->Bool
 | .p t _=>ty=t
 | .ag l=>match ty with|.agg t=>CO l l.length==t.size|_=>false
 | .tup _=>false
 | .top=>false
 | .raw u=>u.oneCell'&&ty.cell1
 | _=>ty.cell1
def Om (ty:Ty):AV->Bool
 | .top=>ty.cell1
 | x=>CP ty x
def Gl (n:Nat):Bool:=decide (1000000<=n)
mutual
def AV.frz (n:Nat) (e:Ty) (xs:List e.den):AV->AV
 | .sr m e' lo hi=>if m=n then (if e'=e then .p (.slice e) (sub xs lo hi) else .top) else .sr m e' lo hi
 | .ep m e' i path off=>if m=n then .top else .ep m e' i path off
 | .nin m e' i len=>if m=n then .top else .nin m e' i len
 | .ag l=>.ag (AV.frzs n e xs l)
 | .tup l=>.tup (AV.frzs n e xs l)
 | .p t d=>.p t d
 | .pc e d=>.pc e d
 | .raw v=>.raw v
 | .ip t d=>.ip t d
 | .bp m path off=>.bp m path off
 | .fn f=>.fn f
 | .clo f ns=>.clo f ns
 | .mp n=>.mp n
 | .yl n=>.yl n
 | .top=>.top
def AV.frzs (n:Nat) (e:Ty) (xs:List e.den):List AV->List AV
 | []=>[]
 | x :: r=>AV.frz n e xs x :: AV.frzs n e xs r
end
def DW (n:Nat) (e:Ty) (xs:List e.den):List (Nat×AV)->List (Nat×AV)
 | []=>[]
 | (s,x) :: r=>(s,x.frz n e xs) :: DW n e xs r
def BA (n:Nat) (e:Ty) (xs:List e.den):List (Nat×Obj)->List (Nat×Obj)
 | []=>[]
 | (m,.arr et a ys) :: r=>(m,.arr et a ys) :: BA n e xs r
 | (m,.box et st fs) :: r=>(m,.box et st (AV.frzs n e xs fs)) :: BA n e xs r
 | (m,.mapo k v l) :: r=>(m,.mapo k v l) :: BA n e xs r
 | (m,.nest et c k a ys h) :: r=>(m,.nest et c k a ys h) :: BA n e xs r
 | (m,.frame j fs) :: r=>(m,.frame j (DW n e xs fs)) :: BA n e xs r
 | (m,.loop L) :: r=>(m,.loop L) :: BA n e xs r
 | (m,.itr d i f g b) :: r=>(m,.itr d i f g b) :: BA n e xs r
 | (m,.dfr) :: r=>(m,.dfr) :: BA n e xs r
 | (m,.sit sb sp) :: r=>(m,.sit sb sp) :: BA n e xs r
def sD (n:Nat) (σ:St):Option Obj->St
 | some (.arr _ e xs)=>⟨DW n e xs σ.env,BA n e xs (del n σ.objs)⟩
 | some (.nest _ _ k e xs none)=>⟨DW n (.agg (.prod k (.slice e))) xs σ.env,BA n (.agg (.prod k (.slice e))) xs (del n σ.objs)⟩
 | _=>σ
def frz (n:Nat) (σ:St):St:=if Gl n=true then σ else sD n σ (lk n σ.objs)
mutual
def AV.drp (n:Nat):AV->AV
 | .sr m e' lo hi=>if m=n then .top else .sr m e' lo hi
 | .ep m e' i path off=>if m=n then .top else .ep m e' i path off
 | .nin m e' i len=>if m=n then .top else .nin m e' i len
 | .ag l=>.ag (AV.drps n l)
 | .tup l=>.tup (AV.drps n l)
 | .p t d=>.p t d
 | .pc e d=>.pc e d
 | .raw v=>.raw v
 | .ip t d=>.ip t d
 | .bp m path off=>.bp m path off
 | .fn f=>.fn f
 | .clo f ns=>.clo f ns
 | .mp n=>.mp n
 | .yl n=>.yl n
 | .top=>.top
def AV.drps (n:Nat):List AV->List AV
 | []=>[]
 | x :: r=>AV.drp n x :: AV.drps n r
end
def Fx (n:Nat):List (Nat×AV)->List (Nat×AV)
 | []=>[]
 | (s,x) :: r=>(s,x.drp n) :: Fx n r
def BZ (n:Nat):List (Nat×Obj)->List (Nat×Obj)
 | []=>[]
 | (m,.arr et a ys) :: r=>(m,.arr et a ys) :: BZ n r
 | (m,.box et st fs) :: r=>(m,.box et st (AV.drps n fs)) :: BZ n r
 | (m,.mapo k v l) :: r=>(m,.mapo k v l) :: BZ n r
 | (m,.nest et c k a ys h) :: r=>(m,.nest et c k a ys h) :: BZ n r
 | (m,.frame i fs) :: r=>(m,.frame i (Fx n fs)) :: BZ n r
 | (m,.loop L) :: r=>(m,.loop L) :: BZ n r
 | (m,.itr d g e f b) :: r=>(m,.itr d g e f b) :: BZ n r
 | (m,.dfr) :: r=>(m,.dfr) :: BZ n r
 | (m,.sit sb sp) :: r=>(m,.sit sb sp) :: BZ n r
mutual
def AV.names:AV->List Nat
 | .sr m _ _ _=>[m]
 | .ag l=>AV.namess l
 | .tup l=>AV.namess l
 | .p _ _=>[]
 | .pc _ _=>[]
 | .raw _=>[]
 | .ip _ _=>[]
 | .bp _ _ _=>[]
 | .ep _ _ _ _ _=>[]
 | .nin _ _ _ _=>[]
 | .fn _=>[]
 | .clo _ _=>[]
 | .mp _=>[]
 | .yl _=>[]
 | .top=>[]
def AV.namess:List AV->List Nat
 | []=>[]
 | x :: r=>x.names++AV.namess r
end
def Gr (σ:St):Option Operand->Option (Option AV)
 | none=>some none
 | some x=>(Ag σ x).map some
def E3 (σ:St) (e:Ty):Nat->List (Nat×Operand)->Option (List e.den)
 | _,[]=>some []
 | k,(i,x) :: r=>if i=k then match Ag σ x with
   | some av=>match IZ false σ e av,E3 σ e (k+1) r with
    | some y,some ys=>some (y :: ys)
    | _,_=>none
   | none=>none
  else none
def Jh:AV->Bool
 | .p (.prod _ _) _=>false
 | .p _ _=>true
 | .raw u=>u.oneCell'
 | .ag _=>false
 | .tup _=>false
 | .top=>false
 | _=>true
def Fy (σ:St):Option AV->Option AV->Option AV
 | some (.p t _),some (.ag l)=>(IZ false σ t (.ag l)).map λd=>.p t d
 | _,x=>x
def D4 (σ:St) (offs:List (Nat×Nat)):List AV->List (Nat×Operand)->Option (List AV)
 | fs,[]=>some fs
 | fs,(i,x) :: r=>match Fy σ fs[i]? (Ag σ x) with
  | some av=>if Jh av=true/\(fs[i]?.map AV.cells)=some av.cells/\offs[i]?=some (CO fs i,av.cells) then D4 σ offs (fs.set i av) r else none
  | none=>none
def GR (l:Bool) (σ:St):(ts:List Ty)->List Operand->Option (IY ts)
 | [],[]=>some ()
 | t :: ts,x :: xs=>match Ag σ x with
  | some av=>match IZ l σ t av,GR l σ ts xs with
   | some y,some ys=>some (y,ys)
   | _,_=>none
  | none=>none
 | _,_=>none
def i8 (name:Nat):RV->AV
 | .p t d=>.p t d
 | .own _ e xs=>.sr name e 0 xs.length
def Tm (name:Nat):RV->List (Nat×Obj)
 | .p _ _=>[]
 | .own et e xs=>[(name,.arr et e xs)]
def H7:Nat->List RV->List AV
 | _,[]=>[]
 | n,r :: l=>i8 n r :: H7 (n+10000) l
def C4:Nat->List RV->List (Nat×Obj)
 | _,[]=>[]
 | n,r :: l=>Tm n r++C4 (n+10000) l
def HP (name:Nat):List RV->AV
 | []=>.raw (.tuple #[])
 | [r]=>i8 name r
 | l=>.tup (H7 name l)
def HF:(t:Ty)->t.den->t.den->Bool
 | .int _,a,b=>(a:Int)==b
 | .bool,a,b=>(a:Bool)==b
 | .str,a,b=>(a:ByteArray)==b
 | .prod t u,a,b=>HF t a.1 b.1&&HF u a.2 b.2
 | .agg t,a,b=>HF t a b
 | .slice _,_,_=>false
 | .ref _,_,_=>false
def sE:Ty->Bool
 | .prod (.int _) (.int _)=>true
 | _=>false
def Y4:Ty->Bool
 | .int _=>true
 | .bool=>true
 | .str=>true
 | .prod _ _=>false
 | .agg t=>sE t
 | .slice _=>false
 | .ref _=>false
def BP (a b:Ty) (k:a.den):List (a.den×b.den)->Option b.den
 | []=>none
 | x :: r=>if HF a k x.1=true then some x.2 else BP a b k r
def E4 (a b:Ty) (k:a.den) (v:b.den):List (a.den×b.den)->List (a.den×b.den)
 | []=>[(k,v)]
 | x :: r=>if HF a k x.1=true then (k,v) :: r else x :: E4 a b k v r
abbrev BV:=Option (Prop×AV×List (Nat×Obj))
def Ia (x:AV) (lo hi:Option AV):BV :=
 match x,lo,hi with
 | .p (.slice e) l,none,some (.p (.int _) h)=>some (0<=h/\h<=l.length,.p (.slice e) (sub l 0 h.toNat),[])
 | .p (.slice e) l,some (.p (.int _) a),none=>some (0<=a/\a<=l.length,.p (.slice e) (sub l a.toNat l.length),[])
 | .p (.slice e) l,some (.p (.int _) a),some (.p (.int _) h)=>some (0<=a/\a<=h/\h<=l.length,.p (.slice e) (sub l a.toNat h.toNat),[])
 | .p .str s,none,some (.p (.int _) h)=>some (0<=h/\h<=s.size,.p .str (s.extract 0 h.toNat),[])
 | .p .str s,some (.p (.int _) a),none=>some (0<=a/\a<=s.size,.p .str (s.extract a.toNat s.size),[])
 | .p .str s,some (.p (.int _) a),some (.p (.int _) h)=>some (0<=a/\a<=h/\h<=s.size,.p .str (s.extract a.toNat h.toNat),[])
 | .sr n e b c,none,some (.p (.int _) h)=>some (0<=h/\h<=(c-b:Nat),.sr n e b (b+h.toNat),[])
 | .sr n e b c,some (.p (.int _) a),none=>some (0<=a/\a<=(c-b:Nat),.sr n e (b+a.toNat) c,[])
 | .sr n e b c,some (.p (.int _) a),some (.p (.int _) h)=>some (0<=a/\a<=h/\h<=(c-b:Nat),.sr n e (b+a.toNat) (b+h.toNat),[])
 | _,_,_=>none
def Gm:Option AV->BV
 | some v=>some (True,v,[])
 | none=>none
def K3:Option AV->Option AV->Option AV->BV
 | some (.p .bool true),x,_=>Gm x
 | some (.p .bool false),_,y=>Gm y
 | _,_,_=>none
def K4 (a:Bool) (d:Nat) (t:TypeId):Option TI->BV
 | some ⟨.agg u,_,_,_⟩=>some (True,.bp d [] 0,[(d,.box t true (Tl a u))])
 | some ⟨.int k,_,_,_⟩=>some (True,.bp d [] 0,[(d,.box t false [sC (.int k)])])
 | some ⟨.bool,_,_,_⟩=>some (True,.bp d [] 0,[(d,.box t false [sC .bool])])
 | some ⟨.str,_,_,_⟩=>some (True,.bp d [] 0,[(d,.box t false [sC .str])])
 | some ⟨.slice e,_,_,_⟩=>some (True,.bp d [] 0,[(d,.box t false [sC (.slice e)])])
 | some ⟨.ref k,_,_,_⟩=>some (True,.bp d [] 0,[(d,.box t false [sC (.ref k)])])
 | _=>none
def Tn (d:Nat) (t:TypeId):Option TI->Option AV->BV
 | some ⟨.agg u,_,_,_⟩,some (.p (.agg a) v)=>if u=a then some (True,.bp d [] 0,[(d,.box t true (pfs a v))]) else none
 | some ⟨.agg u,_,_,_⟩,some (.ag l)=>if l.map AV.cells=(zfs u).map AV.cells then some (True,.bp d [] 0,[(d,.box t true l)]) else none
 | some ⟨.int k,_,_,_⟩,some v=>if CP (.int k) v then some (True,.bp d [] 0,[(d,.box t false [v])]) else none
 | some ⟨.bool,_,_,_⟩,some v=>if CP .bool v then some (True,.bp d [] 0,[(d,.box t false [v])]) else none
 | some ⟨.str,_,_,_⟩,some v=>if CP .str v then some (True,.bp d [] 0,[(d,.box t false [v])]) else none
 | some ⟨.slice e,_,_,_⟩,some v=>if CP (.slice e) v then some (True,.bp d [] 0,[(d,.box t false [v])]) else none
 | some ⟨.ref k,_,_,_⟩,some v=>if CP (.ref k) v then some (True,.bp d [] 0,[(d,.box t false [v])]) else none
 | _,_=>none
def Ji (a:Bool) (σ:St) (parts:List (Nat×Operand)):Option TI->BV
 | some ⟨.agg u,offs,_,_⟩=>Gm ((D4 σ offs (Tl a u) parts).map AV.ag)
 | _=>none
def B1 (a:Bool) (d:Nat) (n:Nat) (el:TypeId) (e:Ty):Option (List e.den)->BV
 | some xs=>some (xs.length=n/\n*e.size<=16777216,if a then .p (.slice e) xs else .sr d e 0 n,if a then [] else [(d,.arr el e xs)])
 | none=>none
def Br (a:Bool) (σ:St) (d:Nat) (n:Nat) (parts:List (Nat×Operand)):Option TI->BV
 | some ⟨.slice e,_,el,_⟩=>B1 a d n el e (E3 σ e 0 parts)
 | _=>none
def K5 (d:Nat) (el b:TypeId) (n:Nat) (k e:Ty):Option k.den->AV->BV
 | some a,.raw (.slice none 0 0)=>some (n=1/\k.size+1<=16777216,.sr d (.agg (.prod k (.slice e))) 0 1,[(d,.nest el b k e [(a,[])] none)])
 | some a,.pc c l=>if c=e then some ((n=1/\k.size+1<=16777216)/\List.length l=0,.sr d (.agg (.prod k (.slice e))) 0 1,[(d,.nest el b k e [(a,[])] none)]) else none
 | _,_=>none
def Jj (σ:St) (d:Nat) (el a:TypeId) (n:Nat):Ty->Option AV->BV
 | .agg (.prod k (.slice e)),some (.ag [x,y])=>K5 d el a n k e (Em false σ k x) y
 | _,_=>none
def Jk (σ:St) (d:Nat) (a:TypeId) (n:Nat):List (Nat×Operand)->Option TI->BV
 | [(0,x)],some ⟨.slice t,_,el,_⟩=>Jj σ d el a n t (Ag σ x)
 | _,_=>none
def G0 (tb:Tb) (σ:St) (d:Nat) (n:Nat) (parts:List (Nat×Operand)) (ti:Option TI):Option TypeId->BV
 | some a=>Jk σ d a n parts ti
 | none=>Br (inB d tb.pure) σ d n parts ti
def Jl (ty:Ty) (fs:List AV) (a:List Nat) (off:Nat):Option AV->BV
 | some v=>if CP ty v=true/\Iz fs a=some off then some (True,v,[]) else none
 | none=>none
def EJ (ty:Ty) (a:List Nat) (off:Nat):Option Obj->BV
 | some (.box _ st fs)=>Jl ty fs a off (Eo st fs a)
 | _=>none
def Jm (ty e:Ty) (a:List Nat) (off:Nat):Option PV->BV
 | some ⟨t,d⟩=>if ty=t/\Mz a e=some off then some (True,.p t d,[]) else none
 | none=>none
def Jn (ty e:Ty) (i:Nat) (a:List Nat) (off:Nat):Option (List e.den)->BV
 | some ys=>Jm ty e a off (Tk a e (ys.getD i e.dflt))
 | none=>none
def QV (n:Nat) (ty:Ty) (i off:Nat) (k e:Ty) (x:k.den×List e.den):List Nat->BV
 | [0]=>if ty=k/\off=0 then some (True,.p k x.1,[]) else none
 | [1]=>if ty=.slice e/\off=k.size then some (True,.nin n e i x.2.length,[]) else none
 | _=>none
def EK (n:Nat) (ty e:Ty) (i:Nat) (b:List Nat) (off:Nat):Option Obj->BV
 | some (.arr _ a xs)=>Jn ty e i b off (BT (.slice e) ⟨.slice a,xs⟩)
 | some (.nest _ _ k a xs none)=>if e=.agg (.prod k (.slice a)) then QV n ty i off k a (xs.getD i (k.dflt,[])) b else none
 | _=>none
def KX (σ:St):Option TI->Option AV->BV
 | some ti,some (.bp n a off)=>EJ ti.ty a off (lk n σ.objs)
 | some ti,some (.ep n e i a off)=>EK n ti.ty e i a off (lk n σ.objs)
 | some ti,some (.ip u v)=>if ti.ty=u then some (True,.p u v,[]) else none
 | _,_=>none
def Jo (o:Option (Nat×Nat)) (a:Option Nat):Option PV->BV
 | some ⟨t,d⟩=>if o.map (·.1)=a then some (True,.ip t d,[]) else none
 | none=>none
def Wh (v:Nat->AV):Option (Nat×Nat)->BV
 | some (k,_)=>some (True,v k,[])
 | none=>none
def Rc (f:Nat) (o:Option (Nat×Nat)):AV->BV
 | .bp n a off=>Wh (λk=>.bp n (a++[f]) (off+k)) o
 | .ep n e i a off=>Wh (λk=>.ep n e i (a++[f]) (off+k)) o
 | .ip (.agg u) v=>Jo o (Kv u f) (Gz u f v)
 | _=>none
def HQ (f:Nat):Option TI->Option AV->BV
 | some ⟨.agg _,offs,0,_⟩,some x=>Rc f offs[f]? x
 | _,_=>none
def MR (offs:List (Nat×Nat)) (x:AV):AV->BV
 | .p (.int _) k=>if 0<=k then Rc k.toNat offs[k.toNat]? x else none
 | _=>none
def Fz:Option TI->Option AV->Option AV->BV
 | some ⟨.slice e,_,_,_⟩,some (.p (.slice a) l),some (.p (.int _) k)=>if e=a then some (0<=k/\k<l.length,.ip a (l.getD k.toNat a.dflt),[]) else none
 | some ⟨.slice e,_,_,_⟩,some (.sr n a lo hi),some (.p (.int _) k)=>if e=a then some (0<=k/\k<(hi-lo:Nat),.ep n a (lo+k.toNat) [] 0,[]) else none
 | some ⟨.agg _,offs,_+1,_⟩,some x,some i=>MR offs x i
 | _,_,_=>none
def EZ:Option TI->Option AV->Option AV->BV
 | some ⟨.str,_,_,_⟩,some (.p .str s),some (.p (.int _) k)=>some (0<=k/\k<s.size,.p (.int .u8) ((s.data.getD k.toNat 0).toNat:Int),[])
 | _,_,_=>none
def Wi:Option AV->BV
 | some (.bp n a off)=>some (True,.bp n a off,[])
 | some (.ip t v)=>some (True,.ip t v,[])
 | some (.ep n e i a off)=>some (True,.ep n e i a off,[])
 | _=>none
def sF (a b:Bool):BinOp->BV
 | .eql=>some (True,.p .bool (a==b),[])
 | .neq=>some (True,.p .bool (a != b),[])
 | _=>none
def Tp:Option TI->Bool
 | some ⟨.bool,_,_,_⟩=>true
 | _=>false
def SX (op:BinOp) (ti:Option TI):Option AV->Option AV->BV
 | some (.p (.int k) a),some (.p (.int c) b)=>some ((bin op k a c b).1,(bin op k a c b).2,[])
 | some (.p .str a),some (.p .str b)=>some ((Y3 a b op).1,(Y3 a b op).2,[])
 | some (.p .bool a),some (.p .bool b)=>if Tp ti=true then sF a b op else none
 | _,_=>none
def qUn:UnOp->Option AV->BV
 | .not,some (.p .bool b)=>some (True,.p .bool (!b),[])
 | .neg,some (.p (.int k) a)=>some (H2 k (0-a),.p (.int k) (0-a),[])
 | _,_=>none
def Rd (l:List Int):ByteArray:=⟨(l.map λx=>UInt8.ofNat x.toNat).toArray⟩
def KY:Option TI->Option TI->Option AV->BV
 | some ⟨.int _,_,_,_⟩,some ⟨.int k,_,_,_⟩,some (.p (.int _) a)=>some (H2 k a,.p (.int k) a,[])
 | some ⟨.slice (.int .u8),_,_,_⟩,some ⟨.str,_,_,_⟩,some (.p (.slice (.int .u8)) l)=>some (True,.p .str (Rd l),[])
 | _,_,_=>none
def Nf (d:Nat) (el:TypeId) (e:Ty) (n m:Int):Option TI->BV
 | some ti=>some (n=m/\0<=n/\n.toNat*ti.bytes<=AO,.sr d e 0 n.toNat,[(d,.arr el e (List.replicate n.toNat e.dflt))])
 | none=>none
def I0 (tb:Tb) (d:Nat):Option TI->Option AV->Option AV->BV
 | some ⟨.slice e,_,el,_⟩,some (.p (.int .i64) n),some (.p (.int .i64) m)=>Nf d el e n m (lk el tb.ty)
 | _,_,_=>none
def FM:Option TI->Option AV->Option (Option AV)->Option (Option AV)->BV
 | some ⟨.slice e,_,_,_⟩,some (.p (.slice d) l),some a,some h=>if e=d then Ia (.p (.slice d) l) a h else none
 | some ⟨.slice e,_,_,_⟩,some (.sr n d b c),some a,some h=>if e=d then Ia (.sr n d b c) a h else none
 | some ⟨.str,_,_,_⟩,some (.p .str s),some a,some h=>Ia (.p .str s) a h
 | _,_,_,_=>none
def D5:Option TI->Option AV->Option AV->Option AV->BV
 | some ⟨.slice e,_,_,_⟩,some (.p (.slice c) l),some (.p (.int _) a),some (.p (.int _) b)=>if e=c then some (a=(List.length l:Int)/\b=(List.length l:Int),.pc c l,[]) else none
 | _,_,_,_=>none
def Ep (i:Nat):Option AV->BV
 | some (.tup l)=>Gm l[i]?
 | _=>none
def Tq:Option TI->Option AV->BV
 | some ⟨.slice _,_,_,_⟩,some (.p (.slice _) l)=>some (True,.p (.int .i64) (l.length:Int),[])
 | some ⟨.slice _,_,_,_⟩,some (.sr _ _ lo hi)=>some (True,.p (.int .i64) ((hi-lo:Nat):Int),[])
 | some ⟨.slice _,_,_,_⟩,some (.nin _ _ _ len)=>some (True,.p (.int .i64) (len:Int),[])
 | some ⟨.slice _,_,_,_⟩,some (.raw (.slice none 0 0))=>some (True,.p (.int .i64) (0:Int),[])
 | some ⟨.str,_,_,_⟩,some (.p .str s)=>some (True,.p (.int .i64) (s.size:Int),[])
 | _,_=>none
def FN (d:Nat) (el:TypeId) (e:Ty):Option TI->Option (List e.den)->BV
 | some ti,some ys=>some (ys.length*ti.bytes<=AO,.sr d e 0 ys.length,[(d,.arr el e ys)])
 | _,_=>none
def Eq (tb:Tb) (σ:St) (d:Nat) (v:AV):Option TI->BV
 | some ⟨.slice e,_,el,_⟩=>FN d el e (lk el tb.ty) (Ol σ e v)
 | _=>none
def K6 (d:Nat) (el:TypeId) (e:Ty) (l:List e.den):Option TI->Option (List e.den)->BV
 | some ti,some ys=>some (0<ys.length/\(l.length+ys.length)*ti.bytes<=AO,.sr d e 0 (l.length+ys.length),[(d,.arr el e (l++ys))])
 | _,_=>none
def Jp (tb:Tb) (σ:St) (d:Nat) (e:Ty) (l:List e.den) (v:AV):Option TI->BV
 | some ⟨.slice a,_,el,_⟩=>if a=e then K6 d el e l (lk el tb.ty) (Ol σ e v) else none
 | _=>none
def Cw (tb:Tb) (σ:St) (d:Nat) (t u:TypeId):Option AV->Option AV->BV
 | some (.raw (.slice none 0 0)),some v=>if t=u then Eq tb σ d v (lk t tb.ty) else none
 | some (.pc e l),some v=>if t=u then Jp tb σ d e l v (lk t tb.ty) else none
 | _,_=>none
def SY:Option AV->Option AV->BV
 | some (.p (.int k) a),some (.p (.int c) b)=>if k=c then some (True,.p (.int k) (if b<a then b else a),[]) else none
 | _,_=>none
def I1:Option AV->Option AV->Option AV->BV
 | some (.p (.int k) a),some (.p (.int d) b),some (.p (.int e) c)=>if k=d/\k=e then some (True,.p (.int k) (if c<(if b<a then b else a) then c else (if b<a then b else a)),[]) else none
 | _,_,_=>none
def Oo (k:IntKind) (a:Int):Option AV->Option Int
 | some (.p (.int c) b)=>if k=c then some (if b<a then b else a) else none
 | _=>none
def FO (σ:St) (k:IntKind):Option Int->List Operand->Option Int
 | some a,x :: r=>FO σ k (Oo k a (Ag σ x)) r
 | o,_=>o
def Re (k:IntKind):Option Int->BV
 | some m=>some (True,.p (.int k) m,[])
 | none=>none
def Oq (σ:St) (r:List Operand):Option AV->BV
 | some (.p (.int k) a)=>Re k (FO σ k (some a) r)
 | _=>none
def SZ:Option AV->Option AV->BV
 | some (.p (.int k) a),some (.p (.int c) b)=>if k=c then some (True,.p (.int k) (if a<b then b else a),[]) else none
 | _,_=>none
def K7 (d:Nat) (sp:AW):Option (IY sp.ins)->BV
 | some ds=>if sp.lend=false\/(sp.out ds).all RV.flat=true then some (sp.pre ds,HP d (sp.out ds),C4 d (sp.out ds)) else none
 | none=>none
def Jq (σ:St) (d:Nat) (xs:List Operand):Option AW->BV
 | some sp=>K7 d sp (GR sp.lend σ sp.ins xs)
 | none=>none
def ND (tb:Tb) (σ:St) (d:Nat) (xs:List Operand):Option AV->BV
 | some (.fn f)=>Jq σ d xs (lk f tb.fns)
 | _=>none
def DX (tb:Tb) (σ:St) (d:Nat):Builtin->List Operand->List TypeId->BV
 | .len,[x],[t]=>Tq (lk t tb.ty) (Ag σ x)
 | .append,[x,y],[t,u]=>Cw tb σ d t u (Ag σ x) (Ag σ y)
 | .min,[x,y],[_,_]=>SY (Ag σ x) (Ag σ y)
 | .max,[x,y],[_,_]=>SZ (Ag σ x) (Ag σ y)
 | .min,[x,y,z],[_,_,_]=>I1 (Ag σ x) (Ag σ y) (Ag σ z)
 | .min,x :: y :: z :: u :: r,_=>Oq σ (y :: z :: u :: r) (Ag σ x)
 | _,_,_=>none
def H8 (σ:St):List Operand->Option (List Nat)
 | []=>some []
 | x :: r=>match Ag σ x,H8 σ r with
  | some (.bp n [] 0),some ns=>some (n :: ns)
  | _,_=>none
def Rf (f:FuncId):Option (List Nat)->BV
 | some ns=>some (True,.clo f ns,[])
 | none=>none
def bR (f:FuncId):Option AV->BV
 | some (.bp n [] 0)=>some (True,.clo (1000000+f) [n],[])
 | _=>none
def bS (σ:St) (fn:Fn) (first a:List Operand):BV :=
 match fn,first,a with
 | .func f,[],cs=>if f<1000000 then Rf f (H8 σ cs) else none
 | .func f,[x],[]=>bR f (Ag σ x)
 | _,_,_=>none
def HG (d:Nat):Option TI->Option TI->BV
 | some a,some te=>some (True,.mp d,[(d,.mapo a.ty te.ty [])])
 | _,_=>none
def HH (tb:Tb) (d:Nat):List (Nat×Nat)->BV
 | [(k,e)]=>HG d (lk k tb.ty) (lk e tb.ty)
 | _=>none
def GS (tb:Tb) (d:Nat):Option TI->BV
 | some ⟨.ref 2,offs,_,_⟩=>HH tb d offs
 | _=>none
def Ng (a:Ty) (ok:Bool) (r:Option a.den):BV :=
 if ok then some (True,.tup [.p a (r.getD a.dflt),.p .bool r.isSome],[]) else some (True,.p a (r.getD a.dflt),[])
def K8 (a b:Ty) (l:List (a.den×b.den)) (ok:Bool):Option a.den->BV
 | some k=>if Y4 a=true then Ng b ok (BP a b k l) else none
 | none=>none
def Ib (tb:Tb) (σ:St) (b d:Nat) (x:AV) (ok:Bool):Option Obj->BV
 | some (.mapo a c l)=>if (lk b tb.ty).map TI.ty=some a/\(lk b tb.ty).map TI.el=some 0/\(lk d tb.ty).map TI.ty=some c then K8 a c l ok (IZ false σ a x) else none
 | _=>none
def I2 (tb:Tb) (σ:St) (ok:Bool):Option TI->Option AV->Option AV->BV
 | some ⟨.ref 2,[(k,e)],_,_⟩,some (.mp n),some x=>Ib tb σ k e x ok (lk n σ.objs)
 | _,_,_=>none
def DC (tb:Tb) (σ:St) (d:Nat) (xs:List Operand) (ts:List TypeId):Callee->BV
 | .builtin b=>DX tb σ d b xs ts
 | .value g=>ND tb σ d xs (Ag σ g)
 | _=>none
def aq (tb:Tb) (σ:St) (d:Nat):Op->BV
 | .move x=>Gm (Ag σ x)
 | .assign x=>Gm (Ag σ x)
 | .pick c x y=>K3 (Ag σ c) (Ag σ x) (Ag σ y)
 | .alloc t=>K4 (inB d tb.pure) d t (lk t tb.ty)
 | .box t x=>Tn d t (lk t tb.ty) (Ag σ x)
 | .build t parts=>Ji (inB d tb.pure) σ parts.toList (lk t tb.ty)
 | .buildSlice t n parts=>G0 tb σ d n parts.toList (lk t tb.ty) (lk d tb.nests)
 | .load t x=>KX σ (lk t tb.ty) (Ag σ x)
 | .fieldAddr s x f=>HQ f (lk s tb.ty) (Ag σ x)
 | .indexAddr t x i=>Fz (lk t tb.ty) (Ag σ x) (Ag σ i)
 | .index t x i=>EZ (lk t tb.ty) (Ag σ x) (Ag σ i)
 | .nilCheck x=>Wi (Ag σ x)
 | .binOp op t x y _=>SX op (lk t tb.ty) (Ag σ x) (Ag σ y)
 | .unOp op _ x=>qUn op (Ag σ x)
 | .convert s t x=>KY (lk s tb.ty) (lk t tb.ty) (Ag σ x)
 | .makeSlice t l c=>I0 tb d (lk t tb.ty) (Ag σ l) (Ag σ c)
 | .slice t x none (some hi) (some b)=>D5 (lk t tb.ty) (Ag σ x) (Ag σ hi) (Ag σ b)
 | .slice t x lo hi none=>FM (lk t tb.ty) (Ag σ x) (Gr σ lo) (Gr σ hi)
 | .extract x i=>Ep i (Ag σ x)
 | .call c=>DC tb σ d c.args.toList c.argTypes.toList c.callee
 | .makeFunc fn first a=>bS σ fn first.toList a.toList
 | .makeMap t none=>GS tb d (lk t tb.ty)
 | .lookup t x i ok=>I2 tb σ ok (lk t tb.ty) (Ag σ x) (Ag σ i)
 | _=>none
def Rg:AV->Bool
 | .ag _=>false
 | _=>true
def F0:Bool->List AV->AV->List Nat->Option (List AV)
 | st,fs,v,[]=>if st then match v with
   | .p (.agg u) d=>some (pfs u d)
   | .ag l=>some l
   | _=>none
  else if Rg v then some [v] else none
 | st,fs,v,[k]=>if st&&Rg v then some (fs.set k v) else none
 | st,fs,v,k :: r=>if st then match fs[k]?,v with
   | some (.p t d),.p u x=>(Wg r t d ⟨u,x⟩).map λy=>fs.set k (.p t y)
   | some (.ag l),v=>(F0 true l v r).map λl'=>fs.set k (.ag l')
   | _,_=>none
  else none
abbrev Cz:=Option (Prop×St)
def FP (σ:St) (n:Nat) (et:TypeId) (st:Bool) (ty:Ty) (fs:List AV) (b:List Nat) (off:Nat) (v:AV):Option AV->Option (List AV)->Cz
 | some u,some a=>if Om ty u=true/\CP ty v=true/\Iz fs b=some off/\a.map AV.cells=fs.map AV.cells then some (True,⟨σ.env,upd n (.box et st a) σ.objs⟩) else none
 | _,_=>none
def DR (σ:St) (n:Nat) (ty:Ty) (a:List Nat) (off:Nat) (v:AV):Option Obj->Cz
 | some (.box et st fs)=>FP σ n et st ty fs a off v (Eo st fs a) (F0 st fs v a)
 | _=>none
def GT (σ:St) (n:Nat) (et:TypeId) (e:Ty) (i:Nat) (a:List Nat) (off:Nat) (ys:List e.den):Option e.den->Cz
 | some z=>if Mz a e=some off then some (True,⟨σ.env,upd n (.arr et e (ys.set i z)) σ.objs⟩) else none
 | none=>none
def Er (σ:St) (n:Nat) (et:TypeId) (ty e:Ty) (i:Nat) (a:List Nat) (off:Nat):Option (List e.den)->Option ty.den->Cz
 | some ys,some w=>GT σ n et e i a off ys (Wg a e (ys.getD i e.dflt) ⟨ty,w⟩)
 | _,_=>none
def NE (σ:St) (d n:Nat) (et a:TypeId) (k e:Ty) (xs:List (k.den×List e.den)) (i bytes:Nat):Option (List e.den)->Cz
 | some ys=>if (lk d σ.objs).isNone=true/\ys.isEmpty=false then some (((xs.getD i (k.dflt,[])).2.length+ys.length)*bytes<=AO,
   ⟨(d,.sr d e 0 ((xs.getD i (k.dflt,[])).2.length+ys.length)) :: EI n [] σ.env,(d,.arr a e ((xs.getD i (k.dflt,[])).2++ys)) :: (n,.nest et a k e xs (some i)) :: Cv n [] σ.objs⟩) else none
 | none=>none
def Rh (σ:St) (d n:Nat) (el:TypeId) (b:Ty) (i:Nat) (v:AV):Option TI->Option Obj->Cz
 | some ti,some (.nest et a k e xs none)=>if b=e/\a=el/\Gl n=false then NE σ d n et a k e xs i ti.bytes (Ol σ e v) else none
 | _,_=>none
def Ot (tb:Tb) (σ:St) (d n:Nat) (a:Ty) (i:Nat) (v:AV):Option TI->Cz
 | some ⟨.slice e,_,el,_⟩=>if a=e then Rh σ d n el e i v (lk el tb.ty) (lk n σ.objs) else none
 | _=>none
def K9 (σ:St) (n m:Nat) (et a:TypeId) (k e:Ty) (xs:List (k.den×List e.den)) (i hi:Nat):Option (List e.den)->Cz
 | some ys=>some (hi=ys.length,⟨EI n [m] σ.env,(n,.nest et a k e (xs.set i ((xs.getD i (k.dflt,[])).1,ys)) none) :: Cv n [m] σ.objs⟩)
 | none=>none
def Nh (σ:St) (n m:Nat) (et a:TypeId) (k e:Ty) (xs:List (k.den×List e.den)) (i hi:Nat):Option Obj->Cz
 | some (.arr c b ys)=>if c=a/\Gl m=false/\Gl n=false then K9 σ n m et a k e xs i hi (BT (.slice e) ⟨.slice b,ys⟩) else none
 | _=>none
def LA (σ:St) (d n m:Nat) (et b:TypeId) (k e:Ty) (hi a bytes:Nat) (xs:List (k.den×List e.den)):Option (List (k.den×List e.den))->Cz
 | some ys=>some (hi=xs.length/\a=ys.length/\(xs.length+ys.length)*bytes<=AO,
   ⟨(d,.sr n (.agg (.prod k (.slice e))) 0 (xs.length+ys.length)) :: Cq [n,m] σ.env,(n,.nest et b k e (xs++ys) none) :: Az [n,m] [n,m] σ.objs⟩)
 | none=>none
def Ni (σ:St) (d n m:Nat) (et a:TypeId) (k e:Ty) (hi c bytes:Nat) (xs:List (k.den×List e.den)):Option Obj->Cz
 | some (.nest _ f g b ys none)=>if f=a/\n≠m/\Gl m=false then LA σ d n m et a k e hi c bytes xs (BT (.slice (.agg (.prod k (.slice e)))) ⟨.slice (.agg (.prod g (.slice b))),ys⟩) else none
 | _=>none
def Tr (σ:St) (d n:Nat) (et b:TypeId) (k e:Ty) (hi bytes:Nat) (xs:List (k.den×List e.den)):AV->Cz
 | .sr m _ 0 a=>Ni σ d n m et b k e hi a bytes xs (lk m σ.objs)
 | _=>none
def Ri (σ:St) (d m:Nat) (el b:TypeId) (k e:Ty) (ys:List (k.den×List e.den)) (a bytes:Nat):Cz :=
 if (lk d σ.objs).isNone=true/\Gl m=false then some (a=ys.length/\ys.length*bytes<=AO,
  ⟨(d,.sr d (.agg (.prod k (.slice e))) 0 ys.length) :: Cq [m] σ.env,(d,.nest el b k e ys none) :: Az [m] [m] σ.objs⟩) else none
def Rj (σ:St) (d m:Nat) (el:TypeId) (t:Ty) (a:Nat):Option TI->Option Obj->Cz
 | some ti,some (.nest _ b k e ys none)=>if t=.agg (.prod k (.slice e)) then Ri σ d m el b k e ys a ti.bytes else none
 | _,_=>none
def bT (tb:Tb) (σ:St) (d:Nat):AV->Option TI->Cz
 | .sr m _ 0 a,some ⟨.slice t,_,el,_⟩=>Rj σ d m el t a (lk el tb.ty) (lk m σ.objs)
 | _,_=>none
def Nj (σ:St) (n m:Nat) (ty:Ty) (et a:TypeId) (k e:Ty) (xs:List (k.den×List e.den)) (i hi:Nat) (b:List Nat) (off:Nat):Cz :=
 if ty=.slice e/\b=[1]/\off=k.size then Nh σ n m et a k e xs i hi (lk m σ.objs) else none
def DS (σ:St) (n:Nat) (ty e:Ty) (i:Nat) (b:List Nat) (off:Nat) (v:AV):Option Obj->Cz
 | some (.arr et a xs)=>Er σ n et ty e i b off (BT (.slice e) ⟨.slice a,xs⟩) (IZ false σ ty v)
 | some (.nest et c k a xs (some j))=>match v with
  | .sr m E 0 hi=>if e=.agg (.prod k (.slice a))/\i=j/\E=a then Nj σ n m ty et c k a xs i hi b off else none
  | _=>none
 | _=>none
def Ic (σ:St):Option TI->Option AV->Option AV->Cz
 | some ti,some (.bp n a off),some v=>DR σ n ti.ty a off v (lk n σ.objs)
 | some ti,some (.ep n e i a off),some v=>DS σ n ti.ty e i a off v (lk n σ.objs)
 | _,_,_=>none
def FQ (σ:St) (d n:Nat) (et:TypeId) (e:Ty) (hi:Nat) (bytes:Nat):Option (List e.den)->Option (List e.den)->Cz
 | some a,some ys=>some ((hi+ys.length)*bytes<=AO,⟨(d,.sr n e 0 (hi+ys.length)) :: Fx n σ.env,upd n (.arr et e (a.take hi++ys)) (BZ n σ.objs)⟩)
 | _,_=>none
def CZ (σ:St) (d n:Nat) (el:TypeId) (e:Ty) (hi:Nat) (v:AV) (ys:Option (List e.den)):Option TI->Option Obj->Cz
 | some ti,some (.arr et a xs)=>if et=el then FQ σ d n et e hi ti.bytes (BT (.slice e) ⟨.slice a,xs⟩) ys else none
 | some ti,some (.nest et b k a xs none)=>if et=el/\e=.agg (.prod k (.slice a)) then Tr σ d n et b k a hi ti.bytes xs v else none
 | _,_=>none
def Es (tb:Tb) (σ:St) (d:Nat) (n:Nat) (a:Ty) (hi:Nat) (v:AV):Option TI->Cz
 | some ⟨.slice e,_,el,_⟩=>if e=a then CZ σ d n el e hi v (Ol σ e v) (lk el tb.ty) (lk n σ.objs) else none
 | _=>none
def DT (tb:Tb) (σ:St) (d:Option Nat) (t u:TypeId):Option AV->Option AV->Cz
 | some (.sr n e 0 hi),some v=>match d with
  | some d=>if t=u/\Gl n=false then Es tb σ d n e hi v (lk t tb.ty) else none
  | none=>none
 | some (.nin n e i _),some v=>match d with
  | some d=>if t=u then Ot tb σ d n e i v (lk t tb.ty) else none
  | none=>none
 | some (.raw (.slice none 0 0)),some v=>match d with
  | some d=>if t=u then bT tb σ d v (lk t tb.ty) else none
  | none=>none
 | _,_=>none
def Dr (tb:Tb) (σ:St) (d:Option Nat):Builtin->List Operand->List TypeId->Cz
 | .append,[x,y],[t,u]=>DT tb σ d t u (Ag σ x) (Ag σ y)
 | _,_,_=>none
def DU (tb:Tb) (σ:St) (d:Option Nat) (xs:List Operand) (ts:List TypeId):Callee->Cz
 | .builtin b=>Dr tb σ d b xs ts
 | _=>none
def G1 (σ:St) (n:Nat) (a b:Ty) (l:List (a.den×b.den)):Option a.den->Option b.den->Cz
 | some k,some v=>if Y4 a=true then some (True,⟨σ.env,upd n (.mapo a b (E4 a b k v l)) σ.objs⟩) else none
 | _,_=>none
def GK (tb:Tb) (σ:St) (n:Nat) (b:Nat) (x y:AV):Option Obj->Cz
 | some (.mapo a c l)=>if (lk b tb.ty).map TI.ty=some a/\(lk b tb.ty).map TI.el=some 0 then G1 σ n a c l (IZ false σ a x) (IZ false σ c y) else none
 | _=>none
def LB (tb:Tb) (σ:St):Option TI->Option AV->Option AV->Option AV->Cz
 | some ⟨.ref 2,[(k,_)],_,_⟩,some (.mp n),some x,some y=>GK tb σ n k x y (lk n σ.objs)
 | _,_,_,_=>none
def D6 (r:Cz):Option Nat->Cz
 | none=>r
 | some _=>none
def K0 (tb:Tb) (σ:St) (d:Option Nat):Op->Cz
 | .store t x y=>D6 (Ic σ (lk t tb.ty) (Ag σ x) (Ag σ y)) d
 | .mapUpdate t m x y=>D6 (LB tb σ (lk t tb.ty) (Ag σ m) (Ag σ x) (Ag σ y)) d
 | .call c=>DU tb σ d c.args.toList c.argTypes.toList c.callee
 | _=>none
def St.add (σ:St) (v:AV) (obs:List (Nat×Obj)):Option Nat->St
 | some d=>⟨(d,v) :: σ.env,obs++σ.objs⟩
 | none=>⟨σ.env,obs++σ.objs⟩
def Ou:Option AV->List Nat
 | some v=>v.names
 | none=>[]
def Dg (σ:St):List (Nat×Operand)->List Nat
 | []=>[]
 | (_,x) :: r=>Ou (Ag σ x)++Dg σ r
def Ov:Option AV->List Nat
 | some (.ag l)=>AV.namess l
 | _=>[]
def FT (σ:St):List (Nat×Operand)->List Nat
 | []=>[]
 | (_,x) :: r=>Ov (Ag σ x)++FT σ r
def DI (σ:St):Option AV->Option AV->List Nat
 | some (.ep n _ _ _ _),some v=>if C3 (lk n σ.objs)=true then [] else v.names
 | _,_=>[]
def LC:Option AV->Option AV->Option AV->List Nat
 | some (.mp _),some v,some u=>v.names++u.names
 | _,_,_=>[]
def CU (σ:St):Op->List Nat
 | .buildSlice _ _ parts=>Dg σ parts.toList
 | .build _ parts=>FT σ parts.toList
 | .store _ x y=>DI σ (Ag σ x) (Ag σ y)
 | .mapUpdate _ m x y=>LC (Ag σ m) (Ag σ x) (Ag σ y)
 | _=>[]
def Cr:List Nat->St->St
 | [],σ=>σ
 | n :: r,σ=>Cr r (frz n σ)
def Bd (obs:List (Nat×Obj)) (σ:St):Bool:=obs.all λp=>(lk p.1 σ.objs).isNone
def LD (tb:Tb) (σ:St) (o:Oper):BV->Cz
 | some (vc,v,obs)=>if Bd obs σ=true then some (vc,σ.add v obs o.dst) else none
 | none=>K0 tb σ o.dst o.op
def Rk (tb:Tb) (o:Oper) (σ:St):Cz:=LD tb σ o (aq tb σ (o.dst.getD 0) o.op)
def GU (tb:Tb) (o:Oper) (σ:St):Cz:=Rk tb o (Cr (CU σ o.op) σ)
def QW (a:Bool):Option AV->Option Bool
 | some (.p .bool b)=>some (b==a)
 | _=>none
def LE (σ:St) (a:Bool):Option Tmp->Option Bool
 | some g=>QW a (lk g σ.env)
 | none=>none
def E0 (ops:List Oper) (σ:St):Option (Nat×Bool)->Option Bool
 | none=>some true
 | some (j,a)=>LE σ a ((ops[j]?).bind (·.dst))
def Wj (vc:Prop):Cz->Cz
 | some (a,σ)=>some (vc/\a,σ)
 | none=>none
mutual
def Bv (tb:Tb) (ops:List Oper):List Oper->St->Cz
 | [],σ=>some (True,σ)
 | o :: r,σ=>evG tb ops o r σ (E0 ops σ o.guard)
def evG (tb:Tb) (ops:List Oper) (o:Oper) (r:List Oper) (σ:St):Option Bool->Cz
 | some true=>evK tb ops r (GU tb o σ)
 | some false=>Bv tb ops r (σ.add (.raw undef) [] o.dst)
 | none=>none
def evK (tb:Tb) (ops:List Oper) (r:List Oper):Cz->Cz
 | some (vc,σ)=>Wj vc (Bv tb ops r σ)
 | none=>none
end
section
open Go Go.RowKit
theorem Bn {o:_root_.Go.Obj} (h:w.heap[b]?=some o):b<w.heap.size:=by grind
def blk:Value->Option Nat
 | .slice (some a) _ _=>some a.block
 | .pointer (some a)=>some a.block
 | .map (some b)=>some b
 | _=>none
def bk (v:Value) (b:Nat):Prop:=blk v=some b\/∃a:Array Value,v=.tuple a/\∃x∈a.toList,blk x=some b
theorem LF {m b:Nat}:bk (.slice a m c) b↔blk (.slice a m c)=some b:=by
 constructor
 .intro h;rcases h with h|⟨_,h,_⟩
  .exact h
  cases h
 exact .inl
def plc:Value->Value
 | .tuple a=>a.getD 0 undef
 | v=>v
def DJ (loc:Value) (sz lo hi:Nat) (v:Value):Prop :=
 ∃(a:Option Addr) (m c:Nat),loc=.slice a m c/\lo<=hi/\hi<=m/\∃(b:Option Addr) (d:Nat),v=.slice b (hi-lo) d/\hi-lo<=d/\(lo=0->b=a/\d=c)/\(lo<hi->b=a.map (·.add (lo*sz)))
structure Vw where
 w:World
 
 O:Nat->Prop
 
 L:Nat->Prop
 
 ρ:Nat->Value
def Lay (u v:Value):Prop:=v=u\/(u=.slice none 0 0/\∃a:Option Addr,v=.slice a 0 0)
def sG (f:FuncId) (l:List Value):Value:=if f<1000000 then .func (.func f) #[] l.toArray else .func (.func (f-1000000)) l.toArray #[]
theorem bU (f:FuncId) (l:List Value):(sG f l).oneCell'=true:=by unfold sG;split<;>rfl
def LG (V:Vw):AV->Value->Prop
 | .p t d,v=>BS V.w V.O t v d
 | .pc e d,v=>BS V.w V.O (.slice e) v d/\∃a:Option Addr,v=.slice a (List.length d) (List.length d)
 | .raw u,v=>v=u
 | .sr n e lo hi,v=>V.L n/\DJ (plc (V.ρ n)) e.size lo hi v
 | .ep n e i _ off,v=>V.L n/\∃g m c:Nat,plc (V.ρ n)=.slice (some ⟨g,0,none⟩) m c/\i<m/\v=.pointer (some ⟨g,i*e.size+off,none⟩)
 | .nin n _ i len,v=>V.L n/\∃(h:Array Value) (a:Option Addr) (c:Nat) (u:Value),V.ρ n=.tuple h/\h[i+1]?=some u/\Lay u v/\v=.slice a len c
 | .ip t d,v=>∃(ad:Addr) (cs:List Value),v=.pointer (some ad)/\¬V.O ad.block/\(∀(j:Nat) (u:Value),cs[j]?=some u->V.w.cell? (ad.add j)=some u)/\Bq V.w V.O t cs d
 | .bp n _ off,v=>V.L n/\∃b:Nat,V.ρ n=.pointer (some ⟨b,0,none⟩)/\v=.pointer (some ⟨b,off,none⟩)
 | .fn f,v=>v=.func (.func f) #[] #[]
 | .clo f ns,v=>v=sG f (ns.map V.ρ)/\∀n∈ns,V.L n/\∃b:Nat,V.ρ n=.pointer (some ⟨b,0,none⟩)
 | .mp n,v=>V.L n/\∃b:Nat,V.ρ n=.map (some b)/\v=.map (some b)
 | .yl n,v=>V.L n/\∃b:Nat,V.ρ n=.pointer (some ⟨b,0,none⟩)/\v=.func (.yield b) #[] #[]
 | .top,_=>True
 | .ag _,_=>False
 | .tup _,_=>False
mutual
def Fm (V:Vw):AV->List Value->Prop
 | .p t d,cs=>Bq V.w V.O t cs d
 | .ag l,cs=>AVCs V l cs
 | .raw u,cs=>∃v,cs=[v]/\v.oneCell'=true/\LG V (.raw u) v
 | .sr n e lo hi,cs=>∃v,cs=[v]/\v.oneCell'=true/\LG V (.sr n e lo hi) v
 | .ep n e i p o,cs=>∃v,cs=[v]/\v.oneCell'=true/\LG V (.ep n e i p o) v
 | .pc e d,cs=>∃v,cs=[v]/\v.oneCell'=true/\LG V (.pc e d) v
 | .ip t d,cs=>∃v,cs=[v]/\v.oneCell'=true/\LG V (.ip t d) v
 | .bp n p o,cs=>∃v,cs=[v]/\v.oneCell'=true/\LG V (.bp n p o) v
 | .fn f,cs=>∃v,cs=[v]/\v.oneCell'=true/\LG V (.fn f) v
 | .clo f ns,cs=>∃v,cs=[v]/\v.oneCell'=true/\LG V (.clo f ns) v
 | .mp n,cs=>∃v,cs=[v]/\v.oneCell'=true/\LG V (.mp n) v
 | .yl n,cs=>∃v,cs=[v]/\v.oneCell'=true/\LG V (.yl n) v
 | .nin n e i k,cs=>∃v,cs=[v]/\v.oneCell'=true/\LG V (.nin n e i k) v
 | .tup l,cs=>∃v,cs=[v]/\v.oneCell'=true/\LG V (.tup l) v
 | .top,cs=>∃v,cs=[v]/\v.oneCell'=true/\LG V (.top) v
def AVCs (V:Vw):List AV->List Value->Prop
 | [],cs=>cs=[]
 | x :: r,cs=>∃c1 c2:List Value,cs=c1++c2/\Fm V x c1/\AVCs V r c2
end
def Wk:AV->Bool
 | .ag _=>true
 | _=>false
theorem Ow {V V':Vw} {f:AV->AV} {fs:List AV->List AV} (h1:∀l,f (.ag l)=.ag (fs l)) (c:fs []=[]) (d:∀x r,fs (x :: r)=f x :: fs r)
  (g:∀ {x:AV} {cs:List Value},Wk x=false->Fm V x cs->Fm V' (f x) cs):(∀(x:AV) (cs:List Value),Fm V x cs->Fm V' (f x) cs)/\∀(l:List AV) (cs:List Value),AVCs V l cs->AVCs V' (fs l) cs:=by
 have key:∀n:Nat,(∀(x:AV) (cs:List Value),SizeOf.sizeOf x<n->Fm V x cs->Fm V' (f x) cs)/\∀(l:List AV) (cs:List Value),SizeOf.sizeOf l<n->AVCs V l cs->AVCs V' (fs l) cs:=by
  intro n;induction n with
  | zero=>exact⟨λ_ _ h=>by omega,λ_ _ h=>by omega⟩
  | succ n a =>
   refine⟨λx cs hn h=>?_,λl cs hn h=>?_⟩
   .cases b:Wk x with
    | false=>exact g b h
    | true =>
     cases x<;>simp[Wk]at b;rename_i l;rw[h1];simp only[AV.ag.sizeOf_spec]at hn;have:=a.2 l cs O1 h;exact this
   cases l with
   | nil=>rw[c];exact h
   | cons x r =>
    obtain⟨c1,c2,e,ha,i⟩:=h;rw[d];simp only[ACl]at hn;exact⟨c1,c2,e,a.1 x c1 O1 ha,a.2 r c2 O1 i⟩
 exact⟨λx cs=>(key _).1 x cs (AB7 _),λl cs=>(key _).2 l cs (AB7 _)⟩
def Rl (V:Vw):AV->Value->Prop
 | .ag l,v=>∃cs:List Value,v=.agg cs.toArray/\AVCs V l cs
 | x,v=>LG V x v
def HR (V:Vw):List AV->List Value->Prop
 | [],a=>a=[]
 | x :: r,a=>∃(v:Value) (l:List Value),a=v :: l/\Rl V x v/\HR V r l
theorem Rl.of1 {V:Vw} {x:AV} {v:Value} (h:LG V x v):Rl V x v:=by
 cases x;case ag l=>exact h.elim
 all_goals exact h
def Bx (V:Vw):AV->Value->Prop
 | .ag l,v=>∃cs:List Value,v=.agg cs.toArray/\AVCs V l cs
 | .tup l,v=>∃a:List Value,v=.tuple a.toArray/\HR V l a
 | av,v=>LG V av v
theorem wO {V:Vw} {x:AV} {v:Value} (h:Rl V x v):Bx V x v:=by
 cases x;case tup l=>exact(show False from h).elim
 all_goals exact h
def De (w:World) (O:Nat->Prop) (e:Ty) (cells:List Value) (xs:List e.den):Prop :=
 ∀(i:Nat) (x:e.den),xs[i]?=some x->∃a:List Value,a.length=e.size/\(∀(j:Nat) (u:Value),a[j]?=some u->cells[i*e.size+j]?=some u)/\Bq w O e a x
def Nk (w:World) (O:Nat->Prop) (k v:Ty):List MapEntry->List (k.den×v.den)->Prop
 | [],[]=>True
 | e :: a,x :: xs=>BS w O k e.key x.1/\BS w O v e.val x.2/\Nk w O k v a xs
 | _,_=>False
def Y5 (a:Array MapEntry) (clock:Nat):Prop:=(a.toList.map (·.born)).Nodup/\∀b∈a.toList.map (·.born),b<clock
def QX (V:Vw) (et:TypeId) (e:Ty) (xs:List e.den) (loc:Value):Prop:=xs.length<=AO/\∃cells:List Value,V.w.ownsRow 0 et e.size loc xs.length cells/\De V.w V.O e cells xs
def Y6 (V:Vw) (a:TypeId) (k e:Ty) (hole:Bool) (cells:List Value) (i:Nat) (x:k.den×List e.den) (u:Value):Prop :=
 ∃(c1:List Value) (v:Value),(∀(j:Nat) (z:Value),(c1++[v])[j]?=some z->cells[i*(k.size+1)+j]?=some z)/\Bq V.w V.O k c1 x.1 /\
  ((hole=true/\u=.slice none 0 0)\/(hole=false/\Lay u v/\QX V a e x.2 u))
structure KZ (V:Vw) (et iet:TypeId) (k e:Ty) (xs:List (k.den×List e.den)) (h:Option Nat) (o:Value) (ins:List Value) (cells:List Value):Prop where
 max:xs.length<=AO
 len:ins.length=xs.length
 own:V.w.ownsRow 0 et (k.size+1) o xs.length cells
 row:∀(i:Nat) (x:k.den×List e.den) (u:Value),xs[i]?=some x->ins[i]?=some u->Y6 V iet k e (h==some i) cells i x u
 dist:∀(i j b:Nat) (u v:Value),ins[i]?=some u->ins[j]?=some v->blk u=some b->blk v=some b->i=j
 out:∀(i b:Nat) (u:Value),ins[i]?=some u->blk u=some b->blk o≠some b
def Shp (loc o:Value) (ins:List Value):Prop:=loc=.tuple (o :: ins).toArray\/(loc=.slice none 0 0/\o=.slice none 0 0/\ins=[])
def A9S (V:Vw) (k v:Ty) (l:List (k.den×v.den)) (left:List Nat) (d:Option Nat) (r:Nat):Prop :=
 ∃(b:Nat) (a:Array MapEntry) (clock c:Nat) (seen:Array Nat),V.w.heap[r]?=some (.mapIter (some b) c seen clock)/\¬V.O b/\V.w.heap[b]?=some (.map a clock)/\Nk V.w V.O k v a.toList l/\Y5 a clock /\
  (∀s∈a.toList.map (·.born),s<c)/\c<=clock/\left.Nodup/\(∀i,i∈left↔∃e,a[i]?=some e/\e.born∉seen)/\(∀i,d=some i->∃e,a[i]?=some e/\seen.back?=some e.born)
def A7 (V:Vw):Obj->Value->Prop
 | .arr et e xs,loc=>QX V et e xs loc
 | .nest et d k e xs h,loc=>∃(o:Value) (ins cells:List Value),Shp loc o ins/\KZ V et d k e xs h o ins cells
 | .box et st fs,loc=>(st=false->fs.length=1)/\∃(b:Nat) (cs:List Value),loc=.pointer (some ⟨b,0,none⟩)/\V.w.heap[b]?=some (.cells cs.toArray et (0,0))/\AVCs V fs cs
 | .mapo k v l,loc=>∃(b:Nat) (a:Array MapEntry) (clock:Nat),loc=.map (some b)/\V.w.heap[b]?=some (.map a clock)/\Nk V.w V.O k v a.toList l/\Y5 a clock
 | .frame f fs,loc=>loc=.pointer none/\∀s x,lk s fs=some x->Bx V x (f.getD s undef)
 | .itr k v l left c,loc=>∃r:Nat,loc=.pointer (some ⟨r,0,none⟩)/\A9S V k v l left c r
 | .loop L,loc=>∃b:Nat,loc=.pointer (some ⟨b,0,none⟩)/\V.w.heap[b]?=some (.loop L)
 | .dfr,loc=>∃b:Nat,loc=.pointer (some ⟨b,0,none⟩)/\V.w.heap[b]?=some (.deferred (some []))
 | .sit sb sp,loc=>∃b:Nat,loc=.pointer (some ⟨b,0,none⟩)/\V.w.heap[b]?=some (.stringIter sb sp)
structure Frm (K:Nat->Prop) (w0 w:World):Prop where
 os:w.os=w0.os
 tape:w.tape=w0.tape
 output:w.output=w0.output
 size:w0.heap.size<=w.heap.size
 block:∀k,K k->w.heap[k]?=w0.heap[k]?
def Gk (σ:St) (n:Nat):Prop:=∃o,lk n σ.objs=some o
def own (O0:Nat->Prop) (σ:St) (ρ:Nat->Value) (b:Nat):Prop:=O0 b\/∃n,Gk σ n/\bk (ρ n) b
def vw (w:World) (O0:Nat->Prop) (σ:St) (ρ:Nat->Value):Vw:=⟨w,own O0 σ ρ,Gk σ,ρ⟩
def A6d:Value->Bool
 | .slice _ _ _=>false
 | .tuple _=>false
 | _=>true
structure Fp where
 ds:List Deferred:=[]
 pin:List (Nat×Value):=[]
structure B2 (w0:World) (K O0:Nat->Prop) (nt:Nat) (ds:Fp) (σ:St) (ρ:Nat->Value) (a:Act) (w:World):Prop where
 frm:Frm K w0 w
 nt:a.tmps.size=nt
 defers:a.defers=ds.ds
 pin:∀p∈ds.pin,Gk σ p.1/\ρ p.1=p.2/\(A6d p.2=true\/Gl p.1=true)
 objs:∀n o,lk n σ.objs=some o->A7 (vw w O0 σ ρ) o (ρ n)
 free:∀n b,Gk σ n->bk (ρ n) b->¬K b/\¬O0 b
 dist:∀n m b,Gk σ n->Gk σ m->bk (ρ n) b->bk (ρ m) b->n=m
 env:∀s v,lk s σ.env=some v->Bx (vw w O0 σ ρ) v (a.tmps.getD s undef)
structure Cm (V V':Vw):Prop where
 O:∀b,b<V.w.heap.size->¬V.O b->¬V'.O b
 L:∀n,V.L n->V'.L n
 ρ:∀n,V.L n->V'.ρ n=V.ρ n
 heap:∀b,b<V.w.heap.size->¬V.O b->V'.w.heap[b]?=V.w.heap[b]?
theorem LG.keeps {V V':Vw} (h:Cm V V'):∀ {x:AV} {v:Value},LG V x v->LG V' x v
 | .p _ _,_,b=>BS.mono h.O h.heap b
 | .pc _ _,_,b=>⟨BS.mono h.O h.heap b.1,b.2⟩
 | .raw _,_,b=>b
 | .sr n e lo hi,_,⟨a,hs⟩=>⟨h.L n a,by rw[h.ρ n a];exact hs⟩
 | .ep n e i _ off,_,⟨a,hs⟩=>⟨h.L n a,by rw[h.ρ n a];exact hs⟩
 | .nin n _ i len,_,⟨a,hs⟩=>⟨h.L n a,by rw[h.ρ n a];exact hs⟩
 | .ip t d,_,⟨ad,cs,c,g,k,m⟩=>by
  have l:ad.block<V.w.heap.size:=by
   have r:=t.size_pos;have q:=m.length;have:=block_lt_of_cell (k 0 (cs[0]'(by omega)) (AT O1))
   rwa [B0]at this
  refine⟨ad,cs,c,h.O _ l g,λj u o=>?_,Bq.mono h.O h.heap m⟩;rw[ABX (w:=V.w) (w':=V'.w)]
  .exact k j u o
  rw[B0];exact h.heap _ l g
 | .bp n _ off,_,⟨a,hs⟩=>⟨h.L n a,by rw[h.ρ n a];exact hs⟩
 | .fn _,_,b=>b
 | .clo f ns,_,⟨c,hs⟩=>by
  refine⟨?_,λn hn=>⟨h.L n (hs n hn).1,by rw[h.ρ n (hs n hn).1];exact(hs n hn).2⟩⟩;rw[c]
  congr 1
  exact AAd λn hn=>(h.ρ n (hs n hn).1).symm
 | .mp n,_,⟨a,hs⟩=>⟨h.L n a,by rw[h.ρ n a];exact hs⟩
 | .yl n,_,⟨a,hs⟩=>⟨h.L n a,by rw[h.ρ n a];exact hs⟩
 | .top,_,_=>trivial
 | .ag _,_,b=>b
 | .tup _,_,b=>b
theorem W7 {V V':Vw} (h:Cm V V'):(∀(x:AV) (cs:List Value),Fm V x cs->Fm V' x cs)/\∀(l:List AV) (cs:List Value),AVCs V l cs->AVCs V' l cs :=
 Ow (f:=id) (fs:=id) (λ_=>rfl) rfl (λ_ _=>rfl) λ{x cs} h0 a=>by
  cases x;case p t d=>exact(Bq.mono h.O h.heap a:Bq V'.w V'.O t cs d)
  case ag l=>cases h0
  all_goals
   obtain⟨v,h1,b,c⟩:=a;exact⟨v,h1,b,c.keeps h⟩
theorem Fm.keeps {V V':Vw} (h:Cm V V') {x:AV} {cs:List Value} (a:Fm V x cs):Fm V' x cs:=(W7 h).1 x cs a
theorem AVCs.keeps {V V':Vw} (h:Cm V V') {l:List AV} {cs:List Value} (a:AVCs V l cs):AVCs V' l cs:=(W7 h).2 l cs a
theorem Rl.keeps {V V':Vw} (h:Cm V V') {x:AV} {v:Value} (a:Rl V x v):Rl V' x v:=by
 cases x;case ag l=>obtain⟨cs,h1,b⟩:=a;exact⟨cs,h1,b.keeps h⟩
 all_goals exact Rl.of1 (LG.keeps h a)
theorem HR.keeps {V V':Vw} (h:Cm V V'):∀ {l:List AV} {a:List Value},HR V l a->HR V' l a
 | [],_,c=>c
 | _ :: _,_,⟨v,l,e,h1,b⟩=>⟨v,l,e,h1.keeps h,b.keeps h⟩
theorem Bx.keeps {V V':Vw} (h:Cm V V') {x:AV} {v:Value} (a:Bx V x v):Bx V' x v:=by
 cases x;case ag l=>obtain⟨cs,h1,b⟩:=a;exact⟨cs,h1,b.keeps h⟩
 case tup l=>obtain⟨cs,h1,b⟩:=a;exact⟨cs,h1,b.keeps h⟩
 all_goals
  simp only[Bx]at a ⊢;exact LG.keeps h a
theorem De.keeps {V V':Vw} (h:Cm V V') {e:Ty} {cells:List Value} {xs:List e.den} (d:De V.w V.O e cells xs):De V'.w V'.O e cells xs:=λi x hi =>
 let ⟨a,h1,b,c⟩:=d i x hi
 ⟨a,h1,b,Bq.mono h.O h.heap c⟩
theorem Nk.mono {w':World} {O':Nat->Prop} (a:∀b,b<w.heap.size->¬O b->¬O' b) (c:∀b,b<w.heap.size->¬O b->w'.heap[b]?=w.heap[b]?) {k v:Ty} :
  ∀ {d:List MapEntry} {l:List (k.den×v.den)},Nk w O k v d l->Nk w' O' k v d l
 | [],[],h=>h
 | [],_ :: _,h=>h.elim
 | _ :: _,[],h=>h.elim
 | _ :: _,_ :: _,⟨h1,e,f⟩=>⟨h1.mono a c,e.mono a c,f.mono a c⟩
theorem Id {w':World} {et:TypeId} {sz n:Nat} {loc:Value} {cells:List Value} (d:∀b,blk loc=some b->w'.heap[b]?=w.heap[b]?) (h:w.ownsRow 0 et sz loc n cells):w'.ownsRow 0 et sz loc n cells:=by
 obtain⟨h1,a⟩:=h;refine⟨h1,?_⟩;rcases a with a|⟨g,cap,c,rfl,e,f,i⟩
 .exact .inl a
 exact .inr ⟨g,cap,c,rfl,e,(d g rfl).trans f,i⟩
theorem QX.keeps {V V':Vw} (h:Cm V V') {et:TypeId} {e:Ty} {xs:List e.den} {loc:Value} (a:∀b,blk loc=some b->V'.w.heap[b]?=V.w.heap[b]?) (f:QX V et e xs loc):QX V' et e xs loc:=by
 obtain⟨d,cells,h1,c⟩:=f;exact⟨d,cells,Id a h1,c.keeps h⟩
theorem Y6.keeps {V V':Vw} (h:Cm V V') {c:TypeId} {k e:Ty} {hole:Bool} {cells:List Value} {i:Nat} {x:k.den×List e.den} (j:∀b,blk u=some b->V'.w.heap[b]?=V.w.heap[b]?) (l:Y6 V c k e hole cells i x u):Y6 V' c k e hole cells i x u:=by
 obtain⟨c1,v,h1,d,a⟩:=l;refine⟨c1,v,h1,Bq.mono h.O h.heap d,?_⟩;rcases a with a|⟨a,f,g⟩
 .exact .inl a
 exact .inr ⟨a,f,g.keeps h j⟩
theorem BD {o:Value} {ins:List Value}:bk (.tuple (o :: ins).toArray) b↔blk o=some b\/∃(i:Nat) (u:Value),ins[i]?=some u/\blk u=some b:=by
 constructor
 .rintro (h|⟨d,h,x,c,a⟩)
  .cases h
  injection h with h
  subst h;simp only[GO]at c;rcases c with rfl|c
  .exact .inl a
  obtain⟨i,hi⟩:=List.getElem?_of_mem c;exact .inr ⟨i,x,hi,a⟩
 rintro (h|⟨i,u,hi,a⟩)
 .exact .inr ⟨_,rfl,o,by simp,h⟩
 exact .inr ⟨_,rfl,u,by simp[AAF hi],a⟩
theorem Shp.bk {loc o:Value} {ins:List Value} (h:Shp loc o ins):bk loc b↔bk (.tuple (o :: ins).toArray) b:=by
 rcases h with rfl|⟨rfl,rfl,rfl⟩
 .exact Iff.rfl
 grind [BD,LF,blk]
theorem Shp.plc {loc o:Value} {ins:List Value} (h:Shp loc o ins):plc loc=o:=by
 rcases h with rfl|⟨rfl,rfl,rfl⟩<;>rfl
theorem Shp.tup {loc o:Value} {ins:List Value} {a:Array Value} (h:Shp loc o ins) (b:loc=.tuple a):a=(o :: ins).toArray:=by
 subst b;rcases h with h|⟨h,_⟩
 .injection h
 cases h
theorem KZ.keeps {V V':Vw} (h:Cm V V') {et:TypeId} {k e:Ty} {xs:List (k.den×List e.den)} {f:Option Nat} {o:Value} {ins cells:List Value} (d:∀b,bk (.tuple (o :: ins).toArray) b->V'.w.heap[b]?=V.w.heap[b]?) (a:KZ V et g k e xs f o ins cells):KZ V' et g k e xs f o ins cells :=
 ⟨a.max,a.len,Id (λb h1=>d b (BD.2 (.inl h1))) a.own,λi x u h1 c=>(a.row i x u h1 c).keeps h (λb j=>d b (BD.2 (.inr ⟨i,u,c,j⟩))),a.dist,a.out⟩
theorem Ts {et:TypeId} {sz n b:Nat} {loc:Value} {cells:List Value} (h:w.ownsRow 0 et sz loc n cells) (a:blk loc=some b):b<w.heap.size:=by
 rcases h.2 with ⟨rfl,_⟩|⟨g,cap,c,rfl,d,e,f⟩
 .simp[blk]at a
 grind [blk,Bn]
theorem KZ.block_lt {V:Vw} {et h:TypeId} {k e:Ty} {xs:List (k.den×List e.den)} {g:Option Nat} {o:Value} {ins cells:List Value} (d:KZ V et h k e xs g o ins cells) (f:bk (.tuple (o :: ins).toArray) b):b<V.w.heap.size:=by
 rcases BD.1 f with h1|⟨i,u,h1,c⟩
 .exact Ts d.own h1
 have hi:i<xs.length:=by have:=(QO.1 h1).1;rw[d.len]at this;exact this
 obtain⟨c1,v,_,_,a⟩:=d.row i xs[i] u (AT hi) h1;rcases a with ⟨_,a⟩|⟨_,_,_,j,a,_⟩
 .rw[a]at c;simp[blk]at c
 exact Ts a c
theorem A7.keeps {V V':Vw} (h:Cm V V') {o:Obj} {loc:Value} (d:∀b,bk loc b->V'.w.heap[b]?=V.w.heap[b]?) (c:A7 V o loc):A7 V' o loc:=by
 cases o with
 | arr et e xs =>
  obtain⟨C,cells,⟨h1,a⟩,B⟩:=c;refine⟨C,cells,⟨h1,?_⟩,B.keeps h⟩;rcases a with a|⟨g,cap,i,rfl,E,F,G⟩
  .exact .inl a
  exact .inr ⟨g,cap,i,rfl,E,(d g (.inl rfl)).trans F,G⟩
 | box et st fs =>
  obtain⟨h0,b,cs,rfl,h1,a⟩:=c;exact⟨h0,b,cs,rfl,(d b (.inl rfl)).trans h1,a.keeps h⟩
 | nest et K k e xs J =>
  obtain⟨o,ins,cells,hs,h1⟩:=c;exact⟨o,ins,cells,hs,h1.keeps h λb A=>d b (hs.bk.2 A)⟩
 | mapo k v l =>
  obtain⟨b,m,cl,rfl,h1,a,f⟩:=c;exact⟨b,m,cl,rfl,(d b (.inl rfl)).trans h1,a.mono h.O h.heap,f⟩
 | frame M fs =>
  obtain⟨h0,h1⟩:=c;exact⟨h0,λs x hs=>(h1 s x hs).keeps h⟩
 | itr k v l left i =>
  obtain⟨r,rfl,b,D,cl,I,H,h1,a,f,p,q,t,u,y,z,n⟩:=c;have j:=Bn f;exact⟨r,rfl,b,D,cl,I,H,(d r (.inl rfl)).trans h1,h.O b j a,(h.heap b j a).trans f,p.mono h.O h.heap,q,t,u,y,z,n⟩
 | loop L =>
  obtain⟨b,rfl,h1⟩:=c;exact⟨b,rfl,(d b (.inl rfl)).trans h1⟩
 | dfr =>
  obtain⟨b,rfl,h1⟩:=c;exact⟨b,rfl,(d b (.inl rfl)).trans h1⟩
 | sit sb sp =>
  obtain⟨b,rfl,h1⟩:=c;exact⟨b,rfl,(d b (.inl rfl)).trans h1⟩
theorem A7.block_lt {V:Vw} {o:Obj} {loc:Value} (c:A7 V o loc) (a:bk loc b):b<V.w.heap.size:=by
 cases o with
 | arr et e xs =>
  obtain⟨n,cells,⟨h1,f⟩,j⟩:=c;rcases f with ⟨rfl,_⟩|⟨g,cap,h,rfl,s,t,u⟩
  .simp[bk,blk]at a
  grind [bk,blk,Bn]
 | box et st fs =>
  obtain⟨h0,d,cs,rfl,h1,f⟩:=c;simp[bk,blk]at a;subst a;exact Bn h1
 | nest et p k e xs m =>
  obtain⟨o,ins,cells,hs,h1⟩:=c;exact h1.block_lt (hs.bk.1 a)
 | mapo k v l =>
  obtain⟨d,i,cl,rfl,h1,f⟩:=c;simp[bk,blk]at a;subst a;exact Bn h1
 | frame z fs =>
  obtain⟨rfl,h1⟩:=c;simp[bk,blk]at a
 | itr k v l left h =>
  obtain⟨r,rfl,d,q,cl,y,x,h1,-⟩:=c;simp[bk,blk]at a;subst a;exact Bn h1
 | loop L =>
  obtain⟨d,rfl,h1⟩:=c;simp[bk,blk]at a;subst a;exact Bn h1
 | dfr =>
  obtain⟨d,rfl,h1⟩:=c;simp[bk,blk]at a;subst a;exact Bn h1
 | sit sb sp =>
  obtain⟨d,rfl,h1⟩:=c;simp[bk,blk]at a;subst a;exact Bn h1
section
variable {α:Type}
theorem A9 (k:Nat):∀(l r:List (Nat×α)),lk k (l++r)=(lk k l).or (lk k r)
 | [],_=>by simp[lk]
 | (j,v) :: l,r=>by
  simp only[bY,lk];split
  .simp
  exact A9 k l r
theorem F1 (k n:Nat) (u:α):∀l:List (Nat×α),lk k (upd n u l)=if k=n then (lk n l).map (λ_=>u) else lk k l
 | []=>by simp[lk,upd]
 | (j,v) :: l=>by
  simp only[upd];by_cases hn:n=j
  .subst hn;by_cases hk:k=n
   .subst hk;simp[lk]
   simp[lk,hk,F1 k n u l]
  simp only[As hn,lk];by_cases hk:k=n
  .subst hk;simp[hn,F1 k k u l]
  by_cases a:k=j
  .subst a;simp[hk]
  simp[hk,a,F1 k n u l]
theorem QY (k n:Nat):∀l:List (Nat×α),lk k (del n l)=if k=n then none else lk k l
 | []=>by simp[lk,del]
 | (j,v) :: l=>by
  simp only[del];by_cases hn:n=j
  .subst hn;rw[At rfl,QY k n l];grind [lk]
  rw[As hn];simp only[lk,QY k n l];grind
end
end
section
open Go Go.RowKit
def Dh (σ:St) (obs:List (Nat×Obj)):St:=⟨σ.env,obs++σ.objs⟩
structure QS (w:World) (O0:Nat->Prop) (σ:St) (ρ:Nat->Value) (v:AV) (obs:List (Nat×Obj)) (u:Value) (ρ':Nat->Value) (w':World):Prop where
 below:Below w.heap.size w w'
 rho:∀n,lk n obs=none->ρ' n=ρ n
 av:Bx (vw w' O0 (Dh σ obs) ρ') v u
 obj:∀n o,lk n obs=some o->A7 (vw w' O0 (Dh σ obs) ρ') o (ρ' n)
 new:∀n o b,lk n obs=some o->bk (ρ' n) b->w.heap.size<=b
 dist:∀n m o o' b,lk n obs=some o->lk m obs=some o'->bk (ρ' n) b->bk (ρ' m) b->n=m
theorem E5 {α:Type} {k:Nat} {v:α}:∀ {l:List (Nat×α)},lk k l=some v->(k,v)∈l
 | (j,u) :: l,h=>by
  simp only[lk]at h;split at h
  .grind
  exact IF _ (E5 h)
theorem Nl {obs:List (Nat×Obj)} {σ:St} (h:Bd obs σ=true) {n:Nat} {o:Obj} (hn:lk n obs=some o):lk n σ.objs=none:=by
 simp only[Bd,OF]at h;simpa using h _ (E5 hn)
theorem LH {σ:St} {obs:List (Nat×Obj)} {n:Nat} (h:Gk (Dh σ obs) n):(∃o,lk n obs=some o)\/(lk n obs=none/\Gk σ n):=by
 obtain⟨o,h⟩:=h;simp only[Dh,A9]at h;cases a:lk n obs with
 | some b=>exact .inl ⟨b,rfl⟩
 | none=>rw[a]at h;exact .inr ⟨rfl,o,by simpa using h⟩
theorem Y7 {σ:St} {obs:List (Nat×Obj)} (hf:Bd obs σ=true) {n:Nat} (h:Gk σ n):Gk (Dh σ obs) n/\lk n obs=none:=by
 obtain⟨o,h⟩:=h;have hn:lk n obs=none:=by
  cases a:lk n obs with
  | none=>rfl
  | some b=>have:=Nl hf a;rw[this]at h;cases h
 exact⟨⟨o,by simp[Dh,A9,hn,h]⟩,hn⟩
theorem HS {w':World} {O0:Nat->Prop} {σ:St} {ρ ρ':Nat->Value} {obs:List (Nat×Obj)} (hf:Bd obs σ=true)
  (hb:Below w.heap.size w w') (hr:∀n,lk n obs=none->ρ' n=ρ n) (hn:∀n o b,lk n obs=some o->bk (ρ' n) b->w.heap.size<=b) :
  Cm (vw w O0 σ ρ) (vw w' O0 (Dh σ obs) ρ') where
 O:=by
  intro b hlt hO hO';rcases hO' with h0|⟨n,hl,hb'⟩
  .exact hO (.inl h0)
  rcases LH hl with ⟨o,ho⟩|⟨hno,hl'⟩
  .have:=hn n o b ho hb';have hlt:b<w.heap.size:=hlt;omega
  exact hO (.inr ⟨n,hl',by rw[<-hr n hno];exact hb'⟩)
 L:=λn h=>(Y7 hf h).1
 ρ:=λn h=>hr n (Y7 hf h).2
 heap:=λb hlt _=>hb.block b hlt
theorem QS.keeps {w':World} {O0:Nat->Prop} {σ:St} {ρ ρ':Nat->Value} {v:AV} {obs:List (Nat×Obj)} (hf:Bd obs σ=true) (h:QS w O0 σ ρ v obs u ρ' w') :
  Cm (vw w O0 σ ρ) (vw w' O0 (Dh σ obs) ρ'):=HS hf h.below h.rho h.new
theorem Frm.below {K:Nat->Prop} {w0 w w':World} (h:Frm K w0 w) (hb:Below w.heap.size w w') (hK:∀b,K b->b<w0.heap.size):Frm K w0 w' where
 os:=hb.os.trans h.os
 tape:=hb.tape.trans h.tape
 output:=hb.output.trans h.output
 size:=iF h.size hb.size
 block:=λk hk=>(hb.block k (AAJ (hK k hk) h.size)).trans (h.block k hk)
theorem Ox (a:Act) (dst:Option Tmp) (u:Value):(a.put dst u).tmps.size=a.tmps.size:=by
 cases dst<;>simp[Act.put]
theorem Jr (a:Act) (dst:Option Tmp) (u:Value):(a.put dst u).defers=a.defers:=by cases dst<;>rfl
theorem MS (a:Act) (d:Nat) (u:Value) (s:Nat) (b:d<a.tmps.size):(a.put (some d) u).tmps.getD s undef=if s=d then u else a.tmps.getD s undef:=by
 by_cases h:s=d
 .subst h;simp[Act.put,b]
 have:¬d=s:=λe=>h e.symm;simp[Act.put,h,this,Array.getElem?_setIfInBounds]
theorem B2.add {w0:World} {K O0:Nat->Prop} {nt:Nat} {ds:Fp} {σ:St} {ρ:Nat->Value} {a:Act} {w:World} (h:B2 w0 K O0 nt ds σ ρ a w)
  (H:∀b,K b->b<w0.heap.size) (L:∀b,O0 b->b<w0.heap.size) {dst:Option Nat} (I:∀d,dst=some d->d<nt)
  {v:AV} {obs:List (Nat×Obj)} {ρ':Nat->Value} {w':World} (hf:Bd obs σ=true) (c:QS w O0 σ ρ v obs u ρ' w') :
  B2 w0 K O0 nt ds (σ.add v obs dst) ρ' (a.put dst u) w':=by
 have hk:=c.keeps hf;have E:(σ.add v obs dst).objs=obs++σ.objs:=by cases dst<;>rfl
 have l:∀n,Gk (σ.add v obs dst) n↔Gk (Dh σ obs) n:=λn=>by simp[Gk,E,Dh]
 have F:vw w' O0 (σ.add v obs dst) ρ'=vw w' O0 (Dh σ obs) ρ':=by
  have k:Gk (σ.add v obs dst)=Gk (Dh σ obs):=funext λn=>propext (l n);have g:own O0 (σ.add v obs dst) ρ'=own O0 (Dh σ obs) ρ':=by grind [own]
  simp only[vw,k,g]
 refine⟨h.frm.below c.below H,by rw[Ox];exact h.nt,by rw[Jr];exact h.defers,λp J=>?_,?_,?_,?_,?_⟩
 .obtain⟨h1,j,G⟩:=h.pin p J;have B:=Y7 hf h1;exact⟨(l p.1).2 B.1,(c.rho _ B.2).trans j,G⟩
 .intro n o g;rw[E,A9]at g;rw[F];cases r:lk n obs with
  | some z=>rw[r]at g;cases g;exact c.obj n _ r
  | none =>
   rw[r]at g;have q:lk n σ.objs=some o:=by simpa using g
   rw[c.rho n r];refine(h.objs n o q).keeps hk λb f=>?_;exact c.below.block b ((h.objs n o q).block_lt f)
 .intro n b k f;rcases LH ((l n).1 k) with ⟨o,g⟩|⟨t,y⟩
  .have M:=c.new n o b g f;have:=h.frm.size;grind
  rw[c.rho n t]at f;exact h.free n b y f
 .intro n m b k y f i;rcases LH ((l n).1 k) with ⟨o,g⟩|⟨t,hn⟩<;>rcases LH ((l m).1 y) with ⟨z,q⟩|⟨D,C⟩
  .exact c.dist n m o z b g q f i
  .have h1:=c.new n o b g f;rw[c.rho m D]at i;obtain⟨A,j⟩:=C;have:=(h.objs m A j).block_lt i;have:b<w.heap.size:=this;omega
  .have h1:=c.new m z b q i;rw[c.rho n t]at f;obtain⟨A,j⟩:=hn;have:=(h.objs n A j).block_lt f;have:b<w.heap.size:=this;omega
  rw[c.rho n t]at f;rw[c.rho m D]at i;exact h.dist n m b hn C f i
 intro s x hs;rw[F];cases dst with
 | none=>exact(h.env s x hs).keeps hk
 | some d =>
  simp only[St.add,lk]at hs;rw[MS a d u s (by rw[h.nt];exact I d rfl)];split at hs
  .rename_i e;cases hs;rw[At e];exact c.av
  rename_i e;rw[As e];exact(h.env s x hs).keeps hk
theorem QS.still {O0:Nat->Prop} {σ:St} {ρ:Nat->Value} {v:AV} (h:Bx (vw w O0 σ ρ) v u):QS w O0 σ ρ v [] u ρ w where
 below:=Below.refl _ _
 rho:=λ_ _=>rfl
 av:=h
 obj:=λ_ _ h=>by cases h
 new:=λ_ _ _ h=>by cases h
 dist:=λ_ _ _ _ _ h=>by cases h
def EX (ρ:Nat->Value) (n:Nat) (x:Value):Nat->Value:=λm=>if m=n then x else ρ m
theorem Bl (ρ:Nat->Value) (n:Nat) (x:Value):EX ρ n x n=x:=by simp[EX]
theorem QS.one {w':World} {O0:Nat->Prop} {σ:St} {ρ:Nat->Value} {v:AV} {loc:Value} {n:Nat} {o:Obj} (hb:Below w.heap.size w w')
  (hnew:∀b,bk loc b->w.heap.size<=b)
  (hav:Bx (vw w' O0 (Dh σ [(n,o)]) (EX ρ n loc)) v u)
  (hobj:A7 (vw w' O0 (Dh σ [(n,o)]) (EX ρ n loc)) o loc):QS w O0 σ ρ v [(n,o)] u (EX ρ n loc) w' where
 below:=hb
 rho:=λm hm=>by grind [lk,EX]
 av:=hav
 obj:=λm o' hm=>by grind [lk,Bl]
 new:=λm o' b hm hb'=>by grind [lk,Bl]
 dist:=λm m' o1 o2 b h1 h2 _ _=>by grind [lk]
end
section
open Go Go.RowKit
theorem BF {t:Ty} {p:PV} {d:t.den} (h:BT t p=some d):p=⟨t,d⟩:=by
 obtain⟨u,x⟩:=p;grind [BT]
theorem Bo {e a:Ty} {xs:List a.den} {ys:List e.den} (h:BT (.slice e) ⟨.slice a,xs⟩=some ys):a=e/\HEq xs ys:=by
 have b:=BF h;grind
theorem Nm {α:Type} (xs:List α) {lo:Nat} (h:c<=xs.length):(sub xs lo c).length=c-lo:=by
 simp[sub];omega
theorem Y8 {α:Type} (xs:List α) (lo hi i:Nat) {x:α} (h:(sub xs lo hi)[i]?=some x):xs[lo+i]?=some x/\i<hi-lo:=by grind [sub]
theorem nK {O':Nat->Prop} {et:TypeId} {e:Ty} {xs:List e.den} {loc:Value} {cells:List Value} {lo:Nat} (y:∀b,blk loc=some b->¬O' b)
  (H:xs.length<=AO) (h:w.ownsRow 0 et e.size loc xs.length cells) (p:De w O' e cells xs) (z:DJ loc e.size lo c v):Bq w O' (.slice e) [v] (sub xs lo c):=by
 obtain⟨a,m,hi,j,F,q,k,l,rfl,o,h0,h1⟩:=z;have u:m=xs.length:=by
  rcases h.2 with ⟨d,hn⟩|⟨g,cap,n,d,_⟩
  .grind
  rw[j]at d;injection d
 subst u;have f:=Nm xs (lo:=lo) q;refine⟨k,l,by rw[f],by rw[f];exact o,by rw[f];omega,?_⟩;by_cases t:lo<c
 .right;rcases h.2 with ⟨d,hn⟩|⟨g,cap,n,d,r⟩
  .omega
  have D:=World.ownsRow.cells h (g:=g) (by rw[d];rfl);have ha:a=some ⟨g,0,none⟩:=by rw[j]at d;injection d
  subst ha;refine⟨_,h1 t,y _ (by rw[d];simp only[blk,B0]),λi x s=>?_⟩;obtain⟨A,G⟩:=Y8 xs lo c i s;obtain⟨B,E,C,I⟩:=p (lo+i) x A;grind [Cp]
 simp_all
theorem G2 {et:TypeId} {sz:Nat} {s:Value} {xs:List Value} (h:w.ownsRow b et sz s n xs):plc s=s:=by
 rcases h.2 with ⟨rfl,_⟩|⟨g,cap,a,rfl,_⟩<;>rfl
theorem Sv {V:Vw} {et:TypeId} {e:Ty} {xs:List e.den} {loc:Value} (h:A7 V (.arr et e xs) loc):plc loc=loc:=by
 obtain⟨_,_,h,_⟩:=h;exact G2 h
theorem Y9 {V:Vw} {O':Nat->Prop} (h:∀b,¬V.O b->¬O' b) {et:TypeId} {e:Ty} {xs:List e.den} {loc:Value} {lo hi:Nat} (n:∀b,blk loc=some b->¬O' b)
  (a:A7 V (.arr et e xs) loc) (c:DJ (plc loc) e.size lo hi v):Bq V.w O' (.slice e) [v] (sub xs lo hi):=by
 rw[Sv a]at c;obtain⟨l,cells,m,k⟩:=a;exact nK n l m (λi x hi=>let ⟨d,h1,f,g⟩:=k i x hi;⟨d,h1,f,g.mono (λb _ j=>h b j) (λ_ _ _=>rfl)⟩) c
theorem F2 {et:TypeId} {sz n:Nat} {s:Value} {xs:List Value} (h:w.ownsRow 0 et sz s n xs):DJ s sz 0 n s:=by
 rcases h.2 with ⟨rfl,hn⟩|⟨g,cap,a,rfl,_,_,b,_⟩
 .exact⟨none,0,0,rfl,by omega,by omega,none,0,by rw[hn],by omega,λ_=>⟨rfl,rfl⟩,λh=>by omega⟩
 exact⟨some ⟨g,0,none⟩,n,cap,rfl,by omega,by omega,some ⟨g,0,none⟩,cap,by simp,by omega,λ_=>⟨rfl,rfl⟩,λ_=>by simp[MQ]⟩
theorem W8 {V:Vw} {O':Nat->Prop} (c:∀b,¬V.O b->¬O' b) {et:TypeId} {e:Ty} {xs:List e.den} (d:∀b,blk u=some b->¬O' b) (h:QX V et e xs u):Bq V.w O' (.slice e) [u] xs:=by
 have h1:=h;obtain⟨_,_,a,_⟩:=h1;have:=Y9 (V:=V) c d (et:=et) (e:=e) (xs:=xs) (loc:=u) h (by rw[G2 a];exact F2 a)
 rwa [Jg]at this
theorem Js {et:TypeId} {sz m c:Nat} {xs:List Value} (h:w.ownsRow b et sz (.slice a m c) n xs):m=n:=by
 rcases h.2 with ⟨base,hn⟩|⟨g,cap,d,base,_⟩
 .injection base;omega
 injection base
theorem ZA {V:Vw} {e:Ty} {xs:List e.den} {len:Nat} (b:Lay u (.slice a len c)) (h:QX V f e xs u):len=xs.length:=by
 obtain⟨_,j,d,_⟩:=h;rcases b with rfl|⟨rfl,g,i⟩
 .exact Js d
 grind [Js]
theorem wP {V:Vw} {j:TypeId} {e:Ty} {xs:List e.den} (g:Lay u v) (h:QX V j e xs u):∃(a:Option Addr) (c:Nat),v=.slice a xs.length c:=by
 rcases g with rfl|⟨rfl,a,rfl⟩
 .obtain⟨_,k,f,_⟩:=h;obtain⟨_,_,_,_,_,_,b,d,i,_⟩:=F2 f;exact⟨b,d,i⟩
 have hn:=ZA (.inr ⟨rfl,a,rfl⟩) h;exact⟨a,0,by rw[<-hn]⟩
theorem nL {V:Vw} {O':Nat->Prop} {e:Ty} {xs:List e.den} (b:Lay u v) (h:QX V f e xs u) (c:Bq V.w O' (.slice e) [u] xs):Bq V.w O' (.slice e) [v] xs:=by
 rcases b with rfl|⟨rfl,a,rfl⟩
 .exact c
 have hn:=ZA (.inr ⟨rfl,a,rfl⟩) h;have d:xs=[]:=AA9 hn.symm;subst d;exact⟨a,0,rfl,OS _,by simp,.inl rfl⟩
theorem Nn {V:Vw} {O':Nat->Prop} (g:∀b,¬V.O b->¬O' b) {et p:TypeId} {k e:Ty} {xs:List (k.den×List e.den)} {o:Value} {ins cells:List Value} (h:KZ V et p k e xs none o ins cells)
  (n:∀(i b:Nat) (u:Value),ins[i]?=some u->blk u=some b->¬O' b):De V.w O' (.agg (.prod k (.slice e))) cells xs:=by
 intro i x hi;have j:i<ins.length:=by rw[h.len];exact(QO.1 hi).1
 obtain⟨c1,v,h1,d,a⟩:=h.row i x ins[i] hi (AT j);rcases a with ⟨a,_⟩|⟨_,l,f⟩
 .cases a
 have m:=nL l f (W8 g (λb c=>n i b _ (AT j) c) f);refine⟨c1++[v],by simp[Ty.size,d.length],h1,?_⟩;exact(⟨c1,[v],rfl,d.mono (λb _ c=>g b c) (λ_ _ _=>rfl),m⟩:Bq V.w O' (.prod k (.slice e)) _ x)
theorem bV {V:Vw} {O':Nat->Prop} (f:∀b,¬V.O b->¬O' b) {et l:TypeId} {k e:Ty} {xs:List (k.den×List e.den)} {loc:Value} {lo hi:Nat} (a:∀b,bk loc b->¬O' b)
  (j:A7 V (.nest et l k e xs none) loc) (c:DJ (plc loc) (k.size+1) lo hi v):Bq V.w O' (.slice (.agg (.prod k (.slice e)))) [v] (sub (α:=k.den×List e.den) xs lo hi):=by
 obtain⟨o,ins,cells,hs,h⟩:=j;rw[hs.plc]at c;exact nK (e:=.agg (.prod k (.slice e))) (xs:=xs) (λb g=>a b (hs.bk.2 (BD.2 (.inl g)))) h.max h.own (Nn f h λi b u h1 d=>a b (hs.bk.2 (BD.2 (.inr ⟨i,u,h1,d⟩)))) c
theorem W9 {V:Vw} {p:Obj} {loc:Value} {m:Nat} (d:A7 V p loc) (h:plc loc=.slice a m c):∃et sz cells,V.w.ownsRow 0 et sz (.slice a m c) m cells/\m<=AO:=by
 cases p with
 | arr et e xs =>
  have h1:=Sv d;obtain⟨r,cells,i,_⟩:=d;rw[h1]at h;subst h;have j:m=xs.length:=by
   rcases i.2 with ⟨f,hn⟩|⟨g,cap,q,f,_⟩
   .injection f;omega
   injection f
  subst j;exact⟨et,_,cells,i,r⟩
 | nest et u k e xs s =>
  obtain⟨o,ins,cells,hs,n⟩:=d;rw[hs.plc]at h;subst h;have i:=n.own;have j:m=xs.length:=by
   rcases i.2 with ⟨f,hn⟩|⟨g,cap,q,f,_⟩
   .injection f;omega
   injection f
  subst j;exact⟨et,_,cells,i,n.max⟩
 | box et st fs=>obtain⟨_,b,cs,rfl,_⟩:=d;cases h
 | mapo k v l=>obtain⟨b,_,_,rfl,_⟩:=d;cases h
 | frame B fs=>obtain⟨rfl,_⟩:=d;cases h
 | loop L=>obtain⟨b,rfl,_⟩:=d;cases h
 | itr x A y z t=>obtain⟨b,rfl,_⟩:=d;cases h
 | dfr=>obtain⟨b,rfl,_⟩:=d;cases h
 | sit sb sp=>obtain⟨b,rfl,_⟩:=d;cases h
theorem MT {V V':Vw} (c:V'.w=V.w) (d:V'.O=V.O) {et f:TypeId} {k e:Ty} {xs:List (k.den×List e.den)} {loc:Value} (s:A7 V (.nest et f k e xs h) loc):A7 V' (.nest et f k e xs h) loc:=by
 obtain⟨o,ins,cells,q,a⟩:=s;refine⟨o,ins,cells,q,a.max,a.len,by rw[c];exact a.own,λi x u h1 g=>?_,a.dist,a.out⟩;obtain⟨c1,v,j,l,b⟩:=a.row i x u h1 g;refine⟨c1,v,j,by rw[c,d];exact l,?_⟩;rcases b with b|⟨b,m,r,t,n,p⟩
 .exact .inl b
 exact .inr ⟨b,m,r,t,by rw[c];exact n,by rw[c,d];exact p⟩
theorem sH {V V':Vw} (d:V'.w=V.w) (g:∀b,¬V.O b->¬V'.O b) {et j:TypeId} {k e:Ty} {xs:List (k.den×List e.den)} {loc:Value} (C:A7 V (.nest et j k e xs h) loc):A7 V' (.nest et j k e xs h) loc:=by
 obtain⟨o,ins,cells,A,a⟩:=C;refine⟨o,ins,cells,A,a.max,a.len,by rw[d];exact a.own,λi x u h1 q=>?_,a.dist,a.out⟩;obtain⟨c1,v,r,s,c⟩:=a.row i x u h1 q;refine⟨c1,v,r,s.mono (λb _ f=>g b f) (λb _ _=>by rw[d]),?_⟩;rcases c with c|⟨c,t,B,D,y,z⟩
 .exact .inl c
 refine .inr ⟨c,t,B,D,by rw[d];exact y,λi x hi=>?_⟩;obtain⟨l,m,n,p⟩:=z i x hi;exact⟨l,m,n,p.mono (λb _ f=>g b f) (λb _ _=>by rw[d])⟩
theorem ZB {V:Vw} {et:TypeId} {k e:Ty} {xs:List (k.den×List e.den)} {loc:Value} {c:Array Value} {i:Nat} {z:k.den×List e.den}
  (d:A7 V (.nest et g k e xs h) loc) (f:loc=.tuple c) (a:c[i+1]?=some v):xs[i]?=some (xs.getD i z):=by
 obtain⟨o,ins,cells,hs,h⟩:=d;obtain rfl:=hs.tup f;have a:ins[i]?=some v:=by simpa using a
 have b:i<xs.length:=by rw[<-h.len];exact(QO.1 a).1
 rw[AT b,AS,AT b];rfl
theorem A2P {V:Vw} {t:Obj} {loc u v:Value} {w:Array Value} {i len c:Nat} (d:A7 V t loc) (z:loc=.tuple w) (f:w[i+1]?=some u) (j:Lay u v) (s:v=.slice a len c):len<=AO:=by
 subst z;cases t with
 | arr et e xs =>
  obtain⟨E,cells,y,_⟩:=d;rcases y.2 with ⟨r,_⟩|⟨g,cap,B,r,_⟩<;>cases r
 | nest et G k e xs D =>
  obtain⟨o,ins,cells,hs,q⟩:=d;obtain rfl:=hs.tup rfl;have f:ins[i]?=some u:=by simpa using f
  have x:i<xs.length:=by rw[<-q.len];exact(QO.1 f).1
  obtain⟨c1,N,h1,C,m⟩:=q.row i xs[i] u (AT x) f;rcases m with ⟨_,m⟩|⟨_,_,n⟩
  .subst s;rcases j with p|⟨_,A,p⟩
   .grind
   injection p;omega
  rw[s]at j;rw[ZA j n];exact n.1
 | box et st fs=>obtain⟨_,b,cs,h,_⟩:=d;cases h
 | mapo k v l=>obtain⟨b,_,_,h,_⟩:=d;cases h
 | frame M fs=>obtain⟨h,_⟩:=d;cases h
 | loop L=>obtain⟨b,h,_⟩:=d;cases h
 | itr H K I J F=>obtain⟨b,h,_⟩:=d;cases h
 | dfr=>obtain⟨b,h,_⟩:=d;cases h
 | sit sb sp=>obtain⟨b,h,_⟩:=d;cases h
theorem A2Q {V:Vw} {O':Nat->Prop} (p:∀b,¬V.O b->¬O' b) {et l:TypeId} {k e:Ty} {xs:List (k.den×List e.den)} {loc:Value} {i:Nat} {x:k.den×List e.den} (s:∀b,bk loc b->¬O' b) {u:Value}
  (f:A7 V (.nest et l k e xs none) loc) (g:loc=.tuple d) (c:d[i+1]?=some u) (r:Lay u v) (j:xs[i]?=some x):Bq V.w O' (.slice e) [v] x.2:=by
 obtain⟨o,ins,cells,hs,h⟩:=f;obtain rfl:=hs.tup g;have c:ins[i]?=some u:=by simpa using c
 obtain⟨c1,t,h1,m,a⟩:=h.row i x u j c;rcases a with ⟨a,_⟩|⟨_,q,n⟩
 .cases a
 grind [nL,W8,BD]
section
variable {V:Vw} {O':Nat->Prop} {l:Bool} {σ:St}
theorem nM (p:∀b,¬V.O b->¬O' b) (y:l=true->∀b,¬O' b) (s:∀n o,lk n σ.objs=some o->A7 V o (V.ρ n))
  {t:Ty} {x:AV} {d:t.den} {cs:List Value} (h:Em l σ t x=some d) (g:Fm V x cs):Bq V.w O' t cs d:=by
 unfold Em at h;split at h
 .rename_i u z;have:=BF h;injection this with h1 j
  subst h1;cases j;have g:Bq V.w V.O u cs z:=g;exact g.mono (λb _ D=>p b D) (λ_ _ _=>rfl)
 .rename_i e n A lo hi;split at h
  .rename_i q;obtain⟨r,rfl⟩:=q;have m:=r;obtain⟨v,rfl,_,C,f⟩:=g;cases hn:lk n σ.objs with
   | none=>rw[hn]at h;simp[Oj]at h
   | some o =>
    rw[hn]at h;cases o with
    | box et st fs=>simp[Oj]at h
    | mapo k v l=>simp[Oj]at h
    | frame P fs=>simp[Oj]at h
    | loop L=>simp[Oj]at h
    | itr J N K M H=>simp[Oj]at h
    | dfr=>simp[Oj]at h
    | sit sb sp=>simp[Oj]at h
    | nest et I k B xs m =>
     cases m with
     | some i=>simp[Oj]at h
     | none =>
      simp only[Oj]at h;obtain⟨h1,j⟩:=Bo h;subst h1;cases j;exact bV p (λb _=>y r b) (s n _ hn) f
    | arr et B xs =>
     simp only[Oj]at h;obtain⟨h1,j⟩:=Bo h;subst h1;cases j;exact Y9 p (λb _=>y m b) (s n _ hn) f
  cases h
 .rename_i e n A i len;split at h
  .rename_i q;obtain⟨m,rfl⟩:=q;obtain⟨v,rfl,_,C,R,a,c,Q,G,F,E,_⟩:=g;cases hn:lk n σ.objs with
   | none=>rw[hn]at h;simp[SW]at h
   | some o =>
    rw[hn]at h;unfold SW at h;split at h
    .grind [Bo,A2Q,ZB]
    cases h
  cases h
 .obtain⟨v,rfl,_,f⟩:=g;have f:v=_:=f;subst f;cases h;exact⟨none,0,rfl,by simp,by simp[AO],.inl rfl⟩
 cases h
theorem wQ (i:∀b,¬V.O b->¬O' b) (k:l=true->∀b,¬O' b) (j:∀n o,lk n σ.objs=some o->A7 V o (V.ρ n)) :
  ∀ {fs:List AV} {t:Ty} {d:t.den} {cs:List Value},Kw l σ fs t=some d->AVCs V fs cs->Bq V.w O' t cs d
 | [],t,d,cs,h,f=>by simp[Kw]at h
 | [x],t,d,cs,h,f=>by
  obtain⟨c1,c2,rfl,h1,e⟩:=f;have e:c2=[]:=e;grind [Kw,nM]
 | x :: y :: r,t,d,cs,h,f=>by
  obtain⟨c1,c2,rfl,h1,e⟩:=f;cases t;case prod a b =>
   simp only[Kw]at h;cases c:Em l σ a x with
   | none=>rw[c]at h;simp[NC]at h
   | some m =>
    cases g:Kw l σ (y :: r) b with
    | none=>rw[c,g]at h;simp[NC]at h
    | some p =>
     rw[c,g]at h;simp only[NC]at h;cases h;exact⟨c1,c2,rfl,nM i k j c h1,wQ i k j g e⟩
  all_goals simp[Kw]at h
theorem A2R {t:Ty} {x:AV} {d:t.den} {v:Value} (h:Em l σ t x=some d) (n:∀u i,x≠.p u i) (e:Bx V x v):Fm V x [v]/\t.wrap [v]=v:=by
 unfold Em at h;split at h
 .exact absurd rfl (n _ _)
 .obtain⟨b,a,m,c,_,_,_,f,g,rfl,_⟩:=e;refine⟨⟨_,rfl,rfl,?_⟩,rfl⟩;exact⟨b,a,m,c,by assumption,by assumption,by assumption,f,g,rfl,by assumption⟩
 .obtain⟨b,q,a,c,u,h1,j,k,rfl⟩:=e;exact⟨⟨_,rfl,rfl,b,q,a,c,u,h1,j,k,rfl⟩,rfl⟩
 .have o:v=_:=e;subst o;exact⟨⟨_,rfl,rfl,rfl⟩,rfl⟩
 cases h
theorem FA (f:∀b,¬V.O b->¬O' b) (k:l=true->∀b,¬O' b) (i:∀n o,lk n σ.objs=some o->A7 V o (V.ρ n))
  {t:Ty} {x:AV} {d:t.den} {v:Value} (h:IZ l σ t x=some d) (g:Bx V x v):BS V.w O' t v d:=by
 unfold IZ at h;split at h
 .rename_i t fs;obtain⟨cs,rfl,q⟩:=g;exact⟨cs,(wQ f k i h q:Bq V.w O' t cs d),rfl⟩
 by_cases j:∃u a,x=.p u a
 .obtain⟨u,a,rfl⟩:=j;have h:BT t ⟨u,a⟩=some d:=by simpa only[Em] using h
  have:=BF h;injection this with h1 c
  subst h1;cases c;exact BS.mono (λb _ m=>f b m) (λ_ _ _=>rfl) g
 obtain⟨h1,c⟩:=A2R h (λu a e=>j ⟨u,a,e⟩) g;exact⟨[v],nM f k i h h1,c.symm⟩
end
end
section
open Go Go.RowKit
def ZC:Ty->Value->Bool
 | .agg _,.agg _=>true
 | .agg _,_=>false
 | .prod _ _,_=>false
 | _,.agg _=>false
 | _,_=>true
def Jt (P : Program) (id : TypeId) (a b : IntKind) : Prop := ∃ c d : Field, P.underlying id = some (.struct #[c, d]) /\ ((c.name != "_") = true /\ (d.name != "_") = true) /\ (c.offset = 0 /\ d.offset = 1) /\ (P.underlying c.type = some (.int a) /\ P.underlying d.type = some (.int b)) /\ P.stoodInHeld id = false
def Tt (P:Program) (id:TypeId):Ty->Nat->Prop
 | .agg (.prod (.int a) (.int b)),0=>Jt P id a b
 | _,_=>True
def isI (k:IntKind):Option TypeDesc->Bool
 | some (.int a)=>k==a
 | _=>false
theorem Tu {k:IntKind} {d:Option TypeDesc} (h:isI k d=true):d=some (.int k):=by
 unfold isI at h;grind
def A5G (P:Program) (id:TypeId) (a b:IntKind):Option TypeDesc->Bool
 | some (.struct ⟨[c, d]⟩) => (c.name != "_") && (d.name != "_") && c.offset == 0 && d.offset == 1 && isI a (P.underlying c.type) && isI b (P.underlying d.type) && P.stoodInHeld id == false
 | _=>false
def wR (P:Program) (id:TypeId):Ty->Nat->Bool
 | .agg (.prod (.int a) (.int b)),0=>A5G P id a b (P.underlying id)
 | _,_=>true
theorem wS {t:Ty} (h:wR P f t b=true):Tt P f t b:=by
 unfold wR at h;unfold Tt;split at h
 .unfold A5G at h;split at h
  .rename_i a id hu;simp only[An,AAb]at h;obtain⟨⟨⟨⟨⟨⟨h1,c⟩,d⟩,e⟩,el⟩,g⟩,i⟩:=h;exact⟨a,id,hu,⟨h1,c⟩,⟨d,e⟩,⟨Tu el,Tu g⟩,i⟩
  cases h
 trivial
def Ds (P:Program) (tb:Tb) (id:TypeId) (ti:TI):Prop :=
 (((∀p∈ti.offs,p.2≠0)/\0<ti.bytes/\Tt P id ti.ty ti.el)/\∃(i:TypeInfo) (z:Value),P.info? id=some i/\i.size=ti.ty.size/\i.bytes=ti.bytes/\i.zero=some z/\z.cells=ti.ty.zero.toArray) /\
 match ti.ty with
 | .int k=>P.underlying id=some (.int k)
 | .bool=>P.underlying id=some .bool
 | .str=>P.underlying id=some .string
 | .slice e=>P.underlying id=some (.slice ti.el)/\∃te,lk ti.el tb.ty=some te/\te.ty=e
 | .agg _=>(∃fs:Array Field,ti.el=0/\P.underlying id=some (.struct fs)/\ti.offs.map some=fs.toList.map λf=>(P.info? f.type).map λi=>(f.offset,i.size)) \/
   ∃n e i,ti.el≠0/\P.underlying id=some (.array n e)/\P.info? e=some i/\ti.offs=(List.range n).map λk=>(k*i.size,i.size)
 | .prod _ _=>False
 | .ref j=>∃d,P.underlying id=some d/\(match d with|.struct _=>False|.array _ _=>False|_=>True) /\
   ∀k e,j=2->ti.offs=[(k,e)]->d=.map k e/\∃(a te:TI) (z:Value),lk k tb.ty=some a/\lk e tb.ty=some te/\(∃i,P.info? e=some i/\i.zero=some z)/\z.cells=te.ty.zero.toArray/\ZC te.ty z=true
def C5 (P:Program) (tb:Tb):Prop:=∀id ti,lk id tb.ty=some ti->Ds P tb id ti
def wT:Value->Value->Bool
 | .int k n,.int c d=>k==c&&n==d
 | .bool a,.bool b=>a==b
 | .string s,.string e=>s.size==0&&e.size==0
 | .slice none 0 0,.slice none 0 0=>true
 | .pointer none,.pointer none=>true
 | .nilFunc,.nilFunc=>true
 | .map none,.map none=>true
 | .nilIface,.nilIface=>true
 | _,_=>false
theorem wU {a b:Value} (h:wT a b=true):a=b:=by
 unfold wT at h;split at h
 .grind
 .grind
 .simp_all
 .rfl
 .rfl
 .rfl
 .rfl
 .rfl
 cases h
def Np:List Value->List Value->Bool
 | [],[]=>true
 | a :: l,b :: r=>wT a b&&Np l r
 | _,_=>false
theorem QZ:∀ {l r:List Value},Np l r=true->l=r
 | [],[],_=>rfl
 | a :: l,b :: r,h=>by
  simp only[Np,An]at h;rw[wU h.1,QZ h.2]
 | [],_ :: _,h=>by simp[Np]at h
 | _ :: _,[],h=>by simp[Np]at h
def A5H (ty:Ty) (bytes:Nat):Option TypeInfo->Bool
 | some i=>i.size==ty.size&&i.bytes==bytes&&(match i.zero with|some z=>Np z.cells.toList ty.zero|none=>false)
 | none=>false
def A8p (offs:List (Nat×Nat)) (n:Nat):Option TypeInfo->Bool
 | some i=>offs==(List.range n).map λk=>(k*i.size,i.size)
 | none=>false
def A5I (e:Nat) (te:Option TI):Option TypeInfo->Bool
 | some i=>match i.zero,te with|some z,some te=>Np z.cells.toList te.ty.zero&&ZC te.ty z|_,_=>false
 | none=>false
def A6e (P:Program) (tb:Tb) (j:Nat) (d:TypeDesc):List (Nat×Nat)->Bool
 | [(k,e)]=>j != 2||(match d with|.map b a=>b==k&&a==e&&(lk k tb.ty).isSome&&A5I e (lk e tb.ty) (P.info? e)|_=>false)
 | _=>true
theorem A2S {tb:Tb} {j:Nat} {d:TypeDesc} {offs:List (Nat×Nat)} (h:A6e P tb j d offs=true):∀k e,j=2->offs=[(k,e)]->d=.map k e/\∃(a te:TI) (z:Value),lk k tb.ty=some a/\lk e tb.ty=some te/\(∃i,P.info? e=some i/\i.zero=some z)/\z.cells=te.ty.zero.toArray/\ZC te.ty z=true:=by
 rintro k e rfl rfl;simp only[A6e,bne_self_eq_false,Bool.false_or]at h;split at h
 .simp only[An,AAb]at h;obtain⟨⟨⟨rfl,rfl⟩,b⟩,c⟩:=h;refine⟨rfl,?_⟩;obtain⟨a,f⟩:=ABn.1 b;unfold A5I at c;grind [QZ]
 cases h
def A8q (P:Program) (tb:Tb) (ti:TI):Ty->Option TypeDesc->Bool
 | .int k,some (.int a)=>k==a
 | .bool,some .bool=>true
 | .str,some .string=>true
 | .slice e,some (.slice el)=>el==ti.el&&(match lk ti.el tb.ty with|some te=>decide (te.ty=e)|none=>false)
 | .agg _,some (.struct fs)=>ti.el==0&&ti.offs.map some==fs.toList.map λf=>(P.info? f.type).map λi=>(f.offset,i.size)
 | .agg _,some (.array n e)=>ti.el != 0&&A8p ti.offs n (P.info? e)
 | .ref _,some (.struct _)=>false
 | .ref _,some (.array _ _)=>false
 | .ref j,some d=>A6e P tb j d ti.offs
 | _,_=>false
def tiB (P:Program) (tb:Tb) (id:TypeId) (ti:TI):Bool:=((ti.offs.all λp=>p.2 != 0)&&(decide (0<ti.bytes)&&wR P id ti.ty ti.el))&&A5H ti.ty ti.bytes (P.info? id)&&A8q P tb ti ti.ty (P.underlying id)
theorem A6f {tb:Tb} {ti:TI} (h:tiB P tb f ti=true):Ds P tb f ti:=by
 simp only[tiB,An]at h;obtain⟨⟨⟨h0,c,d⟩,h1⟩,a⟩:=h;refine⟨⟨⟨λp id=>by simpa using (OF.1 h0) p id,by simpa using c,wS d⟩,?_⟩,?_⟩
 .unfold A5H at h1;grind [QZ]
 generalize hu:P.underlying f=u at a;generalize ti.ty=t at a;cases t<;>cases u<;>simp only[A8q]at a<;>try(cases a;done)
 all_goals
  rename_i u;cases u<;>simp only at a<;>try(cases a;done)
 .grind
 .rfl
 .rfl
 .grind
 .rename_i n e;simp only[An,ACb]at a;obtain⟨b,a⟩:=a;unfold A8p at a;split at a
  .rename_i i hi;exact .inr ⟨_,_,i,b,rfl,hi,by simpa using a⟩
  cases a
 .grind
 all_goals exact⟨_,rfl,trivial,A2S a⟩
theorem A2T {tb:Tb} (h:(tb.ty.all λp=>tiB P tb p.1 p.2)=true):C5 P tb:=λid ti hi=>by
 rw[OF]at h;exact A6f (h _ (E5 hi))
def Ty.isAgg:Ty->Bool
 | .agg _=>true
 | .int _=>false
 | .bool=>false
 | .str=>false
 | .slice _=>false
 | .prod _ _=>false
 | .ref _=>false
section
variable {P:Program} {tb:Tb} {id:TypeId} {ti:TI} (w:World)
theorem LI {i:TypeInfo} (h:P.info? id=some i):(typeInfo id).run P w=.ok i w:=by simp[typeInfo,h]
theorem A2U (h:Ds P tb id ti):(isAgg id).run P w=.ok ti.ty.isAgg w:=by
 obtain⟨_,a⟩:=h;cases c:ti.ty<;>rw[c]at a<;>simp only at a;case agg =>
  rcases a with ⟨fs,_,hu,_⟩|⟨n,e,_,_,hu,_⟩<;>simp[isAgg,f8 hu,Ty.isAgg]
 case slice=>simp[isAgg,f8 a.1,Ty.isAgg]
 case ref k =>
  obtain⟨d,hu,b,_⟩:=a;cases d<;>first|exact b.elim|simp[isAgg,f8 hu,Ty.isAgg]
 all_goals simp[isAgg,f8 a,Ty.isAgg]
theorem HT (h:Ds P tb id ti):(sizeOf id).run P w=.ok ti.ty.size w:=by
 obtain⟨⟨_,i,z,h1,a,_⟩,_⟩:=h;simp[sizeOf,LI w h1,a]
theorem Ds.noprod (h:Ds P tb id ti) {a b:Ty}:ti.ty≠.prod a b:=by
 intro e;have:=h.2;rw[e]at this;exact this
theorem bW (h:Ds P tb id ti) {ad:Addr} {cs:List Value} (d:cs.length=ti.ty.size) (e:∀(j:Nat) (u:Value),cs[j]?=some u->w.cell? (ad.add j)=some u) :
  (loadVar id ad).run P w=.ok (ti.ty.wrap cs) w:=by
 have i:=λa b=>h.noprod (a:=a) (b:=b);simp only[loadVar,AAK,A2U w h,AAp];cases f:ti.ty;case prod a b=>exact absurd f (i a b)
 case agg u =>
  have g:ti.ty.size=cs.length:=d.symm;simp only[Ty.isAgg,AAQ,AAK,HT w h,AAp,g,run_loadCells_list w ad cs e,Ty.wrap];rfl
 all_goals
  rw[f]at d;obtain⟨c,rfl⟩:=AAV.1 d;have h0:=e 0 c rfl;rw[MQ]at h0;simp[Ty.isAgg,Ty.wrap,h0]
theorem F3 (h:Ds P tb id ti) {ad:Addr} {cs:List Value} (b:cs.length=ti.ty.size) (a:∀(j:Nat) (u:Value),cs[j]?=some u->w.cell? (ad.add j)=some u) :
  (Instr.loadAt id (.pointer (some ad))).run P w=.ok (ti.ty.wrap cs) w:=by
 simp[Instr.loadAt,Instr.sureAddr,bW w h b a]
end
end
end Go.Proofs.YtglkoagnnnpimaaGreatDoor.Fw
