/- Typed values, how they lie in memory, the executor's words and the table of types: what they mean. -/
import Derived.ProofKit
import Derived.Orders
import Derived.Laws.AppendOwn
import Derived.Laws.MakeOwn
import Derived.Laws.OwnMore
set_option linter.unusedVariables false
set_option linter.unusedSimpArgs false
namespace Go.Proofs.YtaoonfcjbmcmpaaGreatDoor.Fw
theorem oa {p:Prop} (h:p:=by omega):p:=h
theorem sa {p:Prop} (h:p:=by simp):p:=h
theorem di {p:Prop} (h:p:=by decide):p:=h
abbrev AS:=@List.getD_eq_getElem?_getD
abbrev AT:=@Bool.and_eq_true
abbrev An:=@Int.ofNat_lt
abbrev As:=@if_neg
abbrev At:=@if_pos
abbrev BY:=@Nat.zero_le
abbrev By:=@List.take_of_length_le
abbrev DO:=@List.getElem?_eq_getElem
abbrev Do:=@decide_eq_true_eq
abbrev GO:=@Option.map_eq_some_iff
abbrev IF:=@decide_eq_false_iff_not
abbrev IN:=@Classical.byContradiction
abbrev IS:=@List.all_eq_true
abbrev If:=@Nat.le_refl
abbrev Is:=@List.mem_cons
abbrev NO:=@Int.ofNat_le
abbrev No:=@List.foldl_cons
abbrev OF:=@Bool.not_eq_true'
abbrev ON:=@List.getElem?_eq_some_iff
abbrev OR:=@List.drop_eq_nil_of_le
abbrev OS:=@List.length_take
abbrev Of:=@List.length_map
abbrev On:=@Go.run_underlying
abbrev TO:=@List.take_length
abbrev To:=@List.mem_map
abbrev YT:=@List.length_append
abbrev aS:=@List.any_eq_true
abbrev aT:=@List.mem_append
abbrev bY:=@Bool.or_eq_true
abbrev dO:=@List.eq_nil_of_length_eq_zero
abbrev f3:=@Nat.le_trans
abbrev gO:=@List.mem_range
abbrev iF:=@List.length_cons
abbrev iN:=@List.pairwise_iff_getElem
abbrev iS:=@List.drop_eq_getElem_cons
abbrev jM:=@Nat.le_antisymm
abbrev nO:=@List.mem_singleton
abbrev oF:=@Int.tdiv_eq_ediv_of_nonneg
abbrev oN:=@List.append_assoc
abbrev oR:=@List.map_cons
abbrev oS:=@Array.getElem?_eq_some_iff
abbrev p7:=@congrArg
abbrev p8:=@Nat.mul_le_mul_right
abbrev tO:=@List.mem_filter
abbrev wS:=@List.nodup_append
abbrev wT:=@Bool.or_eq_false_iff
abbrev AA0:=@List.range_succ
abbrev AA1:=@Bool.and_eq_false_iff
abbrev AA2:=@List.length_filter_le
abbrev AA3:=@List.getElem?_take
abbrev AA4:=@Int.toNat_natCast
abbrev AA5:=@List.getElem?_append_left
abbrev AA6:=@List.length_take_le
abbrev AA7:=@List.map_append
abbrev AA8:=@Array.getElem?_eq_getElem
abbrev AA9:=@beq_iff_eq
abbrev AAa:=@List.filter_cons
abbrev AAb:=@List.append_nil
abbrev AAc:=@List.mem_cons_self
abbrev AAd:=@List.mem_iff_getElem?
abbrev AAe:=@List.length_singleton
abbrev AAf:=@Nat.lt_of_lt_of_le
abbrev AAg:=@Int.natCast_nonneg
abbrev AAh:=@Go.Result.andThen_ok
abbrev AAj:=@List.mem_of_getElem?
abbrev AAk:=@List.foldl_append
abbrev AAl:=@List.pairwise_cons
abbrev AAm:=@List.filter_append
abbrev AAn:=@List.nodup_cons
abbrev AAo:=@Bool.eq_iff_iff
abbrev AAp:=@List.mem_cons_of_mem
abbrev AAq:=@List.getElem?_append_right
abbrev AAr:=@List.getElem?_map
abbrev AAs:=@Int.not_lt
abbrev AAt:=@decide_eq_true
abbrev AAu:=@Option.isNone_iff_eq_none
abbrev AAv:=@List.mem_of_mem_take
abbrev AAw:=@List.getElem?_append
abbrev AAx:=@List.ext_getElem
abbrev AAy:=@List.getElem?_drop
abbrev AAz:=@List.drop_zero
abbrev AAA:=@List.getElem?_eq_none
abbrev AAB:=@Int.tmod_eq_emod_of_nonneg
abbrev AAC:=@List.filter_nil
abbrev AAD:=@List.size_toArray
abbrev AAE:=@Int.le_trans
abbrev AAF:=@Go.Sem.run_bind
abbrev AAG:=@Bool.false_eq_true
abbrev AAH:=@if_true
abbrev AAI:=@beq_eq_false_iff_ne
abbrev AAJ:=@List.take_succ_cons
abbrev AAK:=@List.nil_append
abbrev AAL:=@Array.length_toList
abbrev AAM:=@List.length_drop
abbrev AAN:=@List.mem_iff_getElem
abbrev AAO:=@Nat.zero_add
abbrev AAP:=@Bool.not_eq_false'
abbrev AAQ:=@List.length_pos_of_mem
abbrev AAR:=@List.length_eq_one_iff
abbrev AAS:=@List.mem_take_iff_getElem
abbrev AAT:=@List.filter_sublist
abbrev AAU:=@Option.some.injEq
abbrev AAV:=@Nat.succ_mul
abbrev AAW:=@Array.getElem?_toList
abbrev AAX:=@if_false
abbrev AAY:=@List.cons.injEq
abbrev AAZ:=@List.all_cons
abbrev AB0:=@List.getElem?_of_mem
abbrev AB1:=@List.prefix_refl
abbrev AB2:=@Nat.mul_le_mul_left
abbrev AB3:=@List.pairwise_map
abbrev AB4:=@List.getElem?_set
abbrev AB6:=@List.take_zero
abbrev AB7:=@Option.map_some
abbrev AB8:=@List.map_map
abbrev AB9:=@List.length_nil
abbrev ABa:=@Option.isSome_iff_exists
abbrev ABb:=@Nat.lt_succ_iff_lt_or_eq
abbrev ABc:=@Int.lt_of_le_of_lt
abbrev ABd:=@Nat.lt_succ_self
abbrev ABe:=@List.cons_append
abbrev ABf:=@List.mem_of_mem_drop
abbrev ABg:=@Bool.true_and
abbrev ABh:=@Array.getElem?_setIfInBounds
abbrev ABi:=@List.any_eq_false
abbrev ABj:=@Bool.eq_false_iff
abbrev ABk:=@List.length_set
abbrev ABl:=@Int.fdiv_eq_ediv_of_nonneg
abbrev ABn:=@ByteArray.size_append
abbrev ABo:=@Bool.or_false
abbrev ABp:=@BitVec.testBit_toNat
abbrev ABq:=@not_true_eq_false
abbrev ABr:=@List.getElem?_take_of_lt
abbrev ABs:=@List.map_congr_left
abbrev ABt:=@List.getElem?_cons_zero
abbrev ABu:=@List.exists_mem_of_length_pos
abbrev ABv:=@List.countP_cons
abbrev ABx:=@decide_eq_false
abbrev ABy:=@Nat.sub_self
abbrev ABz:=@List.take_append_drop
abbrev ABA:=@List.all_append
abbrev ABB:=@of_decide_eq_true
abbrev ABC:=@List.flatMap_cons
abbrev ABD:=@List.exists_cons_of_ne_nil
abbrev ABE:=@List.mem_erase_of_ne
abbrev ABF:=@Go.World.cell?_of_block
abbrev ABG:=@List.mem_of_find?_eq_some
abbrev ABH:=@Bool.false_and
abbrev ABI:=@Array.mapM_eq_mapM_toList
abbrev ABJ:=@Option.getD_some
abbrev ABK:=@List.getElem_inj
abbrev ABL:=@Array.toList_inj
abbrev ABM:=@List.length_pos_iff
abbrev ABN:=@List.getElem?_range
abbrev ABO:=@List.length_erase_of_mem
abbrev ABP:=@Int.not_le
abbrev ABQ:=@Nat.lt_of_le_of_lt
abbrev ABR:=@Nat.and_le_left
abbrev ABS:=@List.getElem?_cons_succ
abbrev ABT:=@List.any_append
abbrev ABU:=@Bool.not_true
abbrev ABV:=@Nat.testBit_lt_two_pow
abbrev ABW:=@bne_iff_ne
abbrev ABX:=@Nat.lt_trichotomy
abbrev ABY:=@List.ext_getElem?
abbrev ABZ:=@List.drop_drop
abbrev AC1:=@Bool.not_false
abbrev AC2:=@Nat.sub_zero
abbrev AC3:=@List.length_replicate
abbrev AC4:=@List.getElem?_toArray
abbrev AC5:=@List.eq_nil_iff_forall_not_mem
abbrev AC6:=@List.countP_le_length
abbrev AC7:=@List.cons.sizeOf_spec
abbrev AC8:=@decide_eq_decide
abbrev AC9:=@Nat.and_le_right
abbrev ACa:=@List.range'_succ
abbrev ACb:=@List.nodup_range
abbrev ACc:=@List.getElem_mem
abbrev ACe:=@Go.block_lt_of_cell
abbrev ACf:=@Nat.pow_le_pow_right
abbrev ACg:=@List.pairwise_append
abbrev ACh:=@List.mem_append_left
abbrev ACj:=@Nat.min_eq_left
abbrev ACk:=@List.takeWhile_cons
abbrev ACl:=@List.drop_succ_cons
abbrev ACm:=@UInt8.toNat_ofNat'
abbrev ACn:=@Option.isSome_some
abbrev ACo:=@Nat.zero_mul
abbrev ACp:=@List.mem_filterMap
abbrev ACq:=@List.getElem_range
abbrev ACr:=@List.find?_eq_none
abbrev ACs:=@List.countP_append
abbrev ACt:=@List.Nodup.sublist
abbrev ACu:=@Int.toNat_lt
abbrev ACv:=@Option.some_or
abbrev ACx:=@not_false_eq_true
abbrev ACy:=@Option.ext
abbrev ACz:=@Nat.mod_lt
abbrev ACA:=@List.take_sublist
abbrev ACB:=@List.getElem_drop
abbrev ACC:=@forall_congr'
abbrev ACD:=@Prod.mk.injEq
abbrev ACE:=@Nat.add_assoc
abbrev ACF:=@Int.ofNat.inj
abbrev ACG:=@Bool.false_or
abbrev ACH:=@List.getElem_map
abbrev ACI:=@BitVec.toNat_and
abbrev ACJ:=@Nat.min_le_left
abbrev ACK:=@List.map_nil
abbrev ACL:=@List.find?_some
abbrev ACM:=@Nat.add_mul
abbrev ACN:=@Int.le_refl
abbrev ACO:=@ne_eq
inductive Ty where
 | int (k:IntKind)
 | bool
 | str
 | slice (e:Ty)
 | prod (a b:Ty)
 | agg (t:Ty)
 
 | ref (k:Nat)
 deriving DecidableEq
def UX:Nat->Value
 | 0=>.pointer none
 | 1=>.nilFunc
 | 2=>.map none
 | _=>.nilIface
abbrev jQ:Type:=Option (Nat×Option ByteArray)
def eG (k:Nat):jQ->Value
 | none=>UX k
 | some (t,none)=>.iface t (.agg #[])
 | some (t,some s)=>.iface t (.agg #[.string s])
def AN:Nat:=140737488355328
def wU (k:Nat):jQ->Prop
 | none=>True
 | some (_,none)=>k=3
 | some (_,some s)=>k=3/\s.size<=AN
@[reducible] def Ty.den:Ty->Type
 | .int _=>Int
 | .bool=>Bool
 | .str=>ByteArray
 | .slice e=>List e.den
 | .prod a b=>a.den×b.den
 | .agg t=>t.den
 | .ref _=>jQ
def Ty.size:Ty->Nat
 | .prod a b=>a.size+b.size
 | .agg t=>t.size
 | .int _=>1
 | .bool=>1
 | .str=>1
 | .slice _=>1
 | .ref _=>1
def Ty.dflt:(t:Ty)->t.den
 | .int _=>(0:Int)
 | .bool=>false
 | .str=>ByteArray.empty
 | .slice _=>[]
 | .prod a b=>(a.dflt,b.dflt)
 | .agg t=>t.dflt
 | .ref _=>none
def Ty.zero:Ty->List Value
 | .int k=>[.int k 0]
 | .bool=>[.bool false]
 | .str=>[.string ByteArray.empty]
 | .slice _=>[.slice none 0 0]
 | .prod a b=>a.zero++b.zero
 | .agg t=>t.zero
 | .ref k=>[UX k]
def Ty.wrap:Ty->List Value->Value
 | .agg _,cs=>.agg cs.toArray
 | .prod _ _,cs=>.agg cs.toArray
 | .int _,cs=>cs.headD undef
 | .bool,cs=>cs.headD undef
 | .str,cs=>cs.headD undef
 | .slice _,cs=>cs.headD undef
 | .ref _,cs=>cs.headD undef
def Gm (k:IntKind) (n:Int):Prop:=k.min<=n/\n<=k.max
def Bl (w:World) (O:Nat->Prop):(t:Ty)->List Value->t.den->Prop
 | .int k,cs,d=>cs=[.int k d]/\Gm k d
 | .bool,cs,d=>cs=[.bool d]
 | .str,cs,d=>cs=[.string d]/\ByteArray.size d<=AN
 | .slice e,cs,d=>∃(a:Option Addr) (c:Nat),cs=[.slice a (List.length d) c]/\List.length d<=c/\List.length d<=AN /\
   (d=[]\/∃ad:Addr,a=some ad/\¬O ad.block /\
    ∀(i:Nat) (x:e.den),d[i]?=some x->∃es:List Value,es.length=e.size/\(∀(j:Nat) (v:Value),es[j]?=some v->w.cell? (ad.add (i*e.size+j))=some v)/\Bl w O e es x)
 | .prod a b,cs,d=>∃c1 c2:List Value,cs=c1++c2/\Bl w O a c1 d.1/\Bl w O b c2 d.2
 | .agg t,cs,d=>Bl w O t cs d
 | .ref k,cs,d=>cs=[eG k d]/\wU k d
def BG (w:World) (O:Nat->Prop) (t:Ty) (v:Value) (d:t.den):Prop:=∃cs,Bl w O t cs d/\v=t.wrap cs
theorem CJ (a:Addr) (n:Nat):(a.add n).block=a.block:=by unfold Addr.add;split<;>rfl
theorem C8 (a:Addr) (i j:Nat):(a.add i).add j=a.add (i+j):=by
 unfold Addr.add;grind
theorem Gn (a:Addr):a.add 0=a:=rfl
theorem WD (g j:Nat):(⟨g,0,none⟩:Addr).add j=⟨g,j,none⟩:=by
 unfold Addr.add;split<;>simp_all
theorem Gw (g i j:Nat):(⟨g,i,none⟩:Addr).add j=⟨g,i+j,none⟩:=by
 unfold Addr.add;split<;>simp_all
theorem Ty.size_pos:∀t:Ty,0<t.size
 | .int _=>by simp[Ty.size]
 | .bool=>by simp[Ty.size]
 | .str=>by simp[Ty.size]
 | .slice _=>by simp[Ty.size]
 | .ref _=>by simp[Ty.size]
 | .prod a b=>by have:=a.size_pos;simp[Ty.size];omega
 | .agg t=>by simpa[Ty.size] using t.size_pos
theorem Bl.length {w:World} {O:Nat->Prop}:∀ {t:Ty} {cs:List Value} {d:t.den},Bl w O t cs d->cs.length=t.size
 | .int _,_,_,h=>by obtain⟨rfl,_⟩:=h;rfl
 | .bool,_,_,h=>by have h:_=_:=h;subst h;rfl
 | .str,_,_,h=>by obtain⟨rfl,_⟩:=h;rfl
 | .slice _,_,_,h=>by obtain⟨_,_,rfl,_⟩:=h;rfl
 | .ref _,_,_,h=>by obtain⟨rfl,_⟩:=h;rfl
 | .prod a b,_,_,h=>by
  obtain⟨c1,c2,rfl,c,e⟩:=h;simp[Ty.size,Bl.length c,Bl.length e]
 | .agg t,_,_,h=>by
  have h:Bl w O t _ _:=h;simpa[Ty.size] using Bl.length h
theorem QD (k:Nat) (d:jQ):(eG k d).oneCell'=true:=by
 match d with
 | some (_,none)=>rfl
 | some (_,some _)=>rfl
 | none=>match k with
  | 0=>rfl
  | 1=>rfl
  | 2=>rfl
  | _+3=>rfl
theorem QE (k:Nat) (d:jQ):(eG k d).cells=#[eG k d]:=by
 match d with
 | some (_,none)=>rfl
 | some (_,some _)=>rfl
 | none=>match k with
  | 0=>rfl
  | 1=>rfl
  | 2=>rfl
  | _+3=>rfl
theorem Bl.one {w:World} {O:Nat->Prop}:∀ {t:Ty} {cs:List Value} {d:t.den},Bl w O t cs d->∀v∈cs,v.oneCell'=true
 | .int _,_,_,h=>by obtain⟨rfl,_⟩:=h;simp[Value.oneCell']
 | .bool,_,_,h=>by have h:_=_:=h;subst h;simp[Value.oneCell']
 | .str,_,_,h=>by obtain⟨rfl,_⟩:=h;simp[Value.oneCell']
 | .slice _,_,_,h=>by obtain⟨_,_,rfl,_⟩:=h;simp[Value.oneCell']
 | .ref k,_,d,h=>by
  obtain⟨rfl,_⟩:=h;intro v c;obtain rfl:=nO.1 c;exact QD k d
 | .prod a b,_,_,h=>by
  obtain⟨c1,c2,rfl,e,f⟩:=h;intro v c;rcases aT.1 c with c|c
  .exact Bl.one e v c
  exact Bl.one f v c
 | .agg t,_,_,h=>by
  have h:Bl w O t _ _:=h;exact Bl.one h
theorem Bl.mono {w w':World} {O O':Nat->Prop} (f:∀b,b<w.heap.size->¬O b->¬O' b) (g:∀b,b<w.heap.size->¬O b->w'.heap[b]?=w.heap[b]?) :
  ∀ {t:Ty} {cs:List Value} {d:t.den},Bl w O t cs d->Bl w' O' t cs d
 | .int _,_,_,h=>h
 | .bool,_,_,h=>h
 | .str,_,_,h=>h
 | .ref _,_,_,h=>h
 | .slice e,_,d,h=>by
  obtain⟨a,c,rfl,k,l,m⟩:=h;refine⟨a,c,rfl,k,l,?_⟩;rcases m with m|⟨ad,rfl,s,q⟩
  .exact .inl m
  by_cases o:d=[]
  .exact .inl o
  have y:ad.block<w.heap.size:=by
   obtain⟨x,r,rfl⟩:∃x r,d=x :: r:=ABD o;obtain⟨es,p,n,_⟩:=q 0 x rfl;have hp:=e.size_pos;have:es[0]?=some (es[0]'(by omega)):=DO oa;have:=ACe (n 0 _ this)
   rwa [CJ]at this
  refine .inr ⟨ad,rfl,f _ y s,λi x hi=>?_⟩;obtain⟨es,p,n,z⟩:=q i x hi;refine⟨es,p,λj v u=>?_,Bl.mono f g z⟩;rw[ABF (w:=w) (w':=w')]
  .exact n j v u
  grind [CJ]
 | .prod a b,_,_,h=>by
  obtain⟨c1,c2,rfl,k,l⟩:=h;exact⟨c1,c2,rfl,Bl.mono f g k,Bl.mono f g l⟩
 | .agg t,_,_,h=>by
  have h:Bl w O t _ _:=h;exact(Bl.mono f g h:Bl w' O' t _ _)
theorem BG.mono {w w':World} {O O':Nat->Prop} (e:∀b,b<w.heap.size->¬O b->¬O' b) (f:∀b,b<w.heap.size->¬O b->w'.heap[b]?=w.heap[b]?)
  {t:Ty} {v:Value} {d:t.den} (h:BG w O t v d):BG w' O' t v d :=
 let ⟨cs,a,c⟩:=h
 ⟨cs,a.mono e f,c⟩
theorem Bl.zero (w:World) (O:Nat->Prop):∀t:Ty,Bl w O t t.zero t.dflt
 | .int k=>⟨rfl,by cases k<;>exact⟨by decide,by decide⟩⟩
 | .bool=>rfl
 | .str=>⟨rfl,by simp[Ty.dflt,AN]⟩
 | .slice _=>⟨none,0,rfl,by simp[Ty.dflt],by simp[Ty.dflt,AN],.inl rfl⟩
 | .ref _=>⟨rfl,trivial⟩
 | .prod a b=>⟨_,_,rfl,Bl.zero w O a,Bl.zero w O b⟩
 | .agg t=>(Bl.zero w O t:Bl w O t _ _)
structure PV where
 t:Ty
 d:t.den
def BR (t:Ty) (p:PV):Option t.den:=if h:p.t=t then some (h▸p.d) else none
theorem E0 (t:Ty) (d:t.den):BR t ⟨t,d⟩=some d:=by simp[BR]
def GM:(t:Ty)->Nat->t.den->Option PV
 | .prod a _,0,d=>some ⟨a,d.1⟩
 | .prod _ b,k+1,d=>GM b k d.2
 | .int k,0,d=>some ⟨.int k,d⟩
 | .bool,0,d=>some ⟨.bool,d⟩
 | .str,0,d=>some ⟨.str,d⟩
 | .slice e,0,d=>some ⟨.slice e,d⟩
 | .agg t,0,d=>some ⟨.agg t,d⟩
 | .ref k,0,d=>some ⟨.ref k,d⟩
 | _,_,_=>none
def Le:(t:Ty)->Nat->t.den->PV->Option t.den
 | .prod a _,0,d,x=>(BR a x).map λy=>(y,d.2)
 | .prod _ b,k+1,d,x=>(Le b k d.2 x).map λy=>(d.1,y)
 | .int k,0,_,x=>BR (.int k) x
 | .bool,0,_,x=>BR .bool x
 | .str,0,_,x=>BR .str x
 | .slice e,0,_,x=>BR (.slice e) x
 | .agg t,0,_,x=>BR (.agg t) x
 | .ref k,0,_,x=>BR (.ref k) x
 | _,_,_,_=>none
def I2:Ty->Nat->Option Nat
 | .prod _ _,0=>some 0
 | .prod a b,k+1=>(I2 b k).map (a.size + ·)
 | .int _,0=>some 0
 | .bool,0=>some 0
 | .str,0=>some 0
 | .slice _,0=>some 0
 | .agg _,0=>some 0
 | .ref _,0=>some 0
 | _,_=>none
def UY:Ty->Nat->Option Ty
 | .prod a _,0=>some a
 | .prod _ b,k+1=>UY b k
 | .int k,0=>some (.int k)
 | .bool,0=>some .bool
 | .str,0=>some .str
 | .slice e,0=>some (.slice e)
 | .agg t,0=>some (.agg t)
 | .ref k,0=>some (.ref k)
 | _,_=>none
def Pb:List Nat->(t:Ty)->t.den->Option PV
 | [],t,d=>some ⟨t,d⟩
 | k :: r,.agg t,d=>match GM t k d with
  | some pv=>Pb r pv.t pv.d
  | none=>none
 | _ :: _,_,_=>none
def QF:List Nat->(t:Ty)->t.den->PV->Option t.den
 | [],t,_,x=>BR t x
 | k :: r,.agg t,d,x=>match GM t k d with
  | some pv=>match QF r pv.t pv.d x with
   | some y=>Le t k d ⟨pv.t,y⟩
   | none=>none
  | none=>none
 | _ :: _,_,_,_=>none
def J4:List Nat->Ty->Option Nat
 | [],_=>some 0
 | k :: r,.agg t=>match I2 t k,UY t k with
  | some o,some u=>(J4 r u).map (o + ·)
  | _,_=>none
 | _ :: _,_=>none
inductive AV where
 
 | p (t:Ty) (d:t.den)
 
 | raw (v:Value)
 
 | sr (n:Nat) (e:Ty) (lo hi:Nat)
 
 | ep (n:Nat) (e:Ty) (i:Nat) (path:List Nat) (off:Nat)
 
 | pc (e:Ty) (d:List e.den)
 
 | ip (t:Ty) (d:t.den)
 
 | bp (n:Nat) (path:List Nat) (off:Nat)
 | fn (f:FuncId)
 
 | clo (f:FuncId) (ns:List Nat)
 
 | mp (n:Nat)
 
 | yl (n:Nat)
 
 | nin (n:Nat) (e:Ty) (i len:Nat)
 
 | ag (l:List AV)
 | tup (l:List AV)
 
 | top
def blk:Value->Option Nat
 | .slice (some a) _ _=>some a.block
 | .pointer (some a)=>some a.block
 | .map (some b)=>some b
 | _=>none
def bk (v:Value) (b:Nat):Prop:=blk v=some b\/∃a:Array Value,v=.tuple a/\∃x∈a.toList,blk x=some b
def plc:Value->Value
 | .tuple a=>a.getD 0 undef
 | v=>v
structure z7 where
 S:World->(Nat->Prop)->Value->Prop
 keeps:∀(w w':World) (O O':Nat->Prop) (loc:Value),(∀b,b<w.heap.size->¬O b->¬O' b)->(∀b,b<w.heap.size->¬O b->w'.heap[b]?=w.heap[b]?)->(∀b,bk loc b->w'.heap[b]?=w.heap[b]?)->S w O loc->S w' O' loc
 lt:∀(w:World) (O:Nat->Prop) (loc:Value) (b:Nat),S w O loc->bk loc b->b<w.heap.size
 mp:∀(w:World) (O:Nat->Prop) (loc:Value),S w O loc->∃b:Nat,plc loc=.map (some b)
 inn:∀(w:World) (O:Nat->Prop) (vs:Array Value) (i:Nat) (a:Option Addr) (m c:Nat),S w O (.tuple vs)->vs[i+1]?=some (.slice a m c)->m<=AN
inductive Obj where
 | arr (et:TypeId) (e:Ty) (xs:List e.den)
 | box (et:TypeId) (st:Bool) (fs:List AV)
 
 | mapo (k v:Ty) (l:List (k.den×v.den))
 
 | itr (k v:Ty) (l:List (k.den×v.den)) (left:List Nat) (cur:Option Nat)
 
 | nest (et iet:TypeId) (k e:Ty) (xs:List (k.den×List e.den)) (h:Option Nat)
 
 | frame (tm:Array Value) (fs:List (Nat×AV))
 
 | loop (L:Go.Loop)
 
 | dfr
 
 | sit (s:ByteArray) (pos:Nat)
 | gen (G:z7)
structure St where
 env:List (Nat×AV)
 objs:List (Nat×Obj)
def lk {α:Type}:Nat->List (Nat×α)->Option α
 | _,[]=>none
 | k,(j,v) :: r=>if k=j then some v else lk k r
def SU {α:Type}:Nat->List (Nat×α)->List (Nat×α)
 | _,[]=>[]
 | k,(j,v) :: r=>if k=j then SU k r else (j,v) :: SU k r
def upd {α:Type}:Nat->α->List (Nat×α)->List (Nat×α)
 | _,_,[]=>[]
 | k,u,(j,v) :: r=>if k=j then (j,u) :: upd k u r else (j,v) :: upd k u r
def sub {α:Type} (xs:List α) (lo hi:Nat):List α:=(xs.drop lo).take (hi-lo)
theorem HW {α:Type} (xs:List α):sub xs 0 xs.length=xs:=by simp[sub]
structure TI where
 ty:Ty
 offs:List (Nat×Nat):=[]
 el:TypeId:=0
 bytes:Nat
inductive RV where
 | p (t:Ty) (d:t.den)
 | own (et:TypeId) (e:Ty) (xs:List e.den)
@[reducible] def H4:List Ty->Type
 | []=>Unit
 | t :: r=>t.den×H4 r
def Ty.flat:Ty->Bool
 | .slice _=>false
 | .prod a b=>a.flat&&b.flat
 | .agg t=>t.flat
 | .int _=>true
 | .bool=>true
 | .str=>true
 | .ref _=>true
def RV.flat:RV->Bool
 | .p t _=>t.flat
 | .own _ _ _=>false
structure Spec where
 ins:List Ty
 lend:Bool:=false
 pre:H4 ins->Prop
 out:H4 ins->List RV
structure Tb where
 ty:List (Nat×TI)
 fns:List (Nat×Spec)
 
 pure:List Nat:=[]
 
 nests:List (Nat×TypeId):=[]
 
 live:List Nat:=[]
def p9 (n:Nat):List Nat->Bool
 | []=>false
 | m :: r=>if n=m then true else p9 n r
def Ga:Value->AV
 | .int k n=>if k.min<=n/\n<=k.max then .p (.int k) n else .raw (.int k n)
 | .bool b=>.p .bool b
 | .string s=>if s.size<=AN then .p .str s else .raw (.string s)
 | v=>.raw v
def Ae (σ:St):Operand->Option AV
 | .tmp t=>lk t σ.env
 | .const v=>some (Ga v)
 | .func f=>some (.fn f)
 | .global _=>none
def Lk (e:Ty) (lo hi:Nat):Option Obj->Option (List e.den)
 | some (.arr _ a xs)=>BR (.slice e) ⟨.slice a,sub xs lo hi⟩
 | some (.nest _ _ k a xs none)=>BR (.slice e) ⟨.slice (.agg (.prod k (.slice a))),sub xs lo hi⟩
 | _=>none
def Np (e:Ty) (i:Nat):Option Obj->Option (List e.den)
 | some (.nest _ _ k a xs none)=>BR (.slice e) ⟨.slice a,(xs.getD i (k.dflt,[])).2⟩
 | _=>none
def EU (l:Bool) (σ:St):(t:Ty)->AV->Option t.den
 | t,.p u d=>BR t ⟨u,d⟩
 | .slice e,.sr n a lo hi=>if l=true/\a=e then Lk e lo hi (lk n σ.objs) else none
 | .slice e,.nin n a i _=>if l=true/\a=e then Np e i (lk n σ.objs) else none
 | .slice _,.raw (.slice none 0 0)=>some []
 | _,_=>none
def J5 {α β:Type}:Option α->Option β->Option (α×β)
 | some a,some b=>some (a,b)
 | _,_=>none
def I3 (l:Bool) (σ:St):List AV->(t:Ty)->Option t.den
 | [],_=>none
 | [x],t=>EU l σ t x
 | x :: y :: r,.prod a b=>J5 (EU l σ a x) (I3 l σ (y :: r) b)
 | _ :: _ :: _,_=>none
def IQ (l:Bool) (σ:St):(t:Ty)->AV->Option t.den
 | .agg t,.ag fs=>I3 l σ fs t
 | t,x=>EU l σ t x
def Ac (n:Nat):List Nat->Bool
 | []=>false
 | m :: r=>if n=m then true else Ac n r
theorem Ah (n:Nat):∀l:List Nat,Ac n l=true↔n∈l
 | []=>by simp[Ac]
 | m :: r=>by
  simp only[Ac,Is];split
  .rename_i h;simp[h]
  rename_i h;simp[h,Ah n r]
mutual
def AV.fgt (hs:List Nat):AV->AV
 | .sr m e lo hi=>if Ac m hs=true then .top else .sr m e lo hi
 | .ep m e i path off=>if Ac m hs=true then .top else .ep m e i path off
 | .nin m e i len=>if Ac m hs=true then .top else .nin m e i len
 | .bp m path off=>if Ac m hs=true then .top else .bp m path off
 | .mp m=>if Ac m hs=true then .top else .mp m
 | .yl m=>if Ac m hs=true then .top else .yl m
 | .clo f ns=>if (ns.any λn=>Ac n hs)=true then .top else .clo f ns
 | .ag l=>.ag (AV.fgts hs l)
 | .tup l=>.tup (AV.fgts hs l)
 | .p t d=>.p t d
 | .pc e d=>.pc e d
 | .raw v=>.raw v
 | .ip t d=>.ip t d
 | .fn f=>.fn f
 | .top=>.top
def AV.fgts (hs:List Nat):List AV->List AV
 | []=>[]
 | x :: r=>AV.fgt hs x :: AV.fgts hs r
end
def CT (hs:List Nat):List (Nat×AV)->List (Nat×AV)
 | []=>[]
 | (s,x) :: r=>(s,x.fgt hs) :: CT hs r
def Obj.fgt (hs:List Nat):Obj->Obj
 | .arr et e xs=>.arr et e xs
 | .box et m fs=>.box et m (AV.fgts hs fs)
 | .mapo k v l=>.mapo k v l
 | .nest et b k e xs h=>.nest et b k e xs h
 | .frame n fs=>.frame n (CT hs fs)
 | .loop L=>.loop L
 | .itr c g d f a=>.itr c g d f a
 | .dfr=>.dfr
 | .sit i j=>.sit i j
 | .gen G=>.gen G
def BC (a hs:List Nat):List (Nat×Obj)->List (Nat×Obj)
 | []=>[]
 | (n,o) :: r=>if Ac n a=true then BC a hs r else (n,o.fgt hs) :: BC a hs r
mutual
def AV.trn (n:Nat) (hs:List Nat):AV->AV
 | .nin m e i len=>if m=n\/Ac m hs=true then .top else .nin m e i len
 | .sr m e lo hi=>if Ac m hs=true then .top else .sr m e lo hi
 | .ep m e i path off=>if Ac m hs=true then .top else .ep m e i path off
 | .bp m path off=>if Ac m hs=true then .top else .bp m path off
 | .mp m=>if Ac m hs=true then .top else .mp m
 | .yl m=>if Ac m hs=true then .top else .yl m
 | .clo f ns=>if (ns.any λn=>Ac n hs)=true then .top else .clo f ns
 | .ag l=>.ag (AV.trns n hs l)
 | .tup l=>.tup (AV.trns n hs l)
 | .p t d=>.p t d
 | .pc e d=>.pc e d
 | .raw v=>.raw v
 | .ip t d=>.ip t d
 | .fn f=>.fn f
 | .top=>.top
def AV.trns (n:Nat) (hs:List Nat):List AV->List AV
 | []=>[]
 | x :: r=>AV.trn n hs x :: AV.trns n hs r
end
def Bw (n:Nat) (hs:List Nat):List (Nat×AV)->List (Nat×AV)
 | []=>[]
 | (s,x) :: r=>(s,x.trn n hs) :: Bw n hs r
def Obj.trn (n:Nat) (hs:List Nat):Obj->Obj
 | .arr et e xs=>.arr et e xs
 | .box et m fs=>.box et m (AV.trns n hs fs)
 | .mapo k v l=>.mapo k v l
 | .nest et b k e xs h=>.nest et b k e xs h
 | .frame o fs=>.frame o (Bw n hs fs)
 | .loop L=>.loop L
 | .itr c g d f a=>.itr c g d f a
 | .dfr=>.dfr
 | .sit i j=>.sit i j
 | .gen G=>.gen G
def Ba (n:Nat) (hs:List Nat):List (Nat×Obj)->List (Nat×Obj)
 | []=>[]
 | (m,o) :: r=>if Ac m (n :: hs)=true then Ba n hs r else (m,o.trn n hs) :: Ba n hs r
def Ci:Option Obj->Bool
 | some (.nest _ _ _ _ _ _)=>true
 | _=>false
def K5 (σ:St) (e:Ty):AV->Option (List e.den)
 | .sr n a lo hi=>if Ci (lk n σ.objs)=true then none else IQ true σ (.slice e) (.sr n a lo hi)
 | x=>IQ true σ (.slice e) x
def AM (x y:ByteArray):Bool:=x.toList==y.toList
def Bh (x y:ByteArray):Bool:=Op.bytesLess x.toList y.toList
def A4 (op:BinOp) (k:IntKind) (x y:Int):Int :=
 k.wrap (match op with
  | .and=>((BitVec.ofInt k.bits x &&& BitVec.ofInt k.bits y).toNat:Int)
  | .or=>((BitVec.ofInt k.bits x ||| BitVec.ofInt k.bits y).toNat:Int)
  | .xor=>((BitVec.ofInt k.bits x ^^^ BitVec.ofInt k.bits y).toNat:Int)
  | _=>((BitVec.ofInt k.bits x &&& ~~~BitVec.ofInt k.bits y).toNat:Int))
def Pc (k:IntKind) (x y:Int):Int:=k.wrap (x*2 ^ (min y.toNat k.bits))
def Cj (k:IntKind) (x y:Int):Int:=x.fdiv (2 ^ (min y.toNat k.bits))
def YW (k:IntKind) (a b:Int):BinOp->Prop×AV
 | .add=>(Gm k (a+b),.p (.int k) (a+b))
 | .sub=>(Gm k (a-b),.p (.int k) (a-b))
 | .mul=>(Gm k (a*b),.p (.int k) (a*b))
 | .quo=>(b≠0/\Gm k (a.tdiv b),.p (.int k) (a.tdiv b))
 | .rem=>(b≠0/\Gm k (a.tmod b),.p (.int k) (a.tmod b))
 | .and=>(True,.p (.int k) (A4 .and k a b))
 | .or=>(True,.p (.int k) (A4 .or k a b))
 | .xor=>(True,.p (.int k) (A4 .xor k a b))
 | .andNot=>(True,.p (.int k) (A4 .andNot k a b))
 | .shl=>(False,.top)
 | .shr=>(False,.top)
 | .eql=>(True,.p .bool (a==b))
 | .neq=>(True,.p .bool (a != b))
 | .lss=>(True,.p .bool (decide (a<b)))
 | .leq=>(True,.p .bool (decide (a<=b)))
 | .gtr=>(True,.p .bool (decide (b<a)))
 | .geq=>(True,.p .bool (decide (b<=a)))
def SX (a b:ByteArray):BinOp->Prop×AV
 | .add=>(a.size+b.size<=AN,.p .str (a++b))
 | .eql=>(True,.p .bool (AM a b))
 | .neq=>(True,.p .bool (!AM a b))
 | .lss=>(True,.p .bool (Bh a b))
 | .leq=>(True,.p .bool (Bh a b||AM a b))
 | .gtr=>(True,.p .bool (!(Bh a b||AM a b)))
 | .geq=>(True,.p .bool (!Bh a b))
 | _=>(False,.top)
def qA (op:BinOp) (k:IntKind) (a:Int) (c:IntKind) (b:Int):Prop×AV :=
 match op with
 | .shl=>(0<=b,.p (.int k) (Pc k a b))
 | .shr=>(0<=b/\Gm k (Cj k a b),.p (.int k) (Cj k a b))
 | op=>if k=c then YW k a b op else (False,.top)
def aG:Ty->AV
 | .slice _=>.raw (.slice none 0 0)
 | .ref k=>.raw (UX k)
 | t=>.p t t.dflt
def qI:Ty->List AV
 | .prod a b=>aG a :: qI b
 | t=>[aG t]
def qJ:Bool->Ty->AV
 | true,.agg u=>.ag (qI u)
 | _,t=>aG t
def Pd (b:Bool):Ty->List AV
 | .prod a c=>qJ b a :: Pd b c
 | t=>[qJ b t]
def qK:(t:Ty)->t.den->List AV
 | .prod a b,d=>.p a d.1 :: qK b d.2
 | .int k,d=>[.p (.int k) d]
 | .bool,d=>[.p .bool d]
 | .str,d=>[.p .str d]
 | .slice e,d=>[.p (.slice e) d]
 | .agg t,d=>[.p (.agg t) d]
 | .ref k,d=>[.p (.ref k) d]
mutual
def AV.cells:AV->Nat
 | .p t _=>t.size
 | .ag l=>AV.cellss l
 | .tup _=>0
 | .raw _=>1
 | .sr _ _ _ _=>1
 | .ep _ _ _ _ _=>1
 | .pc _ _=>1
 | .ip _ _=>1
 | .bp _ _ _=>1
 | .fn _=>1
 | .clo _ _=>1
 | .mp _=>1
 | .yl _=>1
 | .nin _ _ _ _=>1
 | .top=>1
def AV.cellss:List AV->Nat
 | []=>0
 | x :: r=>x.cells+AV.cellss r
end
def B9:List AV->Nat->Nat
 | _,0=>0
 | [],_+1=>0
 | x :: r,k+1=>x.cells+B9 r k
def EO:Bool->List AV->List Nat->Option AV
 | a,fs,[]=>if a then some (.ag fs) else fs[0]?
 | a,fs,[k]=>if a then fs[k]? else none
 | a,fs,k :: r=>if a then match fs[k]? with
   | some (.p t d)=>(Pb r t d).map λpv=>.p pv.t pv.d
   | some (.ag l)=>EO true l r
   | _=>none
  else none
def H5:List AV->List Nat->Option Nat
 | _,[]=>some 0
 | fs,k :: r=>match fs[k]? with
  | some (.p t _)=>(J4 r t).map (B9 fs k + ·)
  | some (.ag l)=>(H5 l r).map (B9 fs k + ·)
  | some _=>if r.isEmpty then some (B9 fs k) else none
  | none=>none
def Ty.cell1:Ty->Bool
 | .agg _=>false
 | .prod _ _=>false
 | .int _=>true
 | .bool=>true
 | .str=>true
 | .slice _=>true
 | .ref _=>true
def CF (ty:Ty):AV->Bool
 | .p t _=>ty=t
 | .ag l=>match ty with|.agg t=>B9 l l.length==t.size|_=>false
 | .tup _=>false
 | .top=>false
 | .raw u=>u.oneCell'&&ty.cell1
 | _=>ty.cell1
def Ll (ty:Ty):AV->Bool
 | .top=>ty.cell1
 | x=>CF ty x
def EV (n:Nat):Bool:=decide (1000000<=n)
mutual
def AV.frz (n:Nat) (e:Ty) (xs:List e.den):AV->AV
 | .sr m e' lo hi=>if m=n then (if e'=e then .p (.slice e) (sub xs lo hi) else .top) else .sr m e' lo hi
 | .ep m e' i path off=>if m=n then .top else .ep m e' i path off
 | .nin m e' i len=>if m=n then .top else .nin m e' i len
 | .ag l=>.ag (AV.frzs n e xs l)
 | .tup l=>.tup (AV.frzs n e xs l)
 | .p t d=>.p t d
 | .pc e d=>.pc e d
 | .raw v=>.raw v
 | .ip t d=>.ip t d
 | .bp m path off=>.bp m path off
 | .fn f=>.fn f
 | .clo f ns=>.clo f ns
 | .mp n=>.mp n
 | .yl n=>.yl n
 | .top=>.top
def AV.frzs (n:Nat) (e:Ty) (xs:List e.den):List AV->List AV
 | []=>[]
 | x :: r=>AV.frz n e xs x :: AV.frzs n e xs r
end
def C9 (n:Nat) (e:Ty) (xs:List e.den):List (Nat×AV)->List (Nat×AV)
 | []=>[]
 | (s,x) :: r=>(s,x.frz n e xs) :: C9 n e xs r
def A1 (n:Nat) (e:Ty) (xs:List e.den):List (Nat×Obj)->List (Nat×Obj)
 | []=>[]
 | (m,.arr et a ys) :: r=>(m,.arr et a ys) :: A1 n e xs r
 | (m,.box et p fs) :: r=>(m,.box et p (AV.frzs n e xs fs)) :: A1 n e xs r
 | (m,.mapo k v l) :: r=>(m,.mapo k v l) :: A1 n e xs r
 | (m,.nest et c k a ys h) :: r=>(m,.nest et c k a ys h) :: A1 n e xs r
 | (m,.frame q fs) :: r=>(m,.frame q (C9 n e xs fs)) :: A1 n e xs r
 | (m,.loop L) :: r=>(m,.loop L) :: A1 n e xs r
 | (m,.itr d i f g b) :: r=>(m,.itr d i f g b) :: A1 n e xs r
 | (m,.dfr) :: r=>(m,.dfr) :: A1 n e xs r
 | (m,.sit j o) :: r=>(m,.sit j o) :: A1 n e xs r
 | (m,.gen G) :: r=>(m,.gen G) :: A1 n e xs r
def YX (n:Nat) (σ:St):Option Obj->St
 | some (.arr _ e xs)=>⟨C9 n e xs σ.env,A1 n e xs (SU n σ.objs)⟩
 | some (.nest _ _ k e xs none)=>⟨C9 n (.agg (.prod k (.slice e))) xs σ.env,A1 n (.agg (.prod k (.slice e))) xs (SU n σ.objs)⟩
 | _=>σ
def frz (n:Nat) (σ:St):St:=if EV n=true then σ else YX n σ (lk n σ.objs)
mutual
def AV.drp (n:Nat):AV->AV
 | .sr m e' lo hi=>if m=n then .top else .sr m e' lo hi
 | .ep m e' i path off=>if m=n then .top else .ep m e' i path off
 | .nin m e' i len=>if m=n then .top else .nin m e' i len
 | .ag l=>.ag (AV.drps n l)
 | .tup l=>.tup (AV.drps n l)
 | .p t d=>.p t d
 | .pc e d=>.pc e d
 | .raw v=>.raw v
 | .ip t d=>.ip t d
 | .bp m path off=>.bp m path off
 | .fn f=>.fn f
 | .clo f ns=>.clo f ns
 | .mp n=>.mp n
 | .yl n=>.yl n
 | .top=>.top
def AV.drps (n:Nat):List AV->List AV
 | []=>[]
 | x :: r=>AV.drp n x :: AV.drps n r
end
def FG (n:Nat):List (Nat×AV)->List (Nat×AV)
 | []=>[]
 | (s,x) :: r=>(s,x.drp n) :: FG n r
def BP (n:Nat):List (Nat×Obj)->List (Nat×Obj)
 | []=>[]
 | (m,.arr et a ys) :: r=>(m,.arr et a ys) :: BP n r
 | (m,.box et o fs) :: r=>(m,.box et o (AV.drps n fs)) :: BP n r
 | (m,.mapo k v l) :: r=>(m,.mapo k v l) :: BP n r
 | (m,.nest et c k a ys h) :: r=>(m,.nest et c k a ys h) :: BP n r
 | (m,.frame p fs) :: r=>(m,.frame p (FG n fs)) :: BP n r
 | (m,.loop L) :: r=>(m,.loop L) :: BP n r
 | (m,.itr d g e f b) :: r=>(m,.itr d g e f b) :: BP n r
 | (m,.dfr) :: r=>(m,.dfr) :: BP n r
 | (m,.sit i j) :: r=>(m,.sit i j) :: BP n r
 | (m,.gen G) :: r=>(m,.gen G) :: BP n r
mutual
def AV.names:AV->List Nat
 | .sr m _ _ _=>[m]
 | .ag l=>AV.namess l
 | .tup l=>AV.namess l
 | .p _ _=>[]
 | .pc _ _=>[]
 | .raw _=>[]
 | .ip _ _=>[]
 | .bp _ _ _=>[]
 | .ep _ _ _ _ _=>[]
 | .nin _ _ _ _=>[]
 | .fn _=>[]
 | .clo _ _=>[]
 | .mp _=>[]
 | .yl _=>[]
 | .top=>[]
def AV.namess:List AV->List Nat
 | []=>[]
 | x :: r=>x.names++AV.namess r
end
def F2 (σ:St):Option Operand->Option (Option AV)
 | none=>some none
 | some x=>(Ae σ x).map some
def EW (σ:St) (e:Ty):Nat->List (Nat×Operand)->Option (List e.den)
 | _,[]=>some []
 | k,(i,x) :: r=>if i=k then match Ae σ x with
   | some av=>match IQ false σ e av,EW σ e (k+1) r with
    | some y,some ys=>some (y :: ys)
    | _,_=>none
   | none=>none
  else none
def HX:AV->Bool
 | .p (.prod _ _) _=>false
 | .p _ _=>true
 | .raw u=>u.oneCell'
 | .ag _=>false
 | .tup _=>false
 | .top=>false
 | _=>true
def FH (σ:St):Option AV->Option AV->Option AV
 | some (.p t _),some (.ag l)=>(IQ false σ t (.ag l)).map λd=>.p t d
 | _,x=>x
def DV (σ:St) (offs:List (Nat×Nat)):List AV->List (Nat×Operand)->Option (List AV)
 | fs,[]=>some fs
 | fs,(i,x) :: r=>match FH σ fs[i]? (Ae σ x) with
  | some av=>if HX av=true/\(fs[i]?.map AV.cells)=some av.cells/\offs[i]?=some (B9 fs i,av.cells) then DV σ offs (fs.set i av) r else none
  | none=>none
def Fb (l:Bool) (σ:St):(ts:List Ty)->List Operand->Option (H4 ts)
 | [],[]=>some ()
 | t :: ts,x :: xs=>match Ae σ x with
  | some av=>match IQ l σ t av,Fb l σ ts xs with
   | some y,some ys=>some (y,ys)
   | _,_=>none
  | none=>none
 | _,_=>none
def WE (name:Nat):RV->AV
 | .p t d=>.p t d
 | .own _ e xs=>.sr name e 0 xs.length
def Oj (name:Nat):RV->List (Nat×Obj)
 | .p _ _=>[]
 | .own et e xs=>[(name,.arr et e xs)]
def Gx:Nat->List RV->List AV
 | _,[]=>[]
 | n,r :: l=>WE n r :: Gx (n+10000) l
def Cv:Nat->List RV->List (Nat×Obj)
 | _,[]=>[]
 | n,r :: l=>Oj n r++Cv (n+10000) l
def F3 (name:Nat):List RV->AV
 | []=>.raw (.tuple #[])
 | [r]=>WE name r
 | l=>.tup (Gx name l)
def L2:(t:Ty)->t.den->t.den->Bool
 | .int _,a,b=>(a:Int)==b
 | .bool,a,b=>(a:Bool)==b
 | .str,a,b=>(a:ByteArray)==b
 | .prod t u,a,b=>L2 t a.1 b.1&&L2 u a.2 b.2
 | .agg t,a,b=>L2 t a b
 | .slice _,_,_=>false
 | .ref _,_,_=>false
def YY:Ty->Bool
 | .prod (.int _) (.int _)=>true
 | _=>false
def SY:Ty->Bool
 | .int _=>true
 | .bool=>true
 | .str=>true
 | .prod _ _=>false
 | .agg t=>YY t
 | .slice _=>false
 | .ref _=>false
def AQ (a vt:Ty) (k:a.den):List (a.den×vt.den)->Option vt.den
 | []=>none
 | x :: r=>if L2 a k x.1=true then some x.2 else AQ a vt k r
def Bm (a vt:Ty) (k:a.den) (v:vt.den):List (a.den×vt.den)->List (a.den×vt.den)
 | []=>[(k,v)]
 | x :: r=>if L2 a k x.1=true then (k,v) :: r else x :: Bm a vt k v r
abbrev BU:=Option (Prop×AV×List (Nat×Obj))
def Gy (x:AV) (lo hi:Option AV):BU :=
 match x,lo,hi with
 | .p (.slice e) l,none,some (.p (.int _) h)=>some (0<=h/\h<=l.length,.p (.slice e) (sub l 0 h.toNat),[])
 | .p (.slice e) l,some (.p (.int _) a),none=>some (0<=a/\a<=l.length,.p (.slice e) (sub l a.toNat l.length),[])
 | .p (.slice e) l,some (.p (.int _) a),some (.p (.int _) h)=>some (0<=a/\a<=h/\h<=l.length,.p (.slice e) (sub l a.toNat h.toNat),[])
 | .p .str s,none,some (.p (.int _) h)=>some (0<=h/\h<=s.size,.p .str (s.extract 0 h.toNat),[])
 | .p .str s,some (.p (.int _) a),none=>some (0<=a/\a<=s.size,.p .str (s.extract a.toNat s.size),[])
 | .p .str s,some (.p (.int _) a),some (.p (.int _) h)=>some (0<=a/\a<=h/\h<=s.size,.p .str (s.extract a.toNat h.toNat),[])
 | .sr n e b c,none,some (.p (.int _) h)=>some (0<=h/\h<=(c-b:Nat),.sr n e b (b+h.toNat),[])
 | .sr n e b c,some (.p (.int _) a),none=>some (0<=a/\a<=(c-b:Nat),.sr n e (b+a.toNat) c,[])
 | .sr n e b c,some (.p (.int _) a),some (.p (.int _) h)=>some (0<=a/\a<=h/\h<=(c-b:Nat),.sr n e (b+a.toNat) (b+h.toNat),[])
 | _,_,_=>none
def F4:Option AV->BU
 | some v=>some (True,v,[])
 | none=>none
def Jn:Option AV->Option AV->Option AV->BU
 | some (.p .bool true),x,_=>F4 x
 | some (.p .bool false),_,y=>F4 y
 | _,_,_=>none
def I4 (a:Bool) (d:Nat) (t:TypeId):Option TI->BU
 | some ⟨.agg u,_,_,_⟩=>some (True,.bp d [] 0,[(d,.box t true (Pd a u))])
 | some ⟨.int k,_,_,_⟩=>some (True,.bp d [] 0,[(d,.box t false [aG (.int k)])])
 | some ⟨.bool,_,_,_⟩=>some (True,.bp d [] 0,[(d,.box t false [aG .bool])])
 | some ⟨.str,_,_,_⟩=>some (True,.bp d [] 0,[(d,.box t false [aG .str])])
 | some ⟨.slice e,_,_,_⟩=>some (True,.bp d [] 0,[(d,.box t false [aG (.slice e)])])
 | some ⟨.ref k,_,_,_⟩=>some (True,.bp d [] 0,[(d,.box t false [aG (.ref k)])])
 | _=>none
def Pe (d:Nat) (t:TypeId):Option TI->Option AV->BU
 | some ⟨.agg u,_,_,_⟩,some (.p (.agg a) v)=>if u=a then some (True,.bp d [] 0,[(d,.box t true (qK a v))]) else none
 | some ⟨.agg u,_,_,_⟩,some (.ag l)=>if l.map AV.cells=(qI u).map AV.cells then some (True,.bp d [] 0,[(d,.box t true l)]) else none
 | some ⟨.int k,_,_,_⟩,some v=>if CF (.int k) v then some (True,.bp d [] 0,[(d,.box t false [v])]) else none
 | some ⟨.bool,_,_,_⟩,some v=>if CF .bool v then some (True,.bp d [] 0,[(d,.box t false [v])]) else none
 | some ⟨.str,_,_,_⟩,some v=>if CF .str v then some (True,.bp d [] 0,[(d,.box t false [v])]) else none
 | some ⟨.slice e,_,_,_⟩,some v=>if CF (.slice e) v then some (True,.bp d [] 0,[(d,.box t false [v])]) else none
 | some ⟨.ref k,_,_,_⟩,some v=>if CF (.ref k) v then some (True,.bp d [] 0,[(d,.box t false [v])]) else none
 | _,_=>none
def H6 (a:Bool) (σ:St) (parts:List (Nat×Operand)):Option TI->BU
 | some ⟨.agg u,offs,_,_⟩=>F4 ((DV σ offs (Pd a u) parts).map AV.ag)
 | _=>none
def Bj (a:Bool) (d:Nat) (n:Nat) (el:TypeId) (e:Ty):Option (List e.den)->BU
 | some xs=>some (xs.length=n/\n*e.size<=16777216,if a then .p (.slice e) xs else .sr d e 0 n,if a then [] else [(d,.arr el e xs)])
 | none=>none
def Bd (a:Bool) (σ:St) (d:Nat) (n:Nat) (parts:List (Nat×Operand)):Option TI->BU
 | some ⟨.slice e,_,el,_⟩=>Bj a d n el e (EW σ e 0 parts)
 | _=>none
def I5 (d:Nat) (el b:TypeId) (n:Nat) (k e:Ty):Option k.den->AV->BU
 | some a,.raw (.slice none 0 0)=>some (n=1/\k.size+1<=16777216,.sr d (.agg (.prod k (.slice e))) 0 1,[(d,.nest el b k e [(a,[])] none)])
 | some a,.pc c l=>if c=e then some ((n=1/\k.size+1<=16777216)/\List.length l=0,.sr d (.agg (.prod k (.slice e))) 0 1,[(d,.nest el b k e [(a,[])] none)]) else none
 | _,_=>none
def H7 (σ:St) (d:Nat) (el a:TypeId) (n:Nat):Ty->Option AV->BU
 | .agg (.prod k (.slice e)),some (.ag [x,y])=>I5 d el a n k e (EU false σ k x) y
 | _,_=>none
def H8 (σ:St) (d:Nat) (a:TypeId) (n:Nat):List (Nat×Operand)->Option TI->BU
 | [(0,x)],some ⟨.slice t,_,el,_⟩=>H7 σ d el a n t (Ae σ x)
 | _,_=>none
def Fx (tb:Tb) (σ:St) (d:Nat) (n:Nat) (parts:List (Nat×Operand)) (ti:Option TI):Option TypeId->BU
 | some a=>H8 σ d a n parts ti
 | none=>Bd (p9 d tb.pure) σ d n parts ti
def HY (ty:Ty) (fs:List AV) (a:List Nat) (off:Nat):Option AV->BU
 | some v=>if CF ty v=true/\H5 fs a=some off then some (True,v,[]) else none
 | none=>none
def DW (ty:Ty) (a:List Nat) (off:Nat):Option Obj->BU
 | some (.box _ b fs)=>HY ty fs a off (EO b fs a)
 | _=>none
def HZ (ty e:Ty) (a:List Nat) (off:Nat):Option PV->BU
 | some ⟨t,d⟩=>if ty=t/\J4 a e=some off then some (True,.p t d,[]) else none
 | none=>none
def Ha (ty e:Ty) (i:Nat) (a:List Nat) (off:Nat):Option (List e.den)->BU
 | some ys=>HZ ty e a off (Pb a e (ys.getD i e.dflt))
 | none=>none
def L3 (n:Nat) (ty:Ty) (i off:Nat) (k e:Ty) (x:k.den×List e.den):List Nat->BU
 | [0]=>if ty=k/\off=0 then some (True,.p k x.1,[]) else none
 | [1]=>if ty=.slice e/\off=k.size then some (True,.nin n e i x.2.length,[]) else none
 | _=>none
def DX (n:Nat) (ty e:Ty) (i:Nat) (b:List Nat) (off:Nat):Option Obj->BU
 | some (.arr _ a xs)=>Ha ty e i b off (BR (.slice e) ⟨.slice a,xs⟩)
 | some (.nest _ _ k a xs none)=>if e=.agg (.prod k (.slice a)) then L3 n ty i off k a (xs.getD i (k.dflt,[])) b else none
 | _=>none
def IR (σ:St):Option TI->Option AV->BU
 | some ti,some (.bp n a off)=>DW ti.ty a off (lk n σ.objs)
 | some ti,some (.ep n e i a off)=>DX n ti.ty e i a off (lk n σ.objs)
 | some ti,some (.ip u v)=>if ti.ty=u then some (True,.p u v,[]) else none
 | _,_=>none
def Hb (o:Option (Nat×Nat)) (a:Option Nat):Option PV->BU
 | some ⟨t,d⟩=>if o.map (·.1)=a then some (True,.ip t d,[]) else none
 | none=>none
def QG (v:Nat->AV):Option (Nat×Nat)->BU
 | some (k,_)=>some (True,v k,[])
 | none=>none
def MV (f:Nat) (o:Option (Nat×Nat)):AV->BU
 | .bp n a off=>QG (λk=>.bp n (a++[f]) (off+k)) o
 | .ep n e i a off=>QG (λk=>.ep n e i (a++[f]) (off+k)) o
 | .ip (.agg u) v=>Hb o (I2 u f) (GM u f v)
 | _=>none
def GN (f:Nat):Option TI->Option AV->BU
 | some ⟨.agg _,offs,0,_⟩,some x=>MV f offs[f]? x
 | _,_=>none
def I6 (offs:List (Nat×Nat)) (x:AV):AV->BU
 | .p (.int _) k=>if 0<=k then MV k.toNat offs[k.toNat]? x else none
 | _=>none
def FI:Option TI->Option AV->Option AV->BU
 | some ⟨.slice e,_,_,_⟩,some (.p (.slice a) l),some (.p (.int _) k)=>if e=a then some (0<=k/\k<l.length,.ip a (l.getD k.toNat a.dflt),[]) else none
 | some ⟨.slice e,_,_,_⟩,some (.sr n a lo hi),some (.p (.int _) k)=>if e=a then some (0<=k/\k<(hi-lo:Nat),.ep n a (lo+k.toNat) [] 0,[]) else none
 | some ⟨.agg _,offs,_+1,_⟩,some x,some i=>I6 offs x i
 | _,_,_=>none
def Dy:Option TI->Option AV->Option AV->BU
 | some ⟨.str,_,_,_⟩,some (.p .str s),some (.p (.int _) k)=>some (0<=k/\k<s.size,.p (.int .u8) ((s.data.getD k.toNat 0).toNat:Int),[])
 | _,_,_=>none
def QH:Option AV->BU
 | some (.bp n a off)=>some (True,.bp n a off,[])
 | some (.ip t v)=>some (True,.ip t v,[])
 | some (.ep n e i a off)=>some (True,.ep n e i a off,[])
 | _=>none
def YZ (a b:Bool):BinOp->BU
 | .eql=>some (True,.p .bool (a==b),[])
 | .neq=>some (True,.p .bool (a != b),[])
 | _=>none
def Ol:Option TI->Bool
 | some ⟨.bool,_,_,_⟩=>true
 | _=>false
def Nq (op:BinOp) (ti:Option TI):Option AV->Option AV->BU
 | some (.p (.int k) a),some (.p (.int c) b)=>some ((qA op k a c b).1,(qA op k a c b).2,[])
 | some (.p .str a),some (.p .str b)=>some ((SX a b op).1,(SX a b op).2,[])
 | some (.p .bool a),some (.p .bool b)=>if Ol ti=true then YZ a b op else none
 | _,_=>none
def jR:UnOp->Option AV->BU
 | .not,some (.p .bool b)=>some (True,.p .bool (!b),[])
 | .neg,some (.p (.int k) a)=>some (Gm k (0-a),.p (.int k) (0-a),[])
 | _,_=>none
def GU (l:List Int):ByteArray:=⟨(l.map λx=>UInt8.ofNat x.toNat).toArray⟩
def IT:Option TI->Option TI->Option AV->BU
 | some ⟨.int _,_,_,_⟩,some ⟨.int k,_,_,_⟩,some (.p (.int _) a)=>some (Gm k a,.p (.int k) a,[])
 | some ⟨.slice (.int .u8),_,_,_⟩,some ⟨.str,_,_,_⟩,some (.p (.slice (.int .u8)) l)=>some (True,.p .str (GU l),[])
 | _,_,_=>none
def J6 (d:Nat) (el:TypeId) (e:Ty) (n m:Int):Option TI->BU
 | some ti=>some (n=m/\0<=n/\n.toNat*ti.bytes<=AN,.sr d e 0 n.toNat,[(d,.arr el e (List.replicate n.toNat e.dflt))])
 | none=>none
def Hc (tb:Tb) (d:Nat):Option TI->Option AV->Option AV->BU
 | some ⟨.slice e,_,el,_⟩,some (.p (.int .i64) n),some (.p (.int .i64) m)=>J6 d el e n m (lk el tb.ty)
 | _,_,_=>none
def Eq:Option TI->Option AV->Option (Option AV)->Option (Option AV)->BU
 | some ⟨.slice e,_,_,_⟩,some (.p (.slice d) l),some a,some h=>if e=d then Gy (.p (.slice d) l) a h else none
 | some ⟨.slice e,_,_,_⟩,some (.sr n d b c),some a,some h=>if e=d then Gy (.sr n d b c) a h else none
 | some ⟨.str,_,_,_⟩,some (.p .str s),some a,some h=>Gy (.p .str s) a h
 | _,_,_,_=>none
def DY:Option TI->Option AV->Option AV->Option AV->BU
 | some ⟨.slice e,_,_,_⟩,some (.p (.slice c) l),some (.p (.int _) a),some (.p (.int _) b)=>if e=c then some (a=(List.length l:Int)/\b=(List.length l:Int),.pc c l,[]) else none
 | _,_,_,_=>none
def D3 (i:Nat):Option AV->BU
 | some (.tup l)=>F4 l[i]?
 | _=>none
def Pf:Option TI->Option AV->BU
 | some ⟨.slice _,_,_,_⟩,some (.p (.slice _) l)=>some (True,.p (.int .i64) (l.length:Int),[])
 | some ⟨.slice _,_,_,_⟩,some (.sr _ _ lo hi)=>some (True,.p (.int .i64) ((hi-lo:Nat):Int),[])
 | some ⟨.slice _,_,_,_⟩,some (.nin _ _ _ len)=>some (True,.p (.int .i64) (len:Int),[])
 | some ⟨.slice _,_,_,_⟩,some (.raw (.slice none 0 0))=>some (True,.p (.int .i64) (0:Int),[])
 | some ⟨.str,_,_,_⟩,some (.p .str s)=>some (True,.p (.int .i64) (s.size:Int),[])
 | _,_=>none
def EZ (d:Nat) (el:TypeId) (e:Ty):Option TI->Option (List e.den)->BU
 | some ti,some ys=>some (ys.length*ti.bytes<=AN,.sr d e 0 ys.length,[(d,.arr el e ys)])
 | _,_=>none
def D4 (tb:Tb) (σ:St) (d:Nat) (v:AV):Option TI->BU
 | some ⟨.slice e,_,el,_⟩=>EZ d el e (lk el tb.ty) (K5 σ e v)
 | _=>none
def I7 (d:Nat) (el:TypeId) (e:Ty) (l:List e.den):Option TI->Option (List e.den)->BU
 | some ti,some ys=>some (0<ys.length/\(l.length+ys.length)*ti.bytes<=AN,.sr d e 0 (l.length+ys.length),[(d,.arr el e (l++ys))])
 | _,_=>none
def H9 (tb:Tb) (σ:St) (d:Nat) (e:Ty) (l:List e.den) (v:AV):Option TI->BU
 | some ⟨.slice a,_,el,_⟩=>if a=e then I7 d el e l (lk el tb.ty) (K5 σ e v) else none
 | _=>none
def DI (tb:Tb) (σ:St) (d:Nat) (t u:TypeId):Option AV->Option AV->BU
 | some (.raw (.slice none 0 0)),some v=>if t=u then D4 tb σ d v (lk t tb.ty) else none
 | some (.pc e l),some v=>if t=u then H9 tb σ d e l v (lk t tb.ty) else none
 | _,_=>none
def Nr:Option AV->Option AV->BU
 | some (.p (.int k) a),some (.p (.int c) b)=>if k=c then some (True,.p (.int k) (if b<a then b else a),[]) else none
 | _,_=>none
def Hd:Option AV->Option AV->Option AV->BU
 | some (.p (.int k) a),some (.p (.int d) b),some (.p (.int e) c)=>if k=d/\k=e then some (True,.p (.int k) (if c<(if b<a then b else a) then c else (if b<a then b else a)),[]) else none
 | _,_,_=>none
def Lm (k:IntKind) (a:Int):Option AV->Option Int
 | some (.p (.int c) b)=>if k=c then some (if b<a then b else a) else none
 | _=>none
def E1 (σ:St) (k:IntKind):Option Int->List Operand->Option Int
 | some a,x :: r=>E1 σ k (Lm k a (Ae σ x)) r
 | o,_=>o
def MW (k:IntKind):Option Int->BU
 | some m=>some (True,.p (.int k) m,[])
 | none=>none
def Ln (σ:St) (r:List Operand):Option AV->BU
 | some (.p (.int k) a)=>MW k (E1 σ k (some a) r)
 | _=>none
def Ns:Option AV->Option AV->BU
 | some (.p (.int k) a),some (.p (.int c) b)=>if k=c then some (True,.p (.int k) (if a<b then b else a),[]) else none
 | _,_=>none
def I8 (d:Nat) (a:Spec):Option (H4 a.ins)->BU
 | some ds=>if a.lend=false\/(a.out ds).all RV.flat=true then some (a.pre ds,F3 d (a.out ds),Cv d (a.out ds)) else none
 | none=>none
def IA (σ:St) (d:Nat) (xs:List Operand):Option Spec->BU
 | some a=>I8 d a (Fb a.lend σ a.ins xs)
 | none=>none
def J7 (tb:Tb) (σ:St) (d:Nat) (xs:List Operand):Option AV->BU
 | some (.fn f)=>IA σ d xs (lk f tb.fns)
 | _=>none
def D5 (tb:Tb) (σ:St) (d:Nat):Builtin->List Operand->List TypeId->BU
 | .len,[x],[t]=>Pf (lk t tb.ty) (Ae σ x)
 | .append,[x,y],[t,u]=>DI tb σ d t u (Ae σ x) (Ae σ y)
 | .min,[x,y],[_,_]=>Nr (Ae σ x) (Ae σ y)
 | .max,[x,y],[_,_]=>Ns (Ae σ x) (Ae σ y)
 | .min,[x,y,z],[_,_,_]=>Hd (Ae σ x) (Ae σ y) (Ae σ z)
 | .min,x :: y :: z :: u :: r,_=>Ln σ (y :: z :: u :: r) (Ae σ x)
 | _,_,_=>none
def Gz (σ:St):List Operand->Option (List Nat)
 | []=>some []
 | x :: r=>match Ae σ x,Gz σ r with
  | some (.bp n [] 0),some ns=>some (n :: ns)
  | _,_=>none
def MX (f:FuncId):Option (List Nat)->BU
 | some ns=>some (True,.clo f ns,[])
 | none=>none
def UZ (f:FuncId):Option AV->BU
 | some (.bp n [] 0)=>some (True,.clo (1000000+f) [n],[])
 | _=>none
def Ua (σ:St) (fn:Fn) (first a:List Operand):BU :=
 match fn,first,a with
 | .func f,[],cs=>if f<1000000 then MX f (Gz σ cs) else none
 | .func f,[x],[]=>UZ f (Ae σ x)
 | _,_,_=>none
def Fd (d:Nat):Option TI->Option TI->BU
 | some a,some te=>some (True,.mp d,[(d,.mapo a.ty te.ty [])])
 | _,_=>none
def E2 (tb:Tb) (d:Nat):List (Nat×Nat)->BU
 | [(k,e)]=>Fd d (lk k tb.ty) (lk e tb.ty)
 | _=>none
def DJ (tb:Tb) (d:Nat):Option TI->BU
 | some ⟨.ref 2,offs,_,_⟩=>E2 tb d offs
 | _=>none
def Dn (tb:Tb) (d:Nat) (ti:Option TI):Option AV->BU
 | some (.p (.int _) _)=>DJ tb d ti
 | _=>none
def J8 (vt:Ty) (ok:Bool) (r:Option vt.den):BU :=
 if ok then some (True,.tup [.p vt (r.getD vt.dflt),.p .bool r.isSome],[]) else some (True,.p vt (r.getD vt.dflt),[])
def I9 (a vt:Ty) (l:List (a.den×vt.den)) (ok:Bool):Option a.den->BU
 | some k=>if SY a=true then J8 vt ok (AQ a vt k l) else none
 | none=>none
def G0 (tb:Tb) (σ:St) (b c:Nat) (x:AV) (ok:Bool):Option Obj->BU
 | some (.mapo a vt l)=>if (lk b tb.ty).map TI.ty=some a/\(lk b tb.ty).map TI.el=some 0/\(lk c tb.ty).map TI.ty=some vt then I9 a vt l ok (IQ false σ a x) else none
 | _=>none
def He (tb:Tb) (σ:St) (ok:Bool):Option TI->Option AV->Option AV->BU
 | some ⟨.ref 2,[(k,e)],_,_⟩,some (.mp n),some x=>G0 tb σ k e x ok (lk n σ.objs)
 | _,_,_=>none
def DZ (tb:Tb) (σ:St) (d:Nat) (xs:List Operand) (ts:List TypeId):Callee->BU
 | .builtin b=>D5 tb σ d b xs ts
 | .value g=>J7 tb σ d xs (Ae σ g)
 | _=>none
def aq (tb:Tb) (σ:St) (d:Nat):Op->BU
 | .move x=>F4 (Ae σ x)
 | .assign x=>F4 (Ae σ x)
 | .pick c x y=>Jn (Ae σ c) (Ae σ x) (Ae σ y)
 | .alloc t=>I4 (p9 d tb.pure) d t (lk t tb.ty)
 | .box t x=>Pe d t (lk t tb.ty) (Ae σ x)
 | .build t parts=>H6 (p9 d tb.pure) σ parts.toList (lk t tb.ty)
 | .buildSlice t n parts=>Fx tb σ d n parts.toList (lk t tb.ty) (lk d tb.nests)
 | .load t x=>IR σ (lk t tb.ty) (Ae σ x)
 | .fieldAddr s x f=>GN f (lk s tb.ty) (Ae σ x)
 | .indexAddr t x i=>FI (lk t tb.ty) (Ae σ x) (Ae σ i)
 | .index t x i=>Dy (lk t tb.ty) (Ae σ x) (Ae σ i)
 | .nilCheck x=>QH (Ae σ x)
 | .binOp op t x y _=>Nq op (lk t tb.ty) (Ae σ x) (Ae σ y)
 | .unOp op _ x=>jR op (Ae σ x)
 | .convert s t x=>IT (lk s tb.ty) (lk t tb.ty) (Ae σ x)
 | .makeSlice t l c=>Hc tb d (lk t tb.ty) (Ae σ l) (Ae σ c)
 | .slice t x none (some hi) (some b)=>DY (lk t tb.ty) (Ae σ x) (Ae σ hi) (Ae σ b)
 | .slice t x lo hi none=>Eq (lk t tb.ty) (Ae σ x) (F2 σ lo) (F2 σ hi)
 | .extract x i=>D3 i (Ae σ x)
 | .call c=>DZ tb σ d c.args.toList c.argTypes.toList c.callee
 | .makeFunc fn first a=>Ua σ fn first.toList a.toList
 | .makeMap t none=>DJ tb d (lk t tb.ty)
 | .makeMap t (some z)=>Dn tb d (lk t tb.ty) (Ae σ z)
 | .lookup t x i ok=>He tb σ ok (lk t tb.ty) (Ae σ x) (Ae σ i)
 | _=>none
def MY:AV->Bool
 | .ag _=>false
 | _=>true
def FJ:Bool->List AV->AV->List Nat->Option (List AV)
 | a,fs,v,[]=>if a then match v with
   | .p (.agg u) d=>some (qK u d)
   | .ag l=>some l
   | _=>none
  else if MY v then some [v] else none
 | a,fs,v,[k]=>if a&&MY v then some (fs.set k v) else none
 | a,fs,v,k :: r=>if a then match fs[k]?,v with
   | some (.p t d),.p u x=>(QF r t d ⟨u,x⟩).map λy=>fs.set k (.p t y)
   | some (.ag l),v=>(FJ true l v r).map λl'=>fs.set k (.ag l')
   | _,_=>none
  else none
abbrev Cr:=Option (Prop×St)
def Ea (σ:St) (n:Nat) (et:TypeId) (c:Bool) (ty:Ty) (fs:List AV) (b:List Nat) (off:Nat) (v:AV):Option AV->Option (List AV)->Cr
 | some u,some a=>if Ll ty u=true/\CF ty v=true/\H5 fs b=some off/\a.map AV.cells=fs.map AV.cells then some (True,⟨σ.env,upd n (.box et c a) σ.objs⟩) else none
 | _,_=>none
def Cp (σ:St) (n:Nat) (ty:Ty) (a:List Nat) (off:Nat) (v:AV):Option Obj->Cr
 | some (.box et b fs)=>Ea σ n et b ty fs a off v (EO b fs a) (FJ b fs v a)
 | _=>none
def FK (σ:St) (n:Nat) (et:TypeId) (e:Ty) (i:Nat) (a:List Nat) (off:Nat) (ys:List e.den):Option e.den->Cr
 | some z=>if J4 a e=some off then some (True,⟨σ.env,upd n (.arr et e (ys.set i z)) σ.objs⟩) else none
 | none=>none
def D6 (σ:St) (n:Nat) (et:TypeId) (ty e:Ty) (i:Nat) (a:List Nat) (off:Nat):Option (List e.den)->Option ty.den->Cr
 | some ys,some w=>FK σ n et e i a off ys (QF a e (ys.getD i e.dflt) ⟨ty,w⟩)
 | _,_=>none
def Lo (σ:St) (d n:Nat) (et a:TypeId) (k e:Ty) (xs:List (k.den×List e.den)) (i bytes:Nat):Option (List e.den)->Cr
 | some ys=>if (lk d σ.objs).isNone=true/\ys.isEmpty=false then some (((xs.getD i (k.dflt,[])).2.length+ys.length)*bytes<=AN,
   ⟨(d,.sr d e 0 ((xs.getD i (k.dflt,[])).2.length+ys.length)) :: Bw n [] σ.env,(d,.arr a e ((xs.getD i (k.dflt,[])).2++ys)) :: (n,.nest et a k e xs (some i)) :: Ba n [] σ.objs⟩) else none
 | none=>none
def Om (σ:St) (d n:Nat) (el:TypeId) (b:Ty) (i:Nat) (v:AV):Option TI->Option Obj->Cr
 | some ti,some (.nest et a k e xs none)=>if b=e/\a=el/\EV n=false then Lo σ d n et a k e xs i ti.bytes (K5 σ e v) else none
 | _,_=>none
def MZ (tb:Tb) (σ:St) (d n:Nat) (a:Ty) (i:Nat) (v:AV):Option TI->Cr
 | some ⟨.slice e,_,el,_⟩=>if a=e then Om σ d n el e i v (lk el tb.ty) (lk n σ.objs) else none
 | _=>none
def JA (σ:St) (n m:Nat) (et a:TypeId) (k e:Ty) (xs:List (k.den×List e.den)) (i hi:Nat):Option (List e.den)->Cr
 | some ys=>some (hi=ys.length,⟨Bw n [m] σ.env,(n,.nest et a k e (xs.set i ((xs.getD i (k.dflt,[])).1,ys)) none) :: Ba n [m] σ.objs⟩)
 | none=>none
def J9 (σ:St) (n m:Nat) (et a:TypeId) (k e:Ty) (xs:List (k.den×List e.den)) (i hi:Nat):Option Obj->Cr
 | some (.arr c b ys)=>if c=a/\EV m=false/\EV n=false then JA σ n m et a k e xs i hi (BR (.slice e) ⟨.slice b,ys⟩) else none
 | _=>none
def JB (σ:St) (d n m:Nat) (et b:TypeId) (k e:Ty) (hi a bytes:Nat) (xs:List (k.den×List e.den)):Option (List (k.den×List e.den))->Cr
 | some ys=>some (hi=xs.length/\a=ys.length/\(xs.length+ys.length)*bytes<=AN,
   ⟨(d,.sr n (.agg (.prod k (.slice e))) 0 (xs.length+ys.length)) :: CT [n,m] σ.env,(n,.nest et b k e (xs++ys) none) :: BC [n,m] [n,m] σ.objs⟩)
 | none=>none
def KA (σ:St) (d n m:Nat) (et a:TypeId) (k e:Ty) (hi c bytes:Nat) (xs:List (k.den×List e.den)):Option Obj->Cr
 | some (.nest _ f g b ys none)=>if f=a/\n≠m/\EV m=false then JB σ d n m et a k e hi c bytes xs (BR (.slice (.agg (.prod k (.slice e)))) ⟨.slice (.agg (.prod g (.slice b))),ys⟩) else none
 | _=>none
def Oo (σ:St) (d n:Nat) (et b:TypeId) (k e:Ty) (hi bytes:Nat) (xs:List (k.den×List e.den)):AV->Cr
 | .sr m _ 0 a=>KA σ d n m et b k e hi a bytes xs (lk m σ.objs)
 | _=>none
def Ma (σ:St) (d m:Nat) (el b:TypeId) (k e:Ty) (ys:List (k.den×List e.den)) (a bytes:Nat):Cr :=
 if (lk d σ.objs).isNone=true/\EV m=false then some (a=ys.length/\ys.length*bytes<=AN,
  ⟨(d,.sr d (.agg (.prod k (.slice e))) 0 ys.length) :: CT [m] σ.env,(d,.nest el b k e ys none) :: BC [m] [m] σ.objs⟩) else none
def Mb (σ:St) (d m:Nat) (el:TypeId) (t:Ty) (a:Nat):Option TI->Option Obj->Cr
 | some ti,some (.nest _ b k e ys none)=>if t=.agg (.prod k (.slice e)) then Ma σ d m el b k e ys a ti.bytes else none
 | _,_=>none
def Ub (tb:Tb) (σ:St) (d:Nat):AV->Option TI->Cr
 | .sr m _ 0 a,some ⟨.slice t,_,el,_⟩=>Mb σ d m el t a (lk el tb.ty) (lk m σ.objs)
 | _,_=>none
def KB (σ:St) (n m:Nat) (ty:Ty) (et a:TypeId) (k e:Ty) (xs:List (k.den×List e.den)) (i hi:Nat) (b:List Nat) (off:Nat):Cr :=
 if ty=.slice e/\b=[1]/\off=k.size then J9 σ n m et a k e xs i hi (lk m σ.objs) else none
def Cq (σ:St) (n:Nat) (ty e:Ty) (i:Nat) (b:List Nat) (off:Nat) (v:AV):Option Obj->Cr
 | some (.arr et a xs)=>D6 σ n et ty e i b off (BR (.slice e) ⟨.slice a,xs⟩) (IQ false σ ty v)
 | some (.nest et c k a xs (some j))=>match v with
  | .sr m E 0 hi=>if e=.agg (.prod k (.slice a))/\i=j/\E=a then KB σ n m ty et c k a xs i hi b off else none
  | _=>none
 | _=>none
def G1 (σ:St):Option TI->Option AV->Option AV->Cr
 | some ti,some (.bp n a off),some v=>Cp σ n ti.ty a off v (lk n σ.objs)
 | some ti,some (.ep n e i a off),some v=>Cq σ n ti.ty e i a off v (lk n σ.objs)
 | _,_,_=>none
def Eb (σ:St) (d n:Nat) (et:TypeId) (e:Ty) (hi:Nat) (bytes:Nat):Option (List e.den)->Option (List e.den)->Cr
 | some a,some ys=>some ((hi+ys.length)*bytes<=AN,⟨(d,.sr n e 0 (hi+ys.length)) :: FG n σ.env,upd n (.arr et e (a.take hi++ys)) (BP n σ.objs)⟩)
 | _,_=>none
def B7 (σ:St) (d n:Nat) (el:TypeId) (e:Ty) (hi:Nat) (v:AV) (ys:Option (List e.den)):Option TI->Option Obj->Cr
 | some ti,some (.arr et a xs)=>if et=el then Eb σ d n et e hi ti.bytes (BR (.slice e) ⟨.slice a,xs⟩) ys else none
 | some ti,some (.nest et b k a xs none)=>if et=el/\e=.agg (.prod k (.slice a)) then Oo σ d n et b k a hi ti.bytes xs v else none
 | _,_=>none
def D7 (tb:Tb) (σ:St) (d:Nat) (n:Nat) (a:Ty) (hi:Nat) (v:AV):Option TI->Cr
 | some ⟨.slice e,_,el,_⟩=>if e=a then B7 σ d n el e hi v (K5 σ e v) (lk el tb.ty) (lk n σ.objs) else none
 | _=>none
def Dz (tb:Tb) (σ:St) (d:Option Nat) (t u:TypeId):Option AV->Option AV->Cr
 | some (.sr n e 0 hi),some v=>match d with
  | some d=>if t=u/\EV n=false then D7 tb σ d n e hi v (lk t tb.ty) else none
  | none=>none
 | some (.nin n e i _),some v=>match d with
  | some d=>if t=u then MZ tb σ d n e i v (lk t tb.ty) else none
  | none=>none
 | some (.raw (.slice none 0 0)),some v=>match d with
  | some d=>if t=u then Ub tb σ d v (lk t tb.ty) else none
  | none=>none
 | _,_=>none
def D8 (tb:Tb) (σ:St) (d:Option Nat):Builtin->List Operand->List TypeId->Cr
 | .append,[x,y],[t,u]=>Dz tb σ d t u (Ae σ x) (Ae σ y)
 | _,_,_=>none
def Da (tb:Tb) (σ:St) (d:Option Nat) (xs:List Operand) (ts:List TypeId):Callee->Cr
 | .builtin b=>D8 tb σ d b xs ts
 | _=>none
def Fy (σ:St) (n:Nat) (a vt:Ty) (l:List (a.den×vt.den)):Option a.den->Option vt.den->Cr
 | some k,some v=>if SY a=true then some (True,⟨σ.env,upd n (.mapo a vt (Bm a vt k v l)) σ.objs⟩) else none
 | _,_=>none
def FL (tb:Tb) (σ:St) (n:Nat) (b:Nat) (x y:AV):Option Obj->Cr
 | some (.mapo a vt l)=>if (lk b tb.ty).map TI.ty=some a/\(lk b tb.ty).map TI.el=some 0 then Fy σ n a vt l (IQ false σ a x) (IQ false σ vt y) else none
 | _=>none
def G2 (tb:Tb) (σ:St):Option TI->Option AV->Option AV->Option AV->Cr
 | some ⟨.ref 2,[(k,_)],_,_⟩,some (.mp n),some x,some y=>FL tb σ n k x y (lk n σ.objs)
 | _,_,_,_=>none
def Db (r:Cr):Option Nat->Cr
 | none=>r
 | some _=>none
def GV (tb:Tb) (σ:St) (d:Option Nat):Op->Cr
 | .store t x y=>Db (G1 σ (lk t tb.ty) (Ae σ x) (Ae σ y)) d
 | .mapUpdate t m x y=>Db (G2 tb σ (lk t tb.ty) (Ae σ m) (Ae σ x) (Ae σ y)) d
 | .call c=>Da tb σ d c.args.toList c.argTypes.toList c.callee
 | _=>none
def St.add (σ:St) (v:AV) (obs:List (Nat×Obj)):Option Nat->St
 | some d=>⟨(d,v) :: σ.env,obs++σ.objs⟩
 | none=>⟨σ.env,obs++σ.objs⟩
def K6:Option AV->List Nat
 | some v=>v.names
 | none=>[]
def DA (σ:St):List (Nat×Operand)->List Nat
 | []=>[]
 | (_,x) :: r=>K6 (Ae σ x)++DA σ r
def K7:Option AV->List Nat
 | some (.ag l)=>AV.namess l
 | _=>[]
def Ec (σ:St):List (Nat×Operand)->List Nat
 | []=>[]
 | (_,x) :: r=>K7 (Ae σ x)++Ec σ r
def CU (σ:St):Option AV->Option AV->List Nat
 | some (.ep n _ _ _ _),some v=>if Ci (lk n σ.objs)=true then [] else v.names
 | _,_=>[]
def IU:Option AV->Option AV->Option AV->List Nat
 | some (.mp _),some v,some u=>v.names++u.names
 | _,_,_=>[]
def Cy (σ:St):Op->List Nat
 | .buildSlice _ _ parts=>DA σ parts.toList
 | .build _ parts=>Ec σ parts.toList
 | .store _ x y=>CU σ (Ae σ x) (Ae σ y)
 | .mapUpdate _ m x y=>IU (Ae σ m) (Ae σ x) (Ae σ y)
 | _=>[]
def DB:List Nat->St->St
 | [],σ=>σ
 | n :: r,σ=>DB r (frz n σ)
def BS (obs:List (Nat×Obj)) (σ:St):Bool:=obs.all λp=>(lk p.1 σ.objs).isNone
def Lp (tb:Tb) (σ:St) (o:Oper):BU->Cr
 | some (vc,v,obs)=>if BS obs σ=true then some (vc,σ.add v obs o.dst) else none
 | none=>GV tb σ o.dst o.op
def Oq (tb:Tb) (o:Oper) (σ:St):Cr:=Lp tb σ o (aq tb σ (o.dst.getD 0) o.op)
def Hf (tb:Tb) (o:Oper) (σ:St):Cr:=Oq tb o (DB (Cy σ o.op) σ)
def Nt (a:Bool):Option AV->Option Bool
 | some (.p .bool b)=>some (b==a)
 | _=>none
def JC (σ:St) (a:Bool):Option Tmp->Option Bool
 | some g=>Nt a (lk g σ.env)
 | none=>none
def EH (ops:List Oper) (σ:St):Option (Nat×Bool)->Option Bool
 | none=>some true
 | some (j,a)=>JC σ a ((ops[j]?).bind (·.dst))
def SV (vc:Prop):Cr->Cr
 | some (a,σ)=>some (vc/\a,σ)
 | none=>none
mutual
def Bu (tb:Tb) (ops:List Oper):List Oper->St->Cr
 | [],σ=>some (True,σ)
 | o :: r,σ=>evG tb ops o r σ (EH ops σ o.guard)
def evG (tb:Tb) (ops:List Oper) (o:Oper) (r:List Oper) (σ:St):Option Bool->Cr
 | some true=>evK tb ops r (Hf tb o σ)
 | some false=>Bu tb ops r (σ.add (.raw undef) [] o.dst)
 | none=>none
def evK (tb:Tb) (ops:List Oper) (r:List Oper):Cr->Cr
 | some (vc,σ)=>SV vc (Bu tb ops r σ)
 | none=>none
end
section
open Go Go.RowKit
theorem Au {w:World} {b:Nat} {o:_root_.Go.Obj} (h:w.heap[b]?=some o):b<w.heap.size:=by grind
theorem G3 {a:Option Addr} {m c b:Nat}:bk (.slice a m c) b↔blk (.slice a m c)=some b:=by
 constructor
 .intro h;rcases h with h|⟨_,h,_⟩
  .exact h
  cases h
 exact .inl
theorem xK {a:Option Addr} {b:Nat}:bk (.pointer a) b↔blk (.pointer a)=some b:=by
 constructor
 .intro h;rcases h with h|⟨_,h,_⟩
  .exact h
  cases h
 exact .inl
theorem jS {a:Option Nat} {b:Nat}:bk (.map a) b↔blk (.map a)=some b:=by
 constructor
 .intro h;rcases h with h|⟨_,h,_⟩
  .exact h
  cases h
 exact .inl
def CV (loc:Value) (sz lo hi:Nat) (v:Value):Prop :=
 ∃(a:Option Addr) (m c:Nat),loc=.slice a m c/\lo<=hi/\hi<=m/\∃(b:Option Addr) (d:Nat),v=.slice b (hi-lo) d/\hi-lo<=d/\(lo=0->b=a/\d=c)/\(lo<hi->b=a.map (·.add (lo*sz)))
structure Vw where
 w:World
 
 O:Nat->Prop
 
 L:Nat->Prop
 
 ρ:Nat->Value
def wV (u v:Value):Prop:=v=u\/(u=.slice none 0 0/\∃a:Option Addr,v=.slice a 0 0)
def Ya (f:FuncId) (l:List Value):Value:=if f<1000000 then .func (.func f) #[] l.toArray else .func (.func (f-1000000)) l.toArray #[]
theorem WF (f:FuncId) (l:List Value):(Ya f l).oneCell'=true:=by unfold Ya;split<;>rfl
def KC (V:Vw):AV->Value->Prop
 | .p t d,v=>BG V.w V.O t v d
 | .pc e d,v=>BG V.w V.O (.slice e) v d/\∃a:Option Addr,v=.slice a (List.length d) (List.length d)
 | .raw u,v=>v=u
 | .sr n e lo hi,v=>V.L n/\CV (plc (V.ρ n)) e.size lo hi v
 | .ep n e i _ off,v=>V.L n/\∃g m c:Nat,plc (V.ρ n)=.slice (some ⟨g,0,none⟩) m c/\i<m/\v=.pointer (some ⟨g,i*e.size+off,none⟩)
 | .nin n _ i len,v=>V.L n/\∃(h:Array Value) (a:Option Addr) (c:Nat) (u:Value),V.ρ n=.tuple h/\h[i+1]?=some u/\wV u v/\v=.slice a len c
 | .ip t d,v=>∃(ad:Addr) (cs:List Value),v=.pointer (some ad)/\¬V.O ad.block/\(∀(j:Nat) (u:Value),cs[j]?=some u->V.w.cell? (ad.add j)=some u)/\Bl V.w V.O t cs d
 | .bp n _ off,v=>V.L n/\∃b:Nat,V.ρ n=.pointer (some ⟨b,0,none⟩)/\v=.pointer (some ⟨b,off,none⟩)
 | .fn f,v=>v=.func (.func f) #[] #[]
 | .clo f ns,v=>v=Ya f (ns.map V.ρ)/\∀n∈ns,V.L n/\∃b:Nat,V.ρ n=.pointer (some ⟨b,0,none⟩)
 | .mp n,v=>V.L n/\∃b:Nat,plc (V.ρ n)=.map (some b)/\v=.map (some b)
 | .yl n,v=>V.L n/\∃b:Nat,V.ρ n=.pointer (some ⟨b,0,none⟩)/\v=.func (.yield b) #[] #[]
 | .top,_=>True
 | .ag _,_=>False
 | .tup _,_=>False
mutual
def Fa (V:Vw):AV->List Value->Prop
 | .p t d,cs=>Bl V.w V.O t cs d
 | .ag l,cs=>AVCs V l cs
 | .raw u,cs=>∃v,cs=[v]/\v.oneCell'=true/\KC V (.raw u) v
 | .sr n e lo hi,cs=>∃v,cs=[v]/\v.oneCell'=true/\KC V (.sr n e lo hi) v
 | .ep n e i p o,cs=>∃v,cs=[v]/\v.oneCell'=true/\KC V (.ep n e i p o) v
 | .pc e d,cs=>∃v,cs=[v]/\v.oneCell'=true/\KC V (.pc e d) v
 | .ip t d,cs=>∃v,cs=[v]/\v.oneCell'=true/\KC V (.ip t d) v
 | .bp n p o,cs=>∃v,cs=[v]/\v.oneCell'=true/\KC V (.bp n p o) v
 | .fn f,cs=>∃v,cs=[v]/\v.oneCell'=true/\KC V (.fn f) v
 | .clo f ns,cs=>∃v,cs=[v]/\v.oneCell'=true/\KC V (.clo f ns) v
 | .mp n,cs=>∃v,cs=[v]/\v.oneCell'=true/\KC V (.mp n) v
 | .yl n,cs=>∃v,cs=[v]/\v.oneCell'=true/\KC V (.yl n) v
 | .nin n e i k,cs=>∃v,cs=[v]/\v.oneCell'=true/\KC V (.nin n e i k) v
 | .tup l,cs=>∃v,cs=[v]/\v.oneCell'=true/\KC V (.tup l) v
 | .top,cs=>∃v,cs=[v]/\v.oneCell'=true/\KC V (.top) v
def AVCs (V:Vw):List AV->List Value->Prop
 | [],cs=>cs=[]
 | x :: r,cs=>∃c1 c2:List Value,cs=c1++c2/\Fa V x c1/\AVCs V r c2
end
def SZ:AV->Bool
 | .ag _=>true
 | _=>false
theorem Mc {V V':Vw} {f:AV->AV} {fs:List AV->List AV} (d:∀l,f (.ag l)=.ag (fs l)) (g:fs []=[]) (i:∀x r,fs (x :: r)=f x :: fs r)
  (j:∀ {x:AV} {cs:List Value},SZ x=false->Fa V x cs->Fa V' (f x) cs):(∀(x:AV) (cs:List Value),Fa V x cs->Fa V' (f x) cs)/\∀(l:List AV) (cs:List Value),AVCs V l cs->AVCs V' (fs l) cs:=by
 have key:∀n:Nat,(∀(x:AV) (cs:List Value),SizeOf.sizeOf x<n->Fa V x cs->Fa V' (f x) cs)/\∀(l:List AV) (cs:List Value),SizeOf.sizeOf l<n->AVCs V l cs->AVCs V' (fs l) cs:=by
  intro n;induction n with
  | zero=>exact⟨λ_ _ h=>by omega,λ_ _ h=>by omega⟩
  | succ n b =>
   refine⟨λx cs a h=>?_,λl cs a h=>?_⟩
   .cases c:SZ x with
    | false=>exact j c h
    | true =>
     cases x<;>simp[SZ]at c;rename_i l;rw[d];simp only[AV.ag.sizeOf_spec]at a;have:=b.2 l cs oa h;exact this
   cases l with
   | nil=>rw[g];exact h
   | cons x r =>
    obtain⟨c1,c2,e,k,m⟩:=h;rw[i];simp only[AC7]at a;exact⟨c1,c2,e,b.1 x c1 oa k,b.2 r c2 oa m⟩
 exact⟨λx cs=>(key _).1 x cs (ABd _),λl cs=>(key _).2 l cs (ABd _)⟩
def Ot (V:Vw):AV->Value->Prop
 | .ag l,v=>∃cs:List Value,v=.agg cs.toArray/\AVCs V l cs
 | x,v=>KC V x v
def G4 (V:Vw):List AV->List Value->Prop
 | [],a=>a=[]
 | x :: r,a=>∃(v:Value) (l:List Value),a=v :: l/\Ot V x v/\G4 V r l
theorem Ot.of1 {V:Vw} {x:AV} {v:Value} (h:KC V x v):Ot V x v:=by
 cases x;case ag l=>exact h.elim
 all_goals exact h
def Bn (V:Vw):AV->Value->Prop
 | .ag l,v=>∃cs:List Value,v=.agg cs.toArray/\AVCs V l cs
 | .tup l,v=>∃a:List Value,v=.tuple a.toArray/\G4 V l a
 | av,v=>KC V av v
theorem jT {V:Vw} {x:AV} {v:Value} (h:Ot V x v):Bn V x v:=by
 cases x;case tup l=>exact(show False from h).elim
 all_goals exact h
def DE (w:World) (O:Nat->Prop) (e:Ty) (cells:List Value) (xs:List e.den):Prop :=
 ∀(i:Nat) (x:e.den),xs[i]?=some x->∃es:List Value,es.length=e.size/\(∀(j:Nat) (u:Value),es[j]?=some u->cells[i*e.size+j]?=some u)/\Bl w O e es x
def Jy (w:World) (O:Nat->Prop) (k v:Ty):List MapEntry->List (k.den×v.den)->Prop
 | [],[]=>True
 | e :: es,x :: xs=>BG w O k e.key x.1/\BG w O v e.val x.2/\Jy w O k v es xs
 | _,_=>False
def Pg (es:Array MapEntry) (clock:Nat):Prop:=(es.toList.map (·.born)).Nodup/\∀b∈es.toList.map (·.born),b<clock
def Lf (V:Vw) (et:TypeId) (e:Ty) (xs:List e.den) (loc:Value):Prop:=xs.length<=AN/\∃cells:List Value,V.w.ownsRow 0 et e.size loc xs.length cells/\DE V.w V.O e cells xs
def Uc (V:Vw) (a:TypeId) (k e:Ty) (hole:Bool) (cells:List Value) (i:Nat) (x:k.den×List e.den) (u:Value):Prop :=
 ∃(c1:List Value) (v:Value),(∀(j:Nat) (z:Value),(c1++[v])[j]?=some z->cells[i*(k.size+1)+j]?=some z)/\Bl V.w V.O k c1 x.1 /\
  ((hole=true/\u=.slice none 0 0)\/(hole=false/\wV u v/\Lf V a e x.2 u))
structure Jo (V:Vw) (et iet:TypeId) (k e:Ty) (xs:List (k.den×List e.den)) (h:Option Nat) (o:Value) (ins:List Value) (cells:List Value):Prop where
 max:xs.length<=AN
 len:ins.length=xs.length
 own:V.w.ownsRow 0 et (k.size+1) o xs.length cells
 row:∀(i:Nat) (x:k.den×List e.den) (u:Value),xs[i]?=some x->ins[i]?=some u->Uc V iet k e (h==some i) cells i x u
 dist:∀(i j b:Nat) (u v:Value),ins[i]?=some u->ins[j]?=some v->blk u=some b->blk v=some b->i=j
 out:∀(i b:Nat) (u:Value),ins[i]?=some u->blk u=some b->blk o≠some b
def xL (loc o:Value) (ins:List Value):Prop:=loc=.tuple (o :: ins).toArray\/(loc=.slice none 0 0/\o=.slice none 0 0/\ins=[])
def A18 (V:Vw) (k v:Ty) (l:List (k.den×v.den)) (left:List Nat) (d:Option Nat) (r:Nat):Prop :=
 ∃(b:Nat) (a:Array MapEntry) (clock c:Nat) (seen:Array Nat),V.w.heap[r]?=some (.mapIter (some b) c seen clock)/\¬V.O b/\V.w.heap[b]?=some (.map a clock)/\Jy V.w V.O k v a.toList l/\Pg a clock /\
  (∀s∈a.toList.map (·.born),s<c)/\c<=clock/\left.Nodup/\(∀i,i∈left↔∃e,a[i]?=some e/\e.born∉seen)/\(∀i,d=some i->∃e,a[i]?=some e/\seen.back?=some e.born)
def Av (V:Vw):Obj->Value->Prop
 | .arr et e xs,loc=>Lf V et e xs loc
 | .nest et c k e xs h,loc=>∃(o:Value) (ins cells:List Value),xL loc o ins/\Jo V et c k e xs h o ins cells
 | .box et g fs,loc=>(g=false->fs.length=1)/\∃(b:Nat) (cs:List Value),loc=.pointer (some ⟨b,0,none⟩)/\V.w.heap[b]?=some (.cells cs.toArray et (0,0))/\AVCs V fs cs
 | .mapo k v l,loc=>∃(b:Nat) (es:Array MapEntry) (clock:Nat),loc=.map (some b)/\V.w.heap[b]?=some (.map es clock)/\Jy V.w V.O k v es.toList l/\Pg es clock
 | .frame i fs,loc=>loc=.pointer none/\∀s x,lk s fs=some x->Bn V x (i.getD s undef)
 | .itr k v l left a,loc=>∃r:Nat,loc=.pointer (some ⟨r,0,none⟩)/\A18 V k v l left a r
 | .loop L,loc=>∃b:Nat,loc=.pointer (some ⟨b,0,none⟩)/\V.w.heap[b]?=some (.loop L)
 | .dfr,loc=>∃b:Nat,loc=.pointer (some ⟨b,0,none⟩)/\V.w.heap[b]?=some (.deferred (some []))
 | .sit d f,loc=>∃b:Nat,loc=.pointer (some ⟨b,0,none⟩)/\V.w.heap[b]?=some (.stringIter d f)
 | .gen G,loc=>G.S V.w V.O loc
structure z8 (K:Nat->Prop) (w0 w:World):Prop where
 os:w.os=w0.os
 tape:w.tape=w0.tape
 output:w.output=w0.output
 size:w0.heap.size<=w.heap.size
 block:∀k,K k->w.heap[k]?=w0.heap[k]?
def GL (σ:St) (n:Nat):Prop:=∃o,lk n σ.objs=some o
def own (O0:Nat->Prop) (σ:St) (ρ:Nat->Value) (b:Nat):Prop:=O0 b\/∃n,GL σ n/\bk (ρ n) b
def vw (w:World) (O0:Nat->Prop) (σ:St) (ρ:Nat->Value):Vw:=⟨w,own O0 σ ρ,GL σ,ρ⟩
def qL:Value->Bool
 | .slice _ _ _=>false
 | .tuple _=>false
 | _=>true
structure Fp where
 ds:List Deferred:=[]
 pin:List (Nat×Value):=[]
structure Bx (w0:World) (K O0:Nat->Prop) (nt:Nat) (ds:Fp) (σ:St) (ρ:Nat->Value) (a:Act) (w:World):Prop where
 frm:z8 K w0 w
 nt:a.tmps.size=nt
 defers:a.defers=ds.ds
 pin:∀p∈ds.pin,GL σ p.1/\ρ p.1=p.2/\(qL p.2=true\/EV p.1=true)
 objs:∀n o,lk n σ.objs=some o->Av (vw w O0 σ ρ) o (ρ n)
 free:∀n b,GL σ n->bk (ρ n) b->¬K b/\¬O0 b
 dist:∀n m b,GL σ n->GL σ m->bk (ρ n) b->bk (ρ m) b->n=m
 env:∀s v,lk s σ.env=some v->Bn (vw w O0 σ ρ) v (a.tmps.getD s undef)
structure CG (V V':Vw):Prop where
 O:∀b,b<V.w.heap.size->¬V.O b->¬V'.O b
 L:∀n,V.L n->V'.L n
 ρ:∀n,V.L n->V'.ρ n=V.ρ n
 heap:∀b,b<V.w.heap.size->¬V.O b->V'.w.heap[b]?=V.w.heap[b]?
theorem KC.keeps {V V':Vw} (h:CG V V'):∀ {x:AV} {v:Value},KC V x v->KC V' x v
 | .p _ _,_,b=>BG.mono h.O h.heap b
 | .pc _ _,_,b=>⟨BG.mono h.O h.heap b.1,b.2⟩
 | .raw _,_,b=>b
 | .sr n e lo hi,_,⟨a,hs⟩=>⟨h.L n a,by rw[h.ρ n a];exact hs⟩
 | .ep n e i _ off,_,⟨a,hs⟩=>⟨h.L n a,by rw[h.ρ n a];exact hs⟩
 | .nin n _ i len,_,⟨a,hs⟩=>⟨h.L n a,by rw[h.ρ n a];exact hs⟩
 | .ip t d,_,⟨ad,cs,g,k,l,o⟩=>by
  have m:ad.block<V.w.heap.size:=by
   have hp:=t.size_pos;have r:=o.length;have:=ACe (l 0 (cs[0]'(by omega)) (DO oa))
   rwa [CJ]at this
  refine⟨ad,cs,g,h.O _ m k,λj u q=>?_,Bl.mono h.O h.heap o⟩;rw[ABF (w:=V.w) (w':=V'.w)]
  .exact l j u q
  rw[CJ];exact h.heap _ m k
 | .bp n _ off,_,⟨a,hs⟩=>⟨h.L n a,by rw[h.ρ n a];exact hs⟩
 | .fn _,_,b=>b
 | .clo f ns,_,⟨g,hs⟩=>by
  refine⟨?_,λn c=>⟨h.L n (hs n c).1,by rw[h.ρ n (hs n c).1];exact(hs n c).2⟩⟩;rw[g]
  congr 1
  exact ABs λn c=>(h.ρ n (hs n c).1).symm
 | .mp n,_,⟨a,hs⟩=>⟨h.L n a,by rw[h.ρ n a];exact hs⟩
 | .yl n,_,⟨a,hs⟩=>⟨h.L n a,by rw[h.ρ n a];exact hs⟩
 | .top,_,_=>trivial
 | .ag _,_,b=>b
 | .tup _,_,b=>b
theorem So {V V':Vw} (h:CG V V'):(∀(x:AV) (cs:List Value),Fa V x cs->Fa V' x cs)/\∀(l:List AV) (cs:List Value),AVCs V l cs->AVCs V' l cs :=
 Mc (f:=id) (fs:=id) (λ_=>rfl) rfl (λ_ _=>rfl) λ{x cs} b a=>by
  cases x;case p t d=>exact(Bl.mono h.O h.heap a:Bl V'.w V'.O t cs d)
  case ag l=>cases b
  all_goals
   obtain⟨v,c,e,g⟩:=a;exact⟨v,c,e,g.keeps h⟩
theorem Fa.keeps {V V':Vw} (h:CG V V') {x:AV} {cs:List Value} (a:Fa V x cs):Fa V' x cs:=(So h).1 x cs a
theorem AVCs.keeps {V V':Vw} (h:CG V V') {l:List AV} {cs:List Value} (a:AVCs V l cs):AVCs V' l cs:=(So h).2 l cs a
theorem Ot.keeps {V V':Vw} (h:CG V V') {x:AV} {v:Value} (a:Ot V x v):Ot V' x v:=by
 cases x;case ag l=>obtain⟨cs,b,c⟩:=a;exact⟨cs,b,c.keeps h⟩
 all_goals exact Ot.of1 (KC.keeps h a)
theorem G4.keeps {V V':Vw} (h:CG V V'):∀ {l:List AV} {a:List Value},G4 V l a->G4 V' l a
 | [],_,d=>d
 | _ :: _,_,⟨v,l,e,b,c⟩=>⟨v,l,e,b.keeps h,c.keeps h⟩
theorem Bn.keeps {V V':Vw} (h:CG V V') {x:AV} {v:Value} (a:Bn V x v):Bn V' x v:=by
 cases x;case ag l=>obtain⟨cs,b,c⟩:=a;exact⟨cs,b,c.keeps h⟩
 case tup l=>obtain⟨cs,b,c⟩:=a;exact⟨cs,b,c.keeps h⟩
 all_goals
  simp only[Bn]at a ⊢;exact KC.keeps h a
theorem DE.keeps {V V':Vw} (h:CG V V') {e:Ty} {cells:List Value} {xs:List e.den} (d:DE V.w V.O e cells xs):DE V'.w V'.O e cells xs:=λi x hi =>
 let ⟨es,a,b,c⟩:=d i x hi
 ⟨es,a,b,Bl.mono h.O h.heap c⟩
theorem Jy.mono {w w':World} {O O':Nat->Prop} (a:∀b,b<w.heap.size->¬O b->¬O' b) (c:∀b,b<w.heap.size->¬O b->w'.heap[b]?=w.heap[b]?) {k v:Ty} :
  ∀ {es:List MapEntry} {l:List (k.den×v.den)},Jy w O k v es l->Jy w' O' k v es l
 | [],[],h=>h
 | [],_ :: _,h=>h.elim
 | _ :: _,[],h=>h.elim
 | _ :: _,_ :: _,⟨d,e,f⟩=>⟨d.mono a c,e.mono a c,f.mono a c⟩
theorem IB {w w':World} {et:TypeId} {sz n:Nat} {loc:Value} {cells:List Value} (e:∀b,blk loc=some b->w'.heap[b]?=w.heap[b]?) (h:w.ownsRow 0 et sz loc n cells):w'.ownsRow 0 et sz loc n cells:=by
 obtain⟨d,a⟩:=h;refine⟨d,?_⟩;rcases a with a|⟨g,cap,c,rfl,f,i,j⟩
 .exact .inl a
 exact .inr ⟨g,cap,c,rfl,f,(e g rfl).trans i,j⟩
theorem Lf.keeps {V V':Vw} (h:CG V V') {et:TypeId} {e:Ty} {xs:List e.den} {loc:Value} (c:∀b,blk loc=some b->V'.w.heap[b]?=V.w.heap[b]?) (g:Lf V et e xs loc):Lf V' et e xs loc:=by
 obtain⟨f,cells,a,d⟩:=g;exact⟨f,cells,IB c a,d.keeps h⟩
theorem Uc.keeps {V V':Vw} (h:CG V V') {c:TypeId} {k e:Ty} {hole:Bool} {cells:List Value} {i:Nat} {x:k.den×List e.den} {u:Value} (l:∀b,blk u=some b->V'.w.heap[b]?=V.w.heap[b]?) (m:Uc V c k e hole cells i x u):Uc V' c k e hole cells i x u:=by
 obtain⟨c1,v,d,f,a⟩:=m;refine⟨c1,v,d,Bl.mono h.O h.heap f,?_⟩;rcases a with a|⟨a,g,j⟩
 .exact .inl a
 exact .inr ⟨a,g,j.keeps h l⟩
theorem A8 {o:Value} {ins:List Value} {b:Nat}:bk (.tuple (o :: ins).toArray) b↔blk o=some b\/∃(i:Nat) (u:Value),ins[i]?=some u/\blk u=some b:=by
 constructor
 .rintro (h|⟨d,h,x,c,a⟩)
  .cases h
  injection h with h
  subst h;simp only[Is]at c;rcases c with rfl|c
  .exact .inl a
  obtain⟨i,hi⟩:=AB0 c;exact .inr ⟨i,x,hi,a⟩
 rintro (h|⟨i,u,hi,a⟩)
 .exact .inr ⟨_,rfl,o,by simp,h⟩
 exact .inr ⟨_,rfl,u,by simp[AAj hi],a⟩
theorem xL.bk {loc o:Value} {ins:List Value} {b:Nat} (h:xL loc o ins):bk loc b↔bk (.tuple (o :: ins).toArray) b:=by
 rcases h with rfl|⟨rfl,rfl,rfl⟩
 .exact Iff.rfl
 grind [A8,G3,blk]
theorem xL.plc {loc o:Value} {ins:List Value} (h:xL loc o ins):plc loc=o:=by
 rcases h with rfl|⟨rfl,rfl,rfl⟩<;>rfl
theorem xL.tup {loc o:Value} {ins:List Value} {a:Array Value} (h:xL loc o ins) (b:loc=.tuple a):a=(o :: ins).toArray:=by
 subst b;rcases h with h|⟨h,_⟩
 .injection h
 cases h
theorem Jo.keeps {V V':Vw} (h:CG V V') {et j:TypeId} {k e:Ty} {xs:List (k.den×List e.den)} {g:Option Nat} {o:Value} {ins cells:List Value} (f:∀b,bk (.tuple (o :: ins).toArray) b->V'.w.heap[b]?=V.w.heap[b]?) (a:Jo V et j k e xs g o ins cells):Jo V' et j k e xs g o ins cells :=
 ⟨a.max,a.len,IB (λb c=>f b (A8.2 (.inl c))) a.own,λi x u c d=>(a.row i x u c d).keeps h (λb l=>f b (A8.2 (.inr ⟨i,u,d,l⟩))),a.dist,a.out⟩
theorem QI {w:World} {et:TypeId} {sz n b:Nat} {loc:Value} {cells:List Value} (h:w.ownsRow 0 et sz loc n cells) (a:blk loc=some b):b<w.heap.size:=by
 rcases h.2 with ⟨rfl,_⟩|⟨g,cap,c,rfl,d,e,f⟩
 .simp[blk]at a
 grind [blk,Au]
theorem Jo.block_lt {V:Vw} {et j:TypeId} {k e:Ty} {xs:List (k.den×List e.den)} {h:Option Nat} {o:Value} {ins cells:List Value} (f:Jo V et j k e xs h o ins cells) {b:Nat} (g:bk (.tuple (o :: ins).toArray) b):b<V.w.heap.size:=by
 rcases A8.1 g with c|⟨i,u,c,d⟩
 .exact QI f.own c
 have hi:i<xs.length:=by have:=(ON.1 c).1;rw[f.len]at this;exact this
 obtain⟨c1,v,_,_,a⟩:=f.row i xs[i] u (DO hi) c;rcases a with ⟨_,a⟩|⟨_,_,_,l,a,_⟩
 .rw[a]at d;simp[blk]at d
 exact QI a d
theorem Av.keeps {V V':Vw} (h:CG V V') {o:Obj} {loc:Value} (f:∀b,bk loc b->V'.w.heap[b]?=V.w.heap[b]?) (d:Av V o loc):Av V' o loc:=by
 cases o with
 | arr et e xs =>
  obtain⟨D,cells,⟨a,c⟩,C⟩:=d;refine⟨D,cells,⟨a,?_⟩,C.keeps h⟩;rcases c with c|⟨g,cap,m,rfl,F,H,I⟩
  .exact .inl c
  exact .inr ⟨g,cap,m,rfl,F,(f g (.inl rfl)).trans H,I⟩
 | box et R fs =>
  obtain⟨j,b,cs,rfl,a,c⟩:=d;exact⟨j,b,cs,rfl,(f b (.inl rfl)).trans a,c.keeps h⟩
 | nest et N k e xs M =>
  obtain⟨o,ins,cells,hs,a⟩:=d;exact⟨o,ins,cells,hs,a.keeps h λb B=>f b (hs.bk.2 B)⟩
 | mapo k v l =>
  obtain⟨b,es,cl,rfl,a,c,i⟩:=d;exact⟨b,es,cl,rfl,(f b (.inl rfl)).trans a,c.mono h.O h.heap,i⟩
 | frame S fs =>
  obtain⟨j,a⟩:=d;exact⟨j,λs x hs=>(a s x hs).keeps h⟩
 | itr k v l left m =>
  obtain⟨r,rfl,b,E,cl,K,J,a,c,i,q,t,u,y,z,A,p⟩:=d;have n:=Au i;exact⟨r,rfl,b,E,cl,K,J,(f r (.inl rfl)).trans a,h.O b n c,(h.heap b n c).trans i,q.mono h.O h.heap,t,u,y,z,A,p⟩
 | loop L =>
  obtain⟨b,rfl,a⟩:=d;exact⟨b,rfl,(f b (.inl rfl)).trans a⟩
 | dfr =>
  obtain⟨b,rfl,a⟩:=d;exact⟨b,rfl,(f b (.inl rfl)).trans a⟩
 | sit P Q =>
  obtain⟨b,rfl,a⟩:=d;exact⟨b,rfl,(f b (.inl rfl)).trans a⟩
 | gen G=>exact G.keeps _ _ _ _ _ h.O h.heap f d
theorem Av.block_lt {V:Vw} {o:Obj} {loc:Value} (d:Av V o loc) {b:Nat} (a:bk loc b):b<V.w.heap.size:=by
 cases o with
 | arr et e xs =>
  obtain⟨n,cells,⟨c,f⟩,j⟩:=d;rcases f with ⟨rfl,_⟩|⟨g,cap,h,rfl,s,t,u⟩
  .simp[bk,blk]at a
  grind [bk,blk,Au]
 | box et B fs =>
  obtain⟨i,b',cs,rfl,c,f⟩:=d;simp[bk,blk]at a;subst a;exact Au c
 | nest et p k e xs m =>
  obtain⟨o,ins,cells,hs,c⟩:=d;exact c.block_lt (hs.bk.1 a)
 | mapo k v l =>
  obtain⟨b',es,cl,rfl,c,f⟩:=d;simp[bk,blk]at a;subst a;exact Au c
 | frame C fs =>
  obtain⟨rfl,c⟩:=d;simp[bk,blk]at a
 | itr k v l left h =>
  obtain⟨r,rfl,b',q,cl,z,y,c,-⟩:=d;simp[bk,blk]at a;subst a;exact Au c
 | loop L =>
  obtain⟨b',rfl,c⟩:=d;simp[bk,blk]at a;subst a;exact Au c
 | dfr =>
  obtain⟨b',rfl,c⟩:=d;simp[bk,blk]at a;subst a;exact Au c
 | sit x A =>
  obtain⟨b',rfl,c⟩:=d;simp[bk,blk]at a;subst a;exact Au c
 | gen G=>exact G.lt _ _ _ _ d a
theorem Md {V:Vw} {k v:Ty} {l:List (k.den×v.den)} {n b:Nat} (c:Av V (.mapo k v l) (V.ρ n)) (h:plc (V.ρ n)=.map (some b)):V.ρ n=.map (some b):=by
 obtain⟨b',_,_,a,_⟩:=c;rw[a]at h ⊢;exact h
section
variable {α:Type}
theorem BI (k:Nat):∀(l r:List (Nat×α)),lk k (l++r)=(lk k l).or (lk k r)
 | [],_=>by simp[lk]
 | (j,v) :: l,r=>by
  simp only[ABe,lk];split
  .simp
  exact BI k l r
theorem D9 (k n:Nat) (u:α):∀l:List (Nat×α),lk k (upd n u l)=if k=n then (lk n l).map (λ_=>u) else lk k l
 | []=>by simp[lk,upd]
 | (j,v) :: l=>by
  simp only[upd];by_cases b:n=j
  .subst b;by_cases a:k=n
   .subst a;simp[lk]
   simp[lk,a,D9 k n u l]
  simp only[As b,lk];by_cases a:k=n
  .subst a;simp[b,D9 k k u l]
  by_cases c:k=j
  .subst c;simp[a]
  simp[a,c,D9 k n u l]
theorem Nu (k n:Nat):∀l:List (Nat×α),lk k (SU n l)=if k=n then none else lk k l
 | []=>by simp[lk,SU]
 | (j,v) :: l=>by
  simp only[SU];by_cases a:n=j
  .subst a;rw[At rfl,Nu k n l];grind [lk]
  rw[As a];simp only[lk,Nu k n l];grind
end
end
section
open Go Go.RowKit
def Du (σ:St) (obs:List (Nat×Obj)):St:=⟨σ.env,obs++σ.objs⟩
structure QS (w:World) (O0:Nat->Prop) (σ:St) (ρ:Nat->Value) (v:AV) (obs:List (Nat×Obj)) (u:Value) (ρ':Nat->Value) (w':World):Prop where
 below:Below w.heap.size w w'
 rho:∀n,lk n obs=none->ρ' n=ρ n
 av:Bn (vw w' O0 (Du σ obs) ρ') v u
 obj:∀n o,lk n obs=some o->Av (vw w' O0 (Du σ obs) ρ') o (ρ' n)
 new:∀n o b,lk n obs=some o->bk (ρ' n) b->w.heap.size<=b
 dist:∀n m o o' b,lk n obs=some o->lk m obs=some o'->bk (ρ' n) b->bk (ρ' m) b->n=m
theorem FM {α:Type} {k:Nat} {v:α}:∀ {l:List (Nat×α)},lk k l=some v->(k,v)∈l
 | (j,u) :: l,h=>by
  simp only[lk]at h;split at h
  .grind
  exact AAp _ (FM h)
theorem L4 {obs:List (Nat×Obj)} {σ:St} (h:BS obs σ=true) {n:Nat} {o:Obj} (a:lk n obs=some o):lk n σ.objs=none:=by
 simp only[BS,IS]at h;simpa using h _ (FM a)
theorem KD {σ:St} {obs:List (Nat×Obj)} {n:Nat} (h:GL (Du σ obs) n):(∃o,lk n obs=some o)\/(lk n obs=none/\GL σ n):=by
 obtain⟨o,h⟩:=h;simp only[Du,BI]at h;cases a:lk n obs with
 | some b=>exact .inl ⟨b,rfl⟩
 | none=>rw[a]at h;exact .inr ⟨rfl,o,by simpa using h⟩
theorem Ud {σ:St} {obs:List (Nat×Obj)} (c:BS obs σ=true) {n:Nat} (h:GL σ n):GL (Du σ obs) n/\lk n obs=none:=by
 obtain⟨o,h⟩:=h;have a:lk n obs=none:=by
  cases b:lk n obs with
  | none=>rfl
  | some d=>have:=L4 c b;rw[this]at h;cases h
 exact⟨⟨o,by simp[Du,BI,a,h]⟩,a⟩
theorem JD {w w':World} {O0:Nat->Prop} {σ:St} {ρ ρ':Nat->Value} {obs:List (Nat×Obj)} (hf:BS obs σ=true)
  (hb:Below w.heap.size w w') (hr:∀n,lk n obs=none->ρ' n=ρ n) (hn:∀n o b,lk n obs=some o->bk (ρ' n) b->w.heap.size<=b) :
  CG (vw w O0 σ ρ) (vw w' O0 (Du σ obs) ρ') where
 O:=by
  intro b hlt hO hO';rcases hO' with h0|⟨n,hl,hb'⟩
  .exact hO (.inl h0)
  rcases KD hl with ⟨o,ho⟩|⟨hno,hl'⟩
  .have:=hn n o b ho hb';have hlt:b<w.heap.size:=hlt;omega
  exact hO (.inr ⟨n,hl',by rw[<-hr n hno];exact hb'⟩)
 L:=λn h=>(Ud hf h).1
 ρ:=λn h=>hr n (Ud hf h).2
 heap:=λb hlt _=>hb.block b hlt
theorem QS.keeps {w w':World} {O0:Nat->Prop} {σ:St} {ρ ρ':Nat->Value} {v:AV} {u:Value} {obs:List (Nat×Obj)} (a:BS obs σ=true) (h:QS w O0 σ ρ v obs u ρ' w') :
  CG (vw w O0 σ ρ) (vw w' O0 (Du σ obs) ρ'):=JD a h.below h.rho h.new
theorem z8.below {K:Nat->Prop} {w0 w w':World} (h:z8 K w0 w) (hb:Below w.heap.size w w') (hK:∀b,K b->b<w0.heap.size):z8 K w0 w' where
 os:=hb.os.trans h.os
 tape:=hb.tape.trans h.tape
 output:=hb.output.trans h.output
 size:=f3 h.size hb.size
 block:=λk hk=>(hb.block k (AAf (hK k hk) h.size)).trans (h.block k hk)
theorem KE (a:Act) (dst:Option Tmp) (u:Value):(a.put dst u).tmps.size=a.tmps.size:=by
 cases dst<;>simp[Act.put]
theorem G5 (a:Act) (dst:Option Tmp) (u:Value):(a.put dst u).defers=a.defers:=by cases dst<;>rfl
theorem Gb (a:Act) (d:Nat) (u:Value) (s:Nat) (b:d<a.tmps.size):(a.put (some d) u).tmps.getD s undef=if s=d then u else a.tmps.getD s undef:=by
 by_cases h:s=d
 .subst h;simp[Act.put,b]
 have:¬d=s:=λe=>h e.symm;simp[Act.put,h,this,ABh]
theorem Bx.add {w0:World} {K O0:Nat->Prop} {nt:Nat} {ds:Fp} {σ:St} {ρ:Nat->Value} {a:Act} {w:World} (h:Bx w0 K O0 nt ds σ ρ a w)
  (M:∀b,K b->b<w0.heap.size) (O:∀b,O0 b->b<w0.heap.size) {dst:Option Nat} (N:∀d,dst=some d->d<nt)
  {v:AV} {obs:List (Nat×Obj)} {u:Value} {ρ':Nat->Value} {w':World} (E:BS obs σ=true) (c:QS w O0 σ ρ v obs u ρ' w') :
  Bx w0 K O0 nt ds (σ.add v obs dst) ρ' (a.put dst u) w':=by
 have z:=c.keeps E;have I:(σ.add v obs dst).objs=obs++σ.objs:=by cases dst<;>rfl
 have l:∀n,GL (σ.add v obs dst) n↔GL (Du σ obs) n:=λn=>by simp[GL,I,Du]
 have J:vw w' O0 (σ.add v obs dst) ρ'=vw w' O0 (Du σ obs) ρ':=by
  have k:GL (σ.add v obs dst)=GL (Du σ obs):=funext λn=>propext (l n);have g:own O0 (σ.add v obs dst) ρ'=own O0 (Du σ obs) ρ':=by grind [own]
  simp only[vw,k,g]
 refine⟨h.frm.below c.below M,by rw[KE];exact h.nt,by rw[G5];exact h.defers,λp hp=>?_,?_,?_,?_,?_⟩
 .obtain⟨y,j,L⟩:=h.pin p hp;have D:=Ud E y;exact⟨(l p.1).2 D.1,(c.rho _ D.2).trans j,L⟩
 .intro n o g;rw[I,BI]at g;rw[J];cases r:lk n obs with
  | some B=>rw[r]at g;cases g;exact c.obj n _ r
  | none =>
   rw[r]at g;have q:lk n σ.objs=some o:=by simpa using g
   rw[c.rho n r];refine(h.objs n o q).keeps z λb f=>?_;exact c.below.block b ((h.objs n o q).block_lt f)
 .intro n b k f;rcases KD ((l n).1 k) with ⟨o,g⟩|⟨t,A⟩
  .have P:=c.new n o b g f;have:=h.frm.size;grind
  rw[c.rho n t]at f;exact h.free n b A f
 .intro n m b k A f i;rcases KD ((l n).1 k) with ⟨o,g⟩|⟨t,F⟩<;>rcases KD ((l m).1 A) with ⟨B,q⟩|⟨H,G⟩
  .exact c.dist n m o B b g q f i
  .have y:=c.new n o b g f;rw[c.rho m H]at i;obtain⟨C,j⟩:=G;have:=(h.objs m C j).block_lt i;have:b<w.heap.size:=this;omega
  .have y:=c.new m B b q i;rw[c.rho n t]at f;obtain⟨C,j⟩:=F;have:=(h.objs n C j).block_lt f;have:b<w.heap.size:=this;omega
  rw[c.rho n t]at f;rw[c.rho m H]at i;exact h.dist n m b F G f i
 intro s x hs;rw[J];cases dst with
 | none=>exact(h.env s x hs).keeps z
 | some d =>
  simp only[St.add,lk]at hs;rw[Gb a d u s (by rw[h.nt];exact N d rfl)];split at hs
  .rename_i e;cases hs;rw[At e];exact c.av
  rename_i e;rw[As e];exact(h.env s x hs).keeps z
theorem QS.still {w:World} {O0:Nat->Prop} {σ:St} {ρ:Nat->Value} {v:AV} {u:Value} (h:Bn (vw w O0 σ ρ) v u):QS w O0 σ ρ v [] u ρ w where
 below:=Below.refl _ _
 rho:=λ_ _=>rfl
 av:=h
 obj:=λ_ _ h=>by cases h
 new:=λ_ _ _ h=>by cases h
 dist:=λ_ _ _ _ _ h=>by cases h
def DQ (ρ:Nat->Value) (n:Nat) (x:Value):Nat->Value:=λm=>if m=n then x else ρ m
theorem BV (ρ:Nat->Value) (n:Nat) (x:Value):DQ ρ n x n=x:=by simp[DQ]
theorem QS.one {w w':World} {O0:Nat->Prop} {σ:St} {ρ:Nat->Value} {v:AV} {u loc:Value} {n:Nat} {o:Obj} (hb:Below w.heap.size w w')
  (hnew:∀b,bk loc b->w.heap.size<=b)
  (hav:Bn (vw w' O0 (Du σ [(n,o)]) (DQ ρ n loc)) v u)
  (hobj:Av (vw w' O0 (Du σ [(n,o)]) (DQ ρ n loc)) o loc):QS w O0 σ ρ v [(n,o)] u (DQ ρ n loc) w' where
 below:=hb
 rho:=λm hm=>by grind [lk,DQ]
 av:=hav
 obj:=λm o' hm=>by grind [lk,BV]
 new:=λm o' b hm hb'=>by grind [lk,BV]
 dist:=λm m' o1 o2 b h1 h2 _ _=>by grind [lk]
end
section
open Go Go.RowKit
theorem BH {t:Ty} {p:PV} {d:t.den} (h:BR t p=some d):p=⟨t,d⟩:=by
 obtain⟨u,x⟩:=p;grind [BR]
theorem Bz {e a:Ty} {xs:List a.den} {ys:List e.den} (h:BR (.slice e) ⟨.slice a,xs⟩=some ys):a=e/\HEq xs ys:=by
 have b:=BH h;grind
theorem L5 {α:Type} (xs:List α) {lo hi:Nat} (h:hi<=xs.length):(sub xs lo hi).length=hi-lo:=by
 simp[sub];omega
theorem Ue {α:Type} (xs:List α) (lo hi i:Nat) {x:α} (h:(sub xs lo hi)[i]?=some x):xs[lo+i]?=some x/\i<hi-lo:=by grind [sub]
theorem aH {w:World} {O':Nat->Prop} {et:TypeId} {e:Ty} {xs:List e.den} {loc v:Value} {cells:List Value} {lo hi:Nat} (B:∀b,blk loc=some b->¬O' b)
  (K:xs.length<=AN) (h:w.ownsRow 0 et e.size loc xs.length cells) (s:DE w O' e cells xs) (C:CV loc e.size lo hi v):Bl w O' (.slice e) [v] (sub xs lo hi):=by
 obtain⟨a,m,c,j,I,t,k,l,rfl,q,E,o⟩:=C;have z:m=xs.length:=by
  rcases h.2 with ⟨d,A⟩|⟨g,cap,n,d,_⟩
  .grind
  rw[j]at d;injection d
 subst z;have f:=L5 xs (lo:=lo) t;refine⟨k,l,by rw[f],by rw[f];exact q,by rw[f];omega,?_⟩;by_cases y:lo<hi
 .right;rcases h.2 with ⟨d,A⟩|⟨g,cap,n,d,r⟩
  .omega
  have G:=World.ownsRow.cells h (g:=g) (by rw[d];rfl);have p:a=some ⟨g,0,none⟩:=by rw[j]at d;injection d
  subst p;refine⟨_,o y,B _ (by rw[d];simp only[blk,CJ]),λi x u=>?_⟩;obtain⟨D,J⟩:=Ue xs lo hi i u;obtain⟨es,H,F,L⟩:=s (lo+i) x D;grind [C8]
 simp_all
theorem Hg {w:World} {base:Nat} {et:TypeId} {sz n:Nat} {s:Value} {xs:List Value} (h:w.ownsRow base et sz s n xs):plc s=s:=by
 rcases h.2 with ⟨rfl,_⟩|⟨g,cap,a,rfl,_⟩<;>rfl
theorem Pp {V:Vw} {et:TypeId} {e:Ty} {xs:List e.den} {loc:Value} (h:Av V (.arr et e xs) loc):plc loc=loc:=by
 obtain⟨_,_,h,_⟩:=h;exact Hg h
theorem Uf {V:Vw} {O':Nat->Prop} (h:∀b,¬V.O b->¬O' b) {et:TypeId} {e:Ty} {xs:List e.den} {loc v:Value} {lo hi:Nat} (n:∀b,blk loc=some b->¬O' b)
  (a:Av V (.arr et e xs) loc) (c:CV (plc loc) e.size lo hi v):Bl V.w O' (.slice e) [v] (sub xs lo hi):=by
 rw[Pp a]at c;obtain⟨l,cells,m,k⟩:=a;exact aH n l m (λi x hi=>let ⟨es,d,f,g⟩:=k i x hi;⟨es,d,f,g.mono (λb _ j=>h b j) (λ_ _ _=>rfl)⟩) c
theorem Fe {w:World} {et:TypeId} {sz n:Nat} {s:Value} {xs:List Value} (h:w.ownsRow 0 et sz s n xs):CV s sz 0 n s:=by
 rcases h.2 with ⟨rfl,a⟩|⟨g,cap,b,rfl,_,_,c,_⟩
 .exact⟨none,0,0,rfl,by omega,by omega,none,0,by rw[a],by omega,λ_=>⟨rfl,rfl⟩,λh=>by omega⟩
 exact⟨some ⟨g,0,none⟩,n,cap,rfl,by omega,by omega,some ⟨g,0,none⟩,cap,by simp,by omega,λ_=>⟨rfl,rfl⟩,λ_=>by simp[Gn]⟩
theorem Nv {V:Vw} {O':Nat->Prop} (d:∀b,¬V.O b->¬O' b) {et:TypeId} {e:Ty} {xs:List e.den} {u:Value} (f:∀b,blk u=some b->¬O' b) (h:Lf V et e xs u):Bl V.w O' (.slice e) [u] xs:=by
 have c:=h;obtain⟨_,_,a,_⟩:=c;have:=Uf (V:=V) d f (et:=et) (e:=e) (xs:=xs) (loc:=u) h (by rw[Hg a];exact Fe a)
 rwa [HW]at this
theorem Gc {w:World} {base:Nat} {et:TypeId} {sz n m c:Nat} {a:Option Addr} {xs:List Value} (h:w.ownsRow base et sz (.slice a m c) n xs):m=n:=by
 rcases h.2 with ⟨b,e⟩|⟨g,cap,d,b,_⟩
 .injection b;omega
 injection b
theorem Ug {V:Vw} {f:TypeId} {e:Ty} {xs:List e.den} {u:Value} {a:Option Addr} {len c:Nat} (b:wV u (.slice a len c)) (h:Lf V f e xs u):len=xs.length:=by
 obtain⟨_,j,d,_⟩:=h;rcases b with rfl|⟨rfl,g,i⟩
 .exact Gc d
 grind [Gc]
theorem jU {V:Vw} {k:TypeId} {e:Ty} {xs:List e.den} {u v:Value} (g:wV u v) (h:Lf V k e xs u):∃(a:Option Addr) (c:Nat),v=.slice a xs.length c:=by
 rcases g with rfl|⟨rfl,a,rfl⟩
 .obtain⟨_,l,f,_⟩:=h;obtain⟨_,_,_,_,_,_,b,d,j,_⟩:=Fe f;exact⟨b,d,j⟩
 have i:=Ug (.inr ⟨rfl,a,rfl⟩) h;exact⟨a,0,by rw[<-i]⟩
theorem aI {V:Vw} {O':Nat->Prop} {g:TypeId} {e:Ty} {xs:List e.den} {u v:Value} (b:wV u v) (h:Lf V g e xs u) (d:Bl V.w O' (.slice e) [u] xs):Bl V.w O' (.slice e) [v] xs:=by
 rcases b with rfl|⟨rfl,a,rfl⟩
 .exact d
 have c:=Ug (.inr ⟨rfl,a,rfl⟩) h;have f:xs=[]:=dO c.symm;subst f;exact⟨a,0,rfl,If _,by simp,.inl rfl⟩
theorem L6 {V:Vw} {O':Nat->Prop} (g:∀b,¬V.O b->¬O' b) {et q:TypeId} {k e:Ty} {xs:List (k.den×List e.den)} {o:Value} {ins cells:List Value} (h:Jo V et q k e xs none o ins cells)
  (p:∀(i b:Nat) (u:Value),ins[i]?=some u->blk u=some b->¬O' b):DE V.w O' (.agg (.prod k (.slice e))) cells xs:=by
 intro i x hi;have j:i<ins.length:=by rw[h.len];exact(ON.1 hi).1
 obtain⟨c1,v,l,d,a⟩:=h.row i x ins[i] hi (DO j);rcases a with ⟨a,_⟩|⟨_,m,f⟩
 .cases a
 have n:=aI m f (Nv g (λb c=>p i b _ (DO j) c) f);refine⟨c1++[v],by simp[Ty.size,d.length],l,?_⟩;exact(⟨c1,[v],rfl,d.mono (λb _ c=>g b c) (λ_ _ _=>rfl),n⟩:Bl V.w O' (.prod k (.slice e)) _ x)
theorem WG {V:Vw} {O':Nat->Prop} (g:∀b,¬V.O b->¬O' b) {et m:TypeId} {k e:Ty} {xs:List (k.den×List e.den)} {loc v:Value} {lo hi:Nat} (a:∀b,bk loc b->¬O' b)
  (l:Av V (.nest et m k e xs none) loc) (c:CV (plc loc) (k.size+1) lo hi v):Bl V.w O' (.slice (.agg (.prod k (.slice e)))) [v] (sub (α:=k.den×List e.den) xs lo hi):=by
 obtain⟨o,ins,cells,hs,h⟩:=l;rw[hs.plc]at c;exact aH (e:=.agg (.prod k (.slice e))) (xs:=xs) (λb j=>a b (hs.bk.2 (A8.2 (.inl j)))) h.max h.own (L6 g h λi b u d f=>a b (hs.bk.2 (A8.2 (.inr ⟨i,u,d,f⟩)))) c
theorem Sp {V:Vw} {p:Obj} {loc:Value} {a:Option Addr} {m c:Nat} (d:Av V p loc) (h:plc loc=.slice a m c):∃et sz cells,V.w.ownsRow 0 et sz (.slice a m c) m cells/\m<=AN:=by
 cases p with
 | arr et e xs =>
  have r:=Pp d;obtain⟨t,cells,i,_⟩:=d;rw[r]at h;subst h;have j:m=xs.length:=by
   rcases i.2 with ⟨f,u⟩|⟨g,cap,q,f,_⟩
   .injection f;omega
   injection f
  subst j;exact⟨et,_,cells,i,t⟩
 | nest et z k e xs x =>
  obtain⟨o,ins,cells,hs,n⟩:=d;rw[hs.plc]at h;subst h;have i:=n.own;have j:m=xs.length:=by
   rcases i.2 with ⟨f,u⟩|⟨g,cap,q,f,_⟩
   .injection f;omega
   injection f
  subst j;exact⟨et,_,cells,i,n.max⟩
 | box et H fs=>obtain⟨_,b,cs,rfl,_⟩:=d;cases h
 | mapo k v l=>obtain⟨b,_,_,rfl,_⟩:=d;cases h
 | frame I fs=>obtain⟨rfl,_⟩:=d;cases h
 | loop L=>obtain⟨b,rfl,_⟩:=d;cases h
 | itr A D B C y=>obtain⟨b,rfl,_⟩:=d;cases h
 | dfr=>obtain⟨b,rfl,_⟩:=d;cases h
 | sit E F=>obtain⟨b,rfl,_⟩:=d;cases h
 | gen G=>obtain⟨b,s⟩:=G.mp _ _ _ d;rw[s]at h;cases h
theorem K8 {V V':Vw} (c:V'.w=V.w) (d:V'.O=V.O) {et f:TypeId} {k e:Ty} {xs:List (k.den×List e.den)} {h:Option Nat} {loc:Value} (t:Av V (.nest et f k e xs h) loc):Av V' (.nest et f k e xs h) loc:=by
 obtain⟨o,ins,cells,r,a⟩:=t;refine⟨o,ins,cells,r,a.max,a.len,by rw[c];exact a.own,λi x u g j=>?_,a.dist,a.out⟩;obtain⟨c1,v,l,m,b⟩:=a.row i x u g j;refine⟨c1,v,l,by rw[c,d];exact m,?_⟩;rcases b with b|⟨b,n,s,y,p,q⟩
 .exact .inl b
 exact .inr ⟨b,n,s,y,by rw[c];exact p,by rw[c,d];exact q⟩
theorem eH {V V':Vw} (d:V'.w=V.w) (g:∀b,¬V.O b->¬V'.O b) {et j:TypeId} {k e:Ty} {xs:List (k.den×List e.den)} {h:Option Nat} {loc:Value} (B:Av V (.nest et j k e xs h) loc):Av V' (.nest et j k e xs h) loc:=by
 obtain⟨o,ins,cells,z,a⟩:=B;refine⟨o,ins,cells,z,a.max,a.len,by rw[d];exact a.own,λi x u n p=>?_,a.dist,a.out⟩;obtain⟨c1,v,q,r,c⟩:=a.row i x u n p;refine⟨c1,v,q,r.mono (λb _ f=>g b f) (λb _ _=>by rw[d]),?_⟩;rcases c with c|⟨c,s,A,C,t,y⟩
 .exact .inl c
 refine .inr ⟨c,s,A,C,by rw[d];exact t,λi x hi=>?_⟩;obtain⟨es,g1,l,m⟩:=y i x hi;exact⟨es,g1,l,m.mono (λb _ f=>g b f) (λb _ _=>by rw[d])⟩
theorem Uh {V:Vw} {et g:TypeId} {k e:Ty} {xs:List (k.den×List e.den)} {h:Option Nat} {loc v:Value} {c:Array Value} {i:Nat} {z:k.den×List e.den}
  (d:Av V (.nest et g k e xs h) loc) (f:loc=.tuple c) (a:c[i+1]?=some v):xs[i]?=some (xs.getD i z):=by
 obtain⟨o,ins,cells,hs,h⟩:=d;obtain rfl:=hs.tup f;have a:ins[i]?=some v:=by simpa using a
 have b:i<xs.length:=by rw[<-h.len];exact(ON.1 a).1
 rw[DO b,AS,DO b];rfl
theorem qM {V:Vw} {t:Obj} {loc u v:Value} {w:Array Value} {i len c:Nat} {a:Option Addr} (d:Av V t loc) (A:loc=.tuple w) (j:w[i+1]?=some u) (f:wV u v) (m:v=.slice a len c):len<=AN:=by
 subst A;cases t with
 | arr et e xs =>
  obtain⟨F,cells,z,_⟩:=d;rcases z.2 with ⟨s,_⟩|⟨g,cap,B,s,_⟩<;>cases s
 | nest et I k e xs E =>
  obtain⟨o,ins,cells,hs,r⟩:=d;obtain rfl:=hs.tup rfl;have j:ins[i]?=some u:=by simpa using j
  have y:i<xs.length:=by rw[<-r.len];exact(ON.1 j).1
  obtain⟨c1,S,C,D,n⟩:=r.row i xs[i] u (DO y) j;rcases n with ⟨_,n⟩|⟨_,_,p⟩
  .subst m;rcases f with q|⟨_,x,q⟩
   .grind
   injection q;omega
  rw[m]at f;rw[Ug f p];exact p.1
 | box et Q fs=>obtain⟨_,b,cs,h,_⟩:=d;cases h
 | mapo k v l=>obtain⟨b,_,_,h,_⟩:=d;cases h
 | frame R fs=>obtain⟨h,_⟩:=d;cases h
 | loop L=>obtain⟨b,h,_⟩:=d;cases h
 | itr J N K M H=>obtain⟨b,h,_⟩:=d;cases h
 | dfr=>obtain⟨b,h,_⟩:=d;cases h
 | sit O P=>obtain⟨b,h,_⟩:=d;cases h
 | gen G =>
  rcases f with rfl|⟨_,x,f⟩
  .subst m;exact G.inn _ _ _ _ _ _ _ d j
  rw[m]at f;injection f;omega
theorem qN {V:Vw} {O':Nat->Prop} (q:∀b,¬V.O b->¬O' b) {et l:TypeId} {k e:Ty} {xs:List (k.den×List e.den)} {loc v:Value} {d:Array Value} {i:Nat} {x:k.den×List e.den} (t:∀b,bk loc b->¬O' b) {u:Value}
  (f:Av V (.nest et l k e xs none) loc) (g:loc=.tuple d) (c:d[i+1]?=some u) (s:wV u v) (j:xs[i]?=some x):Bl V.w O' (.slice e) [v] x.2:=by
 obtain⟨o,ins,cells,hs,h⟩:=f;obtain rfl:=hs.tup g;have c:ins[i]?=some u:=by simpa using c
 obtain⟨c1,y,m,n,a⟩:=h.row i x u j c;rcases a with ⟨a,_⟩|⟨_,r,p⟩
 .cases a
 grind [aI,Nv,A8]
section
variable {V:Vw} {O':Nat->Prop} {l:Bool} {σ:St}
theorem aJ (r:∀b,¬V.O b->¬O' b) (A:l=true->∀b,¬O' b) (z:∀n o,lk n σ.objs=some o->Av V o (V.ρ n))
  {t:Ty} {x:AV} {d:t.den} {cs:List Value} (h:EU l σ t x=some d) (j:Fa V x cs):Bl V.w O' t cs d:=by
 unfold EU at h;split at h
 .rename_i u B;have:=BH h;injection this with m p
  subst m;cases p;have j:Bl V.w V.O u cs B:=j;exact j.mono (λb _ F=>r b F) (λ_ _ _=>rfl)
 .rename_i e n C lo hi;split at h
  .rename_i s;obtain⟨y,rfl⟩:=s;have q:=y;obtain⟨v,rfl,_,E,g⟩:=j;cases f:lk n σ.objs with
   | none=>rw[f]at h;simp[Lk]at h
   | some o =>
    rw[f]at h;cases o with
    | box et U fs=>simp[Lk]at h
    | mapo k v l=>simp[Lk]at h
    | frame W fs=>simp[Lk]at h
    | loop L=>simp[Lk]at h
    | itr N R P Q K=>simp[Lk]at h
    | dfr=>simp[Lk]at h
    | sit S T=>simp[Lk]at h
    | gen G=>simp[Lk]at h
    | nest et M k D xs q =>
     cases q with
     | some i=>simp[Lk]at h
     | none =>
      simp only[Lk]at h;obtain⟨m,p⟩:=Bz h;subst m;cases p;exact WG r (λb _=>A y b) (z n _ f) g
    | arr et D xs =>
     simp only[Lk]at h;obtain⟨m,p⟩:=Bz h;subst m;cases p;exact Uf r (λb _=>A q b) (z n _ f) g
  cases h
 .rename_i e n C i len;split at h
  .rename_i s;obtain⟨q,rfl⟩:=s;obtain⟨v,rfl,_,E,Y,a,c,X,J,I,H,_⟩:=j;cases f:lk n σ.objs with
   | none=>rw[f]at h;simp[Np]at h
   | some o =>
    rw[f]at h;unfold Np at h;split at h
    .grind [Bz,qN,Uh]
    cases h
  cases h
 .obtain⟨v,rfl,_,g⟩:=j;have g:v=_:=g;subst g;cases h;exact⟨none,0,rfl,by simp,by simp[AN],.inl rfl⟩
 cases h
theorem jV (j:∀b,¬V.O b->¬O' b) (m:l=true->∀b,¬O' b) (k:∀n o,lk n σ.objs=some o->Av V o (V.ρ n)) :
  ∀ {fs:List AV} {t:Ty} {d:t.den} {cs:List Value},I3 l σ fs t=some d->AVCs V fs cs->Bl V.w O' t cs d
 | [],t,d,cs,h,f=>by simp[I3]at h
 | [x],t,d,cs,h,f=>by
  obtain⟨c1,c2,rfl,i,e⟩:=f;have e:c2=[]:=e;grind [I3,aJ]
 | x :: y :: r,t,d,cs,h,f=>by
  obtain⟨c1,c2,rfl,i,e⟩:=f;cases t;case prod a b =>
   simp only[I3]at h;cases c:EU l σ a x with
   | none=>rw[c]at h;simp[J5]at h
   | some p =>
    cases g:I3 l σ (y :: r) b with
    | none=>rw[c,g]at h;simp[J5]at h
    | some q =>
     rw[c,g]at h;simp only[J5]at h;cases h;exact⟨c1,c2,rfl,aJ j m k c i,jV j m k g e⟩
  all_goals simp[I3]at h
theorem qO {t:Ty} {x:AV} {d:t.den} {v:Value} (h:EU l σ t x=some d) (hp:∀u i,x≠.p u i) (e:Bn V x v):Fa V x [v]/\t.wrap [v]=v:=by
 unfold EU at h;split at h
 .exact absurd rfl (hp _ _)
 .obtain⟨b,a,m,c,_,_,_,f,g,rfl,_⟩:=e;refine⟨⟨_,rfl,rfl,?_⟩,rfl⟩;exact⟨b,a,m,c,by assumption,by assumption,by assumption,f,g,rfl,by assumption⟩
 .obtain⟨b,q,a,c,u,j,k,n,rfl⟩:=e;exact⟨⟨_,rfl,rfl,b,q,a,c,u,j,k,n,rfl⟩,rfl⟩
 .have o:v=_:=e;subst o;exact⟨⟨_,rfl,rfl,rfl⟩,rfl⟩
 cases h
theorem Hh (g:∀b,¬V.O b->¬O' b) (k:l=true->∀b,¬O' b) (j:∀n o,lk n σ.objs=some o->Av V o (V.ρ n))
  {t:Ty} {x:AV} {d:t.den} {v:Value} (h:IQ l σ t x=some d) (i:Bn V x v):BG V.w O' t v d:=by
 unfold IQ at h;split at h
 .rename_i t fs;obtain⟨cs,rfl,q⟩:=i;exact⟨cs,(jV g k j h q:Bl V.w O' t cs d),rfl⟩
 by_cases hp:∃u a,x=.p u a
 .obtain⟨u,a,rfl⟩:=hp;have h:BR t ⟨u,a⟩=some d:=by simpa only[EU] using h
  have:=BH h;injection this with c f
  subst c;cases f;exact BG.mono (λb _ m=>g b m) (λ_ _ _=>rfl) i
 obtain⟨c,f⟩:=qO h (λu a e=>hp ⟨u,a,e⟩) i;exact⟨[v],aJ g k j h c,f.symm⟩
end
end
section
open Go Go.RowKit
def Ui:Ty->Value->Bool
 | .agg _,.agg _=>true
 | .agg _,_=>false
 | .prod _ _,_=>false
 | _,.agg _=>false
 | _,_=>true
def Me (P : Program) (id : TypeId) (a b : IntKind) : Prop := ∃ c d : Field, P.underlying id = some (.struct #[c, d]) /\ ((c.name != "_") = true /\ (d.name != "_") = true) /\ (c.offset = 0 /\ d.offset = 1) /\ (P.underlying c.type = some (.int a) /\ P.underlying d.type = some (.int b)) /\ P.stoodInHeld id = false
def QJ (P:Program) (id:TypeId):Ty->Nat->Prop
 | .agg (.prod (.int a) (.int b)),0=>Me P id a b
 | _,_=>True
def isI (k:IntKind):Option TypeDesc->Bool
 | some (.int a)=>k==a
 | _=>false
theorem Uj {k:IntKind} {d:Option TypeDesc} (h:isI k d=true):d=some (.int k):=by
 unfold isI at h;grind
def wW (P:Program) (id:TypeId) (a b:IntKind):Option TypeDesc->Bool
 | some (.struct ⟨[c, d]⟩) => (c.name != "_") && (d.name != "_") && c.offset == 0 && d.offset == 1 && isI a (P.underlying c.type) && isI b (P.underlying d.type) && P.stoodInHeld id == false
 | _=>false
def jW (P:Program) (id:TypeId):Ty->Nat->Bool
 | .agg (.prod (.int a) (.int b)),0=>wW P id a b (P.underlying id)
 | _,_=>true
theorem jX {P:Program} {id:TypeId} {t:Ty} {el:Nat} (h:jW P id t el=true):QJ P id t el:=by
 unfold jW at h;unfold QJ;split at h
 .unfold wW at h;split at h
  .rename_i a b k;simp only[AT,AA9]at h;obtain⟨⟨⟨⟨⟨⟨c,d⟩,e⟩,f⟩,g⟩,i⟩,j⟩:=h;exact⟨a,b,k,⟨c,d⟩,⟨e,f⟩,⟨Uj g,Uj i⟩,j⟩
  cases h
 trivial
def Dg (P:Program) (tb:Tb) (id:TypeId) (ti:TI):Prop :=
 (((∀p∈ti.offs,p.2≠0)/\0<ti.bytes/\QJ P id ti.ty ti.el)/\∃(i:TypeInfo) (z:Value),P.info? id=some i/\i.size=ti.ty.size/\i.bytes=ti.bytes/\i.zero=some z/\z.cells=ti.ty.zero.toArray) /\
 match ti.ty with
 | .int k=>P.underlying id=some (.int k)
 | .bool=>P.underlying id=some .bool
 | .str=>P.underlying id=some .string
 | .slice e=>P.underlying id=some (.slice ti.el)/\∃te,lk ti.el tb.ty=some te/\te.ty=e
 | .agg _=>(∃fs:Array Field,ti.el=0/\P.underlying id=some (.struct fs)/\ti.offs.map some=fs.toList.map λf=>(P.info? f.type).map λi=>(f.offset,i.size)) \/
   ∃n e i,ti.el≠0/\P.underlying id=some (.array n e)/\P.info? e=some i/\ti.offs=(List.range n).map λk=>(k*i.size,i.size)
 | .prod _ _=>False
 | .ref j=>∃d,P.underlying id=some d/\(match d with|.struct _=>False|.array _ _=>False|_=>True) /\
   ∀k e,j=2->ti.offs=[(k,e)]->d=.map k e/\∃(a te:TI) (z:Value),lk k tb.ty=some a/\lk e tb.ty=some te/\(∃i,P.info? e=some i/\i.zero=some z)/\z.cells=te.ty.zero.toArray/\Ui te.ty z=true
def DG (P:Program) (tb:Tb):Prop:=∀id ti,lk id tb.ty=some ti->Dg P tb id ti
def jY:Value->Value->Bool
 | .int k n,.int c d=>k==c&&n==d
 | .bool a,.bool b=>a==b
 | .string s,.string e=>s.size==0&&e.size==0
 | .slice none 0 0,.slice none 0 0=>true
 | .pointer none,.pointer none=>true
 | .nilFunc,.nilFunc=>true
 | .map none,.map none=>true
 | .nilIface,.nilIface=>true
 | _,_=>false
theorem jZ {a b:Value} (h:jY a b=true):a=b:=by
 unfold jY at h;split at h
 .grind
 .grind
 .simp_all
 .rfl
 .rfl
 .rfl
 .rfl
 .rfl
 cases h
def L7:List Value->List Value->Bool
 | [],[]=>true
 | a :: l,b :: r=>jY a b&&L7 l r
 | _,_=>false
theorem Nw:∀ {l r:List Value},L7 l r=true->l=r
 | [],[],_=>rfl
 | a :: l,b :: r,h=>by
  simp only[L7,AT]at h;rw[jZ h.1,Nw h.2]
 | [],_ :: _,h=>by simp[L7]at h
 | _ :: _,[],h=>by simp[L7]at h
def wX (ty:Ty) (bytes:Nat):Option TypeInfo->Bool
 | some i=>i.size==ty.size&&i.bytes==bytes&&(match i.zero with|some z=>L7 z.cells.toList ty.zero|none=>false)
 | none=>false
def A01 (offs:List (Nat×Nat)) (n:Nat):Option TypeInfo->Bool
 | some i=>offs==(List.range n).map λk=>(k*i.size,i.size)
 | none=>false
def wY (e:Nat) (te:Option TI):Option TypeInfo->Bool
 | some i=>match i.zero,te with|some z,some te=>L7 z.cells.toList te.ty.zero&&Ui te.ty z|_,_=>false
 | none=>false
def xM (P:Program) (tb:Tb) (j:Nat) (d:TypeDesc):List (Nat×Nat)->Bool
 | [(k,e)]=>j != 2||(match d with|.map b a=>b==k&&a==e&&(lk k tb.ty).isSome&&wY e (lk e tb.ty) (P.info? e)|_=>false)
 | _=>true
theorem qP {P:Program} {tb:Tb} {j:Nat} {d:TypeDesc} {offs:List (Nat×Nat)} (h:xM P tb j d offs=true):∀k e,j=2->offs=[(k,e)]->d=.map k e/\∃(a te:TI) (z:Value),lk k tb.ty=some a/\lk e tb.ty=some te/\(∃i,P.info? e=some i/\i.zero=some z)/\z.cells=te.ty.zero.toArray/\Ui te.ty z=true:=by
 rintro k e rfl rfl;simp only[xM,bne_self_eq_false,ACG]at h;split at h
 .simp only[AT,AA9]at h;obtain⟨⟨⟨rfl,rfl⟩,b⟩,c⟩:=h;refine⟨rfl,?_⟩;obtain⟨a,f⟩:=ABa.1 b;unfold wY at c;grind [Nw]
 cases h
def A02 (P:Program) (tb:Tb) (ti:TI):Ty->Option TypeDesc->Bool
 | .int k,some (.int a)=>k==a
 | .bool,some .bool=>true
 | .str,some .string=>true
 | .slice e,some (.slice el)=>el==ti.el&&(match lk ti.el tb.ty with|some te=>decide (te.ty=e)|none=>false)
 | .agg _,some (.struct fs)=>ti.el==0&&ti.offs.map some==fs.toList.map λf=>(P.info? f.type).map λi=>(f.offset,i.size)
 | .agg _,some (.array n e)=>ti.el != 0&&A01 ti.offs n (P.info? e)
 | .ref _,some (.struct _)=>false
 | .ref _,some (.array _ _)=>false
 | .ref j,some d=>xM P tb j d ti.offs
 | _,_=>false
def tiB (P:Program) (tb:Tb) (id:TypeId) (ti:TI):Bool:=((ti.offs.all λp=>p.2 != 0)&&(decide (0<ti.bytes)&&jW P id ti.ty ti.el))&&wX ti.ty ti.bytes (P.info? id)&&A02 P tb ti ti.ty (P.underlying id)
theorem xN {P:Program} {tb:Tb} {id:TypeId} {ti:TI} (h:tiB P tb id ti=true):Dg P tb id ti:=by
 simp only[tiB,AT]at h;obtain⟨⟨⟨b,f,g⟩,c⟩,a⟩:=h;refine⟨⟨⟨λp hp=>by simpa using (IS.1 b) p hp,by simpa using f,jX g⟩,?_⟩,?_⟩
 .unfold wX at c;grind [Nw]
 generalize j:P.underlying id=u at a;generalize ti.ty=t at a;cases t<;>cases u<;>simp only[A02]at a<;>try(cases a;done)
 all_goals
  rename_i u;cases u<;>simp only at a<;>try(cases a;done)
 .grind
 .rfl
 .rfl
 .grind
 .rename_i n e;simp only[AT,ABW]at a;obtain⟨d,a⟩:=a;unfold A01 at a;split at a
  .rename_i i hi;exact .inr ⟨_,_,i,d,rfl,hi,by simpa using a⟩
  cases a
 .grind
 all_goals exact⟨_,rfl,trivial,qP a⟩
theorem qQ {P:Program} {tb:Tb} (h:(tb.ty.all λp=>tiB P tb p.1 p.2)=true):DG P tb:=λid ti hi=>by
 rw[IS]at h;exact xN (h _ (FM hi))
def Ty.isAgg:Ty->Bool
 | .agg _=>true
 | .int _=>false
 | .bool=>false
 | .str=>false
 | .slice _=>false
 | .prod _ _=>false
 | .ref _=>false
section
variable {P:Program} {tb:Tb} {id:TypeId} {ti:TI} (w:World)
theorem KF {i:TypeInfo} (h:P.info? id=some i):(typeInfo id).run P w=.ok i w:=by simp[typeInfo,h]
theorem qR (h:Dg P tb id ti):(isAgg id).run P w=.ok ti.ty.isAgg w:=by
 obtain⟨_,a⟩:=h;cases f:ti.ty<;>rw[f]at a<;>simp only at a;case agg =>
  rcases a with ⟨fs,_,b,_⟩|⟨n,e,_,_,b,_⟩<;>simp[isAgg,On b,Ty.isAgg]
 case slice=>simp[isAgg,On a.1,Ty.isAgg]
 case ref k =>
  obtain⟨d,b,c,_⟩:=a;cases d<;>first|exact c.elim|simp[isAgg,On b,Ty.isAgg]
 all_goals simp[isAgg,On a,Ty.isAgg]
theorem G6 (h:Dg P tb id ti):(sizeOf id).run P w=.ok ti.ty.size w:=by
 obtain⟨⟨_,i,z,a,b,_⟩,_⟩:=h;simp[sizeOf,KF w a,b]
theorem Dg.noprod (h:Dg P tb id ti) {a b:Ty}:ti.ty≠.prod a b:=by
 intro e;have:=h.2;rw[e]at this;exact this
theorem WH (h:Dg P tb id ti) {ad:Addr} {cs:List Value} (d:cs.length=ti.ty.size) (f:∀(j:Nat) (u:Value),cs[j]?=some u->w.cell? (ad.add j)=some u) :
  (loadVar id ad).run P w=.ok (ti.ty.wrap cs) w:=by
 have k:=λa b=>h.noprod (a:=a) (b:=b);simp only[loadVar,AAF,qR w h,AAh];cases g:ti.ty;case prod a b=>exact absurd g (k a b)
 case agg u =>
  have i:ti.ty.size=cs.length:=d.symm;simp only[Ty.isAgg,AAH,AAF,G6 w h,AAh,i,run_loadCells_list w ad cs f,Ty.wrap];rfl
 all_goals
  rw[g]at d;obtain⟨c,rfl⟩:=AAR.1 d;have e:=f 0 c rfl;rw[Gn]at e;simp[Ty.isAgg,Ty.wrap,e]
theorem G7 (h:Dg P tb id ti) {ad:Addr} {cs:List Value} (b:cs.length=ti.ty.size) (a:∀(j:Nat) (u:Value),cs[j]?=some u->w.cell? (ad.add j)=some u) :
  (Instr.loadAt id (.pointer (some ad))).run P w=.ok (ti.ty.wrap cs) w:=by
 simp[Instr.loadAt,Instr.sureAddr,WH w h b a]
end
end
end Go.Proofs.YtaoonfcjbmcmpaaGreatDoor.Fw
