/- Typed values, how they lie in memory, the executor's words and the table of types: what they mean. -/
import Derived.ProofKit
import Derived.Orders
import Derived.Laws.AppendOwn
import Derived.Laws.MakeOwn
import Derived.Laws.OwnMore
set_option linter.unusedVariables false
set_option linter.unusedSimpArgs false
namespace Go.Proofs.YtddbnflakbngaaaGreatDoor.Fw
theorem a1 {p:Prop} (h:p:=by simp only[go_sem,Nat.reduceEqDiff,reduceCtorEq,Nat.reduceAdd,Nat.reduceSub,Nat.reduceMul,Nat.reduceLeDiff,Nat.reduceLT,Int.reduceLE,Int.reduceToNat,Int.reduceNeg,↓reduceIte];rfl):p:=h
theorem a2 {p:Prop} (h:p:=by simp only;omega):p:=h
theorem a3 {p:Prop} (h:p:=by decide +kernel):p:=h
theorem a4 {p:Prop} (h:p:=by assumption):p:=h
theorem a5 {p:Prop} (h:p:=by kernel_rfl):p:=h
theorem a6:True:=trivial
theorem O1 {p:Prop} (h:p:=by omega):p:=h
theorem sc {p:Prop} (h:p:=by simp):p:=h
theorem dg {p:Prop} (h:p:=by decide):p:=h
variable {u v:Value} {Z W:List Value} {f g:TypeId} {b c n:Nat} {O U:Nat->Prop} {w Y S:World} {h:Option Nat} {a:Option Addr} {X V:Nat->Value} {d:Array Value} {P:Program} {T:Type} {R:Addr}
abbrev AS:=@List.getD_eq_getElem?_getD
abbrev AT:=@List.getElem?_eq_getElem
abbrev An:=@Bool.and_eq_true
abbrev As:=@if_neg
abbrev At:=@if_pos
abbrev BY:=@List.take_of_length_le
abbrev By:=@List.mem_cons
abbrev DO:=@Nat.zero_le
abbrev Do:=@Classical.byContradiction
abbrev GO:=@List.mem_cons_of_mem
abbrev IF:=@List.length_append
abbrev IN:=@List.mem_map
abbrev IS:=@List.mem_append
abbrev If:=@List.length_cons
abbrev Is:=@decide_eq_true_eq
abbrev NO:=@List.drop_eq_nil_of_le
abbrev No:=@Option.map_eq_some_iff
abbrev OF:=@List.all_eq_true
abbrev ON:=@List.foldl_cons
abbrev OR:=@List.length_map
abbrev OS:=@List.drop_eq_getElem_cons
abbrev Of:=@Nat.le_refl
abbrev On:=@List.length_take
abbrev S8:=@Int.toNat_natCast
abbrev TO:=@List.mem_cons_self
abbrev To:=@List.cons_append
abbrev aS:=@List.any_eq_true
abbrev aT:=@List.getElem?_eq_some_iff
abbrev bY:=@decide_eq_false_iff_not
abbrev gO:=@List.map_cons
abbrev iF:=@List.map_congr_left
abbrev iN:=@Nat.le_trans
abbrev iS:=@Go.run_underlying
abbrev lU:=@Bool.not_eq_true'
abbrev nO:=@List.nil_append
abbrev oF:=@List.mem_singleton
abbrev oN:=@Int.ofNat_lt
abbrev oR:=@List.length_singleton
abbrev oS:=@List.pairwise_iff_getElem
abbrev tO:=@List.take_length
abbrev wS:=@List.getElem?_eq_none
abbrev AAd:=@List.getElem?_append_right
abbrev AAh:=@List.mem_append_left
abbrev AAn:=@List.mem_range
abbrev AAo:=@Bool.or_eq_true
abbrev AAp:=@List.append_assoc
abbrev AAq:=@List.mem_iff_getElem
abbrev AAr:=@List.getElem?_append_left
abbrev AAs:=@List.eq_nil_of_length_eq_zero
abbrev AAt:=@List.getElem_mem
abbrev AAu:=@Nat.mul_le_mul_right
abbrev AAv:=@beq_iff_eq
abbrev AAw:=@Int.ofNat_le
abbrev AAx:=@List.length_set
abbrev AAy:=@List.ext_getElem
abbrev AAz:=@Array.getElem?_eq_some_iff
abbrev AAA:=@List.getElem?_take
abbrev AAM:=@Go.Result.andThen_ok
abbrev AAW:=@List.append_nil
abbrev AB3:=@List.pairwise_cons
abbrev ABs:=@Bool.or_eq_false_iff
abbrev ABv:=@List.length_nil
abbrev ABI:=@List.mem_of_mem_take
abbrev ABL:=@List.getElem?_map
abbrev ABQ:=@List.mem_flatMap
abbrev ABV:=@List.range_succ
abbrev ABX:=@List.map_append
abbrev AC0:=@List.map_map
abbrev AC1:=@Array.getElem?_eq_getElem
abbrev AC2:=@List.nodup_cons
abbrev AC3:=@List.mem_iff_getElem?
abbrev AC4:=@congrArg
abbrev AC5:=@List.mem_of_getElem?
abbrev AC6:=@List.pairwise_map
abbrev AC7:=@List.filter_cons
abbrev AC8:=@Int.natCast_nonneg
abbrev AC9:=@List.take_succ_cons
abbrev ACa:=@List.length_take_le
abbrev ACb:=@Nat.lt_of_lt_of_le
abbrev ACc:=@Go.Sem.run_bind
abbrev ACd:=@decide_eq_true
abbrev ACe:=@List.drop_zero
abbrev ACf:=@Nat.zero_add
abbrev ACg:=@List.getElem?_append
abbrev ACh:=@List.getElem?_drop
abbrev ACi:=@List.mem_append_right
abbrev ACj:=@Bool.and_eq_false_iff
abbrev ACk:=@if_true
abbrev ACm:=@List.not_mem_nil
abbrev ACq:=@Option.isNone_iff_eq_none
abbrev ACr:=@List.nodup_append
abbrev ACs:=@List.getElem?_set
abbrev ACz:=@List.length_eq_one_iff
abbrev ACA:=@Int.not_lt
abbrev ACB:=@List.mem_filter
abbrev ACC:=@List.getElem?_range
abbrev ACP:=@Option.getD_some
abbrev ACQ:=@List.take_zero
abbrev ACR:=@Option.some.injEq
abbrev ACS:=@List.map_nil
abbrev ACT:=@Bool.false_eq_true
abbrev ACU:=@List.take_take
abbrev ACV:=@List.mem_or_eq_of_mem_set
abbrev ACW:=@Nat.lt_succ_self
abbrev ACX:=@beq_eq_false_iff_ne
abbrev ACY:=@Int.toNat_of_nonneg
abbrev ACZ:=@Nat.succ_mul
abbrev AD0:=@List.foldl_append
abbrev AD1:=@if_false
abbrev AD2:=@Nat.add_sub_cancel_left
abbrev AD3:=@Int.le_refl
abbrev AD4:=@List.prefix_refl
abbrev AD5:=@List.length_drop
abbrev AD7:=@Int.tdiv_eq_ediv_of_nonneg
abbrev AD8:=@Option.map_some
abbrev AD9:=@Nat.sub_self
abbrev ADa:=@List.singleton_append
abbrev ADb:=@List.length_filter_le
abbrev ADc:=@List.cons.injEq
abbrev ADd:=@Option.isSome_iff_exists
abbrev ADe:=@List.getElem_map
abbrev ADf:=@List.mem_of_mem_drop
abbrev ADg:=@List.getElem?_replicate
abbrev ADh:=@List.all_cons
abbrev ADi:=@Int.le_trans
abbrev ADj:=@Bool.eq_false_iff
abbrev ADk:=@Nat.mul_le_mul_left
abbrev ADl:=@Nat.min_eq_left
abbrev ADm:=@List.flatMap_append
abbrev ADn:=@Bool.eq_iff_iff
abbrev ADo:=@List.getElem?_set_self
abbrev ADp:=@Int.tmod_eq_emod_of_nonneg
abbrev ADq:=@List.countP_cons
abbrev ADr:=@List.take_append_drop
abbrev ADs:=@ByteArray.size_append
abbrev ADt:=@List.mem_take_iff_getElem
abbrev ADu:=@Array.mapM_eq_mapM_toList
abbrev ADv:=@List.pairwise_append
abbrev ADw:=@List.getElem?_set_ne
abbrev ADx:=@Bool.and_eq_true_iff
abbrev ADy:=@BitVec.testBit_toNat
abbrev ADz:=@List.flatMap_cons
abbrev ADB:=@Nat.min_self
abbrev ADC:=@List.getElem?_cons_zero
abbrev ADD:=@Bool.true_and
abbrev ADF:=@List.mem_filterMap
abbrev ADG:=@List.filter_append
abbrev ADH:=@Bool.not_eq_false'
abbrev ADI:=@decide_eq_false
abbrev ADJ:=@List.length_replicate
abbrev ADK:=@List.any_append
abbrev ADL:=@not_true_eq_false
abbrev ADM:=@List.all_eq_false
abbrev ADN:=@Go.World.cell?_of_block
abbrev ADO:=@List.mem_of_find?_eq_some
abbrev ADP:=@List.drop_drop
abbrev ADR:=@List.flatMap_map
abbrev ADT:=@bne_eq_false_iff_eq
abbrev ADU:=@List.map_id'
abbrev ADV:=@List.Pairwise.imp_of_mem
abbrev ADW:=@or_false
abbrev ADX:=@Prod.ext
abbrev ADY:=@Nat.le_antisymm
abbrev ADZ:=@List.getElem_range
abbrev AE0:=@List.filter_nil
abbrev AE1:=@List.all_append
abbrev AE2:=@Bool.or_false
abbrev AE3:=@List.length_pos_of_mem
abbrev AE4:=@bne_iff_ne
abbrev AE5:=@Nat.lt_trichotomy
abbrev AE6:=@Nat.add_mul
abbrev AE7:=@List.take_add_one
abbrev AE8:=@List.length_range
abbrev AE9:=@List.ext_getElem?
abbrev AEb:=@Bool.not_false
abbrev AEc:=@List.set_append_right
abbrev AEd:=@List.eq_nil_iff_forall_not_mem
abbrev AEe:=@List.cons.sizeOf_spec
abbrev AEf:=@decide_eq_decide
abbrev AEg:=@List.exists_mem_of_length_pos
abbrev AEh:=@List.mem_erase_of_ne
abbrev AEi:=@Prod.mk.injEq
abbrev AEj:=@Nat.add_assoc
abbrev AEk:=@Bool.not_true
abbrev AEl:=@Int.not_le
abbrev AEm:=@Nat.and_le_left
abbrev AEn:=@List.drop_succ_cons
abbrev AEo:=@Array.length_toList
abbrev AEp:=@Option.isSome_some
abbrev AEq:=@Nat.lt_of_le_of_lt
abbrev AEr:=@List.zip_cons_cons
abbrev AEs:=@List.set_cons_zero
abbrev AEt:=@List.set_cons_succ
abbrev AEu:=@List.prefix_append
abbrev AEv:=@List.find?_eq_none
abbrev AEw:=@List.countP_append
abbrev AEx:=@Int.toNat_lt
abbrev AEy:=@Int.lt_of_le_of_lt
abbrev AEz:=@Int.add_zero
abbrev AEA:=@Option.some_or
abbrev AEB:=@List.foldl_nil
abbrev AEC:=@not_false_eq_true
abbrev AED:=@Option.ext
abbrev AEE:=@List.any_eq_false
abbrev AEG:=@Nat.succ_ne_zero
abbrev AEH:=@Nat.le_of_not_lt
abbrev AEI:=@List.reverse_nil
abbrev AEJ:=@List.range'_succ
abbrev AEK:=@List.perm_middle
abbrev AEL:=@List.map_flatMap
abbrev AEM:=@List.drop_length
abbrev AEN:=@List.drop_append
abbrev AEO:=@Nat.zero_mul
abbrev AEP:=@List.find?_some
abbrev AER:=@Nat.mod_lt
inductive Ty where
 | int (k:IntKind)
 | bool
 | str
 | slice (e:Ty)
 | prod (a b:Ty)
 | agg (t:Ty)
 
 | ref (k:Nat)
 deriving DecidableEq
def Xm:Nat->Value
 | 0=>.pointer none
 | 1=>.nilFunc
 | 2=>.map none
 | _=>.nilIface
abbrev Ro:Type:=Option (Nat×Option ByteArray)
def Rp (k:Nat):Ro->Value
 | none=>Xm k
 | some (t,none)=>.iface t (.agg #[])
 | some (t,some s)=>.iface t (.agg #[.string s])
def AP:Nat:=140737488355328
def A81 (k:Nat):Ro->Prop
 | none=>True
 | some (_,none)=>k=3
 | some (_,some s)=>k=3/\s.size<=AP
@[reducible] def Ty.den:Ty->Type
 | .int _=>Int
 | .bool=>Bool
 | .str=>ByteArray
 | .slice e=>List e.den
 | .prod a b=>a.den×b.den
 | .agg t=>t.den
 | .ref _=>Ro
def Ty.size:Ty->Nat
 | .prod a b=>a.size+b.size
 | .agg t=>t.size
 | .int _=>1
 | .bool=>1
 | .str=>1
 | .slice _=>1
 | .ref _=>1
def Ty.dflt:(t:Ty)->t.den
 | .int _=>(0:Int)
 | .bool=>false
 | .str=>ByteArray.empty
 | .slice _=>[]
 | .prod a b=>(a.dflt,b.dflt)
 | .agg t=>t.dflt
 | .ref _=>none
def Ty.zero:Ty->List Value
 | .int k=>[.int k 0]
 | .bool=>[.bool false]
 | .str=>[.string ByteArray.empty]
 | .slice _=>[.slice none 0 0]
 | .prod a b=>a.zero++b.zero
 | .agg t=>t.zero
 | .ref k=>[Xm k]
def Ty.wrap:Ty->List Value->Value
 | .agg _,cs=>.agg cs.toArray
 | .prod _ _,cs=>.agg cs.toArray
 | .int _,cs=>cs.headD undef
 | .bool,cs=>cs.headD undef
 | .str,cs=>cs.headD undef
 | .slice _,cs=>cs.headD undef
 | .ref _,cs=>cs.headD undef
def I6 (k:IntKind) (n:Int):Prop:=k.min<=n/\n<=k.max
def B6 (w:World) (O:Nat->Prop):(t:Ty)->List Value->t.den->Prop
 | .int k,cs,d=>cs=[.int k d]/\I6 k d
 | .bool,cs,d=>cs=[.bool d]
 | .str,cs,d=>cs=[.string d]/\ByteArray.size d<=AP
 | .slice e,cs,d=>∃(a:Option Addr) (c:Nat),cs=[.slice a (List.length d) c]/\List.length d<=c/\List.length d<=AP /\
   (d=[]\/∃ad:Addr,a=some ad/\¬O ad.block /\
    ∀(i:Nat) (x:e.den),d[i]?=some x->∃es:List Value,es.length=e.size/\(∀(j:Nat) (v:Value),es[j]?=some v->w.cell? (ad.add (i*e.size+j))=some v)/\B6 w O e es x)
 | .prod a b,cs,d=>∃c1 c2:List Value,cs=c1++c2/\B6 w O a c1 d.1/\B6 w O b c2 d.2
 | .agg t,cs,d=>B6 w O t cs d
 | .ref k,cs,d=>cs=[Rp k d]/\A81 k d
def Bg (w:World) (O:Nat->Prop) (t:Ty) (v:Value) (d:t.den):Prop:=∃cs,B6 w O t cs d/\v=t.wrap cs
theorem CF (a:Addr) (n:Nat):(a.add n).block=a.block:=by unfold Addr.add;split<;>rfl
theorem C6 (a:Addr) (i j:Nat):(a.add i).add j=a.add (i+j):=by
 unfold Addr.add;grind
theorem NY (a:Addr):a.add 0=a:=rfl
theorem U7 (g j:Nat):(⟨g,0,none⟩:Addr).add j=⟨g,j,none⟩:=by
 unfold Addr.add;split<;>simp_all
theorem KB (g i j:Nat):(⟨g,i,none⟩:Addr).add j=⟨g,i+j,none⟩:=by
 unfold Addr.add;split<;>simp_all
theorem Ty.size_pos:∀t:Ty,0<t.size
 | .int _=>by simp[Ty.size]
 | .bool=>by simp[Ty.size]
 | .str=>by simp[Ty.size]
 | .slice _=>by simp[Ty.size]
 | .ref _=>by simp[Ty.size]
 | .prod a b=>by have:=a.size_pos;simp[Ty.size];omega
 | .agg t=>by simpa[Ty.size] using t.size_pos
theorem B6.length {w:World} {O:Nat->Prop}:∀ {t:Ty} {cs:List Value} {d:t.den},B6 w O t cs d->cs.length=t.size
 | .int _,_,_,h=>by obtain⟨rfl,_⟩:=h;rfl
 | .bool,_,_,h=>by have h:_=_:=h;subst h;rfl
 | .str,_,_,h=>by obtain⟨rfl,_⟩:=h;rfl
 | .slice _,_,_,h=>by obtain⟨_,_,rfl,_⟩:=h;rfl
 | .ref _,_,_,h=>by obtain⟨rfl,_⟩:=h;rfl
 | .prod a b,_,_,h=>by
  obtain⟨c1,c2,rfl,h1,c⟩:=h;simp[Ty.size,B6.length h1,B6.length c]
 | .agg t,_,_,h=>by
  have h:B6 w O t _ _:=h;simpa[Ty.size] using B6.length h
theorem U8 (k:Nat) (d:Ro):(Rp k d).oneCell'=true:=by
 match d with
 | some (_,none)=>rfl
 | some (_,some _)=>rfl
 | none=>match k with
  | 0=>rfl
  | 1=>rfl
  | 2=>rfl
  | _+3=>rfl
theorem U9 (k:Nat) (d:Ro):(Rp k d).cells=#[Rp k d]:=by
 match d with
 | some (_,none)=>rfl
 | some (_,some _)=>rfl
 | none=>match k with
  | 0=>rfl
  | 1=>rfl
  | 2=>rfl
  | _+3=>rfl
theorem B6.one {w:World} {O:Nat->Prop}:∀ {t:Ty} {cs:List Value} {d:t.den},B6 w O t cs d->∀v∈cs,v.oneCell'=true
 | .int _,_,_,h=>by obtain⟨rfl,_⟩:=h;simp[Value.oneCell']
 | .bool,_,_,h=>by have h:_=_:=h;subst h;simp[Value.oneCell']
 | .str,_,_,h=>by obtain⟨rfl,_⟩:=h;simp[Value.oneCell']
 | .slice _,_,_,h=>by obtain⟨_,_,rfl,_⟩:=h;simp[Value.oneCell']
 | .ref k,_,d,h=>by
  obtain⟨rfl,_⟩:=h;intro v c;obtain rfl:=oF.1 c;exact U8 k d
 | .prod a b,_,_,h=>by
  obtain⟨c1,c2,rfl,h1,e⟩:=h;intro v c;rcases IS.1 c with c|c
  .exact B6.one h1 v c
  exact B6.one e v c
 | .agg t,_,_,h=>by
  have h:B6 w O t _ _:=h;exact B6.one h
theorem B6.mono {w w':World} {O O':Nat->Prop} (f:∀b,b<w.heap.size->¬O b->¬O' b) (g:∀b,b<w.heap.size->¬O b->w'.heap[b]?=w.heap[b]?) :
  ∀ {t:Ty} {cs:List Value} {d:t.den},B6 w O t cs d->B6 w' O' t cs d
 | .int _,_,_,h=>h
 | .bool,_,_,h=>h
 | .str,_,_,h=>h
 | .ref _,_,_,h=>h
 | .slice e,_,d,h=>by
  obtain⟨a,c,rfl,h1,k,l⟩:=h;refine⟨a,c,rfl,h1,k,?_⟩;rcases l with l|⟨ad,rfl,q,p⟩
  .exact .inl l
  by_cases n:d=[]
  .exact .inl n
  have u:ad.block<w.heap.size:=by
   obtain⟨x,r,rfl⟩:∃x r,d=x :: r:=List.exists_cons_of_ne_nil n;obtain⟨es,o,m,_⟩:=p 0 x rfl;have z:=e.size_pos;have:es[0]?=some (es[0]'(by omega)):=AT O1;have:=block_lt_of_cell (m 0 _ this)
   rwa [CF]at this
  refine .inr ⟨ad,rfl,f _ u q,λi x hi=>?_⟩;obtain⟨es,o,m,y⟩:=p i x hi;refine⟨es,o,λj v s=>?_,B6.mono f g y⟩;rw[ADN (w:=w) (w':=w')]
  .exact m j v s
  grind [CF]
 | .prod a b,_,_,h=>by
  obtain⟨c1,c2,rfl,h1,k⟩:=h;exact⟨c1,c2,rfl,B6.mono f g h1,B6.mono f g k⟩
 | .agg t,_,_,h=>by
  have h:B6 w O t _ _:=h;exact(B6.mono f g h:B6 w' O' t _ _)
theorem Bg.mono {w':World} {O':Nat->Prop} (c:∀b,b<w.heap.size->¬O b->¬O' b) (e:∀b,b<w.heap.size->¬O b->w'.heap[b]?=w.heap[b]?)
  {t:Ty} {v:Value} {d:t.den} (h:Bg w O t v d):Bg w' O' t v d :=
 let ⟨cs,h1,a⟩:=h
 ⟨cs,h1.mono c e,a⟩
theorem B6.zero (w:World) (O:Nat->Prop):∀t:Ty,B6 w O t t.zero t.dflt
 | .int k=>⟨rfl,by cases k<;>exact⟨dg,dg⟩⟩
 | .bool=>rfl
 | .str=>⟨rfl,by simp[Ty.dflt,AP]⟩
 | .slice _=>⟨none,0,rfl,by simp[Ty.dflt],by simp[Ty.dflt,AP],.inl rfl⟩
 | .ref _=>⟨rfl,trivial⟩
 | .prod a b=>⟨_,_,rfl,B6.zero w O a,B6.zero w O b⟩
 | .agg t=>(B6.zero w O t:B6 w O t _ _)
structure PV where
 t:Ty
 d:t.den
def Bh (t:Ty) (p:PV):Option t.den:=if h:p.t=t then some (h▸p.d) else none
theorem Fm (t:Ty) (d:t.den):Bh t ⟨t,d⟩=some d:=by simp[Bh]
def HX:(t:Ty)->Nat->t.den->Option PV
 | .prod a _,0,d=>some ⟨a,d.1⟩
 | .prod _ b,k+1,d=>HX b k d.2
 | .int k,0,d=>some ⟨.int k,d⟩
 | .bool,0,d=>some ⟨.bool,d⟩
 | .str,0,d=>some ⟨.str,d⟩
 | .slice e,0,d=>some ⟨.slice e,d⟩
 | .agg t,0,d=>some ⟨.agg t,d⟩
 | .ref k,0,d=>some ⟨.ref k,d⟩
 | _,_,_=>none
def OA:(t:Ty)->Nat->t.den->PV->Option t.den
 | .prod a _,0,d,x=>(Bh a x).map λy=>(y,d.2)
 | .prod _ b,k+1,d,x=>(OA b k d.2 x).map λy=>(d.1,y)
 | .int k,0,_,x=>Bh (.int k) x
 | .bool,0,_,x=>Bh .bool x
 | .str,0,_,x=>Bh .str x
 | .slice e,0,_,x=>Bh (.slice e) x
 | .agg t,0,_,x=>Bh (.agg t) x
 | .ref k,0,_,x=>Bh (.ref k) x
 | _,_,_,_=>none
def Kq:Ty->Nat->Option Nat
 | .prod _ _,0=>some 0
 | .prod a b,k+1=>(Kq b k).map (a.size + ·)
 | .int _,0=>some 0
 | .bool,0=>some 0
 | .str,0=>some 0
 | .slice _,0=>some 0
 | .agg _,0=>some 0
 | .ref _,0=>some 0
 | _,_=>none
def Zz:Ty->Nat->Option Ty
 | .prod a _,0=>some a
 | .prod _ b,k+1=>Zz b k
 | .int k,0=>some (.int k)
 | .bool,0=>some .bool
 | .str,0=>some .str
 | .slice e,0=>some (.slice e)
 | .agg t,0=>some (.agg t)
 | .ref k,0=>some (.ref k)
 | _,_=>none
def T7:List Nat->(t:Ty)->t.den->Option PV
 | [],t,d=>some ⟨t,d⟩
 | k :: r,.agg t,d=>match HX t k d with
  | some pv=>T7 r pv.t pv.d
  | none=>none
 | _ :: _,_,_=>none
def VA:List Nat->(t:Ty)->t.den->PV->Option t.den
 | [],t,_,x=>Bh t x
 | k :: r,.agg t,d,x=>match HX t k d with
  | some pv=>match VA r pv.t pv.d x with
   | some y=>OA t k d ⟨pv.t,y⟩
   | none=>none
  | none=>none
 | _ :: _,_,_,_=>none
def MM:List Nat->Ty->Option Nat
 | [],_=>some 0
 | k :: r,.agg t=>match Kq t k,Zz t k with
  | some o,some u=>(MM r u).map (o + ·)
  | _,_=>none
 | _ :: _,_=>none
inductive AV where
 
 | p (t:Ty) (d:t.den)
 
 | raw (v:Value)
 
 | sr (n:Nat) (e:Ty) (lo hi:Nat)
 
 | ep (n:Nat) (e:Ty) (i:Nat) (path:List Nat) (off:Nat)
 
 | pc (e:Ty) (d:List e.den)
 
 | ip (t:Ty) (d:t.den)
 
 | bp (n:Nat) (path:List Nat) (off:Nat)
 | fn (f:FuncId)
 
 | clo (f:FuncId) (ns:List Nat)
 
 | mp (n:Nat)
 
 | yl (n:Nat)
 
 | nin (n:Nat) (e:Ty) (i len:Nat)
 
 | ag (l:List AV)
 | tup (l:List AV)
 
 | top
inductive Obj where
 | arr (et:TypeId) (e:Ty) (xs:List e.den)
 | box (et:TypeId) (st:Bool) (fs:List AV)
 
 | mapo (k v:Ty) (l:List (k.den×v.den))
 
 | itr (k v:Ty) (l:List (k.den×v.den)) (left:List Nat) (cur:Option Nat)
 
 | nest (et iet:TypeId) (k e:Ty) (xs:List (k.den×List e.den)) (h:Option Nat)
 
 | frame (tm:Array Value) (fs:List (Nat×AV))
 
 | loop (L:Go.Loop)
 
 | dfr
 
 | sit (s:ByteArray) (pos:Nat)
structure St where
 env:List (Nat×AV)
 objs:List (Nat×Obj)
def lk {α:Type}:Nat->List (Nat×α)->Option α
 | _,[]=>none
 | k,(j,v) :: r=>if k=j then some v else lk k r
def del {α:Type}:Nat->List (Nat×α)->List (Nat×α)
 | _,[]=>[]
 | k,(j,v) :: r=>if k=j then del k r else (j,v) :: del k r
def upd {α:Type}:Nat->α->List (Nat×α)->List (Nat×α)
 | _,_,[]=>[]
 | k,u,(j,v) :: r=>if k=j then (j,u) :: upd k u r else (j,v) :: upd k u r
def sub {α:Type} (xs:List α) (lo hi:Nat):List α:=(xs.drop lo).take (hi-lo)
theorem JB {α:Type} (xs:List α):sub xs 0 xs.length=xs:=by simp[sub]
structure TI where
 ty:Ty
 offs:List (Nat×Nat):=[]
 el:TypeId:=0
 bytes:Nat
inductive RV where
 | p (t:Ty) (d:t.den)
 | own (et:TypeId) (e:Ty) (xs:List e.den)
@[reducible] def Jl:List Ty->Type
 | []=>Unit
 | t :: r=>t.den×Jl r
def Ty.flat:Ty->Bool
 | .slice _=>false
 | .prod a b=>a.flat&&b.flat
 | .agg t=>t.flat
 | .int _=>true
 | .bool=>true
 | .str=>true
 | .ref _=>true
def RV.flat:RV->Bool
 | .p t _=>t.flat
 | .own _ _ _=>false
structure Ab where
 ins:List Ty
 lend:Bool:=false
 pre:Jl ins->Prop
 out:Jl ins->List RV
structure Tb where
 ty:List (Nat×TI)
 fns:List (Nat×Ab)
 
 pure:List Nat:=[]
 
 nests:List (Nat×TypeId):=[]
 
 live:List Nat:=[]
def inB (n:Nat):List Nat->Bool
 | []=>false
 | m :: r=>if n=m then true else inB n r
def Hs:Value->AV
 | .int k n=>if k.min<=n/\n<=k.max then .p (.int k) n else .raw (.int k n)
 | .bool b=>.p .bool b
 | .string s=>if s.size<=AP then .p .str s else .raw (.string s)
 | v=>.raw v
def Al (σ:St):Operand->Option AV
 | .tmp t=>lk t σ.env
 | .const v=>some (Hs v)
 | .func f=>some (.fn f)
 | .global _=>none
def Pv (e:Ty) (lo hi:Nat):Option Obj->Option (List e.den)
 | some (.arr _ a xs)=>Bh (.slice e) ⟨.slice a,sub xs lo hi⟩
 | some (.nest _ _ k a xs none)=>Bh (.slice e) ⟨.slice (.agg (.prod k (.slice a))),sub xs lo hi⟩
 | _=>none
def Rq (e:Ty) (i:Nat):Option Obj->Option (List e.den)
 | some (.nest _ _ k a xs none)=>Bh (.slice e) ⟨.slice a,(xs.getD i (k.dflt,[])).2⟩
 | _=>none
def FH (l:Bool) (σ:St):(t:Ty)->AV->Option t.den
 | t,.p u d=>Bh t ⟨u,d⟩
 | .slice e,.sr n a lo hi=>if l=true/\a=e then Pv e lo hi (lk n σ.objs) else none
 | .slice e,.nin n a i _=>if l=true/\a=e then Rq e i (lk n σ.objs) else none
 | .slice _,.raw (.slice none 0 0)=>some []
 | _,_=>none
def MN {α β:Type}:Option α->Option β->Option (α×β)
 | some a,some b=>some (a,b)
 | _,_=>none
def Kr (l:Bool) (σ:St):List AV->(t:Ty)->Option t.den
 | [],_=>none
 | [x],t=>FH l σ t x
 | x :: y :: r,.prod a b=>MN (FH l σ a x) (Kr l σ (y :: r) b)
 | _ :: _ :: _,_=>none
def JC (l:Bool) (σ:St):(t:Ty)->AV->Option t.den
 | .agg t,.ag fs=>Kr l σ fs t
 | t,x=>FH l σ t x
def Ai (n:Nat):List Nat->Bool
 | []=>false
 | m :: r=>if n=m then true else Ai n r
theorem A0 (n:Nat):∀l:List Nat,Ai n l=true↔n∈l
 | []=>by simp[Ai]
 | m :: r=>by
  simp only[Ai,By];split
  .rename_i h;simp[h]
  rename_i h;simp[h,A0 n r]
mutual
def AV.fgt (hs:List Nat):AV->AV
 | .sr m e lo hi=>if Ai m hs=true then .top else .sr m e lo hi
 | .ep m e i path off=>if Ai m hs=true then .top else .ep m e i path off
 | .nin m e i len=>if Ai m hs=true then .top else .nin m e i len
 | .bp m path off=>if Ai m hs=true then .top else .bp m path off
 | .mp m=>if Ai m hs=true then .top else .mp m
 | .yl m=>if Ai m hs=true then .top else .yl m
 | .clo f ns=>if (ns.any λn=>Ai n hs)=true then .top else .clo f ns
 | .ag l=>.ag (AV.fgts hs l)
 | .tup l=>.tup (AV.fgts hs l)
 | .p t d=>.p t d
 | .pc e d=>.pc e d
 | .raw v=>.raw v
 | .ip t d=>.ip t d
 | .fn f=>.fn f
 | .top=>.top
def AV.fgts (hs:List Nat):List AV->List AV
 | []=>[]
 | x :: r=>AV.fgt hs x :: AV.fgts hs r
end
def Cv (hs:List Nat):List (Nat×AV)->List (Nat×AV)
 | []=>[]
 | (s,x) :: r=>(s,x.fgt hs) :: Cv hs r
def Obj.fgt (hs:List Nat):Obj->Obj
 | .arr et e xs=>.arr et e xs
 | .box et st fs=>.box et st (AV.fgts hs fs)
 | .mapo k v l=>.mapo k v l
 | .nest et b k e xs h=>.nest et b k e xs h
 | .frame i fs=>.frame i (Cv hs fs)
 | .loop L=>.loop L
 | .itr c g d f a=>.itr c g d f a
 | .dfr=>.dfr
 | .sit sb sp=>.sit sb sp
def A6 (a hs:List Nat):List (Nat×Obj)->List (Nat×Obj)
 | []=>[]
 | (n,o) :: r=>if Ai n a=true then A6 a hs r else (n,o.fgt hs) :: A6 a hs r
mutual
def AV.trn (n:Nat) (hs:List Nat):AV->AV
 | .nin m e i len=>if m=n\/Ai m hs=true then .top else .nin m e i len
 | .sr m e lo hi=>if Ai m hs=true then .top else .sr m e lo hi
 | .ep m e i path off=>if Ai m hs=true then .top else .ep m e i path off
 | .bp m path off=>if Ai m hs=true then .top else .bp m path off
 | .mp m=>if Ai m hs=true then .top else .mp m
 | .yl m=>if Ai m hs=true then .top else .yl m
 | .clo f ns=>if (ns.any λn=>Ai n hs)=true then .top else .clo f ns
 | .ag l=>.ag (AV.trns n hs l)
 | .tup l=>.tup (AV.trns n hs l)
 | .p t d=>.p t d
 | .pc e d=>.pc e d
 | .raw v=>.raw v
 | .ip t d=>.ip t d
 | .fn f=>.fn f
 | .top=>.top
def AV.trns (n:Nat) (hs:List Nat):List AV->List AV
 | []=>[]
 | x :: r=>AV.trn n hs x :: AV.trns n hs r
end
def EZ (n:Nat) (hs:List Nat):List (Nat×AV)->List (Nat×AV)
 | []=>[]
 | (s,x) :: r=>(s,x.trn n hs) :: EZ n hs r
def Obj.trn (n:Nat) (hs:List Nat):Obj->Obj
 | .arr et e xs=>.arr et e xs
 | .box et st fs=>.box et st (AV.trns n hs fs)
 | .mapo k v l=>.mapo k v l
 | .nest et b k e xs h=>.nest et b k e xs h
 | .frame i fs=>.frame i (EZ n hs fs)
 | .loop L=>.loop L
 | .itr c g d f a=>.itr c g d f a
 | .dfr=>.dfr
 | .sit sb sp=>.sit sb sp
def Cw (n:Nat) (hs:List Nat):List (Nat×Obj)->List (Nat×Obj)
 | []=>[]
 | (m,o) :: r=>if Ai m (n :: hs)=true then Cw n hs r else (m,o.trn n hs) :: Cw n hs r
def C7:Option Obj->Bool
 | some (.nest _ _ _ _ _ _)=>true
 | _=>false
def Pw (σ:St) (e:Ty):AV->Option (List e.den)
 | .sr n a lo hi=>if C7 (lk n σ.objs)=true then none else JC true σ (.slice e) (.sr n a lo hi)
 | x=>JC true σ (.slice e) x
def AK (x y:ByteArray):Bool:=x.toList==y.toList
def CP (x y:ByteArray):Bool:=Op.bytesLess x.toList y.toList
def C2 (op:BinOp) (k:IntKind) (x y:Int):Int :=
 k.wrap (match op with
  | .and=>((BitVec.ofInt k.bits x &&& BitVec.ofInt k.bits y).toNat:Int)
  | .or=>((BitVec.ofInt k.bits x ||| BitVec.ofInt k.bits y).toNat:Int)
  | .xor=>((BitVec.ofInt k.bits x ^^^ BitVec.ofInt k.bits y).toNat:Int)
  | _=>((BitVec.ofInt k.bits x &&& ~~~BitVec.ofInt k.bits y).toNat:Int))
def Z0 (k:IntKind) (x y:Int):Int:=k.wrap (x*2 ^ (min y.toNat k.bits))
def eG (k:IntKind) (x y:Int):Int:=x.fdiv (2 ^ (min y.toNat k.bits))
def lZ (k:IntKind) (a b:Int):BinOp->Prop×AV
 | .add=>(I6 k (a+b),.p (.int k) (a+b))
 | .sub=>(I6 k (a-b),.p (.int k) (a-b))
 | .mul=>(I6 k (a*b),.p (.int k) (a*b))
 | .quo=>(b≠0/\I6 k (a.tdiv b),.p (.int k) (a.tdiv b))
 | .rem=>(b≠0/\I6 k (a.tmod b),.p (.int k) (a.tmod b))
 | .and=>(True,.p (.int k) (C2 .and k a b))
 | .or=>(True,.p (.int k) (C2 .or k a b))
 | .xor=>(True,.p (.int k) (C2 .xor k a b))
 | .andNot=>(True,.p (.int k) (C2 .andNot k a b))
 | .shl=>(False,.top)
 | .shr=>(False,.top)
 | .eql=>(True,.p .bool (a==b))
 | .neq=>(True,.p .bool (a != b))
 | .lss=>(True,.p .bool (decide (a<b)))
 | .leq=>(True,.p .bool (decide (a<=b)))
 | .gtr=>(True,.p .bool (decide (b<a)))
 | .geq=>(True,.p .bool (decide (b<=a)))
def Xn (a b:ByteArray):BinOp->Prop×AV
 | .add=>(a.size+b.size<=AP,.p .str (a++b))
 | .eql=>(True,.p .bool (AK a b))
 | .neq=>(True,.p .bool (!AK a b))
 | .lss=>(True,.p .bool (CP a b))
 | .leq=>(True,.p .bool (CP a b||AK a b))
 | .gtr=>(True,.p .bool (!(CP a b||AK a b)))
 | .geq=>(True,.p .bool (!CP a b))
 | _=>(False,.top)
def bin (op:BinOp) (k:IntKind) (a:Int) (c:IntKind) (b:Int):Prop×AV :=
 match op with
 | .shl=>(0<=b,.p (.int k) (Z0 k a b))
 | .shr=>(0<=b/\I6 k (eG k a b),.p (.int k) (eG k a b))
 | op=>if k=c then lZ k a b op else (False,.top)
def qR:Ty->AV
 | .slice _=>.raw (.slice none 0 0)
 | .ref k=>.raw (Xm k)
 | t=>.p t t.dflt
def zfs:Ty->List AV
 | .prod a b=>qR a :: zfs b
 | t=>[qR t]
def zfx:Bool->Ty->AV
 | true,.agg u=>.ag (zfs u)
 | _,t=>qR t
def T8 (b:Bool):Ty->List AV
 | .prod a c=>zfx b a :: T8 b c
 | t=>[zfx b t]
def pfs:(t:Ty)->t.den->List AV
 | .prod a b,d=>.p a d.1 :: pfs b d.2
 | .int k,d=>[.p (.int k) d]
 | .bool,d=>[.p .bool d]
 | .str,d=>[.p .str d]
 | .slice e,d=>[.p (.slice e) d]
 | .agg t,d=>[.p (.agg t) d]
 | .ref k,d=>[.p (.ref k) d]
mutual
def AV.cells:AV->Nat
 | .p t _=>t.size
 | .ag l=>AV.cellss l
 | .tup _=>0
 | .raw _=>1
 | .sr _ _ _ _=>1
 | .ep _ _ _ _ _=>1
 | .pc _ _=>1
 | .ip _ _=>1
 | .bp _ _ _=>1
 | .fn _=>1
 | .clo _ _=>1
 | .mp _=>1
 | .yl _=>1
 | .nin _ _ _ _=>1
 | .top=>1
def AV.cellss:List AV->Nat
 | []=>0
 | x :: r=>x.cells+AV.cellss r
end
def CT:List AV->Nat->Nat
 | _,0=>0
 | [],_+1=>0
 | x :: r,k+1=>x.cells+CT r k
def FE:Bool->List AV->List Nat->Option AV
 | st,fs,[]=>if st then some (.ag fs) else fs[0]?
 | st,fs,[k]=>if st then fs[k]? else none
 | st,fs,k :: r=>if st then match fs[k]? with
   | some (.p t d)=>(T7 r t d).map λpv=>.p pv.t pv.d
   | some (.ag l)=>FE true l r
   | _=>none
  else none
def Jm:List AV->List Nat->Option Nat
 | _,[]=>some 0
 | fs,k :: r=>match fs[k]? with
  | some (.p t _)=>(MM r t).map (CT fs k + ·)
  | some (.ag l)=>(Jm l r).map (CT fs k + ·)
  | some _=>if r.isEmpty then some (CT fs k) else none
  | none=>none
def Ty.cell1:Ty->Bool
 | .agg _=>false
 | .prod _ _=>false
 | .int _=>true
 | .bool=>true
 | .str=>true
 | .slice _=>true
 | .ref _=>true
def CW (ty:Ty):AV->Bool
 | .p t _=>ty=t
 | .ag l=>match ty with|.agg t=>CT l l.length==t.size|_=>false
 | .tup _=>false
 | .top=>false
 | .raw u=>u.oneCell'&&ty.cell1
 | _=>ty.cell1
def OK (ty:Ty):AV->Bool
 | .top=>ty.cell1
 | x=>CW ty x
def G9 (n:Nat):Bool:=decide (1000000<=n)
mutual
def AV.frz (n:Nat) (e:Ty) (xs:List e.den):AV->AV
 | .sr m e' lo hi=>if m=n then (if e'=e then .p (.slice e) (sub xs lo hi) else .top) else .sr m e' lo hi
 | .ep m e' i path off=>if m=n then .top else .ep m e' i path off
 | .nin m e' i len=>if m=n then .top else .nin m e' i len
 | .ag l=>.ag (AV.frzs n e xs l)
 | .tup l=>.tup (AV.frzs n e xs l)
 | .p t d=>.p t d
 | .pc e d=>.pc e d
 | .raw v=>.raw v
 | .ip t d=>.ip t d
 | .bp m path off=>.bp m path off
 | .fn f=>.fn f
 | .clo f ns=>.clo f ns
 | .mp n=>.mp n
 | .yl n=>.yl n
 | .top=>.top
def AV.frzs (n:Nat) (e:Ty) (xs:List e.den):List AV->List AV
 | []=>[]
 | x :: r=>AV.frz n e xs x :: AV.frzs n e xs r
end
def Dg (n:Nat) (e:Ty) (xs:List e.den):List (Nat×AV)->List (Nat×AV)
 | []=>[]
 | (s,x) :: r=>(s,x.frz n e xs) :: Dg n e xs r
def BG (n:Nat) (e:Ty) (xs:List e.den):List (Nat×Obj)->List (Nat×Obj)
 | []=>[]
 | (m,.arr et a ys) :: r=>(m,.arr et a ys) :: BG n e xs r
 | (m,.box et st fs) :: r=>(m,.box et st (AV.frzs n e xs fs)) :: BG n e xs r
 | (m,.mapo k v l) :: r=>(m,.mapo k v l) :: BG n e xs r
 | (m,.nest et c k a ys h) :: r=>(m,.nest et c k a ys h) :: BG n e xs r
 | (m,.frame j fs) :: r=>(m,.frame j (Dg n e xs fs)) :: BG n e xs r
 | (m,.loop L) :: r=>(m,.loop L) :: BG n e xs r
 | (m,.itr d i f g b) :: r=>(m,.itr d i f g b) :: BG n e xs r
 | (m,.dfr) :: r=>(m,.dfr) :: BG n e xs r
 | (m,.sit sb sp) :: r=>(m,.sit sb sp) :: BG n e xs r
def l0 (n:Nat) (σ:St):Option Obj->St
 | some (.arr _ e xs)=>⟨Dg n e xs σ.env,BG n e xs (del n σ.objs)⟩
 | some (.nest _ _ k e xs none)=>⟨Dg n (.agg (.prod k (.slice e))) xs σ.env,BG n (.agg (.prod k (.slice e))) xs (del n σ.objs)⟩
 | _=>σ
def frz (n:Nat) (σ:St):St:=if G9 n=true then σ else l0 n σ (lk n σ.objs)
mutual
def AV.drp (n:Nat):AV->AV
 | .sr m e' lo hi=>if m=n then .top else .sr m e' lo hi
 | .ep m e' i path off=>if m=n then .top else .ep m e' i path off
 | .nin m e' i len=>if m=n then .top else .nin m e' i len
 | .ag l=>.ag (AV.drps n l)
 | .tup l=>.tup (AV.drps n l)
 | .p t d=>.p t d
 | .pc e d=>.pc e d
 | .raw v=>.raw v
 | .ip t d=>.ip t d
 | .bp m path off=>.bp m path off
 | .fn f=>.fn f
 | .clo f ns=>.clo f ns
 | .mp n=>.mp n
 | .yl n=>.yl n
 | .top=>.top
def AV.drps (n:Nat):List AV->List AV
 | []=>[]
 | x :: r=>AV.drp n x :: AV.drps n r
end
def F7 (n:Nat):List (Nat×AV)->List (Nat×AV)
 | []=>[]
 | (s,x) :: r=>(s,x.drp n) :: F7 n r
def Bj (n:Nat):List (Nat×Obj)->List (Nat×Obj)
 | []=>[]
 | (m,.arr et a ys) :: r=>(m,.arr et a ys) :: Bj n r
 | (m,.box et st fs) :: r=>(m,.box et st (AV.drps n fs)) :: Bj n r
 | (m,.mapo k v l) :: r=>(m,.mapo k v l) :: Bj n r
 | (m,.nest et c k a ys h) :: r=>(m,.nest et c k a ys h) :: Bj n r
 | (m,.frame i fs) :: r=>(m,.frame i (F7 n fs)) :: Bj n r
 | (m,.loop L) :: r=>(m,.loop L) :: Bj n r
 | (m,.itr d g e f b) :: r=>(m,.itr d g e f b) :: Bj n r
 | (m,.dfr) :: r=>(m,.dfr) :: Bj n r
 | (m,.sit sb sp) :: r=>(m,.sit sb sp) :: Bj n r
mutual
def AV.names:AV->List Nat
 | .sr m _ _ _=>[m]
 | .ag l=>AV.namess l
 | .tup l=>AV.namess l
 | .p _ _=>[]
 | .pc _ _=>[]
 | .raw _=>[]
 | .ip _ _=>[]
 | .bp _ _ _=>[]
 | .ep _ _ _ _ _=>[]
 | .nin _ _ _ _=>[]
 | .fn _=>[]
 | .clo _ _=>[]
 | .mp _=>[]
 | .yl _=>[]
 | .top=>[]
def AV.namess:List AV->List Nat
 | []=>[]
 | x :: r=>x.names++AV.namess r
end
def HA (σ:St):Option Operand->Option (Option AV)
 | none=>some none
 | some x=>(Al σ x).map some
def FI (σ:St) (e:Ty):Nat->List (Nat×Operand)->Option (List e.den)
 | _,[]=>some []
 | k,(i,x) :: r=>if i=k then match Al σ x with
   | some av=>match JC false σ e av,FI σ e (k+1) r with
    | some y,some ys=>some (y :: ys)
    | _,_=>none
   | none=>none
  else none
def JD:AV->Bool
 | .p (.prod _ _) _=>false
 | .p _ _=>true
 | .raw u=>u.oneCell'
 | .ag _=>false
 | .tup _=>false
 | .top=>false
 | _=>true
def F8 (σ:St):Option AV->Option AV->Option AV
 | some (.p t _),some (.ag l)=>(JC false σ t (.ag l)).map λd=>.p t d
 | _,x=>x
def D2 (σ:St) (offs:List (Nat×Nat)):List AV->List (Nat×Operand)->Option (List AV)
 | fs,[]=>some fs
 | fs,(i,x) :: r=>match F8 σ fs[i]? (Al σ x) with
  | some av=>if JD av=true/\(fs[i]?.map AV.cells)=some av.cells/\offs[i]?=some (CT fs i,av.cells) then D2 σ offs (fs.set i av) r else none
  | none=>none
def GX (l:Bool) (σ:St):(ts:List Ty)->List Operand->Option (Jl ts)
 | [],[]=>some ()
 | t :: ts,x :: xs=>match Al σ x with
  | some av=>match JC l σ t av,GX l σ ts xs with
   | some y,some ys=>some (y,ys)
   | _,_=>none
  | none=>none
 | _,_=>none
def eH (name:Nat):RV->AV
 | .p t d=>.p t d
 | .own _ e xs=>.sr name e 0 xs.length
def S9 (name:Nat):RV->List (Nat×Obj)
 | .p _ _=>[]
 | .own et e xs=>[(name,.arr et e xs)]
def IC:Nat->List RV->List AV
 | _,[]=>[]
 | n,r :: l=>eH n r :: IC (n+10000) l
def C8:Nat->List RV->List (Nat×Obj)
 | _,[]=>[]
 | n,r :: l=>S9 n r++C8 (n+10000) l
def Hk (name:Nat):List RV->AV
 | []=>.raw (.tuple #[])
 | [r]=>eH name r
 | l=>.tup (IC name l)
def Ht:(t:Ty)->t.den->t.den->Bool
 | .int _,a,b=>(a:Int)==b
 | .bool,a,b=>(a:Bool)==b
 | .str,a,b=>(a:ByteArray)==b
 | .prod t u,a,b=>Ht t a.1 b.1&&Ht u a.2 b.2
 | .agg t,a,b=>Ht t a b
 | .slice _,_,_=>false
 | .ref _,_,_=>false
def l6:Ty->Bool
 | .prod (.int _) (.int _)=>true
 | _=>false
def Xo:Ty->Bool
 | .int _=>true
 | .bool=>true
 | .str=>true
 | .prod _ _=>false
 | .agg t=>l6 t
 | .slice _=>false
 | .ref _=>false
def Bc (a b:Ty) (k:a.den):List (a.den×b.den)->Option b.den
 | []=>none
 | x :: r=>if Ht a k x.1=true then some x.2 else Bc a b k r
def Fd (a b:Ty) (k:a.den) (v:b.den):List (a.den×b.den)->List (a.den×b.den)
 | []=>[(k,v)]
 | x :: r=>if Ht a k x.1=true then (k,v) :: r else x :: Fd a b k v r
abbrev Bl:=Option (Prop×AV×List (Nat×Obj))
def ID (x:AV) (lo hi:Option AV):Bl :=
 match x,lo,hi with
 | .p (.slice e) l,none,some (.p (.int _) h)=>some (0<=h/\h<=l.length,.p (.slice e) (sub l 0 h.toNat),[])
 | .p (.slice e) l,some (.p (.int _) a),none=>some (0<=a/\a<=l.length,.p (.slice e) (sub l a.toNat l.length),[])
 | .p (.slice e) l,some (.p (.int _) a),some (.p (.int _) h)=>some (0<=a/\a<=h/\h<=l.length,.p (.slice e) (sub l a.toNat h.toNat),[])
 | .p .str s,none,some (.p (.int _) h)=>some (0<=h/\h<=s.size,.p .str (s.extract 0 h.toNat),[])
 | .p .str s,some (.p (.int _) a),none=>some (0<=a/\a<=s.size,.p .str (s.extract a.toNat s.size),[])
 | .p .str s,some (.p (.int _) a),some (.p (.int _) h)=>some (0<=a/\a<=h/\h<=s.size,.p .str (s.extract a.toNat h.toNat),[])
 | .sr n e b c,none,some (.p (.int _) h)=>some (0<=h/\h<=(c-b:Nat),.sr n e b (b+h.toNat),[])
 | .sr n e b c,some (.p (.int _) a),none=>some (0<=a/\a<=(c-b:Nat),.sr n e (b+a.toNat) c,[])
 | .sr n e b c,some (.p (.int _) a),some (.p (.int _) h)=>some (0<=a/\a<=h/\h<=(c-b:Nat),.sr n e (b+a.toNat) (b+h.toNat),[])
 | _,_,_=>none
def HB:Option AV->Bl
 | some v=>some (True,v,[])
 | none=>none
def Ls:Option AV->Option AV->Option AV->Bl
 | some (.p .bool true),x,_=>HB x
 | some (.p .bool false),_,y=>HB y
 | _,_,_=>none
def Ks (a:Bool) (d:Nat) (t:TypeId):Option TI->Bl
 | some ⟨.agg u,_,_,_⟩=>some (True,.bp d [] 0,[(d,.box t true (T8 a u))])
 | some ⟨.int k,_,_,_⟩=>some (True,.bp d [] 0,[(d,.box t false [qR (.int k)])])
 | some ⟨.bool,_,_,_⟩=>some (True,.bp d [] 0,[(d,.box t false [qR .bool])])
 | some ⟨.str,_,_,_⟩=>some (True,.bp d [] 0,[(d,.box t false [qR .str])])
 | some ⟨.slice e,_,_,_⟩=>some (True,.bp d [] 0,[(d,.box t false [qR (.slice e)])])
 | some ⟨.ref k,_,_,_⟩=>some (True,.bp d [] 0,[(d,.box t false [qR (.ref k)])])
 | _=>none
def UA (d:Nat) (t:TypeId):Option TI->Option AV->Bl
 | some ⟨.agg u,_,_,_⟩,some (.p (.agg a) v)=>if u=a then some (True,.bp d [] 0,[(d,.box t true (pfs a v))]) else none
 | some ⟨.agg u,_,_,_⟩,some (.ag l)=>if l.map AV.cells=(zfs u).map AV.cells then some (True,.bp d [] 0,[(d,.box t true l)]) else none
 | some ⟨.int k,_,_,_⟩,some v=>if CW (.int k) v then some (True,.bp d [] 0,[(d,.box t false [v])]) else none
 | some ⟨.bool,_,_,_⟩,some v=>if CW .bool v then some (True,.bp d [] 0,[(d,.box t false [v])]) else none
 | some ⟨.str,_,_,_⟩,some v=>if CW .str v then some (True,.bp d [] 0,[(d,.box t false [v])]) else none
 | some ⟨.slice e,_,_,_⟩,some v=>if CW (.slice e) v then some (True,.bp d [] 0,[(d,.box t false [v])]) else none
 | some ⟨.ref k,_,_,_⟩,some v=>if CW (.ref k) v then some (True,.bp d [] 0,[(d,.box t false [v])]) else none
 | _,_=>none
def Jn (a:Bool) (σ:St) (parts:List (Nat×Operand)):Option TI->Bl
 | some ⟨.agg u,offs,_,_⟩=>HB ((D2 σ offs (T8 a u) parts).map AV.ag)
 | _=>none
def B1 (a:Bool) (d:Nat) (n:Nat) (el:TypeId) (e:Ty):Option (List e.den)->Bl
 | some xs=>some (xs.length=n/\n*e.size<=16777216,if a then .p (.slice e) xs else .sr d e 0 n,if a then [] else [(d,.arr el e xs)])
 | none=>none
def Bu (a:Bool) (σ:St) (d:Nat) (n:Nat) (parts:List (Nat×Operand)):Option TI->Bl
 | some ⟨.slice e,_,el,_⟩=>B1 a d n el e (FI σ e 0 parts)
 | _=>none
def Kt (d:Nat) (el b:TypeId) (n:Nat) (k e:Ty):Option k.den->AV->Bl
 | some a,.raw (.slice none 0 0)=>some (n=1/\k.size+1<=16777216,.sr d (.agg (.prod k (.slice e))) 0 1,[(d,.nest el b k e [(a,[])] none)])
 | some a,.pc c l=>if c=e then some ((n=1/\k.size+1<=16777216)/\List.length l=0,.sr d (.agg (.prod k (.slice e))) 0 1,[(d,.nest el b k e [(a,[])] none)]) else none
 | _,_=>none
def Jo (σ:St) (d:Nat) (el a:TypeId) (n:Nat):Ty->Option AV->Bl
 | .agg (.prod k (.slice e)),some (.ag [x,y])=>Kt d el a n k e (FH false σ k x) y
 | _,_=>none
def Jp (σ:St) (d:Nat) (a:TypeId) (n:Nat):List (Nat×Operand)->Option TI->Bl
 | [(0,x)],some ⟨.slice t,_,el,_⟩=>Jo σ d el a n t (Al σ x)
 | _,_=>none
def G2 (tb:Tb) (σ:St) (d:Nat) (n:Nat) (parts:List (Nat×Operand)) (ti:Option TI):Option TypeId->Bl
 | some a=>Jp σ d a n parts ti
 | none=>Bu (inB d tb.pure) σ d n parts ti
def JE (ty:Ty) (fs:List AV) (a:List Nat) (off:Nat):Option AV->Bl
 | some v=>if CW ty v=true/\Jm fs a=some off then some (True,v,[]) else none
 | none=>none
def Ea (ty:Ty) (a:List Nat) (off:Nat):Option Obj->Bl
 | some (.box _ st fs)=>JE ty fs a off (FE st fs a)
 | _=>none
def JF (ty e:Ty) (a:List Nat) (off:Nat):Option PV->Bl
 | some ⟨t,d⟩=>if ty=t/\MM a e=some off then some (True,.p t d,[]) else none
 | none=>none
def JG (ty e:Ty) (i:Nat) (a:List Nat) (off:Nat):Option (List e.den)->Bl
 | some ys=>JF ty e a off (T7 a e (ys.getD i e.dflt))
 | none=>none
def Ot (n:Nat) (ty:Ty) (i off:Nat) (k e:Ty) (x:k.den×List e.den):List Nat->Bl
 | [0]=>if ty=k/\off=0 then some (True,.p k x.1,[]) else none
 | [1]=>if ty=.slice e/\off=k.size then some (True,.nin n e i x.2.length,[]) else none
 | _=>none
def Eb (n:Nat) (ty e:Ty) (i:Nat) (b:List Nat) (off:Nat):Option Obj->Bl
 | some (.arr _ a xs)=>JG ty e i b off (Bh (.slice e) ⟨.slice a,xs⟩)
 | some (.nest _ _ k a xs none)=>if e=.agg (.prod k (.slice a)) then Ot n ty i off k a (xs.getD i (k.dflt,[])) b else none
 | _=>none
def KC (σ:St):Option TI->Option AV->Bl
 | some ti,some (.bp n a off)=>Ea ti.ty a off (lk n σ.objs)
 | some ti,some (.ep n e i a off)=>Eb n ti.ty e i a off (lk n σ.objs)
 | some ti,some (.ip u v)=>if ti.ty=u then some (True,.p u v,[]) else none
 | _,_=>none
def JH (o:Option (Nat×Nat)) (a:Option Nat):Option PV->Bl
 | some ⟨t,d⟩=>if o.map (·.1)=a then some (True,.ip t d,[]) else none
 | none=>none
def VB (v:Nat->AV):Option (Nat×Nat)->Bl
 | some (k,_)=>some (True,v k,[])
 | none=>none
def P0 (f:Nat) (o:Option (Nat×Nat)):AV->Bl
 | .bp n a off=>VB (λk=>.bp n (a++[f]) (off+k)) o
 | .ep n e i a off=>VB (λk=>.ep n e i (a++[f]) (off+k)) o
 | .ip (.agg u) v=>JH o (Kq u f) (HX u f v)
 | _=>none
def HY (f:Nat):Option TI->Option AV->Bl
 | some ⟨.agg _,offs,0,_⟩,some x=>P0 f offs[f]? x
 | _,_=>none
def Ku (offs:List (Nat×Nat)) (x:AV):AV->Bl
 | .p (.int _) k=>if 0<=k then P0 k.toNat offs[k.toNat]? x else none
 | _=>none
def F9:Option TI->Option AV->Option AV->Bl
 | some ⟨.slice e,_,_,_⟩,some (.p (.slice a) l),some (.p (.int _) k)=>if e=a then some (0<=k/\k<l.length,.ip a (l.getD k.toNat a.dflt),[]) else none
 | some ⟨.slice e,_,_,_⟩,some (.sr n a lo hi),some (.p (.int _) k)=>if e=a then some (0<=k/\k<(hi-lo:Nat),.ep n a (lo+k.toNat) [] 0,[]) else none
 | some ⟨.agg _,offs,_+1,_⟩,some x,some i=>Ku offs x i
 | _,_,_=>none
def Ee:Option TI->Option AV->Option AV->Bl
 | some ⟨.str,_,_,_⟩,some (.p .str s),some (.p (.int _) k)=>some (0<=k/\k<s.size,.p (.int .u8) ((s.data.getD k.toNat 0).toNat:Int),[])
 | _,_,_=>none
def VC:Option AV->Bl
 | some (.bp n a off)=>some (True,.bp n a off,[])
 | some (.ip t v)=>some (True,.ip t v,[])
 | some (.ep n e i a off)=>some (True,.ep n e i a off,[])
 | _=>none
def l7 (a b:Bool):BinOp->Bl
 | .eql=>some (True,.p .bool (a==b),[])
 | .neq=>some (True,.p .bool (a != b),[])
 | _=>none
def TA:Option TI->Bool
 | some ⟨.bool,_,_,_⟩=>true
 | _=>false
def Rr (op:BinOp) (ti:Option TI):Option AV->Option AV->Bl
 | some (.p (.int k) a),some (.p (.int c) b)=>some ((bin op k a c b).1,(bin op k a c b).2,[])
 | some (.p .str a),some (.p .str b)=>some ((Xn a b op).1,(Xn a b op).2,[])
 | some (.p .bool a),some (.p .bool b)=>if TA ti=true then l7 a b op else none
 | _,_=>none
def qUn:UnOp->Option AV->Bl
 | .not,some (.p .bool b)=>some (True,.p .bool (!b),[])
 | .neg,some (.p (.int k) a)=>some (I6 k (0-a),.p (.int k) (0-a),[])
 | _,_=>none
def TB (l:List Int):ByteArray:=⟨(l.map λx=>UInt8.ofNat x.toNat).toArray⟩
def KD:Option TI->Option TI->Option AV->Bl
 | some ⟨.int _,_,_,_⟩,some ⟨.int k,_,_,_⟩,some (.p (.int _) a)=>some (I6 k a,.p (.int k) a,[])
 | some ⟨.slice (.int .u8),_,_,_⟩,some ⟨.str,_,_,_⟩,some (.p (.slice (.int .u8)) l)=>some (True,.p .str (TB l),[])
 | _,_,_=>none
def MO (d:Nat) (el:TypeId) (e:Ty) (n m:Int):Option TI->Bl
 | some ti=>some (n=m/\0<=n/\n.toNat*ti.bytes<=AP,.sr d e 0 n.toNat,[(d,.arr el e (List.replicate n.toNat e.dflt))])
 | none=>none
def JJ (tb:Tb) (d:Nat):Option TI->Option AV->Option AV->Bl
 | some ⟨.slice e,_,el,_⟩,some (.p (.int .i64) n),some (.p (.int .i64) m)=>MO d el e n m (lk el tb.ty)
 | _,_,_=>none
def Fe:Option TI->Option AV->Option (Option AV)->Option (Option AV)->Bl
 | some ⟨.slice e,_,_,_⟩,some (.p (.slice d) l),some a,some h=>if e=d then ID (.p (.slice d) l) a h else none
 | some ⟨.slice e,_,_,_⟩,some (.sr n d b c),some a,some h=>if e=d then ID (.sr n d b c) a h else none
 | some ⟨.str,_,_,_⟩,some (.p .str s),some a,some h=>ID (.p .str s) a h
 | _,_,_,_=>none
def D3:Option TI->Option AV->Option AV->Option AV->Bl
 | some ⟨.slice e,_,_,_⟩,some (.p (.slice c) l),some (.p (.int _) a),some (.p (.int _) b)=>if e=c then some (a=(List.length l:Int)/\b=(List.length l:Int),.pc c l,[]) else none
 | _,_,_,_=>none
def Em (i:Nat):Option AV->Bl
 | some (.tup l)=>HB l[i]?
 | _=>none
def UB:Option TI->Option AV->Bl
 | some ⟨.slice _,_,_,_⟩,some (.p (.slice _) l)=>some (True,.p (.int .i64) (l.length:Int),[])
 | some ⟨.slice _,_,_,_⟩,some (.sr _ _ lo hi)=>some (True,.p (.int .i64) ((hi-lo:Nat):Int),[])
 | some ⟨.slice _,_,_,_⟩,some (.nin _ _ _ len)=>some (True,.p (.int .i64) (len:Int),[])
 | some ⟨.slice _,_,_,_⟩,some (.raw (.slice none 0 0))=>some (True,.p (.int .i64) (0:Int),[])
 | some ⟨.str,_,_,_⟩,some (.p .str s)=>some (True,.p (.int .i64) (s.size:Int),[])
 | _,_=>none
def FN (d:Nat) (el:TypeId) (e:Ty):Option TI->Option (List e.den)->Bl
 | some ti,some ys=>some (ys.length*ti.bytes<=AP,.sr d e 0 ys.length,[(d,.arr el e ys)])
 | _,_=>none
def Eo (tb:Tb) (σ:St) (d:Nat) (v:AV):Option TI->Bl
 | some ⟨.slice e,_,el,_⟩=>FN d el e (lk el tb.ty) (Pw σ e v)
 | _=>none
def Kv (d:Nat) (el:TypeId) (e:Ty) (l:List e.den):Option TI->Option (List e.den)->Bl
 | some ti,some ys=>some (0<ys.length/\(l.length+ys.length)*ti.bytes<=AP,.sr d e 0 (l.length+ys.length),[(d,.arr el e (l++ys))])
 | _,_=>none
def Jq (tb:Tb) (σ:St) (d:Nat) (e:Ty) (l:List e.den) (v:AV):Option TI->Bl
 | some ⟨.slice a,_,el,_⟩=>if a=e then Kv d el e l (lk el tb.ty) (Pw σ e v) else none
 | _=>none
def Cy (tb:Tb) (σ:St) (d:Nat) (t u:TypeId):Option AV->Option AV->Bl
 | some (.raw (.slice none 0 0)),some v=>if t=u then Eo tb σ d v (lk t tb.ty) else none
 | some (.pc e l),some v=>if t=u then Jq tb σ d e l v (lk t tb.ty) else none
 | _,_=>none
def Rs:Option AV->Option AV->Bl
 | some (.p (.int k) a),some (.p (.int c) b)=>if k=c then some (True,.p (.int k) (if b<a then b else a),[]) else none
 | _,_=>none
def JK:Option AV->Option AV->Option AV->Bl
 | some (.p (.int k) a),some (.p (.int d) b),some (.p (.int e) c)=>if k=d/\k=e then some (True,.p (.int k) (if c<(if b<a then b else a) then c else (if b<a then b else a)),[]) else none
 | _,_,_=>none
def OL (k:IntKind) (a:Int):Option AV->Option Int
 | some (.p (.int c) b)=>if k=c then some (if b<a then b else a) else none
 | _=>none
def Fq (σ:St) (k:IntKind):Option Int->List Operand->Option Int
 | some a,x :: r=>Fq σ k (OL k a (Al σ x)) r
 | o,_=>o
def P1 (k:IntKind):Option Int->Bl
 | some m=>some (True,.p (.int k) m,[])
 | none=>none
def OM (σ:St) (r:List Operand):Option AV->Bl
 | some (.p (.int k) a)=>P1 k (Fq σ k (some a) r)
 | _=>none
def Ru:Option AV->Option AV->Bl
 | some (.p (.int k) a),some (.p (.int c) b)=>if k=c then some (True,.p (.int k) (if a<b then b else a),[]) else none
 | _,_=>none
def Kw (d:Nat) (sp:Ab):Option (Jl sp.ins)->Bl
 | some ds=>if sp.lend=false\/(sp.out ds).all RV.flat=true then some (sp.pre ds,Hk d (sp.out ds),C8 d (sp.out ds)) else none
 | none=>none
def Jr (σ:St) (d:Nat) (xs:List Operand):Option Ab->Bl
 | some sp=>Kw d sp (GX sp.lend σ sp.ins xs)
 | none=>none
def MP (tb:Tb) (σ:St) (d:Nat) (xs:List Operand):Option AV->Bl
 | some (.fn f)=>Jr σ d xs (lk f tb.fns)
 | _=>none
def DS (tb:Tb) (σ:St) (d:Nat):Builtin->List Operand->List TypeId->Bl
 | .len,[x],[t]=>UB (lk t tb.ty) (Al σ x)
 | .append,[x,y],[t,u]=>Cy tb σ d t u (Al σ x) (Al σ y)
 | .min,[x,y],[_,_]=>Rs (Al σ x) (Al σ y)
 | .max,[x,y],[_,_]=>Ru (Al σ x) (Al σ y)
 | .min,[x,y,z],[_,_,_]=>JK (Al σ x) (Al σ y) (Al σ z)
 | .min,x :: y :: z :: u :: r,_=>OM σ (y :: z :: u :: r) (Al σ x)
 | _,_,_=>none
def IE (σ:St):List Operand->Option (List Nat)
 | []=>some []
 | x :: r=>match Al σ x,IE σ r with
  | some (.bp n [] 0),some ns=>some (n :: ns)
  | _,_=>none
def P2 (f:FuncId):Option (List Nat)->Bl
 | some ns=>some (True,.clo f ns,[])
 | none=>none
def Z1 (f:FuncId):Option AV->Bl
 | some (.bp n [] 0)=>some (True,.clo (1000000+f) [n],[])
 | _=>none
def Z2 (σ:St) (fn:Fn) (first a:List Operand):Bl :=
 match fn,first,a with
 | .func f,[],cs=>if f<1000000 then P2 f (IE σ cs) else none
 | .func f,[x],[]=>Z1 f (Al σ x)
 | _,_,_=>none
def Ge (d:Nat):Option TI->Option TI->Bl
 | some a,some te=>some (True,.mp d,[(d,.mapo a.ty te.ty [])])
 | _,_=>none
def Gf (tb:Tb) (d:Nat):List (Nat×Nat)->Bl
 | [(k,e)]=>Ge d (lk k tb.ty) (lk e tb.ty)
 | _=>none
def GA (tb:Tb) (d:Nat):Option TI->Bl
 | some ⟨.ref 2,offs,_,_⟩=>Gf tb d offs
 | _=>none
def MQ (a:Ty) (ok:Bool) (r:Option a.den):Bl :=
 if ok then some (True,.tup [.p a (r.getD a.dflt),.p .bool r.isSome],[]) else some (True,.p a (r.getD a.dflt),[])
def Kx (a b:Ty) (l:List (a.den×b.den)) (ok:Bool):Option a.den->Bl
 | some k=>if Xo a=true then MQ b ok (Bc a b k l) else none
 | none=>none
def IG (tb:Tb) (σ:St) (b d:Nat) (x:AV) (ok:Bool):Option Obj->Bl
 | some (.mapo a c l)=>if (lk b tb.ty).map TI.ty=some a/\(lk b tb.ty).map TI.el=some 0/\(lk d tb.ty).map TI.ty=some c then Kx a c l ok (JC false σ a x) else none
 | _=>none
def JL (tb:Tb) (σ:St) (ok:Bool):Option TI->Option AV->Option AV->Bl
 | some ⟨.ref 2,[(k,e)],_,_⟩,some (.mp n),some x=>IG tb σ k e x ok (lk n σ.objs)
 | _,_,_=>none
def DC (tb:Tb) (σ:St) (d:Nat) (xs:List Operand) (ts:List TypeId):Callee->Bl
 | .builtin b=>DS tb σ d b xs ts
 | .value g=>MP tb σ d xs (Al σ g)
 | _=>none
def aq (tb:Tb) (σ:St) (d:Nat):Op->Bl
 | .move x=>HB (Al σ x)
 | .assign x=>HB (Al σ x)
 | .pick c x y=>Ls (Al σ c) (Al σ x) (Al σ y)
 | .alloc t=>Ks (inB d tb.pure) d t (lk t tb.ty)
 | .box t x=>UA d t (lk t tb.ty) (Al σ x)
 | .build t parts=>Jn (inB d tb.pure) σ parts.toList (lk t tb.ty)
 | .buildSlice t n parts=>G2 tb σ d n parts.toList (lk t tb.ty) (lk d tb.nests)
 | .load t x=>KC σ (lk t tb.ty) (Al σ x)
 | .fieldAddr s x f=>HY f (lk s tb.ty) (Al σ x)
 | .indexAddr t x i=>F9 (lk t tb.ty) (Al σ x) (Al σ i)
 | .index t x i=>Ee (lk t tb.ty) (Al σ x) (Al σ i)
 | .nilCheck x=>VC (Al σ x)
 | .binOp op t x y _=>Rr op (lk t tb.ty) (Al σ x) (Al σ y)
 | .unOp op _ x=>qUn op (Al σ x)
 | .convert s t x=>KD (lk s tb.ty) (lk t tb.ty) (Al σ x)
 | .makeSlice t l c=>JJ tb d (lk t tb.ty) (Al σ l) (Al σ c)
 | .slice t x none (some hi) (some b)=>D3 (lk t tb.ty) (Al σ x) (Al σ hi) (Al σ b)
 | .slice t x lo hi none=>Fe (lk t tb.ty) (Al σ x) (HA σ lo) (HA σ hi)
 | .extract x i=>Em i (Al σ x)
 | .call c=>DC tb σ d c.args.toList c.argTypes.toList c.callee
 | .makeFunc fn first a=>Z2 σ fn first.toList a.toList
 | .makeMap t none=>GA tb d (lk t tb.ty)
 | .lookup t x i ok=>JL tb σ ok (lk t tb.ty) (Al σ x) (Al σ i)
 | _=>none
def P3:AV->Bool
 | .ag _=>false
 | _=>true
def GB:Bool->List AV->AV->List Nat->Option (List AV)
 | st,fs,v,[]=>if st then match v with
   | .p (.agg u) d=>some (pfs u d)
   | .ag l=>some l
   | _=>none
  else if P3 v then some [v] else none
 | st,fs,v,[k]=>if st&&P3 v then some (fs.set k v) else none
 | st,fs,v,k :: r=>if st then match fs[k]?,v with
   | some (.p t d),.p u x=>(VA r t d ⟨u,x⟩).map λy=>fs.set k (.p t y)
   | some (.ag l),v=>(GB true l v r).map λl'=>fs.set k (.ag l')
   | _,_=>none
  else none
abbrev DF:=Option (Prop×St)
def FO (σ:St) (n:Nat) (et:TypeId) (st:Bool) (ty:Ty) (fs:List AV) (b:List Nat) (off:Nat) (v:AV):Option AV->Option (List AV)->DF
 | some u,some a=>if OK ty u=true/\CW ty v=true/\Jm fs b=some off/\a.map AV.cells=fs.map AV.cells then some (True,⟨σ.env,upd n (.box et st a) σ.objs⟩) else none
 | _,_=>none
def DT (σ:St) (n:Nat) (ty:Ty) (a:List Nat) (off:Nat) (v:AV):Option Obj->DF
 | some (.box et st fs)=>FO σ n et st ty fs a off v (FE st fs a) (GB st fs v a)
 | _=>none
def GC (σ:St) (n:Nat) (et:TypeId) (e:Ty) (i:Nat) (a:List Nat) (off:Nat) (ys:List e.den):Option e.den->DF
 | some z=>if MM a e=some off then some (True,⟨σ.env,upd n (.arr et e (ys.set i z)) σ.objs⟩) else none
 | none=>none
def Ep (σ:St) (n:Nat) (et:TypeId) (ty e:Ty) (i:Nat) (a:List Nat) (off:Nat):Option (List e.den)->Option ty.den->DF
 | some ys,some w=>GC σ n et e i a off ys (VA a e (ys.getD i e.dflt) ⟨ty,w⟩)
 | _,_=>none
def MR (σ:St) (d n:Nat) (et a:TypeId) (k e:Ty) (xs:List (k.den×List e.den)) (i bytes:Nat):Option (List e.den)->DF
 | some ys=>if (lk d σ.objs).isNone=true/\ys.isEmpty=false then some (((xs.getD i (k.dflt,[])).2.length+ys.length)*bytes<=AP,
   ⟨(d,.sr d e 0 ((xs.getD i (k.dflt,[])).2.length+ys.length)) :: EZ n [] σ.env,(d,.arr a e ((xs.getD i (k.dflt,[])).2++ys)) :: (n,.nest et a k e xs (some i)) :: Cw n [] σ.objs⟩) else none
 | none=>none
def P4 (σ:St) (d n:Nat) (el:TypeId) (b:Ty) (i:Nat) (v:AV):Option TI->Option Obj->DF
 | some ti,some (.nest et a k e xs none)=>if b=e/\a=el/\G9 n=false then MR σ d n et a k e xs i ti.bytes (Pw σ e v) else none
 | _,_=>none
def OO (tb:Tb) (σ:St) (d n:Nat) (a:Ty) (i:Nat) (v:AV):Option TI->DF
 | some ⟨.slice e,_,el,_⟩=>if a=e then P4 σ d n el e i v (lk el tb.ty) (lk n σ.objs) else none
 | _=>none
def Ky (σ:St) (n m:Nat) (et a:TypeId) (k e:Ty) (xs:List (k.den×List e.den)) (i hi:Nat):Option (List e.den)->DF
 | some ys=>some (hi=ys.length,⟨EZ n [m] σ.env,(n,.nest et a k e (xs.set i ((xs.getD i (k.dflt,[])).1,ys)) none) :: Cw n [m] σ.objs⟩)
 | none=>none
def MS (σ:St) (n m:Nat) (et a:TypeId) (k e:Ty) (xs:List (k.den×List e.den)) (i hi:Nat):Option Obj->DF
 | some (.arr c b ys)=>if c=a/\G9 m=false/\G9 n=false then Ky σ n m et a k e xs i hi (Bh (.slice e) ⟨.slice b,ys⟩) else none
 | _=>none
def Kz (σ:St) (d n m:Nat) (et b:TypeId) (k e:Ty) (hi a bytes:Nat) (xs:List (k.den×List e.den)):Option (List (k.den×List e.den))->DF
 | some ys=>some (hi=xs.length/\a=ys.length/\(xs.length+ys.length)*bytes<=AP,
   ⟨(d,.sr n (.agg (.prod k (.slice e))) 0 (xs.length+ys.length)) :: Cv [n,m] σ.env,(n,.nest et b k e (xs++ys) none) :: A6 [n,m] [n,m] σ.objs⟩)
 | none=>none
def MT (σ:St) (d n m:Nat) (et a:TypeId) (k e:Ty) (hi c bytes:Nat) (xs:List (k.den×List e.den)):Option Obj->DF
 | some (.nest _ f g b ys none)=>if f=a/\n≠m/\G9 m=false then Kz σ d n m et a k e hi c bytes xs (Bh (.slice (.agg (.prod k (.slice e)))) ⟨.slice (.agg (.prod g (.slice b))),ys⟩) else none
 | _=>none
def TC (σ:St) (d n:Nat) (et b:TypeId) (k e:Ty) (hi bytes:Nat) (xs:List (k.den×List e.den)):AV->DF
 | .sr m _ 0 a=>MT σ d n m et b k e hi a bytes xs (lk m σ.objs)
 | _=>none
def P5 (σ:St) (d m:Nat) (el b:TypeId) (k e:Ty) (ys:List (k.den×List e.den)) (a bytes:Nat):DF :=
 if (lk d σ.objs).isNone=true/\G9 m=false then some (a=ys.length/\ys.length*bytes<=AP,
  ⟨(d,.sr d (.agg (.prod k (.slice e))) 0 ys.length) :: Cv [m] σ.env,(d,.nest el b k e ys none) :: A6 [m] [m] σ.objs⟩) else none
def P6 (σ:St) (d m:Nat) (el:TypeId) (t:Ty) (a:Nat):Option TI->Option Obj->DF
 | some ti,some (.nest _ b k e ys none)=>if t=.agg (.prod k (.slice e)) then P5 σ d m el b k e ys a ti.bytes else none
 | _,_=>none
def Z3 (tb:Tb) (σ:St) (d:Nat):AV->Option TI->DF
 | .sr m _ 0 a,some ⟨.slice t,_,el,_⟩=>P6 σ d m el t a (lk el tb.ty) (lk m σ.objs)
 | _,_=>none
def MU (σ:St) (n m:Nat) (ty:Ty) (et a:TypeId) (k e:Ty) (xs:List (k.den×List e.den)) (i hi:Nat) (b:List Nat) (off:Nat):DF :=
 if ty=.slice e/\b=[1]/\off=k.size then MS σ n m et a k e xs i hi (lk m σ.objs) else none
def DU (σ:St) (n:Nat) (ty e:Ty) (i:Nat) (b:List Nat) (off:Nat) (v:AV):Option Obj->DF
 | some (.arr et a xs)=>Ep σ n et ty e i b off (Bh (.slice e) ⟨.slice a,xs⟩) (JC false σ ty v)
 | some (.nest et c k a xs (some j))=>match v with
  | .sr m E 0 hi=>if e=.agg (.prod k (.slice a))/\i=j/\E=a then MU σ n m ty et c k a xs i hi b off else none
  | _=>none
 | _=>none
def IH (σ:St):Option TI->Option AV->Option AV->DF
 | some ti,some (.bp n a off),some v=>DT σ n ti.ty a off v (lk n σ.objs)
 | some ti,some (.ep n e i a off),some v=>DU σ n ti.ty e i a off v (lk n σ.objs)
 | _,_,_=>none
def FP (σ:St) (d n:Nat) (et:TypeId) (e:Ty) (hi:Nat) (bytes:Nat):Option (List e.den)->Option (List e.den)->DF
 | some a,some ys=>some ((hi+ys.length)*bytes<=AP,⟨(d,.sr n e 0 (hi+ys.length)) :: F7 n σ.env,upd n (.arr et e (a.take hi++ys)) (Bj n σ.objs)⟩)
 | _,_=>none
def Cg (σ:St) (d n:Nat) (el:TypeId) (e:Ty) (hi:Nat) (v:AV) (ys:Option (List e.den)):Option TI->Option Obj->DF
 | some ti,some (.arr et a xs)=>if et=el then FP σ d n et e hi ti.bytes (Bh (.slice e) ⟨.slice a,xs⟩) ys else none
 | some ti,some (.nest et b k a xs none)=>if et=el/\e=.agg (.prod k (.slice a)) then TC σ d n et b k a hi ti.bytes xs v else none
 | _,_=>none
def Eq (tb:Tb) (σ:St) (d:Nat) (n:Nat) (a:Ty) (hi:Nat) (v:AV):Option TI->DF
 | some ⟨.slice e,_,el,_⟩=>if e=a then Cg σ d n el e hi v (Pw σ e v) (lk el tb.ty) (lk n σ.objs) else none
 | _=>none
def DV (tb:Tb) (σ:St) (d:Option Nat) (t u:TypeId):Option AV->Option AV->DF
 | some (.sr n e 0 hi),some v=>match d with
  | some d=>if t=u/\G9 n=false then Eq tb σ d n e hi v (lk t tb.ty) else none
  | none=>none
 | some (.nin n e i _),some v=>match d with
  | some d=>if t=u then OO tb σ d n e i v (lk t tb.ty) else none
  | none=>none
 | some (.raw (.slice none 0 0)),some v=>match d with
  | some d=>if t=u then Z3 tb σ d v (lk t tb.ty) else none
  | none=>none
 | _,_=>none
def Du (tb:Tb) (σ:St) (d:Option Nat):Builtin->List Operand->List TypeId->DF
 | .append,[x,y],[t,u]=>DV tb σ d t u (Al σ x) (Al σ y)
 | _,_,_=>none
def DW (tb:Tb) (σ:St) (d:Option Nat) (xs:List Operand) (ts:List TypeId):Callee->DF
 | .builtin b=>Du tb σ d b xs ts
 | _=>none
def G3 (σ:St) (n:Nat) (a b:Ty) (l:List (a.den×b.den)):Option a.den->Option b.den->DF
 | some k,some v=>if Xo a=true then some (True,⟨σ.env,upd n (.mapo a b (Fd a b k v l)) σ.objs⟩) else none
 | _,_=>none
def GD (tb:Tb) (σ:St) (n:Nat) (b:Nat) (x y:AV):Option Obj->DF
 | some (.mapo a c l)=>if (lk b tb.ty).map TI.ty=some a/\(lk b tb.ty).map TI.el=some 0 then G3 σ n a c l (JC false σ a x) (JC false σ c y) else none
 | _=>none
def K2 (tb:Tb) (σ:St):Option TI->Option AV->Option AV->Option AV->DF
 | some ⟨.ref 2,[(k,_)],_,_⟩,some (.mp n),some x,some y=>GD tb σ n k x y (lk n σ.objs)
 | _,_,_,_=>none
def D4 (r:DF):Option Nat->DF
 | none=>r
 | some _=>none
def Fs (tb:Tb) (σ:St) (d:Option Nat):Op->DF
 | .store t x y=>D4 (IH σ (lk t tb.ty) (Al σ x) (Al σ y)) d
 | .mapUpdate t m x y=>D4 (K2 tb σ (lk t tb.ty) (Al σ m) (Al σ x) (Al σ y)) d
 | .call c=>DW tb σ d c.args.toList c.argTypes.toList c.callee
 | _=>none
def St.add (σ:St) (v:AV) (obs:List (Nat×Obj)):Option Nat->St
 | some d=>⟨(d,v) :: σ.env,obs++σ.objs⟩
 | none=>⟨σ.env,obs++σ.objs⟩
def NZ:Option AV->List Nat
 | some v=>v.names
 | none=>[]
def Dh (σ:St):List (Nat×Operand)->List Nat
 | []=>[]
 | (_,x) :: r=>NZ (Al σ x)++Dh σ r
def Na:Option AV->List Nat
 | some (.ag l)=>AV.namess l
 | _=>[]
def FQ (σ:St):List (Nat×Operand)->List Nat
 | []=>[]
 | (_,x) :: r=>Na (Al σ x)++FQ σ r
def Co (σ:St):Option AV->Option AV->List Nat
 | some (.ep n _ _ _ _),some v=>if C7 (lk n σ.objs)=true then [] else v.names
 | _,_=>[]
def KE:Option AV->Option AV->Option AV->List Nat
 | some (.mp _),some v,some u=>v.names++u.names
 | _,_,_=>[]
def Ca (σ:St):Op->List Nat
 | .buildSlice _ _ parts=>Dh σ parts.toList
 | .build _ parts=>FQ σ parts.toList
 | .store _ x y=>Co σ (Al σ x) (Al σ y)
 | .mapUpdate _ m x y=>KE (Al σ m) (Al σ x) (Al σ y)
 | _=>[]
def Cz:List Nat->St->St
 | [],σ=>σ
 | n :: r,σ=>Cz r (frz n σ)
def Bp (obs:List (Nat×Obj)) (σ:St):Bool:=obs.all λp=>(lk p.1 σ.objs).isNone
def Lt (tb:Tb) (σ:St) (o:Oper):Bl->DF
 | some (vc,v,obs)=>if Bp obs σ=true then some (vc,σ.add v obs o.dst) else none
 | none=>Fs tb σ o.dst o.op
def P7 (tb:Tb) (o:Oper) (σ:St):DF:=Lt tb σ o (aq tb σ (o.dst.getD 0) o.op)
def GY (tb:Tb) (o:Oper) (σ:St):DF:=P7 tb o (Cz (Ca σ o.op) σ)
def Rv (a:Bool):Option AV->Option Bool
 | some (.p .bool b)=>some (b==a)
 | _=>none
def K3 (σ:St) (a:Bool):Option Tmp->Option Bool
 | some g=>Rv a (lk g σ.env)
 | none=>none
def E5 (ops:List Oper) (σ:St):Option (Nat×Bool)->Option Bool
 | none=>some true
 | some (j,a)=>K3 σ a ((ops[j]?).bind (·.dst))
def Xh (vc:Prop):DF->DF
 | some (a,σ)=>some (vc/\a,σ)
 | none=>none
mutual
def B7 (tb:Tb) (ops:List Oper):List Oper->St->DF
 | [],σ=>some (True,σ)
 | o :: r,σ=>evG tb ops o r σ (E5 ops σ o.guard)
def evG (tb:Tb) (ops:List Oper) (o:Oper) (r:List Oper) (σ:St):Option Bool->DF
 | some true=>evK tb ops r (GY tb o σ)
 | some false=>B7 tb ops r (σ.add (.raw undef) [] o.dst)
 | none=>none
def evK (tb:Tb) (ops:List Oper) (r:List Oper):DF->DF
 | some (vc,σ)=>Xh vc (B7 tb ops r σ)
 | none=>none
end
section
open Go Go.RowKit
theorem B2 {o:_root_.Go.Obj} (h:w.heap[b]?=some o):b<w.heap.size:=by grind
def blk:Value->Option Nat
 | .slice (some a) _ _=>some a.block
 | .pointer (some a)=>some a.block
 | .map (some b)=>some b
 | _=>none
def bk (v:Value) (b:Nat):Prop:=blk v=some b\/∃a:Array Value,v=.tuple a/\∃x∈a.toList,blk x=some b
theorem MV {m b:Nat}:bk (.slice a m c) b↔blk (.slice a m c)=some b:=by
 constructor
 .intro h;rcases h with h|⟨_,h,_⟩
  .exact h
  cases h
 exact .inl
def plc:Value->Value
 | .tuple a=>a.getD 0 undef
 | v=>v
def Di (loc:Value) (sz lo hi:Nat) (v:Value):Prop :=
 ∃(a:Option Addr) (m c:Nat),loc=.slice a m c/\lo<=hi/\hi<=m/\∃(b:Option Addr) (d:Nat),v=.slice b (hi-lo) d/\hi-lo<=d/\(lo=0->b=a/\d=c)/\(lo<hi->b=a.map (·.add (lo*sz)))
structure Vw where
 w:World
 
 O:Nat->Prop
 
 L:Nat->Prop
 
 ρ:Nat->Value
def Lay (u v:Value):Prop:=v=u\/(u=.slice none 0 0/\∃a:Option Addr,v=.slice a 0 0)
def wT (f:FuncId) (l:List Value):Value:=if f<1000000 then .func (.func f) #[] l.toArray else .func (.func (f-1000000)) l.toArray #[]
theorem eI (f:FuncId) (l:List Value):(wT f l).oneCell'=true:=by unfold wT;split<;>rfl
def MW (V:Vw):AV->Value->Prop
 | .p t d,v=>Bg V.w V.O t v d
 | .pc e d,v=>Bg V.w V.O (.slice e) v d/\∃a:Option Addr,v=.slice a (List.length d) (List.length d)
 | .raw u,v=>v=u
 | .sr n e lo hi,v=>V.L n/\Di (plc (V.ρ n)) e.size lo hi v
 | .ep n e i _ off,v=>V.L n/\∃g m c:Nat,plc (V.ρ n)=.slice (some ⟨g,0,none⟩) m c/\i<m/\v=.pointer (some ⟨g,i*e.size+off,none⟩)
 | .nin n _ i len,v=>V.L n/\∃(h:Array Value) (a:Option Addr) (c:Nat) (u:Value),V.ρ n=.tuple h/\h[i+1]?=some u/\Lay u v/\v=.slice a len c
 | .ip t d,v=>∃(ad:Addr) (cs:List Value),v=.pointer (some ad)/\¬V.O ad.block/\(∀(j:Nat) (u:Value),cs[j]?=some u->V.w.cell? (ad.add j)=some u)/\B6 V.w V.O t cs d
 | .bp n _ off,v=>V.L n/\∃b:Nat,V.ρ n=.pointer (some ⟨b,0,none⟩)/\v=.pointer (some ⟨b,off,none⟩)
 | .fn f,v=>v=.func (.func f) #[] #[]
 | .clo f ns,v=>v=wT f (ns.map V.ρ)/\∀n∈ns,V.L n/\∃b:Nat,V.ρ n=.pointer (some ⟨b,0,none⟩)
 | .mp n,v=>V.L n/\∃b:Nat,V.ρ n=.map (some b)/\v=.map (some b)
 | .yl n,v=>V.L n/\∃b:Nat,V.ρ n=.pointer (some ⟨b,0,none⟩)/\v=.func (.yield b) #[] #[]
 | .top,_=>True
 | .ag _,_=>False
 | .tup _,_=>False
mutual
def GS (V:Vw):AV->List Value->Prop
 | .p t d,cs=>B6 V.w V.O t cs d
 | .ag l,cs=>AVCs V l cs
 | .raw u,cs=>∃v,cs=[v]/\v.oneCell'=true/\MW V (.raw u) v
 | .sr n e lo hi,cs=>∃v,cs=[v]/\v.oneCell'=true/\MW V (.sr n e lo hi) v
 | .ep n e i p o,cs=>∃v,cs=[v]/\v.oneCell'=true/\MW V (.ep n e i p o) v
 | .pc e d,cs=>∃v,cs=[v]/\v.oneCell'=true/\MW V (.pc e d) v
 | .ip t d,cs=>∃v,cs=[v]/\v.oneCell'=true/\MW V (.ip t d) v
 | .bp n p o,cs=>∃v,cs=[v]/\v.oneCell'=true/\MW V (.bp n p o) v
 | .fn f,cs=>∃v,cs=[v]/\v.oneCell'=true/\MW V (.fn f) v
 | .clo f ns,cs=>∃v,cs=[v]/\v.oneCell'=true/\MW V (.clo f ns) v
 | .mp n,cs=>∃v,cs=[v]/\v.oneCell'=true/\MW V (.mp n) v
 | .yl n,cs=>∃v,cs=[v]/\v.oneCell'=true/\MW V (.yl n) v
 | .nin n e i k,cs=>∃v,cs=[v]/\v.oneCell'=true/\MW V (.nin n e i k) v
 | .tup l,cs=>∃v,cs=[v]/\v.oneCell'=true/\MW V (.tup l) v
 | .top,cs=>∃v,cs=[v]/\v.oneCell'=true/\MW V (.top) v
def AVCs (V:Vw):List AV->List Value->Prop
 | [],cs=>cs=[]
 | x :: r,cs=>∃c1 c2:List Value,cs=c1++c2/\GS V x c1/\AVCs V r c2
end
def Xp:AV->Bool
 | .ag _=>true
 | _=>false
theorem P8 {V V':Vw} {f:AV->AV} {fs:List AV->List AV} (h1:∀l,f (.ag l)=.ag (fs l)) (c:fs []=[]) (d:∀x r,fs (x :: r)=f x :: fs r)
  (g:∀ {x:AV} {cs:List Value},Xp x=false->GS V x cs->GS V' (f x) cs):(∀(x:AV) (cs:List Value),GS V x cs->GS V' (f x) cs)/\∀(l:List AV) (cs:List Value),AVCs V l cs->AVCs V' (fs l) cs:=by
 have key:∀n:Nat,(∀(x:AV) (cs:List Value),SizeOf.sizeOf x<n->GS V x cs->GS V' (f x) cs)/\∀(l:List AV) (cs:List Value),SizeOf.sizeOf l<n->AVCs V l cs->AVCs V' (fs l) cs:=by
  intro n;induction n with
  | zero=>exact⟨λ_ _ h=>by omega,λ_ _ h=>by omega⟩
  | succ n a =>
   refine⟨λx cs hn h=>?_,λl cs hn h=>?_⟩
   .cases b:Xp x with
    | false=>exact g b h
    | true =>
     cases x<;>simp[Xp]at b;rename_i l;rw[h1];simp only[AV.ag.sizeOf_spec]at hn;have:=a.2 l cs O1 h;exact this
   cases l with
   | nil=>rw[c];exact h
   | cons x r =>
    obtain⟨c1,c2,e,ha,i⟩:=h;rw[d];simp only[AEe]at hn;exact⟨c1,c2,e,a.1 x c1 O1 ha,a.2 r c2 O1 i⟩
 exact⟨λx cs=>(key _).1 x cs (ACW _),λl cs=>(key _).2 l cs (ACW _)⟩
def TD (V:Vw):AV->Value->Prop
 | .ag l,v=>∃cs:List Value,v=.agg cs.toArray/\AVCs V l cs
 | x,v=>MW V x v
def II (V:Vw):List AV->List Value->Prop
 | [],a=>a=[]
 | x :: r,a=>∃(v:Value) (l:List Value),a=v :: l/\TD V x v/\II V r l
theorem TD.of1 {V:Vw} {x:AV} {v:Value} (h:MW V x v):TD V x v:=by
 cases x;case ag l=>exact h.elim
 all_goals exact h
def CD (V:Vw):AV->Value->Prop
 | .ag l,v=>∃cs:List Value,v=.agg cs.toArray/\AVCs V l cs
 | .tup l,v=>∃a:List Value,v=.tuple a.toArray/\II V l a
 | av,v=>MW V av v
theorem A0n {V:Vw} {x:AV} {v:Value} (h:TD V x v):CD V x v:=by
 cases x;case tup l=>exact(show False from h).elim
 all_goals exact h
def D1 (w:World) (O:Nat->Prop) (e:Ty) (cells:List Value) (xs:List e.den):Prop :=
 ∀(i:Nat) (x:e.den),xs[i]?=some x->∃es:List Value,es.length=e.size/\(∀(j:Nat) (u:Value),es[j]?=some u->cells[i*e.size+j]?=some u)/\B6 w O e es x
def Ou (w:World) (O:Nat->Prop) (k v:Ty):List MapEntry->List (k.den×v.den)->Prop
 | [],[]=>True
 | e :: es,x :: xs=>Bg w O k e.key x.1/\Bg w O v e.val x.2/\Ou w O k v es xs
 | _,_=>False
def Z4 (es:Array MapEntry) (clock:Nat):Prop:=(es.toList.map (·.born)).Nodup/\∀b∈es.toList.map (·.born),b<clock
def Rw (V:Vw) (et:TypeId) (e:Ty) (xs:List e.den) (loc:Value):Prop:=xs.length<=AP/\∃cells:List Value,V.w.ownsRow 0 et e.size loc xs.length cells/\D1 V.w V.O e cells xs
def Z5 (V:Vw) (a:TypeId) (k e:Ty) (hole:Bool) (cells:List Value) (i:Nat) (x:k.den×List e.den) (u:Value):Prop :=
 ∃(c1:List Value) (v:Value),(∀(j:Nat) (z:Value),(c1++[v])[j]?=some z->cells[i*(k.size+1)+j]?=some z)/\B6 V.w V.O k c1 x.1 /\
  ((hole=true/\u=.slice none 0 0)\/(hole=false/\Lay u v/\Rw V a e x.2 u))
structure Lu (V:Vw) (et iet:TypeId) (k e:Ty) (xs:List (k.den×List e.den)) (h:Option Nat) (o:Value) (ins:List Value) (cells:List Value):Prop where
 max:xs.length<=AP
 len:ins.length=xs.length
 own:V.w.ownsRow 0 et (k.size+1) o xs.length cells
 row:∀(i:Nat) (x:k.den×List e.den) (u:Value),xs[i]?=some x->ins[i]?=some u->Z5 V iet k e (h==some i) cells i x u
 dist:∀(i j b:Nat) (u v:Value),ins[i]?=some u->ins[j]?=some v->blk u=some b->blk v=some b->i=j
 out:∀(i b:Nat) (u:Value),ins[i]?=some u->blk u=some b->blk o≠some b
def Shp (loc o:Value) (ins:List Value):Prop:=loc=.tuple (o :: ins).toArray\/(loc=.slice none 0 0/\o=.slice none 0 0/\ins=[])
def ACl (V:Vw) (k v:Ty) (l:List (k.den×v.den)) (left:List Nat) (d:Option Nat) (r:Nat):Prop :=
 ∃(b:Nat) (a:Array MapEntry) (clock c:Nat) (seen:Array Nat),V.w.heap[r]?=some (.mapIter (some b) c seen clock)/\¬V.O b/\V.w.heap[b]?=some (.map a clock)/\Ou V.w V.O k v a.toList l/\Z4 a clock /\
  (∀s∈a.toList.map (·.born),s<c)/\c<=clock/\left.Nodup/\(∀i,i∈left↔∃e,a[i]?=some e/\e.born∉seen)/\(∀i,d=some i->∃e,a[i]?=some e/\seen.back?=some e.born)
def BI (V:Vw):Obj->Value->Prop
 | .arr et e xs,loc=>Rw V et e xs loc
 | .nest et c k e xs h,loc=>∃(o:Value) (ins cells:List Value),Shp loc o ins/\Lu V et c k e xs h o ins cells
 | .box et st fs,loc=>(st=false->fs.length=1)/\∃(b:Nat) (cs:List Value),loc=.pointer (some ⟨b,0,none⟩)/\V.w.heap[b]?=some (.cells cs.toArray et (0,0))/\AVCs V fs cs
 | .mapo k v l,loc=>∃(b:Nat) (es:Array MapEntry) (clock:Nat),loc=.map (some b)/\V.w.heap[b]?=some (.map es clock)/\Ou V.w V.O k v es.toList l/\Z4 es clock
 | .frame d fs,loc=>loc=.pointer none/\∀s x,lk s fs=some x->CD V x (d.getD s undef)
 | .itr k v l left a,loc=>∃r:Nat,loc=.pointer (some ⟨r,0,none⟩)/\ACl V k v l left a r
 | .loop L,loc=>∃b:Nat,loc=.pointer (some ⟨b,0,none⟩)/\V.w.heap[b]?=some (.loop L)
 | .dfr,loc=>∃b:Nat,loc=.pointer (some ⟨b,0,none⟩)/\V.w.heap[b]?=some (.deferred (some []))
 | .sit sb sp,loc=>∃b:Nat,loc=.pointer (some ⟨b,0,none⟩)/\V.w.heap[b]?=some (.stringIter sb sp)
structure Frm (K:Nat->Prop) (w0 w:World):Prop where
 os:w.os=w0.os
 tape:w.tape=w0.tape
 output:w.output=w0.output
 size:w0.heap.size<=w.heap.size
 block:∀k,K k->w.heap[k]?=w0.heap[k]?
def HV (σ:St) (n:Nat):Prop:=∃o,lk n σ.objs=some o
def own (O0:Nat->Prop) (σ:St) (ρ:Nat->Value) (b:Nat):Prop:=O0 b\/∃n,HV σ n/\bk (ρ n) b
def vw (w:World) (O0:Nat->Prop) (σ:St) (ρ:Nat->Value):Vw:=⟨w,own O0 σ ρ,HV σ,ρ⟩
def A8z:Value->Bool
 | .slice _ _ _=>false
 | .tuple _=>false
 | _=>true
structure Fp where
 ds:List Deferred:=[]
 pin:List (Nat×Value):=[]
structure CG (w0:World) (K O0:Nat->Prop) (nt:Nat) (ds:Fp) (σ:St) (ρ:Nat->Value) (a:Act) (w:World):Prop where
 frm:Frm K w0 w
 nt:a.tmps.size=nt
 defers:a.defers=ds.ds
 pin:∀p∈ds.pin,HV σ p.1/\ρ p.1=p.2/\(A8z p.2=true\/G9 p.1=true)
 objs:∀n o,lk n σ.objs=some o->BI (vw w O0 σ ρ) o (ρ n)
 free:∀n b,HV σ n->bk (ρ n) b->¬K b/\¬O0 b
 dist:∀n m b,HV σ n->HV σ m->bk (ρ n) b->bk (ρ m) b->n=m
 env:∀s v,lk s σ.env=some v->CD (vw w O0 σ ρ) v (a.tmps.getD s undef)
structure C3 (V V':Vw):Prop where
 O:∀b,b<V.w.heap.size->¬V.O b->¬V'.O b
 L:∀n,V.L n->V'.L n
 ρ:∀n,V.L n->V'.ρ n=V.ρ n
 heap:∀b,b<V.w.heap.size->¬V.O b->V'.w.heap[b]?=V.w.heap[b]?
theorem MW.keeps {V V':Vw} (h:C3 V V'):∀ {x:AV} {v:Value},MW V x v->MW V' x v
 | .p _ _,_,b=>Bg.mono h.O h.heap b
 | .pc _ _,_,b=>⟨Bg.mono h.O h.heap b.1,b.2⟩
 | .raw _,_,b=>b
 | .sr n e lo hi,_,⟨a,hs⟩=>⟨h.L n a,by rw[h.ρ n a];exact hs⟩
 | .ep n e i _ off,_,⟨a,hs⟩=>⟨h.L n a,by rw[h.ρ n a];exact hs⟩
 | .nin n _ i len,_,⟨a,hs⟩=>⟨h.L n a,by rw[h.ρ n a];exact hs⟩
 | .ip t d,_,⟨ad,cs,c,g,k,m⟩=>by
  have l:ad.block<V.w.heap.size:=by
   have r:=t.size_pos;have q:=m.length;have:=block_lt_of_cell (k 0 (cs[0]'(by omega)) (AT O1))
   rwa [CF]at this
  refine⟨ad,cs,c,h.O _ l g,λj u o=>?_,B6.mono h.O h.heap m⟩;rw[ADN (w:=V.w) (w':=V'.w)]
  .exact k j u o
  rw[CF];exact h.heap _ l g
 | .bp n _ off,_,⟨a,hs⟩=>⟨h.L n a,by rw[h.ρ n a];exact hs⟩
 | .fn _,_,b=>b
 | .clo f ns,_,⟨c,hs⟩=>by
  refine⟨?_,λn hn=>⟨h.L n (hs n hn).1,by rw[h.ρ n (hs n hn).1];exact(hs n hn).2⟩⟩;rw[c]
  congr 1
  exact iF λn hn=>(h.ρ n (hs n hn).1).symm
 | .mp n,_,⟨a,hs⟩=>⟨h.L n a,by rw[h.ρ n a];exact hs⟩
 | .yl n,_,⟨a,hs⟩=>⟨h.L n a,by rw[h.ρ n a];exact hs⟩
 | .top,_,_=>trivial
 | .ag _,_,b=>b
 | .tup _,_,b=>b
theorem X8 {V V':Vw} (h:C3 V V'):(∀(x:AV) (cs:List Value),GS V x cs->GS V' x cs)/\∀(l:List AV) (cs:List Value),AVCs V l cs->AVCs V' l cs :=
 P8 (f:=id) (fs:=id) (λ_=>rfl) rfl (λ_ _=>rfl) λ{x cs} h0 a=>by
  cases x;case p t d=>exact(B6.mono h.O h.heap a:B6 V'.w V'.O t cs d)
  case ag l=>cases h0
  all_goals
   obtain⟨v,h1,b,c⟩:=a;exact⟨v,h1,b,c.keeps h⟩
theorem GS.keeps {V V':Vw} (h:C3 V V') {x:AV} {cs:List Value} (a:GS V x cs):GS V' x cs:=(X8 h).1 x cs a
theorem AVCs.keeps {V V':Vw} (h:C3 V V') {l:List AV} {cs:List Value} (a:AVCs V l cs):AVCs V' l cs:=(X8 h).2 l cs a
theorem TD.keeps {V V':Vw} (h:C3 V V') {x:AV} {v:Value} (a:TD V x v):TD V' x v:=by
 cases x;case ag l=>obtain⟨cs,h1,b⟩:=a;exact⟨cs,h1,b.keeps h⟩
 all_goals exact TD.of1 (MW.keeps h a)
theorem II.keeps {V V':Vw} (h:C3 V V'):∀ {l:List AV} {a:List Value},II V l a->II V' l a
 | [],_,c=>c
 | _ :: _,_,⟨v,l,e,h1,b⟩=>⟨v,l,e,h1.keeps h,b.keeps h⟩
theorem CD.keeps {V V':Vw} (h:C3 V V') {x:AV} {v:Value} (a:CD V x v):CD V' x v:=by
 cases x;case ag l=>obtain⟨cs,h1,b⟩:=a;exact⟨cs,h1,b.keeps h⟩
 case tup l=>obtain⟨cs,h1,b⟩:=a;exact⟨cs,h1,b.keeps h⟩
 all_goals
  simp only[CD]at a ⊢;exact MW.keeps h a
theorem D1.keeps {V V':Vw} (h:C3 V V') {e:Ty} {cells:List Value} {xs:List e.den} (c:D1 V.w V.O e cells xs):D1 V'.w V'.O e cells xs:=λi x hi =>
 let ⟨es,h1,a,b⟩:=c i x hi
 ⟨es,h1,a,B6.mono h.O h.heap b⟩
theorem Ou.mono {w':World} {O':Nat->Prop} (a:∀b,b<w.heap.size->¬O b->¬O' b) (c:∀b,b<w.heap.size->¬O b->w'.heap[b]?=w.heap[b]?) {k v:Ty} :
  ∀ {es:List MapEntry} {l:List (k.den×v.den)},Ou w O k v es l->Ou w' O' k v es l
 | [],[],h=>h
 | [],_ :: _,h=>h.elim
 | _ :: _,[],h=>h.elim
 | _ :: _,_ :: _,⟨h1,d,e⟩=>⟨h1.mono a c,d.mono a c,e.mono a c⟩
theorem Js {w':World} {et:TypeId} {sz n:Nat} {loc:Value} {cells:List Value} (d:∀b,blk loc=some b->w'.heap[b]?=w.heap[b]?) (h:w.ownsRow 0 et sz loc n cells):w'.ownsRow 0 et sz loc n cells:=by
 obtain⟨h1,a⟩:=h;refine⟨h1,?_⟩;rcases a with a|⟨g,cap,c,rfl,e,f,i⟩
 .exact .inl a
 exact .inr ⟨g,cap,c,rfl,e,(d g rfl).trans f,i⟩
theorem Rw.keeps {V V':Vw} (h:C3 V V') {et:TypeId} {e:Ty} {xs:List e.den} {loc:Value} (a:∀b,blk loc=some b->V'.w.heap[b]?=V.w.heap[b]?) (f:Rw V et e xs loc):Rw V' et e xs loc:=by
 obtain⟨d,cells,h1,c⟩:=f;exact⟨d,cells,Js a h1,c.keeps h⟩
theorem Z5.keeps {V V':Vw} (h:C3 V V') {c:TypeId} {k e:Ty} {hole:Bool} {cells:List Value} {i:Nat} {x:k.den×List e.den} (j:∀b,blk u=some b->V'.w.heap[b]?=V.w.heap[b]?) (l:Z5 V c k e hole cells i x u):Z5 V' c k e hole cells i x u:=by
 obtain⟨c1,v,h1,d,a⟩:=l;refine⟨c1,v,h1,B6.mono h.O h.heap d,?_⟩;rcases a with a|⟨a,f,g⟩
 .exact .inl a
 exact .inr ⟨a,f,g.keeps h j⟩
theorem BN {o:Value} {ins:List Value}:bk (.tuple (o :: ins).toArray) b↔blk o=some b\/∃(i:Nat) (u:Value),ins[i]?=some u/\blk u=some b:=by
 constructor
 .rintro (h|⟨d,h,x,c,a⟩)
  .cases h
  injection h with h
  subst h;simp only[By]at c;rcases c with rfl|c
  .exact .inl a
  obtain⟨i,hi⟩:=List.getElem?_of_mem c;exact .inr ⟨i,x,hi,a⟩
 rintro (h|⟨i,u,hi,a⟩)
 .exact .inr ⟨_,rfl,o,sc,h⟩
 exact .inr ⟨_,rfl,u,by simp[AC5 hi],a⟩
theorem Shp.bk {loc o:Value} {ins:List Value} (h:Shp loc o ins):bk loc b↔bk (.tuple (o :: ins).toArray) b:=by
 rcases h with rfl|⟨rfl,rfl,rfl⟩
 .exact Iff.rfl
 grind [BN,MV,blk]
theorem Shp.plc {loc o:Value} {ins:List Value} (h:Shp loc o ins):plc loc=o:=by
 rcases h with rfl|⟨rfl,rfl,rfl⟩<;>rfl
theorem Shp.tup {loc o:Value} {ins:List Value} {a:Array Value} (h:Shp loc o ins) (b:loc=.tuple a):a=(o :: ins).toArray:=by
 subst b;rcases h with h|⟨h,_⟩
 .injection h
 cases h
theorem Lu.keeps {V V':Vw} (h:C3 V V') {et:TypeId} {k e:Ty} {xs:List (k.den×List e.den)} {f:Option Nat} {o:Value} {ins cells:List Value} (d:∀b,bk (.tuple (o :: ins).toArray) b->V'.w.heap[b]?=V.w.heap[b]?) (a:Lu V et g k e xs f o ins cells):Lu V' et g k e xs f o ins cells :=
 ⟨a.max,a.len,Js (λb h1=>d b (BN.2 (.inl h1))) a.own,λi x u h1 c=>(a.row i x u h1 c).keeps h (λb j=>d b (BN.2 (.inr ⟨i,u,c,j⟩))),a.dist,a.out⟩
theorem VD {et:TypeId} {sz n b:Nat} {loc:Value} {cells:List Value} (h:w.ownsRow 0 et sz loc n cells) (a:blk loc=some b):b<w.heap.size:=by
 rcases h.2 with ⟨rfl,_⟩|⟨g,cap,c,rfl,d,e,f⟩
 .simp[blk]at a
 grind [blk,B2]
theorem Lu.block_lt {V:Vw} {et h:TypeId} {k e:Ty} {xs:List (k.den×List e.den)} {g:Option Nat} {o:Value} {ins cells:List Value} (d:Lu V et h k e xs g o ins cells) (f:bk (.tuple (o :: ins).toArray) b):b<V.w.heap.size:=by
 rcases BN.1 f with h1|⟨i,u,h1,c⟩
 .exact VD d.own h1
 have hi:i<xs.length:=by have:=(aT.1 h1).1;rw[d.len]at this;exact this
 obtain⟨c1,v,_,_,a⟩:=d.row i xs[i] u (AT hi) h1;rcases a with ⟨_,a⟩|⟨_,_,_,j,a,_⟩
 .rw[a]at c;simp[blk]at c
 exact VD a c
theorem BI.keeps {V V':Vw} (h:C3 V V') {o:Obj} {loc:Value} (d:∀b,bk loc b->V'.w.heap[b]?=V.w.heap[b]?) (c:BI V o loc):BI V' o loc:=by
 cases o with
 | arr et e xs =>
  obtain⟨B,cells,⟨h1,a⟩,A⟩:=c;refine⟨B,cells,⟨h1,?_⟩,A.keeps h⟩;rcases a with a|⟨g,cap,i,rfl,D,E,F⟩
  .exact .inl a
  exact .inr ⟨g,cap,i,rfl,D,(d g (.inl rfl)).trans E,F⟩
 | box et st fs =>
  obtain⟨h0,b,cs,rfl,h1,a⟩:=c;exact⟨h0,b,cs,rfl,(d b (.inl rfl)).trans h1,a.keeps h⟩
 | nest et J k e xs I =>
  obtain⟨o,ins,cells,hs,h1⟩:=c;exact⟨o,ins,cells,hs,h1.keeps h λb z=>d b (hs.bk.2 z)⟩
 | mapo k v l =>
  obtain⟨b,es,cl,rfl,h1,a,f⟩:=c;exact⟨b,es,cl,rfl,(d b (.inl rfl)).trans h1,a.mono h.O h.heap,f⟩
 | frame K fs =>
  obtain⟨h0,h1⟩:=c;exact⟨h0,λs x hs=>(h1 s x hs).keeps h⟩
 | itr k v l left i =>
  obtain⟨r,rfl,b,C,cl,H,G,h1,a,f,n,p,q,t,u,y,m⟩:=c;have j:=B2 f;exact⟨r,rfl,b,C,cl,H,G,(d r (.inl rfl)).trans h1,h.O b j a,(h.heap b j a).trans f,n.mono h.O h.heap,p,q,t,u,y,m⟩
 | loop L =>
  obtain⟨b,rfl,h1⟩:=c;exact⟨b,rfl,(d b (.inl rfl)).trans h1⟩
 | dfr =>
  obtain⟨b,rfl,h1⟩:=c;exact⟨b,rfl,(d b (.inl rfl)).trans h1⟩
 | sit sb sp =>
  obtain⟨b,rfl,h1⟩:=c;exact⟨b,rfl,(d b (.inl rfl)).trans h1⟩
theorem BI.block_lt {V:Vw} {o:Obj} {loc:Value} (c:BI V o loc) (a:bk loc b):b<V.w.heap.size:=by
 cases o with
 | arr et e xs =>
  obtain⟨m,cells,⟨h1,f⟩,i⟩:=c;rcases f with ⟨rfl,_⟩|⟨g,cap,h,rfl,q,s,t⟩
  .simp[bk,blk]at a
  grind [bk,blk,B2]
 | box et st fs =>
  obtain⟨h0,d,cs,rfl,h1,f⟩:=c;simp[bk,blk]at a;subst a;exact B2 h1
 | nest et n k e xs j =>
  obtain⟨o,ins,cells,hs,h1⟩:=c;exact h1.block_lt (hs.bk.1 a)
 | mapo k v l =>
  obtain⟨d,es,cl,rfl,h1,f⟩:=c;simp[bk,blk]at a;subst a;exact B2 h1
 | frame y fs =>
  obtain⟨rfl,h1⟩:=c;simp[bk,blk]at a
 | itr k v l left h =>
  obtain⟨r,rfl,d,p,cl,x,u,h1,-⟩:=c;simp[bk,blk]at a;subst a;exact B2 h1
 | loop L =>
  obtain⟨d,rfl,h1⟩:=c;simp[bk,blk]at a;subst a;exact B2 h1
 | dfr =>
  obtain⟨d,rfl,h1⟩:=c;simp[bk,blk]at a;subst a;exact B2 h1
 | sit sb sp =>
  obtain⟨d,rfl,h1⟩:=c;simp[bk,blk]at a;subst a;exact B2 h1
section
variable {α:Type}
theorem BJ (k:Nat):∀(l r:List (Nat×α)),lk k (l++r)=(lk k l).or (lk k r)
 | [],_=>by simp[lk]
 | (j,v) :: l,r=>by
  simp only[To,lk];split
  .simp
  exact BJ k l r
theorem Gg (k n:Nat) (u:α):∀l:List (Nat×α),lk k (upd n u l)=if k=n then (lk n l).map (λ_=>u) else lk k l
 | []=>by simp[lk,upd]
 | (j,v) :: l=>by
  simp only[upd];by_cases hn:n=j
  .subst hn;by_cases hk:k=n
   .subst hk;simp[lk]
   simp[lk,hk,Gg k n u l]
  simp only[As hn,lk];by_cases hk:k=n
  .subst hk;simp[hn,Gg k k u l]
  by_cases a:k=j
  .subst a;simp[hk]
  simp[hk,a,Gg k n u l]
theorem Rx (k n:Nat):∀l:List (Nat×α),lk k (del n l)=if k=n then none else lk k l
 | []=>by simp[lk,del]
 | (j,v) :: l=>by
  simp only[del];by_cases hn:n=j
  .subst hn;rw[At rfl,Rx k n l];grind [lk]
  rw[As hn];simp only[lk,Rx k n l];grind
end
end
section
open Go Go.RowKit
def D5 (σ:St) (obs:List (Nat×Obj)):St:=⟨σ.env,obs++σ.objs⟩
structure QS (w:World) (O0:Nat->Prop) (σ:St) (ρ:Nat->Value) (v:AV) (obs:List (Nat×Obj)) (u:Value) (ρ':Nat->Value) (w':World):Prop where
 below:Below w.heap.size w w'
 rho:∀n,lk n obs=none->ρ' n=ρ n
 av:CD (vw w' O0 (D5 σ obs) ρ') v u
 obj:∀n o,lk n obs=some o->BI (vw w' O0 (D5 σ obs) ρ') o (ρ' n)
 new:∀n o b,lk n obs=some o->bk (ρ' n) b->w.heap.size<=b
 dist:∀n m o o' b,lk n obs=some o->lk m obs=some o'->bk (ρ' n) b->bk (ρ' m) b->n=m
theorem Ff {α:Type} {k:Nat} {v:α}:∀ {l:List (Nat×α)},lk k l=some v->(k,v)∈l
 | (j,u) :: l,h=>by
  simp only[lk]at h;split at h
  .grind
  exact GO _ (Ff h)
theorem Ov {obs:List (Nat×Obj)} {σ:St} (h:Bp obs σ=true) {n:Nat} {o:Obj} (hn:lk n obs=some o):lk n σ.objs=none:=by
 simp only[Bp,OF]at h;simpa using h _ (Ff hn)
theorem MX {σ:St} {obs:List (Nat×Obj)} {n:Nat} (h:HV (D5 σ obs) n):(∃o,lk n obs=some o)\/(lk n obs=none/\HV σ n):=by
 obtain⟨o,h⟩:=h;simp only[D5,BJ]at h;cases a:lk n obs with
 | some b=>exact .inl ⟨b,rfl⟩
 | none=>rw[a]at h;exact .inr ⟨rfl,o,by simpa using h⟩
theorem Z6 {σ:St} {obs:List (Nat×Obj)} (hf:Bp obs σ=true) {n:Nat} (h:HV σ n):HV (D5 σ obs) n/\lk n obs=none:=by
 obtain⟨o,h⟩:=h;have hn:lk n obs=none:=by
  cases a:lk n obs with
  | none=>rfl
  | some b=>have:=Ov hf a;rw[this]at h;cases h
 exact⟨⟨o,by simp[D5,BJ,hn,h]⟩,hn⟩
theorem IJ {w':World} {O0:Nat->Prop} {σ:St} {ρ ρ':Nat->Value} {obs:List (Nat×Obj)} (hf:Bp obs σ=true)
  (hb:Below w.heap.size w w') (hr:∀n,lk n obs=none->ρ' n=ρ n) (hn:∀n o b,lk n obs=some o->bk (ρ' n) b->w.heap.size<=b) :
  C3 (vw w O0 σ ρ) (vw w' O0 (D5 σ obs) ρ') where
 O:=by
  intro b hlt hO hO';rcases hO' with h0|⟨n,hl,hb'⟩
  .exact hO (.inl h0)
  rcases MX hl with ⟨o,ho⟩|⟨hno,hl'⟩
  .have:=hn n o b ho hb';have hlt:b<w.heap.size:=hlt;omega
  exact hO (.inr ⟨n,hl',by rw[<-hr n hno];exact hb'⟩)
 L:=λn h=>(Z6 hf h).1
 ρ:=λn h=>hr n (Z6 hf h).2
 heap:=λb hlt _=>hb.block b hlt
theorem QS.keeps {w':World} {O0:Nat->Prop} {σ:St} {ρ ρ':Nat->Value} {v:AV} {obs:List (Nat×Obj)} (hf:Bp obs σ=true) (h:QS w O0 σ ρ v obs u ρ' w') :
  C3 (vw w O0 σ ρ) (vw w' O0 (D5 σ obs) ρ'):=IJ hf h.below h.rho h.new
theorem Frm.below {K:Nat->Prop} {w0 w w':World} (h:Frm K w0 w) (hb:Below w.heap.size w w') (hK:∀b,K b->b<w0.heap.size):Frm K w0 w' where
 os:=hb.os.trans h.os
 tape:=hb.tape.trans h.tape
 output:=hb.output.trans h.output
 size:=iN h.size hb.size
 block:=λk hk=>(hb.block k (ACb (hK k hk) h.size)).trans (h.block k hk)
theorem P9 (a:Act) (dst:Option Tmp) (u:Value):(a.put dst u).tmps.size=a.tmps.size:=by
 cases dst<;>simp[Act.put]
theorem K4 (a:Act) (dst:Option Tmp) (u:Value):(a.put dst u).defers=a.defers:=by cases dst<;>rfl
theorem Nb (a:Act) (d:Nat) (u:Value) (s:Nat) (b:d<a.tmps.size):(a.put (some d) u).tmps.getD s undef=if s=d then u else a.tmps.getD s undef:=by
 by_cases h:s=d
 .subst h;simp[Act.put,b]
 have:¬d=s:=λe=>h e.symm;simp[Act.put,h,this,Array.getElem?_setIfInBounds]
theorem CG.add {w0:World} {K O0:Nat->Prop} {nt:Nat} {ds:Fp} {σ:St} {ρ:Nat->Value} {a:Act} {w:World} (h:CG w0 K O0 nt ds σ ρ a w)
  (H:∀b,K b->b<w0.heap.size) (L:∀b,O0 b->b<w0.heap.size) {dst:Option Nat} (I:∀d,dst=some d->d<nt)
  {v:AV} {obs:List (Nat×Obj)} {ρ':Nat->Value} {w':World} (hf:Bp obs σ=true) (c:QS w O0 σ ρ v obs u ρ' w') :
  CG w0 K O0 nt ds (σ.add v obs dst) ρ' (a.put dst u) w':=by
 have hk:=c.keeps hf;have E:(σ.add v obs dst).objs=obs++σ.objs:=by cases dst<;>rfl
 have l:∀n,HV (σ.add v obs dst) n↔HV (D5 σ obs) n:=λn=>by simp[HV,E,D5]
 have F:vw w' O0 (σ.add v obs dst) ρ'=vw w' O0 (D5 σ obs) ρ':=by
  have k:HV (σ.add v obs dst)=HV (D5 σ obs):=funext λn=>propext (l n);have g:own O0 (σ.add v obs dst) ρ'=own O0 (D5 σ obs) ρ':=by grind [own]
  simp only[vw,k,g]
 refine⟨h.frm.below c.below H,by rw[P9];exact h.nt,by rw[K4];exact h.defers,λp J=>?_,?_,?_,?_,?_⟩
 .obtain⟨h1,j,G⟩:=h.pin p J;have B:=Z6 hf h1;exact⟨(l p.1).2 B.1,(c.rho _ B.2).trans j,G⟩
 .intro n o g;rw[E,BJ]at g;rw[F];cases r:lk n obs with
  | some z=>rw[r]at g;cases g;exact c.obj n _ r
  | none =>
   rw[r]at g;have q:lk n σ.objs=some o:=by simpa using g
   rw[c.rho n r];refine(h.objs n o q).keeps hk λb f=>?_;exact c.below.block b ((h.objs n o q).block_lt f)
 .intro n b k f;rcases MX ((l n).1 k) with ⟨o,g⟩|⟨t,y⟩
  .have M:=c.new n o b g f;have:=h.frm.size;grind
  rw[c.rho n t]at f;exact h.free n b y f
 .intro n m b k y f i;rcases MX ((l n).1 k) with ⟨o,g⟩|⟨t,hn⟩<;>rcases MX ((l m).1 y) with ⟨z,q⟩|⟨D,C⟩
  .exact c.dist n m o z b g q f i
  .have h1:=c.new n o b g f;rw[c.rho m D]at i;obtain⟨A,j⟩:=C;have:=(h.objs m A j).block_lt i;have:b<w.heap.size:=this;omega
  .have h1:=c.new m z b q i;rw[c.rho n t]at f;obtain⟨A,j⟩:=hn;have:=(h.objs n A j).block_lt f;have:b<w.heap.size:=this;omega
  rw[c.rho n t]at f;rw[c.rho m D]at i;exact h.dist n m b hn C f i
 intro s x hs;rw[F];cases dst with
 | none=>exact(h.env s x hs).keeps hk
 | some d =>
  simp only[St.add,lk]at hs;rw[Nb a d u s (by rw[h.nt];exact I d rfl)];split at hs
  .rename_i e;cases hs;rw[At e];exact c.av
  rename_i e;rw[As e];exact(h.env s x hs).keeps hk
theorem QS.still {O0:Nat->Prop} {σ:St} {ρ:Nat->Value} {v:AV} (h:CD (vw w O0 σ ρ) v u):QS w O0 σ ρ v [] u ρ w where
 below:=Below.refl _ _
 rho:=λ_ _=>rfl
 av:=h
 obj:=λ_ _ h=>by cases h
 new:=λ_ _ _ h=>by cases h
 dist:=λ_ _ _ _ _ h=>by cases h
def E3 (ρ:Nat->Value) (n:Nat) (x:Value):Nat->Value:=λm=>if m=n then x else ρ m
theorem Bz (ρ:Nat->Value) (n:Nat) (x:Value):E3 ρ n x n=x:=by simp[E3]
theorem QS.one {w':World} {O0:Nat->Prop} {σ:St} {ρ:Nat->Value} {v:AV} {loc:Value} {n:Nat} {o:Obj} (hb:Below w.heap.size w w')
  (hnew:∀b,bk loc b->w.heap.size<=b)
  (hav:CD (vw w' O0 (D5 σ [(n,o)]) (E3 ρ n loc)) v u)
  (hobj:BI (vw w' O0 (D5 σ [(n,o)]) (E3 ρ n loc)) o loc):QS w O0 σ ρ v [(n,o)] u (E3 ρ n loc) w' where
 below:=hb
 rho:=λm hm=>by grind [lk,E3]
 av:=hav
 obj:=λm o' hm=>by grind [lk,Bz]
 new:=λm o' b hm hb'=>by grind [lk,Bz]
 dist:=λm m' o1 o2 b h1 h2 _ _=>by grind [lk]
end
section
open Go Go.RowKit
theorem BP {t:Ty} {p:PV} {d:t.den} (h:Bh t p=some d):p=⟨t,d⟩:=by
 obtain⟨u,x⟩:=p;grind [Bh]
theorem B3 {e a:Ty} {xs:List a.den} {ys:List e.den} (h:Bh (.slice e) ⟨.slice a,xs⟩=some ys):a=e/\HEq xs ys:=by
 have b:=BP h;grind
theorem Ow {α:Type} (xs:List α) {lo:Nat} (h:c<=xs.length):(sub xs lo c).length=c-lo:=by
 simp[sub];omega
theorem Z7 {α:Type} (xs:List α) (lo hi i:Nat) {x:α} (h:(sub xs lo hi)[i]?=some x):xs[lo+i]?=some x/\i<hi-lo:=by grind [sub]
theorem qS {O':Nat->Prop} {et:TypeId} {e:Ty} {xs:List e.den} {loc:Value} {cells:List Value} {lo:Nat} (y:∀b,blk loc=some b->¬O' b)
  (G:xs.length<=AP) (h:w.ownsRow 0 et e.size loc xs.length cells) (p:D1 w O' e cells xs) (z:Di loc e.size lo c v):B6 w O' (.slice e) [v] (sub xs lo c):=by
 obtain⟨a,m,hi,j,E,q,k,l,rfl,o,h0,h1⟩:=z;have u:m=xs.length:=by
  rcases h.2 with ⟨d,hn⟩|⟨g,cap,n,d,_⟩
  .grind
  rw[j]at d;injection d
 subst u;have f:=Ow xs (lo:=lo) q;refine⟨k,l,by rw[f],by rw[f];exact o,by rw[f];omega,?_⟩;by_cases t:lo<c
 .right;rcases h.2 with ⟨d,hn⟩|⟨g,cap,n,d,r⟩
  .omega
  have C:=World.ownsRow.cells h (g:=g) (by rw[d];rfl);have ha:a=some ⟨g,0,none⟩:=by rw[j]at d;injection d
  subst ha;refine⟨_,h1 t,y _ (by rw[d];simp only[blk,CF]),λi x s=>?_⟩;obtain⟨A,F⟩:=Z7 xs lo c i s;obtain⟨es,D,B,H⟩:=p (lo+i) x A;grind [C6]
 simp_all
theorem Hu {et:TypeId} {sz:Nat} {s:Value} {xs:List Value} (h:w.ownsRow b et sz s n xs):plc s=s:=by
 rcases h.2 with ⟨rfl,_⟩|⟨g,cap,a,rfl,_⟩<;>rfl
theorem UT {V:Vw} {et:TypeId} {e:Ty} {xs:List e.den} {loc:Value} (h:BI V (.arr et e xs) loc):plc loc=loc:=by
 obtain⟨_,_,h,_⟩:=h;exact Hu h
theorem Z8 {V:Vw} {O':Nat->Prop} (g:∀b,¬V.O b->¬O' b) {et:TypeId} {e:Ty} {xs:List e.den} {loc:Value} {lo hi:Nat} (m:∀b,blk loc=some b->¬O' b)
  (a:BI V (.arr et e xs) loc) (c:Di (plc loc) e.size lo hi v):B6 V.w O' (.slice e) [v] (sub xs lo hi):=by
 rw[UT a]at c;obtain⟨k,cells,l,j⟩:=a;exact qS m k l (λi x hi=>let ⟨es,h1,d,f⟩:=j i x hi;⟨es,h1,d,f.mono (λb _ h=>g b h) (λ_ _ _=>rfl)⟩) c
theorem Gh {et:TypeId} {sz n:Nat} {s:Value} {xs:List Value} (h:w.ownsRow 0 et sz s n xs):Di s sz 0 n s:=by
 rcases h.2 with ⟨rfl,hn⟩|⟨g,cap,a,rfl,_,_,b,_⟩
 .exact⟨none,0,0,rfl,O1,O1,none,0,by rw[hn],O1,λ_=>⟨rfl,rfl⟩,λh=>by omega⟩
 exact⟨some ⟨g,0,none⟩,n,cap,rfl,O1,O1,some ⟨g,0,none⟩,cap,sc,O1,λ_=>⟨rfl,rfl⟩,λ_=>by simp[NY]⟩
theorem X9 {V:Vw} {O':Nat->Prop} (c:∀b,¬V.O b->¬O' b) {et:TypeId} {e:Ty} {xs:List e.den} (d:∀b,blk u=some b->¬O' b) (h:Rw V et e xs u):B6 V.w O' (.slice e) [u] xs:=by
 have h1:=h;obtain⟨_,_,a,_⟩:=h1;have:=Z8 (V:=V) c d (et:=et) (e:=e) (xs:=xs) (loc:=u) h (by rw[Hu a];exact Gh a)
 rwa [JB]at this
theorem K5 {et:TypeId} {sz m c:Nat} {xs:List Value} (h:w.ownsRow b et sz (.slice a m c) n xs):m=n:=by
 rcases h.2 with ⟨base,hn⟩|⟨g,cap,d,base,_⟩
 .injection base;omega
 injection base
theorem Z9 {V:Vw} {e:Ty} {xs:List e.den} {len:Nat} (b:Lay u (.slice a len c)) (h:Rw V f e xs u):len=xs.length:=by
 obtain⟨_,j,d,_⟩:=h;rcases b with rfl|⟨rfl,g,i⟩
 .exact K5 d
 grind [K5]
theorem A0o {V:Vw} {j:TypeId} {e:Ty} {xs:List e.den} (g:Lay u v) (h:Rw V j e xs u):∃(a:Option Addr) (c:Nat),v=.slice a xs.length c:=by
 rcases g with rfl|⟨rfl,a,rfl⟩
 .obtain⟨_,k,f,_⟩:=h;obtain⟨_,_,_,_,_,_,b,d,i,_⟩:=Gh f;exact⟨b,d,i⟩
 have hn:=Z9 (.inr ⟨rfl,a,rfl⟩) h;exact⟨a,0,by rw[<-hn]⟩
theorem qT {V:Vw} {O':Nat->Prop} {e:Ty} {xs:List e.den} (b:Lay u v) (h:Rw V f e xs u) (c:B6 V.w O' (.slice e) [u] xs):B6 V.w O' (.slice e) [v] xs:=by
 rcases b with rfl|⟨rfl,a,rfl⟩
 .exact c
 have hn:=Z9 (.inr ⟨rfl,a,rfl⟩) h;have d:xs=[]:=AAs hn.symm;subst d;exact⟨a,0,rfl,Of _,sc,.inl rfl⟩
theorem Ox {V:Vw} {O':Nat->Prop} (g:∀b,¬V.O b->¬O' b) {et p:TypeId} {k e:Ty} {xs:List (k.den×List e.den)} {o:Value} {ins cells:List Value} (h:Lu V et p k e xs none o ins cells)
  (n:∀(i b:Nat) (u:Value),ins[i]?=some u->blk u=some b->¬O' b):D1 V.w O' (.agg (.prod k (.slice e))) cells xs:=by
 intro i x hi;have j:i<ins.length:=by rw[h.len];exact(aT.1 hi).1
 obtain⟨c1,v,h1,d,a⟩:=h.row i x ins[i] hi (AT j);rcases a with ⟨a,_⟩|⟨_,l,f⟩
 .cases a
 have m:=qT l f (X9 g (λb c=>n i b _ (AT j) c) f);refine⟨c1++[v],by simp[Ty.size,d.length],h1,?_⟩;exact(⟨c1,[v],rfl,d.mono (λb _ c=>g b c) (λ_ _ _=>rfl),m⟩:B6 V.w O' (.prod k (.slice e)) _ x)
theorem eJ {V:Vw} {O':Nat->Prop} (f:∀b,¬V.O b->¬O' b) {et l:TypeId} {k e:Ty} {xs:List (k.den×List e.den)} {loc:Value} {lo hi:Nat} (a:∀b,bk loc b->¬O' b)
  (j:BI V (.nest et l k e xs none) loc) (c:Di (plc loc) (k.size+1) lo hi v):B6 V.w O' (.slice (.agg (.prod k (.slice e)))) [v] (sub (α:=k.den×List e.den) xs lo hi):=by
 obtain⟨o,ins,cells,hs,h⟩:=j;rw[hs.plc]at c;exact qS (e:=.agg (.prod k (.slice e))) (xs:=xs) (λb g=>a b (hs.bk.2 (BN.2 (.inl g)))) h.max h.own (Ox f h λi b u h1 d=>a b (hs.bk.2 (BN.2 (.inr ⟨i,u,h1,d⟩)))) c
theorem YA {V:Vw} {p:Obj} {loc:Value} {m:Nat} (d:BI V p loc) (h:plc loc=.slice a m c):∃et sz cells,V.w.ownsRow 0 et sz (.slice a m c) m cells/\m<=AP:=by
 cases p with
 | arr et e xs =>
  have h1:=UT d;obtain⟨r,cells,i,_⟩:=d;rw[h1]at h;subst h;have j:m=xs.length:=by
   rcases i.2 with ⟨f,hn⟩|⟨g,cap,q,f,_⟩
   .injection f;omega
   injection f
  subst j;exact⟨et,_,cells,i,r⟩
 | nest et u k e xs s =>
  obtain⟨o,ins,cells,hs,n⟩:=d;rw[hs.plc]at h;subst h;have i:=n.own;have j:m=xs.length:=by
   rcases i.2 with ⟨f,hn⟩|⟨g,cap,q,f,_⟩
   .injection f;omega
   injection f
  subst j;exact⟨et,_,cells,i,n.max⟩
 | box et st fs=>obtain⟨_,b,cs,rfl,_⟩:=d;cases h
 | mapo k v l=>obtain⟨b,_,_,rfl,_⟩:=d;cases h
 | frame B fs=>obtain⟨rfl,_⟩:=d;cases h
 | loop L=>obtain⟨b,rfl,_⟩:=d;cases h
 | itr x A y z t=>obtain⟨b,rfl,_⟩:=d;cases h
 | dfr=>obtain⟨b,rfl,_⟩:=d;cases h
 | sit sb sp=>obtain⟨b,rfl,_⟩:=d;cases h
theorem Nc {V V':Vw} (c:V'.w=V.w) (d:V'.O=V.O) {et f:TypeId} {k e:Ty} {xs:List (k.den×List e.den)} {loc:Value} (s:BI V (.nest et f k e xs h) loc):BI V' (.nest et f k e xs h) loc:=by
 obtain⟨o,ins,cells,q,a⟩:=s;refine⟨o,ins,cells,q,a.max,a.len,by rw[c];exact a.own,λi x u h1 g=>?_,a.dist,a.out⟩;obtain⟨c1,v,j,l,b⟩:=a.row i x u h1 g;refine⟨c1,v,j,by rw[c,d];exact l,?_⟩;rcases b with b|⟨b,m,r,t,n,p⟩
 .exact .inl b
 exact .inr ⟨b,m,r,t,by rw[c];exact n,by rw[c,d];exact p⟩
theorem wU {V V':Vw} (d:V'.w=V.w) (g:∀b,¬V.O b->¬V'.O b) {et j:TypeId} {k e:Ty} {xs:List (k.den×List e.den)} {loc:Value} (B:BI V (.nest et j k e xs h) loc):BI V' (.nest et j k e xs h) loc:=by
 obtain⟨o,ins,cells,z,a⟩:=B;refine⟨o,ins,cells,z,a.max,a.len,by rw[d];exact a.own,λi x u h1 p=>?_,a.dist,a.out⟩;obtain⟨c1,v,q,r,c⟩:=a.row i x u h1 p;refine⟨c1,v,q,r.mono (λb _ f=>g b f) (λb _ _=>by rw[d]),?_⟩;rcases c with c|⟨c,s,A,C,t,y⟩
 .exact .inl c
 refine .inr ⟨c,s,A,C,by rw[d];exact t,λi x hi=>?_⟩;obtain⟨es,l,m,n⟩:=y i x hi;exact⟨es,l,m,n.mono (λb _ f=>g b f) (λb _ _=>by rw[d])⟩
theorem aA {V:Vw} {et:TypeId} {k e:Ty} {xs:List (k.den×List e.den)} {loc:Value} {c:Array Value} {i:Nat} {z:k.den×List e.den}
  (d:BI V (.nest et g k e xs h) loc) (f:loc=.tuple c) (a:c[i+1]?=some v):xs[i]?=some (xs.getD i z):=by
 obtain⟨o,ins,cells,hs,h⟩:=d;obtain rfl:=hs.tup f;have a:ins[i]?=some v:=by simpa using a
 have b:i<xs.length:=by rw[<-h.len];exact(aT.1 a).1
 rw[AT b,AS,AT b];rfl
theorem A4I {V:Vw} {t:Obj} {loc u v:Value} {w:Array Value} {i len c:Nat} (d:BI V t loc) (z:loc=.tuple w) (f:w[i+1]?=some u) (j:Lay u v) (s:v=.slice a len c):len<=AP:=by
 subst z;cases t with
 | arr et e xs =>
  obtain⟨E,cells,y,_⟩:=d;rcases y.2 with ⟨r,_⟩|⟨g,cap,B,r,_⟩<;>cases r
 | nest et G k e xs D =>
  obtain⟨o,ins,cells,hs,q⟩:=d;obtain rfl:=hs.tup rfl;have f:ins[i]?=some u:=by simpa using f
  have x:i<xs.length:=by rw[<-q.len];exact(aT.1 f).1
  obtain⟨c1,N,h1,C,m⟩:=q.row i xs[i] u (AT x) f;rcases m with ⟨_,m⟩|⟨_,_,n⟩
  .subst s;rcases j with p|⟨_,A,p⟩
   .grind
   injection p;omega
  rw[s]at j;rw[Z9 j n];exact n.1
 | box et st fs=>obtain⟨_,b,cs,h,_⟩:=d;cases h
 | mapo k v l=>obtain⟨b,_,_,h,_⟩:=d;cases h
 | frame M fs=>obtain⟨h,_⟩:=d;cases h
 | loop L=>obtain⟨b,h,_⟩:=d;cases h
 | itr H K I J F=>obtain⟨b,h,_⟩:=d;cases h
 | dfr=>obtain⟨b,h,_⟩:=d;cases h
 | sit sb sp=>obtain⟨b,h,_⟩:=d;cases h
theorem A4J {V:Vw} {O':Nat->Prop} (p:∀b,¬V.O b->¬O' b) {et l:TypeId} {k e:Ty} {xs:List (k.den×List e.den)} {loc:Value} {i:Nat} {x:k.den×List e.den} (s:∀b,bk loc b->¬O' b) {u:Value}
  (f:BI V (.nest et l k e xs none) loc) (g:loc=.tuple d) (c:d[i+1]?=some u) (r:Lay u v) (j:xs[i]?=some x):B6 V.w O' (.slice e) [v] x.2:=by
 obtain⟨o,ins,cells,hs,h⟩:=f;obtain rfl:=hs.tup g;have c:ins[i]?=some u:=by simpa using c
 obtain⟨c1,t,h1,m,a⟩:=h.row i x u j c;rcases a with ⟨a,_⟩|⟨_,q,n⟩
 .cases a
 grind [qT,X9,BN]
section
variable {V:Vw} {O':Nat->Prop} {l:Bool} {σ:St}
theorem qU (p:∀b,¬V.O b->¬O' b) (y:l=true->∀b,¬O' b) (s:∀n o,lk n σ.objs=some o->BI V o (V.ρ n))
  {t:Ty} {x:AV} {d:t.den} {cs:List Value} (h:FH l σ t x=some d) (g:GS V x cs):B6 V.w O' t cs d:=by
 unfold FH at h;split at h
 .rename_i u z;have:=BP h;injection this with h1 j
  subst h1;cases j;have g:B6 V.w V.O u cs z:=g;exact g.mono (λb _ D=>p b D) (λ_ _ _=>rfl)
 .rename_i e n A lo hi;split at h
  .rename_i q;obtain⟨r,rfl⟩:=q;have m:=r;obtain⟨v,rfl,_,C,f⟩:=g;cases hn:lk n σ.objs with
   | none=>rw[hn]at h;simp[Pv]at h
   | some o =>
    rw[hn]at h;cases o with
    | box et st fs=>simp[Pv]at h
    | mapo k v l=>simp[Pv]at h
    | frame P fs=>simp[Pv]at h
    | loop L=>simp[Pv]at h
    | itr J N K M H=>simp[Pv]at h
    | dfr=>simp[Pv]at h
    | sit sb sp=>simp[Pv]at h
    | nest et I k B xs m =>
     cases m with
     | some i=>simp[Pv]at h
     | none =>
      simp only[Pv]at h;obtain⟨h1,j⟩:=B3 h;subst h1;cases j;exact eJ p (λb _=>y r b) (s n _ hn) f
    | arr et B xs =>
     simp only[Pv]at h;obtain⟨h1,j⟩:=B3 h;subst h1;cases j;exact Z8 p (λb _=>y m b) (s n _ hn) f
  cases h
 .rename_i e n A i len;split at h
  .rename_i q;obtain⟨m,rfl⟩:=q;obtain⟨v,rfl,_,C,R,a,c,Q,G,F,E,_⟩:=g;cases hn:lk n σ.objs with
   | none=>rw[hn]at h;simp[Rq]at h
   | some o =>
    rw[hn]at h;unfold Rq at h;split at h
    .grind [B3,A4J,aA]
    cases h
  cases h
 .obtain⟨v,rfl,_,f⟩:=g;have f:v=_:=f;subst f;cases h;exact⟨none,0,rfl,sc,by simp[AP],.inl rfl⟩
 cases h
theorem A0p (i:∀b,¬V.O b->¬O' b) (k:l=true->∀b,¬O' b) (j:∀n o,lk n σ.objs=some o->BI V o (V.ρ n)) :
  ∀ {fs:List AV} {t:Ty} {d:t.den} {cs:List Value},Kr l σ fs t=some d->AVCs V fs cs->B6 V.w O' t cs d
 | [],t,d,cs,h,f=>by simp[Kr]at h
 | [x],t,d,cs,h,f=>by
  obtain⟨c1,c2,rfl,h1,e⟩:=f;have e:c2=[]:=e;grind [Kr,qU]
 | x :: y :: r,t,d,cs,h,f=>by
  obtain⟨c1,c2,rfl,h1,e⟩:=f;cases t;case prod a b =>
   simp only[Kr]at h;cases c:FH l σ a x with
   | none=>rw[c]at h;simp[MN]at h
   | some m =>
    cases g:Kr l σ (y :: r) b with
    | none=>rw[c,g]at h;simp[MN]at h
    | some p =>
     rw[c,g]at h;simp only[MN]at h;cases h;exact⟨c1,c2,rfl,qU i k j c h1,A0p i k j g e⟩
  all_goals simp[Kr]at h
theorem A4K {t:Ty} {x:AV} {d:t.den} {v:Value} (h:FH l σ t x=some d) (n:∀u i,x≠.p u i) (e:CD V x v):GS V x [v]/\t.wrap [v]=v:=by
 unfold FH at h;split at h
 .exact absurd rfl (n _ _)
 .obtain⟨b,a,m,c,_,_,_,f,g,rfl,_⟩:=e;refine⟨⟨_,rfl,rfl,?_⟩,rfl⟩;exact⟨b,a,m,c,a4,a4,a4,f,g,rfl,a4⟩
 .obtain⟨b,q,a,c,u,h1,j,k,rfl⟩:=e;exact⟨⟨_,rfl,rfl,b,q,a,c,u,h1,j,k,rfl⟩,rfl⟩
 .have o:v=_:=e;subst o;exact⟨⟨_,rfl,rfl,rfl⟩,rfl⟩
 cases h
theorem Ft (f:∀b,¬V.O b->¬O' b) (k:l=true->∀b,¬O' b) (i:∀n o,lk n σ.objs=some o->BI V o (V.ρ n))
  {t:Ty} {x:AV} {d:t.den} {v:Value} (h:JC l σ t x=some d) (g:CD V x v):Bg V.w O' t v d:=by
 unfold JC at h;split at h
 .rename_i t fs;obtain⟨cs,rfl,q⟩:=g;exact⟨cs,(A0p f k i h q:B6 V.w O' t cs d),rfl⟩
 by_cases j:∃u a,x=.p u a
 .obtain⟨u,a,rfl⟩:=j;have h:Bh t ⟨u,a⟩=some d:=by simpa only[FH] using h
  have:=BP h;injection this with h1 c
  subst h1;cases c;exact Bg.mono (λb _ m=>f b m) (λ_ _ _=>rfl) g
 obtain⟨h1,c⟩:=A4K h (λu a e=>j ⟨u,a,e⟩) g;exact⟨[v],qU f k i h h1,c.symm⟩
end
end
section
open Go Go.RowKit
def aB:Ty->Value->Bool
 | .agg _,.agg _=>true
 | .agg _,_=>false
 | .prod _ _,_=>false
 | _,.agg _=>false
 | _,_=>true
def K6 (P : Program) (id : TypeId) (a b : IntKind) : Prop := ∃ c d : Field, P.underlying id = some (.struct #[c, d]) /\ ((c.name != "_") = true /\ (d.name != "_") = true) /\ (c.offset = 0 /\ d.offset = 1) /\ (P.underlying c.type = some (.int a) /\ P.underlying d.type = some (.int b)) /\ P.stoodInHeld id = false
def VE (P:Program) (id:TypeId):Ty->Nat->Prop
 | .agg (.prod (.int a) (.int b)),0=>K6 P id a b
 | _,_=>True
def isI (k:IntKind):Option TypeDesc->Bool
 | some (.int a)=>k==a
 | _=>false
theorem VG {k:IntKind} {d:Option TypeDesc} (h:isI k d=true):d=some (.int k):=by
 unfold isI at h;grind
def A83 (P:Program) (id:TypeId) (a b:IntKind):Option TypeDesc->Bool
 | some (.struct ⟨[c, d]⟩) => (c.name != "_") && (d.name != "_") && c.offset == 0 && d.offset == 1 && isI a (P.underlying c.type) && isI b (P.underlying d.type) && P.stoodInHeld id == false
 | _=>false
def A0q (P:Program) (id:TypeId):Ty->Nat->Bool
 | .agg (.prod (.int a) (.int b)),0=>A83 P id a b (P.underlying id)
 | _,_=>true
theorem A0r {t:Ty} (h:A0q P f t b=true):VE P f t b:=by
 unfold A0q at h;unfold VE;split at h
 .unfold A83 at h;split at h
  .rename_i a el hu;simp only[An,AAv]at h;obtain⟨⟨⟨⟨⟨⟨h1,c⟩,d⟩,e⟩,id⟩,g⟩,i⟩:=h;exact⟨a,el,hu,⟨h1,c⟩,⟨d,e⟩,⟨VG id,VG g⟩,i⟩
  cases h
 trivial
def EI (P:Program) (tb:Tb) (id:TypeId) (ti:TI):Prop :=
 (((∀p∈ti.offs,p.2≠0)/\0<ti.bytes/\VE P id ti.ty ti.el)/\∃(i:TypeInfo) (z:Value),P.info? id=some i/\i.size=ti.ty.size/\i.bytes=ti.bytes/\i.zero=some z/\z.cells=ti.ty.zero.toArray) /\
 match ti.ty with
 | .int k=>P.underlying id=some (.int k)
 | .bool=>P.underlying id=some .bool
 | .str=>P.underlying id=some .string
 | .slice e=>P.underlying id=some (.slice ti.el)/\∃te,lk ti.el tb.ty=some te/\te.ty=e
 | .agg _=>(∃fs:Array Field,ti.el=0/\P.underlying id=some (.struct fs)/\ti.offs.map some=fs.toList.map λf=>(P.info? f.type).map λi=>(f.offset,i.size)) \/
   ∃n e i,ti.el≠0/\P.underlying id=some (.array n e)/\P.info? e=some i/\ti.offs=(List.range n).map λk=>(k*i.size,i.size)
 | .prod _ _=>False
 | .ref j=>∃d,P.underlying id=some d/\(match d with|.struct _=>False|.array _ _=>False|_=>True) /\
   ∀k e,j=2->ti.offs=[(k,e)]->d=.map k e/\∃(a te:TI) (z:Value),lk k tb.ty=some a/\lk e tb.ty=some te/\(∃i,P.info? e=some i/\i.zero=some z)/\z.cells=te.ty.zero.toArray/\aB te.ty z=true
def DI (P:Program) (tb:Tb):Prop:=∀id ti,lk id tb.ty=some ti->EI P tb id ti
def A0s:Value->Value->Bool
 | .int k n,.int c d=>k==c&&n==d
 | .bool a,.bool b=>a==b
 | .string s,.string e=>s.size==0&&e.size==0
 | .slice none 0 0,.slice none 0 0=>true
 | .pointer none,.pointer none=>true
 | .nilFunc,.nilFunc=>true
 | .map none,.map none=>true
 | .nilIface,.nilIface=>true
 | _,_=>false
theorem A0t {a b:Value} (h:A0s a b=true):a=b:=by
 unfold A0s at h;split at h
 .grind
 .grind
 .simp_all
 .rfl
 .rfl
 .rfl
 .rfl
 .rfl
 cases h
def Oy:List Value->List Value->Bool
 | [],[]=>true
 | a :: l,b :: r=>A0s a b&&Oy l r
 | _,_=>false
theorem Ry:∀ {l r:List Value},Oy l r=true->l=r
 | [],[],_=>rfl
 | a :: l,b :: r,h=>by
  simp only[Oy,An]at h;rw[A0t h.1,Ry h.2]
 | [],_ :: _,h=>by simp[Oy]at h
 | _ :: _,[],h=>by simp[Oy]at h
def A84 (ty:Ty) (bytes:Nat):Option TypeInfo->Bool
 | some i=>i.size==ty.size&&i.bytes==bytes&&(match i.zero with|some z=>Oy z.cells.toList ty.zero|none=>false)
 | none=>false
def AAB (offs:List (Nat×Nat)) (n:Nat):Option TypeInfo->Bool
 | some i=>offs==(List.range n).map λk=>(k*i.size,i.size)
 | none=>false
def A85 (e:Nat) (te:Option TI):Option TypeInfo->Bool
 | some i=>match i.zero,te with|some z,some te=>Oy z.cells.toList te.ty.zero&&aB te.ty z|_,_=>false
 | none=>false
def A8A (P:Program) (tb:Tb) (j:Nat) (d:TypeDesc):List (Nat×Nat)->Bool
 | [(k,e)]=>j != 2||(match d with|.map b a=>b==k&&a==e&&(lk k tb.ty).isSome&&A85 e (lk e tb.ty) (P.info? e)|_=>false)
 | _=>true
theorem A4L {tb:Tb} {j:Nat} {d:TypeDesc} {offs:List (Nat×Nat)} (h:A8A P tb j d offs=true):∀k e,j=2->offs=[(k,e)]->d=.map k e/\∃(a te:TI) (z:Value),lk k tb.ty=some a/\lk e tb.ty=some te/\(∃i,P.info? e=some i/\i.zero=some z)/\z.cells=te.ty.zero.toArray/\aB te.ty z=true:=by
 rintro k e rfl rfl;simp only[A8A,bne_self_eq_false,Bool.false_or]at h;split at h
 .simp only[An,AAv]at h;obtain⟨⟨⟨rfl,rfl⟩,b⟩,c⟩:=h;refine⟨rfl,?_⟩;obtain⟨a,f⟩:=ADd.1 b;unfold A85 at c;grind [Ry]
 cases h
def AAC (P:Program) (tb:Tb) (ti:TI):Ty->Option TypeDesc->Bool
 | .int k,some (.int a)=>k==a
 | .bool,some .bool=>true
 | .str,some .string=>true
 | .slice e,some (.slice el)=>el==ti.el&&(match lk ti.el tb.ty with|some te=>decide (te.ty=e)|none=>false)
 | .agg _,some (.struct fs)=>ti.el==0&&ti.offs.map some==fs.toList.map λf=>(P.info? f.type).map λi=>(f.offset,i.size)
 | .agg _,some (.array n e)=>ti.el != 0&&AAB ti.offs n (P.info? e)
 | .ref _,some (.struct _)=>false
 | .ref _,some (.array _ _)=>false
 | .ref j,some d=>A8A P tb j d ti.offs
 | _,_=>false
def tiB (P:Program) (tb:Tb) (id:TypeId) (ti:TI):Bool:=((ti.offs.all λp=>p.2 != 0)&&(decide (0<ti.bytes)&&A0q P id ti.ty ti.el))&&A84 ti.ty ti.bytes (P.info? id)&&AAC P tb ti ti.ty (P.underlying id)
theorem A8B {tb:Tb} {ti:TI} (h:tiB P tb f ti=true):EI P tb f ti:=by
 simp only[tiB,An]at h;obtain⟨⟨⟨h0,c,d⟩,h1⟩,a⟩:=h;refine⟨⟨⟨λp id=>by simpa using (OF.1 h0) p id,by simpa using c,A0r d⟩,?_⟩,?_⟩
 .unfold A84 at h1;grind [Ry]
 generalize hu:P.underlying f=u at a;generalize ti.ty=t at a;cases t<;>cases u<;>simp only[AAC]at a<;>try(cases a;done)
 all_goals
  rename_i u;cases u<;>simp only at a<;>try(cases a;done)
 .grind
 .rfl
 .rfl
 .grind
 .rename_i n e;simp only[An,AE4]at a;obtain⟨b,a⟩:=a;unfold AAB at a;split at a
  .rename_i i hi;exact .inr ⟨_,_,i,b,rfl,hi,by simpa using a⟩
  cases a
 .grind
 all_goals exact⟨_,rfl,trivial,A4L a⟩
theorem A4M {tb:Tb} (h:(tb.ty.all λp=>tiB P tb p.1 p.2)=true):DI P tb:=λid ti hi=>by
 rw[OF]at h;exact A8B (h _ (Ff hi))
def Ty.isAgg:Ty->Bool
 | .agg _=>true
 | .int _=>false
 | .bool=>false
 | .str=>false
 | .slice _=>false
 | .prod _ _=>false
 | .ref _=>false
section
variable {P:Program} {tb:Tb} {id:TypeId} {ti:TI} (w:World)
theorem MY {i:TypeInfo} (h:P.info? id=some i):(typeInfo id).run P w=.ok i w:=by simp[typeInfo,h]
theorem A4N (h:EI P tb id ti):(isAgg id).run P w=.ok ti.ty.isAgg w:=by
 obtain⟨_,a⟩:=h;cases c:ti.ty<;>rw[c]at a<;>simp only at a;case agg =>
  rcases a with ⟨fs,_,hu,_⟩|⟨n,e,_,_,hu,_⟩<;>simp[isAgg,iS hu,Ty.isAgg]
 case slice=>simp[isAgg,iS a.1,Ty.isAgg]
 case ref k =>
  obtain⟨d,hu,b,_⟩:=a;cases d<;>first|exact b.elim|simp[isAgg,iS hu,Ty.isAgg]
 all_goals simp[isAgg,iS a,Ty.isAgg]
theorem IK (h:EI P tb id ti):(sizeOf id).run P w=.ok ti.ty.size w:=by
 obtain⟨⟨_,i,z,h1,a,_⟩,_⟩:=h;simp[sizeOf,MY w h1,a]
theorem EI.noprod (h:EI P tb id ti) {a b:Ty}:ti.ty≠.prod a b:=by
 intro e;have:=h.2;rw[e]at this;exact this
theorem eL (h:EI P tb id ti) {ad:Addr} {cs:List Value} (d:cs.length=ti.ty.size) (e:∀(j:Nat) (u:Value),cs[j]?=some u->w.cell? (ad.add j)=some u) :
  (loadVar id ad).run P w=.ok (ti.ty.wrap cs) w:=by
 have i:=λa b=>h.noprod (a:=a) (b:=b);simp only[loadVar,ACc,A4N w h,AAM];cases f:ti.ty;case prod a b=>exact absurd f (i a b)
 case agg u =>
  have g:ti.ty.size=cs.length:=d.symm;simp only[Ty.isAgg,ACk,ACc,IK w h,AAM,g,run_loadCells_list w ad cs e,Ty.wrap];rfl
 all_goals
  rw[f]at d;obtain⟨c,rfl⟩:=ACz.1 d;have h0:=e 0 c rfl;rw[NY]at h0;simp[Ty.isAgg,Ty.wrap,h0]
theorem Gi (h:EI P tb id ti) {ad:Addr} {cs:List Value} (b:cs.length=ti.ty.size) (a:∀(j:Nat) (u:Value),cs[j]?=some u->w.cell? (ad.add j)=some u) :
  (Instr.loadAt id (.pointer (some ad))).run P w=.ok (ti.ty.wrap cs) w:=by
 simp[Instr.loadAt,Instr.sureAddr,eL w h b a]
end
end
end Go.Proofs.YtddbnflakbngaaaGreatDoor.Fw
