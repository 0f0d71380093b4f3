/- Typed values, how they lie in memory, the executor's words and the table of types: what they mean. -/
import Derived.ProofKit
import Derived.Orders
import Derived.Laws.AppendOwn
import Derived.Laws.MakeOwn
import Derived.Laws.OwnMore
set_option linter.unusedVariables false
set_option linter.unusedSimpArgs false
namespace Go.Proofs.YtcmadlghkcjcbaaGreat.Fw
theorem O1 {p:Prop} (h:p:=by omega):p:=h
theorem sc {p:Prop} (h:p:=by simp):p:=h
theorem dc {p:Prop} (h:p:=by decide):p:=h
variable {u v:Value} {Z W:List Value} {c j:TypeId} {b n T:Nat} {O U:Nat->Prop} {w Y R:World} {h:Option Nat} {a:Option Addr} {X V:Nat->Value} {d:Array Value} {P:Program} {S:Type} {Q:Addr}
abbrev AS:=@List.getD_eq_getElem?_getD
abbrev AT:=@List.getElem?_eq_getElem
abbrev An:=@Bool.and_eq_true
abbrev As:=@List.take_of_length_le
abbrev At:=@if_neg
abbrev BY:=@if_pos
abbrev By:=@List.length_append
abbrev DO:=@List.mem_cons
abbrev Do:=@List.mem_map
abbrev Fg:=@List.mem_append
abbrev GO:=@List.length_singleton
abbrev IF:=@Int.ofNat_lt
abbrev IN:=@Nat.le_refl
abbrev IS:=@Classical.byContradiction
abbrev If:=@List.mem_cons_of_mem
abbrev Is:=@List.drop_eq_getElem_cons
abbrev NO:=@List.length_cons
abbrev No:=@List.length_map
abbrev OF:=@Nat.zero_le
abbrev ON:=@decide_eq_true_eq
abbrev OR:=@List.drop_eq_nil_of_le
abbrev OS:=@Option.map_eq_some_iff
abbrev Of:=@List.all_eq_true
abbrev On:=@List.length_take
abbrev RF:=@Nat.le_trans
abbrev RG:=@Int.toNat_natCast
abbrev RH:=@List.mem_singleton
abbrev RI:=@List.append_assoc
abbrev RJ:=@List.foldl_cons
abbrev RK:=@List.take_length
abbrev RL:=@List.getElem?_eq_some_iff
abbrev RM:=@Int.ofNat_le
abbrev RN:=@List.map_congr_left
abbrev RP:=@List.getElem?_eq_none
abbrev RQ:=@Bool.not_eq_true'
abbrev RR:=@Go.run_underlying
abbrev RS:=@List.getElem?_append_right
abbrev RT:=@decide_eq_false_iff_not
abbrev RU:=@List.getElem?_append_left
abbrev RW:=@List.eq_nil_of_length_eq_zero
abbrev RY:=@List.map_append
abbrev RZ:=@List.pairwise_iff_getElem
abbrev Ra:=@List.mem_range
abbrev Rb:=@List.getElem?_map
abbrev Rc:=@Nat.mul_le_mul_right
abbrev Rd:=@List.map_cons
abbrev Re:=@List.any_eq_true
abbrev S6:=@List.append_nil
abbrev S7:=@List.mem_append_left
abbrev S8:=@List.pairwise_cons
abbrev S9:=@List.range_succ
abbrev TA:=@List.length_set
abbrev TB:=@Bool.or_eq_true
abbrev TC:=@Array.getElem?_eq_some_iff
abbrev TD:=@List.getElem?_take
abbrev TE:=@beq_iff_eq
abbrev TF:=@List.length_take_le
abbrev TO:=@List.mem_of_mem_take
abbrev To:=@List.not_mem_nil
abbrev aS:=@List.length_drop
abbrev aT:=@List.getElem_mem
abbrev bY:=@List.pairwise_map
abbrev gO:=@List.mem_iff_getElem
abbrev iF:=@Int.le_refl
abbrev iN:=@List.drop_zero
abbrev iS:=@List.nodup_cons
abbrev nO:=@List.length_nil
abbrev oF:=@Bool.false_eq_true
abbrev oN:=@List.getElem?_set
abbrev oR:=@List.filter_cons
abbrev oS:=@List.ext_getElem
abbrev tO:=@List.mem_iff_getElem?
abbrev AAb:=@List.map_map
abbrev AAd:=@List.getElem?_drop
abbrev AAl:=@Go.Result.andThen_ok
abbrev AAm:=@List.mem_of_getElem?
abbrev AAn:=@List.mem_filter
abbrev AAo:=@Bool.or_eq_false_iff
abbrev AAq:=@Array.getElem?_eq_getElem
abbrev AAu:=@List.nodup_append
abbrev AAv:=@congrArg
abbrev AAx:=@List.length_filter_le
abbrev AAz:=@List.getElem?_replicate
abbrev AAB:=@Option.isNone_iff_eq_none
abbrev AAC:=@List.getElem?_range
abbrev AAD:=@Nat.sub_self
abbrev AAE:=@List.getElem?_append
abbrev AAF:=@if_true
abbrev AAG:=@List.take_zero
abbrev AAH:=@List.mem_append_right
abbrev AAI:=@Nat.min_eq_left
abbrev AAJ:=@Option.some.injEq
abbrev AAU:=@Nat.lt_of_lt_of_le
abbrev AAV:=@if_false
abbrev AAW:=@beq_eq_false_iff_ne
abbrev AAX:=@List.take_succ_cons
abbrev AAY:=@List.set_append_right
abbrev AAZ:=@Go.Sem.run_bind
abbrev AB0:=@List.prefix_refl
abbrev AB1:=@Int.not_lt
abbrev AB2:=@List.pairwise_append
abbrev AB3:=@Nat.succ_mul
abbrev AB4:=@Int.natCast_nonneg
abbrev AB5:=@Int.le_trans
abbrev AB6:=@List.cons_append
abbrev AB7:=@Int.toNat_of_nonneg
abbrev AB8:=@Nat.zero_add
abbrev AB9:=@Nat.pos_of_ne_zero
abbrev ABa:=@List.set_cons_zero
abbrev ABb:=@List.pairwise_singleton
abbrev ABc:=@Option.getD_some
abbrev ABd:=@Int.tdiv_eq_ediv_of_nonneg
abbrev ABe:=@List.foldl_append
abbrev ABf:=@List.drop_succ_cons
abbrev ABg:=@Bool.eq_false_iff
abbrev ABh:=@List.mem_or_eq_of_mem_set
abbrev ABi:=@List.all_cons
abbrev ABj:=@Option.map_some
abbrev ABk:=@Nat.le_antisymm
abbrev ABl:=@List.take_append_drop
abbrev ABm:=@List.nil_append
abbrev ABn:=@List.length_replicate
abbrev ABo:=@Int.add_zero
abbrev ABp:=@Option.isSome_iff_exists
abbrev ABq:=@List.mem_cons_self
abbrev ABr:=@List.filter_append
abbrev ABs:=@List.mem_of_mem_drop
abbrev ABt:=@List.length_range
abbrev ABu:=@List.any_eq_false
abbrev ABv:=@Nat.mul_le_mul_left
abbrev ABw:=@List.cons.injEq
abbrev ABx:=@or_false
abbrev ABy:=@List.length_eq_one_iff
abbrev ABz:=@Int.tmod_eq_emod_of_nonneg
abbrev ABA:=@List.getElem_map
abbrev ABB:=@List.drop_length
abbrev ABC:=@List.countP_cons
abbrev ABD:=@List.mem_filterMap
abbrev ABE:=@List.getElem_range
abbrev ABF:=@ByteArray.size_append
abbrev ABG:=@Bool.and_eq_false_iff
abbrev ABH:=@List.mem_take_iff_getElem
abbrev ABI:=@Array.mapM_eq_mapM_toList
abbrev ABJ:=@BitVec.testBit_toNat
abbrev ABK:=@decide_eq_false
abbrev ABL:=@List.ext_getElem?
abbrev ABN:=@List.map_nil
abbrev ABP:=@List.replicate_succ
abbrev ABQ:=@List.getElem?_cons_zero
abbrev ABR:=@List.drop_left
abbrev ABT:=@Bool.not_eq_false'
abbrev ABU:=@List.any_append
abbrev ABV:=@List.all_append
abbrev ABW:=@Bool.eq_iff_iff
abbrev ABX:=@List.flatMap_cons
abbrev ABY:=@List.all_eq_false
abbrev ABZ:=@decide_eq_true
abbrev AC0:=@List.mem_of_find?_eq_some
abbrev AC1:=@List.foldl_nil
abbrev AC2:=@List.drop_drop
abbrev AC5:=@Nat.lt_succ_iff_lt_or_eq
abbrev AC6:=@Nat.le_of_lt
abbrev AC7:=@Nat.add_sub_cancel_left
abbrev AC8:=@List.filter_nil
abbrev AC9:=@Int.lt_of_le_of_lt
abbrev ACa:=@not_true_eq_false
abbrev ACb:=@bne_iff_ne
abbrev ACc:=@Nat.lt_trichotomy
abbrev ACd:=@Nat.add_mul
abbrev ACe:=@List.replicate_append_replicate
abbrev ACf:=@List.eq_nil_iff_forall_not_mem
abbrev ACg:=@Int.sub_self
abbrev ACh:=@Int.add_comm
abbrev ACi:=@List.exists_mem_of_length_pos
abbrev ACj:=@List.replicate_succ'
abbrev ACk:=@List.mem_erase_of_ne
abbrev ACl:=@Int.lt_add_one_of_le
abbrev ACm:=@Go.World.cell?_of_block
abbrev ACn:=@Prod.mk.injEq
abbrev ACo:=@Int.ofNat.inj
abbrev ACp:=@Int.not_le
abbrev ACq:=@Option.some.inj
abbrev ACr:=@Nat.and_le_left
abbrev ACs:=@Array.length_toList
abbrev ACt:=@Option.isSome_some
abbrev ACu:=@Nat.lt_of_le_of_lt
abbrev ACv:=@List.zip_cons_cons
abbrev ACw:=@List.set_cons_succ
abbrev ACx:=@List.prefix_append
abbrev ACy:=@List.mem_replicate
abbrev ACz:=@List.map_id'
abbrev ACA:=@List.find?_eq_none
abbrev ACB:=@List.countP_append
abbrev ACC:=@Int.toNat_lt
abbrev ACD:=@Int.le_of_lt
abbrev ACE:=@Option.some_or
abbrev ACF:=@List.range_add
abbrev ACG:=@Bool.not_false
abbrev ACH:=@Option.ext
abbrev ACI:=@List.take_add_one
abbrev ACJ:=@List.idxOf_append
abbrev ACK:=@Nat.add_assoc
abbrev ACM:=@Bool.true_and
abbrev ACN:=@Bool.not_true
abbrev ACO:=@Bool.false_or
abbrev ACP:=@Bool.and_comm
abbrev ACQ:=@beq_self_eq_true
abbrev ACR:=@List.perm_middle
abbrev ACS:=@List.mem_flatMap
abbrev ACT:=@List.drop_append
abbrev ACU:=@Nat.zero_mul
abbrev ACV:=@Nat.add_zero
abbrev ACW:=@List.find?_some
abbrev ACY:=@Nat.mod_lt
abbrev ACZ:=@List.map_id
abbrev AD0:=@Prod.ext
inductive Ty where
 | int (k:IntKind)
 | bool
 | str
 | slice (e:Ty)
 | prod (a b:Ty)
 | agg (t:Ty)
 
 | ref (k:Nat)
 deriving DecidableEq
def Ln:Nat->Value
 | 0=>.pointer none
 | 1=>.nilFunc
 | _=>.map none
@[reducible] def Ty.den:Ty->Type
 | .int _=>Int
 | .bool=>Bool
 | .str=>ByteArray
 | .slice e=>List e.den
 | .prod a b=>a.den×b.den
 | .agg t=>t.den
 | .ref _=>Unit
def Ty.size:Ty->Nat
 | .prod a b=>a.size+b.size
 | .agg t=>t.size
 | .int _=>1
 | .bool=>1
 | .str=>1
 | .slice _=>1
 | .ref _=>1
def Ty.dflt:(t:Ty)->t.den
 | .int _=>(0:Int)
 | .bool=>false
 | .str=>ByteArray.empty
 | .slice _=>[]
 | .prod a b=>(a.dflt,b.dflt)
 | .agg t=>t.dflt
 | .ref _=>()
def Ty.zero:Ty->List Value
 | .int k=>[.int k 0]
 | .bool=>[.bool false]
 | .str=>[.string ByteArray.empty]
 | .slice _=>[.slice none 0 0]
 | .prod a b=>a.zero++b.zero
 | .agg t=>t.zero
 | .ref k=>[Ln k]
def Ty.wrap:Ty->List Value->Value
 | .agg _,cs=>.agg cs.toArray
 | .prod _ _,cs=>.agg cs.toArray
 | .int _,cs=>cs.headD undef
 | .bool,cs=>cs.headD undef
 | .str,cs=>cs.headD undef
 | .slice _,cs=>cs.headD undef
 | .ref _,cs=>cs.headD undef
def KS (k:IntKind) (n:Int):Prop:=k.min<=n/\n<=k.max
def AQ:Nat:=140737488355328
def B1 (w:World) (O:Nat->Prop):(t:Ty)->List Value->t.den->Prop
 | .int k,cs,d=>cs=[.int k d]/\KS k d
 | .bool,cs,d=>cs=[.bool d]
 | .str,cs,d=>cs=[.string d]/\ByteArray.size d<=AQ
 | .slice e,cs,d=>∃(a:Option Addr) (c:Nat),cs=[.slice a (List.length d) c]/\List.length d<=c/\List.length d<=AQ /\
   (d=[]\/∃ad:Addr,a=some ad/\¬O ad.block /\
    ∀(i:Nat) (x:e.den),d[i]?=some x->∃f:List Value,f.length=e.size/\(∀(j:Nat) (v:Value),f[j]?=some v->w.cell? (ad.add (i*e.size+j))=some v)/\B1 w O e f x)
 | .prod a b,cs,d=>∃c1 c2:List Value,cs=c1++c2/\B1 w O a c1 d.1/\B1 w O b c2 d.2
 | .agg t,cs,d=>B1 w O t cs d
 | .ref k,cs,_=>cs=[Ln k]
def BU (w:World) (O:Nat->Prop) (t:Ty) (v:Value) (d:t.den):Prop:=∃cs,B1 w O t cs d/\v=t.wrap cs
theorem CP (a:Addr) (n:Nat):(a.add n).block=a.block:=by unfold Addr.add;split<;>rfl
theorem DK (a:Addr) (i j:Nat):(a.add i).add j=a.add (i+j):=by
 unfold Addr.add;grind
theorem NC (a:Addr):a.add 0=a:=rfl
theorem fC (g j:Nat):(⟨g,0,none⟩:Addr).add j=⟨g,j,none⟩:=by
 unfold Addr.add;split<;>simp_all
theorem Js (g i j:Nat):(⟨g,i,none⟩:Addr).add j=⟨g,i+j,none⟩:=by
 unfold Addr.add;split<;>simp_all
theorem Ty.size_pos:∀t:Ty,0<t.size
 | .int _=>by simp[Ty.size]
 | .bool=>by simp[Ty.size]
 | .str=>by simp[Ty.size]
 | .slice _=>by simp[Ty.size]
 | .ref _=>by simp[Ty.size]
 | .prod a b=>by have:=a.size_pos;simp[Ty.size];omega
 | .agg t=>by simpa[Ty.size] using t.size_pos
theorem B1.length {w:World} {O:Nat->Prop}:∀ {t:Ty} {cs:List Value} {d:t.den},B1 w O t cs d->cs.length=t.size
 | .int _,_,_,h=>by obtain⟨rfl,_⟩:=h;rfl
 | .bool,_,_,h=>by have h:_=_:=h;subst h;rfl
 | .str,_,_,h=>by obtain⟨rfl,_⟩:=h;rfl
 | .slice _,_,_,h=>by obtain⟨_,_,rfl,_⟩:=h;rfl
 | .ref _,_,_,h=>by have h:_=_:=h;subst h;rfl
 | .prod a b,_,_,h=>by
  obtain⟨c1,c2,rfl,h1,c⟩:=h;simp[Ty.size,B1.length h1,B1.length c]
 | .agg t,_,_,h=>by
  have h:B1 w O t _ _:=h;simpa[Ty.size] using B1.length h
theorem B1.one {w:World} {O:Nat->Prop}:∀ {t:Ty} {cs:List Value} {d:t.den},B1 w O t cs d->∀v∈cs,v.oneCell'=true
 | .int _,_,_,h=>by obtain⟨rfl,_⟩:=h;simp[Value.oneCell']
 | .bool,_,_,h=>by have h:_=_:=h;subst h;simp[Value.oneCell']
 | .str,_,_,h=>by obtain⟨rfl,_⟩:=h;simp[Value.oneCell']
 | .slice _,_,_,h=>by obtain⟨_,_,rfl,_⟩:=h;simp[Value.oneCell']
 | .ref k,_,_,h=>by
  have h:_=[Ln k]:=h;subst h;match k with
  | 0=>simp[Value.oneCell',Ln]
  | 1=>simp[Value.oneCell',Ln]
  | _+2=>simp[Value.oneCell',Ln]
 | .prod a b,_,_,h=>by
  obtain⟨c1,c2,rfl,h1,e⟩:=h;intro v c;rcases Fg.1 c with c|c
  .exact B1.one h1 v c
  exact B1.one e v c
 | .agg t,_,_,h=>by
  have h:B1 w O t _ _:=h;exact B1.one h
theorem B1.mono {w w':World} {O O':Nat->Prop} (f:∀b,b<w.heap.size->¬O b->¬O' b) (k:∀b,b<w.heap.size->¬O b->w'.heap[b]?=w.heap[b]?) :
  ∀ {t:Ty} {cs:List Value} {d:t.den},B1 w O t cs d->B1 w' O' t cs d
 | .int _,_,_,h=>h
 | .bool,_,_,h=>h
 | .str,_,_,h=>h
 | .ref _,_,_,h=>h
 | .slice e,_,d,h=>by
  obtain⟨a,c,rfl,h1,l,m⟩:=h;refine⟨a,c,rfl,h1,l,?_⟩;rcases m with m|⟨ad,rfl,o,hx⟩
  .exact .inl m
  by_cases hd:d=[]
  .exact .inl hd
  have q:ad.block<w.heap.size:=by
   obtain⟨x,r,rfl⟩:∃x r,d=x :: r:=List.exists_cons_of_ne_nil hd;obtain⟨g,hl,n,_⟩:=hx 0 x rfl;have u:=e.size_pos;have:g[0]?=some (g[0]'(by omega)):=AT O1;have:=block_lt_of_cell (n 0 _ this)
   rwa [CP]at this
  refine .inr ⟨ad,rfl,f _ q o,λi x hi=>?_⟩;obtain⟨g,hl,n,s⟩:=hx i x hi;refine⟨g,hl,λj v p=>?_,B1.mono f k s⟩;rw[ACm (w:=w) (w':=w')]
  .exact n j v p
  grind [CP]
 | .prod a b,_,_,h=>by
  obtain⟨c1,c2,rfl,h1,l⟩:=h;exact⟨c1,c2,rfl,B1.mono f k h1,B1.mono f k l⟩
 | .agg t,_,_,h=>by
  have h:B1 w O t _ _:=h;exact(B1.mono f k h:B1 w' O' t _ _)
theorem BU.mono {w':World} {O':Nat->Prop} (c:∀b,b<w.heap.size->¬O b->¬O' b) (e:∀b,b<w.heap.size->¬O b->w'.heap[b]?=w.heap[b]?)
  {t:Ty} {v:Value} {d:t.den} (h:BU w O t v d):BU w' O' t v d :=
 let ⟨cs,h1,a⟩:=h
 ⟨cs,h1.mono c e,a⟩
theorem B1.zero (w:World) (O:Nat->Prop):∀t:Ty,B1 w O t t.zero t.dflt
 | .int k=>⟨rfl,by cases k<;>exact⟨by decide,by decide⟩⟩
 | .bool=>rfl
 | .str=>⟨rfl,by simp[Ty.dflt,AQ]⟩
 | .slice _=>⟨none,0,rfl,by simp[Ty.dflt],by simp[Ty.dflt,AQ],.inl rfl⟩
 | .ref _=>rfl
 | .prod a b=>⟨_,_,rfl,B1.zero w O a,B1.zero w O b⟩
 | .agg t=>(B1.zero w O t:B1 w O t _ _)
structure PV where
 t:Ty
 d:t.den
def BR (t:Ty) (p:PV):Option t.den:=if h:p.t=t then some (h▸p.d) else none
theorem G4 (t:Ty) (d:t.den):BR t ⟨t,d⟩=some d:=by simp[BR]
def Hh:(t:Ty)->Nat->t.den->Option PV
 | .prod a _,0,d=>some ⟨a,d.1⟩
 | .prod _ b,k+1,d=>Hh b k d.2
 | .int k,0,d=>some ⟨.int k,d⟩
 | .bool,0,d=>some ⟨.bool,d⟩
 | .str,0,d=>some ⟨.str,d⟩
 | .slice e,0,d=>some ⟨.slice e,d⟩
 | .agg t,0,d=>some ⟨.agg t,d⟩
 | .ref k,0,d=>some ⟨.ref k,d⟩
 | _,_,_=>none
def Oc:(t:Ty)->Nat->t.den->PV->Option t.den
 | .prod a _,0,d,x=>(BR a x).map λy=>(y,d.2)
 | .prod _ b,k+1,d,x=>(Oc b k d.2 x).map λy=>(d.1,y)
 | .int k,0,_,x=>BR (.int k) x
 | .bool,0,_,x=>BR .bool x
 | .str,0,_,x=>BR .str x
 | .slice e,0,_,x=>BR (.slice e) x
 | .agg t,0,_,x=>BR (.agg t) x
 | .ref k,0,_,x=>BR (.ref k) x
 | _,_,_,_=>none
def Lj:Ty->Nat->Option Nat
 | .prod _ _,0=>some 0
 | .prod a b,k+1=>(Lj b k).map (a.size + ·)
 | .int _,0=>some 0
 | .bool,0=>some 0
 | .str,0=>some 0
 | .slice _,0=>some 0
 | .agg _,0=>some 0
 | .ref _,0=>some 0
 | _,_=>none
def fD:Ty->Nat->Option Ty
 | .prod a _,0=>some a
 | .prod _ b,k+1=>fD b k
 | .int k,0=>some (.int k)
 | .bool,0=>some .bool
 | .str,0=>some .str
 | .slice e,0=>some (.slice e)
 | .agg t,0=>some (.agg t)
 | .ref k,0=>some (.ref k)
 | _,_=>none
def VY:List Nat->(t:Ty)->t.den->Option PV
 | [],t,d=>some ⟨t,d⟩
 | k :: r,.agg t,d=>match Hh t k d with
  | some pv=>VY r pv.t pv.d
  | none=>none
 | _ :: _,_,_=>none
def YT:List Nat->(t:Ty)->t.den->PV->Option t.den
 | [],t,_,x=>BR t x
 | k :: r,.agg t,d,x=>match Hh t k d with
  | some pv=>match YT r pv.t pv.d x with
   | some y=>Oc t k d ⟨pv.t,y⟩
   | none=>none
  | none=>none
 | _ :: _,_,_,_=>none
def N1:List Nat->Ty->Option Nat
 | [],_=>some 0
 | k :: r,.agg t=>match Lj t k,fD t k with
  | some o,some u=>(N1 r u).map (o + ·)
  | _,_=>none
 | _ :: _,_=>none
inductive AV where
 
 | p (t:Ty) (d:t.den)
 
 | raw (v:Value)
 
 | sr (n:Nat) (e:Ty) (lo hi:Nat)
 
 | ep (n:Nat) (e:Ty) (i:Nat) (path:List Nat) (off:Nat)
 
 | pc (e:Ty) (d:List e.den)
 
 | ip (t:Ty) (d:t.den)
 
 | bp (n:Nat) (path:List Nat) (off:Nat)
 | fn (f:FuncId)
 
 | clo (f:FuncId) (ns:List Nat)
 
 | mp (n:Nat)
 
 | yl (n:Nat)
 
 | nin (n:Nat) (e:Ty) (i len:Nat)
 
 | ag (l:List AV)
 | tup (l:List AV)
 
 | top
inductive Obj where
 | arr (et:TypeId) (e:Ty) (xs:List e.den)
 | box (et:TypeId) (st:Bool) (fs:List AV)
 
 | mapo (k v:Ty) (l:List (k.den×v.den))
 
 | itr (k v:Ty) (l:List (k.den×v.den)) (left:List Nat) (cur:Option Nat)
 
 | nest (et iet:TypeId) (k e:Ty) (xs:List (k.den×List e.den)) (h:Option Nat)
 
 | frame (tm:Array Value) (fs:List (Nat×AV))
 
 | loop (L:Go.Loop)
 
 | dfr
structure St where
 env:List (Nat×AV)
 objs:List (Nat×Obj)
def lk {α:Type}:Nat->List (Nat×α)->Option α
 | _,[]=>none
 | k,(j,v) :: r=>if k=j then some v else lk k r
def del {α:Type}:Nat->List (Nat×α)->List (Nat×α)
 | _,[]=>[]
 | k,(j,v) :: r=>if k=j then del k r else (j,v) :: del k r
def upd {α:Type}:Nat->α->List (Nat×α)->List (Nat×α)
 | _,_,[]=>[]
 | k,u,(j,v) :: r=>if k=j then (j,u) :: upd k u r else (j,v) :: upd k u r
def sub {α:Type} (xs:List α) (lo hi:Nat):List α:=(xs.drop lo).take (hi-lo)
theorem KT {α:Type} (xs:List α):sub xs 0 xs.length=xs:=by simp[sub]
structure TI where
 ty:Ty
 offs:List (Nat×Nat):=[]
 el:TypeId:=0
 bytes:Nat
inductive RV where
 | p (t:Ty) (d:t.den)
 | own (et:TypeId) (e:Ty) (xs:List e.den)
@[reducible] def KU:List Ty->Type
 | []=>Unit
 | t :: r=>t.den×KU r
def Ty.flat:Ty->Bool
 | .slice _=>false
 | .prod a b=>a.flat&&b.flat
 | .agg t=>t.flat
 | .int _=>true
 | .bool=>true
 | .str=>true
 | .ref _=>true
def RV.flat:RV->Bool
 | .p t _=>t.flat
 | .own _ _ _=>false
structure Ab where
 ins:List Ty
 lend:Bool:=false
 pre:KU ins->Prop
 out:KU ins->List RV
structure Tb where
 ty:List (Nat×TI)
 fns:List (Nat×Ab)
 
 pure:List Nat:=[]
 
 nests:List (Nat×TypeId):=[]
 
 live:List Nat:=[]
def inB (n:Nat):List Nat->Bool
 | []=>false
 | m :: r=>if n=m then true else inB n r
def Iz:Value->AV
 | .int k n=>if k.min<=n/\n<=k.max then .p (.int k) n else .raw (.int k n)
 | .bool b=>.p .bool b
 | .string s=>if s.size<=AQ then .p .str s else .raw (.string s)
 | v=>.raw v
def Aq (σ:St):Operand->Option AV
 | .tmp t=>lk t σ.env
 | .const v=>some (Iz v)
 | .func f=>some (.fn f)
 | .global _=>none
def Ri (e:Ty) (lo hi:Nat):Option Obj->Option (List e.den)
 | some (.arr _ a xs)=>BR (.slice e) ⟨.slice a,sub xs lo hi⟩
 | some (.nest _ _ k a xs none)=>BR (.slice e) ⟨.slice (.agg (.prod k (.slice a))),sub xs lo hi⟩
 | _=>none
def UV (e:Ty) (i:Nat):Option Obj->Option (List e.den)
 | some (.nest _ _ k a xs none)=>BR (.slice e) ⟨.slice a,(xs.getD i (k.dflt,[])).2⟩
 | _=>none
def FD (l:Bool) (σ:St):(t:Ty)->AV->Option t.den
 | t,.p u d=>BR t ⟨u,d⟩
 | .slice e,.sr n a lo hi=>if l=true/\a=e then Ri e lo hi (lk n σ.objs) else none
 | .slice e,.nin n a i _=>if l=true/\a=e then UV e i (lk n σ.objs) else none
 | .slice _,.raw (.slice none 0 0)=>some []
 | _,_=>none
def OA {α β:Type}:Option α->Option β->Option (α×β)
 | some a,some b=>some (a,b)
 | _,_=>none
def Lk (l:Bool) (σ:St):List AV->(t:Ty)->Option t.den
 | [],_=>none
 | [x],t=>FD l σ t x
 | x :: y :: r,.prod a b=>OA (FD l σ a x) (Lk l σ (y :: r) b)
 | _ :: _ :: _,_=>none
def N2 (l:Bool) (σ:St):(t:Ty)->AV->Option t.den
 | .agg t,.ag fs=>Lk l σ fs t
 | t,x=>FD l σ t x
def Ad (n:Nat):List Nat->Bool
 | []=>false
 | m :: r=>if n=m then true else Ad n r
theorem Al (n:Nat):∀l:List Nat,Ad n l=true↔n∈l
 | []=>by simp[Ad]
 | m :: r=>by
  simp only[Ad,DO];split
  .rename_i h;simp[h]
  rename_i h;simp[h,Al n r]
mutual
def AV.fgt (hs:List Nat):AV->AV
 | .sr m e lo hi=>if Ad m hs=true then .top else .sr m e lo hi
 | .ep m e i path off=>if Ad m hs=true then .top else .ep m e i path off
 | .nin m e i len=>if Ad m hs=true then .top else .nin m e i len
 | .bp m path off=>if Ad m hs=true then .top else .bp m path off
 | .mp m=>if Ad m hs=true then .top else .mp m
 | .yl m=>if Ad m hs=true then .top else .yl m
 | .clo f ns=>if (ns.any λn=>Ad n hs)=true then .top else .clo f ns
 | .ag l=>.ag (AV.fgts hs l)
 | .tup l=>.tup (AV.fgts hs l)
 | .p t d=>.p t d
 | .pc e d=>.pc e d
 | .raw v=>.raw v
 | .ip t d=>.ip t d
 | .fn f=>.fn f
 | .top=>.top
def AV.fgts (hs:List Nat):List AV->List AV
 | []=>[]
 | x :: r=>AV.fgt hs x :: AV.fgts hs r
end
def Cc (hs:List Nat):List (Nat×AV)->List (Nat×AV)
 | []=>[]
 | (s,x) :: r=>(s,x.fgt hs) :: Cc hs r
def Obj.fgt (hs:List Nat):Obj->Obj
 | .arr et e xs=>.arr et e xs
 | .box et st fs=>.box et st (AV.fgts hs fs)
 | .mapo k v l=>.mapo k v l
 | .nest et b k e xs h=>.nest et b k e xs h
 | .frame i fs=>.frame i (Cc hs fs)
 | .loop L=>.loop L
 | .itr c g d f a=>.itr c g d f a
 | .dfr=>.dfr
def Az (hd hs:List Nat):List (Nat×Obj)->List (Nat×Obj)
 | []=>[]
 | (n,o) :: r=>if Ad n hd=true then Az hd hs r else (n,o.fgt hs) :: Az hd hs r
mutual
def AV.trn (n:Nat) (hs:List Nat):AV->AV
 | .nin m e i len=>if m=n\/Ad m hs=true then .top else .nin m e i len
 | .sr m e lo hi=>if Ad m hs=true then .top else .sr m e lo hi
 | .ep m e i path off=>if Ad m hs=true then .top else .ep m e i path off
 | .bp m path off=>if Ad m hs=true then .top else .bp m path off
 | .mp m=>if Ad m hs=true then .top else .mp m
 | .yl m=>if Ad m hs=true then .top else .yl m
 | .clo f ns=>if (ns.any λn=>Ad n hs)=true then .top else .clo f ns
 | .ag l=>.ag (AV.trns n hs l)
 | .tup l=>.tup (AV.trns n hs l)
 | .p t d=>.p t d
 | .pc e d=>.pc e d
 | .raw v=>.raw v
 | .ip t d=>.ip t d
 | .fn f=>.fn f
 | .top=>.top
def AV.trns (n:Nat) (hs:List Nat):List AV->List AV
 | []=>[]
 | x :: r=>AV.trn n hs x :: AV.trns n hs r
end
def Eh (n:Nat) (hs:List Nat):List (Nat×AV)->List (Nat×AV)
 | []=>[]
 | (s,x) :: r=>(s,x.trn n hs) :: Eh n hs r
def Obj.trn (n:Nat) (hs:List Nat):Obj->Obj
 | .arr et e xs=>.arr et e xs
 | .box et st fs=>.box et st (AV.trns n hs fs)
 | .mapo k v l=>.mapo k v l
 | .nest et b k e xs h=>.nest et b k e xs h
 | .frame i fs=>.frame i (Eh n hs fs)
 | .loop L=>.loop L
 | .itr c g d f a=>.itr c g d f a
 | .dfr=>.dfr
def C1 (n:Nat) (hs:List Nat):List (Nat×Obj)->List (Nat×Obj)
 | []=>[]
 | (m,o) :: r=>if Ad m (n :: hs)=true then C1 n hs r else (m,o.trn n hs) :: C1 n hs r
def C9:Option Obj->Bool
 | some (.nest _ _ _ _ _ _)=>true
 | _=>false
def Rf (σ:St) (e:Ty):AV->Option (List e.den)
 | .sr n a lo hi=>if C9 (lk n σ.objs)=true then none else N2 true σ (.slice e) (.sr n a lo hi)
 | x=>N2 true σ (.slice e) x
def Ae (x y:ByteArray):Bool:=x.toList==y.toList
def Cn (x y:ByteArray):Bool:=Op.bytesLess x.toList y.toList
def Co (op:BinOp) (k:IntKind) (x y:Int):Int :=
 k.wrap (match op with
  | .and=>((BitVec.ofInt k.bits x &&& BitVec.ofInt k.bits y).toNat:Int)
  | .or=>((BitVec.ofInt k.bits x ||| BitVec.ofInt k.bits y).toNat:Int)
  | .xor=>((BitVec.ofInt k.bits x ^^^ BitVec.ofInt k.bits y).toNat:Int)
  | _=>((BitVec.ofInt k.bits x &&& ~~~BitVec.ofInt k.bits y).toNat:Int))
def aV (k:IntKind) (x y:Int):Int:=k.wrap (x*2 ^ (min y.toNat k.bits))
def fE (k:IntKind) (x y:Int):Int:=x.fdiv (2 ^ (min y.toNat k.bits))
def wY (k:IntKind) (a b:Int):BinOp->Prop×AV
 | .add=>(KS k (a+b),.p (.int k) (a+b))
 | .sub=>(KS k (a-b),.p (.int k) (a-b))
 | .mul=>(KS k (a*b),.p (.int k) (a*b))
 | .quo=>(b≠0/\KS k (a.tdiv b),.p (.int k) (a.tdiv b))
 | .rem=>(b≠0/\KS k (a.tmod b),.p (.int k) (a.tmod b))
 | .and=>(True,.p (.int k) (Co .and k a b))
 | .or=>(True,.p (.int k) (Co .or k a b))
 | .xor=>(True,.p (.int k) (Co .xor k a b))
 | .andNot=>(True,.p (.int k) (Co .andNot k a b))
 | .shl=>(False,.top)
 | .shr=>(False,.top)
 | .eql=>(True,.p .bool (a==b))
 | .neq=>(True,.p .bool (a != b))
 | .lss=>(True,.p .bool (decide (a<b)))
 | .leq=>(True,.p .bool (decide (a<=b)))
 | .gtr=>(True,.p .bool (decide (b<a)))
 | .geq=>(True,.p .bool (decide (b<=a)))
def aW (a b:ByteArray):BinOp->Prop×AV
 | .add=>(a.size+b.size<=AQ,.p .str (a++b))
 | .eql=>(True,.p .bool (Ae a b))
 | .neq=>(True,.p .bool (!Ae a b))
 | .lss=>(True,.p .bool (Cn a b))
 | .leq=>(True,.p .bool (Cn a b||Ae a b))
 | .gtr=>(True,.p .bool (!(Cn a b||Ae a b)))
 | .geq=>(True,.p .bool (!Cn a b))
 | _=>(False,.top)
def bin (op:BinOp) (k:IntKind) (a:Int) (c:IntKind) (b:Int):Prop×AV :=
 match op with
 | .shl=>(0<=b,.p (.int k) (aV k a b))
 | .shr=>(0<=b/\KS k (fE k a b),.p (.int k) (fE k a b))
 | op=>if k=c then wY k a b op else (False,.top)
def zf1:Ty->AV
 | .slice _=>.raw (.slice none 0 0)
 | .ref k=>.raw (Ln k)
 | t=>.p t t.dflt
def zfs:Ty->List AV
 | .prod a b=>zf1 a :: zfs b
 | t=>[zf1 t]
def pfs:(t:Ty)->t.den->List AV
 | .prod a b,d=>.p a d.1 :: pfs b d.2
 | .int k,d=>[.p (.int k) d]
 | .bool,d=>[.p .bool d]
 | .str,d=>[.p .str d]
 | .slice e,d=>[.p (.slice e) d]
 | .agg t,d=>[.p (.agg t) d]
 | .ref k,d=>[.p (.ref k) d]
def AV.cells:AV->Nat
 | .p t _=>t.size
 | .ag _=>0
 | .tup _=>0
 | _=>1
def CS:List AV->Nat->Nat
 | _,0=>0
 | [],_+1=>0
 | x :: r,k+1=>x.cells+CS r k
def LO (st:Bool) (fs:List AV):List Nat->Option AV
 | []=>if st then some (.ag fs) else fs[0]?
 | [k]=>if st then fs[k]? else none
 | k :: r=>if st then match fs[k]? with
   | some (.p t d)=>(VY r t d).map λpv=>.p pv.t pv.d
   | _=>none
  else none
def Rj (fs:List AV):List Nat->Option Nat
 | []=>some 0
 | k :: r=>match fs[k]? with
  | some (.p t _)=>(N1 r t).map (CS fs k + ·)
  | some _=>if r.isEmpty then some (CS fs k) else none
  | none=>none
def Ty.cell1:Ty->Bool
 | .agg _=>false
 | .prod _ _=>false
 | .int _=>true
 | .bool=>true
 | .str=>true
 | .slice _=>true
 | .ref _=>true
def Cj (ty:Ty):AV->Bool
 | .p t _=>ty=t
 | .ag l=>match ty with|.agg t=>CS l l.length==t.size|_=>false
 | .tup _=>false
 | .top=>false
 | .raw u=>u.oneCell'&&ty.cell1
 | _=>ty.cell1
def Pj (ty:Ty):AV->Bool
 | .top=>ty.cell1
 | x=>Cj ty x
def HL (n:Nat):Bool:=decide (1000000<=n)
mutual
def AV.frz (n:Nat) (e:Ty) (xs:List e.den):AV->AV
 | .sr m e' lo hi=>if m=n then (if e'=e then .p (.slice e) (sub xs lo hi) else .top) else .sr m e' lo hi
 | .ep m e' i path off=>if m=n then .top else .ep m e' i path off
 | .nin m e' i len=>if m=n then .top else .nin m e' i len
 | .ag l=>.ag (AV.frzs n e xs l)
 | .tup l=>.tup (AV.frzs n e xs l)
 | .p t d=>.p t d
 | .pc e d=>.pc e d
 | .raw v=>.raw v
 | .ip t d=>.ip t d
 | .bp m path off=>.bp m path off
 | .fn f=>.fn f
 | .clo f ns=>.clo f ns
 | .mp n=>.mp n
 | .yl n=>.yl n
 | .top=>.top
def AV.frzs (n:Nat) (e:Ty) (xs:List e.den):List AV->List AV
 | []=>[]
 | x :: r=>AV.frz n e xs x :: AV.frzs n e xs r
end
def DY (n:Nat) (e:Ty) (xs:List e.den):List (Nat×AV)->List (Nat×AV)
 | []=>[]
 | (s,x) :: r=>(s,x.frz n e xs) :: DY n e xs r
def BB (n:Nat) (e:Ty) (xs:List e.den):List (Nat×Obj)->List (Nat×Obj)
 | []=>[]
 | (m,.arr et a ys) :: r=>(m,.arr et a ys) :: BB n e xs r
 | (m,.box et st fs) :: r=>(m,.box et st (AV.frzs n e xs fs)) :: BB n e xs r
 | (m,.mapo k v l) :: r=>(m,.mapo k v l) :: BB n e xs r
 | (m,.nest et c k a ys h) :: r=>(m,.nest et c k a ys h) :: BB n e xs r
 | (m,.frame j fs) :: r=>(m,.frame j (DY n e xs fs)) :: BB n e xs r
 | (m,.loop L) :: r=>(m,.loop L) :: BB n e xs r
 | (m,.itr d i f g b) :: r=>(m,.itr d i f g b) :: BB n e xs r
 | (m,.dfr) :: r=>(m,.dfr) :: BB n e xs r
def wZ (n:Nat) (σ:St):Option Obj->St
 | some (.arr _ e xs)=>⟨DY n e xs σ.env,BB n e xs (del n σ.objs)⟩
 | some (.nest _ _ k e xs none)=>⟨DY n (.agg (.prod k (.slice e))) xs σ.env,BB n (.agg (.prod k (.slice e))) xs (del n σ.objs)⟩
 | _=>σ
def frz (n:Nat) (σ:St):St:=if HL n=true then σ else wZ n σ (lk n σ.objs)
mutual
def AV.drp (n:Nat):AV->AV
 | .sr m e' lo hi=>if m=n then .top else .sr m e' lo hi
 | .ep m e' i path off=>if m=n then .top else .ep m e' i path off
 | .nin m e' i len=>if m=n then .top else .nin m e' i len
 | .ag l=>.ag (AV.drps n l)
 | .tup l=>.tup (AV.drps n l)
 | .p t d=>.p t d
 | .pc e d=>.pc e d
 | .raw v=>.raw v
 | .ip t d=>.ip t d
 | .bp m path off=>.bp m path off
 | .fn f=>.fn f
 | .clo f ns=>.clo f ns
 | .mp n=>.mp n
 | .yl n=>.yl n
 | .top=>.top
def AV.drps (n:Nat):List AV->List AV
 | []=>[]
 | x :: r=>AV.drp n x :: AV.drps n r
end
def Gh (n:Nat):List (Nat×AV)->List (Nat×AV)
 | []=>[]
 | (s,x) :: r=>(s,x.drp n) :: Gh n r
def Bj (n:Nat):List (Nat×Obj)->List (Nat×Obj)
 | []=>[]
 | (m,.arr et a ys) :: r=>(m,.arr et a ys) :: Bj n r
 | (m,.box et st fs) :: r=>(m,.box et st (AV.drps n fs)) :: Bj n r
 | (m,.mapo k v l) :: r=>(m,.mapo k v l) :: Bj n r
 | (m,.nest et c k a ys h) :: r=>(m,.nest et c k a ys h) :: Bj n r
 | (m,.frame i fs) :: r=>(m,.frame i (Gh n fs)) :: Bj n r
 | (m,.loop L) :: r=>(m,.loop L) :: Bj n r
 | (m,.itr d g e f b) :: r=>(m,.itr d g e f b) :: Bj n r
 | (m,.dfr) :: r=>(m,.dfr) :: Bj n r
mutual
def AV.names:AV->List Nat
 | .sr m _ _ _=>[m]
 | .ag l=>AV.namess l
 | .tup l=>AV.namess l
 | .p _ _=>[]
 | .pc _ _=>[]
 | .raw _=>[]
 | .ip _ _=>[]
 | .bp _ _ _=>[]
 | .ep _ _ _ _ _=>[]
 | .nin _ _ _ _=>[]
 | .fn _=>[]
 | .clo _ _=>[]
 | .mp _=>[]
 | .yl _=>[]
 | .top=>[]
def AV.namess:List AV->List Nat
 | []=>[]
 | x :: r=>x.names++AV.namess r
end
def Hd (σ:St):Option Operand->Option (Option AV)
 | none=>some none
 | some x=>(Aq σ x).map some
def FX (σ:St) (e:Ty):Nat->List (Nat×Operand)->Option (List e.den)
 | _,[]=>some []
 | k,(i,x) :: r=>if i=k then match Aq σ x with
   | some av=>match N2 false σ e av,FX σ e (k+1) r with
    | some y,some ys=>some (y :: ys)
    | _,_=>none
   | none=>none
  else none
def KV:AV->Bool
 | .p (.prod _ _) _=>false
 | .p _ _=>true
 | .raw u=>u.oneCell'
 | .ag _=>false
 | .tup _=>false
 | .top=>false
 | _=>true
def Gi (σ:St):Option AV->Option AV->Option AV
 | some (.p t _),some (.ag l)=>(N2 false σ t (.ag l)).map λd=>.p t d
 | _,x=>x
def EX (σ:St) (offs:List (Nat×Nat)):List AV->List (Nat×Operand)->Option (List AV)
 | fs,[]=>some fs
 | fs,(i,x) :: r=>match Gi σ fs[i]? (Aq σ x) with
  | some av=>if KV av=true/\(fs[i]?.map AV.cells)=some av.cells/\offs[i]?=some (CS fs i,av.cells) then EX σ offs (fs.set i av) r else none
  | none=>none
def G5 (l:Bool) (σ:St):(ts:List Ty)->List Operand->Option (KU ts)
 | [],[]=>some ()
 | t :: ts,x :: xs=>match Aq σ x with
  | some av=>match N2 l σ t av,G5 l σ ts xs with
   | some y,some ys=>some (y,ys)
   | _,_=>none
  | none=>none
 | _,_=>none
def m9 (name:Nat):RV->AV
 | .p t d=>.p t d
 | .own _ e xs=>.sr name e 0 xs.length
def VZ (name:Nat):RV->List (Nat×Obj)
 | .p _ _=>[]
 | .own et e xs=>[(name,.arr et e xs)]
def I0:Nat->List RV->List AV
 | _,[]=>[]
 | n,r :: l=>m9 n r :: I0 (n+10000) l
def DA:Nat->List RV->List (Nat×Obj)
 | _,[]=>[]
 | n,r :: l=>VZ n r++DA (n+10000) l
def H7 (name:Nat):List RV->AV
 | []=>.raw (.tuple #[])
 | [r]=>m9 name r
 | l=>.tup (I0 name l)
def Iv:(t:Ty)->t.den->t.den->Bool
 | .int _,a,b=>(a:Int)==b
 | .bool,a,b=>(a:Bool)==b
 | .str,a,b=>(a:ByteArray)==b
 | .prod t u,a,b=>Iv t a.1 b.1&&Iv u a.2 b.2
 | .agg t,a,b=>Iv t a b
 | .slice _,_,_=>false
 | .ref _,_,_=>false
def w5:Ty->Bool
 | .prod (.int _) (.int _)=>true
 | _=>false
def aX:Ty->Bool
 | .int _=>true
 | .bool=>true
 | .str=>true
 | .prod _ _=>false
 | .agg t=>w5 t
 | .slice _=>false
 | .ref _=>false
def BW (a b:Ty) (k:a.den):List (a.den×b.den)->Option b.den
 | []=>none
 | x :: r=>if Iv a k x.1=true then some x.2 else BW a b k r
def F1 (a b:Ty) (k:a.den) (v:b.den):List (a.den×b.den)->List (a.den×b.den)
 | []=>[(k,v)]
 | x :: r=>if Iv a k x.1=true then (k,v) :: r else x :: F1 a b k v r
abbrev BX:=Option (Prop×AV×List (Nat×Obj))
def JQ (x:AV) (lo hi:Option AV):BX :=
 match x,lo,hi with
 | .p (.slice e) l,none,some (.p (.int _) h)=>some (0<=h/\h<=l.length,.p (.slice e) (sub l 0 h.toNat),[])
 | .p (.slice e) l,some (.p (.int _) a),none=>some (0<=a/\a<=l.length,.p (.slice e) (sub l a.toNat l.length),[])
 | .p (.slice e) l,some (.p (.int _) a),some (.p (.int _) h)=>some (0<=a/\a<=h/\h<=l.length,.p (.slice e) (sub l a.toNat h.toNat),[])
 | .p .str s,none,some (.p (.int _) h)=>some (0<=h/\h<=s.size,.p .str (s.extract 0 h.toNat),[])
 | .p .str s,some (.p (.int _) a),none=>some (0<=a/\a<=s.size,.p .str (s.extract a.toNat s.size),[])
 | .p .str s,some (.p (.int _) a),some (.p (.int _) h)=>some (0<=a/\a<=h/\h<=s.size,.p .str (s.extract a.toNat h.toNat),[])
 | .sr n e b c,none,some (.p (.int _) h)=>some (0<=h/\h<=(c-b:Nat),.sr n e b (b+h.toNat),[])
 | .sr n e b c,some (.p (.int _) a),none=>some (0<=a/\a<=(c-b:Nat),.sr n e (b+a.toNat) c,[])
 | .sr n e b c,some (.p (.int _) a),some (.p (.int _) h)=>some (0<=a/\a<=h/\h<=(c-b:Nat),.sr n e (b+a.toNat) (b+h.toNat),[])
 | _,_,_=>none
def HN:Option AV->BX
 | some v=>some (True,v,[])
 | none=>none
def Lo:Option AV->Option AV->Option AV->BX
 | some (.p .bool true),x,_=>HN x
 | some (.p .bool false),_,y=>HN y
 | _,_,_=>none
def Lp (d:Nat) (t:TypeId):Option TI->BX
 | some ⟨.agg u,_,_,_⟩=>some (True,.bp d [] 0,[(d,.box t true (zfs u))])
 | some ⟨.int k,_,_,_⟩=>some (True,.bp d [] 0,[(d,.box t false [zf1 (.int k)])])
 | some ⟨.bool,_,_,_⟩=>some (True,.bp d [] 0,[(d,.box t false [zf1 .bool])])
 | some ⟨.str,_,_,_⟩=>some (True,.bp d [] 0,[(d,.box t false [zf1 .str])])
 | some ⟨.slice e,_,_,_⟩=>some (True,.bp d [] 0,[(d,.box t false [zf1 (.slice e)])])
 | some ⟨.ref k,_,_,_⟩=>some (True,.bp d [] 0,[(d,.box t false [zf1 (.ref k)])])
 | _=>none
def Va (d:Nat) (t:TypeId):Option TI->Option AV->BX
 | some ⟨.agg u,_,_,_⟩,some (.p (.agg a) v)=>if u=a then some (True,.bp d [] 0,[(d,.box t true (pfs a v))]) else none
 | some ⟨.agg u,_,_,_⟩,some (.ag l)=>if l.map AV.cells=(zfs u).map AV.cells then some (True,.bp d [] 0,[(d,.box t true l)]) else none
 | some ⟨.int k,_,_,_⟩,some v=>if Cj (.int k) v then some (True,.bp d [] 0,[(d,.box t false [v])]) else none
 | some ⟨.bool,_,_,_⟩,some v=>if Cj .bool v then some (True,.bp d [] 0,[(d,.box t false [v])]) else none
 | some ⟨.str,_,_,_⟩,some v=>if Cj .str v then some (True,.bp d [] 0,[(d,.box t false [v])]) else none
 | some ⟨.slice e,_,_,_⟩,some v=>if Cj (.slice e) v then some (True,.bp d [] 0,[(d,.box t false [v])]) else none
 | some ⟨.ref k,_,_,_⟩,some v=>if Cj (.ref k) v then some (True,.bp d [] 0,[(d,.box t false [v])]) else none
 | _,_=>none
def KW (σ:St) (parts:List (Nat×Operand)):Option TI->BX
 | some ⟨.agg u,offs,_,_⟩=>HN ((EX σ offs (zfs u) parts).map AV.ag)
 | _=>none
def B9 (a:Bool) (d:Nat) (n:Nat) (el:TypeId) (e:Ty):Option (List e.den)->BX
 | some xs=>some (xs.length=n/\n*e.size<=16777216,if a then .p (.slice e) xs else .sr d e 0 n,if a then [] else [(d,.arr el e xs)])
 | none=>none
def Bo (a:Bool) (σ:St) (d:Nat) (n:Nat) (parts:List (Nat×Operand)):Option TI->BX
 | some ⟨.slice e,_,el,_⟩=>B9 a d n el e (FX σ e 0 parts)
 | _=>none
def Lq (d:Nat) (el b:TypeId) (n:Nat) (k e:Ty):Option k.den->AV->BX
 | some a,.raw (.slice none 0 0)=>some (n=1/\k.size+1<=16777216,.sr d (.agg (.prod k (.slice e))) 0 1,[(d,.nest el b k e [(a,[])] none)])
 | some a,.pc c l=>if c=e then some ((n=1/\k.size+1<=16777216)/\List.length l=0,.sr d (.agg (.prod k (.slice e))) 0 1,[(d,.nest el b k e [(a,[])] none)]) else none
 | _,_=>none
def KX (σ:St) (d:Nat) (el a:TypeId) (n:Nat):Ty->Option AV->BX
 | .agg (.prod k (.slice e)),some (.ag [x,y])=>Lq d el a n k e (FD false σ k x) y
 | _,_=>none
def KY (σ:St) (d:Nat) (a:TypeId) (n:Nat):List (Nat×Operand)->Option TI->BX
 | [(0,x)],some ⟨.slice t,_,el,_⟩=>KX σ d el a n t (Aq σ x)
 | _,_=>none
def Hi (tb:Tb) (σ:St) (d:Nat) (n:Nat) (parts:List (Nat×Operand)) (ti:Option TI):Option TypeId->BX
 | some a=>KY σ d a n parts ti
 | none=>Bo (inB d tb.pure) σ d n parts ti
def KZ (ty:Ty) (fs:List AV) (a:List Nat) (off:Nat):Option AV->BX
 | some v=>if Cj ty v=true/\Rj fs a=some off then some (True,v,[]) else none
 | none=>none
def E8 (ty:Ty) (a:List Nat) (off:Nat):Option Obj->BX
 | some (.box _ st fs)=>KZ ty fs a off (LO st fs a)
 | _=>none
def Ka (ty e:Ty) (a:List Nat) (off:Nat):Option PV->BX
 | some ⟨t,d⟩=>if ty=t/\N1 a e=some off then some (True,.p t d,[]) else none
 | none=>none
def Kb (ty e:Ty) (i:Nat) (a:List Nat) (off:Nat):Option (List e.den)->BX
 | some ys=>Ka ty e a off (VY a e (ys.getD i e.dflt))
 | none=>none
def Rk (n:Nat) (ty:Ty) (i off:Nat) (k e:Ty) (x:k.den×List e.den):List Nat->BX
 | [0]=>if ty=k/\off=0 then some (True,.p k x.1,[]) else none
 | [1]=>if ty=.slice e/\off=k.size then some (True,.nin n e i x.2.length,[]) else none
 | _=>none
def E9 (n:Nat) (ty e:Ty) (i:Nat) (b:List Nat) (off:Nat):Option Obj->BX
 | some (.arr _ a xs)=>Kb ty e i b off (BR (.slice e) ⟨.slice a,xs⟩)
 | some (.nest _ _ k a xs none)=>if e=.agg (.prod k (.slice a)) then Rk n ty i off k a (xs.getD i (k.dflt,[])) b else none
 | _=>none
def LP (σ:St):Option TI->Option AV->BX
 | some ti,some (.bp n a off)=>E8 ti.ty a off (lk n σ.objs)
 | some ti,some (.ep n e i a off)=>E9 n ti.ty e i a off (lk n σ.objs)
 | some ti,some (.ip u v)=>if ti.ty=u then some (True,.p u v,[]) else none
 | _,_=>none
def Kd (o:Option (Nat×Nat)) (a:Option Nat):Option PV->BX
 | some ⟨t,d⟩=>if o.map (·.1)=a then some (True,.ip t d,[]) else none
 | none=>none
def YU (v:Nat->AV):Option (Nat×Nat)->BX
 | some (k,_)=>some (True,v k,[])
 | none=>none
def TG (f:Nat) (o:Option (Nat×Nat)):AV->BX
 | .bp n a off=>YU (λk=>.bp n (a++[f]) (off+k)) o
 | .ep n e i a off=>YU (λk=>.ep n e i (a++[f]) (off+k)) o
 | .ip (.agg u) v=>Kd o (Lj u f) (Hh u f v)
 | _=>none
def H8 (f:Nat):Option TI->Option AV->BX
 | some ⟨.agg _,offs,0,_⟩,some x=>TG f offs[f]? x
 | _,_=>none
def ND (offs:List (Nat×Nat)) (x:AV):AV->BX
 | .p (.int _) k=>if 0<=k then TG k.toNat offs[k.toNat]? x else none
 | _=>none
def Gj:Option TI->Option AV->Option AV->BX
 | some ⟨.slice e,_,_,_⟩,some (.p (.slice a) l),some (.p (.int _) k)=>if e=a then some (0<=k/\k<l.length,.ip a (l.getD k.toNat a.dflt),[]) else none
 | some ⟨.slice e,_,_,_⟩,some (.sr n a lo hi),some (.p (.int _) k)=>if e=a then some (0<=k/\k<(hi-lo:Nat),.ep n a (lo+k.toNat) [] 0,[]) else none
 | some ⟨.agg _,offs,_+1,_⟩,some x,some i=>ND offs x i
 | _,_,_=>none
def Ey:Option TI->Option AV->Option AV->BX
 | some ⟨.str,_,_,_⟩,some (.p .str s),some (.p (.int _) k)=>some (0<=k/\k<s.size,.p (.int .u8) ((s.data.getD k.toNat 0).toNat:Int),[])
 | _,_,_=>none
def YV:Option AV->BX
 | some (.bp n a off)=>some (True,.bp n a off,[])
 | some (.ip t v)=>some (True,.ip t v,[])
 | some (.ep n e i a off)=>some (True,.ep n e i a off,[])
 | _=>none
def w6 (a b:Bool):BinOp->BX
 | .eql=>some (True,.p .bool (a==b),[])
 | .neq=>some (True,.p .bool (a != b),[])
 | _=>none
def Vb:Option TI->Bool
 | some ⟨.bool,_,_,_⟩=>true
 | _=>false
def UW (op:BinOp) (ti:Option TI):Option AV->Option AV->BX
 | some (.p (.int k) a),some (.p (.int c) b)=>some ((bin op k a c b).1,(bin op k a c b).2,[])
 | some (.p .str a),some (.p .str b)=>some ((aW a b op).1,(aW a b op).2,[])
 | some (.p .bool a),some (.p .bool b)=>if Vb ti=true then w6 a b op else none
 | _,_=>none
def qUn:UnOp->Option AV->BX
 | .not,some (.p .bool b)=>some (True,.p .bool (!b),[])
 | .neg,some (.p (.int k) a)=>some (KS k (0-a),.p (.int k) (0-a),[])
 | _,_=>none
def TH (l:List Int):ByteArray:=⟨(l.map λx=>UInt8.ofNat x.toNat).toArray⟩
def LQ:Option TI->Option TI->Option AV->BX
 | some ⟨.int _,_,_,_⟩,some ⟨.int k,_,_,_⟩,some (.p (.int _) a)=>some (KS k a,.p (.int k) a,[])
 | some ⟨.slice (.int .u8),_,_,_⟩,some ⟨.str,_,_,_⟩,some (.p (.slice (.int .u8)) l)=>some (True,.p .str (TH l),[])
 | _,_,_=>none
def Od (d:Nat) (el:TypeId) (e:Ty) (n m:Int):Option TI->BX
 | some ti=>some (n=m/\0<=n/\n.toNat*ti.bytes<=AQ,.sr d e 0 n.toNat,[(d,.arr el e (List.replicate n.toNat e.dflt))])
 | none=>none
def Jt (tb:Tb) (d:Nat):Option TI->Option AV->Option AV->BX
 | some ⟨.slice e,_,el,_⟩,some (.p (.int .i64) n),some (.p (.int .i64) m)=>Od d el e n m (lk el tb.ty)
 | _,_,_=>none
def F2:Option TI->Option AV->Option (Option AV)->Option (Option AV)->BX
 | some ⟨.slice e,_,_,_⟩,some (.p (.slice d) l),some a,some h=>if e=d then JQ (.p (.slice d) l) a h else none
 | some ⟨.slice e,_,_,_⟩,some (.sr n d b c),some a,some h=>if e=d then JQ (.sr n d b c) a h else none
 | some ⟨.str,_,_,_⟩,some (.p .str s),some a,some h=>JQ (.p .str s) a h
 | _,_,_,_=>none
def EY:Option TI->Option AV->Option AV->Option AV->BX
 | some ⟨.slice e,_,_,_⟩,some (.p (.slice c) l),some (.p (.int _) a),some (.p (.int _) b)=>if e=c then some (a=(List.length l:Int)/\b=(List.length l:Int),.pc c l,[]) else none
 | _,_,_,_=>none
def FE (i:Nat):Option AV->BX
 | some (.tup l)=>HN l[i]?
 | _=>none
def Vc:Option TI->Option AV->BX
 | some ⟨.slice _,_,_,_⟩,some (.p (.slice _) l)=>some (True,.p (.int .i64) (l.length:Int),[])
 | some ⟨.slice _,_,_,_⟩,some (.sr _ _ lo hi)=>some (True,.p (.int .i64) ((hi-lo:Nat):Int),[])
 | some ⟨.slice _,_,_,_⟩,some (.nin _ _ _ len)=>some (True,.p (.int .i64) (len:Int),[])
 | some ⟨.slice _,_,_,_⟩,some (.raw (.slice none 0 0))=>some (True,.p (.int .i64) (0:Int),[])
 | some ⟨.str,_,_,_⟩,some (.p .str s)=>some (True,.p (.int .i64) (s.size:Int),[])
 | _,_=>none
def F3 (d:Nat) (el:TypeId) (e:Ty):Option TI->Option (List e.den)->BX
 | some ti,some ys=>some (ys.length*ti.bytes<=AQ,.sr d e 0 ys.length,[(d,.arr el e ys)])
 | _,_=>none
def FF (tb:Tb) (σ:St) (d:Nat) (v:AV):Option TI->BX
 | some ⟨.slice e,_,el,_⟩=>F3 d el e (lk el tb.ty) (Rf σ e v)
 | _=>none
def Lr (d:Nat) (el:TypeId) (e:Ty) (l:List e.den):Option TI->Option (List e.den)->BX
 | some ti,some ys=>some (0<ys.length/\(l.length+ys.length)*ti.bytes<=AQ,.sr d e 0 (l.length+ys.length),[(d,.arr el e (l++ys))])
 | _,_=>none
def Ke (tb:Tb) (σ:St) (d:Nat) (e:Ty) (l:List e.den) (v:AV):Option TI->BX
 | some ⟨.slice a,_,el,_⟩=>if a=e then Lr d el e l (lk el tb.ty) (Rf σ e v) else none
 | _=>none
def C2 (tb:Tb) (σ:St) (d:Nat) (t u:TypeId):Option AV->Option AV->BX
 | some (.raw (.slice none 0 0)),some v=>if t=u then FF tb σ d v (lk t tb.ty) else none
 | some (.pc e l),some v=>if t=u then Ke tb σ d e l v (lk t tb.ty) else none
 | _,_=>none
def UX:Option AV->Option AV->BX
 | some (.p (.int k) a),some (.p (.int c) b)=>if k=c then some (True,.p (.int k) (if b<a then b else a),[]) else none
 | _,_=>none
def Ju:Option AV->Option AV->Option AV->BX
 | some (.p (.int k) a),some (.p (.int d) b),some (.p (.int e) c)=>if k=d/\k=e then some (True,.p (.int k) (if c<(if b<a then b else a) then c else (if b<a then b else a)),[]) else none
 | _,_,_=>none
def Pk (k:IntKind) (a:Int):Option AV->Option Int
 | some (.p (.int c) b)=>if k=c then some (if b<a then b else a) else none
 | _=>none
def F4 (σ:St) (k:IntKind):Option Int->List Operand->Option Int
 | some a,x :: r=>F4 σ k (Pk k a (Aq σ x)) r
 | o,_=>o
def TJ (k:IntKind):Option Int->BX
 | some m=>some (True,.p (.int k) m,[])
 | none=>none
def Pl (σ:St) (r:List Operand):Option AV->BX
 | some (.p (.int k) a)=>TJ k (F4 σ k (some a) r)
 | _=>none
def UY:Option AV->Option AV->BX
 | some (.p (.int k) a),some (.p (.int c) b)=>if k=c then some (True,.p (.int k) (if a<b then b else a),[]) else none
 | _,_=>none
def Ls (d:Nat) (sp:Ab):Option (KU sp.ins)->BX
 | some ds=>if sp.lend=false\/(sp.out ds).all RV.flat=true then some (sp.pre ds,H7 d (sp.out ds),DA d (sp.out ds)) else none
 | none=>none
def Kg (σ:St) (d:Nat) (xs:List Operand):Option Ab->BX
 | some sp=>Ls d sp (G5 sp.lend σ sp.ins xs)
 | none=>none
def OB (tb:Tb) (σ:St) (d:Nat) (xs:List Operand):Option AV->BX
 | some (.fn f)=>Kg σ d xs (lk f tb.fns)
 | _=>none
def DZ (tb:Tb) (σ:St) (d:Nat):Builtin->List Operand->List TypeId->BX
 | .len,[x],[t]=>Vc (lk t tb.ty) (Aq σ x)
 | .append,[x,y],[t,u]=>C2 tb σ d t u (Aq σ x) (Aq σ y)
 | .min,[x,y],[_,_]=>UX (Aq σ x) (Aq σ y)
 | .max,[x,y],[_,_]=>UY (Aq σ x) (Aq σ y)
 | .min,[x,y,z],[_,_,_]=>Ju (Aq σ x) (Aq σ y) (Aq σ z)
 | .min,x :: y :: z :: u :: r,_=>Pl σ (y :: z :: u :: r) (Aq σ x)
 | _,_,_=>none
def I1 (σ:St):List Operand->Option (List Nat)
 | []=>some []
 | x :: r=>match Aq σ x,I1 σ r with
  | some (.bp n [] 0),some ns=>some (n :: ns)
  | _,_=>none
def TK (f:FuncId):Option (List Nat)->BX
 | some ns=>some (True,.clo f ns,[])
 | none=>none
def fF (σ:St) (fn:Fn) (first a:List Operand):BX :=
 match fn,first with
 | .func f,[]=>TK f (I1 σ a)
 | _,_=>none
def Ht (d:Nat):Option TI->Option TI->BX
 | some a,some te=>some (True,.mp d,[(d,.mapo a.ty te.ty [])])
 | _,_=>none
def Hu (tb:Tb) (d:Nat):List (Nat×Nat)->BX
 | [(k,e)]=>Ht d (lk k tb.ty) (lk e tb.ty)
 | _=>none
def G6 (tb:Tb) (d:Nat):Option TI->BX
 | some ⟨.ref 2,offs,_,_⟩=>Hu tb d offs
 | _=>none
def Oe (a:Ty) (ok:Bool) (r:Option a.den):BX :=
 if ok then some (True,.tup [.p a (r.getD a.dflt),.p .bool r.isSome],[]) else some (True,.p a (r.getD a.dflt),[])
def Lt (a b:Ty) (l:List (a.den×b.den)) (ok:Bool):Option a.den->BX
 | some k=>if aX a=true then Oe b ok (BW a b k l) else none
 | none=>none
def JR (tb:Tb) (σ:St) (b d:Nat) (x:AV) (ok:Bool):Option Obj->BX
 | some (.mapo a c l)=>if (lk b tb.ty).map TI.ty=some a/\(lk b tb.ty).map TI.el=some 0/\(lk d tb.ty).map TI.ty=some c then Lt a c l ok (N2 false σ a x) else none
 | _=>none
def Jv (tb:Tb) (σ:St) (ok:Bool):Option TI->Option AV->Option AV->BX
 | some ⟨.ref 2,[(k,e)],_,_⟩,some (.mp n),some x=>JR tb σ k e x ok (lk n σ.objs)
 | _,_,_=>none
def DD (tb:Tb) (σ:St) (d:Nat) (xs:List Operand) (ts:List TypeId):Callee->BX
 | .builtin b=>DZ tb σ d b xs ts
 | .value g=>OB tb σ d xs (Aq σ g)
 | _=>none
def aq (tb:Tb) (σ:St) (d:Nat):Op->BX
 | .move x=>HN (Aq σ x)
 | .assign x=>HN (Aq σ x)
 | .pick c x y=>Lo (Aq σ c) (Aq σ x) (Aq σ y)
 | .alloc t=>Lp d t (lk t tb.ty)
 | .box t x=>Va d t (lk t tb.ty) (Aq σ x)
 | .build t parts=>KW σ parts.toList (lk t tb.ty)
 | .buildSlice t n parts=>Hi tb σ d n parts.toList (lk t tb.ty) (lk d tb.nests)
 | .load t x=>LP σ (lk t tb.ty) (Aq σ x)
 | .fieldAddr s x f=>H8 f (lk s tb.ty) (Aq σ x)
 | .indexAddr t x i=>Gj (lk t tb.ty) (Aq σ x) (Aq σ i)
 | .index t x i=>Ey (lk t tb.ty) (Aq σ x) (Aq σ i)
 | .nilCheck x=>YV (Aq σ x)
 | .binOp op t x y _=>UW op (lk t tb.ty) (Aq σ x) (Aq σ y)
 | .unOp op _ x=>qUn op (Aq σ x)
 | .convert s t x=>LQ (lk s tb.ty) (lk t tb.ty) (Aq σ x)
 | .makeSlice t l c=>Jt tb d (lk t tb.ty) (Aq σ l) (Aq σ c)
 | .slice t x none (some hi) (some b)=>EY (lk t tb.ty) (Aq σ x) (Aq σ hi) (Aq σ b)
 | .slice t x lo hi none=>F2 (lk t tb.ty) (Aq σ x) (Hd σ lo) (Hd σ hi)
 | .extract x i=>FE i (Aq σ x)
 | .call c=>DD tb σ d c.args.toList c.argTypes.toList c.callee
 | .makeFunc fn first a=>fF σ fn first.toList a.toList
 | .makeMap t none=>G6 tb d (lk t tb.ty)
 | .lookup t x i ok=>Jv tb σ ok (lk t tb.ty) (Aq σ x) (Aq σ i)
 | _=>none
def TL:AV->Bool
 | .ag _=>false
 | _=>true
def Lu (st:Bool) (fs:List AV) (v:AV):List Nat->Option (List AV)
 | []=>if st then match v with
   | .p (.agg u) d=>some (pfs u d)
   | .ag l=>some l
   | _=>none
  else if TL v then some [v] else none
 | [k]=>if st&&TL v then some (fs.set k v) else none
 | k :: r=>if st then match fs[k]?,v with
   | some (.p t d),.p u x=>(YT r t d ⟨u,x⟩).map λy=>fs.set k (.p t y)
   | _,_=>none
  else none
abbrev C7:=Option (Prop×St)
def F5 (σ:St) (n:Nat) (et:TypeId) (st:Bool) (ty:Ty) (fs:List AV) (b:List Nat) (off:Nat) (v:AV):Option AV->Option (List AV)->C7
 | some u,some a=>if Pj ty u=true/\Cj ty v=true/\Rj fs b=some off/\a.map AV.cells=fs.map AV.cells then some (True,⟨σ.env,upd n (.box et st a) σ.objs⟩) else none
 | _,_=>none
def Dl (σ:St) (n:Nat) (ty:Ty) (a:List Nat) (off:Nat) (v:AV):Option Obj->C7
 | some (.box et st fs)=>F5 σ n et st ty fs a off v (LO st fs a) (Lu st fs v a)
 | _=>none
def G7 (σ:St) (n:Nat) (et:TypeId) (e:Ty) (i:Nat) (a:List Nat) (off:Nat) (ys:List e.den):Option e.den->C7
 | some z=>if N1 a e=some off then some (True,⟨σ.env,upd n (.arr et e (ys.set i z)) σ.objs⟩) else none
 | none=>none
def FG (σ:St) (n:Nat) (et:TypeId) (ty e:Ty) (i:Nat) (a:List Nat) (off:Nat):Option (List e.den)->Option ty.den->C7
 | some ys,some w=>G7 σ n et e i a off ys (YT a e (ys.getD i e.dflt) ⟨ty,w⟩)
 | _,_=>none
def OC (σ:St) (d n:Nat) (et a:TypeId) (k e:Ty) (xs:List (k.den×List e.den)) (i bytes:Nat):Option (List e.den)->C7
 | some ys=>if (lk d σ.objs).isNone=true/\ys.isEmpty=false then some (((xs.getD i (k.dflt,[])).2.length+ys.length)*bytes<=AQ,
   ⟨(d,.sr d e 0 ((xs.getD i (k.dflt,[])).2.length+ys.length)) :: Eh n [] σ.env,(d,.arr a e ((xs.getD i (k.dflt,[])).2++ys)) :: (n,.nest et a k e xs (some i)) :: C1 n [] σ.objs⟩) else none
 | none=>none
def TM (σ:St) (d n:Nat) (el:TypeId) (b:Ty) (i:Nat) (v:AV):Option TI->Option Obj->C7
 | some ti,some (.nest et a k e xs none)=>if b=e/\a=el/\HL n=false then OC σ d n et a k e xs i ti.bytes (Rf σ e v) else none
 | _,_=>none
def Pm (tb:Tb) (σ:St) (d n:Nat) (a:Ty) (i:Nat) (v:AV):Option TI->C7
 | some ⟨.slice e,_,el,_⟩=>if a=e then TM σ d n el e i v (lk el tb.ty) (lk n σ.objs) else none
 | _=>none
def Lv (σ:St) (n m:Nat) (et a:TypeId) (k e:Ty) (xs:List (k.den×List e.den)) (i hi:Nat):Option (List e.den)->C7
 | some ys=>some (hi=ys.length,⟨Eh n [m] σ.env,(n,.nest et a k e (xs.set i ((xs.getD i (k.dflt,[])).1,ys)) none) :: C1 n [m] σ.objs⟩)
 | none=>none
def Og (σ:St) (n m:Nat) (et a:TypeId) (k e:Ty) (xs:List (k.den×List e.den)) (i hi:Nat):Option Obj->C7
 | some (.arr c b ys)=>if c=a/\HL m=false/\HL n=false then Lv σ n m et a k e xs i hi (BR (.slice e) ⟨.slice b,ys⟩) else none
 | _=>none
def Lw (σ:St) (d n m:Nat) (et b:TypeId) (k e:Ty) (hi a bytes:Nat) (xs:List (k.den×List e.den)):Option (List (k.den×List e.den))->C7
 | some ys=>some (hi=xs.length/\a=ys.length/\(xs.length+ys.length)*bytes<=AQ,
   ⟨(d,.sr n (.agg (.prod k (.slice e))) 0 (xs.length+ys.length)) :: Cc [n,m] σ.env,(n,.nest et b k e (xs++ys) none) :: Az [n,m] [n,m] σ.objs⟩)
 | none=>none
def Oh (σ:St) (d n m:Nat) (et a:TypeId) (k e:Ty) (hi c bytes:Nat) (xs:List (k.den×List e.den)):Option Obj->C7
 | some (.nest _ f g b ys none)=>if f=a/\n≠m/\HL m=false then Lw σ d n m et a k e hi c bytes xs (BR (.slice (.agg (.prod k (.slice e)))) ⟨.slice (.agg (.prod g (.slice b))),ys⟩) else none
 | _=>none
def Vd (σ:St) (d n:Nat) (et b:TypeId) (k e:Ty) (hi bytes:Nat) (xs:List (k.den×List e.den)):AV->C7
 | .sr m _ 0 a=>Oh σ d n m et b k e hi a bytes xs (lk m σ.objs)
 | _=>none
def TN (σ:St) (d m:Nat) (el b:TypeId) (k e:Ty) (ys:List (k.den×List e.den)) (a bytes:Nat):C7 :=
 if (lk d σ.objs).isNone=true/\HL m=false then some (a=ys.length/\ys.length*bytes<=AQ,
  ⟨(d,.sr d (.agg (.prod k (.slice e))) 0 ys.length) :: Cc [m] σ.env,(d,.nest el b k e ys none) :: Az [m] [m] σ.objs⟩) else none
def TP (σ:St) (d m:Nat) (el:TypeId) (t:Ty) (a:Nat):Option TI->Option Obj->C7
 | some ti,some (.nest _ b k e ys none)=>if t=.agg (.prod k (.slice e)) then TN σ d m el b k e ys a ti.bytes else none
 | _,_=>none
def fG (tb:Tb) (σ:St) (d:Nat):AV->Option TI->C7
 | .sr m _ 0 a,some ⟨.slice t,_,el,_⟩=>TP σ d m el t a (lk el tb.ty) (lk m σ.objs)
 | _,_=>none
def Oi (σ:St) (n m:Nat) (ty:Ty) (et a:TypeId) (k e:Ty) (xs:List (k.den×List e.den)) (i hi:Nat) (b:List Nat) (off:Nat):C7 :=
 if ty=.slice e/\b=[1]/\off=k.size then Og σ n m et a k e xs i hi (lk m σ.objs) else none
def Dm (σ:St) (n:Nat) (ty e:Ty) (i:Nat) (b:List Nat) (off:Nat) (v:AV):Option Obj->C7
 | some (.arr et a xs)=>FG σ n et ty e i b off (BR (.slice e) ⟨.slice a,xs⟩) (N2 false σ ty v)
 | some (.nest et c k a xs (some j))=>match v with
  | .sr m E 0 hi=>if e=.agg (.prod k (.slice a))/\i=j/\E=a then Oi σ n m ty et c k a xs i hi b off else none
  | _=>none
 | _=>none
def JS (σ:St):Option TI->Option AV->Option AV->C7
 | some ti,some (.bp n a off),some v=>Dl σ n ti.ty a off v (lk n σ.objs)
 | some ti,some (.ep n e i a off),some v=>Dm σ n ti.ty e i a off v (lk n σ.objs)
 | _,_,_=>none
def F6 (σ:St) (d n:Nat) (et:TypeId) (e:Ty) (hi:Nat) (bytes:Nat):Option (List e.den)->Option (List e.den)->C7
 | some a,some ys=>some ((hi+ys.length)*bytes<=AQ,⟨(d,.sr n e 0 (hi+ys.length)) :: Gh n σ.env,upd n (.arr et e (a.take hi++ys)) (Bj n σ.objs)⟩)
 | _,_=>none
def Ct (σ:St) (d n:Nat) (el:TypeId) (e:Ty) (hi:Nat) (v:AV) (ys:Option (List e.den)):Option TI->Option Obj->C7
 | some ti,some (.arr et a xs)=>if et=el then F6 σ d n et e hi ti.bytes (BR (.slice e) ⟨.slice a,xs⟩) ys else none
 | some ti,some (.nest et b k a xs none)=>if et=el/\e=.agg (.prod k (.slice a)) then Vd σ d n et b k a hi ti.bytes xs v else none
 | _,_=>none
def FH (tb:Tb) (σ:St) (d:Nat) (n:Nat) (a:Ty) (hi:Nat) (v:AV):Option TI->C7
 | some ⟨.slice e,_,el,_⟩=>if e=a then Ct σ d n el e hi v (Rf σ e v) (lk el tb.ty) (lk n σ.objs) else none
 | _=>none
def DV (tb:Tb) (σ:St) (d:Option Nat) (t u:TypeId):Option AV->Option AV->C7
 | some (.sr n e 0 hi),some v=>match d with
  | some d=>if t=u/\HL n=false then FH tb σ d n e hi v (lk t tb.ty) else none
  | none=>none
 | some (.nin n e i _),some v=>match d with
  | some d=>if t=u then Pm tb σ d n e i v (lk t tb.ty) else none
  | none=>none
 | some (.raw (.slice none 0 0)),some v=>match d with
  | some d=>if t=u then fG tb σ d v (lk t tb.ty) else none
  | none=>none
 | _,_=>none
def D7 (tb:Tb) (σ:St) (d:Option Nat):Builtin->List Operand->List TypeId->C7
 | .append,[x,y],[t,u]=>DV tb σ d t u (Aq σ x) (Aq σ y)
 | _,_,_=>none
def DW (tb:Tb) (σ:St) (d:Option Nat) (xs:List Operand) (ts:List TypeId):Callee->C7
 | .builtin b=>D7 tb σ d b xs ts
 | _=>none
def Hj (σ:St) (n:Nat) (a b:Ty) (l:List (a.den×b.den)):Option a.den->Option b.den->C7
 | some k,some v=>if aX a=true then some (True,⟨σ.env,upd n (.mapo a b (F1 a b k v l)) σ.objs⟩) else none
 | _,_=>none
def G2 (tb:Tb) (σ:St) (n:Nat) (b:Nat) (x y:AV):Option Obj->C7
 | some (.mapo a c l)=>if (lk b tb.ty).map TI.ty=some a/\(lk b tb.ty).map TI.el=some 0 then Hj σ n a c l (N2 false σ a x) (N2 false σ c y) else none
 | _=>none
def Lx (tb:Tb) (σ:St):Option TI->Option AV->Option AV->Option AV->C7
 | some ⟨.ref 2,[(k,_)],_,_⟩,some (.mp n),some x,some y=>G2 tb σ n k x y (lk n σ.objs)
 | _,_,_,_=>none
def EZ (r:C7):Option Nat->C7
 | none=>r
 | some _=>none
def F7 (tb:Tb) (σ:St) (d:Option Nat):Op->C7
 | .store t x y=>EZ (JS σ (lk t tb.ty) (Aq σ x) (Aq σ y)) d
 | .mapUpdate t m x y=>EZ (Lx tb σ (lk t tb.ty) (Aq σ m) (Aq σ x) (Aq σ y)) d
 | .call c=>DW tb σ d c.args.toList c.argTypes.toList c.callee
 | _=>none
def St.add (σ:St) (v:AV) (obs:List (Nat×Obj)):Option Nat->St
 | some d=>⟨(d,v) :: σ.env,obs++σ.objs⟩
 | none=>⟨σ.env,obs++σ.objs⟩
def Pn:Option AV->List Nat
 | some v=>v.names
 | none=>[]
def Dp (σ:St):List (Nat×Operand)->List Nat
 | []=>[]
 | (_,x) :: r=>Pn (Aq σ x)++Dp σ r
def Po:Option AV->List Nat
 | some (.ag l)=>AV.namess l
 | _=>[]
def F8 (σ:St):List (Nat×Operand)->List Nat
 | []=>[]
 | (_,x) :: r=>Po (Aq σ x)++F8 σ r
def DL (σ:St):Option AV->Option AV->List Nat
 | some (.ep n _ _ _ _),some v=>if C9 (lk n σ.objs)=true then [] else v.names
 | _,_=>[]
def Ly:Option AV->Option AV->Option AV->List Nat
 | some (.mp _),some v,some u=>v.names++u.names
 | _,_,_=>[]
def CY (σ:St):Op->List Nat
 | .buildSlice _ _ parts=>Dp σ parts.toList
 | .build _ parts=>F8 σ parts.toList
 | .store _ x y=>DL σ (Aq σ x) (Aq σ y)
 | .mapUpdate _ m x y=>Ly (Aq σ m) (Aq σ x) (Aq σ y)
 | _=>[]
def DB:List Nat->St->St
 | [],σ=>σ
 | n :: r,σ=>DB r (frz n σ)
def Bh (obs:List (Nat×Obj)) (σ:St):Bool:=obs.all λp=>(lk p.1 σ.objs).isNone
def Lz (tb:Tb) (σ:St) (o:Oper):BX->C7
 | some (vc,v,obs)=>if Bh obs σ=true then some (vc,σ.add v obs o.dst) else none
 | none=>F7 tb σ o.dst o.op
def TQ (tb:Tb) (o:Oper) (σ:St):C7:=Lz tb σ o (aq tb σ (o.dst.getD 0) o.op)
def Ga (tb:Tb) (o:Oper) (σ:St):C7:=TQ tb o (DB (CY σ o.op) σ)
def Rl (a:Bool):Option AV->Option Bool
 | some (.p .bool b)=>some (b==a)
 | _=>none
def L1 (σ:St) (a:Bool):Option Tmp->Option Bool
 | some g=>Rl a (lk g σ.env)
 | none=>none
def K1 (ops:List Oper) (σ:St):Option (Nat×Bool)->Option Bool
 | none=>some true
 | some (j,a)=>L1 σ a ((ops[j]?).bind (·.dst))
def YW (vc:Prop):C7->C7
 | some (a,σ)=>some (vc/\a,σ)
 | none=>none
mutual
def B5 (tb:Tb) (ops:List Oper):List Oper->St->C7
 | [],σ=>some (True,σ)
 | o :: r,σ=>evG tb ops o r σ (K1 ops σ o.guard)
def evG (tb:Tb) (ops:List Oper) (o:Oper) (r:List Oper) (σ:St):Option Bool->C7
 | some true=>evK tb ops r (Ga tb o σ)
 | some false=>B5 tb ops r (σ.add (.raw undef) [] o.dst)
 | none=>none
def evK (tb:Tb) (ops:List Oper) (r:List Oper):C7->C7
 | some (vc,σ)=>YW vc (B5 tb ops r σ)
 | none=>none
end
section
open Go Go.RowKit
theorem CQ {o:_root_.Go.Obj} (h:w.heap[b]?=some o):b<w.heap.size:=by grind
def blk:Value->Option Nat
 | .slice (some a) _ _=>some a.block
 | .pointer (some a)=>some a.block
 | .map (some b)=>some b
 | _=>none
def bk (v:Value) (b:Nat):Prop:=blk v=some b\/∃a:Array Value,v=.tuple a/\∃x∈a.toList,blk x=some b
theorem L2 {m c b:Nat}:bk (.slice a m c) b↔blk (.slice a m c)=some b:=by
 constructor
 .intro h;rcases h with h|⟨_,h,_⟩
  .exact h
  cases h
 exact .inl
def plc:Value->Value
 | .tuple a=>a.getD 0 undef
 | v=>v
def DM (loc:Value) (sz lo hi:Nat) (v:Value):Prop :=
 ∃(a:Option Addr) (m c:Nat),loc=.slice a m c/\lo<=hi/\hi<=m/\∃(b:Option Addr) (d:Nat),v=.slice b (hi-lo) d/\hi-lo<=d/\(lo=0->b=a/\d=c)/\(lo<hi->b=a.map (·.add (lo*sz)))
structure Vw where
 w:World
 
 O:Nat->Prop
 
 L:Nat->Prop
 
 ρ:Nat->Value
def Lay (u v:Value):Prop:=v=u\/(u=.slice none 0 0/\∃a:Option Addr,v=.slice a 0 0)
def Ve (V:Vw):AV->Value->Prop
 | .p t d,v=>BU V.w V.O t v d
 | .pc e d,v=>BU V.w V.O (.slice e) v d/\∃a:Option Addr,v=.slice a (List.length d) (List.length d)
 | .raw u,v=>v=u
 | .sr n e lo hi,v=>V.L n/\DM (plc (V.ρ n)) e.size lo hi v
 | .ep n e i _ off,v=>V.L n/\∃g m c:Nat,plc (V.ρ n)=.slice (some ⟨g,0,none⟩) m c/\i<m/\v=.pointer (some ⟨g,i*e.size+off,none⟩)
 | .nin n _ i len,v=>V.L n/\∃(h:Array Value) (a:Option Addr) (c:Nat) (u:Value),V.ρ n=.tuple h/\h[i+1]?=some u/\Lay u v/\v=.slice a len c
 | .ip t d,v=>∃(ad:Addr) (cs:List Value),v=.pointer (some ad)/\¬V.O ad.block/\(∀(j:Nat) (u:Value),cs[j]?=some u->V.w.cell? (ad.add j)=some u)/\B1 V.w V.O t cs d
 | .bp n _ off,v=>V.L n/\∃b:Nat,V.ρ n=.pointer (some ⟨b,0,none⟩)/\v=.pointer (some ⟨b,off,none⟩)
 | .fn f,v=>v=.func (.func f) #[] #[]
 | .clo f ns,v=>v=.func (.func f) #[] (ns.map V.ρ).toArray/\∀n∈ns,V.L n/\∃b:Nat,V.ρ n=.pointer (some ⟨b,0,none⟩)
 | .mp n,v=>V.L n/\∃b:Nat,V.ρ n=.map (some b)/\v=.map (some b)
 | .yl n,v=>V.L n/\∃b:Nat,V.ρ n=.pointer (some ⟨b,0,none⟩)/\v=.func (.yield b) #[] #[]
 | .top,_=>True
 | .ag _,_=>False
 | .tup _,_=>False
def N3 (V:Vw):AV->List Value->Prop
 | .p t d,cs=>B1 V.w V.O t cs d
 | av,cs=>∃v,cs=[v]/\v.oneCell'=true/\Ve V av v
def Da (V:Vw):List AV->List Value->Prop
 | [],cs=>cs=[]
 | x :: r,cs=>∃c1 c2:List Value,cs=c1++c2/\N3 V x c1/\Da V r c2
def TR (V:Vw):AV->Value->Prop
 | .ag l,v=>∃cs:List Value,v=.agg cs.toArray/\Da V l cs
 | x,v=>Ve V x v
def H9 (V:Vw):List AV->List Value->Prop
 | [],a=>a=[]
 | x :: r,a=>∃(v:Value) (l:List Value),a=v :: l/\TR V x v/\H9 V r l
theorem TR.of1 {V:Vw} {x:AV} {v:Value} (h:Ve V x v):TR V x v:=by
 cases x;case ag l=>exact h.elim
 all_goals exact h
def B7 (V:Vw):AV->Value->Prop
 | .ag l,v=>∃cs:List Value,v=.agg cs.toArray/\Da V l cs
 | .tup l,v=>∃a:List Value,v=.tuple a.toArray/\H9 V l a
 | av,v=>Ve V av v
theorem A0y {V:Vw} {x:AV} {v:Value} (h:TR V x v):B7 V x v:=by
 cases x;case tup l=>exact(show False from h).elim
 all_goals exact h
def Dh (w:World) (O:Nat->Prop) (e:Ty) (cells:List Value) (xs:List e.den):Prop :=
 ∀(i:Nat) (x:e.den),xs[i]?=some x->∃a:List Value,a.length=e.size/\(∀(j:Nat) (u:Value),a[j]?=some u->cells[i*e.size+j]?=some u)/\B1 w O e a x
def Oj (w:World) (O:Nat->Prop) (k v:Ty):List MapEntry->List (k.den×v.den)->Prop
 | [],[]=>True
 | e :: a,x :: xs=>BU w O k e.key x.1/\BU w O v e.val x.2/\Oj w O k v a xs
 | _,_=>False
def aY (a:Array MapEntry) (clock:Nat):Prop:=(a.toList.map (·.born)).Nodup/\∀b∈a.toList.map (·.born),b<clock
def Rm (V:Vw) (et:TypeId) (e:Ty) (xs:List e.den) (loc:Value):Prop:=xs.length<=AQ/\∃cells:List Value,V.w.ownsRow 0 et e.size loc xs.length cells/\Dh V.w V.O e cells xs
def aZ (V:Vw) (a:TypeId) (k e:Ty) (hole:Bool) (cells:List Value) (i:Nat) (x:k.den×List e.den) (u:Value):Prop :=
 ∃(c1:List Value) (v:Value),(∀(j:Nat) (z:Value),(c1++[v])[j]?=some z->cells[i*(k.size+1)+j]?=some z)/\B1 V.w V.O k c1 x.1 /\
  ((hole=true/\u=.slice none 0 0)\/(hole=false/\Lay u v/\Rm V a e x.2 u))
structure LR (V:Vw) (et iet:TypeId) (k e:Ty) (xs:List (k.den×List e.den)) (h:Option Nat) (o:Value) (ins:List Value) (cells:List Value):Prop where
 max:xs.length<=AQ
 len:ins.length=xs.length
 own:V.w.ownsRow 0 et (k.size+1) o xs.length cells
 row:∀(i:Nat) (x:k.den×List e.den) (u:Value),xs[i]?=some x->ins[i]?=some u->aZ V iet k e (h==some i) cells i x u
 dist:∀(i j b:Nat) (u v:Value),ins[i]?=some u->ins[j]?=some v->blk u=some b->blk v=some b->i=j
 out:∀(i b:Nat) (u:Value),ins[i]?=some u->blk u=some b->blk o≠some b
def Shp (loc o:Value) (ins:List Value):Prop:=loc=.tuple (o :: ins).toArray\/(loc=.slice none 0 0/\o=.slice none 0 0/\ins=[])
def AAp (V:Vw) (k v:Ty) (l:List (k.den×v.den)) (left:List Nat) (d:Option Nat) (r:Nat):Prop :=
 ∃(b:Nat) (a:Array MapEntry) (clock c:Nat) (seen:Array Nat),V.w.heap[r]?=some (.mapIter (some b) c seen clock)/\¬V.O b/\V.w.heap[b]?=some (.map a clock)/\Oj V.w V.O k v a.toList l/\aY a clock /\
  (∀s∈a.toList.map (·.born),s<c)/\c<=clock/\left.Nodup/\(∀i,i∈left↔∃e,a[i]?=some e/\e.born∉seen)/\(∀i,d=some i->∃e,a[i]?=some e/\seen.back?=some e.born)
def A6 (V:Vw):Obj->Value->Prop
 | .arr et e xs,loc=>Rm V et e xs loc
 | .nest et d k e xs h,loc=>∃(o:Value) (ins cells:List Value),Shp loc o ins/\LR V et d k e xs h o ins cells
 | .box et st fs,loc=>(st=false->fs.length=1)/\∃(b:Nat) (cs:List Value),loc=.pointer (some ⟨b,0,none⟩)/\V.w.heap[b]?=some (.cells cs.toArray et (0,0))/\Da V fs cs
 | .mapo k v l,loc=>∃(b:Nat) (a:Array MapEntry) (clock:Nat),loc=.map (some b)/\V.w.heap[b]?=some (.map a clock)/\Oj V.w V.O k v a.toList l/\aY a clock
 | .frame f fs,loc=>loc=.pointer none/\∀s x,lk s fs=some x->B7 V x (f.getD s undef)
 | .itr k v l left c,loc=>∃r:Nat,loc=.pointer (some ⟨r,0,none⟩)/\AAp V k v l left c r
 | .loop L,loc=>∃b:Nat,loc=.pointer (some ⟨b,0,none⟩)/\V.w.heap[b]?=some (.loop L)
 | .dfr,loc=>∃b:Nat,loc=.pointer (some ⟨b,0,none⟩)/\V.w.heap[b]?=some (.deferred (some []))
structure Frm (K:Nat->Prop) (w0 w:World):Prop where
 os:w.os=w0.os
 tape:w.tape=w0.tape
 output:w.output=w0.output
 size:w0.heap.size<=w.heap.size
 block:∀k,K k->w.heap[k]?=w0.heap[k]?
def HK (σ:St) (n:Nat):Prop:=∃o,lk n σ.objs=some o
def own (O0:Nat->Prop) (σ:St) (ρ:Nat->Value) (b:Nat):Prop:=O0 b\/∃n,HK σ n/\bk (ρ n) b
def vw (w:World) (O0:Nat->Prop) (σ:St) (ρ:Nat->Value):Vw:=⟨w,own O0 σ ρ,HK σ,ρ⟩
def A7x:Value->Bool
 | .slice _ _ _=>false
 | .tuple _=>false
 | _=>true
structure Fp where
 ds:List Deferred:=[]
 pin:List (Nat×Value):=[]
structure CG (w0:World) (K O0:Nat->Prop) (nt:Nat) (ds:Fp) (σ:St) (ρ:Nat->Value) (a:Act) (w:World):Prop where
 frm:Frm K w0 w
 nt:a.tmps.size=nt
 defers:a.defers=ds.ds
 pin:∀p∈ds.pin,HK σ p.1/\ρ p.1=p.2/\(A7x p.2=true\/HL p.1=true)
 objs:∀n o,lk n σ.objs=some o->A6 (vw w O0 σ ρ) o (ρ n)
 free:∀n b,HK σ n->bk (ρ n) b->¬K b/\¬O0 b
 dist:∀n m b,HK σ n->HK σ m->bk (ρ n) b->bk (ρ m) b->n=m
 env:∀s v,lk s σ.env=some v->B7 (vw w O0 σ ρ) v (a.tmps.getD s undef)
structure Cu (V V':Vw):Prop where
 O:∀b,b<V.w.heap.size->¬V.O b->¬V'.O b
 L:∀n,V.L n->V'.L n
 ρ:∀n,V.L n->V'.ρ n=V.ρ n
 heap:∀b,b<V.w.heap.size->¬V.O b->V'.w.heap[b]?=V.w.heap[b]?
theorem Ve.keeps {V V':Vw} (h:Cu V V'):∀ {x:AV} {v:Value},Ve V x v->Ve V' x v
 | .p _ _,_,hx=>BU.mono h.O h.heap hx
 | .pc _ _,_,hx=>⟨BU.mono h.O h.heap hx.1,hx.2⟩
 | .raw _,_,hx=>hx
 | .sr n e lo hi,_,⟨a,hs⟩=>⟨h.L n a,by rw[h.ρ n a];exact hs⟩
 | .ep n e i _ off,_,⟨a,hs⟩=>⟨h.L n a,by rw[h.ρ n a];exact hs⟩
 | .nin n _ i len,_,⟨a,hs⟩=>⟨h.L n a,by rw[h.ρ n a];exact hs⟩
 | .ip t d,_,⟨ad,cs,b,c,g,l⟩=>by
  have k:ad.block<V.w.heap.size:=by
   have o:=t.size_pos;have hl:=l.length;have:=block_lt_of_cell (g 0 (cs[0]'(by omega)) (AT O1))
   rwa [CP]at this
  refine⟨ad,cs,b,h.O _ k c,λj u m=>?_,B1.mono h.O h.heap l⟩;rw[ACm (w:=V.w) (w':=V'.w)]
  .exact g j u m
  rw[CP];exact h.heap _ k c
 | .bp n _ off,_,⟨a,hs⟩=>⟨h.L n a,by rw[h.ρ n a];exact hs⟩
 | .fn _,_,hx=>hx
 | .clo f ns,_,⟨b,hs⟩=>by
  refine⟨?_,λn hn=>⟨h.L n (hs n hn).1,by rw[h.ρ n (hs n hn).1];exact(hs n hn).2⟩⟩;rw[b]
  congr 2
  exact RN λn hn=>(h.ρ n (hs n hn).1).symm
 | .mp n,_,⟨a,hs⟩=>⟨h.L n a,by rw[h.ρ n a];exact hs⟩
 | .yl n,_,⟨a,hs⟩=>⟨h.L n a,by rw[h.ρ n a];exact hs⟩
 | .top,_,_=>trivial
 | .ag _,_,hx=>hx
 | .tup _,_,hx=>hx
theorem N3.keeps {V V':Vw} (h:Cu V V') {x:AV} {cs:List Value} (hx:N3 V x cs):N3 V' x cs:=by
 cases x;case p t d=>exact(B1.mono h.O h.heap hx:B1 V'.w V'.O t cs d)
 all_goals
  obtain⟨v,h1,a,b⟩:=hx;exact⟨v,h1,a,b.keeps h⟩
theorem Da.keeps {V V':Vw} (h:Cu V V'):∀ {l:List AV} {cs:List Value},Da V l cs->Da V' l cs
 | [],_,hx=>hx
 | _ :: _,_,⟨c1,c2,e,h1,a⟩=>⟨c1,c2,e,h1.keeps h,a.keeps h⟩
theorem TR.keeps {V V':Vw} (h:Cu V V') {x:AV} {v:Value} (hx:TR V x v):TR V' x v:=by
 cases x;case ag l=>obtain⟨cs,h1,a⟩:=hx;exact⟨cs,h1,a.keeps h⟩
 all_goals exact TR.of1 (Ve.keeps h hx)
theorem H9.keeps {V V':Vw} (h:Cu V V'):∀ {l:List AV} {a:List Value},H9 V l a->H9 V' l a
 | [],_,hx=>hx
 | _ :: _,_,⟨v,l,e,h1,b⟩=>⟨v,l,e,h1.keeps h,b.keeps h⟩
theorem B7.keeps {V V':Vw} (h:Cu V V') {x:AV} {v:Value} (hx:B7 V x v):B7 V' x v:=by
 cases x;case ag l=>obtain⟨cs,h1,a⟩:=hx;exact⟨cs,h1,a.keeps h⟩
 case tup l=>obtain⟨cs,h1,a⟩:=hx;exact⟨cs,h1,a.keeps h⟩
 all_goals
  simp only[B7]at hx ⊢;exact Ve.keeps h hx
theorem Dh.keeps {V V':Vw} (h:Cu V V') {e:Ty} {cells:List Value} {xs:List e.den} (hx:Dh V.w V.O e cells xs):Dh V'.w V'.O e cells xs:=λi x hi =>
 let ⟨a,h1,b,c⟩:=hx i x hi
 ⟨a,h1,b,B1.mono h.O h.heap c⟩
theorem Oj.mono {w':World} {O':Nat->Prop} (a:∀b,b<w.heap.size->¬O b->¬O' b) (c:∀b,b<w.heap.size->¬O b->w'.heap[b]?=w.heap[b]?) {k v:Ty} :
  ∀ {d:List MapEntry} {l:List (k.den×v.den)},Oj w O k v d l->Oj w' O' k v d l
 | [],[],h=>h
 | [],_ :: _,h=>h.elim
 | _ :: _,[],h=>h.elim
 | _ :: _,_ :: _,⟨h1,e,f⟩=>⟨h1.mono a c,e.mono a c,f.mono a c⟩
theorem JT {w':World} {et:TypeId} {sz:Nat} {loc:Value} {cells:List Value} (hb:∀b,blk loc=some b->w'.heap[b]?=w.heap[b]?) (h:w.ownsRow 0 et sz loc n cells):w'.ownsRow 0 et sz loc n cells:=by
 obtain⟨h1,a⟩:=h;refine⟨h1,?_⟩;rcases a with a|⟨g,cap,c,rfl,d,e,f⟩
 .exact .inl a
 exact .inr ⟨g,cap,c,rfl,d,(hb g rfl).trans e,f⟩
theorem Rm.keeps {V V':Vw} (h:Cu V V') {et:TypeId} {e:Ty} {xs:List e.den} {loc:Value} (hb:∀b,blk loc=some b->V'.w.heap[b]?=V.w.heap[b]?) (hx:Rm V et e xs loc):Rm V' et e xs loc:=by
 obtain⟨hm,cells,h1,a⟩:=hx;exact⟨hm,cells,JT hb h1,a.keeps h⟩
theorem aZ.keeps {V V':Vw} (h:Cu V V') {k e:Ty} {hole:Bool} {cells:List Value} {i:Nat} {x:k.den×List e.den} (hb:∀b,blk u=some b->V'.w.heap[b]?=V.w.heap[b]?) (hx:aZ V c k e hole cells i x u):aZ V' c k e hole cells i x u:=by
 obtain⟨c1,v,h1,d,a⟩:=hx;refine⟨c1,v,h1,B1.mono h.O h.heap d,?_⟩;rcases a with a|⟨a,f,g⟩
 .exact .inl a
 exact .inr ⟨a,f,g.keeps h hb⟩
theorem A8 {o:Value} {ins:List Value}:bk (.tuple (o :: ins).toArray) b↔blk o=some b\/∃(i:Nat) (u:Value),ins[i]?=some u/\blk u=some b:=by
 constructor
 .rintro (h|⟨a,h,x,hx,hb⟩)
  .cases h
  injection h with h
  subst h;simp only[DO]at hx;rcases hx with rfl|hx
  .exact .inl hb
  obtain⟨i,hi⟩:=List.getElem?_of_mem hx;exact .inr ⟨i,x,hi,hb⟩
 rintro (h|⟨i,u,hi,hb⟩)
 .exact .inr ⟨_,rfl,o,by simp,h⟩
 exact .inr ⟨_,rfl,u,by simp[AAm hi],hb⟩
theorem Shp.bk {loc o:Value} {ins:List Value} (h:Shp loc o ins):bk loc b↔bk (.tuple (o :: ins).toArray) b:=by
 rcases h with rfl|⟨rfl,rfl,rfl⟩
 .exact Iff.rfl
 grind [A8,L2,blk]
theorem Shp.plc {loc o:Value} {ins:List Value} (h:Shp loc o ins):plc loc=o:=by
 rcases h with rfl|⟨rfl,rfl,rfl⟩<;>rfl
theorem Shp.tup {loc o:Value} {ins:List Value} {a:Array Value} (h:Shp loc o ins) (b:loc=.tuple a):a=(o :: ins).toArray:=by
 subst b;rcases h with h|⟨h,_⟩
 .injection h
 cases h
theorem LR.keeps {V V':Vw} (h:Cu V V') {et c:TypeId} {k e:Ty} {xs:List (k.den×List e.den)} {hl:Option Nat} {o:Value} {ins cells:List Value} (hb:∀b,bk (.tuple (o :: ins).toArray) b->V'.w.heap[b]?=V.w.heap[b]?) (hx:LR V et c k e xs hl o ins cells):LR V' et c k e xs hl o ins cells :=
 ⟨hx.max,hx.len,JT (λb h1=>hb b (A8.2 (.inl h1))) hx.own,λi x u h1 a=>(hx.row i x u h1 a).keeps h (λb d=>hb b (A8.2 (.inr ⟨i,u,a,d⟩))),hx.dist,hx.out⟩
theorem Vf {et:TypeId} {sz b:Nat} {loc:Value} {cells:List Value} (h:w.ownsRow 0 et sz loc n cells) (hb:blk loc=some b):b<w.heap.size:=by
 rcases h.2 with ⟨rfl,_⟩|⟨g,cap,a,rfl,c,d,e⟩
 .simp[blk]at hb
 grind [blk,CQ]
theorem LR.block_lt {V:Vw} {et d:TypeId} {k e:Ty} {xs:List (k.den×List e.den)} {o:Value} {ins cells:List Value} (hx:LR V et d k e xs h o ins cells) (hb:bk (.tuple (o :: ins).toArray) b):b<V.w.heap.size:=by
 rcases A8.1 hb with h1|⟨i,u,h1,c⟩
 .exact Vf hx.own h1
 have hi:i<xs.length:=by have:=(RL.1 h1).1;rw[hx.len]at this;exact this
 obtain⟨c1,v,_,_,a⟩:=hx.row i xs[i] u (AT hi) h1;rcases a with ⟨_,a⟩|⟨_,_,_,f,a,_⟩
 .rw[a]at c;simp[blk]at c
 exact Vf a c
theorem A6.keeps {V V':Vw} (h:Cu V V') {o:Obj} {loc:Value} (hb:∀b,bk loc b->V'.w.heap[b]?=V.w.heap[b]?) (hx:A6 V o loc):A6 V' o loc:=by
 cases o with
 | arr et e xs =>
  obtain⟨hm,cells,⟨h1,a⟩,z⟩:=hx;refine⟨hm,cells,⟨h1,?_⟩,z.keeps h⟩;rcases a with a|⟨g,cap,d,rfl,B,C,D⟩
  .exact .inl a
  exact .inr ⟨g,cap,d,rfl,B,(hb g (.inl rfl)).trans C,D⟩
 | box et st fs =>
  obtain⟨h0,b,cs,rfl,h1,a⟩:=hx;exact⟨h0,b,cs,rfl,(hb b (.inl rfl)).trans h1,a.keeps h⟩
 | nest et G k e xs hl =>
  obtain⟨o,ins,cells,hs,h1⟩:=hx;exact⟨o,ins,cells,hs,h1.keeps h λb y=>hb b (hs.bk.2 y)⟩
 | mapo k v l =>
  obtain⟨b,i,cl,rfl,h1,a,c⟩:=hx;exact⟨b,i,cl,rfl,(hb b (.inl rfl)).trans h1,a.mono h.O h.heap,c⟩
 | frame H fs =>
  obtain⟨h0,h1⟩:=hx;exact⟨h0,λs x hs=>(h1 s x hs).keeps h⟩
 | itr k v l left d =>
  obtain⟨r,rfl,b,A,cl,F,E,h1,a,c,m,n,p,q,t,u,j⟩:=hx;have f:=CQ c;exact⟨r,rfl,b,A,cl,F,E,(hb r (.inl rfl)).trans h1,h.O b f a,(h.heap b f a).trans c,m.mono h.O h.heap,n,p,q,t,u,j⟩
 | loop L =>
  obtain⟨b,rfl,h1⟩:=hx;exact⟨b,rfl,(hb b (.inl rfl)).trans h1⟩
 | dfr =>
  obtain⟨b,rfl,h1⟩:=hx;exact⟨b,rfl,(hb b (.inl rfl)).trans h1⟩
theorem A6.block_lt {V:Vw} {o:Obj} {loc:Value} (hx:A6 V o loc) (hb:bk loc b):b<V.w.heap.size:=by
 cases o with
 | arr et e xs =>
  obtain⟨hm,cells,⟨h1,c⟩,h⟩:=hx;rcases c with ⟨rfl,_⟩|⟨g,cap,d,rfl,m,n,p⟩
  .simp[bk,blk]at hb
  grind [bk,blk,CQ]
 | box et st fs =>
  obtain⟨h0,a,cs,rfl,h1,c⟩:=hx;simp[bk,blk]at hb;subst hb;exact CQ h1
 | nest et i k e xs hl =>
  obtain⟨o,ins,cells,hs,h1⟩:=hx;exact h1.block_lt (hs.bk.1 hb)
 | mapo k v l =>
  obtain⟨a,f,cl,rfl,h1,c⟩:=hx;simp[bk,blk]at hb;subst hb;exact CQ h1
 | frame t fs =>
  obtain⟨rfl,h1⟩:=hx;simp[bk,blk]at hb
 | itr k v l left d =>
  obtain⟨r,rfl,a,j,cl,s,q,h1,-⟩:=hx;simp[bk,blk]at hb;subst hb;exact CQ h1
 | loop L =>
  obtain⟨a,rfl,h1⟩:=hx;simp[bk,blk]at hb;subst hb;exact CQ h1
 | dfr =>
  obtain⟨a,rfl,h1⟩:=hx;simp[bk,blk]at hb;subst hb;exact CQ h1
section
variable {α:Type}
theorem A2 (k:Nat):∀(l r:List (Nat×α)),lk k (l++r)=(lk k l).or (lk k r)
 | [],_=>by simp[lk]
 | (j,v) :: l,r=>by
  simp only[AB6,lk];split
  .simp
  exact A2 k l r
theorem Gk (k n:Nat) (u:α):∀l:List (Nat×α),lk k (upd n u l)=if k=n then (lk n l).map (λ_=>u) else lk k l
 | []=>by simp[lk,upd]
 | (j,v) :: l=>by
  simp only[upd];by_cases hn:n=j
  .subst hn;by_cases hk:k=n
   .subst hk;simp[lk]
   simp[lk,hk,Gk k n u l]
  simp only[At hn,lk];by_cases hk:k=n
  .subst hk;simp[hn,Gk k k u l]
  by_cases a:k=j
  .subst a;simp[hk]
  simp[hk,a,Gk k n u l]
theorem Rn (k n:Nat):∀l:List (Nat×α),lk k (del n l)=if k=n then none else lk k l
 | []=>by simp[lk,del]
 | (j,v) :: l=>by
  simp only[del];by_cases hn:n=j
  .subst hn;rw[BY rfl,Rn k n l];grind [lk]
  rw[At hn];simp only[lk,Rn k n l];grind
end
end
section
open Go Go.RowKit
def EM (σ:St) (obs:List (Nat×Obj)):St:=⟨σ.env,obs++σ.objs⟩
structure QS (w:World) (O0:Nat->Prop) (σ:St) (ρ:Nat->Value) (v:AV) (obs:List (Nat×Obj)) (u:Value) (ρ':Nat->Value) (w':World):Prop where
 below:Below w.heap.size w w'
 rho:∀n,lk n obs=none->ρ' n=ρ n
 av:B7 (vw w' O0 (EM σ obs) ρ') v u
 obj:∀n o,lk n obs=some o->A6 (vw w' O0 (EM σ obs) ρ') o (ρ' n)
 new:∀n o b,lk n obs=some o->bk (ρ' n) b->w.heap.size<=b
 dist:∀n m o o' b,lk n obs=some o->lk m obs=some o'->bk (ρ' n) b->bk (ρ' m) b->n=m
theorem F9 {α:Type} {k:Nat} {v:α}:∀ {l:List (Nat×α)},lk k l=some v->(k,v)∈l
 | (j,u) :: l,h=>by
  simp only[lk]at h;split at h
  .grind
  exact If _ (F9 h)
theorem Ol {obs:List (Nat×Obj)} {σ:St} (h:Bh obs σ=true) {n:Nat} {o:Obj} (hn:lk n obs=some o):lk n σ.objs=none:=by
 simp only[Bh,Of]at h;simpa using h _ (F9 hn)
theorem L3 {σ:St} {obs:List (Nat×Obj)} {n:Nat} (h:HK (EM σ obs) n):(∃o,lk n obs=some o)\/(lk n obs=none/\HK σ n):=by
 obtain⟨o,h⟩:=h;simp only[EM,A2]at h;cases a:lk n obs with
 | some b=>exact .inl ⟨b,rfl⟩
 | none=>rw[a]at h;exact .inr ⟨rfl,o,by simpa using h⟩
theorem a9 {σ:St} {obs:List (Nat×Obj)} (hf:Bh obs σ=true) {n:Nat} (h:HK σ n):HK (EM σ obs) n/\lk n obs=none:=by
 obtain⟨o,h⟩:=h;have hn:lk n obs=none:=by
  cases a:lk n obs with
  | none=>rfl
  | some b=>have:=Ol hf a;rw[this]at h;cases h
 exact⟨⟨o,by simp[EM,A2,hn,h]⟩,hn⟩
theorem IA {w':World} {O0:Nat->Prop} {σ:St} {ρ ρ':Nat->Value} {obs:List (Nat×Obj)} (hf:Bh obs σ=true)
  (hb:Below w.heap.size w w') (hr:∀n,lk n obs=none->ρ' n=ρ n) (hn:∀n o b,lk n obs=some o->bk (ρ' n) b->w.heap.size<=b) :
  Cu (vw w O0 σ ρ) (vw w' O0 (EM σ obs) ρ') where
 O:=by
  intro b hlt hO hO';rcases hO' with h0|⟨n,hl,hb'⟩
  .exact hO (.inl h0)
  rcases L3 hl with ⟨o,ho⟩|⟨hno,hl'⟩
  .have:=hn n o b ho hb';have hlt:b<w.heap.size:=hlt;omega
  exact hO (.inr ⟨n,hl',by rw[<-hr n hno];exact hb'⟩)
 L:=λn h=>(a9 hf h).1
 ρ:=λn h=>hr n (a9 hf h).2
 heap:=λb hlt _=>hb.block b hlt
theorem QS.keeps {w':World} {O0:Nat->Prop} {σ:St} {ρ ρ':Nat->Value} {v:AV} {obs:List (Nat×Obj)} (hf:Bh obs σ=true) (h:QS w O0 σ ρ v obs u ρ' w') :
  Cu (vw w O0 σ ρ) (vw w' O0 (EM σ obs) ρ'):=IA hf h.below h.rho h.new
theorem Frm.below {K:Nat->Prop} {w0 w w':World} (h:Frm K w0 w) (hb:Below w.heap.size w w') (hK:∀b,K b->b<w0.heap.size):Frm K w0 w' where
 os:=hb.os.trans h.os
 tape:=hb.tape.trans h.tape
 output:=hb.output.trans h.output
 size:=RF h.size hb.size
 block:=λk hk=>(hb.block k (AAU (hK k hk) h.size)).trans (h.block k hk)
theorem Pp (a:Act) (dst:Option Tmp) (u:Value):(a.put dst u).tmps.size=a.tmps.size:=by
 cases dst<;>simp[Act.put]
theorem Kh (a:Act) (dst:Option Tmp) (u:Value):(a.put dst u).defers=a.defers:=by cases dst<;>rfl
theorem NE (a:Act) (d:Nat) (u:Value) (s:Nat) (hd:d<a.tmps.size):(a.put (some d) u).tmps.getD s undef=if s=d then u else a.tmps.getD s undef:=by
 by_cases h:s=d
 .subst h;simp[Act.put,hd]
 have:¬d=s:=λe=>h e.symm;simp[Act.put,h,this,Array.getElem?_setIfInBounds]
theorem CG.add {w0:World} {K O0:Nat->Prop} {nt:Nat} {ds:Fp} {σ:St} {ρ:Nat->Value} {a:Act} {w:World} (h:CG w0 K O0 nt ds σ ρ a w)
  (F:∀b,K b->b<w0.heap.size) (H:∀b,O0 b->b<w0.heap.size) {dst:Option Nat} (hd:∀d,dst=some d->d<nt)
  {v:AV} {obs:List (Nat×Obj)} {ρ':Nat->Value} {w':World} (hf:Bh obs σ=true) (c:QS w O0 σ ρ v obs u ρ' w') :
  CG w0 K O0 nt ds (σ.add v obs dst) ρ' (a.put dst u) w':=by
 have hk:=c.keeps hf;have C:(σ.add v obs dst).objs=obs++σ.objs:=by cases dst<;>rfl
 have j:∀n,HK (σ.add v obs dst) n↔HK (EM σ obs) n:=λn=>by simp[HK,C,EM]
 have D:vw w' O0 (σ.add v obs dst) ρ'=vw w' O0 (EM σ obs) ρ':=by
  have hl:HK (σ.add v obs dst)=HK (EM σ obs):=funext λn=>propext (j n);have f:own O0 (σ.add v obs dst) ρ'=own O0 (EM σ obs) ρ':=by grind [own]
  simp only[vw,hl,f]
 refine⟨h.frm.below c.below F,by rw[Pp];exact h.nt,by rw[Kh];exact h.defers,λp G=>?_,?_,?_,?_,?_⟩
 .obtain⟨h1,i,E⟩:=h.pin p G;have z:=a9 hf h1;exact⟨(j p.1).2 z.1,(c.rho _ z.2).trans i,E⟩
 .intro n o f;rw[C,A2]at f;rw[D];cases l:lk n obs with
  | some t=>rw[l]at f;cases f;exact c.obj n _ l
  | none =>
   rw[l]at f;have k:lk n σ.objs=some o:=by simpa using f
   rw[c.rho n l];refine(h.objs n o k).keeps hk λb hb=>?_;exact c.below.block b ((h.objs n o k).block_lt hb)
 .intro n b hl hb;rcases L3 ((j n).1 hl) with ⟨o,f⟩|⟨q,r⟩
  .have I:=c.new n o b f hb;have:=h.frm.size;grind
  rw[c.rho n q]at hb;exact h.free n b r hb
 .intro n m b hl r hb g;rcases L3 ((j n).1 hl) with ⟨o,f⟩|⟨q,hn⟩<;>rcases L3 ((j m).1 r) with ⟨t,k⟩|⟨B,A⟩
  .exact c.dist n m o t b f k hb g
  .have h1:=c.new n o b f hb;rw[c.rho m B]at g;obtain⟨y,i⟩:=A;have:=(h.objs m y i).block_lt g;have:b<w.heap.size:=this;omega
  .have h1:=c.new m t b k g;rw[c.rho n q]at hb;obtain⟨y,i⟩:=hn;have:=(h.objs n y i).block_lt hb;have:b<w.heap.size:=this;omega
  rw[c.rho n q]at hb;rw[c.rho m B]at g;exact h.dist n m b hn A hb g
 intro s x hs;rw[D];cases dst with
 | none=>exact(h.env s x hs).keeps hk
 | some d =>
  simp only[St.add,lk]at hs;rw[NE a d u s (by rw[h.nt];exact hd d rfl)];split at hs
  .rename_i e;cases hs;rw[BY e];exact c.av
  rename_i e;rw[At e];exact(h.env s x hs).keeps hk
theorem QS.still {O0:Nat->Prop} {σ:St} {ρ:Nat->Value} {v:AV} (h:B7 (vw w O0 σ ρ) v u):QS w O0 σ ρ v [] u ρ w where
 below:=Below.refl _ _
 rho:=λ_ _=>rfl
 av:=h
 obj:=λ_ _ h=>by cases h
 new:=λ_ _ _ h=>by cases h
 dist:=λ_ _ _ _ _ h=>by cases h
def FA (ρ:Nat->Value) (n:Nat) (x:Value):Nat->Value:=λm=>if m=n then x else ρ m
theorem Bp (ρ:Nat->Value) (n:Nat) (x:Value):FA ρ n x n=x:=by simp[FA]
theorem QS.one {w':World} {O0:Nat->Prop} {σ:St} {ρ:Nat->Value} {v:AV} {loc:Value} {n:Nat} {o:Obj} (hb:Below w.heap.size w w')
  (hnew:∀b,bk loc b->w.heap.size<=b)
  (hav:B7 (vw w' O0 (EM σ [(n,o)]) (FA ρ n loc)) v u)
  (hobj:A6 (vw w' O0 (EM σ [(n,o)]) (FA ρ n loc)) o loc):QS w O0 σ ρ v [(n,o)] u (FA ρ n loc) w' where
 below:=hb
 rho:=λm hm=>by grind [lk,FA]
 av:=hav
 obj:=λm o' hm=>by grind [lk,Bp]
 new:=λm o' b hm hb'=>by grind [lk,Bp]
 dist:=λm m' o1 o2 b h1 h2 _ _=>by grind [lk]
end
section
open Go Go.RowKit
theorem BA {t:Ty} {p:PV} {d:t.den} (h:BR t p=some d):p=⟨t,d⟩:=by
 obtain⟨u,x⟩:=p;grind [BR]
theorem Bk {e a:Ty} {xs:List a.den} {ys:List e.den} (h:BR (.slice e) ⟨.slice a,xs⟩=some ys):a=e/\HEq xs ys:=by
 have b:=BA h;grind
theorem Om {α:Type} (xs:List α) {lo:Nat} (h:n<=xs.length):(sub xs lo n).length=n-lo:=by
 simp[sub];omega
theorem bA {α:Type} (xs:List α) (lo hi i:Nat) {x:α} (h:(sub xs lo hi)[i]?=some x):xs[lo+i]?=some x/\i<hi-lo:=by grind [sub]
theorem sO {O':Nat->Prop} {et:TypeId} {e:Ty} {xs:List e.den} {loc:Value} {cells:List Value} {lo:Nat} (u:∀b,blk loc=some b->¬O' b)
  (hm:xs.length<=AQ) (f:w.ownsRow 0 et e.size loc xs.length cells) (o:Dh w O' e cells xs) (y:DM loc e.size lo n v):B1 w O' (.slice e) [v] (sub xs lo n):=by
 obtain⟨a,m,c,h,D,p,j,k,rfl,hi,h0,h1⟩:=y;have t:m=xs.length:=by
  rcases f.2 with ⟨d,hn⟩|⟨g,cap,l,d,_⟩
  .grind
  rw[h]at d;injection d
 subst t;have hl:=Om xs (lo:=lo) p;refine⟨j,k,by rw[hl],by rw[hl];exact hi,by rw[hl];omega,?_⟩;by_cases s:lo<n
 .right;rcases f.2 with ⟨d,hn⟩|⟨g,cap,l,d,r⟩
  .omega
  have B:=World.ownsRow.cells f (g:=g) (by rw[d];rfl);have ha:a=some ⟨g,0,none⟩:=by rw[h]at d;injection d
  subst ha;refine⟨_,h1 s,u _ (by rw[d];simp only[blk,CP]),λi x q=>?_⟩;obtain⟨hx,E⟩:=bA xs lo n i q;obtain⟨z,C,A,F⟩:=o (lo+i) x hx;grind [DK]
 simp_all
theorem Hk {et:TypeId} {sz n:Nat} {s:Value} {xs:List Value} (h:w.ownsRow b et sz s n xs):plc s=s:=by
 rcases h.2 with ⟨rfl,_⟩|⟨g,cap,a,rfl,_⟩<;>rfl
theorem Uo {V:Vw} {et:TypeId} {e:Ty} {xs:List e.den} {loc:Value} (h:A6 V (.arr et e xs) loc):plc loc=loc:=by
 obtain⟨_,_,h,_⟩:=h;exact Hk h
theorem bB {V:Vw} {O':Nat->Prop} (h:∀b,¬V.O b->¬O' b) {et:TypeId} {e:Ty} {xs:List e.den} {loc:Value} {lo:Nat} (l:∀b,blk loc=some b->¬O' b)
  (a:A6 V (.arr et e xs) loc) (c:DM (plc loc) e.size lo n v):B1 V.w O' (.slice e) [v] (sub xs lo n):=by
 rw[Uo a]at c;obtain⟨hm,cells,k,j⟩:=a;exact sO l hm k (λi x n=>let ⟨d,h1,f,g⟩:=j i x n;⟨d,h1,f,g.mono (λb _ hb=>h b hb) (λ_ _ _=>rfl)⟩) c
theorem Gl {et:TypeId} {sz:Nat} {s:Value} {xs:List Value} (h:w.ownsRow 0 et sz s n xs):DM s sz 0 n s:=by
 rcases h.2 with ⟨rfl,hn⟩|⟨g,cap,a,rfl,_,_,b,_⟩
 .exact⟨none,0,0,rfl,by omega,by omega,none,0,by rw[hn],by omega,λ_=>⟨rfl,rfl⟩,λh=>by omega⟩
 exact⟨some ⟨g,0,none⟩,n,cap,rfl,by omega,by omega,some ⟨g,0,none⟩,cap,by simp,by omega,λ_=>⟨rfl,rfl⟩,λ_=>by simp[NC]⟩
theorem Ym {V:Vw} {O':Nat->Prop} (c:∀b,¬V.O b->¬O' b) {et:TypeId} {e:Ty} {xs:List e.den} (d:∀b,blk u=some b->¬O' b) (h:Rm V et e xs u):B1 V.w O' (.slice e) [u] xs:=by
 have h1:=h;obtain⟨_,_,a,_⟩:=h1;have:=bB (V:=V) c d (et:=et) (e:=e) (xs:=xs) (loc:=u) h (by rw[Hk a];exact Gl a)
 rwa [KT]at this
theorem Ki {et:TypeId} {sz n m c:Nat} {xs:List Value} (h:w.ownsRow b et sz (.slice a m c) n xs):m=n:=by
 rcases h.2 with ⟨base,hn⟩|⟨g,cap,d,base,_⟩
 .injection base;omega
 injection base
theorem bC {V:Vw} {d:TypeId} {e:Ty} {xs:List e.den} {len c:Nat} (hl:Lay u (.slice a len c)) (h:Rm V d e xs u):len=xs.length:=by
 obtain⟨_,i,b,_⟩:=h;rcases hl with rfl|⟨rfl,f,g⟩
 .exact Ki b
 grind [Ki]
theorem A0z {V:Vw} {i:TypeId} {e:Ty} {xs:List e.den} (hl:Lay u v) (h:Rm V i e xs u):∃(a:Option Addr) (c:Nat),v=.slice a xs.length c:=by
 rcases hl with rfl|⟨rfl,a,rfl⟩
 .obtain⟨_,j,f,_⟩:=h;obtain⟨_,_,_,_,_,_,b,d,g,_⟩:=Gl f;exact⟨b,d,g⟩
 have hn:=bC (.inr ⟨rfl,a,rfl⟩) h;exact⟨a,0,by rw[<-hn]⟩
theorem sP {V:Vw} {O':Nat->Prop} {e:Ty} {xs:List e.den} (hl:Lay u v) (h:Rm V c e xs u) (b:B1 V.w O' (.slice e) [u] xs):B1 V.w O' (.slice e) [v] xs:=by
 rcases hl with rfl|⟨rfl,a,rfl⟩
 .exact b
 have hn:=bC (.inr ⟨rfl,a,rfl⟩) h;have hx:xs=[]:=RW hn.symm;subst hx;exact⟨a,0,rfl,IN _,by simp,.inl rfl⟩
theorem Oo {V:Vw} {O':Nat->Prop} (f:∀b,¬V.O b->¬O' b) {et n:TypeId} {k e:Ty} {xs:List (k.den×List e.den)} {o:Value} {ins cells:List Value} (h:LR V et n k e xs none o ins cells)
  (m:∀(i b:Nat) (u:Value),ins[i]?=some u->blk u=some b->¬O' b):Dh V.w O' (.agg (.prod k (.slice e))) cells xs:=by
 intro i x hi;have g:i<ins.length:=by rw[h.len];exact(RL.1 hi).1
 obtain⟨c1,v,h1,c,a⟩:=h.row i x ins[i] hi (AT g);rcases a with ⟨a,_⟩|⟨_,j,d⟩
 .cases a
 have l:=sP j d (Ym f (λb hb=>m i b _ (AT g) hb) d);refine⟨c1++[v],by simp[Ty.size,c.length],h1,?_⟩;exact(⟨c1,[v],rfl,c.mono (λb _ hb=>f b hb) (λ_ _ _=>rfl),l⟩:B1 V.w O' (.prod k (.slice e)) _ x)
theorem fH {V:Vw} {O':Nat->Prop} (f:∀b,¬V.O b->¬O' b) {et:TypeId} {k e:Ty} {xs:List (k.den×List e.den)} {loc:Value} {lo:Nat} (a:∀b,bk loc b->¬O' b)
  (g:A6 V (.nest et j k e xs none) loc) (c:DM (plc loc) (k.size+1) lo n v):B1 V.w O' (.slice (.agg (.prod k (.slice e)))) [v] (sub (α:=k.den×List e.den) xs lo n):=by
 obtain⟨o,ins,cells,hs,h⟩:=g;rw[hs.plc]at c;exact sO (e:=.agg (.prod k (.slice e))) (xs:=xs) (λb hb=>a b (hs.bk.2 (A8.2 (.inl hb)))) h.max h.own (Oo f h λi b u h1 d=>a b (hs.bk.2 (A8.2 (.inr ⟨i,u,h1,d⟩)))) c
theorem Yn {V:Vw} {p:Obj} {loc:Value} {m c:Nat} (d:A6 V p loc) (h:plc loc=.slice a m c):∃et sz cells,V.w.ownsRow 0 et sz (.slice a m c) m cells/\m<=AQ:=by
 cases p with
 | arr et e xs =>
  have h1:=Uo d;obtain⟨hm,cells,i,_⟩:=d;rw[h1]at h;subst h;have j:m=xs.length:=by
   rcases i.2 with ⟨f,hn⟩|⟨g,cap,q,f,_⟩
   .injection f;omega
   injection f
  subst j;exact⟨et,_,cells,i,hm⟩
 | nest et s k e xs hl =>
  obtain⟨o,ins,cells,hs,n⟩:=d;rw[hs.plc]at h;subst h;have i:=n.own;have j:m=xs.length:=by
   rcases i.2 with ⟨f,hn⟩|⟨g,cap,q,f,_⟩
   .injection f;omega
   injection f
  subst j;exact⟨et,_,cells,i,n.max⟩
 | box et st fs=>obtain⟨_,b,cs,rfl,_⟩:=d;cases h
 | mapo k v l=>obtain⟨b,_,_,rfl,_⟩:=d;cases h
 | frame z fs=>obtain⟨rfl,_⟩:=d;cases h
 | loop L=>obtain⟨b,rfl,_⟩:=d;cases h
 | itr t y u x r=>obtain⟨b,rfl,_⟩:=d;cases h
 | dfr=>obtain⟨b,rfl,_⟩:=d;cases h
theorem NF {V V':Vw} (c:V'.w=V.w) (d:V'.O=V.O) {et f:TypeId} {k e:Ty} {xs:List (k.den×List e.den)} {loc:Value} (q:A6 V (.nest et f k e xs h) loc):A6 V' (.nest et f k e xs h) loc:=by
 obtain⟨o,ins,cells,hl,a⟩:=q;refine⟨o,ins,cells,hl,a.max,a.len,by rw[c];exact a.own,λi x u h1 g=>?_,a.dist,a.out⟩;obtain⟨c1,v,j,l,b⟩:=a.row i x u h1 g;refine⟨c1,v,j,by rw[c,d];exact l,?_⟩;rcases b with b|⟨b,m,hm,r,n,p⟩
 .exact .inl b
 exact .inr ⟨b,m,hm,r,by rw[c];exact n,by rw[c,d];exact p⟩
theorem w9 {V V':Vw} (d:V'.w=V.w) (f:∀b,¬V.O b->¬V'.O b) {et g:TypeId} {k e:Ty} {xs:List (k.den×List e.den)} {loc:Value} (z:A6 V (.nest et g k e xs h) loc):A6 V' (.nest et g k e xs h) loc:=by
 obtain⟨o,ins,cells,hl,a⟩:=z;refine⟨o,ins,cells,hl,a.max,a.len,by rw[d];exact a.own,λi x u h1 p=>?_,a.dist,a.out⟩;obtain⟨c1,v,q,r,c⟩:=a.row i x u h1 p;refine⟨c1,v,q,r.mono (λb _ hb=>f b hb) (λb _ _=>by rw[d]),?_⟩;rcases c with c|⟨c,s,hm,A,t,y⟩
 .exact .inl c
 refine .inr ⟨c,s,hm,A,by rw[d];exact t,λi x hi=>?_⟩;obtain⟨j,l,m,n⟩:=y i x hi;exact⟨j,l,m,n.mono (λb _ hb=>f b hb) (λb _ _=>by rw[d])⟩
theorem bD {V:Vw} {et g:TypeId} {k e:Ty} {xs:List (k.den×List e.den)} {loc:Value} {c:Array Value} {i:Nat} {z:k.den×List e.den}
  (d:A6 V (.nest et g k e xs h) loc) (f:loc=.tuple c) (a:c[i+1]?=some v):xs[i]?=some (xs.getD i z):=by
 obtain⟨o,ins,cells,hs,h⟩:=d;obtain rfl:=hs.tup f;have a:ins[i]?=some v:=by simpa using a
 have b:i<xs.length:=by rw[<-h.len];exact(RL.1 a).1
 rw[AT b,AS,AT b];rfl
theorem A4N {V:Vw} {t:Obj} {loc u v:Value} {w:Array Value} {i len c:Nat} (d:A6 V t loc) (z:loc=.tuple w) (f:w[i+1]?=some u) (j:Lay u v) (s:v=.slice a len c):len<=AQ:=by
 subst z;cases t with
 | arr et e xs =>
  obtain⟨hm,cells,y,_⟩:=d;rcases y.2 with ⟨r,_⟩|⟨g,cap,B,r,_⟩<;>cases r
 | nest et E k e xs hl =>
  obtain⟨o,ins,cells,hs,q⟩:=d;obtain rfl:=hs.tup rfl;have f:ins[i]?=some u:=by simpa using f
  have x:i<xs.length:=by rw[<-q.len];exact(RL.1 f).1
  obtain⟨c1,K,h1,C,m⟩:=q.row i xs[i] u (AT x) f;rcases m with ⟨_,m⟩|⟨_,_,n⟩
  .subst s;rcases j with p|⟨_,A,p⟩
   .grind
   injection p;omega
  rw[s]at j;rw[bC j n];exact n.1
 | box et st fs=>obtain⟨_,b,cs,h,_⟩:=d;cases h
 | mapo k v l=>obtain⟨b,_,_,h,_⟩:=d;cases h
 | frame J fs=>obtain⟨h,_⟩:=d;cases h
 | loop L=>obtain⟨b,h,_⟩:=d;cases h
 | itr F I G H D=>obtain⟨b,h,_⟩:=d;cases h
 | dfr=>obtain⟨b,h,_⟩:=d;cases h
theorem A4O {V:Vw} {O':Nat->Prop} (n:∀b,¬V.O b->¬O' b) {et:TypeId} {k e:Ty} {xs:List (k.den×List e.den)} {loc:Value} {i:Nat} {x:k.den×List e.den} (r:∀b,bk loc b->¬O' b) {u:Value}
  (f:A6 V (.nest et j k e xs none) loc) (g:loc=.tuple d) (c:d[i+1]?=some u) (q:Lay u v) (hx:xs[i]?=some x):B1 V.w O' (.slice e) [v] x.2:=by
 obtain⟨o,ins,cells,hs,h⟩:=f;obtain rfl:=hs.tup g;have c:ins[i]?=some u:=by simpa using c
 obtain⟨c1,s,h1,l,a⟩:=h.row i x u hx c;rcases a with ⟨a,_⟩|⟨_,p,m⟩
 .cases a
 grind [sP,Ym,A8]
section
variable {V:Vw} {O':Nat->Prop} {l:Bool} {σ:St}
theorem sQ (j:∀b,¬V.O b->¬O' b) (r:l=true->∀b,¬O' b) (q:∀n o,lk n σ.objs=some o->A6 V o (V.ρ n))
  {t:Ty} {x:AV} {d:t.den} {cs:List Value} (h:FD l σ t x=some d) (hx:N3 V x cs):B1 V.w O' t cs d:=by
 unfold FD at h;split at h
 .rename_i u s;have:=BA h;injection this with h1 g
  subst h1;cases g;have hx:B1 V.w V.O u cs s:=hx;exact hx.mono (λb _ hb=>j b hb) (λ_ _ _=>rfl)
 .rename_i e n y lo hi;split at h
  .rename_i m;obtain⟨p,rfl⟩:=m;have hl:=p;obtain⟨v,rfl,_,A,f⟩:=hx;cases hn:lk n σ.objs with
   | none=>rw[hn]at h;simp[Ri]at h
   | some o =>
    rw[hn]at h;cases o with
    | box et st fs=>simp[Ri]at h
    | mapo k v l=>simp[Ri]at h
    | frame K fs=>simp[Ri]at h
    | loop L=>simp[Ri]at h
    | itr G J H I E=>simp[Ri]at h
    | dfr=>simp[Ri]at h
    | nest et F k z xs hl =>
     cases hl with
     | some i=>simp[Ri]at h
     | none =>
      simp only[Ri]at h;obtain⟨h1,g⟩:=Bk h;subst h1;cases g;exact fH j (λb _=>r p b) (q n _ hn) f
    | arr et z xs =>
     simp only[Ri]at h;obtain⟨h1,g⟩:=Bk h;subst h1;cases g;exact bB j (λb _=>r hl b) (q n _ hn) f
  cases h
 .rename_i e n y i len;split at h
  .rename_i m;obtain⟨hl,rfl⟩:=m;obtain⟨v,rfl,_,A,N,a,c,M,D,C,B,_⟩:=hx;cases hn:lk n σ.objs with
   | none=>rw[hn]at h;simp[UV]at h
   | some o =>
    rw[hn]at h;unfold UV at h;split at h
    .grind [Bk,A4O,bD]
    cases h
  cases h
 .obtain⟨v,rfl,_,f⟩:=hx;have f:v=_:=f;subst f;cases h;exact⟨none,0,rfl,by simp,by simp[AQ],.inl rfl⟩
 cases h
theorem A0A (g:∀b,¬V.O b->¬O' b) (j:l=true->∀b,¬O' b) (i:∀n o,lk n σ.objs=some o->A6 V o (V.ρ n)) :
  ∀ {fs:List AV} {t:Ty} {d:t.den} {cs:List Value},Lk l σ fs t=some d->Da V fs cs->B1 V.w O' t cs d
 | [],t,d,cs,h,hx=>by simp[Lk]at h
 | [x],t,d,cs,h,hx=>by
  obtain⟨c1,c2,rfl,h1,e⟩:=hx;have e:c2=[]:=e;grind [Lk,sQ]
 | x :: y :: r,t,d,cs,h,hx=>by
  obtain⟨c1,c2,rfl,h1,e⟩:=hx;cases t;case prod a b =>
   simp only[Lk]at h;cases c:FD l σ a x with
   | none=>rw[c]at h;simp[OA]at h
   | some k =>
    cases f:Lk l σ (y :: r) b with
    | none=>rw[c,f]at h;simp[OA]at h
    | some m =>
     rw[c,f]at h;simp only[OA]at h;cases h;exact⟨c1,c2,rfl,sQ g j i c h1,A0A g j i f e⟩
  all_goals simp[Lk]at h
theorem A4P {t:Ty} {x:AV} {d:t.den} {v:Value} (h:FD l σ t x=some d) (k:∀u g,x≠.p u g) (hx:B7 V x v):N3 V x [v]/\t.wrap [v]=v:=by
 unfold FD at h;split at h
 .exact absurd rfl (k _ _)
 .obtain⟨b,a,m,c,_,_,_,e,f,rfl,_⟩:=hx;refine⟨⟨_,rfl,rfl,?_⟩,rfl⟩;exact⟨b,a,m,c,by assumption,by assumption,by assumption,e,f,rfl,by assumption⟩
 .obtain⟨b,o,a,c,u,h1,i,j,rfl⟩:=hx;exact⟨⟨_,rfl,rfl,b,o,a,c,u,h1,i,j,rfl⟩,rfl⟩
 .have n:v=_:=hx;subst n;exact⟨⟨_,rfl,rfl,rfl⟩,rfl⟩
 cases h
theorem LS (f:∀b,¬V.O b->¬O' b) (j:l=true->∀b,¬O' b) (g:∀n o,lk n σ.objs=some o->A6 V o (V.ρ n))
  {t:Ty} {x:AV} {d:t.den} {v:Value} (h:N2 l σ t x=some d) (hx:B7 V x v):BU V.w O' t v d:=by
 unfold N2 at h;split at h
 .rename_i t fs;obtain⟨cs,rfl,k⟩:=hx;exact⟨cs,(A0A f j g h k:B1 V.w O' t cs d),rfl⟩
 by_cases i:∃u a,x=.p u a
 .obtain⟨u,a,rfl⟩:=i;have h:BR t ⟨u,a⟩=some d:=by simpa only[FD] using h
  have:=BA h;injection this with h1 c
  subst h1;cases c;exact BU.mono (λb _ hb=>f b hb) (λ_ _ _=>rfl) hx
 obtain⟨h1,c⟩:=A4P h (λu a e=>i ⟨u,a,e⟩) hx;exact⟨[v],sQ f j g h h1,c.symm⟩
end
end
section
open Go Go.RowKit
def bE:Ty->Value->Bool
 | .agg _,.agg _=>true
 | .agg _,_=>false
 | .prod _ _,_=>false
 | _,.agg _=>false
 | _,_=>true
def Pq (P : Program) (id : TypeId) (a b : IntKind) : Prop := ∃ c d : Field, P.underlying id = some (.struct #[c, d]) /\ ((c.name != "_") = true /\ (d.name != "_") = true) /\ (c.offset = 0 /\ d.offset = 1) /\ (P.underlying c.type = some (.int a) /\ P.underlying d.type = some (.int b)) /\ P.stoodInHeld id = false
def Vg (P:Program) (id:TypeId):Ty->Nat->Prop
 | .agg (.prod (.int a) (.int b)),0=>Pq P id a b
 | _,_=>True
def isI (k:IntKind):Option TypeDesc->Bool
 | some (.int a)=>k==a
 | _=>false
theorem Vh {k:IntKind} {d:Option TypeDesc} (h:isI k d=true):d=some (.int k):=by
 unfold isI at h;grind
def A74 (P:Program) (id:TypeId) (a b:IntKind):Option TypeDesc->Bool
 | some (.struct ⟨[c, d]⟩) => (c.name != "_") && (d.name != "_") && c.offset == 0 && d.offset == 1 && isI a (P.underlying c.type) && isI b (P.underlying d.type) && P.stoodInHeld id == false
 | _=>false
def A0B (P:Program) (id:TypeId):Ty->Nat->Bool
 | .agg (.prod (.int a) (.int b)),0=>A74 P id a b (P.underlying id)
 | _,_=>true
theorem A0C {t:Ty} (h:A0B P c t b=true):Vg P c t b:=by
 unfold A0B at h;unfold Vg;split at h
 .unfold A74 at h;split at h
  .rename_i a el hu;simp only[An,TE]at h;obtain⟨⟨⟨⟨⟨⟨h1,id⟩,d⟩,e⟩,f⟩,g⟩,i⟩:=h;exact⟨a,el,hu,⟨h1,id⟩,⟨d,e⟩,⟨Vh f,Vh g⟩,i⟩
  cases h
 trivial
def EO (P:Program) (tb:Tb) (id:TypeId) (ti:TI):Prop :=
 (((∀p∈ti.offs,p.2≠0)/\0<ti.bytes/\Vg P id ti.ty ti.el)/\∃(i:TypeInfo) (z:Value),P.info? id=some i/\i.size=ti.ty.size/\i.bytes=ti.bytes/\i.zero=some z/\z.cells=ti.ty.zero.toArray) /\
 match ti.ty with
 | .int k=>P.underlying id=some (.int k)
 | .bool=>P.underlying id=some .bool
 | .str=>P.underlying id=some .string
 | .slice e=>P.underlying id=some (.slice ti.el)/\∃te,lk ti.el tb.ty=some te/\te.ty=e
 | .agg _=>(∃fs:Array Field,ti.el=0/\P.underlying id=some (.struct fs)/\ti.offs.map some=fs.toList.map λf=>(P.info? f.type).map λi=>(f.offset,i.size)) \/
   ∃n e i,ti.el≠0/\P.underlying id=some (.array n e)/\P.info? e=some i/\ti.offs=(List.range n).map λk=>(k*i.size,i.size)
 | .prod _ _=>False
 | .ref j=>∃d,P.underlying id=some d/\(match d with|.struct _=>False|.array _ _=>False|_=>True) /\
   ∀k e,j=2->ti.offs=[(k,e)]->d=.map k e/\∃(a te:TI) (z:Value),lk k tb.ty=some a/\lk e tb.ty=some te/\(∃i,P.info? e=some i/\i.zero=some z)/\z.cells=te.ty.zero.toArray/\bE te.ty z=true
def DC (P:Program) (tb:Tb):Prop:=∀id ti,lk id tb.ty=some ti->EO P tb id ti
def A0D:Value->Value->Bool
 | .int k n,.int c d=>k==c&&n==d
 | .bool a,.bool b=>a==b
 | .string s,.string e=>s.size==0&&e.size==0
 | .slice none 0 0,.slice none 0 0=>true
 | .pointer none,.pointer none=>true
 | .nilFunc,.nilFunc=>true
 | .map none,.map none=>true
 | _,_=>false
theorem A0E {a b:Value} (h:A0D a b=true):a=b:=by
 unfold A0D at h;split at h
 .grind
 .grind
 .simp_all
 .rfl
 .rfl
 .rfl
 .rfl
 cases h
def Oq:List Value->List Value->Bool
 | [],[]=>true
 | a :: l,b :: r=>A0D a b&&Oq l r
 | _,_=>false
theorem Ro:∀ {l r:List Value},Oq l r=true->l=r
 | [],[],_=>rfl
 | a :: l,b :: r,h=>by
  simp only[Oq,An]at h;rw[A0E h.1,Ro h.2]
 | [],_ :: _,h=>by simp[Oq]at h
 | _ :: _,[],h=>by simp[Oq]at h
def A75 (ty:Ty) (bytes:Nat):Option TypeInfo->Bool
 | some i=>i.size==ty.size&&i.bytes==bytes&&(match i.zero with|some z=>Oq z.cells.toList ty.zero|none=>false)
 | none=>false
def A9h (offs:List (Nat×Nat)) (n:Nat):Option TypeInfo->Bool
 | some i=>offs==(List.range n).map λk=>(k*i.size,i.size)
 | none=>false
def A76 (e:Nat) (te:Option TI):Option TypeInfo->Bool
 | some i=>match i.zero,te with|some z,some te=>Oq z.cells.toList te.ty.zero&&bE te.ty z|_,_=>false
 | none=>false
def A7y (P:Program) (tb:Tb) (j:Nat) (d:TypeDesc):List (Nat×Nat)->Bool
 | [(k,e)]=>j != 2||(match d with|.map b a=>b==k&&a==e&&(lk k tb.ty).isSome&&A76 e (lk e tb.ty) (P.info? e)|_=>false)
 | _=>true
theorem A4Q {tb:Tb} {j:Nat} {d:TypeDesc} {offs:List (Nat×Nat)} (h:A7y P tb j d offs=true):∀k e,j=2->offs=[(k,e)]->d=.map k e/\∃(a te:TI) (z:Value),lk k tb.ty=some a/\lk e tb.ty=some te/\(∃i,P.info? e=some i/\i.zero=some z)/\z.cells=te.ty.zero.toArray/\bE te.ty z=true:=by
 rintro k e rfl rfl;simp only[A7y,bne_self_eq_false,ACO]at h;split at h
 .simp only[An,TE]at h;obtain⟨⟨⟨rfl,rfl⟩,b⟩,c⟩:=h;refine⟨rfl,?_⟩;obtain⟨a,f⟩:=ABp.1 b;unfold A76 at c;grind [Ro]
 cases h
def A9i (P:Program) (tb:Tb) (ti:TI):Ty->Option TypeDesc->Bool
 | .int k,some (.int a)=>k==a
 | .bool,some .bool=>true
 | .str,some .string=>true
 | .slice e,some (.slice el)=>el==ti.el&&(match lk ti.el tb.ty with|some te=>decide (te.ty=e)|none=>false)
 | .agg _,some (.struct fs)=>ti.el==0&&ti.offs.map some==fs.toList.map λf=>(P.info? f.type).map λi=>(f.offset,i.size)
 | .agg _,some (.array n e)=>ti.el != 0&&A9h ti.offs n (P.info? e)
 | .ref _,some (.struct _)=>false
 | .ref _,some (.array _ _)=>false
 | .ref j,some d=>A7y P tb j d ti.offs
 | _,_=>false
def tiB (P:Program) (tb:Tb) (id:TypeId) (ti:TI):Bool:=((ti.offs.all λp=>p.2 != 0)&&(decide (0<ti.bytes)&&A0B P id ti.ty ti.el))&&A75 ti.ty ti.bytes (P.info? id)&&A9i P tb ti ti.ty (P.underlying id)
theorem A7z {tb:Tb} {ti:TI} (h:tiB P tb c ti=true):EO P tb c ti:=by
 simp only[tiB,An]at h;obtain⟨⟨⟨h0,hb,id⟩,h1⟩,a⟩:=h;refine⟨⟨⟨λp d=>by simpa using (Of.1 h0) p d,by simpa using hb,A0C id⟩,?_⟩,?_⟩
 .unfold A75 at h1;grind [Ro]
 generalize hu:P.underlying c=u at a;generalize ti.ty=t at a;cases t<;>cases u<;>simp only[A9i]at a<;>try(cases a;done)
 all_goals
  rename_i u;cases u<;>simp only at a<;>try(cases a;done)
 .grind
 .rfl
 .rfl
 .grind
 .rename_i n e;simp only[An,ACb]at a;obtain⟨b,a⟩:=a;unfold A9h at a;split at a
  .rename_i i hi;exact .inr ⟨_,_,i,b,rfl,hi,by simpa using a⟩
  cases a
 .grind
 all_goals exact⟨_,rfl,trivial,A4Q a⟩
theorem A4R {tb:Tb} (h:(tb.ty.all λp=>tiB P tb p.1 p.2)=true):DC P tb:=λid ti hi=>by
 rw[Of]at h;exact A7z (h _ (F9 hi))
def Ty.isAgg:Ty->Bool
 | .agg _=>true
 | .int _=>false
 | .bool=>false
 | .str=>false
 | .slice _=>false
 | .prod _ _=>false
 | .ref _=>false
section
variable {P:Program} {tb:Tb} {id:TypeId} {ti:TI} (w:World)
theorem L4 {i:TypeInfo} (h:P.info? id=some i):(typeInfo id).run P w=.ok i w:=by simp[typeInfo,h]
theorem A4S (h:EO P tb id ti):(isAgg id).run P w=.ok ti.ty.isAgg w:=by
 obtain⟨_,a⟩:=h;cases ht:ti.ty<;>rw[ht]at a<;>simp only at a;case agg =>
  rcases a with ⟨fs,_,hu,_⟩|⟨n,e,_,_,hu,_⟩<;>simp[isAgg,RR hu,Ty.isAgg]
 case slice=>simp[isAgg,RR a.1,Ty.isAgg]
 case ref k =>
  obtain⟨d,hu,hd,_⟩:=a;cases d<;>first|exact hd.elim|simp[isAgg,RR hu,Ty.isAgg]
 all_goals simp[isAgg,RR a,Ty.isAgg]
theorem IB (h:EO P tb id ti):(sizeOf id).run P w=.ok ti.ty.size w:=by
 obtain⟨⟨_,i,z,h1,a,_⟩,_⟩:=h;simp[sizeOf,L4 w h1,a]
theorem EO.noprod (h:EO P tb id ti) {a b:Ty}:ti.ty≠.prod a b:=by
 intro e;have:=h.2;rw[e]at this;exact this
theorem fJ (h:EO P tb id ti) {ad:Addr} {cs:List Value} (hl:cs.length=ti.ty.size) (d:∀(j:Nat) (u:Value),cs[j]?=some u->w.cell? (ad.add j)=some u) :
  (loadVar id ad).run P w=.ok (ti.ty.wrap cs) w:=by
 have f:=λa b=>h.noprod (a:=a) (b:=b);simp only[loadVar,AAZ,A4S w h,AAl];cases ht:ti.ty;case prod a b=>exact absurd ht (f a b)
 case agg u =>
  have e:ti.ty.size=cs.length:=hl.symm;simp only[Ty.isAgg,AAF,AAZ,IB w h,AAl,e,run_loadCells_list w ad cs d,Ty.wrap];rfl
 all_goals
  rw[ht]at hl;obtain⟨c,rfl⟩:=ABy.1 hl;have h0:=d 0 c rfl;rw[NC]at h0;simp[Ty.isAgg,Ty.wrap,h0]
theorem Ei (h:EO P tb id ti) {ad:Addr} {cs:List Value} (hl:cs.length=ti.ty.size) (a:∀(j:Nat) (u:Value),cs[j]?=some u->w.cell? (ad.add j)=some u) :
  (Instr.loadAt id (.pointer (some ad))).run P w=.ok (ti.ty.wrap cs) w:=by
 simp[Instr.loadAt,Instr.sureAddr,fJ w h hl a]
end
end
end Go.Proofs.YtcmadlghkcjcbaaGreat.Fw
