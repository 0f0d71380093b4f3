/- Typed values, how they lie in memory, the executor's words and the table of types: what they mean. -/
import Derived.ProofKit
import Derived.Orders
import Derived.Laws.AppendOwn
import Derived.Laws.MakeOwn
import Derived.Laws.OwnMore
set_option linter.unusedVariables false
set_option linter.unusedSimpArgs false
namespace Go.Proofs.YtapkhdkbkodbjaaGreat.Fw
section
open Go
abbrev AS:=@List.getD_eq_getElem?_getD
abbrev AT:=@List.getElem?_eq_getElem
abbrev An:=@Bool.and_eq_true
abbrev As:=@if_neg
abbrev At:=@List.take_of_length_le
abbrev BY:=@if_pos
abbrev By:=@List.length_append
abbrev DO:=@List.mem_cons
abbrev Do:=@decide_eq_true_eq
abbrev FT:=@Classical.byContradiction
abbrev GO:=@List.mem_map
abbrev IF:=@List.mem_cons_of_mem
abbrev IN:=@Int.ofNat_lt
abbrev IS:=@List.length_singleton
abbrev If:=@Nat.le_refl
abbrev Is:=@List.mem_append
abbrev NO:=@Nat.zero_le
abbrev No:=@List.length_cons
abbrev OF:=@Option.map_eq_some_iff
abbrev ON:=@List.all_eq_true
abbrev OR:=@List.length_map
abbrev OS:=@List.length_take
abbrev Of:=@List.drop_eq_getElem_cons
abbrev On:=@decide_eq_false_iff_not
abbrev RC:=@List.drop_eq_nil_of_le
abbrev RD:=@List.take_length
abbrev RE:=@List.foldl_cons
abbrev RF:=@List.getElem?_eq_some_iff
abbrev RG:=@Nat.le_trans
abbrev RH:=@Bool.not_eq_true'
abbrev RI:=@List.map_congr_left
abbrev RJ:=@Int.ofNat_le
abbrev RK:=@Int.toNat_natCast
abbrev RL:=@Go.run_underlying
abbrev RM:=@List.mem_singleton
abbrev RN:=@List.append_assoc
abbrev RP:=@List.getElem?_eq_none
abbrev RQ:=@List.eq_nil_of_length_eq_zero
abbrev RR:=@List.pairwise_iff_getElem
abbrev RS:=@List.map_cons
abbrev RT:=@List.any_eq_true
abbrev RU:=@Nat.mul_le_mul_right
abbrev RW:=@List.getElem?_append_right
abbrev RY:=@List.mem_range
abbrev RZ:=@List.getElem?_append_left
abbrev Ra:=@List.append_nil
abbrev Rb:=@List.pairwise_cons
abbrev Sw:=@List.map_append
abbrev Sx:=@Bool.or_eq_true
abbrev Sy:=@Array.getElem?_eq_some_iff
abbrev Sz:=@List.getElem?_take
abbrev S0:=@List.length_drop
abbrev S1:=@beq_iff_eq
abbrev S2:=@List.mem_append_left
abbrev S3:=@List.getElem_mem
abbrev S4:=@List.mem_of_mem_take
abbrev S5:=@List.range_succ
abbrev TO:=@List.nodup_cons
abbrev To:=@List.drop_zero
abbrev aS:=@List.mem_iff_getElem?
abbrev aT:=@List.length_set
abbrev bY:=@Nat.lt_of_lt_of_le
abbrev gO:=@List.getElem?_map
abbrev iF:=@Go.Result.andThen_ok
abbrev iN:=@Bool.false_eq_true
abbrev iS:=@List.ext_getElem
abbrev nO:=@List.map_map
abbrev oF:=@List.mem_of_getElem?
abbrev oN:=@Bool.or_eq_false_iff
abbrev oR:=@Array.getElem?_eq_getElem
abbrev oS:=@List.not_mem_nil
abbrev tO:=@List.length_take_le
abbrev AAc:=@congrArg
abbrev AAd:=@Int.tdiv_eq_ediv_of_nonneg
abbrev AAe:=@List.pairwise_map
abbrev AAf:=@List.filter_cons
abbrev AAg:=@List.length_nil
abbrev AAh:=@Option.isNone_iff_eq_none
abbrev AAi:=@List.getElem?_append
abbrev AAj:=@List.mem_cons_self
abbrev AAk:=@List.getElem?_drop
abbrev AAw:=@List.length_filter_le
abbrev AAH:=@Bool.and_eq_false_iff
abbrev ADj:=@Option.some.injEq
abbrev ADl:=@List.take_zero
abbrev ADt:=@List.getElem?_set
abbrev ADu:=@List.mem_iff_getElem
abbrev ADv:=@if_true
abbrev ADw:=@List.take_succ_cons
abbrev ADx:=@Go.Sem.run_bind
abbrev ADy:=@List.prefix_refl
abbrev ADz:=@if_false
abbrev ADA:=@List.nodup_append
abbrev ADB:=@List.pairwise_append
abbrev ADC:=@Int.le_refl
abbrev ADD:=@Int.natCast_nonneg
abbrev ADE:=@Bool.not_eq_false'
abbrev ADF:=@beq_eq_false_iff_ne
abbrev ADH:=@Nat.succ_mul
abbrev ADL:=@Int.le_trans
abbrev ADM:=@Nat.pos_of_ne_zero
abbrev ADO:=@Nat.le_antisymm
abbrev ADP:=@List.nil_append
abbrev ADR:=@List.mem_filter
abbrev ADS:=@List.all_cons
abbrev AE3:=@Int.not_lt
abbrev AE4:=@Nat.zero_add
abbrev AE5:=@Nat.sub_self
abbrev AE6:=@List.cons_append
abbrev AE7:=@Int.add_zero
abbrev AE8:=@List.getElem?_range
abbrev AE9:=@List.drop_succ_cons
abbrev AEa:=@Int.toNat_of_nonneg
abbrev AEb:=@Bool.eq_false_iff
abbrev AEc:=@List.mem_or_eq_of_mem_set
abbrev AEd:=@Nat.min_eq_left
abbrev AEe:=@List.take_append_drop
abbrev AEf:=@List.mem_append_right
abbrev AEg:=@Option.isSome_iff_exists
abbrev AEh:=@List.drop_length
abbrev AEi:=@List.mem_of_mem_drop
abbrev AEj:=@List.pairwise_singleton
abbrev AEk:=@List.getElem?_replicate
abbrev AEl:=@List.foldl_append
abbrev AEm:=@Option.map_some
abbrev AEn:=@Nat.mul_le_mul_left
abbrev AEo:=@List.length_eq_one_iff
abbrev AEp:=@Int.tmod_eq_emod_of_nonneg
abbrev AEq:=@List.getElem_map
abbrev AEr:=@List.countP_cons
abbrev AEs:=@List.set_append_right
abbrev AEt:=@List.getElem_range
abbrev AEu:=@ByteArray.size_append
abbrev AEv:=@List.mem_take_iff_getElem
abbrev AEw:=@Array.mapM_eq_mapM_toList
abbrev AEx:=@BitVec.testBit_toNat
abbrev AEy:=@List.cons.injEq
abbrev AEz:=@List.any_eq_false
abbrev AEA:=@List.all_eq_false
abbrev AEB:=@List.all_append
abbrev AEE:=@List.getElem?_cons_zero
abbrev AEF:=@decide_eq_true
abbrev AEG:=@List.drop_left
abbrev AEI:=@or_false
abbrev AEJ:=@List.filter_append
abbrev AEK:=@decide_eq_false
abbrev AEL:=@List.map_nil
abbrev AEM:=@List.any_append
abbrev AEN:=@Bool.eq_iff_iff
abbrev AEO:=@List.length_range
abbrev AEP:=@List.flatMap_cons
abbrev AEQ:=@List.mem_of_find?_eq_some
abbrev AER:=@List.drop_drop
abbrev AEU:=@Nat.add_sub_cancel_left
abbrev AEV:=@List.set_cons_zero
abbrev AEW:=@List.filter_nil
abbrev AEX:=@not_true_eq_false
abbrev AEY:=@bne_iff_ne
abbrev AEZ:=@Nat.lt_trichotomy
abbrev AF0:=@Nat.add_mul
abbrev AF1:=@List.ext_getElem?
abbrev AF2:=@List.length_replicate
abbrev AF3:=@List.eq_nil_iff_forall_not_mem
abbrev AF4:=@Option.getD_some
abbrev AF5:=@List.exists_mem_of_length_pos
abbrev AF6:=@List.mem_erase_of_ne
abbrev AF7:=@Go.World.cell?_of_block
abbrev AF8:=@Bool.true_and
abbrev AF9:=@Nat.and_le_left
abbrev AFa:=@List.replicate_succ
abbrev AFb:=@Array.length_toList
abbrev AFc:=@Option.isSome_some
abbrev AFd:=@Nat.lt_of_le_of_lt
abbrev AFe:=@Nat.le_of_lt
abbrev AFf:=@List.zip_cons_cons
abbrev AFg:=@List.set_cons_succ
abbrev AFh:=@List.prefix_append
abbrev AFi:=@List.mem_filterMap
abbrev AFj:=@List.find?_eq_none
abbrev AFk:=@List.countP_append
abbrev AFl:=@Int.sub_self
abbrev AFm:=@Int.lt_of_le_of_lt
abbrev AFn:=@Int.add_comm
abbrev AFo:=@Option.some_or
abbrev AFp:=@List.range_add
abbrev AFq:=@List.foldl_nil
abbrev AFr:=@Option.ext
abbrev AFs:=@List.take_add_one
abbrev AFt:=@List.idxOf_append
abbrev AFu:=@Prod.mk.injEq
abbrev AFv:=@Nat.add_assoc
abbrev AFw:=@Int.ofNat.inj
abbrev AFy:=@List.perm_middle
abbrev AFz:=@List.drop_append
abbrev AFA:=@Nat.zero_mul
abbrev AFB:=@List.find?_some
abbrev AFC:=@Int.zero_add
abbrev AFD:=@Int.toNat_lt
abbrev AFF:=@Nat.mod_lt
abbrev AFG:=@Int.not_le
inductive Ty where
 | int (k:IntKind)
 | bool
 | str
 | slice (e:Ty)
 | prod (a b:Ty)
 | agg (t:Ty)
 
 | ref (k:Nat)
 deriving DecidableEq
def Lg:Nat->Value
 | 0=>.pointer none
 | 1=>.nilFunc
 | _=>.map none
@[reducible] def Ty.den:Ty->Type
 | .int _=>Int
 | .bool=>Bool
 | .str=>ByteArray
 | .slice e=>List e.den
 | .prod a b=>a.den×b.den
 | .agg t=>t.den
 | .ref _=>Unit
def Ty.size:Ty->Nat
 | .prod a b=>a.size+b.size
 | .agg t=>t.size
 | .int _=>1
 | .bool=>1
 | .str=>1
 | .slice _=>1
 | .ref _=>1
def Ty.dflt:(t:Ty)->t.den
 | .int _=>(0:Int)
 | .bool=>false
 | .str=>ByteArray.empty
 | .slice _=>[]
 | .prod a b=>(a.dflt,b.dflt)
 | .agg t=>t.dflt
 | .ref _=>()
def Ty.zero:Ty->List Value
 | .int k=>[.int k 0]
 | .bool=>[.bool false]
 | .str=>[.string ByteArray.empty]
 | .slice _=>[.slice none 0 0]
 | .prod a b=>a.zero++b.zero
 | .agg t=>t.zero
 | .ref k=>[Lg k]
def Ty.wrap:Ty->List Value->Value
 | .agg _,cs=>.agg cs.toArray
 | .prod _ _,cs=>.agg cs.toArray
 | .int _,cs=>cs.headD undef
 | .bool,cs=>cs.headD undef
 | .str,cs=>cs.headD undef
 | .slice _,cs=>cs.headD undef
 | .ref _,cs=>cs.headD undef
def KW (k:IntKind) (n:Int):Prop:=k.min<=n/\n<=k.max
def AO:Nat:=140737488355328
def B0 (w:World) (O:Nat->Prop):(t:Ty)->List Value->t.den->Prop
 | .int k,cs,d=>cs=[.int k d]/\KW k d
 | .bool,cs,d=>cs=[.bool d]
 | .str,cs,d=>cs=[.string d]/\ByteArray.size d<=AO
 | .slice e,cs,d=>∃(a:Option Addr) (c:Nat),cs=[.slice a (List.length d) c]/\List.length d<=c/\List.length d<=AO /\
   (d=[]\/∃ad:Addr,a=some ad/\¬O ad.block /\
    ∀(i:Nat) (x:e.den),d[i]?=some x->∃f:List Value,f.length=e.size/\(∀(j:Nat) (v:Value),f[j]?=some v->w.cell? (ad.add (i*e.size+j))=some v)/\B0 w O e f x)
 | .prod a b,cs,d=>∃c1 c2:List Value,cs=c1++c2/\B0 w O a c1 d.1/\B0 w O b c2 d.2
 | .agg t,cs,d=>B0 w O t cs d
 | .ref k,cs,_=>cs=[Lg k]
def BR (w:World) (O:Nat->Prop) (t:Ty) (v:Value) (d:t.den):Prop:=∃cs,B0 w O t cs d/\v=t.wrap cs
theorem CJ (a:Addr) (n:Nat):(a.add n).block=a.block:=by unfold Addr.add;split<;>rfl
theorem DQ (a:Addr) (i j:Nat):(a.add i).add j=a.add (i+j):=by
 unfold Addr.add;grind
theorem Mw (a:Addr):a.add 0=a:=rfl
theorem dX (g j:Nat):(⟨g,0,none⟩:Addr).add j=⟨g,j,none⟩:=by
 unfold Addr.add;split<;>simp_all
theorem Jp (g i j:Nat):(⟨g,i,none⟩:Addr).add j=⟨g,i+j,none⟩:=by
 unfold Addr.add;split<;>simp_all
theorem Ty.size_pos:∀t:Ty,0<t.size
 | .int _=>by simp[Ty.size]
 | .bool=>by simp[Ty.size]
 | .str=>by simp[Ty.size]
 | .slice _=>by simp[Ty.size]
 | .ref _=>by simp[Ty.size]
 | .prod a b=>by have:=a.size_pos;simp[Ty.size];omega
 | .agg t=>by simpa[Ty.size] using t.size_pos
theorem B0.length {w:World} {O:Nat->Prop}:∀ {t:Ty} {cs:List Value} {d:t.den},B0 w O t cs d->cs.length=t.size
 | .int _,_,_,h=>by obtain⟨rfl,_⟩:=h;rfl
 | .bool,_,_,h=>by have h:_=_:=h;subst h;rfl
 | .str,_,_,h=>by obtain⟨rfl,_⟩:=h;rfl
 | .slice _,_,_,h=>by obtain⟨_,_,rfl,_⟩:=h;rfl
 | .ref _,_,_,h=>by have h:_=_:=h;subst h;rfl
 | .prod a b,_,_,h=>by
  obtain⟨c1,c2,rfl,h1,c⟩:=h;simp[Ty.size,B0.length h1,B0.length c]
 | .agg t,_,_,h=>by
  have h:B0 w O t _ _:=h;simpa[Ty.size] using B0.length h
theorem B0.one {w:World} {O:Nat->Prop}:∀ {t:Ty} {cs:List Value} {d:t.den},B0 w O t cs d->∀v∈cs,v.oneCell'=true
 | .int _,_,_,h=>by obtain⟨rfl,_⟩:=h;simp[Value.oneCell']
 | .bool,_,_,h=>by have h:_=_:=h;subst h;simp[Value.oneCell']
 | .str,_,_,h=>by obtain⟨rfl,_⟩:=h;simp[Value.oneCell']
 | .slice _,_,_,h=>by obtain⟨_,_,rfl,_⟩:=h;simp[Value.oneCell']
 | .ref k,_,_,h=>by
  have h:_=[Lg k]:=h;subst h;match k with
  | 0=>simp[Value.oneCell',Lg]
  | 1=>simp[Value.oneCell',Lg]
  | _+2=>simp[Value.oneCell',Lg]
 | .prod a b,_,_,h=>by
  obtain⟨c1,c2,rfl,h1,e⟩:=h;intro v c;rcases Is.1 c with c|c
  .exact B0.one h1 v c
  exact B0.one e v c
 | .agg t,_,_,h=>by
  have h:B0 w O t _ _:=h;exact B0.one h
theorem B0.mono {w w':World} {O O':Nat->Prop} (f:∀b,b<w.heap.size->¬O b->¬O' b) (k:∀b,b<w.heap.size->¬O b->w'.heap[b]?=w.heap[b]?) :
  ∀ {t:Ty} {cs:List Value} {d:t.den},B0 w O t cs d->B0 w' O' t cs d
 | .int _,_,_,h=>h
 | .bool,_,_,h=>h
 | .str,_,_,h=>h
 | .ref _,_,_,h=>h
 | .slice e,_,d,h=>by
  obtain⟨a,c,rfl,h1,l,m⟩:=h;refine⟨a,c,rfl,h1,l,?_⟩;rcases m with m|⟨ad,rfl,p,hx⟩
  .exact .inl m
  by_cases o:d=[]
  .exact .inl o
  have s:ad.block<w.heap.size:=by
   obtain⟨x,r,rfl⟩:∃x r,d=x :: r:=List.exists_cons_of_ne_nil o;obtain⟨g,hl,n,_⟩:=hx 0 x rfl;have hp:=e.size_pos;have:g[0]?=some (g[0]'(by omega)):=AT (by omega);have:=block_lt_of_cell (n 0 _ this)
   rwa [CJ]at this
  refine .inr ⟨ad,rfl,f _ s p,λi x hi=>?_⟩;obtain⟨g,hl,n,u⟩:=hx i x hi;refine⟨g,hl,λj v q=>?_,B0.mono f k u⟩;rw[AF7 (w:=w) (w':=w')]
  .exact n j v q
  grind [CJ]
 | .prod a b,_,_,h=>by
  obtain⟨c1,c2,rfl,h1,l⟩:=h;exact⟨c1,c2,rfl,B0.mono f k h1,B0.mono f k l⟩
 | .agg t,_,_,h=>by
  have h:B0 w O t _ _:=h;exact(B0.mono f k h:B0 w' O' t _ _)
theorem BR.mono {w w':World} {O O':Nat->Prop} (c:∀b,b<w.heap.size->¬O b->¬O' b) (e:∀b,b<w.heap.size->¬O b->w'.heap[b]?=w.heap[b]?)
  {t:Ty} {v:Value} {d:t.den} (h:BR w O t v d):BR w' O' t v d :=
 let ⟨cs,h1,a⟩:=h
 ⟨cs,h1.mono c e,a⟩
theorem B0.zero (w:World) (O:Nat->Prop):∀t:Ty,B0 w O t t.zero t.dflt
 | .int k=>⟨rfl,by cases k<;>exact⟨by decide,by decide⟩⟩
 | .bool=>rfl
 | .str=>⟨rfl,by simp[Ty.dflt,AO]⟩
 | .slice _=>⟨none,0,rfl,by simp[Ty.dflt],by simp[Ty.dflt,AO],.inl rfl⟩
 | .ref _=>rfl
 | .prod a b=>⟨_,_,rfl,B0.zero w O a,B0.zero w O b⟩
 | .agg t=>(B0.zero w O t:B0 w O t _ _)
end
section
open Go
structure PV where
 t:Ty
 d:t.den
def BO (t:Ty) (p:PV):Option t.den:=if h:p.t=t then some (h▸p.d) else none
theorem FU (t:Ty) (d:t.den):BO t ⟨t,d⟩=some d:=by simp[BO]
def HI:(t:Ty)->Nat->t.den->Option PV
 | .prod a _,0,d=>some ⟨a,d.1⟩
 | .prod _ b,k+1,d=>HI b k d.2
 | .int k,0,d=>some ⟨.int k,d⟩
 | .bool,0,d=>some ⟨.bool,d⟩
 | .str,0,d=>some ⟨.str,d⟩
 | .slice e,0,d=>some ⟨.slice e,d⟩
 | .agg t,0,d=>some ⟨.agg t,d⟩
 | .ref k,0,d=>some ⟨.ref k,d⟩
 | _,_,_=>none
def Nf:(t:Ty)->Nat->t.den->PV->Option t.den
 | .prod a _,0,d,x=>(BO a x).map λy=>(y,d.2)
 | .prod _ b,k+1,d,x=>(Nf b k d.2 x).map λy=>(d.1,y)
 | .int k,0,_,x=>BO (.int k) x
 | .bool,0,_,x=>BO .bool x
 | .str,0,_,x=>BO .str x
 | .slice e,0,_,x=>BO (.slice e) x
 | .agg t,0,_,x=>BO (.agg t) x
 | .ref k,0,_,x=>BO (.ref k) x
 | _,_,_,_=>none
def KZ:Ty->Nat->Option Nat
 | .prod _ _,0=>some 0
 | .prod a b,k+1=>(KZ b k).map (a.size + ·)
 | .int _,0=>some 0
 | .bool,0=>some 0
 | .str,0=>some 0
 | .slice _,0=>some 0
 | .agg _,0=>some 0
 | .ref _,0=>some 0
 | _,_=>none
def Z5:Ty->Nat->Option Ty
 | .prod a _,0=>some a
 | .prod _ b,k+1=>Z5 b k
 | .int k,0=>some (.int k)
 | .bool,0=>some .bool
 | .str,0=>some .str
 | .slice e,0=>some (.slice e)
 | .agg t,0=>some (.agg t)
 | .ref k,0=>some (.ref k)
 | _,_=>none
def UI:List Nat->(t:Ty)->t.den->Option PV
 | [],t,d=>some ⟨t,d⟩
 | k :: r,.agg t,d=>match HI t k d with
  | some pv=>UI r pv.t pv.d
  | none=>none
 | _ :: _,_,_=>none
def VI:List Nat->(t:Ty)->t.den->PV->Option t.den
 | [],t,_,x=>BO t x
 | k :: r,.agg t,d,x=>match HI t k d with
  | some pv=>match VI r pv.t pv.d x with
   | some y=>Nf t k d ⟨pv.t,y⟩
   | none=>none
  | none=>none
 | _ :: _,_,_,_=>none
def Lj:List Nat->Ty->Option Nat
 | [],_=>some 0
 | k :: r,.agg t=>match KZ t k,Z5 t k with
  | some o,some u=>(Lj r u).map (o + ·)
  | _,_=>none
 | _ :: _,_=>none
inductive AV where
 
 | p (t:Ty) (d:t.den)
 
 | raw (v:Value)
 
 | sr (n:Nat) (e:Ty) (lo hi:Nat)
 
 | ep (n:Nat) (e:Ty) (i:Nat) (path:List Nat) (off:Nat)
 
 | pc (e:Ty) (d:List e.den)
 
 | ip (t:Ty) (d:t.den)
 
 | bp (n:Nat) (path:List Nat) (off:Nat)
 | fn (f:FuncId)
 
 | clo (f:FuncId) (ns:List Nat)
 
 | mp (n:Nat)
 
 | yl (n:Nat)
 
 | nin (n:Nat) (e:Ty) (i len:Nat)
 
 | ag (l:List AV)
 | tup (l:List AV)
 
 | top
inductive Obj where
 | arr (et:TypeId) (e:Ty) (xs:List e.den)
 | box (et:TypeId) (st:Bool) (fs:List AV)
 
 | mapo (k v:Ty) (l:List (k.den×v.den))
 
 | itr (k v:Ty) (l:List (k.den×v.den)) (left:List Nat) (cur:Option Nat)
 
 | nest (et iet:TypeId) (k e:Ty) (xs:List (k.den×List e.den)) (h:Option Nat)
 
 | frame (tm:Array Value) (fs:List (Nat×AV))
 
 | loop (L:Go.Loop)
 
 | dfr
structure St where
 env:List (Nat×AV)
 objs:List (Nat×Obj)
def lk {α:Type}:Nat->List (Nat×α)->Option α
 | _,[]=>none
 | k,(j,v) :: r=>if k=j then some v else lk k r
def del {α:Type}:Nat->List (Nat×α)->List (Nat×α)
 | _,[]=>[]
 | k,(j,v) :: r=>if k=j then del k r else (j,v) :: del k r
def upd {α:Type}:Nat->α->List (Nat×α)->List (Nat×α)
 | _,_,[]=>[]
 | k,u,(j,v) :: r=>if k=j then (j,u) :: upd k u r else (j,v) :: upd k u r
def sub {α:Type} (xs:List α) (lo hi:Nat):List α:=(xs.drop lo).take (hi-lo)
theorem Ip {α:Type} (xs:List α):sub xs 0 xs.length=xs:=by simp[sub]
structure TI where
 ty:Ty
 offs:List (Nat×Nat):=[]
 el:TypeId:=0
 bytes:Nat
inductive RV where
 | p (t:Ty) (d:t.den)
 | own (et:TypeId) (e:Ty) (xs:List e.den)
@[reducible] def Ka:List Ty->Type
 | []=>Unit
 | t :: r=>t.den×Ka r
def Ty.flat:Ty->Bool
 | .slice _=>false
 | .prod a b=>a.flat&&b.flat
 | .agg t=>t.flat
 | .int _=>true
 | .bool=>true
 | .str=>true
 | .ref _=>true
def RV.flat:RV->Bool
 | .p t _=>t.flat
 | .own _ _ _=>false
structure AZ where
 ins:List Ty
 lend:Bool:=false
 pre:Ka ins->Prop
 out:Ka ins->List RV
structure Tb where
 ty:List (Nat×TI)
 fns:List (Nat×AZ)
 
 pure:List Nat:=[]
 
 nests:List (Nat×TypeId):=[]
 
 live:List Nat:=[]
def inB (n:Nat):List Nat->Bool
 | []=>false
 | m :: r=>if n=m then true else inB n r
def HY:Value->AV
 | .int k n=>if k.min<=n/\n<=k.max then .p (.int k) n else .raw (.int k n)
 | .bool b=>.p .bool b
 | .string s=>if s.size<=AO then .p .str s else .raw (.string s)
 | v=>.raw v
def Ap (σ:St):Operand->Option AV
 | .tmp t=>lk t σ.env
 | .const v=>some (HY v)
 | .func f=>some (.fn f)
 | .global _=>none
def Rc (e:Ty) (lo hi:Nat):Option Obj->Option (List e.den)
 | some (.arr _ a xs)=>BO (.slice e) ⟨.slice a,sub xs lo hi⟩
 | some (.nest _ _ k a xs none)=>BO (.slice e) ⟨.slice (.agg (.prod k (.slice a))),sub xs lo hi⟩
 | _=>none
def Rh (e:Ty) (i:Nat):Option Obj->Option (List e.den)
 | some (.nest _ _ k a xs none)=>BO (.slice e) ⟨.slice a,(xs.getD i (k.dflt,[])).2⟩
 | _=>none
def E2 (l:Bool) (σ:St):(t:Ty)->AV->Option t.den
 | t,.p u d=>BO t ⟨u,d⟩
 | .slice e,.sr n a lo hi=>if l=true/\a=e then Rc e lo hi (lk n σ.objs) else none
 | .slice e,.nin n a i _=>if l=true/\a=e then Rh e i (lk n σ.objs) else none
 | .slice _,.raw (.slice none 0 0)=>some []
 | _,_=>none
def Lk {α β:Type}:Option α->Option β->Option (α×β)
 | some a,some b=>some (a,b)
 | _,_=>none
def Kb (l:Bool) (σ:St):List AV->(t:Ty)->Option t.den
 | [],_=>none
 | [x],t=>E2 l σ t x
 | x :: y :: r,.prod a b=>Lk (E2 l σ a x) (Kb l σ (y :: r) b)
 | _ :: _ :: _,_=>none
def Mx (l:Bool) (σ:St):(t:Ty)->AV->Option t.den
 | .agg t,.ag fs=>Kb l σ fs t
 | t,x=>E2 l σ t x
def Aa (n:Nat):List Nat->Bool
 | []=>false
 | m :: r=>if n=m then true else Aa n r
theorem Am (n:Nat):∀l:List Nat,Aa n l=true↔n∈l
 | []=>by simp[Aa]
 | m :: r=>by
  simp only[Aa,DO];split
  .rename_i h;simp[h]
  rename_i h;simp[h,Am n r]
mutual
def AV.fgt (hs:List Nat):AV->AV
 | .sr m e lo hi=>if Aa m hs=true then .top else .sr m e lo hi
 | .ep m e i path off=>if Aa m hs=true then .top else .ep m e i path off
 | .nin m e i len=>if Aa m hs=true then .top else .nin m e i len
 | .bp m path off=>if Aa m hs=true then .top else .bp m path off
 | .mp m=>if Aa m hs=true then .top else .mp m
 | .yl m=>if Aa m hs=true then .top else .yl m
 | .clo f ns=>if (ns.any λn=>Aa n hs)=true then .top else .clo f ns
 | .ag l=>.ag (AV.fgts hs l)
 | .tup l=>.tup (AV.fgts hs l)
 | .p t d=>.p t d
 | .pc e d=>.pc e d
 | .raw v=>.raw v
 | .ip t d=>.ip t d
 | .fn f=>.fn f
 | .top=>.top
def AV.fgts (hs:List Nat):List AV->List AV
 | []=>[]
 | x :: r=>AV.fgt hs x :: AV.fgts hs r
end
def CN (hs:List Nat):List (Nat×AV)->List (Nat×AV)
 | []=>[]
 | (s,x) :: r=>(s,x.fgt hs) :: CN hs r
def Obj.fgt (hs:List Nat):Obj->Obj
 | .arr et e xs=>.arr et e xs
 | .box et st fs=>.box et st (AV.fgts hs fs)
 | .mapo k v l=>.mapo k v l
 | .nest et b k e xs h=>.nest et b k e xs h
 | .frame i fs=>.frame i (CN hs fs)
 | .loop L=>.loop L
 | .itr c g d f a=>.itr c g d f a
 | .dfr=>.dfr
def Ar (a hs:List Nat):List (Nat×Obj)->List (Nat×Obj)
 | []=>[]
 | (n,o) :: r=>if Aa n a=true then Ar a hs r else (n,o.fgt hs) :: Ar a hs r
mutual
def AV.trn (n:Nat) (hs:List Nat):AV->AV
 | .nin m e i len=>if m=n\/Aa m hs=true then .top else .nin m e i len
 | .sr m e lo hi=>if Aa m hs=true then .top else .sr m e lo hi
 | .ep m e i path off=>if Aa m hs=true then .top else .ep m e i path off
 | .bp m path off=>if Aa m hs=true then .top else .bp m path off
 | .mp m=>if Aa m hs=true then .top else .mp m
 | .yl m=>if Aa m hs=true then .top else .yl m
 | .clo f ns=>if (ns.any λn=>Aa n hs)=true then .top else .clo f ns
 | .ag l=>.ag (AV.trns n hs l)
 | .tup l=>.tup (AV.trns n hs l)
 | .p t d=>.p t d
 | .pc e d=>.pc e d
 | .raw v=>.raw v
 | .ip t d=>.ip t d
 | .fn f=>.fn f
 | .top=>.top
def AV.trns (n:Nat) (hs:List Nat):List AV->List AV
 | []=>[]
 | x :: r=>AV.trn n hs x :: AV.trns n hs r
end
def E3 (n:Nat) (hs:List Nat):List (Nat×AV)->List (Nat×AV)
 | []=>[]
 | (s,x) :: r=>(s,x.trn n hs) :: E3 n hs r
def Obj.trn (n:Nat) (hs:List Nat):Obj->Obj
 | .arr et e xs=>.arr et e xs
 | .box et st fs=>.box et st (AV.trns n hs fs)
 | .mapo k v l=>.mapo k v l
 | .nest et b k e xs h=>.nest et b k e xs h
 | .frame i fs=>.frame i (E3 n hs fs)
 | .loop L=>.loop L
 | .itr c g d f a=>.itr c g d f a
 | .dfr=>.dfr
def DI (n:Nat) (hs:List Nat):List (Nat×Obj)->List (Nat×Obj)
 | []=>[]
 | (m,o) :: r=>if Aa m (n :: hs)=true then DI n hs r else (m,o.trn n hs) :: DI n hs r
def Co:Option Obj->Bool
 | some (.nest _ _ _ _ _ _)=>true
 | _=>false
def Pf (σ:St) (e:Ty):AV->Option (List e.den)
 | .sr n a lo hi=>if Co (lk n σ.objs)=true then none else Mx true σ (.slice e) (.sr n a lo hi)
 | x=>Mx true σ (.slice e) x
end
section
open Go
def Ac (x y:ByteArray):Bool:=x.toList==y.toList
def Cf (x y:ByteArray):Bool:=Op.bytesLess x.toList y.toList
def B6 (op:BinOp) (k:IntKind) (x y:Int):Int :=
 k.wrap (match op with
  | .and=>((BitVec.ofInt k.bits x &&& BitVec.ofInt k.bits y).toNat:Int)
  | .or=>((BitVec.ofInt k.bits x ||| BitVec.ofInt k.bits y).toNat:Int)
  | .xor=>((BitVec.ofInt k.bits x ^^^ BitVec.ofInt k.bits y).toNat:Int)
  | _=>((BitVec.ofInt k.bits x &&& ~~~BitVec.ofInt k.bits y).toNat:Int))
def UJ (k:IntKind) (x y:Int):Int:=k.wrap (x*2 ^ (min y.toNat k.bits))
def YC (k:IntKind) (x y:Int):Int:=x.fdiv (2 ^ (min y.toNat k.bits))
def lJ (k:IntKind) (a b:Int):BinOp->Prop×AV
 | .add=>(KW k (a+b),.p (.int k) (a+b))
 | .sub=>(KW k (a-b),.p (.int k) (a-b))
 | .mul=>(KW k (a*b),.p (.int k) (a*b))
 | .quo=>(b≠0/\KW k (a.tdiv b),.p (.int k) (a.tdiv b))
 | .rem=>(b≠0/\KW k (a.tmod b),.p (.int k) (a.tmod b))
 | .and=>(True,.p (.int k) (B6 .and k a b))
 | .or=>(True,.p (.int k) (B6 .or k a b))
 | .xor=>(True,.p (.int k) (B6 .xor k a b))
 | .andNot=>(True,.p (.int k) (B6 .andNot k a b))
 | .shl=>(False,.top)
 | .shr=>(False,.top)
 | .eql=>(True,.p .bool (a==b))
 | .neq=>(True,.p .bool (a != b))
 | .lss=>(True,.p .bool (decide (a<b)))
 | .leq=>(True,.p .bool (decide (a<=b)))
 | .gtr=>(True,.p .bool (decide (b<a)))
 | .geq=>(True,.p .bool (decide (b<=a)))
def YD (a b:ByteArray):BinOp->Prop×AV
 | .add=>(a.size+b.size<=AO,.p .str (a++b))
 | .eql=>(True,.p .bool (Ac a b))
 | .neq=>(True,.p .bool (!Ac a b))
 | .lss=>(True,.p .bool (Cf a b))
 | .leq=>(True,.p .bool (Cf a b||Ac a b))
 | .gtr=>(True,.p .bool (!(Cf a b||Ac a b)))
 | .geq=>(True,.p .bool (!Cf a b))
 | _=>(False,.top)
def bin (op:BinOp) (k:IntKind) (a:Int) (c:IntKind) (b:Int):Prop×AV :=
 match op with
 | .shl=>(0<=b,.p (.int k) (UJ k a b))
 | .shr=>(0<=b/\KW k (YC k a b),.p (.int k) (YC k a b))
 | op=>if k=c then lJ k a b op else (False,.top)
def zP:Ty->AV
 | .slice _=>.raw (.slice none 0 0)
 | .ref k=>.raw (Lg k)
 | t=>.p t t.dflt
def zQ:Ty->List AV
 | .prod a b=>zP a :: zQ b
 | t=>[zP t]
def pfs:(t:Ty)->t.den->List AV
 | .prod a b,d=>.p a d.1 :: pfs b d.2
 | .int k,d=>[.p (.int k) d]
 | .bool,d=>[.p .bool d]
 | .str,d=>[.p .str d]
 | .slice e,d=>[.p (.slice e) d]
 | .agg t,d=>[.p (.agg t) d]
 | .ref k,d=>[.p (.ref k) d]
def AV.cells:AV->Nat
 | .p t _=>t.size
 | .ag _=>0
 | .tup _=>0
 | _=>1
def CF:List AV->Nat->Nat
 | _,0=>0
 | [],_+1=>0
 | x :: r,k+1=>x.cells+CF r k
def Jq (st:Bool) (fs:List AV):List Nat->Option AV
 | []=>if st then some (.ag fs) else fs[0]?
 | [k]=>if st then fs[k]? else none
 | k :: r=>if st then match fs[k]? with
   | some (.p t d)=>(UI r t d).map λpv=>.p pv.t pv.d
   | _=>none
  else none
def Pg (fs:List AV):List Nat->Option Nat
 | []=>some 0
 | k :: r=>match fs[k]? with
  | some (.p t _)=>(Lj r t).map (CF fs k + ·)
  | some _=>if r.isEmpty then some (CF fs k) else none
  | none=>none
def Ty.cell1:Ty->Bool
 | .agg _=>false
 | .prod _ _=>false
 | .int _=>true
 | .bool=>true
 | .str=>true
 | .slice _=>true
 | .ref _=>true
def CT (ty:Ty):AV->Bool
 | .p t _=>ty=t
 | .ag l=>match ty with|.agg t=>CF l l.length==t.size|_=>false
 | .tup _=>false
 | .top=>false
 | .raw u=>u.oneCell'&&ty.cell1
 | _=>ty.cell1
def Nn (ty:Ty):AV->Bool
 | .top=>ty.cell1
 | x=>CT ty x
def Gr (n:Nat):Bool:=decide (1000000<=n)
mutual
def AV.frz (n:Nat) (e:Ty) (xs:List e.den):AV->AV
 | .sr m e' lo hi=>if m=n then (if e'=e then .p (.slice e) (sub xs lo hi) else .top) else .sr m e' lo hi
 | .ep m e' i path off=>if m=n then .top else .ep m e' i path off
 | .nin m e' i len=>if m=n then .top else .nin m e' i len
 | .ag l=>.ag (AV.frzs n e xs l)
 | .tup l=>.tup (AV.frzs n e xs l)
 | .p t d=>.p t d
 | .pc e d=>.pc e d
 | .raw v=>.raw v
 | .ip t d=>.ip t d
 | .bp m path off=>.bp m path off
 | .fn f=>.fn f
 | .clo f ns=>.clo f ns
 | .mp n=>.mp n
 | .yl n=>.yl n
 | .top=>.top
def AV.frzs (n:Nat) (e:Ty) (xs:List e.den):List AV->List AV
 | []=>[]
 | x :: r=>AV.frz n e xs x :: AV.frzs n e xs r
end
def DR (n:Nat) (e:Ty) (xs:List e.den):List (Nat×AV)->List (Nat×AV)
 | []=>[]
 | (s,x) :: r=>(s,x.frz n e xs) :: DR n e xs r
def A4 (n:Nat) (e:Ty) (xs:List e.den):List (Nat×Obj)->List (Nat×Obj)
 | []=>[]
 | (m,.arr et a ys) :: r=>(m,.arr et a ys) :: A4 n e xs r
 | (m,.box et st fs) :: r=>(m,.box et st (AV.frzs n e xs fs)) :: A4 n e xs r
 | (m,.mapo k v l) :: r=>(m,.mapo k v l) :: A4 n e xs r
 | (m,.nest et c k a ys h) :: r=>(m,.nest et c k a ys h) :: A4 n e xs r
 | (m,.frame j fs) :: r=>(m,.frame j (DR n e xs fs)) :: A4 n e xs r
 | (m,.loop L) :: r=>(m,.loop L) :: A4 n e xs r
 | (m,.itr d i f g b) :: r=>(m,.itr d i f g b) :: A4 n e xs r
 | (m,.dfr) :: r=>(m,.dfr) :: A4 n e xs r
def lK (n:Nat) (σ:St):Option Obj->St
 | some (.arr _ e xs)=>⟨DR n e xs σ.env,A4 n e xs (del n σ.objs)⟩
 | some (.nest _ _ k e xs none)=>⟨DR n (.agg (.prod k (.slice e))) xs σ.env,A4 n (.agg (.prod k (.slice e))) xs (del n σ.objs)⟩
 | _=>σ
def frz (n:Nat) (σ:St):St:=if Gr n=true then σ else lK n σ (lk n σ.objs)
mutual
def AV.drp (n:Nat):AV->AV
 | .sr m e' lo hi=>if m=n then .top else .sr m e' lo hi
 | .ep m e' i path off=>if m=n then .top else .ep m e' i path off
 | .nin m e' i len=>if m=n then .top else .nin m e' i len
 | .ag l=>.ag (AV.drps n l)
 | .tup l=>.tup (AV.drps n l)
 | .p t d=>.p t d
 | .pc e d=>.pc e d
 | .raw v=>.raw v
 | .ip t d=>.ip t d
 | .bp m path off=>.bp m path off
 | .fn f=>.fn f
 | .clo f ns=>.clo f ns
 | .mp n=>.mp n
 | .yl n=>.yl n
 | .top=>.top
def AV.drps (n:Nat):List AV->List AV
 | []=>[]
 | x :: r=>AV.drp n x :: AV.drps n r
end
def Fj (n:Nat):List (Nat×AV)->List (Nat×AV)
 | []=>[]
 | (s,x) :: r=>(s,x.drp n) :: Fj n r
def Bb (n:Nat):List (Nat×Obj)->List (Nat×Obj)
 | []=>[]
 | (m,.arr et a ys) :: r=>(m,.arr et a ys) :: Bb n r
 | (m,.box et st fs) :: r=>(m,.box et st (AV.drps n fs)) :: Bb n r
 | (m,.mapo k v l) :: r=>(m,.mapo k v l) :: Bb n r
 | (m,.nest et c k a ys h) :: r=>(m,.nest et c k a ys h) :: Bb n r
 | (m,.frame i fs) :: r=>(m,.frame i (Fj n fs)) :: Bb n r
 | (m,.loop L) :: r=>(m,.loop L) :: Bb n r
 | (m,.itr d g e f b) :: r=>(m,.itr d g e f b) :: Bb n r
 | (m,.dfr) :: r=>(m,.dfr) :: Bb n r
mutual
def AV.names:AV->List Nat
 | .sr m _ _ _=>[m]
 | .ag l=>AV.namess l
 | .tup l=>AV.namess l
 | .p _ _=>[]
 | .pc _ _=>[]
 | .raw _=>[]
 | .ip _ _=>[]
 | .bp _ _ _=>[]
 | .ep _ _ _ _ _=>[]
 | .nin _ _ _ _=>[]
 | .fn _=>[]
 | .clo _ _=>[]
 | .mp _=>[]
 | .yl _=>[]
 | .top=>[]
def AV.namess:List AV->List Nat
 | []=>[]
 | x :: r=>x.names++AV.namess r
end
def Gt (σ:St):Option Operand->Option (Option AV)
 | none=>some none
 | some x=>(Ap σ x).map some
def E4 (σ:St) (e:Ty):Nat->List (Nat×Operand)->Option (List e.den)
 | _,[]=>some []
 | k,(i,x) :: r=>if i=k then match Ap σ x with
   | some av=>match Mx false σ e av,E4 σ e (k+1) r with
    | some y,some ys=>some (y :: ys)
    | _,_=>none
   | none=>none
  else none
def Iq:AV->Bool
 | .p (.prod _ _) _=>false
 | .p _ _=>true
 | .raw u=>u.oneCell'
 | .ag _=>false
 | .tup _=>false
 | .top=>false
 | _=>true
def Fk (σ:St):Option AV->Option AV->Option AV
 | some (.p t _),some (.ag l)=>(Mx false σ t (.ag l)).map λd=>.p t d
 | _,x=>x
def Dq (σ:St) (offs:List (Nat×Nat)):List AV->List (Nat×Operand)->Option (List AV)
 | fs,[]=>some fs
 | fs,(i,x) :: r=>match Fk σ fs[i]? (Ap σ x) with
  | some av=>if Iq av=true/\(fs[i]?.map AV.cells)=some av.cells/\offs[i]?=some (CF fs i,av.cells) then Dq σ offs (fs.set i av) r else none
  | none=>none
def GK (l:Bool) (σ:St):(ts:List Ty)->List Operand->Option (Ka ts)
 | [],[]=>some ()
 | t :: ts,x :: xs=>match Ap σ x with
  | some av=>match Mx l σ t av,GK l σ ts xs with
   | some y,some ys=>some (y,ys)
   | _,_=>none
  | none=>none
 | _,_=>none
def dY (name:Nat):RV->AV
 | .p t d=>.p t d
 | .own _ e xs=>.sr name e 0 xs.length
def S6 (name:Nat):RV->List (Nat×Obj)
 | .p _ _=>[]
 | .own et e xs=>[(name,.arr et e xs)]
def Hr:Nat->List RV->List AV
 | _,[]=>[]
 | n,r :: l=>dY n r :: Hr (n+10000) l
def Cp:Nat->List RV->List (Nat×Obj)
 | _,[]=>[]
 | n,r :: l=>S6 n r++Cp (n+10000) l
def HS (name:Nat):List RV->AV
 | []=>.raw (.tuple #[])
 | [r]=>dY name r
 | l=>.tup (Hr name l)
def Ik:(t:Ty)->t.den->t.den->Bool
 | .int _,a,b=>(a:Int)==b
 | .bool,a,b=>(a:Bool)==b
 | .str,a,b=>(a:ByteArray)==b
 | .prod t u,a,b=>Ik t a.1 b.1&&Ik u a.2 b.2
 | .agg t,a,b=>Ik t a b
 | .slice _,_,_=>false
 | .ref _,_,_=>false
def lL:Ty->Bool
 | .prod (.int _) (.int _)=>true
 | _=>false
def YE:Ty->Bool
 | .int _=>true
 | .bool=>true
 | .str=>true
 | .prod _ _=>false
 | .agg t=>lL t
 | .slice _=>false
 | .ref _=>false
def BT (a b:Ty) (k:a.den):List (a.den×b.den)->Option b.den
 | []=>none
 | x :: r=>if Ik a k x.1=true then some x.2 else BT a b k r
def Fl (a b:Ty) (k:a.den) (v:b.den):List (a.den×b.den)->List (a.den×b.den)
 | []=>[(k,v)]
 | x :: r=>if Ik a k x.1=true then (k,v) :: r else x :: Fl a b k v r
abbrev BU:=Option (Prop×AV×List (Nat×Obj))
def Hs (x:AV) (lo hi:Option AV):BU :=
 match x,lo,hi with
 | .p (.slice e) l,none,some (.p (.int _) h)=>some (0<=h/\h<=l.length,.p (.slice e) (sub l 0 h.toNat),[])
 | .p (.slice e) l,some (.p (.int _) a),none=>some (0<=a/\a<=l.length,.p (.slice e) (sub l a.toNat l.length),[])
 | .p (.slice e) l,some (.p (.int _) a),some (.p (.int _) h)=>some (0<=a/\a<=h/\h<=l.length,.p (.slice e) (sub l a.toNat h.toNat),[])
 | .p .str s,none,some (.p (.int _) h)=>some (0<=h/\h<=s.size,.p .str (s.extract 0 h.toNat),[])
 | .p .str s,some (.p (.int _) a),none=>some (0<=a/\a<=s.size,.p .str (s.extract a.toNat s.size),[])
 | .p .str s,some (.p (.int _) a),some (.p (.int _) h)=>some (0<=a/\a<=h/\h<=s.size,.p .str (s.extract a.toNat h.toNat),[])
 | .sr n e b c,none,some (.p (.int _) h)=>some (0<=h/\h<=(c-b:Nat),.sr n e b (b+h.toNat),[])
 | .sr n e b c,some (.p (.int _) a),none=>some (0<=a/\a<=(c-b:Nat),.sr n e (b+a.toNat) c,[])
 | .sr n e b c,some (.p (.int _) a),some (.p (.int _) h)=>some (0<=a/\a<=h/\h<=(c-b:Nat),.sr n e (b+a.toNat) (b+h.toNat),[])
 | _,_,_=>none
def Gu:Option AV->BU
 | some v=>some (True,v,[])
 | none=>none
def LS:Option AV->Option AV->Option AV->BU
 | some (.p .bool true),x,_=>Gu x
 | some (.p .bool false),_,y=>Gu y
 | _,_,_=>none
def Kd (d:Nat) (t:TypeId):Option TI->BU
 | some ⟨.agg u,_,_,_⟩=>some (True,.bp d [] 0,[(d,.box t true (zQ u))])
 | some ⟨.int k,_,_,_⟩=>some (True,.bp d [] 0,[(d,.box t false [zP (.int k)])])
 | some ⟨.bool,_,_,_⟩=>some (True,.bp d [] 0,[(d,.box t false [zP .bool])])
 | some ⟨.str,_,_,_⟩=>some (True,.bp d [] 0,[(d,.box t false [zP .str])])
 | some ⟨.slice e,_,_,_⟩=>some (True,.bp d [] 0,[(d,.box t false [zP (.slice e)])])
 | some ⟨.ref k,_,_,_⟩=>some (True,.bp d [] 0,[(d,.box t false [zP (.ref k)])])
 | _=>none
def UK (d:Nat) (t:TypeId):Option TI->Option AV->BU
 | some ⟨.agg u,_,_,_⟩,some (.p (.agg a) v)=>if u=a then some (True,.bp d [] 0,[(d,.box t true (pfs a v))]) else none
 | some ⟨.agg u,_,_,_⟩,some (.ag l)=>if l.map AV.cells=(zQ u).map AV.cells then some (True,.bp d [] 0,[(d,.box t true l)]) else none
 | some ⟨.int k,_,_,_⟩,some v=>if CT (.int k) v then some (True,.bp d [] 0,[(d,.box t false [v])]) else none
 | some ⟨.bool,_,_,_⟩,some v=>if CT .bool v then some (True,.bp d [] 0,[(d,.box t false [v])]) else none
 | some ⟨.str,_,_,_⟩,some v=>if CT .str v then some (True,.bp d [] 0,[(d,.box t false [v])]) else none
 | some ⟨.slice e,_,_,_⟩,some v=>if CT (.slice e) v then some (True,.bp d [] 0,[(d,.box t false [v])]) else none
 | some ⟨.ref k,_,_,_⟩,some v=>if CT (.ref k) v then some (True,.bp d [] 0,[(d,.box t false [v])]) else none
 | _,_=>none
def JR (σ:St) (parts:List (Nat×Operand)):Option TI->BU
 | some ⟨.agg u,offs,_,_⟩=>Gu ((Dq σ offs (zQ u) parts).map AV.ag)
 | _=>none
def Bg (a:Bool) (d:Nat) (n:Nat) (el:TypeId) (e:Ty):Option (List e.den)->BU
 | some xs=>some (xs.length=n/\n*e.size<=16777216,if a then .p (.slice e) xs else .sr d e 0 n,if a then [] else [(d,.arr el e xs)])
 | none=>none
def Bc (a:Bool) (σ:St) (d:Nat) (n:Nat) (parts:List (Nat×Operand)):Option TI->BU
 | some ⟨.slice e,_,el,_⟩=>Bg a d n el e (E4 σ e 0 parts)
 | _=>none
def Ke (d:Nat) (el b:TypeId) (n:Nat) (k e:Ty):Option k.den->AV->BU
 | some a,.raw (.slice none 0 0)=>some (n=1/\k.size+1<=16777216,.sr d (.agg (.prod k (.slice e))) 0 1,[(d,.nest el b k e [(a,[])] none)])
 | some a,.pc c l=>if c=e then some ((n=1/\k.size+1<=16777216)/\List.length l=0,.sr d (.agg (.prod k (.slice e))) 0 1,[(d,.nest el b k e [(a,[])] none)]) else none
 | _,_=>none
def JS (σ:St) (d:Nat) (el a:TypeId) (n:Nat):Ty->Option AV->BU
 | .agg (.prod k (.slice e)),some (.ag [x,y])=>Ke d el a n k e (E2 false σ k x) y
 | _,_=>none
def JT (σ:St) (d:Nat) (a:TypeId) (n:Nat):List (Nat×Operand)->Option TI->BU
 | [(0,x)],some ⟨.slice t,_,el,_⟩=>JS σ d el a n t (Ap σ x)
 | _,_=>none
def Gp (tb:Tb) (σ:St) (d:Nat) (n:Nat) (parts:List (Nat×Operand)) (ti:Option TI):Option TypeId->BU
 | some a=>JT σ d a n parts ti
 | none=>Bc (inB d tb.pure) σ d n parts ti
def Ir (ty:Ty) (fs:List AV) (a:List Nat) (off:Nat):Option AV->BU
 | some v=>if CT ty v=true/\Pg fs a=some off then some (True,v,[]) else none
 | none=>none
def Eb (ty:Ty) (a:List Nat) (off:Nat):Option Obj->BU
 | some (.box _ st fs)=>Ir ty fs a off (Jq st fs a)
 | _=>none
def It (ty e:Ty) (a:List Nat) (off:Nat):Option PV->BU
 | some ⟨t,d⟩=>if ty=t/\Lj a e=some off then some (True,.p t d,[]) else none
 | none=>none
def Iu (ty e:Ty) (i:Nat) (a:List Nat) (off:Nat):Option (List e.den)->BU
 | some ys=>It ty e a off (UI a e (ys.getD i e.dflt))
 | none=>none
def OO (n:Nat) (ty:Ty) (i off:Nat) (k e:Ty) (x:k.den×List e.den):List Nat->BU
 | [0]=>if ty=k/\off=0 then some (True,.p k x.1,[]) else none
 | [1]=>if ty=.slice e/\off=k.size then some (True,.nin n e i x.2.length,[]) else none
 | _=>none
def Ec (n:Nat) (ty e:Ty) (i:Nat) (b:List Nat) (off:Nat):Option Obj->BU
 | some (.arr _ a xs)=>Iu ty e i b off (BO (.slice e) ⟨.slice a,xs⟩)
 | some (.nest _ _ k a xs none)=>if e=.agg (.prod k (.slice a)) then OO n ty i off k a (xs.getD i (k.dflt,[])) b else none
 | _=>none
def Jr (σ:St):Option TI->Option AV->BU
 | some ti,some (.bp n a off)=>Eb ti.ty a off (lk n σ.objs)
 | some ti,some (.ep n e i a off)=>Ec n ti.ty e i a off (lk n σ.objs)
 | some ti,some (.ip u v)=>if ti.ty=u then some (True,.p u v,[]) else none
 | _,_=>none
def Iv (o:Option (Nat×Nat)) (a:Option Nat):Option PV->BU
 | some ⟨t,d⟩=>if o.map (·.1)=a then some (True,.ip t d,[]) else none
 | none=>none
def VJ (v:Nat->AV):Option (Nat×Nat)->BU
 | some (k,_)=>some (True,v k,[])
 | none=>none
def Ph (f:Nat) (o:Option (Nat×Nat)):AV->BU
 | .bp n a off=>VJ (λk=>.bp n (a++[f]) (off+k)) o
 | .ep n e i a off=>VJ (λk=>.ep n e i (a++[f]) (off+k)) o
 | .ip (.agg u) v=>Iv o (KZ u f) (HI u f v)
 | _=>none
def HJ (f:Nat):Option TI->Option AV->BU
 | some ⟨.agg _,offs,0,_⟩,some x=>Ph f offs[f]? x
 | _,_=>none
def Kg (offs:List (Nat×Nat)) (x:AV):AV->BU
 | .p (.int _) k=>if 0<=k then Ph k.toNat offs[k.toNat]? x else none
 | _=>none
def Fm:Option TI->Option AV->Option AV->BU
 | some ⟨.slice e,_,_,_⟩,some (.p (.slice a) l),some (.p (.int _) k)=>if e=a then some (0<=k/\k<l.length,.ip a (l.getD k.toNat a.dflt),[]) else none
 | some ⟨.slice e,_,_,_⟩,some (.sr n a lo hi),some (.p (.int _) k)=>if e=a then some (0<=k/\k<(hi-lo:Nat),.ep n a (lo+k.toNat) [] 0,[]) else none
 | some ⟨.agg _,offs,_+1,_⟩,some x,some i=>Kg offs x i
 | _,_,_=>none
def EW:Option TI->Option AV->Option AV->BU
 | some ⟨.str,_,_,_⟩,some (.p .str s),some (.p (.int _) k)=>some (0<=k/\k<s.size,.p (.int .u8) ((s.data.getD k.toNat 0).toNat:Int),[])
 | _,_,_=>none
def VK:Option AV->BU
 | some (.bp n a off)=>some (True,.bp n a off,[])
 | some (.ip t v)=>some (True,.ip t v,[])
 | some (.ep n e i a off)=>some (True,.ep n e i a off,[])
 | _=>none
def lM (a b:Bool):BinOp->BU
 | .eql=>some (True,.p .bool (a==b),[])
 | .neq=>some (True,.p .bool (a != b),[])
 | _=>none
def S7:Option TI->Bool
 | some ⟨.bool,_,_,_⟩=>true
 | _=>false
def Ri (op:BinOp) (ti:Option TI):Option AV->Option AV->BU
 | some (.p (.int k) a),some (.p (.int c) b)=>some ((bin op k a c b).1,(bin op k a c b).2,[])
 | some (.p .str a),some (.p .str b)=>some ((YD a b op).1,(YD a b op).2,[])
 | some (.p .bool a),some (.p .bool b)=>if S7 ti=true then lM a b op else none
 | _,_=>none
def qUn:UnOp->Option AV->BU
 | .not,some (.p .bool b)=>some (True,.p .bool (!b),[])
 | .neg,some (.p (.int k) a)=>some (KW k (0-a),.p (.int k) (0-a),[])
 | _,_=>none
def S8 (l:List Int):ByteArray:=⟨(l.map λx=>UInt8.ofNat x.toNat).toArray⟩
def Js:Option TI->Option TI->Option AV->BU
 | some ⟨.int _,_,_,_⟩,some ⟨.int k,_,_,_⟩,some (.p (.int _) a)=>some (KW k a,.p (.int k) a,[])
 | some ⟨.slice (.int .u8),_,_,_⟩,some ⟨.str,_,_,_⟩,some (.p (.slice (.int .u8)) l)=>some (True,.p .str (S8 l),[])
 | _,_,_=>none
def Ll (d:Nat) (el:TypeId) (e:Ty) (n m:Int):Option TI->BU
 | some ti=>some (n=m/\0<=n/\n.toNat*ti.bytes<=AO,.sr d e 0 n.toNat,[(d,.arr el e (List.replicate n.toNat e.dflt))])
 | none=>none
def Iw (tb:Tb) (d:Nat):Option TI->Option AV->Option AV->BU
 | some ⟨.slice e,_,el,_⟩,some (.p (.int .i64) n),some (.p (.int .i64) m)=>Ll d el e n m (lk el tb.ty)
 | _,_,_=>none
def FJ:Option TI->Option AV->Option (Option AV)->Option (Option AV)->BU
 | some ⟨.slice e,_,_,_⟩,some (.p (.slice d) l),some a,some h=>if e=d then Hs (.p (.slice d) l) a h else none
 | some ⟨.slice e,_,_,_⟩,some (.sr n d b c),some a,some h=>if e=d then Hs (.sr n d b c) a h else none
 | some ⟨.str,_,_,_⟩,some (.p .str s),some a,some h=>Hs (.p .str s) a h
 | _,_,_,_=>none
def Dr:Option TI->Option AV->Option AV->Option AV->BU
 | some ⟨.slice e,_,_,_⟩,some (.p (.slice c) l),some (.p (.int _) a),some (.p (.int _) b)=>if e=c then some (a=(List.length l:Int)/\b=(List.length l:Int),.pc c l,[]) else none
 | _,_,_,_=>none
def Ed (i:Nat):Option AV->BU
 | some (.tup l)=>Gu l[i]?
 | _=>none
def UL:Option TI->Option AV->BU
 | some ⟨.slice _,_,_,_⟩,some (.p (.slice _) l)=>some (True,.p (.int .i64) (l.length:Int),[])
 | some ⟨.slice _,_,_,_⟩,some (.sr _ _ lo hi)=>some (True,.p (.int .i64) ((hi-lo:Nat):Int),[])
 | some ⟨.slice _,_,_,_⟩,some (.nin _ _ _ len)=>some (True,.p (.int .i64) (len:Int),[])
 | some ⟨.slice _,_,_,_⟩,some (.raw (.slice none 0 0))=>some (True,.p (.int .i64) (0:Int),[])
 | some ⟨.str,_,_,_⟩,some (.p .str s)=>some (True,.p (.int .i64) (s.size:Int),[])
 | _,_=>none
def E9 (d:Nat) (el:TypeId) (e:Ty):Option TI->Option (List e.den)->BU
 | some ti,some ys=>some (ys.length*ti.bytes<=AO,.sr d e 0 ys.length,[(d,.arr el e ys)])
 | _,_=>none
def Ee (tb:Tb) (σ:St) (d:Nat) (v:AV):Option TI->BU
 | some ⟨.slice e,_,el,_⟩=>E9 d el e (lk el tb.ty) (Pf σ e v)
 | _=>none
def Kh (d:Nat) (el:TypeId) (e:Ty) (l:List e.den):Option TI->Option (List e.den)->BU
 | some ti,some ys=>some (0<ys.length/\(l.length+ys.length)*ti.bytes<=AO,.sr d e 0 (l.length+ys.length),[(d,.arr el e (l++ys))])
 | _,_=>none
def JU (tb:Tb) (σ:St) (d:Nat) (e:Ty) (l:List e.den) (v:AV):Option TI->BU
 | some ⟨.slice a,_,el,_⟩=>if a=e then Kh d el e l (lk el tb.ty) (Pf σ e v) else none
 | _=>none
def DX (tb:Tb) (σ:St) (d:Nat) (t u:TypeId):Option AV->Option AV->BU
 | some (.raw (.slice none 0 0)),some v=>if t=u then Ee tb σ d v (lk t tb.ty) else none
 | some (.pc e l),some v=>if t=u then JU tb σ d e l v (lk t tb.ty) else none
 | _,_=>none
def Rj:Option AV->Option AV->BU
 | some (.p (.int k) a),some (.p (.int c) b)=>if k=c then some (True,.p (.int k) (if b<a then b else a),[]) else none
 | _,_=>none
def Ix:Option AV->Option AV->Option AV->BU
 | some (.p (.int k) a),some (.p (.int d) b),some (.p (.int e) c)=>if k=d/\k=e then some (True,.p (.int k) (if c<(if b<a then b else a) then c else (if b<a then b else a)),[]) else none
 | _,_,_=>none
def Np (k:IntKind) (a:Int):Option AV->Option Int
 | some (.p (.int c) b)=>if k=c then some (if b<a then b else a) else none
 | _=>none
def FW (σ:St) (k:IntKind):Option Int->List Operand->Option Int
 | some a,x :: r=>FW σ k (Np k a (Ap σ x)) r
 | o,_=>o
def Pi (k:IntKind):Option Int->BU
 | some m=>some (True,.p (.int k) m,[])
 | none=>none
def Nq (σ:St) (r:List Operand):Option AV->BU
 | some (.p (.int k) a)=>Pi k (FW σ k (some a) r)
 | _=>none
def Rk:Option AV->Option AV->BU
 | some (.p (.int k) a),some (.p (.int c) b)=>if k=c then some (True,.p (.int k) (if a<b then b else a),[]) else none
 | _,_=>none
def Ki (d:Nat) (sp:AZ):Option (Ka sp.ins)->BU
 | some ds=>if sp.lend=false\/(sp.out ds).all RV.flat=true then some (sp.pre ds,HS d (sp.out ds),Cp d (sp.out ds)) else none
 | none=>none
def JV (σ:St) (d:Nat) (xs:List Operand):Option AZ->BU
 | some sp=>Ki d sp (GK sp.lend σ sp.ins xs)
 | none=>none
def Lm (tb:Tb) (σ:St) (d:Nat) (xs:List Operand):Option AV->BU
 | some (.fn f)=>JV σ d xs (lk f tb.fns)
 | _=>none
def Ef (tb:Tb) (σ:St) (d:Nat):Builtin->List Operand->List TypeId->BU
 | .len,[x],[t]=>UL (lk t tb.ty) (Ap σ x)
 | .append,[x,y],[t,u]=>DX tb σ d t u (Ap σ x) (Ap σ y)
 | .min,[x,y],[_,_]=>Rj (Ap σ x) (Ap σ y)
 | .max,[x,y],[_,_]=>Rk (Ap σ x) (Ap σ y)
 | .min,[x,y,z],[_,_,_]=>Ix (Ap σ x) (Ap σ y) (Ap σ z)
 | .min,x :: y :: z :: u :: r,_=>Nq σ (y :: z :: u :: r) (Ap σ x)
 | _,_,_=>none
def Ht (σ:St):List Operand->Option (List Nat)
 | []=>some []
 | x :: r=>match Ap σ x,Ht σ r with
  | some (.bp n [] 0),some ns=>some (n :: ns)
  | _,_=>none
def Pj (f:FuncId):Option (List Nat)->BU
 | some ns=>some (True,.clo f ns,[])
 | none=>none
def Z6 (σ:St) (fn:Fn) (first a:List Operand):BU :=
 match fn,first with
 | .func f,[]=>Pj f (Ht σ a)
 | _,_=>none
def GT (d:Nat):Option TI->Option TI->BU
 | some a,some te=>some (True,.mp d,[(d,.mapo a.ty te.ty [])])
 | _,_=>none
def GU (tb:Tb) (d:Nat):List (Nat×Nat)->BU
 | [(k,e)]=>GT d (lk k tb.ty) (lk e tb.ty)
 | _=>none
def Fq (tb:Tb) (d:Nat):Option TI->BU
 | some ⟨.ref 2,offs,_,_⟩=>GU tb d offs
 | _=>none
def Ln (a:Ty) (ok:Bool) (r:Option a.den):BU :=
 if ok then some (True,.tup [.p a (r.getD a.dflt),.p .bool r.isSome],[]) else some (True,.p a (r.getD a.dflt),[])
def Kj (a b:Ty) (l:List (a.den×b.den)) (ok:Bool):Option a.den->BU
 | some k=>if YE a=true then Ln b ok (BT a b k l) else none
 | none=>none
def Hu (tb:Tb) (σ:St) (b d:Nat) (x:AV) (ok:Bool):Option Obj->BU
 | some (.mapo a c l)=>if (lk b tb.ty).map TI.ty=some a/\(lk b tb.ty).map TI.el=some 0/\(lk d tb.ty).map TI.ty=some c then Kj a c l ok (Mx false σ a x) else none
 | _=>none
def Iy (tb:Tb) (σ:St) (ok:Bool):Option TI->Option AV->Option AV->BU
 | some ⟨.ref 2,[(k,e)],_,_⟩,some (.mp n),some x=>Hu tb σ k e x ok (lk n σ.objs)
 | _,_,_=>none
def Ds (tb:Tb) (σ:St) (d:Nat) (xs:List Operand) (ts:List TypeId):Callee->BU
 | .builtin b=>Ef tb σ d b xs ts
 | .value g=>Lm tb σ d xs (Ap σ g)
 | _=>none
def aq (tb:Tb) (σ:St) (d:Nat):Op->BU
 | .move x=>Gu (Ap σ x)
 | .assign x=>Gu (Ap σ x)
 | .pick c x y=>LS (Ap σ c) (Ap σ x) (Ap σ y)
 | .alloc t=>Kd d t (lk t tb.ty)
 | .box t x=>UK d t (lk t tb.ty) (Ap σ x)
 | .build t parts=>JR σ parts.toList (lk t tb.ty)
 | .buildSlice t n parts=>Gp tb σ d n parts.toList (lk t tb.ty) (lk d tb.nests)
 | .load t x=>Jr σ (lk t tb.ty) (Ap σ x)
 | .fieldAddr s x f=>HJ f (lk s tb.ty) (Ap σ x)
 | .indexAddr t x i=>Fm (lk t tb.ty) (Ap σ x) (Ap σ i)
 | .index t x i=>EW (lk t tb.ty) (Ap σ x) (Ap σ i)
 | .nilCheck x=>VK (Ap σ x)
 | .binOp op t x y _=>Ri op (lk t tb.ty) (Ap σ x) (Ap σ y)
 | .unOp op _ x=>qUn op (Ap σ x)
 | .convert s t x=>Js (lk s tb.ty) (lk t tb.ty) (Ap σ x)
 | .makeSlice t l c=>Iw tb d (lk t tb.ty) (Ap σ l) (Ap σ c)
 | .slice t x none (some hi) (some b)=>Dr (lk t tb.ty) (Ap σ x) (Ap σ hi) (Ap σ b)
 | .slice t x lo hi none=>FJ (lk t tb.ty) (Ap σ x) (Gt σ lo) (Gt σ hi)
 | .extract x i=>Ed i (Ap σ x)
 | .call c=>Ds tb σ d c.args.toList c.argTypes.toList c.callee
 | .makeFunc fn first a=>Z6 σ fn first.toList a.toList
 | .makeMap t none=>Fq tb d (lk t tb.ty)
 | .lookup t x i ok=>Iy tb σ ok (lk t tb.ty) (Ap σ x) (Ap σ i)
 | _=>none
def Pk:AV->Bool
 | .ag _=>false
 | _=>true
def Kk (st:Bool) (fs:List AV) (v:AV):List Nat->Option (List AV)
 | []=>if st then match v with
   | .p (.agg u) d=>some (pfs u d)
   | .ag l=>some l
   | _=>none
  else if Pk v then some [v] else none
 | [k]=>if st&&Pk v then some (fs.set k v) else none
 | k :: r=>if st then match fs[k]?,v with
   | some (.p t d),.p u x=>(VI r t d ⟨u,x⟩).map λy=>fs.set k (.p t y)
   | _,_=>none
  else none
abbrev DD:=Option (Prop×St)
def FA (σ:St) (n:Nat) (et:TypeId) (st:Bool) (ty:Ty) (fs:List AV) (b:List Nat) (off:Nat) (v:AV):Option AV->Option (List AV)->DD
 | some u,some a=>if Nn ty u=true/\CT ty v=true/\Pg fs b=some off/\a.map AV.cells=fs.map AV.cells then some (True,⟨σ.env,upd n (.box et st a) σ.objs⟩) else none
 | _,_=>none
def DY (σ:St) (n:Nat) (ty:Ty) (a:List Nat) (off:Nat) (v:AV):Option Obj->DD
 | some (.box et st fs)=>FA σ n et st ty fs a off v (Jq st fs a) (Kk st fs v a)
 | _=>none
def Fs (σ:St) (n:Nat) (et:TypeId) (e:Ty) (i:Nat) (a:List Nat) (off:Nat) (ys:List e.den):Option e.den->DD
 | some z=>if Lj a e=some off then some (True,⟨σ.env,upd n (.arr et e (ys.set i z)) σ.objs⟩) else none
 | none=>none
def Eg (σ:St) (n:Nat) (et:TypeId) (ty e:Ty) (i:Nat) (a:List Nat) (off:Nat):Option (List e.den)->Option ty.den->DD
 | some ys,some w=>Fs σ n et e i a off ys (VI a e (ys.getD i e.dflt) ⟨ty,w⟩)
 | _,_=>none
def Nr (σ:St) (d n:Nat) (et a:TypeId) (k e:Ty) (xs:List (k.den×List e.den)) (i bytes:Nat):Option (List e.den)->DD
 | some ys=>if (lk d σ.objs).isNone=true/\ys.isEmpty=false then some (((xs.getD i (k.dflt,[])).2.length+ys.length)*bytes<=AO,
   ⟨(d,.sr d e 0 ((xs.getD i (k.dflt,[])).2.length+ys.length)) :: E3 n [] σ.env,(d,.arr a e ((xs.getD i (k.dflt,[])).2++ys)) :: (n,.nest et a k e xs (some i)) :: DI n [] σ.objs⟩) else none
 | none=>none
def S9 (σ:St) (d n:Nat) (el:TypeId) (b:Ty) (i:Nat) (v:AV):Option TI->Option Obj->DD
 | some ti,some (.nest et a k e xs none)=>if b=e/\a=el/\Gr n=false then Nr σ d n et a k e xs i ti.bytes (Pf σ e v) else none
 | _,_=>none
def Pl (tb:Tb) (σ:St) (d n:Nat) (a:Ty) (i:Nat) (v:AV):Option TI->DD
 | some ⟨.slice e,_,el,_⟩=>if a=e then S9 σ d n el e i v (lk el tb.ty) (lk n σ.objs) else none
 | _=>none
def Kl (σ:St) (n m:Nat) (et a:TypeId) (k e:Ty) (xs:List (k.den×List e.den)) (i hi:Nat):Option (List e.den)->DD
 | some ys=>some (hi=ys.length,⟨E3 n [m] σ.env,(n,.nest et a k e (xs.set i ((xs.getD i (k.dflt,[])).1,ys)) none) :: DI n [m] σ.objs⟩)
 | none=>none
def Lo (σ:St) (n m:Nat) (et a:TypeId) (k e:Ty) (xs:List (k.den×List e.den)) (i hi:Nat):Option Obj->DD
 | some (.arr b e2 ys)=>if b=a/\Gr m=false/\Gr n=false then Kl σ n m et a k e xs i hi (BO (.slice e) ⟨.slice e2,ys⟩) else none
 | _=>none
def Km (σ:St) (d n m:Nat) (et b:TypeId) (k e:Ty) (hi a bytes:Nat) (xs:List (k.den×List e.den)):Option (List (k.den×List e.den))->DD
 | some ys=>some (hi=xs.length/\a=ys.length/\(xs.length+ys.length)*bytes<=AO,
   ⟨(d,.sr n (.agg (.prod k (.slice e))) 0 (xs.length+ys.length)) :: CN [n,m] σ.env,(n,.nest et b k e (xs++ys) none) :: Ar [n,m] [n,m] σ.objs⟩)
 | none=>none
def Lp (σ:St) (d n m:Nat) (et a:TypeId) (k e:Ty) (hi c bytes:Nat) (xs:List (k.den×List e.den)):Option Obj->DD
 | some (.nest _ f g b ys none)=>if f=a/\n≠m/\Gr m=false then Km σ d n m et a k e hi c bytes xs (BO (.slice (.agg (.prod k (.slice e)))) ⟨.slice (.agg (.prod g (.slice b))),ys⟩) else none
 | _=>none
def TA (σ:St) (d n:Nat) (et b:TypeId) (k e:Ty) (hi bytes:Nat) (xs:List (k.den×List e.den)):AV->DD
 | .sr m _ 0 a=>Lp σ d n m et b k e hi a bytes xs (lk m σ.objs)
 | _=>none
def Pm (σ:St) (d m:Nat) (el b:TypeId) (k e:Ty) (ys:List (k.den×List e.den)) (a bytes:Nat):DD :=
 if (lk d σ.objs).isNone=true/\Gr m=false then some (a=ys.length/\ys.length*bytes<=AO,
  ⟨(d,.sr d (.agg (.prod k (.slice e))) 0 ys.length) :: CN [m] σ.env,(d,.nest el b k e ys none) :: Ar [m] [m] σ.objs⟩) else none
def Pn (σ:St) (d m:Nat) (el:TypeId) (t:Ty) (a:Nat):Option TI->Option Obj->DD
 | some ti,some (.nest _ b k e ys none)=>if t=.agg (.prod k (.slice e)) then Pm σ d m el b k e ys a ti.bytes else none
 | _,_=>none
def Z7 (tb:Tb) (σ:St) (d:Nat):AV->Option TI->DD
 | .sr m _ 0 a,some ⟨.slice t,_,el,_⟩=>Pn σ d m el t a (lk el tb.ty) (lk m σ.objs)
 | _,_=>none
def Lq (σ:St) (n m:Nat) (ty:Ty) (et a:TypeId) (k e:Ty) (xs:List (k.den×List e.den)) (i hi:Nat) (b:List Nat) (off:Nat):DD :=
 if ty=.slice e/\b=[1]/\off=k.size then Lo σ n m et a k e xs i hi (lk m σ.objs) else none
def DZ (σ:St) (n:Nat) (ty e:Ty) (i:Nat) (b:List Nat) (off:Nat) (v:AV):Option Obj->DD
 | some (.arr et a xs)=>Eg σ n et ty e i b off (BO (.slice e) ⟨.slice a,xs⟩) (Mx false σ ty v)
 | some (.nest et c k a xs (some j))=>match v with
  | .sr m E 0 hi=>if e=.agg (.prod k (.slice a))/\i=j/\E=a then Lq σ n m ty et c k a xs i hi b off else none
  | _=>none
 | _=>none
def Hv (σ:St):Option TI->Option AV->Option AV->DD
 | some ti,some (.bp n a off),some v=>DY σ n ti.ty a off v (lk n σ.objs)
 | some ti,some (.ep n e i a off),some v=>DZ σ n ti.ty e i a off v (lk n σ.objs)
 | _,_,_=>none
def FB (σ:St) (d n:Nat) (et:TypeId) (e:Ty) (hi:Nat) (bytes:Nat):Option (List e.den)->Option (List e.den)->DD
 | some a,some ys=>some ((hi+ys.length)*bytes<=AO,⟨(d,.sr n e 0 (hi+ys.length)) :: Fj n σ.env,upd n (.arr et e (a.take hi++ys)) (Bb n σ.objs)⟩)
 | _,_=>none
def Ce (σ:St) (d n:Nat) (el:TypeId) (e:Ty) (hi:Nat) (v:AV) (ys:Option (List e.den)):Option TI->Option Obj->DD
 | some ti,some (.arr et a xs)=>if et=el then FB σ d n et e hi ti.bytes (BO (.slice e) ⟨.slice a,xs⟩) ys else none
 | some ti,some (.nest et b k a xs none)=>if et=el/\e=.agg (.prod k (.slice a)) then TA σ d n et b k a hi ti.bytes xs v else none
 | _,_=>none
def Eh (tb:Tb) (σ:St) (d:Nat) (n:Nat) (a:Ty) (hi:Nat) (v:AV):Option TI->DD
 | some ⟨.slice e,_,el,_⟩=>if e=a then Ce σ d n el e hi v (Pf σ e v) (lk el tb.ty) (lk n σ.objs) else none
 | _=>none
def EX (tb:Tb) (σ:St) (d:Option Nat) (t u:TypeId):Option AV->Option AV->DD
 | some (.sr n e 0 hi),some v=>match d with
  | some d=>if t=u/\Gr n=false then Eh tb σ d n e hi v (lk t tb.ty) else none
  | none=>none
 | some (.nin n e i _),some v=>match d with
  | some d=>if t=u then Pl tb σ d n e i v (lk t tb.ty) else none
  | none=>none
 | some (.raw (.slice none 0 0)),some v=>match d with
  | some d=>if t=u then Z7 tb σ d v (lk t tb.ty) else none
  | none=>none
 | _,_=>none
def Ei (tb:Tb) (σ:St) (d:Option Nat):Builtin->List Operand->List TypeId->DD
 | .append,[x,y],[t,u]=>EX tb σ d t u (Ap σ x) (Ap σ y)
 | _,_,_=>none
def Dt (tb:Tb) (σ:St) (d:Option Nat) (xs:List Operand) (ts:List TypeId):Callee->DD
 | .builtin b=>Ei tb σ d b xs ts
 | _=>none
def Gq (σ:St) (n:Nat) (a b:Ty) (l:List (a.den×b.den)):Option a.den->Option b.den->DD
 | some k,some v=>if YE a=true then some (True,⟨σ.env,upd n (.mapo a b (Fl a b k v l)) σ.objs⟩) else none
 | _,_=>none
def Ft (tb:Tb) (σ:St) (n:Nat) (b:Nat) (x y:AV):Option Obj->DD
 | some (.mapo a c l)=>if (lk b tb.ty).map TI.ty=some a/\(lk b tb.ty).map TI.el=some 0 then Gq σ n a c l (Mx false σ a x) (Mx false σ c y) else none
 | _=>none
def Kn (tb:Tb) (σ:St):Option TI->Option AV->Option AV->Option AV->DD
 | some ⟨.ref 2,[(k,_)],_,_⟩,some (.mp n),some x,some y=>Ft tb σ n k x y (lk n σ.objs)
 | _,_,_,_=>none
def Du (r:DD):Option Nat->DD
 | none=>r
 | some _=>none
def HT (tb:Tb) (σ:St) (d:Option Nat):Op->DD
 | .store t x y=>Du (Hv σ (lk t tb.ty) (Ap σ x) (Ap σ y)) d
 | .mapUpdate t m x y=>Du (Kn tb σ (lk t tb.ty) (Ap σ m) (Ap σ x) (Ap σ y)) d
 | .call c=>Dt tb σ d c.args.toList c.argTypes.toList c.callee
 | _=>none
def St.add (σ:St) (v:AV) (obs:List (Nat×Obj)):Option Nat->St
 | some d=>⟨(d,v) :: σ.env,obs++σ.objs⟩
 | none=>⟨σ.env,obs++σ.objs⟩
def My:Option AV->List Nat
 | some v=>v.names
 | none=>[]
def DS (σ:St):List (Nat×Operand)->List Nat
 | []=>[]
 | (_,x) :: r=>My (Ap σ x)++DS σ r
def Mz:Option AV->List Nat
 | some (.ag l)=>AV.namess l
 | _=>[]
def FC (σ:St):List (Nat×Operand)->List Nat
 | []=>[]
 | (_,x) :: r=>Mz (Ap σ x)++FC σ r
def CY (σ:St):Option AV->Option AV->List Nat
 | some (.ep n _ _ _ _),some v=>if Co (lk n σ.objs)=true then [] else v.names
 | _,_=>[]
def Jt:Option AV->Option AV->Option AV->List Nat
 | some (.mp _),some v,some u=>v.names++u.names
 | _,_,_=>[]
def DJ (σ:St):Op->List Nat
 | .buildSlice _ _ parts=>DS σ parts.toList
 | .build _ parts=>FC σ parts.toList
 | .store _ x y=>CY σ (Ap σ x) (Ap σ y)
 | .mapUpdate _ m x y=>Jt (Ap σ m) (Ap σ x) (Ap σ y)
 | _=>[]
def DG:List Nat->St->St
 | [],σ=>σ
 | n :: r,σ=>DG r (frz n σ)
def Bd (obs:List (Nat×Obj)) (σ:St):Bool:=obs.all λp=>(lk p.1 σ.objs).isNone
def Ns (tb:Tb) (σ:St) (o:Oper):BU->DD
 | some (vc,v,obs)=>if Bd obs σ=true then some (vc,σ.add v obs o.dst) else none
 | none=>HT tb σ o.dst o.op
def TB (tb:Tb) (o:Oper) (σ:St):DD:=Ns tb σ o (aq tb σ (o.dst.getD 0) o.op)
def Hw (tb:Tb) (o:Oper) (σ:St):DD:=TB tb o (DG (DJ σ o.op) σ)
def Rl (a:Bool):Option AV->Option Bool
 | some (.p .bool b)=>some (b==a)
 | _=>none
def Ko (σ:St) (a:Bool):Option Tmp->Option Bool
 | some g=>Rl a (lk g σ.env)
 | none=>none
def Er (ops:List Oper) (σ:St):Option (Nat×Bool)->Option Bool
 | none=>some true
 | some (j,a)=>Ko σ a ((ops[j]?).bind (·.dst))
def YA (vc:Prop):DD->DD
 | some (a,σ)=>some (vc/\a,σ)
 | none=>none
mutual
def Bn (tb:Tb) (ops:List Oper):List Oper->St->DD
 | [],σ=>some (True,σ)
 | o :: r,σ=>evG tb ops o r σ (Er ops σ o.guard)
def evG (tb:Tb) (ops:List Oper) (o:Oper) (r:List Oper) (σ:St):Option Bool->DD
 | some true=>evK tb ops r (Hw tb o σ)
 | some false=>Bn tb ops r (σ.add (.raw undef) [] o.dst)
 | none=>none
def evK (tb:Tb) (ops:List Oper) (r:List Oper):DD->DD
 | some (vc,σ)=>YA vc (Bn tb ops r σ)
 | none=>none
end
end
section
open Go Go.RowKit
theorem CK {w:World} {b:Nat} {o:_root_.Go.Obj} (h:w.heap[b]?=some o):b<w.heap.size:=by grind
def blk:Value->Option Nat
 | .slice (some a) _ _=>some a.block
 | .pointer (some a)=>some a.block
 | .map (some b)=>some b
 | _=>none
def bk (v:Value) (b:Nat):Prop:=blk v=some b\/∃a:Array Value,v=.tuple a/\∃x∈a.toList,blk x=some b
theorem Lr {a:Option Addr} {m c b:Nat}:bk (.slice a m c) b↔blk (.slice a m c)=some b:=by
 constructor
 .intro h;rcases h with h|⟨_,h,_⟩
  .exact h
  cases h
 exact .inl
def plc:Value->Value
 | .tuple a=>a.getD 0 undef
 | v=>v
def DT (loc:Value) (sz lo hi:Nat) (v:Value):Prop :=
 ∃(a:Option Addr) (m c:Nat),loc=.slice a m c/\lo<=hi/\hi<=m/\∃(b:Option Addr) (d:Nat),v=.slice b (hi-lo) d/\hi-lo<=d/\(lo=0->b=a/\d=c)/\(lo<hi->b=a.map (·.add (lo*sz)))
structure Vw where
 w:World
 
 O:Nat->Prop
 
 L:Nat->Prop
 
 ρ:Nat->Value
def Lay (u v:Value):Prop:=v=u\/(u=.slice none 0 0/\∃a:Option Addr,v=.slice a 0 0)
def VL (V:Vw):AV->Value->Prop
 | .p t d,v=>BR V.w V.O t v d
 | .pc e d,v=>BR V.w V.O (.slice e) v d/\∃a:Option Addr,v=.slice a (List.length d) (List.length d)
 | .raw u,v=>v=u
 | .sr n e lo hi,v=>V.L n/\DT (plc (V.ρ n)) e.size lo hi v
 | .ep n e i _ off,v=>V.L n/\∃g m c:Nat,plc (V.ρ n)=.slice (some ⟨g,0,none⟩) m c/\i<m/\v=.pointer (some ⟨g,i*e.size+off,none⟩)
 | .nin n _ i len,v=>V.L n/\∃(h:Array Value) (a:Option Addr) (c:Nat) (u:Value),V.ρ n=.tuple h/\h[i+1]?=some u/\Lay u v/\v=.slice a len c
 | .ip t d,v=>∃(ad:Addr) (cs:List Value),v=.pointer (some ad)/\¬V.O ad.block/\(∀(j:Nat) (u:Value),cs[j]?=some u->V.w.cell? (ad.add j)=some u)/\B0 V.w V.O t cs d
 | .bp n _ off,v=>V.L n/\∃b:Nat,V.ρ n=.pointer (some ⟨b,0,none⟩)/\v=.pointer (some ⟨b,off,none⟩)
 | .fn f,v=>v=.func (.func f) #[] #[]
 | .clo f ns,v=>v=.func (.func f) #[] (ns.map V.ρ).toArray/\∀n∈ns,V.L n/\∃b:Nat,V.ρ n=.pointer (some ⟨b,0,none⟩)
 | .mp n,v=>V.L n/\∃b:Nat,V.ρ n=.map (some b)/\v=.map (some b)
 | .yl n,v=>V.L n/\∃b:Nat,V.ρ n=.pointer (some ⟨b,0,none⟩)/\v=.func (.yield b) #[] #[]
 | .top,_=>True
 | .ag _,_=>False
 | .tup _,_=>False
def Ng (V:Vw):AV->List Value->Prop
 | .p t d,cs=>B0 V.w V.O t cs d
 | av,cs=>∃v,cs=[v]/\v.oneCell'=true/\VL V av v
def Dc (V:Vw):List AV->List Value->Prop
 | [],cs=>cs=[]
 | x :: r,cs=>∃c1 c2:List Value,cs=c1++c2/\Ng V x c1/\Dc V r c2
def TC (V:Vw):AV->Value->Prop
 | .ag l,v=>∃cs:List Value,v=.agg cs.toArray/\Dc V l cs
 | x,v=>VL V x v
def Hx (V:Vw):List AV->List Value->Prop
 | [],a=>a=[]
 | x :: r,a=>∃(v:Value) (l:List Value),a=v :: l/\TC V x v/\Hx V r l
theorem TC.of1 {V:Vw} {x:AV} {v:Value} (h:VL V x v):TC V x v:=by
 cases x;case ag l=>exact h.elim
 all_goals exact h
def B3 (V:Vw):AV->Value->Prop
 | .ag l,v=>∃cs:List Value,v=.agg cs.toArray/\Dc V l cs
 | .tup l,v=>∃a:List Value,v=.tuple a.toArray/\Hx V l a
 | av,v=>VL V av v
theorem A1N {V:Vw} {x:AV} {v:Value} (h:TC V x v):B3 V x v:=by
 cases x;case tup l=>exact(show False from h).elim
 all_goals exact h
def Dm (w:World) (O:Nat->Prop) (e:Ty) (cells:List Value) (xs:List e.den):Prop :=
 ∀(i:Nat) (x:e.den),xs[i]?=some x->∃a:List Value,a.length=e.size/\(∀(j:Nat) (u:Value),a[j]?=some u->cells[i*e.size+j]?=some u)/\B0 w O e a x
def OP (w:World) (O:Nat->Prop) (k v:Ty):List MapEntry->List (k.den×v.den)->Prop
 | [],[]=>True
 | e :: a,x :: xs=>BR w O k e.key x.1/\BR w O v e.val x.2/\OP w O k v a xs
 | _,_=>False
def Z8 (a:Array MapEntry) (clock:Nat):Prop:=(a.toList.map (·.born)).Nodup/\∀b∈a.toList.map (·.born),b<clock
def Rm (V:Vw) (et:TypeId) (e:Ty) (xs:List e.den) (loc:Value):Prop:=xs.length<=AO/\∃cells:List Value,V.w.ownsRow 0 et e.size loc xs.length cells/\Dm V.w V.O e cells xs
def Z9 (V:Vw) (a:TypeId) (k e:Ty) (hole:Bool) (cells:List Value) (i:Nat) (x:k.den×List e.den) (u:Value):Prop :=
 ∃(c1:List Value) (v:Value),(∀(j:Nat) (z:Value),(c1++[v])[j]?=some z->cells[i*(k.size+1)+j]?=some z)/\B0 V.w V.O k c1 x.1 /\
  ((hole=true/\u=.slice none 0 0)\/(hole=false/\Lay u v/\Rm V a e x.2 u))
structure LT (V:Vw) (et iet:TypeId) (k e:Ty) (xs:List (k.den×List e.den)) (h:Option Nat) (o:Value) (ins:List Value) (cells:List Value):Prop where
 max:xs.length<=AO
 len:ins.length=xs.length
 own:V.w.ownsRow 0 et (k.size+1) o xs.length cells
 row:∀(i:Nat) (x:k.den×List e.den) (u:Value),xs[i]?=some x->ins[i]?=some u->Z9 V iet k e (h==some i) cells i x u
 dist:∀(i j b:Nat) (u v:Value),ins[i]?=some u->ins[j]?=some v->blk u=some b->blk v=some b->i=j
 out:∀(i b:Nat) (u:Value),ins[i]?=some u->blk u=some b->blk o≠some b
def Shp (loc o:Value) (ins:List Value):Prop:=loc=.tuple (o :: ins).toArray\/(loc=.slice none 0 0/\o=.slice none 0 0/\ins=[])
def ADG (V:Vw) (k v:Ty) (l:List (k.den×v.den)) (left:List Nat) (d:Option Nat) (r:Nat):Prop :=
 ∃(b:Nat) (a:Array MapEntry) (clock c:Nat) (seen:Array Nat),V.w.heap[r]?=some (.mapIter (some b) c seen clock)/\¬V.O b/\V.w.heap[b]?=some (.map a clock)/\OP V.w V.O k v a.toList l/\Z8 a clock /\
  (∀s∈a.toList.map (·.born),s<c)/\c<=clock/\left.Nodup/\(∀i,i∈left↔∃e,a[i]?=some e/\e.born∉seen)/\(∀i,d=some i->∃e,a[i]?=some e/\seen.back?=some e.born)
def A3 (V:Vw):Obj->Value->Prop
 | .arr et e xs,loc=>Rm V et e xs loc
 | .nest et d k e xs h,loc=>∃(o:Value) (ins cells:List Value),Shp loc o ins/\LT V et d k e xs h o ins cells
 | .box et st fs,loc=>(st=false->fs.length=1)/\∃(b:Nat) (cs:List Value),loc=.pointer (some ⟨b,0,none⟩)/\V.w.heap[b]?=some (.cells cs.toArray et (0,0))/\Dc V fs cs
 | .mapo k v l,loc=>∃(b:Nat) (a:Array MapEntry) (clock:Nat),loc=.map (some b)/\V.w.heap[b]?=some (.map a clock)/\OP V.w V.O k v a.toList l/\Z8 a clock
 | .frame f fs,loc=>loc=.pointer none/\∀s x,lk s fs=some x->B3 V x (f.getD s undef)
 | .itr k v l left c,loc=>∃r:Nat,loc=.pointer (some ⟨r,0,none⟩)/\ADG V k v l left c r
 | .loop L,loc=>∃b:Nat,loc=.pointer (some ⟨b,0,none⟩)/\V.w.heap[b]?=some (.loop L)
 | .dfr,loc=>∃b:Nat,loc=.pointer (some ⟨b,0,none⟩)/\V.w.heap[b]?=some (.deferred (some []))
structure Frm (K:Nat->Prop) (w0 w:World):Prop where
 os:w.os=w0.os
 tape:w.tape=w0.tape
 output:w.output=w0.output
 size:w0.heap.size<=w.heap.size
 block:∀k,K k->w.heap[k]?=w0.heap[k]?
def HG (σ:St) (n:Nat):Prop:=∃o,lk n σ.objs=some o
def own (O0:Nat->Prop) (σ:St) (ρ:Nat->Value) (b:Nat):Prop:=O0 b\/∃n,HG σ n/\bk (ρ n) b
def vw (w:World) (O0:Nat->Prop) (σ:St) (ρ:Nat->Value):Vw:=⟨w,own O0 σ ρ,HG σ,ρ⟩
def A97:Value->Bool
 | .slice _ _ _=>false
 | .tuple _=>false
 | _=>true
structure Fp where
 ds:List Deferred:=[]
 pin:List (Nat×Value):=[]
structure B9 (w0:World) (K O0:Nat->Prop) (nt:Nat) (ds:Fp) (σ:St) (ρ:Nat->Value) (a:Act) (w:World):Prop where
 frm:Frm K w0 w
 nt:a.tmps.size=nt
 defers:a.defers=ds.ds
 pin:∀p∈ds.pin,HG σ p.1/\ρ p.1=p.2/\(A97 p.2=true\/Gr p.1=true)
 objs:∀n o,lk n σ.objs=some o->A3 (vw w O0 σ ρ) o (ρ n)
 free:∀n b,HG σ n->bk (ρ n) b->¬K b/\¬O0 b
 dist:∀n m b,HG σ n->HG σ m->bk (ρ n) b->bk (ρ m) b->n=m
 env:∀s v,lk s σ.env=some v->B3 (vw w O0 σ ρ) v (a.tmps.getD s undef)
structure Cq (V V':Vw):Prop where
 O:∀b,b<V.w.heap.size->¬V.O b->¬V'.O b
 L:∀n,V.L n->V'.L n
 ρ:∀n,V.L n->V'.ρ n=V.ρ n
 heap:∀b,b<V.w.heap.size->¬V.O b->V'.w.heap[b]?=V.w.heap[b]?
theorem VL.keeps {V V':Vw} (h:Cq V V'):∀ {x:AV} {v:Value},VL V x v->VL V' x v
 | .p _ _,_,hx=>BR.mono h.O h.heap hx
 | .pc _ _,_,hx=>⟨BR.mono h.O h.heap hx.1,hx.2⟩
 | .raw _,_,hx=>hx
 | .sr n e lo hi,_,⟨a,hs⟩=>⟨h.L n a,by rw[h.ρ n a];exact hs⟩
 | .ep n e i _ off,_,⟨a,hs⟩=>⟨h.L n a,by rw[h.ρ n a];exact hs⟩
 | .nin n _ i len,_,⟨a,hs⟩=>⟨h.L n a,by rw[h.ρ n a];exact hs⟩
 | .ip t d,_,⟨ad,cs,b,c,g,l⟩=>by
  have k:ad.block<V.w.heap.size:=by
   have hp:=t.size_pos;have hl:=l.length;have:=block_lt_of_cell (g 0 (cs[0]'(by omega)) (AT (by omega)))
   rwa [CJ]at this
  refine⟨ad,cs,b,h.O _ k c,λj u m=>?_,B0.mono h.O h.heap l⟩;rw[AF7 (w:=V.w) (w':=V'.w)]
  .exact g j u m
  rw[CJ];exact h.heap _ k c
 | .bp n _ off,_,⟨a,hs⟩=>⟨h.L n a,by rw[h.ρ n a];exact hs⟩
 | .fn _,_,hx=>hx
 | .clo f ns,_,⟨b,hs⟩=>by
  refine⟨?_,λn hn=>⟨h.L n (hs n hn).1,by rw[h.ρ n (hs n hn).1];exact(hs n hn).2⟩⟩;rw[b]
  congr 2
  exact RI λn hn=>(h.ρ n (hs n hn).1).symm
 | .mp n,_,⟨a,hs⟩=>⟨h.L n a,by rw[h.ρ n a];exact hs⟩
 | .yl n,_,⟨a,hs⟩=>⟨h.L n a,by rw[h.ρ n a];exact hs⟩
 | .top,_,_=>trivial
 | .ag _,_,hx=>hx
 | .tup _,_,hx=>hx
theorem Ng.keeps {V V':Vw} (h:Cq V V') {x:AV} {cs:List Value} (hx:Ng V x cs):Ng V' x cs:=by
 cases x;case p t d=>exact(B0.mono h.O h.heap hx:B0 V'.w V'.O t cs d)
 all_goals
  obtain⟨v,h1,a,b⟩:=hx;exact⟨v,h1,a,b.keeps h⟩
theorem Dc.keeps {V V':Vw} (h:Cq V V'):∀ {l:List AV} {cs:List Value},Dc V l cs->Dc V' l cs
 | [],_,hx=>hx
 | _ :: _,_,⟨c1,c2,e,h1,a⟩=>⟨c1,c2,e,h1.keeps h,a.keeps h⟩
theorem TC.keeps {V V':Vw} (h:Cq V V') {x:AV} {v:Value} (hx:TC V x v):TC V' x v:=by
 cases x;case ag l=>obtain⟨cs,h1,a⟩:=hx;exact⟨cs,h1,a.keeps h⟩
 all_goals exact TC.of1 (VL.keeps h hx)
theorem Hx.keeps {V V':Vw} (h:Cq V V'):∀ {l:List AV} {a:List Value},Hx V l a->Hx V' l a
 | [],_,hx=>hx
 | _ :: _,_,⟨v,l,e,h1,b⟩=>⟨v,l,e,h1.keeps h,b.keeps h⟩
theorem B3.keeps {V V':Vw} (h:Cq V V') {x:AV} {v:Value} (hx:B3 V x v):B3 V' x v:=by
 cases x;case ag l=>obtain⟨cs,h1,a⟩:=hx;exact⟨cs,h1,a.keeps h⟩
 case tup l=>obtain⟨cs,h1,a⟩:=hx;exact⟨cs,h1,a.keeps h⟩
 all_goals
  simp only[B3]at hx ⊢;exact VL.keeps h hx
theorem Dm.keeps {V V':Vw} (h:Cq V V') {e:Ty} {cells:List Value} {xs:List e.den} (hx:Dm V.w V.O e cells xs):Dm V'.w V'.O e cells xs:=λi x hi =>
 let ⟨a,h1,b,c⟩:=hx i x hi
 ⟨a,h1,b,B0.mono h.O h.heap c⟩
theorem OP.mono {w w':World} {O O':Nat->Prop} (a:∀b,b<w.heap.size->¬O b->¬O' b) (c:∀b,b<w.heap.size->¬O b->w'.heap[b]?=w.heap[b]?) {k v:Ty} :
  ∀ {d:List MapEntry} {l:List (k.den×v.den)},OP w O k v d l->OP w' O' k v d l
 | [],[],h=>h
 | [],_ :: _,h=>h.elim
 | _ :: _,[],h=>h.elim
 | _ :: _,_ :: _,⟨h1,e,f⟩=>⟨h1.mono a c,e.mono a c,f.mono a c⟩
theorem JW {w w':World} {et:TypeId} {sz n:Nat} {loc:Value} {cells:List Value} (d:∀b,blk loc=some b->w'.heap[b]?=w.heap[b]?) (h:w.ownsRow 0 et sz loc n cells):w'.ownsRow 0 et sz loc n cells:=by
 obtain⟨h1,a⟩:=h;refine⟨h1,?_⟩;rcases a with a|⟨g,cap,c,rfl,e,f,i⟩
 .exact .inl a
 exact .inr ⟨g,cap,c,rfl,e,(d g rfl).trans f,i⟩
theorem Rm.keeps {V V':Vw} (h:Cq V V') {et:TypeId} {e:Ty} {xs:List e.den} {loc:Value} (a:∀b,blk loc=some b->V'.w.heap[b]?=V.w.heap[b]?) (hx:Rm V et e xs loc):Rm V' et e xs loc:=by
 obtain⟨d,cells,h1,c⟩:=hx;exact⟨d,cells,JW a h1,c.keeps h⟩
theorem Z9.keeps {V V':Vw} (h:Cq V V') {c:TypeId} {k e:Ty} {hole:Bool} {cells:List Value} {i:Nat} {x:k.den×List e.den} {u:Value} (j:∀b,blk u=some b->V'.w.heap[b]?=V.w.heap[b]?) (hx:Z9 V c k e hole cells i x u):Z9 V' c k e hole cells i x u:=by
 obtain⟨c1,v,h1,d,a⟩:=hx;refine⟨c1,v,h1,B0.mono h.O h.heap d,?_⟩;rcases a with a|⟨a,f,g⟩
 .exact .inl a
 exact .inr ⟨a,f,g.keeps h j⟩
theorem A7 {o:Value} {ins:List Value} {b:Nat}:bk (.tuple (o :: ins).toArray) b↔blk o=some b\/∃(i:Nat) (u:Value),ins[i]?=some u/\blk u=some b:=by
 constructor
 .rintro (h|⟨c,h,x,hx,a⟩)
  .cases h
  injection h with h
  subst h;simp only[DO]at hx;rcases hx with rfl|hx
  .exact .inl a
  obtain⟨i,hi⟩:=List.getElem?_of_mem hx;exact .inr ⟨i,x,hi,a⟩
 rintro (h|⟨i,u,hi,a⟩)
 .exact .inr ⟨_,rfl,o,by simp,h⟩
 exact .inr ⟨_,rfl,u,by simp[oF hi],a⟩
theorem Shp.bk {loc o:Value} {ins:List Value} {b:Nat} (h:Shp loc o ins):bk loc b↔bk (.tuple (o :: ins).toArray) b:=by
 rcases h with rfl|⟨rfl,rfl,rfl⟩
 .exact Iff.rfl
 grind [A7,Lr,blk]
theorem Shp.plc {loc o:Value} {ins:List Value} (h:Shp loc o ins):plc loc=o:=by
 rcases h with rfl|⟨rfl,rfl,rfl⟩<;>rfl
theorem Shp.tup {loc o:Value} {ins:List Value} {a:Array Value} (h:Shp loc o ins) (b:loc=.tuple a):a=(o :: ins).toArray:=by
 subst b;rcases h with h|⟨h,_⟩
 .injection h
 cases h
theorem LT.keeps {V V':Vw} (h:Cq V V') {et d:TypeId} {k e:Ty} {xs:List (k.den×List e.den)} {hl:Option Nat} {o:Value} {ins cells:List Value} (c:∀b,bk (.tuple (o :: ins).toArray) b->V'.w.heap[b]?=V.w.heap[b]?) (hx:LT V et d k e xs hl o ins cells):LT V' et d k e xs hl o ins cells :=
 ⟨hx.max,hx.len,JW (λb h1=>c b (A7.2 (.inl h1))) hx.own,λi x u h1 a=>(hx.row i x u h1 a).keeps h (λb f=>c b (A7.2 (.inr ⟨i,u,a,f⟩))),hx.dist,hx.out⟩
theorem VM {w:World} {et:TypeId} {sz n b:Nat} {loc:Value} {cells:List Value} (h:w.ownsRow 0 et sz loc n cells) (a:blk loc=some b):b<w.heap.size:=by
 rcases h.2 with ⟨rfl,_⟩|⟨g,cap,c,rfl,d,e,f⟩
 .simp[blk]at a
 grind [blk,CK]
theorem LT.block_lt {V:Vw} {et f:TypeId} {k e:Ty} {xs:List (k.den×List e.den)} {hl:Option Nat} {o:Value} {ins cells:List Value} (hx:LT V et f k e xs hl o ins cells) {b:Nat} (d:bk (.tuple (o :: ins).toArray) b):b<V.w.heap.size:=by
 rcases A7.1 d with h1|⟨i,u,h1,c⟩
 .exact VM hx.own h1
 have hi:i<xs.length:=by have:=(RF.1 h1).1;rw[hx.len]at this;exact this
 obtain⟨c1,v,_,_,a⟩:=hx.row i xs[i] u (AT hi) h1;rcases a with ⟨_,a⟩|⟨_,_,_,g,a,_⟩
 .rw[a]at c;simp[blk]at c
 exact VM a c
theorem A3.keeps {V V':Vw} (h:Cq V V') {o:Obj} {loc:Value} (c:∀b,bk loc b->V'.w.heap[b]?=V.w.heap[b]?) (hx:A3 V o loc):A3 V' o loc:=by
 cases o with
 | arr et e xs =>
  obtain⟨B,cells,⟨h1,a⟩,A⟩:=hx;refine⟨B,cells,⟨h1,?_⟩,A.keeps h⟩;rcases a with a|⟨g,cap,f,rfl,D,E,F⟩
  .exact .inl a
  exact .inr ⟨g,cap,f,rfl,D,(c g (.inl rfl)).trans E,F⟩
 | box et st fs =>
  obtain⟨h0,b,cs,rfl,h1,a⟩:=hx;exact⟨h0,b,cs,rfl,(c b (.inl rfl)).trans h1,a.keeps h⟩
 | nest et I k e xs hl =>
  obtain⟨o,ins,cells,hs,h1⟩:=hx;exact⟨o,ins,cells,hs,h1.keeps h λb z=>c b (hs.bk.2 z)⟩
 | mapo k v l =>
  obtain⟨b,j,cl,rfl,h1,a,d⟩:=hx;exact⟨b,j,cl,rfl,(c b (.inl rfl)).trans h1,a.mono h.O h.heap,d⟩
 | frame J fs =>
  obtain⟨h0,h1⟩:=hx;exact⟨h0,λs x hs=>(h1 s x hs).keeps h⟩
 | itr k v l left f =>
  obtain⟨r,rfl,b,C,cl,H,G,h1,a,d,n,p,q,t,u,y,m⟩:=hx;have i:=CK d;exact⟨r,rfl,b,C,cl,H,G,(c r (.inl rfl)).trans h1,h.O b i a,(h.heap b i a).trans d,n.mono h.O h.heap,p,q,t,u,y,m⟩
 | loop L =>
  obtain⟨b,rfl,h1⟩:=hx;exact⟨b,rfl,(c b (.inl rfl)).trans h1⟩
 | dfr =>
  obtain⟨b,rfl,h1⟩:=hx;exact⟨b,rfl,(c b (.inl rfl)).trans h1⟩
theorem A3.block_lt {V:Vw} {o:Obj} {loc:Value} (hx:A3 V o loc) {b:Nat} (a:bk loc b):b<V.w.heap.size:=by
 cases o with
 | arr et e xs =>
  obtain⟨i,cells,⟨h1,c⟩,h⟩:=hx;rcases c with ⟨rfl,_⟩|⟨g,cap,d,rfl,n,p,q⟩
  .simp[bk,blk]at a
  grind [bk,blk,CK]
 | box et st fs =>
  obtain⟨h0,b',cs,rfl,h1,c⟩:=hx;simp[bk,blk]at a;subst a;exact CK h1
 | nest et j k e xs hl =>
  obtain⟨o,ins,cells,hs,h1⟩:=hx;exact h1.block_lt (hs.bk.1 a)
 | mapo k v l =>
  obtain⟨b',f,cl,rfl,h1,c⟩:=hx;simp[bk,blk]at a;subst a;exact CK h1
 | frame u fs =>
  obtain⟨rfl,h1⟩:=hx;simp[bk,blk]at a
 | itr k v l left d =>
  obtain⟨r,rfl,b',m,cl,t,s,h1,-⟩:=hx;simp[bk,blk]at a;subst a;exact CK h1
 | loop L =>
  obtain⟨b',rfl,h1⟩:=hx;simp[bk,blk]at a;subst a;exact CK h1
 | dfr =>
  obtain⟨b',rfl,h1⟩:=hx;simp[bk,blk]at a;subst a;exact CK h1
section
variable {α:Type}
theorem A5 (k:Nat):∀(l r:List (Nat×α)),lk k (l++r)=(lk k l).or (lk k r)
 | [],_=>by simp[lk]
 | (j,v) :: l,r=>by
  simp only[AE6,lk];split
  .simp
  exact A5 k l r
theorem GV (k n:Nat) (u:α):∀l:List (Nat×α),lk k (upd n u l)=if k=n then (lk n l).map (λ_=>u) else lk k l
 | []=>by simp[lk,upd]
 | (j,v) :: l=>by
  simp only[upd];by_cases hn:n=j
  .subst hn;by_cases hk:k=n
   .subst hk;simp[lk]
   simp[lk,hk,GV k n u l]
  simp only[As hn,lk];by_cases hk:k=n
  .subst hk;simp[hn,GV k k u l]
  by_cases a:k=j
  .subst a;simp[hk]
  simp[hk,a,GV k n u l]
theorem Rn (k n:Nat):∀l:List (Nat×α),lk k (del n l)=if k=n then none else lk k l
 | []=>by simp[lk,del]
 | (j,v) :: l=>by
  simp only[del];by_cases hn:n=j
  .subst hn;rw[BY rfl,Rn k n l];grind [lk]
  rw[As hn];simp only[lk,Rn k n l];grind
end
end
section
open Go Go.RowKit
def ET (σ:St) (obs:List (Nat×Obj)):St:=⟨σ.env,obs++σ.objs⟩
structure QS (w:World) (O0:Nat->Prop) (σ:St) (ρ:Nat->Value) (v:AV) (obs:List (Nat×Obj)) (u:Value) (ρ':Nat->Value) (w':World):Prop where
 below:Below w.heap.size w w'
 rho:∀n,lk n obs=none->ρ' n=ρ n
 av:B3 (vw w' O0 (ET σ obs) ρ') v u
 obj:∀n o,lk n obs=some o->A3 (vw w' O0 (ET σ obs) ρ') o (ρ' n)
 new:∀n o b,lk n obs=some o->bk (ρ' n) b->w.heap.size<=b
 dist:∀n m o o' b,lk n obs=some o->lk m obs=some o'->bk (ρ' n) b->bk (ρ' m) b->n=m
theorem Fu {α:Type} {k:Nat} {v:α}:∀ {l:List (Nat×α)},lk k l=some v->(k,v)∈l
 | (j,u) :: l,h=>by
  simp only[lk]at h;split at h
  .grind
  exact IF _ (Fu h)
theorem OQ {obs:List (Nat×Obj)} {σ:St} (h:Bd obs σ=true) {n:Nat} {o:Obj} (hn:lk n obs=some o):lk n σ.objs=none:=by
 simp only[Bd,ON]at h;simpa using h _ (Fu hn)
theorem Ls {σ:St} {obs:List (Nat×Obj)} {n:Nat} (h:HG (ET σ obs) n):(∃o,lk n obs=some o)\/(lk n obs=none/\HG σ n):=by
 obtain⟨o,h⟩:=h;simp only[ET,A5]at h;cases a:lk n obs with
 | some b=>exact .inl ⟨b,rfl⟩
 | none=>rw[a]at h;exact .inr ⟨rfl,o,by simpa using h⟩
theorem aA {σ:St} {obs:List (Nat×Obj)} (hf:Bd obs σ=true) {n:Nat} (h:HG σ n):HG (ET σ obs) n/\lk n obs=none:=by
 obtain⟨o,h⟩:=h;have hn:lk n obs=none:=by
  cases a:lk n obs with
  | none=>rfl
  | some b=>have:=OQ hf a;rw[this]at h;cases h
 exact⟨⟨o,by simp[ET,A5,hn,h]⟩,hn⟩
theorem Hy {w w':World} {O0:Nat->Prop} {σ:St} {ρ ρ':Nat->Value} {obs:List (Nat×Obj)} (hf:Bd obs σ=true)
  (hb:Below w.heap.size w w') (hr:∀n,lk n obs=none->ρ' n=ρ n) (hn:∀n o b,lk n obs=some o->bk (ρ' n) b->w.heap.size<=b) :
  Cq (vw w O0 σ ρ) (vw w' O0 (ET σ obs) ρ') where
 O:=by
  intro b hlt hO hO';rcases hO' with h0|⟨n,hl,hb'⟩
  .exact hO (.inl h0)
  rcases Ls hl with ⟨o,ho⟩|⟨hno,hl'⟩
  .have:=hn n o b ho hb';have hlt:b<w.heap.size:=hlt;omega
  exact hO (.inr ⟨n,hl',by rw[<-hr n hno];exact hb'⟩)
 L:=λn h=>(aA hf h).1
 ρ:=λn h=>hr n (aA hf h).2
 heap:=λb hlt _=>hb.block b hlt
theorem QS.keeps {w w':World} {O0:Nat->Prop} {σ:St} {ρ ρ':Nat->Value} {v:AV} {u:Value} {obs:List (Nat×Obj)} (hf:Bd obs σ=true) (h:QS w O0 σ ρ v obs u ρ' w') :
  Cq (vw w O0 σ ρ) (vw w' O0 (ET σ obs) ρ'):=Hy hf h.below h.rho h.new
theorem Frm.below {K:Nat->Prop} {w0 w w':World} (h:Frm K w0 w) (hb:Below w.heap.size w w') (hK:∀b,K b->b<w0.heap.size):Frm K w0 w' where
 os:=hb.os.trans h.os
 tape:=hb.tape.trans h.tape
 output:=hb.output.trans h.output
 size:=RG h.size hb.size
 block:=λk hk=>(hb.block k (bY (hK k hk) h.size)).trans (h.block k hk)
theorem Po (a:Act) (dst:Option Tmp) (u:Value):(a.put dst u).tmps.size=a.tmps.size:=by
 cases dst<;>simp[Act.put]
theorem Kp (a:Act) (dst:Option Tmp) (u:Value):(a.put dst u).defers=a.defers:=by cases dst<;>rfl
theorem M0 (a:Act) (d:Nat) (u:Value) (s:Nat) (b:d<a.tmps.size):(a.put (some d) u).tmps.getD s undef=if s=d then u else a.tmps.getD s undef:=by
 by_cases h:s=d
 .subst h;simp[Act.put,b]
 have:¬d=s:=λe=>h e.symm;simp[Act.put,h,this,Array.getElem?_setIfInBounds]
theorem B9.add {w0:World} {K O0:Nat->Prop} {nt:Nat} {ds:Fp} {σ:St} {ρ:Nat->Value} {a:Act} {w:World} (h:B9 w0 K O0 nt ds σ ρ a w)
  (G:∀b,K b->b<w0.heap.size) (I:∀b,O0 b->b<w0.heap.size) {dst:Option Nat} (H:∀d,dst=some d->d<nt)
  {v:AV} {obs:List (Nat×Obj)} {u:Value} {ρ':Nat->Value} {w':World} (hf:Bd obs σ=true) (c:QS w O0 σ ρ v obs u ρ' w') :
  B9 w0 K O0 nt ds (σ.add v obs dst) ρ' (a.put dst u) w':=by
 have hk:=c.keeps hf;have D:(σ.add v obs dst).objs=obs++σ.objs:=by cases dst<;>rfl
 have k:∀n,HG (σ.add v obs dst) n↔HG (ET σ obs) n:=λn=>by simp[HG,D,ET]
 have E:vw w' O0 (σ.add v obs dst) ρ'=vw w' O0 (ET σ obs) ρ':=by
  have hl:HG (σ.add v obs dst)=HG (ET σ obs):=funext λn=>propext (k n);have g:own O0 (σ.add v obs dst) ρ'=own O0 (ET σ obs) ρ':=by grind [own]
  simp only[vw,hl,g]
 refine⟨h.frm.below c.below G,by rw[Po];exact h.nt,by rw[Kp];exact h.defers,λp hp=>?_,?_,?_,?_,?_⟩
 .obtain⟨h1,j,F⟩:=h.pin p hp;have A:=aA hf h1;exact⟨(k p.1).2 A.1,(c.rho _ A.2).trans j,F⟩
 .intro n o g;rw[D,A5]at g;rw[E];cases q:lk n obs with
  | some y=>rw[q]at g;cases g;exact c.obj n _ q
  | none =>
   rw[q]at g;have l:lk n σ.objs=some o:=by simpa using g
   rw[c.rho n q];refine(h.objs n o l).keeps hk λb f=>?_;exact c.below.block b ((h.objs n o l).block_lt f)
 .intro n b hl f;rcases Ls ((k n).1 hl) with ⟨o,g⟩|⟨r,t⟩
  .have J:=c.new n o b g f;have:=h.frm.size;grind
  rw[c.rho n r]at f;exact h.free n b t f
 .intro n m b hl t f i;rcases Ls ((k n).1 hl) with ⟨o,g⟩|⟨r,hn⟩<;>rcases Ls ((k m).1 t) with ⟨y,l⟩|⟨C,B⟩
  .exact c.dist n m o y b g l f i
  .have h1:=c.new n o b g f;rw[c.rho m C]at i;obtain⟨z,j⟩:=B;have:=(h.objs m z j).block_lt i;have:b<w.heap.size:=this;omega
  .have h1:=c.new m y b l i;rw[c.rho n r]at f;obtain⟨z,j⟩:=hn;have:=(h.objs n z j).block_lt f;have:b<w.heap.size:=this;omega
  rw[c.rho n r]at f;rw[c.rho m C]at i;exact h.dist n m b hn B f i
 intro s x hs;rw[E];cases dst with
 | none=>exact(h.env s x hs).keeps hk
 | some d =>
  simp only[St.add,lk]at hs;rw[M0 a d u s (by rw[h.nt];exact H d rfl)];split at hs
  .rename_i e;cases hs;rw[BY e];exact c.av
  rename_i e;rw[As e];exact(h.env s x hs).keeps hk
theorem QS.still {w:World} {O0:Nat->Prop} {σ:St} {ρ:Nat->Value} {v:AV} {u:Value} (h:B3 (vw w O0 σ ρ) v u):QS w O0 σ ρ v [] u ρ w where
 below:=Below.refl _ _
 rho:=λ_ _=>rfl
 av:=h
 obj:=λ_ _ h=>by cases h
 new:=λ_ _ _ h=>by cases h
 dist:=λ_ _ _ _ _ h=>by cases h
def E5 (ρ:Nat->Value) (n:Nat) (x:Value):Nat->Value:=λm=>if m=n then x else ρ m
theorem Bo (ρ:Nat->Value) (n:Nat) (x:Value):E5 ρ n x n=x:=by simp[E5]
theorem QS.one {w w':World} {O0:Nat->Prop} {σ:St} {ρ:Nat->Value} {v:AV} {u loc:Value} {n:Nat} {o:Obj} (hb:Below w.heap.size w w')
  (hnew:∀b,bk loc b->w.heap.size<=b)
  (hav:B3 (vw w' O0 (ET σ [(n,o)]) (E5 ρ n loc)) v u)
  (hobj:A3 (vw w' O0 (ET σ [(n,o)]) (E5 ρ n loc)) o loc):QS w O0 σ ρ v [(n,o)] u (E5 ρ n loc) w' where
 below:=hb
 rho:=λm hm=>by grind [lk,E5]
 av:=hav
 obj:=λm o' hm=>by grind [lk,Bo]
 new:=λm o' b hm hb'=>by grind [lk,Bo]
 dist:=λm m' o1 o2 b h1 h2 _ _=>by grind [lk]
end
section
open Go Go.RowKit
theorem A8 {t:Ty} {p:PV} {d:t.den} (h:BO t p=some d):p=⟨t,d⟩:=by
 obtain⟨u,x⟩:=p;grind [BO]
theorem Bh {e a:Ty} {xs:List a.den} {ys:List e.den} (h:BO (.slice e) ⟨.slice a,xs⟩=some ys):a=e/\HEq xs ys:=by
 have b:=A8 h;grind
theorem OT {α:Type} (xs:List α) {lo hi:Nat} (h:hi<=xs.length):(sub xs lo hi).length=hi-lo:=by
 simp[sub];omega
theorem aB {α:Type} (xs:List α) (lo hi i:Nat) {x:α} (h:(sub xs lo hi)[i]?=some x):xs[lo+i]?=some x/\i<hi-lo:=by grind [sub]
theorem pZ {w:World} {O':Nat->Prop} {et:TypeId} {e:Ty} {xs:List e.den} {loc v:Value} {cells:List Value} {lo hi:Nat} (u:∀b,blk loc=some b->¬O' b)
  (F:xs.length<=AO) (f:w.ownsRow 0 et e.size loc xs.length cells) (o:Dm w O' e cells xs) (y:DT loc e.size lo hi v):B0 w O' (.slice e) [v] (sub xs lo hi):=by
 obtain⟨a,m,c,h,D,p,j,k,rfl,n,h0,h1⟩:=y;have t:m=xs.length:=by
  rcases f.2 with ⟨d,hn⟩|⟨g,cap,l,d,_⟩
  .grind
  rw[h]at d;injection d
 subst t;have hl:=OT xs (lo:=lo) p;refine⟨j,k,by rw[hl],by rw[hl];exact n,by rw[hl];omega,?_⟩;by_cases s:lo<hi
 .right;rcases f.2 with ⟨d,hn⟩|⟨g,cap,l,d,r⟩
  .omega
  have B:=World.ownsRow.cells f (g:=g) (by rw[d];rfl);have ha:a=some ⟨g,0,none⟩:=by rw[h]at d;injection d
  subst ha;refine⟨_,h1 s,u _ (by rw[d];simp only[blk,CJ]),λi x q=>?_⟩;obtain⟨hx,E⟩:=aB xs lo hi i q;obtain⟨z,C,A,G⟩:=o (lo+i) x hx;grind [DQ]
 simp_all
theorem HZ {w:World} {base:Nat} {et:TypeId} {sz n:Nat} {s:Value} {xs:List Value} (h:w.ownsRow base et sz s n xs):plc s=s:=by
 rcases h.2 with ⟨rfl,_⟩|⟨g,cap,a,rfl,_⟩<;>rfl
theorem UX {V:Vw} {et:TypeId} {e:Ty} {xs:List e.den} {loc:Value} (h:A3 V (.arr et e xs) loc):plc loc=loc:=by
 obtain⟨_,_,h,_⟩:=h;exact HZ h
theorem aC {V:Vw} {O':Nat->Prop} (h:∀b,¬V.O b->¬O' b) {et:TypeId} {e:Ty} {xs:List e.den} {loc v:Value} {lo hi:Nat} (n:∀b,blk loc=some b->¬O' b)
  (a:A3 V (.arr et e xs) loc) (c:DT (plc loc) e.size lo hi v):B0 V.w O' (.slice e) [v] (sub xs lo hi):=by
 rw[UX a]at c;obtain⟨l,cells,m,k⟩:=a;exact pZ n l m (λi x hi=>let ⟨d,h1,f,g⟩:=k i x hi;⟨d,h1,f,g.mono (λb _ j=>h b j) (λ_ _ _=>rfl)⟩) c
theorem GW {w:World} {et:TypeId} {sz n:Nat} {s:Value} {xs:List Value} (h:w.ownsRow 0 et sz s n xs):DT s sz 0 n s:=by
 rcases h.2 with ⟨rfl,hn⟩|⟨g,cap,a,rfl,_,_,b,_⟩
 .exact⟨none,0,0,rfl,by omega,by omega,none,0,by rw[hn],by omega,λ_=>⟨rfl,rfl⟩,λh=>by omega⟩
 exact⟨some ⟨g,0,none⟩,n,cap,rfl,by omega,by omega,some ⟨g,0,none⟩,cap,by simp,by omega,λ_=>⟨rfl,rfl⟩,λ_=>by simp[Mw]⟩
theorem YU {V:Vw} {O':Nat->Prop} (c:∀b,¬V.O b->¬O' b) {et:TypeId} {e:Ty} {xs:List e.den} {u:Value} (d:∀b,blk u=some b->¬O' b) (h:Rm V et e xs u):B0 V.w O' (.slice e) [u] xs:=by
 have h1:=h;obtain⟨_,_,a,_⟩:=h1;have:=aC (V:=V) c d (et:=et) (e:=e) (xs:=xs) (loc:=u) h (by rw[HZ a];exact GW a)
 rwa [Ip]at this
theorem Kq {w:World} {base:Nat} {et:TypeId} {sz n m c:Nat} {a:Option Addr} {xs:List Value} (h:w.ownsRow base et sz (.slice a m c) n xs):m=n:=by
 rcases h.2 with ⟨b,hn⟩|⟨g,cap,d,b,_⟩
 .injection b;omega
 injection b
theorem aD {V:Vw} {d:TypeId} {e:Ty} {xs:List e.den} {u:Value} {a:Option Addr} {len c:Nat} (hl:Lay u (.slice a len c)) (h:Rm V d e xs u):len=xs.length:=by
 obtain⟨_,i,b,_⟩:=h;rcases hl with rfl|⟨rfl,f,g⟩
 .exact Kq b
 grind [Kq]
theorem A1O {V:Vw} {i:TypeId} {e:Ty} {xs:List e.den} {u v:Value} (hl:Lay u v) (h:Rm V i e xs u):∃(a:Option Addr) (c:Nat),v=.slice a xs.length c:=by
 rcases hl with rfl|⟨rfl,a,rfl⟩
 .obtain⟨_,j,f,_⟩:=h;obtain⟨_,_,_,_,_,_,b,d,g,_⟩:=GW f;exact⟨b,d,g⟩
 have hn:=aD (.inr ⟨rfl,a,rfl⟩) h;exact⟨a,0,by rw[<-hn]⟩
theorem p6 {V:Vw} {O':Nat->Prop} {c:TypeId} {e:Ty} {xs:List e.den} {u v:Value} (hl:Lay u v) (h:Rm V c e xs u) (b:B0 V.w O' (.slice e) [u] xs):B0 V.w O' (.slice e) [v] xs:=by
 rcases hl with rfl|⟨rfl,a,rfl⟩
 .exact b
 have hn:=aD (.inr ⟨rfl,a,rfl⟩) h;have hx:xs=[]:=RQ hn.symm;subst hx;exact⟨a,0,rfl,If _,by simp,.inl rfl⟩
theorem OU {V:Vw} {O':Nat->Prop} (g:∀b,¬V.O b->¬O' b) {et p:TypeId} {k e:Ty} {xs:List (k.den×List e.den)} {o:Value} {ins cells:List Value} (h:LT V et p k e xs none o ins cells)
  (n:∀(i b:Nat) (u:Value),ins[i]?=some u->blk u=some b->¬O' b):Dm V.w O' (.agg (.prod k (.slice e))) cells xs:=by
 intro i x hi;have j:i<ins.length:=by rw[h.len];exact(RF.1 hi).1
 obtain⟨c1,v,h1,d,a⟩:=h.row i x ins[i] hi (AT j);rcases a with ⟨a,_⟩|⟨_,l,f⟩
 .cases a
 have m:=p6 l f (YU g (λb c=>n i b _ (AT j) c) f);refine⟨c1++[v],by simp[Ty.size,d.length],h1,?_⟩;exact(⟨c1,[v],rfl,d.mono (λb _ c=>g b c) (λ_ _ _=>rfl),m⟩:B0 V.w O' (.prod k (.slice e)) _ x)
theorem dZ {V:Vw} {O':Nat->Prop} (f:∀b,¬V.O b->¬O' b) {et l:TypeId} {k e:Ty} {xs:List (k.den×List e.den)} {loc v:Value} {lo hi:Nat} (a:∀b,bk loc b->¬O' b)
  (j:A3 V (.nest et l k e xs none) loc) (c:DT (plc loc) (k.size+1) lo hi v):B0 V.w O' (.slice (.agg (.prod k (.slice e)))) [v] (sub (α:=k.den×List e.den) xs lo hi):=by
 obtain⟨o,ins,cells,hs,h⟩:=j;rw[hs.plc]at c;exact pZ (e:=.agg (.prod k (.slice e))) (xs:=xs) (λb g=>a b (hs.bk.2 (A7.2 (.inl g)))) h.max h.own (OU f h λi b u h1 d=>a b (hs.bk.2 (A7.2 (.inr ⟨i,u,h1,d⟩)))) c
theorem YV {V:Vw} {p:Obj} {loc:Value} {a:Option Addr} {m c:Nat} (d:A3 V p loc) (h:plc loc=.slice a m c):∃et sz cells,V.w.ownsRow 0 et sz (.slice a m c) m cells/\m<=AO:=by
 cases p with
 | arr et e xs =>
  have h1:=UX d;obtain⟨r,cells,i,_⟩:=d;rw[h1]at h;subst h;have j:m=xs.length:=by
   rcases i.2 with ⟨f,hn⟩|⟨g,cap,q,f,_⟩
   .injection f;omega
   injection f
  subst j;exact⟨et,_,cells,i,r⟩
 | nest et t k e xs hl =>
  obtain⟨o,ins,cells,hs,n⟩:=d;rw[hs.plc]at h;subst h;have i:=n.own;have j:m=xs.length:=by
   rcases i.2 with ⟨f,hn⟩|⟨g,cap,q,f,_⟩
   .injection f;omega
   injection f
  subst j;exact⟨et,_,cells,i,n.max⟩
 | box et st fs=>obtain⟨_,b,cs,rfl,_⟩:=d;cases h
 | mapo k v l=>obtain⟨b,_,_,rfl,_⟩:=d;cases h
 | frame A fs=>obtain⟨rfl,_⟩:=d;cases h
 | loop L=>obtain⟨b,rfl,_⟩:=d;cases h
 | itr u z x y s=>obtain⟨b,rfl,_⟩:=d;cases h
 | dfr=>obtain⟨b,rfl,_⟩:=d;cases h
theorem M2 {V V':Vw} (c:V'.w=V.w) (d:V'.O=V.O) {et f:TypeId} {k e:Ty} {xs:List (k.den×List e.den)} {h:Option Nat} {loc:Value} (r:A3 V (.nest et f k e xs h) loc):A3 V' (.nest et f k e xs h) loc:=by
 obtain⟨o,ins,cells,hl,a⟩:=r;refine⟨o,ins,cells,hl,a.max,a.len,by rw[c];exact a.own,λi x u h1 g=>?_,a.dist,a.out⟩;obtain⟨c1,v,j,l,b⟩:=a.row i x u h1 g;refine⟨c1,v,j,by rw[c,d];exact l,?_⟩;rcases b with b|⟨b,m,q,s,n,p⟩
 .exact .inl b
 exact .inr ⟨b,m,q,s,by rw[c];exact n,by rw[c,d];exact p⟩
theorem zR {V V':Vw} (d:V'.w=V.w) (g:∀b,¬V.O b->¬V'.O b) {et j:TypeId} {k e:Ty} {xs:List (k.den×List e.den)} {h:Option Nat} {loc:Value} (B:A3 V (.nest et j k e xs h) loc):A3 V' (.nest et j k e xs h) loc:=by
 obtain⟨o,ins,cells,hl,a⟩:=B;refine⟨o,ins,cells,hl,a.max,a.len,by rw[d];exact a.own,λi x u h1 q=>?_,a.dist,a.out⟩;obtain⟨c1,v,r,s,c⟩:=a.row i x u h1 q;refine⟨c1,v,r,s.mono (λb _ f=>g b f) (λb _ _=>by rw[d]),?_⟩;rcases c with c|⟨c,t,A,C,y,z⟩
 .exact .inl c
 refine .inr ⟨c,t,A,C,by rw[d];exact y,λi x hi=>?_⟩;obtain⟨l,m,n,p⟩:=z i x hi;exact⟨l,m,n,p.mono (λb _ f=>g b f) (λb _ _=>by rw[d])⟩
theorem aE {V:Vw} {et g:TypeId} {k e:Ty} {xs:List (k.den×List e.den)} {h:Option Nat} {loc v:Value} {c:Array Value} {i:Nat} {z:k.den×List e.den}
  (d:A3 V (.nest et g k e xs h) loc) (f:loc=.tuple c) (a:c[i+1]?=some v):xs[i]?=some (xs.getD i z):=by
 obtain⟨o,ins,cells,hs,h⟩:=d;obtain rfl:=hs.tup f;have a:ins[i]?=some v:=by simpa using a
 have b:i<xs.length:=by rw[<-h.len];exact(RF.1 a).1
 rw[AT b,AS,AT b];rfl
theorem A5m {V:Vw} {t:Obj} {loc u v:Value} {w:Array Value} {i len c:Nat} {a:Option Addr} (d:A3 V t loc) (z:loc=.tuple w) (f:w[i+1]?=some u) (j:Lay u v) (s:v=.slice a len c):len<=AO:=by
 subst z;cases t with
 | arr et e xs =>
  obtain⟨D,cells,y,_⟩:=d;rcases y.2 with ⟨r,_⟩|⟨g,cap,B,r,_⟩<;>cases r
 | nest et F k e xs hl =>
  obtain⟨o,ins,cells,hs,q⟩:=d;obtain rfl:=hs.tup rfl;have f:ins[i]?=some u:=by simpa using f
  have x:i<xs.length:=by rw[<-q.len];exact(RF.1 f).1
  obtain⟨c1,M,h1,C,m⟩:=q.row i xs[i] u (AT x) f;rcases m with ⟨_,m⟩|⟨_,_,n⟩
  .subst s;rcases j with p|⟨_,A,p⟩
   .grind
   injection p;omega
  rw[s]at j;rw[aD j n];exact n.1
 | box et st fs=>obtain⟨_,b,cs,h,_⟩:=d;cases h
 | mapo k v l=>obtain⟨b,_,_,h,_⟩:=d;cases h
 | frame K fs=>obtain⟨h,_⟩:=d;cases h
 | loop L=>obtain⟨b,h,_⟩:=d;cases h
 | itr G J H I E=>obtain⟨b,h,_⟩:=d;cases h
 | dfr=>obtain⟨b,h,_⟩:=d;cases h
theorem A5n {V:Vw} {O':Nat->Prop} (n:∀b,¬V.O b->¬O' b) {et j:TypeId} {k e:Ty} {xs:List (k.den×List e.den)} {loc v:Value} {d:Array Value} {i:Nat} {x:k.den×List e.den} (r:∀b,bk loc b->¬O' b) {u:Value}
  (f:A3 V (.nest et j k e xs none) loc) (g:loc=.tuple d) (c:d[i+1]?=some u) (q:Lay u v) (hx:xs[i]?=some x):B0 V.w O' (.slice e) [v] x.2:=by
 obtain⟨o,ins,cells,hs,h⟩:=f;obtain rfl:=hs.tup g;have c:ins[i]?=some u:=by simpa using c
 obtain⟨c1,s,h1,l,a⟩:=h.row i x u hx c;rcases a with ⟨a,_⟩|⟨_,p,m⟩
 .cases a
 grind [p6,YU,A7]
section
variable {V:Vw} {O':Nat->Prop} {l:Bool} {σ:St}
theorem p7 (j:∀b,¬V.O b->¬O' b) (r:l=true->∀b,¬O' b) (q:∀n o,lk n σ.objs=some o->A3 V o (V.ρ n))
  {t:Ty} {x:AV} {d:t.den} {cs:List Value} (h:E2 l σ t x=some d) (hx:Ng V x cs):B0 V.w O' t cs d:=by
 unfold E2 at h;split at h
 .rename_i u s;have:=A8 h;injection this with h1 g
  subst h1;cases g;have hx:B0 V.w V.O u cs s:=hx;exact hx.mono (λb _ A=>j b A) (λ_ _ _=>rfl)
 .rename_i e n y lo hi;split at h
  .rename_i m;obtain⟨p,rfl⟩:=m;have hl:=p;obtain⟨v,rfl,_,z,f⟩:=hx;cases hn:lk n σ.objs with
   | none=>rw[hn]at h;simp[Rc]at h
   | some o =>
    rw[hn]at h;cases o with
    | box et st fs=>simp[Rc]at h
    | mapo k v l=>simp[Rc]at h
    | frame K fs=>simp[Rc]at h
    | loop L=>simp[Rc]at h
    | itr G J H I E=>simp[Rc]at h
    | dfr=>simp[Rc]at h
    | nest et F k e2 xs hl =>
     cases hl with
     | some i=>simp[Rc]at h
     | none =>
      simp only[Rc]at h;obtain⟨h1,g⟩:=Bh h;subst h1;cases g;exact dZ j (λb _=>r p b) (q n _ hn) f
    | arr et e2 xs =>
     simp only[Rc]at h;obtain⟨h1,g⟩:=Bh h;subst h1;cases g;exact aC j (λb _=>r hl b) (q n _ hn) f
  cases h
 .rename_i e n y i len;split at h
  .rename_i m;obtain⟨hl,rfl⟩:=m;obtain⟨v,rfl,_,z,N,a,c,M,D,C,B,_⟩:=hx;cases hn:lk n σ.objs with
   | none=>rw[hn]at h;simp[Rh]at h
   | some o =>
    rw[hn]at h;unfold Rh at h;split at h
    .grind [Bh,A5n,aE]
    cases h
  cases h
 .obtain⟨v,rfl,_,f⟩:=hx;have f:v=_:=f;subst f;cases h;exact⟨none,0,rfl,by simp,by simp[AO],.inl rfl⟩
 cases h
theorem A1P (e:∀b,¬V.O b->¬O' b) (g:l=true->∀b,¬O' b) (f:∀n o,lk n σ.objs=some o->A3 V o (V.ρ n)) :
  ∀ {fs:List AV} {t:Ty} {d:t.den} {cs:List Value},Kb l σ fs t=some d->Dc V fs cs->B0 V.w O' t cs d
 | [],t,d,cs,h,hx=>by simp[Kb]at h
 | [x],t,d,cs,h,hx=>by
  obtain⟨c1,c2,rfl,h1,c⟩:=hx;have c:c2=[]:=c;grind [Kb,p7]
 | x :: y :: r,t,d,cs,h,hx=>by
  obtain⟨c1,c2,rfl,h1,c⟩:=hx;cases t;case prod a b =>
   simp only[Kb]at h;cases e1:E2 l σ a x with
   | none=>rw[e1]at h;simp[Lk]at h
   | some i =>
    cases e2:Kb l σ (y :: r) b with
    | none=>rw[e1,e2]at h;simp[Lk]at h
    | some j =>
     rw[e1,e2]at h;simp only[Lk]at h;cases h;exact⟨c1,c2,rfl,p7 e g f e1 h1,A1P e g f e2 c⟩
  all_goals simp[Kb]at h
theorem A5o {t:Ty} {x:AV} {d:t.den} {v:Value} (h:E2 l σ t x=some d) (hp:∀u g,x≠.p u g) (hx:B3 V x v):Ng V x [v]/\t.wrap [v]=v:=by
 unfold E2 at h;split at h
 .exact absurd rfl (hp _ _)
 .obtain⟨b,a,m,c,_,_,_,e,f,rfl,_⟩:=hx;refine⟨⟨_,rfl,rfl,?_⟩,rfl⟩;exact⟨b,a,m,c,by assumption,by assumption,by assumption,e,f,rfl,by assumption⟩
 .obtain⟨b,n,a,c,u,h1,i,j,rfl⟩:=hx;exact⟨⟨_,rfl,rfl,b,n,a,c,u,h1,i,j,rfl⟩,rfl⟩
 .have k:v=_:=hx;subst k;exact⟨⟨_,rfl,rfl,rfl⟩,rfl⟩
 cases h
theorem LU (f:∀b,¬V.O b->¬O' b) (i:l=true->∀b,¬O' b) (g:∀n o,lk n σ.objs=some o->A3 V o (V.ρ n))
  {t:Ty} {x:AV} {d:t.den} {v:Value} (h:Mx l σ t x=some d) (hx:B3 V x v):BR V.w O' t v d:=by
 unfold Mx at h;split at h
 .rename_i t fs;obtain⟨cs,rfl,k⟩:=hx;exact⟨cs,(A1P f i g h k:B0 V.w O' t cs d),rfl⟩
 by_cases hp:∃u a,x=.p u a
 .obtain⟨u,a,rfl⟩:=hp;have h:BO t ⟨u,a⟩=some d:=by simpa only[E2] using h
  have:=A8 h;injection this with h1 c
  subst h1;cases c;exact BR.mono (λb _ j=>f b j) (λ_ _ _=>rfl) hx
 obtain⟨h1,c⟩:=A5o h (λu a e=>hp ⟨u,a,e⟩) hx;exact⟨[v],p7 f i g h h1,c.symm⟩
end
end
section
open Go Go.RowKit
def aF:Ty->Value->Bool
 | .agg _,.agg _=>true
 | .agg _,_=>false
 | .prod _ _,_=>false
 | _,.agg _=>false
 | _,_=>true
def Pp (P : Program) (id : TypeId) (a b : IntKind) : Prop := ∃ c d : Field, P.underlying id = some (.struct #[c, d]) /\ ((c.name != "_") = true /\ (d.name != "_") = true) /\ (c.offset = 0 /\ d.offset = 1) /\ (P.underlying c.type = some (.int a) /\ P.underlying d.type = some (.int b)) /\ P.stoodInHeld id = false
def VN (P:Program) (id:TypeId):Ty->Nat->Prop
 | .agg (.prod (.int a) (.int b)),0=>Pp P id a b
 | _,_=>True
def isI (k:IntKind):Option TypeDesc->Bool
 | some (.int a)=>k==a
 | _=>false
theorem VO {k:IntKind} {d:Option TypeDesc} (h:isI k d=true):d=some (.int k):=by
 unfold isI at h;grind
def A8G (P:Program) (id:TypeId) (a b:IntKind):Option TypeDesc->Bool
 | some (.struct ⟨[c, d]⟩) => (c.name != "_") && (d.name != "_") && c.offset == 0 && d.offset == 1 && isI a (P.underlying c.type) && isI b (P.underlying d.type) && P.stoodInHeld id == false
 | _=>false
def A1Q (P:Program) (id:TypeId):Ty->Nat->Bool
 | .agg (.prod (.int a) (.int b)),0=>A8G P id a b (P.underlying id)
 | _,_=>true
theorem A1R {P:Program} {id:TypeId} {t:Ty} {el:Nat} (h:A1Q P id t el=true):VN P id t el:=by
 unfold A1Q at h;unfold VN;split at h
 .unfold A8G at h;split at h
  .rename_i a b hu;simp only[An,S1]at h;obtain⟨⟨⟨⟨⟨⟨h1,c⟩,d⟩,e⟩,f⟩,g⟩,i⟩:=h;exact⟨a,b,hu,⟨h1,c⟩,⟨d,e⟩,⟨VO f,VO g⟩,i⟩
  cases h
 trivial
def EU (P:Program) (tb:Tb) (id:TypeId) (ti:TI):Prop :=
 (((∀p∈ti.offs,p.2≠0)/\0<ti.bytes/\VN P id ti.ty ti.el)/\∃(i:TypeInfo) (z:Value),P.info? id=some i/\i.size=ti.ty.size/\i.bytes=ti.bytes/\i.zero=some z/\z.cells=ti.ty.zero.toArray) /\
 match ti.ty with
 | .int k=>P.underlying id=some (.int k)
 | .bool=>P.underlying id=some .bool
 | .str=>P.underlying id=some .string
 | .slice e=>P.underlying id=some (.slice ti.el)/\∃te,lk ti.el tb.ty=some te/\te.ty=e
 | .agg _=>(∃fs:Array Field,ti.el=0/\P.underlying id=some (.struct fs)/\ti.offs.map some=fs.toList.map λf=>(P.info? f.type).map λi=>(f.offset,i.size)) \/
   ∃n e i,ti.el≠0/\P.underlying id=some (.array n e)/\P.info? e=some i/\ti.offs=(List.range n).map λk=>(k*i.size,i.size)
 | .prod _ _=>False
 | .ref j=>∃d,P.underlying id=some d/\(match d with|.struct _=>False|.array _ _=>False|_=>True) /\
   ∀k e,j=2->ti.offs=[(k,e)]->d=.map k e/\∃(a te:TI) (z:Value),lk k tb.ty=some a/\lk e tb.ty=some te/\(∃i,P.info? e=some i/\i.zero=some z)/\z.cells=te.ty.zero.toArray/\aF te.ty z=true
def DH (P:Program) (tb:Tb):Prop:=∀id ti,lk id tb.ty=some ti->EU P tb id ti
def A1S:Value->Value->Bool
 | .int k n,.int c d=>k==c&&n==d
 | .bool a,.bool b=>a==b
 | .string s,.string e=>s.size==0&&e.size==0
 | .slice none 0 0,.slice none 0 0=>true
 | .pointer none,.pointer none=>true
 | .nilFunc,.nilFunc=>true
 | .map none,.map none=>true
 | _,_=>false
theorem A1T {a b:Value} (h:A1S a b=true):a=b:=by
 unfold A1S at h;split at h
 .grind
 .grind
 .simp_all
 .rfl
 .rfl
 .rfl
 .rfl
 cases h
def OV:List Value->List Value->Bool
 | [],[]=>true
 | a :: l,b :: r=>A1S a b&&OV l r
 | _,_=>false
theorem Ro:∀ {l r:List Value},OV l r=true->l=r
 | [],[],_=>rfl
 | a :: l,b :: r,h=>by
  simp only[OV,An]at h;rw[A1T h.1,Ro h.2]
 | [],_ :: _,h=>by simp[OV]at h
 | _ :: _,[],h=>by simp[OV]at h
def A8H (ty:Ty) (bytes:Nat):Option TypeInfo->Bool
 | some i=>i.size==ty.size&&i.bytes==bytes&&(match i.zero with|some z=>OV z.cells.toList ty.zero|none=>false)
 | none=>false
def AAl (offs:List (Nat×Nat)) (n:Nat):Option TypeInfo->Bool
 | some i=>offs==(List.range n).map λk=>(k*i.size,i.size)
 | none=>false
def A8I (e:Nat) (te:Option TI):Option TypeInfo->Bool
 | some i=>match i.zero,te with|some z,some te=>OV z.cells.toList te.ty.zero&&aF te.ty z|_,_=>false
 | none=>false
def A98 (P:Program) (tb:Tb) (j:Nat) (d:TypeDesc):List (Nat×Nat)->Bool
 | [(k,e)]=>j != 2||(match d with|.map b a=>b==k&&a==e&&(lk k tb.ty).isSome&&A8I e (lk e tb.ty) (P.info? e)|_=>false)
 | _=>true
theorem A5p {P:Program} {tb:Tb} {j:Nat} {d:TypeDesc} {offs:List (Nat×Nat)} (h:A98 P tb j d offs=true):∀k e,j=2->offs=[(k,e)]->d=.map k e/\∃(a te:TI) (z:Value),lk k tb.ty=some a/\lk e tb.ty=some te/\(∃i,P.info? e=some i/\i.zero=some z)/\z.cells=te.ty.zero.toArray/\aF te.ty z=true:=by
 rintro k e rfl rfl;simp only[A98,bne_self_eq_false,Bool.false_or]at h;split at h
 .simp only[An,S1]at h;obtain⟨⟨⟨rfl,rfl⟩,b⟩,c⟩:=h;refine⟨rfl,?_⟩;obtain⟨a,f⟩:=AEg.1 b;unfold A8I at c;grind [Ro]
 cases h
def AAm (P:Program) (tb:Tb) (ti:TI):Ty->Option TypeDesc->Bool
 | .int k,some (.int a)=>k==a
 | .bool,some .bool=>true
 | .str,some .string=>true
 | .slice e,some (.slice el)=>el==ti.el&&(match lk ti.el tb.ty with|some te=>decide (te.ty=e)|none=>false)
 | .agg _,some (.struct fs)=>ti.el==0&&ti.offs.map some==fs.toList.map λf=>(P.info? f.type).map λi=>(f.offset,i.size)
 | .agg _,some (.array n e)=>ti.el != 0&&AAl ti.offs n (P.info? e)
 | .ref _,some (.struct _)=>false
 | .ref _,some (.array _ _)=>false
 | .ref j,some d=>A98 P tb j d ti.offs
 | _,_=>false
def tiB (P:Program) (tb:Tb) (id:TypeId) (ti:TI):Bool:=((ti.offs.all λp=>p.2 != 0)&&(decide (0<ti.bytes)&&A1Q P id ti.ty ti.el))&&A8H ti.ty ti.bytes (P.info? id)&&AAm P tb ti ti.ty (P.underlying id)
theorem A99 {P:Program} {tb:Tb} {id:TypeId} {ti:TI} (h:tiB P tb id ti=true):EU P tb id ti:=by
 simp only[tiB,An]at h;obtain⟨⟨⟨h0,c,d⟩,h1⟩,a⟩:=h;refine⟨⟨⟨λp hp=>by simpa using (ON.1 h0) p hp,by simpa using c,A1R d⟩,?_⟩,?_⟩
 .unfold A8H at h1;grind [Ro]
 generalize hu:P.underlying id=u at a;generalize ti.ty=t at a;cases t<;>cases u<;>simp only[AAm]at a<;>try(cases a;done)
 all_goals
  rename_i u;cases u<;>simp only at a<;>try(cases a;done)
 .grind
 .rfl
 .rfl
 .grind
 .rename_i n e;simp only[An,AEY]at a;obtain⟨b,a⟩:=a;unfold AAl at a;split at a
  .rename_i i hi;exact .inr ⟨_,_,i,b,rfl,hi,by simpa using a⟩
  cases a
 .grind
 all_goals exact⟨_,rfl,trivial,A5p a⟩
theorem A5q {P:Program} {tb:Tb} (h:(tb.ty.all λp=>tiB P tb p.1 p.2)=true):DH P tb:=λid ti hi=>by
 rw[ON]at h;exact A99 (h _ (Fu hi))
def Ty.isAgg:Ty->Bool
 | .agg _=>true
 | .int _=>false
 | .bool=>false
 | .str=>false
 | .slice _=>false
 | .prod _ _=>false
 | .ref _=>false
section
variable {P:Program} {tb:Tb} {id:TypeId} {ti:TI} (w:World)
theorem Lt {i:TypeInfo} (h:P.info? id=some i):(typeInfo id).run P w=.ok i w:=by simp[typeInfo,h]
theorem A5r (h:EU P tb id ti):(isAgg id).run P w=.ok ti.ty.isAgg w:=by
 obtain⟨_,a⟩:=h;cases c:ti.ty<;>rw[c]at a<;>simp only at a;case agg =>
  rcases a with ⟨fs,_,hu,_⟩|⟨n,e,_,_,hu,_⟩<;>simp[isAgg,RL hu,Ty.isAgg]
 case slice=>simp[isAgg,RL a.1,Ty.isAgg]
 case ref k =>
  obtain⟨d,hu,b,_⟩:=a;cases d<;>first|exact b.elim|simp[isAgg,RL hu,Ty.isAgg]
 all_goals simp[isAgg,RL a,Ty.isAgg]
theorem Hz (h:EU P tb id ti):(sizeOf id).run P w=.ok ti.ty.size w:=by
 obtain⟨⟨_,i,z,h1,a,_⟩,_⟩:=h;simp[sizeOf,Lt w h1,a]
theorem EU.noprod (h:EU P tb id ti) {a b:Ty}:ti.ty≠.prod a b:=by
 intro e;have:=h.2;rw[e]at this;exact this
theorem d5 (h:EU P tb id ti) {ad:Addr} {cs:List Value} (hl:cs.length=ti.ty.size) (d:∀(j:Nat) (u:Value),cs[j]?=some u->w.cell? (ad.add j)=some u) :
  (loadVar id ad).run P w=.ok (ti.ty.wrap cs) w:=by
 have g:=λa b=>h.noprod (a:=a) (b:=b);simp only[loadVar,ADx,A5r w h,iF];cases e:ti.ty;case prod a b=>exact absurd e (g a b)
 case agg u =>
  have f:ti.ty.size=cs.length:=hl.symm;simp only[Ty.isAgg,ADv,ADx,Hz w h,iF,f,run_loadCells_list w ad cs d,Ty.wrap];rfl
 all_goals
  rw[e]at hl;obtain⟨c,rfl⟩:=AEo.1 hl;have h0:=d 0 c rfl;rw[Mw]at h0;simp[Ty.isAgg,Ty.wrap,h0]
theorem Ej (h:EU P tb id ti) {ad:Addr} {cs:List Value} (hl:cs.length=ti.ty.size) (a:∀(j:Nat) (u:Value),cs[j]?=some u->w.cell? (ad.add j)=some u) :
  (Instr.loadAt id (.pointer (some ad))).run P w=.ok (ti.ty.wrap cs) w:=by
 simp[Instr.loadAt,Instr.sureAddr,d5 w h hl a]
end
end
end Go.Proofs.YtapkhdkbkodbjaaGreat.Fw
