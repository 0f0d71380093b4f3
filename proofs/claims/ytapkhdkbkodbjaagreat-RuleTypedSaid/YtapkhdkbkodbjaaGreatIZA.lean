/- Typed values, how they lie in memory, the executor's words and the table of types: what they mean. -/
import Derived.ProofKit
import Derived.Orders
import Derived.Laws.AppendOwn
import Derived.Laws.MakeOwn
import Derived.Laws.OwnMore
set_option linter.unusedVariables false
set_option linter.unusedSimpArgs false
namespace Go.Proofs.YtapkhdkbkodbjaaGreat.Fw
section
open Go
abbrev AS:=@List.getD_eq_getElem?_getD
abbrev AT:=@Bool.and_eq_true
abbrev An:=@if_neg
abbrev As:=@List.take_of_length_le
abbrev At:=@List.getElem?_eq_getElem
abbrev BY:=@if_pos
abbrev By:=@decide_eq_true_eq
abbrev B0:=@List.drop_eq_nil_of_le
abbrev DO:=@List.mem_cons
abbrev Do:=@List.mem_map
abbrev GO:=@Classical.byContradiction
abbrev IF:=@List.length_append
abbrev IN:=@Int.ofNat_lt
abbrev IS:=@Nat.zero_le
abbrev If:=@List.all_eq_true
abbrev Is:=@Nat.le_refl
abbrev NO:=@List.mem_cons_of_mem
abbrev No:=@Option.map_eq_some_iff
abbrev OF:=@List.mem_append
abbrev ON:=@List.foldl_cons
abbrev OR:=@List.drop_eq_getElem_cons
abbrev OS:=@List.length_take
abbrev Of:=@List.length_cons
abbrev On:=@decide_eq_false_iff_not
abbrev Px:=@Bool.not_eq_true'
abbrev Py:=@List.length_map
abbrev Pz:=@List.length_singleton
abbrev P0:=@Int.toNat_natCast
abbrev P6:=@Int.ofNat_le
abbrev QA:=@List.getElem?_eq_some_iff
abbrev QB:=@Nat.le_trans
abbrev QC:=@List.any_eq_true
abbrev QD:=@List.take_length
abbrev QE:=@List.map_congr_left
abbrev QF:=@Go.run_underlying
abbrev QG:=@List.pairwise_iff_getElem
abbrev QH:=@List.getElem?_eq_none
abbrev QI:=@List.eq_nil_of_length_eq_zero
abbrev QJ:=@List.mem_range
abbrev QK:=@List.append_assoc
abbrev QL:=@List.mem_singleton
abbrev QM:=@List.map_cons
abbrev QN:=@List.getElem?_append_left
abbrev QO:=@Bool.or_eq_true
abbrev QP:=@Nat.mul_le_mul_right
abbrev QQ:=@List.append_nil
abbrev QR:=@List.getElem?_append_right
abbrev SF:=@List.getElem?_take
abbrev SG:=@Array.getElem?_eq_some_iff
abbrev SH:=@List.ext_getElem
abbrev SI:=@List.mem_append_left
abbrev SJ:=@beq_iff_eq
abbrev SK:=@List.pairwise_cons
abbrev SL:=@List.length_set
abbrev SM:=@List.length_drop
abbrev SP:=@List.drop_zero
abbrev SQ:=@List.range_succ
abbrev TO:=@List.nodup_cons
abbrev To:=@Int.natCast_nonneg
abbrev VH:=@List.mem_iff_getElem?
abbrev VI:=@List.length_filter_le
abbrev VJ:=@List.getElem?_map
abbrev VK:=@Go.Result.andThen_ok
abbrev VL:=@List.filter_cons
abbrev VM:=@List.mem_of_mem_take
abbrev VN:=@List.mem_of_getElem?
abbrev VO:=@List.map_append
abbrev VP:=@Bool.or_eq_false_iff
abbrev VQ:=@Array.getElem?_eq_getElem
abbrev VR:=@List.getElem_mem
abbrev VS:=@List.length_take_le
abbrev VT:=@Int.not_le
abbrev VU:=@Int.tdiv_eq_ediv_of_nonneg
abbrev VV:=@List.pairwise_map
abbrev VW:=@List.mem_filter
abbrev VX:=@beq_eq_false_iff_ne
abbrev VY:=@Option.isNone_iff_eq_none
abbrev VZ:=@List.take_succ_cons
abbrev Va:=@List.map_map
abbrev Vb:=@List.mem_iff_getElem
abbrev Vc:=@List.getElem?_append
abbrev Vd:=@List.prefix_refl
abbrev ZD:=@if_true
abbrev ZE:=@Option.some.injEq
abbrev ZF:=@Int.not_lt
abbrev ZG:=@Nat.lt_of_lt_of_le
abbrev ZH:=@List.take_zero
abbrev ZI:=@List.mem_cons_self
abbrev ZJ:=@List.getElem?_drop
abbrev ZK:=@Bool.and_eq_false_iff
abbrev ZL:=@Int.toNat_of_nonneg
abbrev ZM:=@List.length_nil
abbrev aS:=@decide_eq_true
abbrev aT:=@List.getElem?_set
abbrev bY:=@congrArg
abbrev dO:=@Bool.false_eq_true
abbrev f7:=@Go.Sem.run_bind
abbrev f8:=@List.nodup_append
abbrev gO:=@List.getElem?_replicate
abbrev iF:=@List.all_eq_false
abbrev iN:=@Nat.zero_add
abbrev iS:=@Bool.not_eq_false'
abbrev nO:=@List.length_eq_one_iff
abbrev oF:=@List.cons_append
abbrev oN:=@List.getElem?_range
abbrev oR:=@List.drop_succ_cons
abbrev oS:=@Nat.succ_mul
abbrev tO:=@Nat.sub_self
abbrev AA3:=@List.mem_append_right
abbrev AA6:=@Int.le_trans
abbrev AA7:=@decide_eq_false
abbrev AAb:=@Nat.pos_of_ne_zero
abbrev AAe:=@List.getElem_range
abbrev AAm:=@List.pairwise_append
abbrev AAn:=@List.getElem_map
abbrev AAG:=@if_false
abbrev AAH:=@List.any_eq_false
abbrev AAP:=@List.mem_or_eq_of_mem_set
abbrev AAS:=@List.all_cons
abbrev ABj:=@List.take_append_drop
abbrev ABz:=@List.nil_append
abbrev ABC:=@Bool.eq_iff_iff
abbrev ABE:=@Option.isSome_iff_exists
abbrev ABK:=@List.mem_of_mem_drop
abbrev ABL:=@Bool.eq_false_iff
abbrev ABM:=@Option.map_some
abbrev ABN:=@Nat.mul_le_mul_left
abbrev ABO:=@Nat.min_eq_left
abbrev ABP:=@Int.le_refl
abbrev ABQ:=@Int.tmod_eq_emod_of_nonneg
abbrev AC2:=@List.countP_cons
abbrev AEv:=@List.set_append_right
abbrev AEE:=@List.filter_append
abbrev AES:=@ByteArray.size_append
abbrev AET:=@List.mem_take_iff_getElem
abbrev AF5:=@Array.mapM_eq_mapM_toList
abbrev AF6:=@BitVec.testBit_toNat
abbrev AF7:=@Nat.le_antisymm
abbrev AF8:=@List.foldl_append
abbrev AF9:=@List.cons.injEq
abbrev AFa:=@List.all_append
abbrev AFd:=@List.getElem?_cons_zero
abbrev AFe:=@List.drop_length
abbrev AFf:=@List.drop_left
abbrev AFl:=@List.filter_nil
abbrev AFm:=@List.any_append
abbrev AFo:=@Int.add_zero
abbrev AFq:=@List.length_range
abbrev AFs:=@List.flatMap_cons
abbrev AFt:=@List.mem_of_find?_eq_some
abbrev AFw:=@List.drop_drop
abbrev AFA:=@List.replicate_succ
abbrev AFB:=@bne_iff_ne
abbrev AFC:=@Nat.lt_succ_iff_lt_or_eq
abbrev AFD:=@Nat.add_sub_cancel_left
abbrev AFE:=@List.set_cons_zero
abbrev AFF:=@List.pairwise_singleton
abbrev AFG:=@List.length_pos_of_mem
abbrev AFH:=@List.getElem?_set_self
abbrev AFI:=@not_true_eq_false
abbrev AFJ:=@Nat.lt_trichotomy
abbrev AFK:=@Nat.add_mul
abbrev AFL:=@List.idxOf_append
abbrev AFM:=@List.ext_getElem?
abbrev AFN:=@List.map_nil
abbrev AFO:=@List.length_replicate
abbrev AFP:=@List.eq_nil_iff_forall_not_mem
abbrev AFQ:=@Int.toNat_lt
abbrev AFR:=@Option.getD_some
abbrev AFS:=@Nat.lt_succ_self
abbrev AFT:=@List.exists_mem_of_length_pos
abbrev AFU:=@List.replicate_succ'
abbrev AFV:=@List.mem_erase_of_ne
abbrev AFW:=@Go.World.cell?_of_block
abbrev AFX:=@Bool.true_and
abbrev AFY:=@Option.some.inj
abbrev AFZ:=@Nat.and_le_left
abbrev AG0:=@Array.length_toList
abbrev AG1:=@Option.isSome_some
abbrev AG2:=@Nat.lt_of_le_of_lt
abbrev AG3:=@Nat.le_of_lt
abbrev AG4:=@List.zip_cons_cons
abbrev AG5:=@List.set_cons_succ
abbrev AG6:=@List.prefix_append
abbrev AG7:=@List.mem_replicate
abbrev AG8:=@List.mem_filterMap
abbrev AG9:=@List.find?_eq_none
abbrev AGa:=@List.countP_append
abbrev AGb:=@Int.lt_of_le_of_lt
abbrev AGc:=@Option.some_or
abbrev AGd:=@List.take_take
abbrev AGe:=@Option.ext
abbrev AGg:=@Prod.mk.injEq
abbrev AGh:=@Nat.add_assoc
abbrev AGi:=@Int.ofNat.inj
abbrev AGk:=@Bool.false_or
abbrev AGl:=@Bool.and_comm
abbrev AGm:=@List.range'_succ
abbrev AGn:=@List.perm_middle
abbrev AGo:=@List.getElem_set
abbrev AGp:=@List.drop_append
abbrev AGq:=@Nat.zero_mul
abbrev AGr:=@List.find?_some
abbrev AGs:=@Int.sub_self
abbrev AGt:=@Int.add_comm
abbrev AGu:=@Nat.mod_lt
abbrev AGv:=@List.map_id
abbrev AGw:=@Prod.ext
inductive Ty where
 | int (k:IntKind)
 | bool
 | str
 | slice (e:Ty)
 | prod (a b:Ty)
 | agg (t:Ty)
 
 | ref (k:Nat)
 deriving DecidableEq
def MC:Nat->Value
 | 0=>.pointer none
 | 1=>.nilFunc
 | _=>.map none
@[reducible] def Ty.den:Ty->Type
 | .int _=>Int
 | .bool=>Bool
 | .str=>ByteArray
 | .slice e=>List e.den
 | .prod a b=>a.den×b.den
 | .agg t=>t.den
 | .ref _=>Unit
def Ty.size:Ty->Nat
 | .prod a b=>a.size+b.size
 | .agg t=>t.size
 | .int _=>1
 | .bool=>1
 | .str=>1
 | .slice _=>1
 | .ref _=>1
def Ty.dflt:(t:Ty)->t.den
 | .int _=>(0:Int)
 | .bool=>false
 | .str=>ByteArray.empty
 | .slice _=>[]
 | .prod a b=>(a.dflt,b.dflt)
 | .agg t=>t.dflt
 | .ref _=>()
def Ty.zero:Ty->List Value
 | .int k=>[.int k 0]
 | .bool=>[.bool false]
 | .str=>[.string ByteArray.empty]
 | .slice _=>[.slice none 0 0]
 | .prod a b=>a.zero++b.zero
 | .agg t=>t.zero
 | .ref k=>[MC k]
def Ty.wrap:Ty->List Value->Value
 | .agg _,cs=>.agg cs.toArray
 | .prod _ _,cs=>.agg cs.toArray
 | .int _,cs=>cs.headD undef
 | .bool,cs=>cs.headD undef
 | .str,cs=>cs.headD undef
 | .slice _,cs=>cs.headD undef
 | .ref _,cs=>cs.headD undef
def Ko (k:IntKind) (n:Int):Prop:=k.min<=n/\n<=k.max
def AQ:Nat:=140737488355328
def B6 (w:World) (O:Nat->Prop):(t:Ty)->List Value->t.den->Prop
 | .int k,cs,d=>cs=[.int k d]/\Ko k d
 | .bool,cs,d=>cs=[.bool d]
 | .str,cs,d=>cs=[.string d]/\ByteArray.size d<=AQ
 | .slice e,cs,d=>∃(a:Option Addr) (c:Nat),cs=[.slice a (List.length d) c]/\List.length d<=c/\List.length d<=AQ /\
   (d=[]\/∃ad:Addr,a=some ad/\¬O ad.block /\
    ∀(i:Nat) (x:e.den),d[i]?=some x->∃f:List Value,f.length=e.size/\(∀(j:Nat) (v:Value),f[j]?=some v->w.cell? (ad.add (i*e.size+j))=some v)/\B6 w O e f x)
 | .prod a b,cs,d=>∃c1 c2:List Value,cs=c1++c2/\B6 w O a c1 d.1/\B6 w O b c2 d.2
 | .agg t,cs,d=>B6 w O t cs d
 | .ref k,cs,_=>cs=[MC k]
def Bo (w:World) (O:Nat->Prop) (t:Ty) (v:Value) (d:t.den):Prop:=∃cs,B6 w O t cs d/\v=t.wrap cs
theorem CT (a:Addr) (n:Nat):(a.add n).block=a.block:=by unfold Addr.add;split<;>rfl
theorem Da (a:Addr) (i j:Nat):(a.add i).add j=a.add (i+j):=by
 unfold Addr.add;grind
theorem NR (a:Addr):a.add 0=a:=rfl
theorem iG (g j:Nat):(⟨g,0,none⟩:Addr).add j=⟨g,j,none⟩:=by
 unfold Addr.add;split<;>simp_all
theorem J7 (g i j:Nat):(⟨g,i,none⟩:Addr).add j=⟨g,i+j,none⟩:=by
 unfold Addr.add;split<;>simp_all
theorem Ty.size_pos:∀t:Ty,0<t.size
 | .int _=>by simp[Ty.size]
 | .bool=>by simp[Ty.size]
 | .str=>by simp[Ty.size]
 | .slice _=>by simp[Ty.size]
 | .ref _=>by simp[Ty.size]
 | .prod a b=>by have:=a.size_pos;simp[Ty.size];omega
 | .agg t=>by simpa[Ty.size] using t.size_pos
theorem B6.length {w:World} {O:Nat->Prop}:∀ {t:Ty} {cs:List Value} {d:t.den},B6 w O t cs d->cs.length=t.size
 | .int _,_,_,h=>by obtain⟨rfl,_⟩:=h;rfl
 | .bool,_,_,h=>by have h:_=_:=h;subst h;rfl
 | .str,_,_,h=>by obtain⟨rfl,_⟩:=h;rfl
 | .slice _,_,_,h=>by obtain⟨_,_,rfl,_⟩:=h;rfl
 | .ref _,_,_,h=>by have h:_=_:=h;subst h;rfl
 | .prod a b,_,_,h=>by
  obtain⟨c1,c2,rfl,h1,c⟩:=h;simp[Ty.size,B6.length h1,B6.length c]
 | .agg t,_,_,h=>by
  have h:B6 w O t _ _:=h;simpa[Ty.size] using B6.length h
theorem B6.one {w:World} {O:Nat->Prop}:∀ {t:Ty} {cs:List Value} {d:t.den},B6 w O t cs d->∀v∈cs,v.oneCell'=true
 | .int _,_,_,h=>by obtain⟨rfl,_⟩:=h;simp[Value.oneCell']
 | .bool,_,_,h=>by have h:_=_:=h;subst h;simp[Value.oneCell']
 | .str,_,_,h=>by obtain⟨rfl,_⟩:=h;simp[Value.oneCell']
 | .slice _,_,_,h=>by obtain⟨_,_,rfl,_⟩:=h;simp[Value.oneCell']
 | .ref k,_,_,h=>by
  have h:_=[MC k]:=h;subst h;match k with
  | 0=>simp[Value.oneCell',MC]
  | 1=>simp[Value.oneCell',MC]
  | _+2=>simp[Value.oneCell',MC]
 | .prod a b,_,_,h=>by
  obtain⟨c1,c2,rfl,h1,e⟩:=h;intro v c;rcases OF.1 c with c|c
  .exact B6.one h1 v c
  exact B6.one e v c
 | .agg t,_,_,h=>by
  have h:B6 w O t _ _:=h;exact B6.one h
theorem B6.mono {w w':World} {O O':Nat->Prop} (f:∀b,b<w.heap.size->¬O b->¬O' b) (k:∀b,b<w.heap.size->¬O b->w'.heap[b]?=w.heap[b]?) :
  ∀ {t:Ty} {cs:List Value} {d:t.den},B6 w O t cs d->B6 w' O' t cs d
 | .int _,_,_,h=>h
 | .bool,_,_,h=>h
 | .str,_,_,h=>h
 | .ref _,_,_,h=>h
 | .slice e,_,d,h=>by
  obtain⟨a,c,rfl,h1,l,m⟩:=h;refine⟨a,c,rfl,h1,l,?_⟩;rcases m with m|⟨ad,rfl,s,q⟩
  .exact .inl m
  by_cases o:d=[]
  .exact .inl o
  have y:ad.block<w.heap.size:=by
   obtain⟨x,r,rfl⟩:∃x r,d=x :: r:=List.exists_cons_of_ne_nil o;obtain⟨g,p,n,_⟩:=q 0 x rfl;have hp:=e.size_pos;have:g[0]?=some (g[0]'(by omega)):=At (by omega);have:=block_lt_of_cell (n 0 _ this)
   rwa [CT]at this
  refine .inr ⟨ad,rfl,f _ y s,λi x hi=>?_⟩;obtain⟨g,p,n,z⟩:=q i x hi;refine⟨g,p,λj v u=>?_,B6.mono f k z⟩;rw[AFW (w:=w) (w':=w')]
  .exact n j v u
  grind [CT]
 | .prod a b,_,_,h=>by
  obtain⟨c1,c2,rfl,h1,l⟩:=h;exact⟨c1,c2,rfl,B6.mono f k h1,B6.mono f k l⟩
 | .agg t,_,_,h=>by
  have h:B6 w O t _ _:=h;exact(B6.mono f k h:B6 w' O' t _ _)
theorem Bo.mono {w w':World} {O O':Nat->Prop} (c:∀b,b<w.heap.size->¬O b->¬O' b) (e:∀b,b<w.heap.size->¬O b->w'.heap[b]?=w.heap[b]?)
  {t:Ty} {v:Value} {d:t.den} (h:Bo w O t v d):Bo w' O' t v d :=
 let ⟨cs,h1,a⟩:=h
 ⟨cs,h1.mono c e,a⟩
theorem B6.zero (w:World) (O:Nat->Prop):∀t:Ty,B6 w O t t.zero t.dflt
 | .int k=>⟨rfl,by cases k<;>exact⟨by decide,by decide⟩⟩
 | .bool=>rfl
 | .str=>⟨rfl,by simp[Ty.dflt,AQ]⟩
 | .slice _=>⟨none,0,rfl,by simp[Ty.dflt],by simp[Ty.dflt,AQ],.inl rfl⟩
 | .ref _=>rfl
 | .prod a b=>⟨_,_,rfl,B6.zero w O a,B6.zero w O b⟩
 | .agg t=>(B6.zero w O t:B6 w O t _ _)
end
section
open Go
structure PV where
 t:Ty
 d:t.den
def BW (t:Ty) (p:PV):Option t.den:=if h:p.t=t then some (h▸p.d) else none
theorem Fu (t:Ty) (d:t.den):BW t ⟨t,d⟩=some d:=by simp[BW]
def Hc:(t:Ty)->Nat->t.den->Option PV
 | .prod a _,0,d=>some ⟨a,d.1⟩
 | .prod _ b,k+1,d=>Hc b k d.2
 | .int k,0,d=>some ⟨.int k,d⟩
 | .bool,0,d=>some ⟨.bool,d⟩
 | .str,0,d=>some ⟨.str,d⟩
 | .slice e,0,d=>some ⟨.slice e,d⟩
 | .agg t,0,d=>some ⟨.agg t,d⟩
 | .ref k,0,d=>some ⟨.ref k,d⟩
 | _,_,_=>none
def OI:(t:Ty)->Nat->t.den->PV->Option t.den
 | .prod a _,0,d,x=>(BW a x).map λy=>(y,d.2)
 | .prod _ b,k+1,d,x=>(OI b k d.2 x).map λy=>(d.1,y)
 | .int k,0,_,x=>BW (.int k) x
 | .bool,0,_,x=>BW .bool x
 | .str,0,_,x=>BW .str x
 | .slice e,0,_,x=>BW (.slice e) x
 | .agg t,0,_,x=>BW (.agg t) x
 | .ref k,0,_,x=>BW (.ref k) x
 | _,_,_,_=>none
def Kq:Ty->Nat->Option Nat
 | .prod _ _,0=>some 0
 | .prod a b,k+1=>(Kq b k).map (a.size + ·)
 | .int _,0=>some 0
 | .bool,0=>some 0
 | .str,0=>some 0
 | .slice _,0=>some 0
 | .agg _,0=>some 0
 | .ref _,0=>some 0
 | _,_=>none
def c9:Ty->Nat->Option Ty
 | .prod a _,0=>some a
 | .prod _ b,k+1=>c9 b k
 | .int k,0=>some (.int k)
 | .bool,0=>some .bool
 | .str,0=>some .str
 | .slice e,0=>some (.slice e)
 | .agg t,0=>some (.agg t)
 | .ref k,0=>some (.ref k)
 | _,_=>none
def Us:List Nat->(t:Ty)->t.den->Option PV
 | [],t,d=>some ⟨t,d⟩
 | k :: r,.agg t,d=>match Hc t k d with
  | some pv=>Us r pv.t pv.d
  | none=>none
 | _ :: _,_,_=>none
def WU:List Nat->(t:Ty)->t.den->PV->Option t.den
 | [],t,_,x=>BW t x
 | k :: r,.agg t,d,x=>match Hc t k d with
  | some pv=>match WU r pv.t pv.d x with
   | some y=>OI t k d ⟨pv.t,y⟩
   | none=>none
  | none=>none
 | _ :: _,_,_,_=>none
def MK:List Nat->Ty->Option Nat
 | [],_=>some 0
 | k :: r,.agg t=>match Kq t k,c9 t k with
  | some o,some u=>(MK r u).map (o + ·)
  | _,_=>none
 | _ :: _,_=>none
inductive AV where
 
 | p (t:Ty) (d:t.den)
 
 | raw (v:Value)
 
 | sr (n:Nat) (e:Ty) (lo hi:Nat)
 
 | ep (n:Nat) (e:Ty) (i:Nat) (path:List Nat) (off:Nat)
 
 | pc (e:Ty) (d:List e.den)
 
 | ip (t:Ty) (d:t.den)
 
 | bp (n:Nat) (path:List Nat) (off:Nat)
 | fn (f:FuncId)
 
 | clo (f:FuncId) (ns:List Nat)
 
 | mp (n:Nat)
 
 | yl (n:Nat)
 
 | nin (n:Nat) (e:Ty) (i len:Nat)
 
 | ag (l:List AV)
 | tup (l:List AV)
 
 | top
inductive Obj where
 | arr (et:TypeId) (e:Ty) (xs:List e.den)
 | box (et:TypeId) (st:Bool) (fs:List AV)
 
 | mapo (k v:Ty) (l:List (k.den×v.den))
 
 | itr (k v:Ty) (l:List (k.den×v.den)) (left:List Nat) (cur:Option Nat)
 
 | nest (et iet:TypeId) (k e:Ty) (xs:List (k.den×List e.den)) (h:Option Nat)
 
 | frame (tm:Array Value) (fs:List (Nat×AV))
 
 | loop (L:Go.Loop)
 
 | dfr
structure St where
 env:List (Nat×AV)
 objs:List (Nat×Obj)
def lk {α:Type}:Nat->List (Nat×α)->Option α
 | _,[]=>none
 | k,(j,v) :: r=>if k=j then some v else lk k r
def del {α:Type}:Nat->List (Nat×α)->List (Nat×α)
 | _,[]=>[]
 | k,(j,v) :: r=>if k=j then del k r else (j,v) :: del k r
def upd {α:Type}:Nat->α->List (Nat×α)->List (Nat×α)
 | _,_,[]=>[]
 | k,u,(j,v) :: r=>if k=j then (j,u) :: upd k u r else (j,v) :: upd k u r
def sub {α:Type} (xs:List α) (lo hi:Nat):List α:=(xs.drop lo).take (hi-lo)
theorem I9 {α:Type} (xs:List α):sub xs 0 xs.length=xs:=by simp[sub]
structure TI where
 ty:Ty
 offs:List (Nat×Nat):=[]
 el:TypeId:=0
 bytes:Nat
inductive RV where
 | p (t:Ty) (d:t.den)
 | own (et:TypeId) (e:Ty) (xs:List e.den)
@[reducible] def Kr:List Ty->Type
 | []=>Unit
 | t :: r=>t.den×Kr r
def Ty.flat:Ty->Bool
 | .slice _=>false
 | .prod a b=>a.flat&&b.flat
 | .agg t=>t.flat
 | .int _=>true
 | .bool=>true
 | .str=>true
 | .ref _=>true
def RV.flat:RV->Bool
 | .p t _=>t.flat
 | .own _ _ _=>false
structure AZ where
 ins:List Ty
 lend:Bool:=false
 pre:Kr ins->Prop
 out:Kr ins->List RV
structure Tb where
 ty:List (Nat×TI)
 fns:List (Nat×AZ)
 
 pure:List Nat:=[]
 
 nests:List (Nat×TypeId):=[]
 
 live:List Nat:=[]
def inB (n:Nat):List Nat->Bool
 | []=>false
 | m :: r=>if n=m then true else inB n r
def Hr:Value->AV
 | .int k n=>if k.min<=n/\n<=k.max then .p (.int k) n else .raw (.int k n)
 | .bool b=>.p .bool b
 | .string s=>if s.size<=AQ then .p .str s else .raw (.string s)
 | v=>.raw v
def Ap (σ:St):Operand->Option AV
 | .tmp t=>lk t σ.env
 | .const v=>some (Hr v)
 | .func f=>some (.fn f)
 | .global _=>none
def SR (e:Ty) (lo hi:Nat):Option Obj->Option (List e.den)
 | some (.arr _ a xs)=>BW (.slice e) ⟨.slice a,sub xs lo hi⟩
 | some (.nest _ _ k a xs none)=>BW (.slice e) ⟨.slice (.agg (.prod k (.slice a))),sub xs lo hi⟩
 | _=>none
def SU (e:Ty) (i:Nat):Option Obj->Option (List e.den)
 | some (.nest _ _ k a xs none)=>BW (.slice e) ⟨.slice a,(xs.getD i (k.dflt,[])).2⟩
 | _=>none
def FM (l:Bool) (σ:St):(t:Ty)->AV->Option t.den
 | t,.p u d=>BW t ⟨u,d⟩
 | .slice e,.sr n a lo hi=>if l=true/\a=e then SR e lo hi (lk n σ.objs) else none
 | .slice e,.nin n a i _=>if l=true/\a=e then SU e i (lk n σ.objs) else none
 | .slice _,.raw (.slice none 0 0)=>some []
 | _,_=>none
def ML {α β:Type}:Option α->Option β->Option (α×β)
 | some a,some b=>some (a,b)
 | _,_=>none
def Ks (l:Bool) (σ:St):List AV->(t:Ty)->Option t.den
 | [],_=>none
 | [x],t=>FM l σ t x
 | x :: y :: r,.prod a b=>ML (FM l σ a x) (Ks l σ (y :: r) b)
 | _ :: _ :: _,_=>none
def Lp (l:Bool) (σ:St):(t:Ty)->AV->Option t.den
 | .agg t,.ag fs=>Ks l σ fs t
 | t,x=>FM l σ t x
def Ad (n:Nat):List Nat->Bool
 | []=>false
 | m :: r=>if n=m then true else Ad n r
theorem Ao (n:Nat):∀l:List Nat,Ad n l=true↔n∈l
 | []=>by simp[Ad]
 | m :: r=>by
  simp only[Ad,DO];split
  .rename_i h;simp[h]
  rename_i h;simp[h,Ao n r]
mutual
def AV.fgt (hs:List Nat):AV->AV
 | .sr m e lo hi=>if Ad m hs=true then .top else .sr m e lo hi
 | .ep m e i path off=>if Ad m hs=true then .top else .ep m e i path off
 | .nin m e i len=>if Ad m hs=true then .top else .nin m e i len
 | .bp m path off=>if Ad m hs=true then .top else .bp m path off
 | .mp m=>if Ad m hs=true then .top else .mp m
 | .yl m=>if Ad m hs=true then .top else .yl m
 | .clo f ns=>if (ns.any λn=>Ad n hs)=true then .top else .clo f ns
 | .ag l=>.ag (AV.fgts hs l)
 | .tup l=>.tup (AV.fgts hs l)
 | .p t d=>.p t d
 | .pc e d=>.pc e d
 | .raw v=>.raw v
 | .ip t d=>.ip t d
 | .fn f=>.fn f
 | .top=>.top
def AV.fgts (hs:List Nat):List AV->List AV
 | []=>[]
 | x :: r=>AV.fgt hs x :: AV.fgts hs r
end
def CX (hs:List Nat):List (Nat×AV)->List (Nat×AV)
 | []=>[]
 | (s,x) :: r=>(s,x.fgt hs) :: CX hs r
def Obj.fgt (hs:List Nat):Obj->Obj
 | .arr et e xs=>.arr et e xs
 | .box et st fs=>.box et st (AV.fgts hs fs)
 | .mapo k v l=>.mapo k v l
 | .nest et b k e xs h=>.nest et b k e xs h
 | .frame i fs=>.frame i (CX hs fs)
 | .loop L=>.loop L
 | .itr c g d f a=>.itr c g d f a
 | .dfr=>.dfr
def A1 (a hs:List Nat):List (Nat×Obj)->List (Nat×Obj)
 | []=>[]
 | (n,o) :: r=>if Ad n a=true then A1 a hs r else (n,o.fgt hs) :: A1 a hs r
mutual
def AV.trn (n:Nat) (hs:List Nat):AV->AV
 | .nin m e i len=>if m=n\/Ad m hs=true then .top else .nin m e i len
 | .sr m e lo hi=>if Ad m hs=true then .top else .sr m e lo hi
 | .ep m e i path off=>if Ad m hs=true then .top else .ep m e i path off
 | .bp m path off=>if Ad m hs=true then .top else .bp m path off
 | .mp m=>if Ad m hs=true then .top else .mp m
 | .yl m=>if Ad m hs=true then .top else .yl m
 | .clo f ns=>if (ns.any λn=>Ad n hs)=true then .top else .clo f ns
 | .ag l=>.ag (AV.trns n hs l)
 | .tup l=>.tup (AV.trns n hs l)
 | .p t d=>.p t d
 | .pc e d=>.pc e d
 | .raw v=>.raw v
 | .ip t d=>.ip t d
 | .fn f=>.fn f
 | .top=>.top
def AV.trns (n:Nat) (hs:List Nat):List AV->List AV
 | []=>[]
 | x :: r=>AV.trn n hs x :: AV.trns n hs r
end
def FN (n:Nat) (hs:List Nat):List (Nat×AV)->List (Nat×AV)
 | []=>[]
 | (s,x) :: r=>(s,x.trn n hs) :: FN n hs r
def Obj.trn (n:Nat) (hs:List Nat):Obj->Obj
 | .arr et e xs=>.arr et e xs
 | .box et st fs=>.box et st (AV.trns n hs fs)
 | .mapo k v l=>.mapo k v l
 | .nest et b k e xs h=>.nest et b k e xs h
 | .frame i fs=>.frame i (FN n hs fs)
 | .loop L=>.loop L
 | .itr c g d f a=>.itr c g d f a
 | .dfr=>.dfr
def DR (n:Nat) (hs:List Nat):List (Nat×Obj)->List (Nat×Obj)
 | []=>[]
 | (m,o) :: r=>if Ad m (n :: hs)=true then DR n hs r else (m,o.trn n hs) :: DR n hs r
def Cv:Option Obj->Bool
 | some (.nest _ _ _ _ _ _)=>true
 | _=>false
def QT (σ:St) (e:Ty):AV->Option (List e.den)
 | .sr n a lo hi=>if Cv (lk n σ.objs)=true then none else Lp true σ (.slice e) (.sr n a lo hi)
 | x=>Lp true σ (.slice e) x
end
section
open Go
def AY (x y:ByteArray):Bool:=x.toList==y.toList
def Hk (x y:ByteArray):Bool:=Op.bytesLess x.toList y.toList
def CE (op:BinOp) (k:IntKind) (x y:Int):Int :=
 k.wrap (match op with
  | .and=>((BitVec.ofInt k.bits x &&& BitVec.ofInt k.bits y).toNat:Int)
  | .or=>((BitVec.ofInt k.bits x ||| BitVec.ofInt k.bits y).toNat:Int)
  | .xor=>((BitVec.ofInt k.bits x ^^^ BitVec.ofInt k.bits y).toNat:Int)
  | _=>((BitVec.ofInt k.bits x &&& ~~~BitVec.ofInt k.bits y).toNat:Int))
def Ut (k:IntKind) (x y:Int):Int:=k.wrap (x*2 ^ (min y.toNat k.bits))
def ZP (k:IntKind) (x y:Int):Int:=x.fdiv (2 ^ (min y.toNat k.bits))
def nU (k:IntKind) (a b:Int):BinOp->Prop×AV
 | .add=>(Ko k (a+b),.p (.int k) (a+b))
 | .sub=>(Ko k (a-b),.p (.int k) (a-b))
 | .mul=>(Ko k (a*b),.p (.int k) (a*b))
 | .quo=>(b≠0/\Ko k (a.tdiv b),.p (.int k) (a.tdiv b))
 | .rem=>(b≠0/\Ko k (a.tmod b),.p (.int k) (a.tmod b))
 | .and=>(True,.p (.int k) (CE .and k a b))
 | .or=>(True,.p (.int k) (CE .or k a b))
 | .xor=>(True,.p (.int k) (CE .xor k a b))
 | .andNot=>(True,.p (.int k) (CE .andNot k a b))
 | .shl=>(False,.top)
 | .shr=>(False,.top)
 | .eql=>(True,.p .bool (a==b))
 | .neq=>(True,.p .bool (a != b))
 | .lss=>(True,.p .bool (decide (a<b)))
 | .leq=>(True,.p .bool (decide (a<=b)))
 | .gtr=>(True,.p .bool (decide (b<a)))
 | .geq=>(True,.p .bool (decide (b<=a)))
def ZQ (a b:ByteArray):BinOp->Prop×AV
 | .add=>(a.size+b.size<=AQ,.p .str (a++b))
 | .eql=>(True,.p .bool (AY a b))
 | .neq=>(True,.p .bool (!AY a b))
 | .lss=>(True,.p .bool (Hk a b))
 | .leq=>(True,.p .bool (Hk a b||AY a b))
 | .gtr=>(True,.p .bool (!(Hk a b||AY a b)))
 | .geq=>(True,.p .bool (!Hk a b))
 | _=>(False,.top)
def bin (op:BinOp) (k:IntKind) (a:Int) (c:IntKind) (b:Int):Prop×AV :=
 match op with
 | .shl=>(0<=b,.p (.int k) (Ut k a b))
 | .shr=>(0<=b/\Ko k (ZP k a b),.p (.int k) (ZP k a b))
 | op=>if k=c then nU k a b op else (False,.top)
def zf1:Ty->AV
 | .slice _=>.raw (.slice none 0 0)
 | .ref k=>.raw (MC k)
 | t=>.p t t.dflt
def zfs:Ty->List AV
 | .prod a b=>zf1 a :: zfs b
 | t=>[zf1 t]
def pfs:(t:Ty)->t.den->List AV
 | .prod a b,d=>.p a d.1 :: pfs b d.2
 | .int k,d=>[.p (.int k) d]
 | .bool,d=>[.p .bool d]
 | .str,d=>[.p .str d]
 | .slice e,d=>[.p (.slice e) d]
 | .agg t,d=>[.p (.agg t) d]
 | .ref k,d=>[.p (.ref k) d]
def AV.cells:AV->Nat
 | .p t _=>t.size
 | .ag _=>0
 | .tup _=>0
 | _=>1
def CO:List AV->Nat->Nat
 | _,0=>0
 | [],_+1=>0
 | x :: r,k+1=>x.cells+CO r k
def J8 (st:Bool) (fs:List AV):List Nat->Option AV
 | []=>if st then some (.ag fs) else fs[0]?
 | [k]=>if st then fs[k]? else none
 | k :: r=>if st then match fs[k]? with
   | some (.p t d)=>(Us r t d).map λpv=>.p pv.t pv.d
   | _=>none
  else none
def QU (fs:List AV):List Nat->Option Nat
 | []=>some 0
 | k :: r=>match fs[k]? with
  | some (.p t _)=>(MK r t).map (CO fs k + ·)
  | some _=>if r.isEmpty then some (CO fs k) else none
  | none=>none
def Ty.cell1:Ty->Bool
 | .agg _=>false
 | .prod _ _=>false
 | .int _=>true
 | .bool=>true
 | .str=>true
 | .slice _=>true
 | .ref _=>true
def Cf (ty:Ty):AV->Bool
 | .p t _=>ty=t
 | .ag l=>match ty with|.agg t=>CO l l.length==t.size|_=>false
 | .tup _=>false
 | .top=>false
 | .raw u=>u.oneCell'&&ty.cell1
 | _=>ty.cell1
def OP (ty:Ty):AV->Bool
 | .top=>ty.cell1
 | x=>Cf ty x
def HE (n:Nat):Bool:=decide (1000000<=n)
mutual
def AV.frz (n:Nat) (e:Ty) (xs:List e.den):AV->AV
 | .sr m e' lo hi=>if m=n then (if e'=e then .p (.slice e) (sub xs lo hi) else .top) else .sr m e' lo hi
 | .ep m e' i path off=>if m=n then .top else .ep m e' i path off
 | .nin m e' i len=>if m=n then .top else .nin m e' i len
 | .ag l=>.ag (AV.frzs n e xs l)
 | .tup l=>.tup (AV.frzs n e xs l)
 | .p t d=>.p t d
 | .pc e d=>.pc e d
 | .raw v=>.raw v
 | .ip t d=>.ip t d
 | .bp m path off=>.bp m path off
 | .fn f=>.fn f
 | .clo f ns=>.clo f ns
 | .mp n=>.mp n
 | .yl n=>.yl n
 | .top=>.top
def AV.frzs (n:Nat) (e:Ty) (xs:List e.den):List AV->List AV
 | []=>[]
 | x :: r=>AV.frz n e xs x :: AV.frzs n e xs r
end
def Db (n:Nat) (e:Ty) (xs:List e.den):List (Nat×AV)->List (Nat×AV)
 | []=>[]
 | (s,x) :: r=>(s,x.frz n e xs) :: Db n e xs r
def BB (n:Nat) (e:Ty) (xs:List e.den):List (Nat×Obj)->List (Nat×Obj)
 | []=>[]
 | (m,.arr et a ys) :: r=>(m,.arr et a ys) :: BB n e xs r
 | (m,.box et st fs) :: r=>(m,.box et st (AV.frzs n e xs fs)) :: BB n e xs r
 | (m,.mapo k v l) :: r=>(m,.mapo k v l) :: BB n e xs r
 | (m,.nest et c k a ys h) :: r=>(m,.nest et c k a ys h) :: BB n e xs r
 | (m,.frame j fs) :: r=>(m,.frame j (Db n e xs fs)) :: BB n e xs r
 | (m,.loop L) :: r=>(m,.loop L) :: BB n e xs r
 | (m,.itr d i f g b) :: r=>(m,.itr d i f g b) :: BB n e xs r
 | (m,.dfr) :: r=>(m,.dfr) :: BB n e xs r
def nV (n:Nat) (σ:St):Option Obj->St
 | some (.arr _ e xs)=>⟨Db n e xs σ.env,BB n e xs (del n σ.objs)⟩
 | some (.nest _ _ k e xs none)=>⟨Db n (.agg (.prod k (.slice e))) xs σ.env,BB n (.agg (.prod k (.slice e))) xs (del n σ.objs)⟩
 | _=>σ
def frz (n:Nat) (σ:St):St:=if HE n=true then σ else nV n σ (lk n σ.objs)
mutual
def AV.drp (n:Nat):AV->AV
 | .sr m e' lo hi=>if m=n then .top else .sr m e' lo hi
 | .ep m e' i path off=>if m=n then .top else .ep m e' i path off
 | .nin m e' i len=>if m=n then .top else .nin m e' i len
 | .ag l=>.ag (AV.drps n l)
 | .tup l=>.tup (AV.drps n l)
 | .p t d=>.p t d
 | .pc e d=>.pc e d
 | .raw v=>.raw v
 | .ip t d=>.ip t d
 | .bp m path off=>.bp m path off
 | .fn f=>.fn f
 | .clo f ns=>.clo f ns
 | .mp n=>.mp n
 | .yl n=>.yl n
 | .top=>.top
def AV.drps (n:Nat):List AV->List AV
 | []=>[]
 | x :: r=>AV.drp n x :: AV.drps n r
end
def GE (n:Nat):List (Nat×AV)->List (Nat×AV)
 | []=>[]
 | (s,x) :: r=>(s,x.drp n) :: GE n r
def Bj (n:Nat):List (Nat×Obj)->List (Nat×Obj)
 | []=>[]
 | (m,.arr et a ys) :: r=>(m,.arr et a ys) :: Bj n r
 | (m,.box et st fs) :: r=>(m,.box et st (AV.drps n fs)) :: Bj n r
 | (m,.mapo k v l) :: r=>(m,.mapo k v l) :: Bj n r
 | (m,.nest et c k a ys h) :: r=>(m,.nest et c k a ys h) :: Bj n r
 | (m,.frame i fs) :: r=>(m,.frame i (GE n fs)) :: Bj n r
 | (m,.loop L) :: r=>(m,.loop L) :: Bj n r
 | (m,.itr d g e f b) :: r=>(m,.itr d g e f b) :: Bj n r
 | (m,.dfr) :: r=>(m,.dfr) :: Bj n r
mutual
def AV.names:AV->List Nat
 | .sr m _ _ _=>[m]
 | .ag l=>AV.namess l
 | .tup l=>AV.namess l
 | .p _ _=>[]
 | .pc _ _=>[]
 | .raw _=>[]
 | .ip _ _=>[]
 | .bp _ _ _=>[]
 | .ep _ _ _ _ _=>[]
 | .nin _ _ _ _=>[]
 | .fn _=>[]
 | .clo _ _=>[]
 | .mp _=>[]
 | .yl _=>[]
 | .top=>[]
def AV.namess:List AV->List Nat
 | []=>[]
 | x :: r=>x.names++AV.namess r
end
def HF (σ:St):Option Operand->Option (Option AV)
 | none=>some none
 | some x=>(Ap σ x).map some
def FO (σ:St) (e:Ty):Nat->List (Nat×Operand)->Option (List e.den)
 | _,[]=>some []
 | k,(i,x) :: r=>if i=k then match Ap σ x with
   | some av=>match Lp false σ e av,FO σ e (k+1) r with
    | some y,some ys=>some (y :: ys)
    | _,_=>none
   | none=>none
  else none
def JA:AV->Bool
 | .p (.prod _ _) _=>false
 | .p _ _=>true
 | .raw u=>u.oneCell'
 | .ag _=>false
 | .tup _=>false
 | .top=>false
 | _=>true
def GF (σ:St):Option AV->Option AV->Option AV
 | some (.p t _),some (.ag l)=>(Lp false σ t (.ag l)).map λd=>.p t d
 | _,x=>x
def D6 (σ:St) (offs:List (Nat×Nat)):List AV->List (Nat×Operand)->Option (List AV)
 | fs,[]=>some fs
 | fs,(i,x) :: r=>match GF σ fs[i]? (Ap σ x) with
  | some av=>if JA av=true/\(fs[i]?.map AV.cells)=some av.cells/\offs[i]?=some (CO fs i,av.cells) then D6 σ offs (fs.set i av) r else none
  | none=>none
def Ge (l:Bool) (σ:St):(ts:List Ty)->List Operand->Option (Kr ts)
 | [],[]=>some ()
 | t :: ts,x :: xs=>match Ap σ x with
  | some av=>match Lp l σ t av,Ge l σ ts xs with
   | some y,some ys=>some (y,ys)
   | _,_=>none
  | none=>none
 | _,_=>none
def iH (name:Nat):RV->AV
 | .p t d=>.p t d
 | .own _ e xs=>.sr name e 0 xs.length
def Tk (name:Nat):RV->List (Nat×Obj)
 | .p _ _=>[]
 | .own et e xs=>[(name,.arr et e xs)]
def OQ:Nat->List RV->List AV
 | _,[]=>[]
 | n,r :: l=>iH n r :: OQ (n+10000) l
def DJ:Nat->List RV->List (Nat×Obj)
 | _,[]=>[]
 | n,r :: l=>Tk n r++DJ (n+10000) l
def J9 (name:Nat):List RV->AV
 | []=>.raw (.tuple #[])
 | [r]=>iH name r
 | l=>.tup (OQ name l)
def IC:(t:Ty)->t.den->t.den->Bool
 | .int _,a,b=>(a:Int)==b
 | .bool,a,b=>(a:Bool)==b
 | .str,a,b=>(a:ByteArray)==b
 | .prod t u,a,b=>IC t a.1 b.1&&IC u a.2 b.2
 | .agg t,a,b=>IC t a b
 | .slice _,_,_=>false
 | .ref _,_,_=>false
def nW:Ty->Bool
 | .prod (.int _) (.int _)=>true
 | _=>false
def ZR:Ty->Bool
 | .int _=>true
 | .bool=>true
 | .str=>true
 | .prod _ _=>false
 | .agg t=>nW t
 | .slice _=>false
 | .ref _=>false
def Bg (a b:Ty) (k:a.den):List (a.den×b.den)->Option b.den
 | []=>none
 | x :: r=>if IC a k x.1=true then some x.2 else Bg a b k r
def Gc (a b:Ty) (k:a.den) (v:b.den):List (a.den×b.den)->List (a.den×b.den)
 | []=>[(k,v)]
 | x :: r=>if IC a k x.1=true then (k,v) :: r else x :: Gc a b k v r
abbrev Bc:=Option (Prop×AV×List (Nat×Obj))
def ID (x:AV) (lo hi:Option AV):Bc :=
 match x,lo,hi with
 | .p (.slice e) l,none,some (.p (.int _) h)=>some (0<=h/\h<=l.length,.p (.slice e) (sub l 0 h.toNat),[])
 | .p (.slice e) l,some (.p (.int _) a),none=>some (0<=a/\a<=l.length,.p (.slice e) (sub l a.toNat l.length),[])
 | .p (.slice e) l,some (.p (.int _) a),some (.p (.int _) h)=>some (0<=a/\a<=h/\h<=l.length,.p (.slice e) (sub l a.toNat h.toNat),[])
 | .p .str s,none,some (.p (.int _) h)=>some (0<=h/\h<=s.size,.p .str (s.extract 0 h.toNat),[])
 | .p .str s,some (.p (.int _) a),none=>some (0<=a/\a<=s.size,.p .str (s.extract a.toNat s.size),[])
 | .p .str s,some (.p (.int _) a),some (.p (.int _) h)=>some (0<=a/\a<=h/\h<=s.size,.p .str (s.extract a.toNat h.toNat),[])
 | .sr n e b c,none,some (.p (.int _) h)=>some (0<=h/\h<=(c-b:Nat),.sr n e b (b+h.toNat),[])
 | .sr n e b c,some (.p (.int _) a),none=>some (0<=a/\a<=(c-b:Nat),.sr n e (b+a.toNat) c,[])
 | .sr n e b c,some (.p (.int _) a),some (.p (.int _) h)=>some (0<=a/\a<=h/\h<=(c-b:Nat),.sr n e (b+a.toNat) (b+h.toNat),[])
 | _,_,_=>none
def HG:Option AV->Bc
 | some v=>some (True,v,[])
 | none=>none
def Lq:Option AV->Option AV->Option AV->Bc
 | some (.p .bool true),x,_=>HG x
 | some (.p .bool false),_,y=>HG y
 | _,_,_=>none
def Kt (d:Nat) (t:TypeId):Option TI->Bc
 | some ⟨.agg u,_,_,_⟩=>some (True,.bp d [] 0,[(d,.box t true (zfs u))])
 | some ⟨.int k,_,_,_⟩=>some (True,.bp d [] 0,[(d,.box t false [zf1 (.int k)])])
 | some ⟨.bool,_,_,_⟩=>some (True,.bp d [] 0,[(d,.box t false [zf1 .bool])])
 | some ⟨.str,_,_,_⟩=>some (True,.bp d [] 0,[(d,.box t false [zf1 .str])])
 | some ⟨.slice e,_,_,_⟩=>some (True,.bp d [] 0,[(d,.box t false [zf1 (.slice e)])])
 | some ⟨.ref k,_,_,_⟩=>some (True,.bp d [] 0,[(d,.box t false [zf1 (.ref k)])])
 | _=>none
def Uu (d:Nat) (t:TypeId):Option TI->Option AV->Bc
 | some ⟨.agg u,_,_,_⟩,some (.p (.agg a) v)=>if u=a then some (True,.bp d [] 0,[(d,.box t true (pfs a v))]) else none
 | some ⟨.agg u,_,_,_⟩,some (.ag l)=>if l.map AV.cells=(zfs u).map AV.cells then some (True,.bp d [] 0,[(d,.box t true l)]) else none
 | some ⟨.int k,_,_,_⟩,some v=>if Cf (.int k) v then some (True,.bp d [] 0,[(d,.box t false [v])]) else none
 | some ⟨.bool,_,_,_⟩,some v=>if Cf .bool v then some (True,.bp d [] 0,[(d,.box t false [v])]) else none
 | some ⟨.str,_,_,_⟩,some v=>if Cf .str v then some (True,.bp d [] 0,[(d,.box t false [v])]) else none
 | some ⟨.slice e,_,_,_⟩,some v=>if Cf (.slice e) v then some (True,.bp d [] 0,[(d,.box t false [v])]) else none
 | some ⟨.ref k,_,_,_⟩,some v=>if Cf (.ref k) v then some (True,.bp d [] 0,[(d,.box t false [v])]) else none
 | _,_=>none
def Jl (σ:St) (parts:List (Nat×Operand)):Option TI->Bc
 | some ⟨.agg u,offs,_,_⟩=>HG ((D6 σ offs (zfs u) parts).map AV.ag)
 | _=>none
def Bt (a:Bool) (d:Nat) (n:Nat) (el:TypeId) (e:Ty):Option (List e.den)->Bc
 | some xs=>some (xs.length=n/\n*e.size<=16777216,if a then .p (.slice e) xs else .sr d e 0 n,if a then [] else [(d,.arr el e xs)])
 | none=>none
def Bk (a:Bool) (σ:St) (d:Nat) (n:Nat) (parts:List (Nat×Operand)):Option TI->Bc
 | some ⟨.slice e,_,el,_⟩=>Bt a d n el e (FO σ e 0 parts)
 | _=>none
def Ku (d:Nat) (el b:TypeId) (n:Nat) (k e:Ty):Option k.den->AV->Bc
 | some a,.raw (.slice none 0 0)=>some (n=1/\k.size+1<=16777216,.sr d (.agg (.prod k (.slice e))) 0 1,[(d,.nest el b k e [(a,[])] none)])
 | some a,.pc c l=>if c=e then some ((n=1/\k.size+1<=16777216)/\List.length l=0,.sr d (.agg (.prod k (.slice e))) 0 1,[(d,.nest el b k e [(a,[])] none)]) else none
 | _,_=>none
def Jm (σ:St) (d:Nat) (el a:TypeId) (n:Nat):Ty->Option AV->Bc
 | .agg (.prod k (.slice e)),some (.ag [x,y])=>Ku d el a n k e (FM false σ k x) y
 | _,_=>none
def Jn (σ:St) (d:Nat) (a:TypeId) (n:Nat):List (Nat×Operand)->Option TI->Bc
 | [(0,x)],some ⟨.slice t,_,el,_⟩=>Jm σ d el a n t (Ap σ x)
 | _,_=>none
def G9 (tb:Tb) (σ:St) (d:Nat) (n:Nat) (parts:List (Nat×Operand)) (ti:Option TI):Option TypeId->Bc
 | some a=>Jn σ d a n parts ti
 | none=>Bk (inB d tb.pure) σ d n parts ti
def JB (ty:Ty) (fs:List AV) (a:List Nat) (off:Nat):Option AV->Bc
 | some v=>if Cf ty v=true/\QU fs a=some off then some (True,v,[]) else none
 | none=>none
def El (ty:Ty) (a:List Nat) (off:Nat):Option Obj->Bc
 | some (.box _ st fs)=>JB ty fs a off (J8 st fs a)
 | _=>none
def JC (ty e:Ty) (a:List Nat) (off:Nat):Option PV->Bc
 | some ⟨t,d⟩=>if ty=t/\MK a e=some off then some (True,.p t d,[]) else none
 | none=>none
def JD (ty e:Ty) (i:Nat) (a:List Nat) (off:Nat):Option (List e.den)->Bc
 | some ys=>JC ty e a off (Us a e (ys.getD i e.dflt))
 | none=>none
def Ow (n:Nat) (ty:Ty) (i off:Nat) (k e:Ty) (x:k.den×List e.den):List Nat->Bc
 | [0]=>if ty=k/\off=0 then some (True,.p k x.1,[]) else none
 | [1]=>if ty=.slice e/\off=k.size then some (True,.nin n e i x.2.length,[]) else none
 | _=>none
def Em (n:Nat) (ty e:Ty) (i:Nat) (b:List Nat) (off:Nat):Option Obj->Bc
 | some (.arr _ a xs)=>JD ty e i b off (BW (.slice e) ⟨.slice a,xs⟩)
 | some (.nest _ _ k a xs none)=>if e=.agg (.prod k (.slice a)) then Ow n ty i off k a (xs.getD i (k.dflt,[])) b else none
 | _=>none
def KA (σ:St):Option TI->Option AV->Bc
 | some ti,some (.bp n a off)=>El ti.ty a off (lk n σ.objs)
 | some ti,some (.ep n e i a off)=>Em n ti.ty e i a off (lk n σ.objs)
 | some ti,some (.ip u v)=>if ti.ty=u then some (True,.p u v,[]) else none
 | _,_=>none
def JE (o:Option (Nat×Nat)) (a:Option Nat):Option PV->Bc
 | some ⟨t,d⟩=>if o.map (·.1)=a then some (True,.ip t d,[]) else none
 | none=>none
def WV (v:Nat->AV):Option (Nat×Nat)->Bc
 | some (k,_)=>some (True,v k,[])
 | none=>none
def QV (f:Nat) (o:Option (Nat×Nat)):AV->Bc
 | .bp n a off=>WV (λk=>.bp n (a++[f]) (off+k)) o
 | .ep n e i a off=>WV (λk=>.ep n e i (a++[f]) (off+k)) o
 | .ip (.agg u) v=>JE o (Kq u f) (Hc u f v)
 | _=>none
def Hd (f:Nat):Option TI->Option AV->Bc
 | some ⟨.agg _,offs,0,_⟩,some x=>QV f offs[f]? x
 | _,_=>none
def Kv (offs:List (Nat×Nat)) (x:AV):AV->Bc
 | .p (.int _) k=>if 0<=k then QV k.toNat offs[k.toNat]? x else none
 | _=>none
def GG:Option TI->Option AV->Option AV->Bc
 | some ⟨.slice e,_,_,_⟩,some (.p (.slice a) l),some (.p (.int _) k)=>if e=a then some (0<=k/\k<l.length,.ip a (l.getD k.toNat a.dflt),[]) else none
 | some ⟨.slice e,_,_,_⟩,some (.sr n a lo hi),some (.p (.int _) k)=>if e=a then some (0<=k/\k<(hi-lo:Nat),.ep n a (lo+k.toNat) [] 0,[]) else none
 | some ⟨.agg _,offs,_+1,_⟩,some x,some i=>Kv offs x i
 | _,_,_=>none
def Ee:Option TI->Option AV->Option AV->Bc
 | some ⟨.str,_,_,_⟩,some (.p .str s),some (.p (.int _) k)=>some (0<=k/\k<s.size,.p (.int .u8) ((s.data.getD k.toNat 0).toNat:Int),[])
 | _,_,_=>none
def WW:Option AV->Bc
 | some (.bp n a off)=>some (True,.bp n a off,[])
 | some (.ip t v)=>some (True,.ip t v,[])
 | some (.ep n e i a off)=>some (True,.ep n e i a off,[])
 | _=>none
def nX (a b:Bool):BinOp->Bc
 | .eql=>some (True,.p .bool (a==b),[])
 | .neq=>some (True,.p .bool (a != b),[])
 | _=>none
def Tl:Option TI->Bool
 | some ⟨.bool,_,_,_⟩=>true
 | _=>false
def SV (op:BinOp) (ti:Option TI):Option AV->Option AV->Bc
 | some (.p (.int k) a),some (.p (.int c) b)=>some ((bin op k a c b).1,(bin op k a c b).2,[])
 | some (.p .str a),some (.p .str b)=>some ((ZQ a b op).1,(ZQ a b op).2,[])
 | some (.p .bool a),some (.p .bool b)=>if Tl ti=true then nX a b op else none
 | _,_=>none
def qUn:UnOp->Option AV->Bc
 | .not,some (.p .bool b)=>some (True,.p .bool (!b),[])
 | .neg,some (.p (.int k) a)=>some (Ko k (0-a),.p (.int k) (0-a),[])
 | _,_=>none
def Tm (l:List Int):ByteArray:=⟨(l.map λx=>UInt8.ofNat x.toNat).toArray⟩
def KB:Option TI->Option TI->Option AV->Bc
 | some ⟨.int _,_,_,_⟩,some ⟨.int k,_,_,_⟩,some (.p (.int _) a)=>some (Ko k a,.p (.int k) a,[])
 | some ⟨.slice (.int .u8),_,_,_⟩,some ⟨.str,_,_,_⟩,some (.p (.slice (.int .u8)) l)=>some (True,.p .str (Tm l),[])
 | _,_,_=>none
def MM (d:Nat) (el:TypeId) (e:Ty) (n m:Int):Option TI->Bc
 | some ti=>some (n=m/\0<=n/\n.toNat*ti.bytes<=AQ,.sr d e 0 n.toNat,[(d,.arr el e (List.replicate n.toNat e.dflt))])
 | none=>none
def JF (tb:Tb) (d:Nat):Option TI->Option AV->Option AV->Bc
 | some ⟨.slice e,_,el,_⟩,some (.p (.int .i64) n),some (.p (.int .i64) m)=>MM d el e n m (lk el tb.ty)
 | _,_,_=>none
def Fk:Option TI->Option AV->Option (Option AV)->Option (Option AV)->Bc
 | some ⟨.slice e,_,_,_⟩,some (.p (.slice d) l),some a,some h=>if e=d then ID (.p (.slice d) l) a h else none
 | some ⟨.slice e,_,_,_⟩,some (.sr n d b c),some a,some h=>if e=d then ID (.sr n d b c) a h else none
 | some ⟨.str,_,_,_⟩,some (.p .str s),some a,some h=>ID (.p .str s) a h
 | _,_,_,_=>none
def D7:Option TI->Option AV->Option AV->Option AV->Bc
 | some ⟨.slice e,_,_,_⟩,some (.p (.slice c) l),some (.p (.int _) a),some (.p (.int _) b)=>if e=c then some (a=(List.length l:Int)/\b=(List.length l:Int),.pc c l,[]) else none
 | _,_,_,_=>none
def Eo (i:Nat):Option AV->Bc
 | some (.tup l)=>HG l[i]?
 | _=>none
def Uv:Option TI->Option AV->Bc
 | some ⟨.slice _,_,_,_⟩,some (.p (.slice _) l)=>some (True,.p (.int .i64) (l.length:Int),[])
 | some ⟨.slice _,_,_,_⟩,some (.sr _ _ lo hi)=>some (True,.p (.int .i64) ((hi-lo:Nat):Int),[])
 | some ⟨.slice _,_,_,_⟩,some (.nin _ _ _ len)=>some (True,.p (.int .i64) (len:Int),[])
 | some ⟨.slice _,_,_,_⟩,some (.raw (.slice none 0 0))=>some (True,.p (.int .i64) (0:Int),[])
 | some ⟨.str,_,_,_⟩,some (.p .str s)=>some (True,.p (.int .i64) (s.size:Int),[])
 | _,_=>none
def FW (d:Nat) (el:TypeId) (e:Ty):Option TI->Option (List e.den)->Bc
 | some ti,some ys=>some (ys.length*ti.bytes<=AQ,.sr d e 0 ys.length,[(d,.arr el e ys)])
 | _,_=>none
def Ep (tb:Tb) (σ:St) (d:Nat) (v:AV):Option TI->Bc
 | some ⟨.slice e,_,el,_⟩=>FW d el e (lk el tb.ty) (QT σ e v)
 | _=>none
def Kw (d:Nat) (el:TypeId) (e:Ty) (l:List e.den):Option TI->Option (List e.den)->Bc
 | some ti,some ys=>some (0<ys.length/\(l.length+ys.length)*ti.bytes<=AQ,.sr d e 0 (l.length+ys.length),[(d,.arr el e (l++ys))])
 | _,_=>none
def Jo (tb:Tb) (σ:St) (d:Nat) (e:Ty) (l:List e.den) (v:AV):Option TI->Bc
 | some ⟨.slice a,_,el,_⟩=>if a=e then Kw d el e l (lk el tb.ty) (QT σ e v) else none
 | _=>none
def Dn (tb:Tb) (σ:St) (d:Nat) (t u:TypeId):Option AV->Option AV->Bc
 | some (.raw (.slice none 0 0)),some v=>if t=u then Ep tb σ d v (lk t tb.ty) else none
 | some (.pc e l),some v=>if t=u then Jo tb σ d e l v (lk t tb.ty) else none
 | _,_=>none
def SW:Option AV->Option AV->Bc
 | some (.p (.int k) a),some (.p (.int c) b)=>if k=c then some (True,.p (.int k) (if b<a then b else a),[]) else none
 | _,_=>none
def JG:Option AV->Option AV->Option AV->Bc
 | some (.p (.int k) a),some (.p (.int d) b),some (.p (.int e) c)=>if k=d/\k=e then some (True,.p (.int k) (if c<(if b<a then b else a) then c else (if b<a then b else a)),[]) else none
 | _,_,_=>none
def OT (k:IntKind) (a:Int):Option AV->Option Int
 | some (.p (.int c) b)=>if k=c then some (if b<a then b else a) else none
 | _=>none
def Fv (σ:St) (k:IntKind):Option Int->List Operand->Option Int
 | some a,x :: r=>Fv σ k (OT k a (Ap σ x)) r
 | o,_=>o
def QW (k:IntKind):Option Int->Bc
 | some m=>some (True,.p (.int k) m,[])
 | none=>none
def OU (σ:St) (r:List Operand):Option AV->Bc
 | some (.p (.int k) a)=>QW k (Fv σ k (some a) r)
 | _=>none
def SX:Option AV->Option AV->Bc
 | some (.p (.int k) a),some (.p (.int c) b)=>if k=c then some (True,.p (.int k) (if a<b then b else a),[]) else none
 | _,_=>none
def Kx (d:Nat) (sp:AZ):Option (Kr sp.ins)->Bc
 | some ds=>if sp.lend=false\/(sp.out ds).all RV.flat=true then some (sp.pre ds,J9 d (sp.out ds),DJ d (sp.out ds)) else none
 | none=>none
def Jp (σ:St) (d:Nat) (xs:List Operand):Option AZ->Bc
 | some sp=>Kx d sp (Ge sp.lend σ sp.ins xs)
 | none=>none
def MN (tb:Tb) (σ:St) (d:Nat) (xs:List Operand):Option AV->Bc
 | some (.fn f)=>Jp σ d xs (lk f tb.fns)
 | _=>none
def Eq (tb:Tb) (σ:St) (d:Nat):Builtin->List Operand->List TypeId->Bc
 | .len,[x],[t]=>Uv (lk t tb.ty) (Ap σ x)
 | .append,[x,y],[t,u]=>Dn tb σ d t u (Ap σ x) (Ap σ y)
 | .min,[x,y],[_,_]=>SW (Ap σ x) (Ap σ y)
 | .max,[x,y],[_,_]=>SX (Ap σ x) (Ap σ y)
 | .min,[x,y,z],[_,_,_]=>JG (Ap σ x) (Ap σ y) (Ap σ z)
 | .min,x :: y :: z :: u :: r,_=>OU σ (y :: z :: u :: r) (Ap σ x)
 | _,_,_=>none
def IE (σ:St):List Operand->Option (List Nat)
 | []=>some []
 | x :: r=>match Ap σ x,IE σ r with
  | some (.bp n [] 0),some ns=>some (n :: ns)
  | _,_=>none
def QX (f:FuncId):Option (List Nat)->Bc
 | some ns=>some (True,.clo f ns,[])
 | none=>none
def dA (σ:St) (fn:Fn) (first a:List Operand):Bc :=
 match fn,first with
 | .func f,[]=>QX f (IE σ a)
 | _,_=>none
def Gl (d:Nat):Option TI->Option TI->Bc
 | some a,some te=>some (True,.mp d,[(d,.mapo a.ty te.ty [])])
 | _,_=>none
def Gm (tb:Tb) (d:Nat):List (Nat×Nat)->Bc
 | [(k,e)]=>Gl d (lk k tb.ty) (lk e tb.ty)
 | _=>none
def GH (tb:Tb) (d:Nat):Option TI->Bc
 | some ⟨.ref 2,offs,_,_⟩=>Gm tb d offs
 | _=>none
def MO (a:Ty) (ok:Bool) (r:Option a.den):Bc :=
 if ok then some (True,.tup [.p a (r.getD a.dflt),.p .bool r.isSome],[]) else some (True,.p a (r.getD a.dflt),[])
def Ky (a b:Ty) (l:List (a.den×b.den)) (ok:Bool):Option a.den->Bc
 | some k=>if ZR a=true then MO b ok (Bg a b k l) else none
 | none=>none
def IG (tb:Tb) (σ:St) (kid c:Nat) (x:AV) (ok:Bool):Option Obj->Bc
 | some (.mapo a b l)=>if (lk kid tb.ty).map TI.ty=some a/\(lk kid tb.ty).map TI.el=some 0/\(lk c tb.ty).map TI.ty=some b then Ky a b l ok (Lp false σ a x) else none
 | _=>none
def JH (tb:Tb) (σ:St) (ok:Bool):Option TI->Option AV->Option AV->Bc
 | some ⟨.ref 2,[(k,e)],_,_⟩,some (.mp n),some x=>IG tb σ k e x ok (lk n σ.objs)
 | _,_,_=>none
def D8 (tb:Tb) (σ:St) (d:Nat) (xs:List Operand) (ts:List TypeId):Callee->Bc
 | .builtin b=>Eq tb σ d b xs ts
 | .value g=>MN tb σ d xs (Ap σ g)
 | _=>none
def aq (tb:Tb) (σ:St) (d:Nat):Op->Bc
 | .move x=>HG (Ap σ x)
 | .assign x=>HG (Ap σ x)
 | .pick c x y=>Lq (Ap σ c) (Ap σ x) (Ap σ y)
 | .alloc t=>Kt d t (lk t tb.ty)
 | .box t x=>Uu d t (lk t tb.ty) (Ap σ x)
 | .build t parts=>Jl σ parts.toList (lk t tb.ty)
 | .buildSlice t n parts=>G9 tb σ d n parts.toList (lk t tb.ty) (lk d tb.nests)
 | .load t x=>KA σ (lk t tb.ty) (Ap σ x)
 | .fieldAddr s x f=>Hd f (lk s tb.ty) (Ap σ x)
 | .indexAddr t x i=>GG (lk t tb.ty) (Ap σ x) (Ap σ i)
 | .index t x i=>Ee (lk t tb.ty) (Ap σ x) (Ap σ i)
 | .nilCheck x=>WW (Ap σ x)
 | .binOp op t x y _=>SV op (lk t tb.ty) (Ap σ x) (Ap σ y)
 | .unOp op _ x=>qUn op (Ap σ x)
 | .convert s t x=>KB (lk s tb.ty) (lk t tb.ty) (Ap σ x)
 | .makeSlice t l c=>JF tb d (lk t tb.ty) (Ap σ l) (Ap σ c)
 | .slice t x none (some hi) (some b)=>D7 (lk t tb.ty) (Ap σ x) (Ap σ hi) (Ap σ b)
 | .slice t x lo hi none=>Fk (lk t tb.ty) (Ap σ x) (HF σ lo) (HF σ hi)
 | .extract x i=>Eo i (Ap σ x)
 | .call c=>D8 tb σ d c.args.toList c.argTypes.toList c.callee
 | .makeFunc fn first a=>dA σ fn first.toList a.toList
 | .makeMap t none=>GH tb d (lk t tb.ty)
 | .lookup t x i ok=>JH tb σ ok (lk t tb.ty) (Ap σ x) (Ap σ i)
 | _=>none
def QY:AV->Bool
 | .ag _=>false
 | _=>true
def Kz (st:Bool) (fs:List AV) (v:AV):List Nat->Option (List AV)
 | []=>if st then match v with
   | .p (.agg u) d=>some (pfs u d)
   | .ag l=>some l
   | _=>none
  else if QY v then some [v] else none
 | [k]=>if st&&QY v then some (fs.set k v) else none
 | k :: r=>if st then match fs[k]?,v with
   | some (.p t d),.p u x=>(WU r t d ⟨u,x⟩).map λy=>fs.set k (.p t y)
   | _,_=>none
  else none
abbrev DI:=Option (Prop×St)
def FX (σ:St) (n:Nat) (et:TypeId) (st:Bool) (ty:Ty) (fs:List AV) (b:List Nat) (off:Nat) (v:AV):Option AV->Option (List AV)->DI
 | some u,some a=>if OP ty u=true/\Cf ty v=true/\QU fs b=some off/\a.map AV.cells=fs.map AV.cells then some (True,⟨σ.env,upd n (.box et st a) σ.objs⟩) else none
 | _,_=>none
def Dp (σ:St) (n:Nat) (ty:Ty) (a:List Nat) (off:Nat) (v:AV):Option Obj->DI
 | some (.box et st fs)=>FX σ n et st ty fs a off v (J8 st fs a) (Kz st fs v a)
 | _=>none
def GI (σ:St) (n:Nat) (et:TypeId) (e:Ty) (i:Nat) (a:List Nat) (off:Nat) (ys:List e.den):Option e.den->DI
 | some z=>if MK a e=some off then some (True,⟨σ.env,upd n (.arr et e (ys.set i z)) σ.objs⟩) else none
 | none=>none
def Er (σ:St) (n:Nat) (et:TypeId) (ty e:Ty) (i:Nat) (a:List Nat) (off:Nat):Option (List e.den)->Option ty.den->DI
 | some ys,some w=>GI σ n et e i a off ys (WU a e (ys.getD i e.dflt) ⟨ty,w⟩)
 | _,_=>none
def OV (σ:St) (d n:Nat) (et a:TypeId) (k e:Ty) (xs:List (k.den×List e.den)) (i bytes:Nat):Option (List e.den)->DI
 | some ys=>if (lk d σ.objs).isNone=true/\ys.isEmpty=false then some (((xs.getD i (k.dflt,[])).2.length+ys.length)*bytes<=AQ,
   ⟨(d,.sr d e 0 ((xs.getD i (k.dflt,[])).2.length+ys.length)) :: FN n [] σ.env,(d,.arr a e ((xs.getD i (k.dflt,[])).2++ys)) :: (n,.nest et a k e xs (some i)) :: DR n [] σ.objs⟩) else none
 | none=>none
def Tn (σ:St) (d n:Nat) (el:TypeId) (b:Ty) (i:Nat) (v:AV):Option TI->Option Obj->DI
 | some ti,some (.nest et a k e xs none)=>if b=e/\a=el/\HE n=false then OV σ d n et a k e xs i ti.bytes (QT σ e v) else none
 | _,_=>none
def QZ (tb:Tb) (σ:St) (d n:Nat) (a:Ty) (i:Nat) (v:AV):Option TI->DI
 | some ⟨.slice e,_,el,_⟩=>if a=e then Tn σ d n el e i v (lk el tb.ty) (lk n σ.objs) else none
 | _=>none
def K0 (σ:St) (n m:Nat) (et a:TypeId) (k e:Ty) (xs:List (k.den×List e.den)) (i hi:Nat):Option (List e.den)->DI
 | some ys=>some (hi=ys.length,⟨FN n [m] σ.env,(n,.nest et a k e (xs.set i ((xs.getD i (k.dflt,[])).1,ys)) none) :: DR n [m] σ.objs⟩)
 | none=>none
def MP (σ:St) (n m:Nat) (et a:TypeId) (k e:Ty) (xs:List (k.den×List e.den)) (i hi:Nat):Option Obj->DI
 | some (.arr c b ys)=>if c=a/\HE m=false/\HE n=false then K0 σ n m et a k e xs i hi (BW (.slice e) ⟨.slice b,ys⟩) else none
 | _=>none
def LA (σ:St) (d n m:Nat) (et b:TypeId) (k e:Ty) (hi a bytes:Nat) (xs:List (k.den×List e.den)):Option (List (k.den×List e.den))->DI
 | some ys=>some (hi=xs.length/\a=ys.length/\(xs.length+ys.length)*bytes<=AQ,
   ⟨(d,.sr n (.agg (.prod k (.slice e))) 0 (xs.length+ys.length)) :: CX [n,m] σ.env,(n,.nest et b k e (xs++ys) none) :: A1 [n,m] [n,m] σ.objs⟩)
 | none=>none
def MQ (σ:St) (d n m:Nat) (et a:TypeId) (k e:Ty) (hi c bytes:Nat) (xs:List (k.den×List e.den)):Option Obj->DI
 | some (.nest _ f g b ys none)=>if f=a/\n≠m/\HE m=false then LA σ d n m et a k e hi c bytes xs (BW (.slice (.agg (.prod k (.slice e)))) ⟨.slice (.agg (.prod g (.slice b))),ys⟩) else none
 | _=>none
def Tp (σ:St) (d n:Nat) (et b:TypeId) (k e:Ty) (hi bytes:Nat) (xs:List (k.den×List e.den)):AV->DI
 | .sr m _ 0 a=>MQ σ d n m et b k e hi a bytes xs (lk m σ.objs)
 | _=>none
def Qa (σ:St) (d m:Nat) (el b:TypeId) (k e:Ty) (ys:List (k.den×List e.den)) (a bytes:Nat):DI :=
 if (lk d σ.objs).isNone=true/\HE m=false then some (a=ys.length/\ys.length*bytes<=AQ,
  ⟨(d,.sr d (.agg (.prod k (.slice e))) 0 ys.length) :: CX [m] σ.env,(d,.nest el b k e ys none) :: A1 [m] [m] σ.objs⟩) else none
def Qb (σ:St) (d m:Nat) (el:TypeId) (t:Ty) (a:Nat):Option TI->Option Obj->DI
 | some ti,some (.nest _ b k e ys none)=>if t=.agg (.prod k (.slice e)) then Qa σ d m el b k e ys a ti.bytes else none
 | _,_=>none
def dB (tb:Tb) (σ:St) (d:Nat):AV->Option TI->DI
 | .sr m _ 0 a,some ⟨.slice t,_,el,_⟩=>Qb σ d m el t a (lk el tb.ty) (lk m σ.objs)
 | _,_=>none
def MR (σ:St) (n m:Nat) (ty:Ty) (et a:TypeId) (k e:Ty) (xs:List (k.den×List e.den)) (i hi:Nat) (b:List Nat) (off:Nat):DI :=
 if ty=.slice e/\b=[1]/\off=k.size then MP σ n m et a k e xs i hi (lk m σ.objs) else none
def Dq (σ:St) (n:Nat) (ty e:Ty) (i:Nat) (b:List Nat) (off:Nat) (v:AV):Option Obj->DI
 | some (.arr et a xs)=>Er σ n et ty e i b off (BW (.slice e) ⟨.slice a,xs⟩) (Lp false σ ty v)
 | some (.nest et c k a xs (some j))=>match v with
  | .sr m E 0 hi=>if e=.agg (.prod k (.slice a))/\i=j/\E=a then MR σ n m ty et c k a xs i hi b off else none
  | _=>none
 | _=>none
def II (σ:St):Option TI->Option AV->Option AV->DI
 | some ti,some (.bp n a off),some v=>Dp σ n ti.ty a off v (lk n σ.objs)
 | some ti,some (.ep n e i a off),some v=>Dq σ n ti.ty e i a off v (lk n σ.objs)
 | _,_,_=>none
def FY (σ:St) (d n:Nat) (et:TypeId) (e:Ty) (hi:Nat) (bytes:Nat):Option (List e.den)->Option (List e.den)->DI
 | some a,some ys=>some ((hi+ys.length)*bytes<=AQ,⟨(d,.sr n e 0 (hi+ys.length)) :: GE n σ.env,upd n (.arr et e (a.take hi++ys)) (Bj n σ.objs)⟩)
 | _,_=>none
def Cl (σ:St) (d n:Nat) (el:TypeId) (e:Ty) (hi:Nat) (v:AV) (ys:Option (List e.den)):Option TI->Option Obj->DI
 | some ti,some (.arr et a xs)=>if et=el then FY σ d n et e hi ti.bytes (BW (.slice e) ⟨.slice a,xs⟩) ys else none
 | some ti,some (.nest et b k a xs none)=>if et=el/\e=.agg (.prod k (.slice a)) then Tp σ d n et b k a hi ti.bytes xs v else none
 | _,_=>none
def Es (tb:Tb) (σ:St) (d:Nat) (n:Nat) (a:Ty) (hi:Nat) (v:AV):Option TI->DI
 | some ⟨.slice e,_,el,_⟩=>if e=a then Cl σ d n el e hi v (QT σ e v) (lk el tb.ty) (lk n σ.objs) else none
 | _=>none
def Ef (tb:Tb) (σ:St) (d:Option Nat) (t u:TypeId):Option AV->Option AV->DI
 | some (.sr n e 0 hi),some v=>match d with
  | some d=>if t=u/\HE n=false then Es tb σ d n e hi v (lk t tb.ty) else none
  | none=>none
 | some (.nin n e i _),some v=>match d with
  | some d=>if t=u then QZ tb σ d n e i v (lk t tb.ty) else none
  | none=>none
 | some (.raw (.slice none 0 0)),some v=>match d with
  | some d=>if t=u then dB tb σ d v (lk t tb.ty) else none
  | none=>none
 | _,_=>none
def Et (tb:Tb) (σ:St) (d:Option Nat):Builtin->List Operand->List TypeId->DI
 | .append,[x,y],[t,u]=>Ef tb σ d t u (Ap σ x) (Ap σ y)
 | _,_,_=>none
def D9 (tb:Tb) (σ:St) (d:Option Nat) (xs:List Operand) (ts:List TypeId):Callee->DI
 | .builtin b=>Et tb σ d b xs ts
 | _=>none
def HA (σ:St) (n:Nat) (a b:Ty) (l:List (a.den×b.den)):Option a.den->Option b.den->DI
 | some k,some v=>if ZR a=true then some (True,⟨σ.env,upd n (.mapo a b (Gc a b k v l)) σ.objs⟩) else none
 | _,_=>none
def GJ (tb:Tb) (σ:St) (n:Nat) (kid:Nat) (x y:AV):Option Obj->DI
 | some (.mapo a b l)=>if (lk kid tb.ty).map TI.ty=some a/\(lk kid tb.ty).map TI.el=some 0 then HA σ n a b l (Lp false σ a x) (Lp false σ b y) else none
 | _=>none
def LB (tb:Tb) (σ:St):Option TI->Option AV->Option AV->Option AV->DI
 | some ⟨.ref 2,[(k,_)],_,_⟩,some (.mp n),some x,some y=>GJ tb σ n k x y (lk n σ.objs)
 | _,_,_,_=>none
def EA (r:DI):Option Nat->DI
 | none=>r
 | some _=>none
def Hl (tb:Tb) (σ:St) (d:Option Nat):Op->DI
 | .store t x y=>EA (II σ (lk t tb.ty) (Ap σ x) (Ap σ y)) d
 | .mapUpdate t m x y=>EA (LB tb σ (lk t tb.ty) (Ap σ m) (Ap σ x) (Ap σ y)) d
 | .call c=>D9 tb σ d c.args.toList c.argTypes.toList c.callee
 | _=>none
def St.add (σ:St) (v:AV) (obs:List (Nat×Obj)):Option Nat->St
 | some d=>⟨(d,v) :: σ.env,obs++σ.objs⟩
 | none=>⟨σ.env,obs++σ.objs⟩
def NS:Option AV->List Nat
 | some v=>v.names
 | none=>[]
def Dd (σ:St):List (Nat×Operand)->List Nat
 | []=>[]
 | (_,x) :: r=>NS (Ap σ x)++Dd σ r
def NT:Option AV->List Nat
 | some (.ag l)=>AV.namess l
 | _=>[]
def FZ (σ:St):List (Nat×Operand)->List Nat
 | []=>[]
 | (_,x) :: r=>NT (Ap σ x)++FZ σ r
def Cj (σ:St):Option AV->Option AV->List Nat
 | some (.ep n _ _ _ _),some v=>if Cv (lk n σ.objs)=true then [] else v.names
 | _,_=>[]
def KC:Option AV->Option AV->Option AV->List Nat
 | some (.mp _),some v,some u=>v.names++u.names
 | _,_,_=>[]
def DS (σ:St):Op->List Nat
 | .buildSlice _ _ parts=>Dd σ parts.toList
 | .build _ parts=>FZ σ parts.toList
 | .store _ x y=>Cj σ (Ap σ x) (Ap σ y)
 | .mapUpdate _ m x y=>KC (Ap σ m) (Ap σ x) (Ap σ y)
 | _=>[]
def DK:List Nat->St->St
 | [],σ=>σ
 | n :: r,σ=>DK r (frz n σ)
def Bl (obs:List (Nat×Obj)) (σ:St):Bool:=obs.all λp=>(lk p.1 σ.objs).isNone
def OW (tb:Tb) (σ:St) (o:Oper):Bc->DI
 | some (vc,v,obs)=>if Bl obs σ=true then some (vc,σ.add v obs o.dst) else none
 | none=>Hl tb σ o.dst o.op
def Tq (tb:Tb) (o:Oper) (σ:St):DI:=OW tb σ o (aq tb σ (o.dst.getD 0) o.op)
def JJ (tb:Tb) (o:Oper) (σ:St):DI:=Tq tb o (DK (DS σ o.op) σ)
def SY (a:Bool):Option AV->Option Bool
 | some (.p .bool b)=>some (b==a)
 | _=>none
def LC (σ:St) (a:Bool):Option Tmp->Option Bool
 | some g=>SY a (lk g σ.env)
 | none=>none
def E7 (ops:List Oper) (σ:St):Option (Nat×Bool)->Option Bool
 | none=>some true
 | some (j,a)=>LC σ a ((ops[j]?).bind (·.dst))
def ZN (vc:Prop):DI->DI
 | some (a,σ)=>some (vc/\a,σ)
 | none=>none
mutual
def B1 (tb:Tb) (ops:List Oper):List Oper->St->DI
 | [],σ=>some (True,σ)
 | o :: r,σ=>evG tb ops o r σ (E7 ops σ o.guard)
def evG (tb:Tb) (ops:List Oper) (o:Oper) (r:List Oper) (σ:St):Option Bool->DI
 | some true=>evK tb ops r (JJ tb o σ)
 | some false=>B1 tb ops r (σ.add (.raw undef) [] o.dst)
 | none=>none
def evK (tb:Tb) (ops:List Oper) (r:List Oper):DI->DI
 | some (vc,σ)=>ZN vc (B1 tb ops r σ)
 | none=>none
end
end
section
open Go Go.RowKit
theorem CU {w:World} {b:Nat} {o:_root_.Go.Obj} (h:w.heap[b]?=some o):b<w.heap.size:=by grind
def blk:Value->Option Nat
 | .slice (some a) _ _=>some a.block
 | .pointer (some a)=>some a.block
 | .map (some b)=>some b
 | _=>none
def bk (v:Value) (b:Nat):Prop:=blk v=some b\/∃a:Array Value,v=.tuple a/\∃x∈a.toList,blk x=some b
theorem MS {a:Option Addr} {m c b:Nat}:bk (.slice a m c) b↔blk (.slice a m c)=some b:=by
 constructor
 .intro h;rcases h with h|⟨_,h,_⟩
  .exact h
  cases h
 exact .inl
def plc:Value->Value
 | .tuple a=>a.getD 0 undef
 | v=>v
def De (loc:Value) (sz lo hi:Nat) (v:Value):Prop :=
 ∃(a:Option Addr) (m c:Nat),loc=.slice a m c/\lo<=hi/\hi<=m/\∃(b:Option Addr) (d:Nat),v=.slice b (hi-lo) d/\hi-lo<=d/\(lo=0->b=a/\d=c)/\(lo<hi->b=a.map (·.add (lo*sz)))
structure Vw where
 w:World
 
 O:Nat->Prop
 
 L:Nat->Prop
 
 ρ:Nat->Value
def Lay (u v:Value):Prop:=v=u\/(u=.slice none 0 0/\∃a:Option Addr,v=.slice a 0 0)
def WX (V:Vw):AV->Value->Prop
 | .p t d,v=>Bo V.w V.O t v d
 | .pc e d,v=>Bo V.w V.O (.slice e) v d/\∃a:Option Addr,v=.slice a (List.length d) (List.length d)
 | .raw u,v=>v=u
 | .sr n e lo hi,v=>V.L n/\De (plc (V.ρ n)) e.size lo hi v
 | .ep n e i _ off,v=>V.L n/\∃g m c:Nat,plc (V.ρ n)=.slice (some ⟨g,0,none⟩) m c/\i<m/\v=.pointer (some ⟨g,i*e.size+off,none⟩)
 | .nin n _ i len,v=>V.L n/\∃(h:Array Value) (a:Option Addr) (c:Nat) (u:Value),V.ρ n=.tuple h/\h[i+1]?=some u/\Lay u v/\v=.slice a len c
 | .ip t d,v=>∃(ad:Addr) (cs:List Value),v=.pointer (some ad)/\¬V.O ad.block/\(∀(j:Nat) (u:Value),cs[j]?=some u->V.w.cell? (ad.add j)=some u)/\B6 V.w V.O t cs d
 | .bp n _ off,v=>V.L n/\∃b:Nat,V.ρ n=.pointer (some ⟨b,0,none⟩)/\v=.pointer (some ⟨b,off,none⟩)
 | .fn f,v=>v=.func (.func f) #[] #[]
 | .clo f ns,v=>v=.func (.func f) #[] (ns.map V.ρ).toArray/\∀n∈ns,V.L n/\∃b:Nat,V.ρ n=.pointer (some ⟨b,0,none⟩)
 | .mp n,v=>V.L n/\∃b:Nat,V.ρ n=.map (some b)/\v=.map (some b)
 | .yl n,v=>V.L n/\∃b:Nat,V.ρ n=.pointer (some ⟨b,0,none⟩)/\v=.func (.yield b) #[] #[]
 | .top,_=>True
 | .ag _,_=>False
 | .tup _,_=>False
def OJ (V:Vw):AV->List Value->Prop
 | .p t d,cs=>B6 V.w V.O t cs d
 | av,cs=>∃v,cs=[v]/\v.oneCell'=true/\WX V av v
def Ds (V:Vw):List AV->List Value->Prop
 | [],cs=>cs=[]
 | x :: r,cs=>∃c1 c2:List Value,cs=c1++c2/\OJ V x c1/\Ds V r c2
def Tr (V:Vw):AV->Value->Prop
 | .ag l,v=>∃cs:List Value,v=.agg cs.toArray/\Ds V l cs
 | x,v=>WX V x v
def KD (V:Vw):List AV->List Value->Prop
 | [],a=>a=[]
 | x :: r,a=>∃(v:Value) (l:List Value),a=v :: l/\Tr V x v/\KD V r l
theorem Tr.of1 {V:Vw} {x:AV} {v:Value} (h:WX V x v):Tr V x v:=by
 cases x;case ag l=>exact h.elim
 all_goals exact h
def CD (V:Vw):AV->Value->Prop
 | .ag l,v=>∃cs:List Value,v=.agg cs.toArray/\Ds V l cs
 | .tup l,v=>∃a:List Value,v=.tuple a.toArray/\KD V l a
 | av,v=>WX V av v
theorem A2Z {V:Vw} {x:AV} {v:Value} (h:Tr V x v):CD V x v:=by
 cases x;case tup l=>exact(show False from h).elim
 all_goals exact h
def D5 (w:World) (O:Nat->Prop) (e:Ty) (cells:List Value) (xs:List e.den):Prop :=
 ∀(i:Nat) (x:e.den),xs[i]?=some x->∃a:List Value,a.length=e.size/\(∀(j:Nat) (u:Value),a[j]?=some u->cells[i*e.size+j]?=some u)/\B6 w O e a x
def Ox (w:World) (O:Nat->Prop) (k v:Ty):List MapEntry->List (k.den×v.den)->Prop
 | [],[]=>True
 | e :: a,x :: xs=>Bo w O k e.key x.1/\Bo w O v e.val x.2/\Ox w O k v a xs
 | _,_=>False
def dC (a:Array MapEntry) (clock:Nat):Prop:=(a.toList.map (·.born)).Nodup/\∀b∈a.toList.map (·.born),b<clock
def SZ (V:Vw) (et:TypeId) (e:Ty) (xs:List e.den) (loc:Value):Prop:=xs.length<=AQ/\∃cells:List Value,V.w.ownsRow 0 et e.size loc xs.length cells/\D5 V.w V.O e cells xs
def dE (V:Vw) (a:TypeId) (k e:Ty) (hole:Bool) (cells:List Value) (i:Nat) (x:k.den×List e.den) (u:Value):Prop :=
 ∃(c1:List Value) (v:Value),(∀(j:Nat) (z:Value),(c1++[v])[j]?=some z->cells[i*(k.size+1)+j]?=some z)/\B6 V.w V.O k c1 x.1 /\
  ((hole=true/\u=.slice none 0 0)\/(hole=false/\Lay u v/\SZ V a e x.2 u))
structure Lr (V:Vw) (et iet:TypeId) (k e:Ty) (xs:List (k.den×List e.den)) (h:Option Nat) (o:Value) (ins:List Value) (cells:List Value):Prop where
 max:xs.length<=AQ
 len:ins.length=xs.length
 own:V.w.ownsRow 0 et (k.size+1) o xs.length cells
 row:∀(i:Nat) (x:k.den×List e.den) (u:Value),xs[i]?=some x->ins[i]?=some u->dE V iet k e (h==some i) cells i x u
 dist:∀(i j b:Nat) (u v:Value),ins[i]?=some u->ins[j]?=some v->blk u=some b->blk v=some b->i=j
 out:∀(i b:Nat) (u:Value),ins[i]?=some u->blk u=some b->blk o≠some b
def Shp (loc o:Value) (ins:List Value):Prop:=loc=.tuple (o :: ins).toArray\/(loc=.slice none 0 0/\o=.slice none 0 0/\ins=[])
def AFg (V:Vw) (k v:Ty) (l:List (k.den×v.den)) (left:List Nat) (d:Option Nat) (r:Nat):Prop :=
 ∃(b:Nat) (a:Array MapEntry) (clock c:Nat) (seen:Array Nat),V.w.heap[r]?=some (.mapIter (some b) c seen clock)/\¬V.O b/\V.w.heap[b]?=some (.map a clock)/\Ox V.w V.O k v a.toList l/\dC a clock /\
  (∀s∈a.toList.map (·.born),s<c)/\c<=clock/\left.Nodup/\(∀i,i∈left↔∃e,a[i]?=some e/\e.born∉seen)/\(∀i,d=some i->∃e,a[i]?=some e/\seen.back?=some e.born)
def BA (V:Vw):Obj->Value->Prop
 | .arr et e xs,loc=>SZ V et e xs loc
 | .nest et d k e xs h,loc=>∃(o:Value) (ins cells:List Value),Shp loc o ins/\Lr V et d k e xs h o ins cells
 | .box et st fs,loc=>(st=false->fs.length=1)/\∃(b:Nat) (cs:List Value),loc=.pointer (some ⟨b,0,none⟩)/\V.w.heap[b]?=some (.cells cs.toArray et (0,0))/\Ds V fs cs
 | .mapo k v l,loc=>∃(b:Nat) (a:Array MapEntry) (clock:Nat),loc=.map (some b)/\V.w.heap[b]?=some (.map a clock)/\Ox V.w V.O k v a.toList l/\dC a clock
 | .frame f fs,loc=>loc=.pointer none/\∀s x,lk s fs=some x->CD V x (f.getD s undef)
 | .itr k v l left c,loc=>∃r:Nat,loc=.pointer (some ⟨r,0,none⟩)/\AFg V k v l left c r
 | .loop L,loc=>∃b:Nat,loc=.pointer (some ⟨b,0,none⟩)/\V.w.heap[b]?=some (.loop L)
 | .dfr,loc=>∃b:Nat,loc=.pointer (some ⟨b,0,none⟩)/\V.w.heap[b]?=some (.deferred (some []))
structure Frm (K:Nat->Prop) (w0 w:World):Prop where
 os:w.os=w0.os
 tape:w.tape=w0.tape
 output:w.output=w0.output
 size:w0.heap.size<=w.heap.size
 block:∀k,K k->w.heap[k]?=w0.heap[k]?
def Hb (σ:St) (n:Nat):Prop:=∃o,lk n σ.objs=some o
def own (O0:Nat->Prop) (σ:St) (ρ:Nat->Value) (b:Nat):Prop:=O0 b\/∃n,Hb σ n/\bk (ρ n) b
def vw (w:World) (O0:Nat->Prop) (σ:St) (ρ:Nat->Value):Vw:=⟨w,own O0 σ ρ,Hb σ,ρ⟩
def AAo:Value->Bool
 | .slice _ _ _=>false
 | .tuple _=>false
 | _=>true
structure Fp where
 ds:List Deferred:=[]
 pin:List (Nat×Value):=[]
structure CJ (w0:World) (K O0:Nat->Prop) (nt:Nat) (ds:Fp) (σ:St) (ρ:Nat->Value) (a:Act) (w:World):Prop where
 frm:Frm K w0 w
 nt:a.tmps.size=nt
 defers:a.defers=ds.ds
 pin:∀p∈ds.pin,Hb σ p.1/\ρ p.1=p.2/\(AAo p.2=true\/HE p.1=true)
 objs:∀n o,lk n σ.objs=some o->BA (vw w O0 σ ρ) o (ρ n)
 free:∀n b,Hb σ n->bk (ρ n) b->¬K b/\¬O0 b
 dist:∀n m b,Hb σ n->Hb σ m->bk (ρ n) b->bk (ρ m) b->n=m
 env:∀s v,lk s σ.env=some v->CD (vw w O0 σ ρ) v (a.tmps.getD s undef)
structure Cw (V V':Vw):Prop where
 O:∀b,b<V.w.heap.size->¬V.O b->¬V'.O b
 L:∀n,V.L n->V'.L n
 ρ:∀n,V.L n->V'.ρ n=V.ρ n
 heap:∀b,b<V.w.heap.size->¬V.O b->V'.w.heap[b]?=V.w.heap[b]?
theorem WX.keeps {V V':Vw} (h:Cw V V'):∀ {x:AV} {v:Value},WX V x v->WX V' x v
 | .p _ _,_,b=>Bo.mono h.O h.heap b
 | .pc _ _,_,b=>⟨Bo.mono h.O h.heap b.1,b.2⟩
 | .raw _,_,b=>b
 | .sr n e lo hi,_,⟨a,hs⟩=>⟨h.L n a,by rw[h.ρ n a];exact hs⟩
 | .ep n e i _ off,_,⟨a,hs⟩=>⟨h.L n a,by rw[h.ρ n a];exact hs⟩
 | .nin n _ i len,_,⟨a,hs⟩=>⟨h.L n a,by rw[h.ρ n a];exact hs⟩
 | .ip t d,_,⟨ad,cs,c,g,k,m⟩=>by
  have l:ad.block<V.w.heap.size:=by
   have hp:=t.size_pos;have q:=m.length;have:=block_lt_of_cell (k 0 (cs[0]'(by omega)) (At (by omega)))
   rwa [CT]at this
  refine⟨ad,cs,c,h.O _ l g,λj u o=>?_,B6.mono h.O h.heap m⟩;rw[AFW (w:=V.w) (w':=V'.w)]
  .exact k j u o
  rw[CT];exact h.heap _ l g
 | .bp n _ off,_,⟨a,hs⟩=>⟨h.L n a,by rw[h.ρ n a];exact hs⟩
 | .fn _,_,b=>b
 | .clo f ns,_,⟨c,hs⟩=>by
  refine⟨?_,λn hn=>⟨h.L n (hs n hn).1,by rw[h.ρ n (hs n hn).1];exact(hs n hn).2⟩⟩;rw[c]
  congr 2
  exact QE λn hn=>(h.ρ n (hs n hn).1).symm
 | .mp n,_,⟨a,hs⟩=>⟨h.L n a,by rw[h.ρ n a];exact hs⟩
 | .yl n,_,⟨a,hs⟩=>⟨h.L n a,by rw[h.ρ n a];exact hs⟩
 | .top,_,_=>trivial
 | .ag _,_,b=>b
 | .tup _,_,b=>b
theorem OJ.keeps {V V':Vw} (h:Cw V V') {x:AV} {cs:List Value} (a:OJ V x cs):OJ V' x cs:=by
 cases x;case p t d=>exact(B6.mono h.O h.heap a:B6 V'.w V'.O t cs d)
 all_goals
  obtain⟨v,h1,b,c⟩:=a;exact⟨v,h1,b,c.keeps h⟩
theorem Ds.keeps {V V':Vw} (h:Cw V V'):∀ {l:List AV} {cs:List Value},Ds V l cs->Ds V' l cs
 | [],_,b=>b
 | _ :: _,_,⟨c1,c2,e,h1,a⟩=>⟨c1,c2,e,h1.keeps h,a.keeps h⟩
theorem Tr.keeps {V V':Vw} (h:Cw V V') {x:AV} {v:Value} (a:Tr V x v):Tr V' x v:=by
 cases x;case ag l=>obtain⟨cs,h1,b⟩:=a;exact⟨cs,h1,b.keeps h⟩
 all_goals exact Tr.of1 (WX.keeps h a)
theorem KD.keeps {V V':Vw} (h:Cw V V'):∀ {l:List AV} {a:List Value},KD V l a->KD V' l a
 | [],_,c=>c
 | _ :: _,_,⟨v,l,e,h1,b⟩=>⟨v,l,e,h1.keeps h,b.keeps h⟩
theorem CD.keeps {V V':Vw} (h:Cw V V') {x:AV} {v:Value} (a:CD V x v):CD V' x v:=by
 cases x;case ag l=>obtain⟨cs,h1,b⟩:=a;exact⟨cs,h1,b.keeps h⟩
 case tup l=>obtain⟨cs,h1,b⟩:=a;exact⟨cs,h1,b.keeps h⟩
 all_goals
  simp only[CD]at a ⊢;exact WX.keeps h a
theorem D5.keeps {V V':Vw} (h:Cw V V') {e:Ty} {cells:List Value} {xs:List e.den} (d:D5 V.w V.O e cells xs):D5 V'.w V'.O e cells xs:=λi x hi =>
 let ⟨a,h1,b,c⟩:=d i x hi
 ⟨a,h1,b,B6.mono h.O h.heap c⟩
theorem Ox.mono {w w':World} {O O':Nat->Prop} (a:∀b,b<w.heap.size->¬O b->¬O' b) (c:∀b,b<w.heap.size->¬O b->w'.heap[b]?=w.heap[b]?) {k v:Ty} :
  ∀ {d:List MapEntry} {l:List (k.den×v.den)},Ox w O k v d l->Ox w' O' k v d l
 | [],[],h=>h
 | [],_ :: _,h=>h.elim
 | _ :: _,[],h=>h.elim
 | _ :: _,_ :: _,⟨h1,e,f⟩=>⟨h1.mono a c,e.mono a c,f.mono a c⟩
theorem Jq {w w':World} {et:TypeId} {sz n:Nat} {loc:Value} {cells:List Value} (d:∀b,blk loc=some b->w'.heap[b]?=w.heap[b]?) (h:w.ownsRow 0 et sz loc n cells):w'.ownsRow 0 et sz loc n cells:=by
 obtain⟨h1,a⟩:=h;refine⟨h1,?_⟩;rcases a with a|⟨g,cap,c,rfl,e,f,i⟩
 .exact .inl a
 exact .inr ⟨g,cap,c,rfl,e,(d g rfl).trans f,i⟩
theorem SZ.keeps {V V':Vw} (h:Cw V V') {et:TypeId} {e:Ty} {xs:List e.den} {loc:Value} (a:∀b,blk loc=some b->V'.w.heap[b]?=V.w.heap[b]?) (f:SZ V et e xs loc):SZ V' et e xs loc:=by
 obtain⟨d,cells,h1,c⟩:=f;exact⟨d,cells,Jq a h1,c.keeps h⟩
theorem dE.keeps {V V':Vw} (h:Cw V V') {c:TypeId} {k e:Ty} {hole:Bool} {cells:List Value} {i:Nat} {x:k.den×List e.den} {u:Value} (j:∀b,blk u=some b->V'.w.heap[b]?=V.w.heap[b]?) (l:dE V c k e hole cells i x u):dE V' c k e hole cells i x u:=by
 obtain⟨c1,v,h1,d,a⟩:=l;refine⟨c1,v,h1,B6.mono h.O h.heap d,?_⟩;rcases a with a|⟨a,f,g⟩
 .exact .inl a
 exact .inr ⟨a,f,g.keeps h j⟩
theorem BF {o:Value} {ins:List Value} {b:Nat}:bk (.tuple (o :: ins).toArray) b↔blk o=some b\/∃(i:Nat) (u:Value),ins[i]?=some u/\blk u=some b:=by
 constructor
 .rintro (h|⟨d,h,x,c,a⟩)
  .cases h
  injection h with h
  subst h;simp only[DO]at c;rcases c with rfl|c
  .exact .inl a
  obtain⟨i,hi⟩:=List.getElem?_of_mem c;exact .inr ⟨i,x,hi,a⟩
 rintro (h|⟨i,u,hi,a⟩)
 .exact .inr ⟨_,rfl,o,by simp,h⟩
 exact .inr ⟨_,rfl,u,by simp[VN hi],a⟩
theorem Shp.bk {loc o:Value} {ins:List Value} {b:Nat} (h:Shp loc o ins):bk loc b↔bk (.tuple (o :: ins).toArray) b:=by
 rcases h with rfl|⟨rfl,rfl,rfl⟩
 .exact Iff.rfl
 grind [BF,MS,blk]
theorem Shp.plc {loc o:Value} {ins:List Value} (h:Shp loc o ins):plc loc=o:=by
 rcases h with rfl|⟨rfl,rfl,rfl⟩<;>rfl
theorem Shp.tup {loc o:Value} {ins:List Value} {a:Array Value} (h:Shp loc o ins) (b:loc=.tuple a):a=(o :: ins).toArray:=by
 subst b;rcases h with h|⟨h,_⟩
 .injection h
 cases h
theorem Lr.keeps {V V':Vw} (h:Cw V V') {et g:TypeId} {k e:Ty} {xs:List (k.den×List e.den)} {f:Option Nat} {o:Value} {ins cells:List Value} (d:∀b,bk (.tuple (o :: ins).toArray) b->V'.w.heap[b]?=V.w.heap[b]?) (a:Lr V et g k e xs f o ins cells):Lr V' et g k e xs f o ins cells :=
 ⟨a.max,a.len,Jq (λb h1=>d b (BF.2 (.inl h1))) a.own,λi x u h1 c=>(a.row i x u h1 c).keeps h (λb j=>d b (BF.2 (.inr ⟨i,u,c,j⟩))),a.dist,a.out⟩
theorem WY {w:World} {et:TypeId} {sz n b:Nat} {loc:Value} {cells:List Value} (h:w.ownsRow 0 et sz loc n cells) (a:blk loc=some b):b<w.heap.size:=by
 rcases h.2 with ⟨rfl,_⟩|⟨g,cap,c,rfl,d,e,f⟩
 .simp[blk]at a
 grind [blk,CU]
theorem Lr.block_lt {V:Vw} {et h:TypeId} {k e:Ty} {xs:List (k.den×List e.den)} {g:Option Nat} {o:Value} {ins cells:List Value} (d:Lr V et h k e xs g o ins cells) {b:Nat} (f:bk (.tuple (o :: ins).toArray) b):b<V.w.heap.size:=by
 rcases BF.1 f with h1|⟨i,u,h1,c⟩
 .exact WY d.own h1
 have hi:i<xs.length:=by have:=(QA.1 h1).1;rw[d.len]at this;exact this
 obtain⟨c1,v,_,_,a⟩:=d.row i xs[i] u (At hi) h1;rcases a with ⟨_,a⟩|⟨_,_,_,j,a,_⟩
 .rw[a]at c;simp[blk]at c
 exact WY a c
theorem BA.keeps {V V':Vw} (h:Cw V V') {o:Obj} {loc:Value} (d:∀b,bk loc b->V'.w.heap[b]?=V.w.heap[b]?) (c:BA V o loc):BA V' o loc:=by
 cases o with
 | arr et e xs =>
  obtain⟨C,cells,⟨h1,a⟩,B⟩:=c;refine⟨C,cells,⟨h1,?_⟩,B.keeps h⟩;rcases a with a|⟨g,cap,i,rfl,E,F,G⟩
  .exact .inl a
  exact .inr ⟨g,cap,i,rfl,E,(d g (.inl rfl)).trans F,G⟩
 | box et st fs =>
  obtain⟨h0,b,cs,rfl,h1,a⟩:=c;exact⟨h0,b,cs,rfl,(d b (.inl rfl)).trans h1,a.keeps h⟩
 | nest et K k e xs J =>
  obtain⟨o,ins,cells,hs,h1⟩:=c;exact⟨o,ins,cells,hs,h1.keeps h λb A=>d b (hs.bk.2 A)⟩
 | mapo k v l =>
  obtain⟨b,m,cl,rfl,h1,a,f⟩:=c;exact⟨b,m,cl,rfl,(d b (.inl rfl)).trans h1,a.mono h.O h.heap,f⟩
 | frame M fs =>
  obtain⟨h0,h1⟩:=c;exact⟨h0,λs x hs=>(h1 s x hs).keeps h⟩
 | itr k v l left i =>
  obtain⟨r,rfl,b,D,cl,I,H,h1,a,f,p,q,t,u,y,z,n⟩:=c;have j:=CU f;exact⟨r,rfl,b,D,cl,I,H,(d r (.inl rfl)).trans h1,h.O b j a,(h.heap b j a).trans f,p.mono h.O h.heap,q,t,u,y,z,n⟩
 | loop L =>
  obtain⟨b,rfl,h1⟩:=c;exact⟨b,rfl,(d b (.inl rfl)).trans h1⟩
 | dfr =>
  obtain⟨b,rfl,h1⟩:=c;exact⟨b,rfl,(d b (.inl rfl)).trans h1⟩
theorem BA.block_lt {V:Vw} {o:Obj} {loc:Value} (c:BA V o loc) {b:Nat} (a:bk loc b):b<V.w.heap.size:=by
 cases o with
 | arr et e xs =>
  obtain⟨m,cells,⟨h1,d⟩,i⟩:=c;rcases d with ⟨rfl,_⟩|⟨g,cap,f,rfl,q,s,t⟩
  .simp[bk,blk]at a
  grind [bk,blk,CU]
 | box et st fs =>
  obtain⟨h0,b',cs,rfl,h1,d⟩:=c;simp[bk,blk]at a;subst a;exact CU h1
 | nest et n k e xs j =>
  obtain⟨o,ins,cells,hs,h1⟩:=c;exact h1.block_lt (hs.bk.1 a)
 | mapo k v l =>
  obtain⟨b',h,cl,rfl,h1,d⟩:=c;simp[bk,blk]at a;subst a;exact CU h1
 | frame y fs =>
  obtain⟨rfl,h1⟩:=c;simp[bk,blk]at a
 | itr k v l left f =>
  obtain⟨r,rfl,b',p,cl,x,u,h1,-⟩:=c;simp[bk,blk]at a;subst a;exact CU h1
 | loop L =>
  obtain⟨b',rfl,h1⟩:=c;simp[bk,blk]at a;subst a;exact CU h1
 | dfr =>
  obtain⟨b',rfl,h1⟩:=c;simp[bk,blk]at a;subst a;exact CU h1
section
variable {α:Type}
theorem BC (k:Nat):∀(l r:List (Nat×α)),lk k (l++r)=(lk k l).or (lk k r)
 | [],_=>by simp[lk]
 | (j,v) :: l,r=>by
  simp only[oF,lk];split
  .simp
  exact BC k l r
theorem Gn (k n:Nat) (u:α):∀l:List (Nat×α),lk k (upd n u l)=if k=n then (lk n l).map (λ_=>u) else lk k l
 | []=>by simp[lk,upd]
 | (j,v) :: l=>by
  simp only[upd];by_cases hn:n=j
  .subst hn;by_cases hk:k=n
   .subst hk;simp[lk]
   simp[lk,hk,Gn k n u l]
  simp only[An hn,lk];by_cases hk:k=n
  .subst hk;simp[hn,Gn k k u l]
  by_cases a:k=j
  .subst a;simp[hk]
  simp[hk,a,Gn k n u l]
theorem Sa (k n:Nat):∀l:List (Nat×α),lk k (del n l)=if k=n then none else lk k l
 | []=>by simp[lk,del]
 | (j,v) :: l=>by
  simp only[del];by_cases hn:n=j
  .subst hn;rw[BY rfl,Sa k n l];grind [lk]
  rw[An hn];simp only[lk,Sa k n l];grind
end
end
section
open Go Go.RowKit
def Eb (σ:St) (obs:List (Nat×Obj)):St:=⟨σ.env,obs++σ.objs⟩
structure QS (w:World) (O0:Nat->Prop) (σ:St) (ρ:Nat->Value) (v:AV) (obs:List (Nat×Obj)) (u:Value) (ρ':Nat->Value) (w':World):Prop where
 below:Below w.heap.size w w'
 rho:∀n,lk n obs=none->ρ' n=ρ n
 av:CD (vw w' O0 (Eb σ obs) ρ') v u
 obj:∀n o,lk n obs=some o->BA (vw w' O0 (Eb σ obs) ρ') o (ρ' n)
 new:∀n o b,lk n obs=some o->bk (ρ' n) b->w.heap.size<=b
 dist:∀n m o o' b,lk n obs=some o->lk m obs=some o'->bk (ρ' n) b->bk (ρ' m) b->n=m
theorem GK {α:Type} {k:Nat} {v:α}:∀ {l:List (Nat×α)},lk k l=some v->(k,v)∈l
 | (j,u) :: l,h=>by
  simp only[lk]at h;split at h
  .grind
  exact NO _ (GK h)
theorem Oy {obs:List (Nat×Obj)} {σ:St} (h:Bl obs σ=true) {n:Nat} {o:Obj} (hn:lk n obs=some o):lk n σ.objs=none:=by
 simp only[Bl,If]at h;simpa using h _ (GK hn)
theorem MT {σ:St} {obs:List (Nat×Obj)} {n:Nat} (h:Hb (Eb σ obs) n):(∃o,lk n obs=some o)\/(lk n obs=none/\Hb σ n):=by
 obtain⟨o,h⟩:=h;simp only[Eb,BC]at h;cases a:lk n obs with
 | some b=>exact .inl ⟨b,rfl⟩
 | none=>rw[a]at h;exact .inr ⟨rfl,o,by simpa using h⟩
theorem dF {σ:St} {obs:List (Nat×Obj)} (hf:Bl obs σ=true) {n:Nat} (h:Hb σ n):Hb (Eb σ obs) n/\lk n obs=none:=by
 obtain⟨o,h⟩:=h;have hn:lk n obs=none:=by
  cases a:lk n obs with
  | none=>rfl
  | some b=>have:=Oy hf a;rw[this]at h;cases h
 exact⟨⟨o,by simp[Eb,BC,hn,h]⟩,hn⟩
theorem IJ {w w':World} {O0:Nat->Prop} {σ:St} {ρ ρ':Nat->Value} {obs:List (Nat×Obj)} (hf:Bl obs σ=true)
  (hb:Below w.heap.size w w') (hr:∀n,lk n obs=none->ρ' n=ρ n) (hn:∀n o b,lk n obs=some o->bk (ρ' n) b->w.heap.size<=b) :
  Cw (vw w O0 σ ρ) (vw w' O0 (Eb σ obs) ρ') where
 O:=by
  intro b hlt hO hO';rcases hO' with h0|⟨n,hl,hb'⟩
  .exact hO (.inl h0)
  rcases MT hl with ⟨o,ho⟩|⟨hno,hl'⟩
  .have:=hn n o b ho hb';have hlt:b<w.heap.size:=hlt;omega
  exact hO (.inr ⟨n,hl',by rw[<-hr n hno];exact hb'⟩)
 L:=λn h=>(dF hf h).1
 ρ:=λn h=>hr n (dF hf h).2
 heap:=λb hlt _=>hb.block b hlt
theorem QS.keeps {w w':World} {O0:Nat->Prop} {σ:St} {ρ ρ':Nat->Value} {v:AV} {u:Value} {obs:List (Nat×Obj)} (hf:Bl obs σ=true) (h:QS w O0 σ ρ v obs u ρ' w') :
  Cw (vw w O0 σ ρ) (vw w' O0 (Eb σ obs) ρ'):=IJ hf h.below h.rho h.new
theorem Frm.below {K:Nat->Prop} {w0 w w':World} (h:Frm K w0 w) (hb:Below w.heap.size w w') (hK:∀b,K b->b<w0.heap.size):Frm K w0 w' where
 os:=hb.os.trans h.os
 tape:=hb.tape.trans h.tape
 output:=hb.output.trans h.output
 size:=QB h.size hb.size
 block:=λk hk=>(hb.block k (ZG (hK k hk) h.size)).trans (h.block k hk)
theorem Qc (a:Act) (dst:Option Tmp) (u:Value):(a.put dst u).tmps.size=a.tmps.size:=by
 cases dst<;>simp[Act.put]
theorem LD (a:Act) (dst:Option Tmp) (u:Value):(a.put dst u).defers=a.defers:=by cases dst<;>rfl
theorem NU (a:Act) (d:Nat) (u:Value) (s:Nat) (b:d<a.tmps.size):(a.put (some d) u).tmps.getD s undef=if s=d then u else a.tmps.getD s undef:=by
 by_cases h:s=d
 .subst h;simp[Act.put,b]
 have:¬d=s:=λe=>h e.symm;simp[Act.put,h,this,Array.getElem?_setIfInBounds]
theorem CJ.add {w0:World} {K O0:Nat->Prop} {nt:Nat} {ds:Fp} {σ:St} {ρ:Nat->Value} {a:Act} {w:World} (h:CJ w0 K O0 nt ds σ ρ a w)
  (H:∀b,K b->b<w0.heap.size) (J:∀b,O0 b->b<w0.heap.size) {dst:Option Nat} (I:∀d,dst=some d->d<nt)
  {v:AV} {obs:List (Nat×Obj)} {u:Value} {ρ':Nat->Value} {w':World} (hf:Bl obs σ=true) (c:QS w O0 σ ρ v obs u ρ' w') :
  CJ w0 K O0 nt ds (σ.add v obs dst) ρ' (a.put dst u) w':=by
 have hk:=c.keeps hf;have E:(σ.add v obs dst).objs=obs++σ.objs:=by cases dst<;>rfl
 have l:∀n,Hb (σ.add v obs dst) n↔Hb (Eb σ obs) n:=λn=>by simp[Hb,E,Eb]
 have F:vw w' O0 (σ.add v obs dst) ρ'=vw w' O0 (Eb σ obs) ρ':=by
  have k:Hb (σ.add v obs dst)=Hb (Eb σ obs):=funext λn=>propext (l n);have g:own O0 (σ.add v obs dst) ρ'=own O0 (Eb σ obs) ρ':=by grind [own]
  simp only[vw,k,g]
 refine⟨h.frm.below c.below H,by rw[Qc];exact h.nt,by rw[LD];exact h.defers,λp hp=>?_,?_,?_,?_,?_⟩
 .obtain⟨h1,j,G⟩:=h.pin p hp;have B:=dF hf h1;exact⟨(l p.1).2 B.1,(c.rho _ B.2).trans j,G⟩
 .intro n o g;rw[E,BC]at g;rw[F];cases r:lk n obs with
  | some z=>rw[r]at g;cases g;exact c.obj n _ r
  | none =>
   rw[r]at g;have q:lk n σ.objs=some o:=by simpa using g
   rw[c.rho n r];refine(h.objs n o q).keeps hk λb f=>?_;exact c.below.block b ((h.objs n o q).block_lt f)
 .intro n b k f;rcases MT ((l n).1 k) with ⟨o,g⟩|⟨t,y⟩
  .have L:=c.new n o b g f;have:=h.frm.size;grind
  rw[c.rho n t]at f;exact h.free n b y f
 .intro n m b k y f i;rcases MT ((l n).1 k) with ⟨o,g⟩|⟨t,hn⟩<;>rcases MT ((l m).1 y) with ⟨z,q⟩|⟨D,C⟩
  .exact c.dist n m o z b g q f i
  .have h1:=c.new n o b g f;rw[c.rho m D]at i;obtain⟨A,j⟩:=C;have:=(h.objs m A j).block_lt i;have:b<w.heap.size:=this;omega
  .have h1:=c.new m z b q i;rw[c.rho n t]at f;obtain⟨A,j⟩:=hn;have:=(h.objs n A j).block_lt f;have:b<w.heap.size:=this;omega
  rw[c.rho n t]at f;rw[c.rho m D]at i;exact h.dist n m b hn C f i
 intro s x hs;rw[F];cases dst with
 | none=>exact(h.env s x hs).keeps hk
 | some d =>
  simp only[St.add,lk]at hs;rw[NU a d u s (by rw[h.nt];exact I d rfl)];split at hs
  .rename_i e;cases hs;rw[BY e];exact c.av
  rename_i e;rw[An e];exact(h.env s x hs).keeps hk
theorem QS.still {w:World} {O0:Nat->Prop} {σ:St} {ρ:Nat->Value} {v:AV} {u:Value} (h:CD (vw w O0 σ ρ) v u):QS w O0 σ ρ v [] u ρ w where
 below:=Below.refl _ _
 rho:=λ_ _=>rfl
 av:=h
 obj:=λ_ _ h=>by cases h
 new:=λ_ _ _ h=>by cases h
 dist:=λ_ _ _ _ _ h=>by cases h
def FP (ρ:Nat->Value) (n:Nat) (x:Value):Nat->Value:=λm=>if m=n then x else ρ m
theorem B2 (ρ:Nat->Value) (n:Nat) (x:Value):FP ρ n x n=x:=by simp[FP]
theorem QS.one {w w':World} {O0:Nat->Prop} {σ:St} {ρ:Nat->Value} {v:AV} {u loc:Value} {n:Nat} {o:Obj} (hb:Below w.heap.size w w')
  (hnew:∀b,bk loc b->w.heap.size<=b)
  (hav:CD (vw w' O0 (Eb σ [(n,o)]) (FP ρ n loc)) v u)
  (hobj:BA (vw w' O0 (Eb σ [(n,o)]) (FP ρ n loc)) o loc):QS w O0 σ ρ v [(n,o)] u (FP ρ n loc) w' where
 below:=hb
 rho:=λm hm=>by grind [lk,FP]
 av:=hav
 obj:=λm o' hm=>by grind [lk,B2]
 new:=λm o' b hm hb'=>by grind [lk,B2]
 dist:=λm m' o1 o2 b h1 h2 _ _=>by grind [lk]
end
section
open Go Go.RowKit
theorem BJ {t:Ty} {p:PV} {d:t.den} (h:BW t p=some d):p=⟨t,d⟩:=by
 obtain⟨u,x⟩:=p;grind [BW]
theorem Bu {e a:Ty} {xs:List a.den} {ys:List e.den} (h:BW (.slice e) ⟨.slice a,xs⟩=some ys):a=e/\HEq xs ys:=by
 have b:=BJ h;grind
theorem Oz {α:Type} (xs:List α) {lo hi:Nat} (h:hi<=xs.length):(sub xs lo hi).length=hi-lo:=by
 simp[sub];omega
theorem dG {α:Type} (xs:List α) (lo hi i:Nat) {x:α} (h:(sub xs lo hi)[i]?=some x):xs[lo+i]?=some x/\i<hi-lo:=by grind [sub]
theorem sV {w:World} {O':Nat->Prop} {et:TypeId} {e:Ty} {xs:List e.den} {loc v:Value} {cells:List Value} {lo hi:Nat} (y:∀b,blk loc=some b->¬O' b)
  (H:xs.length<=AQ) (h:w.ownsRow 0 et e.size loc xs.length cells) (p:D5 w O' e cells xs) (z:De loc e.size lo hi v):B6 w O' (.slice e) [v] (sub xs lo hi):=by
 obtain⟨a,m,c,j,F,q,k,l,rfl,o,h0,h1⟩:=z;have u:m=xs.length:=by
  rcases h.2 with ⟨d,hn⟩|⟨g,cap,n,d,_⟩
  .grind
  rw[j]at d;injection d
 subst u;have f:=Oz xs (lo:=lo) q;refine⟨k,l,by rw[f],by rw[f];exact o,by rw[f];omega,?_⟩;by_cases t:lo<hi
 .right;rcases h.2 with ⟨d,hn⟩|⟨g,cap,n,d,r⟩
  .omega
  have D:=World.ownsRow.cells h (g:=g) (by rw[d];rfl);have ha:a=some ⟨g,0,none⟩:=by rw[j]at d;injection d
  subst ha;refine⟨_,h1 t,y _ (by rw[d];simp only[blk,CT]),λi x s=>?_⟩;obtain⟨A,G⟩:=dG xs lo hi i s;obtain⟨B,E,C,I⟩:=p (lo+i) x A;grind [Da]
 simp_all
theorem Hs {w:World} {base:Nat} {et:TypeId} {sz n:Nat} {s:Value} {xs:List Value} (h:w.ownsRow base et sz s n xs):plc s=s:=by
 rcases h.2 with ⟨rfl,_⟩|⟨g,cap,a,rfl,_⟩<;>rfl
theorem Ve {V:Vw} {et:TypeId} {e:Ty} {xs:List e.den} {loc:Value} (h:BA V (.arr et e xs) loc):plc loc=loc:=by
 obtain⟨_,_,h,_⟩:=h;exact Hs h
theorem dH {V:Vw} {O':Nat->Prop} (h:∀b,¬V.O b->¬O' b) {et:TypeId} {e:Ty} {xs:List e.den} {loc v:Value} {lo hi:Nat} (n:∀b,blk loc=some b->¬O' b)
  (a:BA V (.arr et e xs) loc) (c:De (plc loc) e.size lo hi v):B6 V.w O' (.slice e) [v] (sub xs lo hi):=by
 rw[Ve a]at c;obtain⟨l,cells,m,k⟩:=a;exact sV n l m (λi x hi=>let ⟨d,h1,f,g⟩:=k i x hi;⟨d,h1,f,g.mono (λb _ j=>h b j) (λ_ _ _=>rfl)⟩) c
theorem Gp {w:World} {et:TypeId} {sz n:Nat} {s:Value} {xs:List Value} (h:w.ownsRow 0 et sz s n xs):De s sz 0 n s:=by
 rcases h.2 with ⟨rfl,hn⟩|⟨g,cap,a,rfl,_,_,b,_⟩
 .exact⟨none,0,0,rfl,by omega,by omega,none,0,by rw[hn],by omega,λ_=>⟨rfl,rfl⟩,λh=>by omega⟩
 exact⟨some ⟨g,0,none⟩,n,cap,rfl,by omega,by omega,some ⟨g,0,none⟩,cap,by simp,by omega,λ_=>⟨rfl,rfl⟩,λ_=>by simp[NR]⟩
theorem Zf {V:Vw} {O':Nat->Prop} (c:∀b,¬V.O b->¬O' b) {et:TypeId} {e:Ty} {xs:List e.den} {u:Value} (d:∀b,blk u=some b->¬O' b) (h:SZ V et e xs u):B6 V.w O' (.slice e) [u] xs:=by
 have h1:=h;obtain⟨_,_,a,_⟩:=h1;have:=dH (V:=V) c d (et:=et) (e:=e) (xs:=xs) (loc:=u) h (by rw[Hs a];exact Gp a)
 rwa [I9]at this
theorem LE {w:World} {base:Nat} {et:TypeId} {sz n m c:Nat} {a:Option Addr} {xs:List Value} (h:w.ownsRow base et sz (.slice a m c) n xs):m=n:=by
 rcases h.2 with ⟨b,hn⟩|⟨g,cap,d,b,_⟩
 .injection b;omega
 injection b
theorem dI {V:Vw} {f:TypeId} {e:Ty} {xs:List e.den} {u:Value} {a:Option Addr} {len c:Nat} (b:Lay u (.slice a len c)) (h:SZ V f e xs u):len=xs.length:=by
 obtain⟨_,j,d,_⟩:=h;rcases b with rfl|⟨rfl,g,i⟩
 .exact LE d
 grind [LE]
theorem A30 {V:Vw} {j:TypeId} {e:Ty} {xs:List e.den} {u v:Value} (g:Lay u v) (h:SZ V j e xs u):∃(a:Option Addr) (c:Nat),v=.slice a xs.length c:=by
 rcases g with rfl|⟨rfl,a,rfl⟩
 .obtain⟨_,k,f,_⟩:=h;obtain⟨_,_,_,_,_,_,b,d,i,_⟩:=Gp f;exact⟨b,d,i⟩
 have hn:=dI (.inr ⟨rfl,a,rfl⟩) h;exact⟨a,0,by rw[<-hn]⟩
theorem sW {V:Vw} {O':Nat->Prop} {f:TypeId} {e:Ty} {xs:List e.den} {u v:Value} (b:Lay u v) (h:SZ V f e xs u) (c:B6 V.w O' (.slice e) [u] xs):B6 V.w O' (.slice e) [v] xs:=by
 rcases b with rfl|⟨rfl,a,rfl⟩
 .exact c
 have hn:=dI (.inr ⟨rfl,a,rfl⟩) h;have d:xs=[]:=QI hn.symm;subst d;exact⟨a,0,rfl,Is _,by simp,.inl rfl⟩
theorem O2 {V:Vw} {O':Nat->Prop} (g:∀b,¬V.O b->¬O' b) {et p:TypeId} {k e:Ty} {xs:List (k.den×List e.den)} {o:Value} {ins cells:List Value} (h:Lr V et p k e xs none o ins cells)
  (n:∀(i b:Nat) (u:Value),ins[i]?=some u->blk u=some b->¬O' b):D5 V.w O' (.agg (.prod k (.slice e))) cells xs:=by
 intro i x hi;have j:i<ins.length:=by rw[h.len];exact(QA.1 hi).1
 obtain⟨c1,v,h1,d,a⟩:=h.row i x ins[i] hi (At j);rcases a with ⟨a,_⟩|⟨_,l,f⟩
 .cases a
 have m:=sW l f (Zf g (λb c=>n i b _ (At j) c) f);refine⟨c1++[v],by simp[Ty.size,d.length],h1,?_⟩;exact(⟨c1,[v],rfl,d.mono (λb _ c=>g b c) (λ_ _ _=>rfl),m⟩:B6 V.w O' (.prod k (.slice e)) _ x)
theorem iI {V:Vw} {O':Nat->Prop} (f:∀b,¬V.O b->¬O' b) {et l:TypeId} {k e:Ty} {xs:List (k.den×List e.den)} {loc v:Value} {lo hi:Nat} (a:∀b,bk loc b->¬O' b)
  (j:BA V (.nest et l k e xs none) loc) (c:De (plc loc) (k.size+1) lo hi v):B6 V.w O' (.slice (.agg (.prod k (.slice e)))) [v] (sub (α:=k.den×List e.den) xs lo hi):=by
 obtain⟨o,ins,cells,hs,h⟩:=j;rw[hs.plc]at c;exact sV (e:=.agg (.prod k (.slice e))) (xs:=xs) (λb g=>a b (hs.bk.2 (BF.2 (.inl g)))) h.max h.own (O2 f h λi b u h1 d=>a b (hs.bk.2 (BF.2 (.inr ⟨i,u,h1,d⟩)))) c
theorem Zg {V:Vw} {p:Obj} {loc:Value} {a:Option Addr} {m c:Nat} (d:BA V p loc) (h:plc loc=.slice a m c):∃et sz cells,V.w.ownsRow 0 et sz (.slice a m c) m cells/\m<=AQ:=by
 cases p with
 | arr et e xs =>
  have h1:=Ve d;obtain⟨r,cells,i,_⟩:=d;rw[h1]at h;subst h;have j:m=xs.length:=by
   rcases i.2 with ⟨f,hn⟩|⟨g,cap,q,f,_⟩
   .injection f;omega
   injection f
  subst j;exact⟨et,_,cells,i,r⟩
 | nest et u k e xs s =>
  obtain⟨o,ins,cells,hs,n⟩:=d;rw[hs.plc]at h;subst h;have i:=n.own;have j:m=xs.length:=by
   rcases i.2 with ⟨f,hn⟩|⟨g,cap,q,f,_⟩
   .injection f;omega
   injection f
  subst j;exact⟨et,_,cells,i,n.max⟩
 | box et st fs=>obtain⟨_,b,cs,rfl,_⟩:=d;cases h
 | mapo k v l=>obtain⟨b,_,_,rfl,_⟩:=d;cases h
 | frame B fs=>obtain⟨rfl,_⟩:=d;cases h
 | loop L=>obtain⟨b,rfl,_⟩:=d;cases h
 | itr x A y z t=>obtain⟨b,rfl,_⟩:=d;cases h
 | dfr=>obtain⟨b,rfl,_⟩:=d;cases h
theorem NV {V V':Vw} (c:V'.w=V.w) (d:V'.O=V.O) {et f:TypeId} {k e:Ty} {xs:List (k.den×List e.den)} {h:Option Nat} {loc:Value} (s:BA V (.nest et f k e xs h) loc):BA V' (.nest et f k e xs h) loc:=by
 obtain⟨o,ins,cells,q,a⟩:=s;refine⟨o,ins,cells,q,a.max,a.len,by rw[c];exact a.own,λi x u h1 g=>?_,a.dist,a.out⟩;obtain⟨c1,v,j,l,b⟩:=a.row i x u h1 g;refine⟨c1,v,j,by rw[c,d];exact l,?_⟩;rcases b with b|⟨b,m,r,t,n,p⟩
 .exact .inl b
 exact .inr ⟨b,m,r,t,by rw[c];exact n,by rw[c,d];exact p⟩
theorem A0H {V V':Vw} (d:V'.w=V.w) (g:∀b,¬V.O b->¬V'.O b) {et j:TypeId} {k e:Ty} {xs:List (k.den×List e.den)} {h:Option Nat} {loc:Value} (C:BA V (.nest et j k e xs h) loc):BA V' (.nest et j k e xs h) loc:=by
 obtain⟨o,ins,cells,A,a⟩:=C;refine⟨o,ins,cells,A,a.max,a.len,by rw[d];exact a.own,λi x u h1 q=>?_,a.dist,a.out⟩;obtain⟨c1,v,r,s,c⟩:=a.row i x u h1 q;refine⟨c1,v,r,s.mono (λb _ f=>g b f) (λb _ _=>by rw[d]),?_⟩;rcases c with c|⟨c,t,B,D,y,z⟩
 .exact .inl c
 refine .inr ⟨c,t,B,D,by rw[d];exact y,λi x hi=>?_⟩;obtain⟨l,m,n,p⟩:=z i x hi;exact⟨l,m,n,p.mono (λb _ f=>g b f) (λb _ _=>by rw[d])⟩
theorem dJ {V:Vw} {et g:TypeId} {k e:Ty} {xs:List (k.den×List e.den)} {h:Option Nat} {loc v:Value} {c:Array Value} {i:Nat} {z:k.den×List e.den}
  (d:BA V (.nest et g k e xs h) loc) (f:loc=.tuple c) (a:c[i+1]?=some v):xs[i]?=some (xs.getD i z):=by
 obtain⟨o,ins,cells,hs,h⟩:=d;obtain rfl:=hs.tup f;have a:ins[i]?=some v:=by simpa using a
 have b:i<xs.length:=by rw[<-h.len];exact(QA.1 a).1
 rw[At b,AS,At b];rfl
theorem A6B {V:Vw} {t:Obj} {loc u v:Value} {w:Array Value} {i len c:Nat} {a:Option Addr} (d:BA V t loc) (z:loc=.tuple w) (f:w[i+1]?=some u) (j:Lay u v) (s:v=.slice a len c):len<=AQ:=by
 subst z;cases t with
 | arr et e xs =>
  obtain⟨E,cells,y,_⟩:=d;rcases y.2 with ⟨r,_⟩|⟨g,cap,B,r,_⟩<;>cases r
 | nest et G k e xs D =>
  obtain⟨o,ins,cells,hs,q⟩:=d;obtain rfl:=hs.tup rfl;have f:ins[i]?=some u:=by simpa using f
  have x:i<xs.length:=by rw[<-q.len];exact(QA.1 f).1
  obtain⟨c1,N,h1,C,m⟩:=q.row i xs[i] u (At x) f;rcases m with ⟨_,m⟩|⟨_,_,n⟩
  .subst s;rcases j with p|⟨_,A,p⟩
   .grind
   injection p;omega
  rw[s]at j;rw[dI j n];exact n.1
 | box et st fs=>obtain⟨_,b,cs,h,_⟩:=d;cases h
 | mapo k v l=>obtain⟨b,_,_,h,_⟩:=d;cases h
 | frame M fs=>obtain⟨h,_⟩:=d;cases h
 | loop L=>obtain⟨b,h,_⟩:=d;cases h
 | itr H K I J F=>obtain⟨b,h,_⟩:=d;cases h
 | dfr=>obtain⟨b,h,_⟩:=d;cases h
theorem A6C {V:Vw} {O':Nat->Prop} (p:∀b,¬V.O b->¬O' b) {et l:TypeId} {k e:Ty} {xs:List (k.den×List e.den)} {loc v:Value} {d:Array Value} {i:Nat} {x:k.den×List e.den} (s:∀b,bk loc b->¬O' b) {u:Value}
  (f:BA V (.nest et l k e xs none) loc) (g:loc=.tuple d) (c:d[i+1]?=some u) (r:Lay u v) (j:xs[i]?=some x):B6 V.w O' (.slice e) [v] x.2:=by
 obtain⟨o,ins,cells,hs,h⟩:=f;obtain rfl:=hs.tup g;have c:ins[i]?=some u:=by simpa using c
 obtain⟨c1,t,h1,m,a⟩:=h.row i x u j c;rcases a with ⟨a,_⟩|⟨_,q,n⟩
 .cases a
 grind [sW,Zf,BF]
section
variable {V:Vw} {O':Nat->Prop} {l:Bool} {σ:St}
theorem sY (p:∀b,¬V.O b->¬O' b) (y:l=true->∀b,¬O' b) (s:∀n o,lk n σ.objs=some o->BA V o (V.ρ n))
  {t:Ty} {x:AV} {d:t.den} {cs:List Value} (h:FM l σ t x=some d) (g:OJ V x cs):B6 V.w O' t cs d:=by
 unfold FM at h;split at h
 .rename_i u z;have:=BJ h;injection this with h1 j
  subst h1;cases j;have g:B6 V.w V.O u cs z:=g;exact g.mono (λb _ D=>p b D) (λ_ _ _=>rfl)
 .rename_i e n A lo hi;split at h
  .rename_i q;obtain⟨r,rfl⟩:=q;have m:=r;obtain⟨v,rfl,_,C,f⟩:=g;cases hn:lk n σ.objs with
   | none=>rw[hn]at h;simp[SR]at h
   | some o =>
    rw[hn]at h;cases o with
    | box et st fs=>simp[SR]at h
    | mapo k v l=>simp[SR]at h
    | frame P fs=>simp[SR]at h
    | loop L=>simp[SR]at h
    | itr J N K M H=>simp[SR]at h
    | dfr=>simp[SR]at h
    | nest et I k B xs m =>
     cases m with
     | some i=>simp[SR]at h
     | none =>
      simp only[SR]at h;obtain⟨h1,j⟩:=Bu h;subst h1;cases j;exact iI p (λb _=>y r b) (s n _ hn) f
    | arr et B xs =>
     simp only[SR]at h;obtain⟨h1,j⟩:=Bu h;subst h1;cases j;exact dH p (λb _=>y m b) (s n _ hn) f
  cases h
 .rename_i e n A i len;split at h
  .rename_i q;obtain⟨m,rfl⟩:=q;obtain⟨v,rfl,_,C,R,a,c,Q,G,F,E,_⟩:=g;cases hn:lk n σ.objs with
   | none=>rw[hn]at h;simp[SU]at h
   | some o =>
    rw[hn]at h;unfold SU at h;split at h
    .grind [Bu,A6C,dJ]
    cases h
  cases h
 .obtain⟨v,rfl,_,f⟩:=g;have f:v=_:=f;subst f;cases h;exact⟨none,0,rfl,by simp,by simp[AQ],.inl rfl⟩
 cases h
theorem A31 (i:∀b,¬V.O b->¬O' b) (k:l=true->∀b,¬O' b) (j:∀n o,lk n σ.objs=some o->BA V o (V.ρ n)) :
  ∀ {fs:List AV} {t:Ty} {d:t.den} {cs:List Value},Ks l σ fs t=some d->Ds V fs cs->B6 V.w O' t cs d
 | [],t,d,cs,h,f=>by simp[Ks]at h
 | [x],t,d,cs,h,f=>by
  obtain⟨c1,c2,rfl,h1,e⟩:=f;have e:c2=[]:=e;grind [Ks,sY]
 | x :: y :: r,t,d,cs,h,f=>by
  obtain⟨c1,c2,rfl,h1,e⟩:=f;cases t;case prod a b =>
   simp only[Ks]at h;cases c:FM l σ a x with
   | none=>rw[c]at h;simp[ML]at h
   | some m =>
    cases g:Ks l σ (y :: r) b with
    | none=>rw[c,g]at h;simp[ML]at h
    | some p =>
     rw[c,g]at h;simp only[ML]at h;cases h;exact⟨c1,c2,rfl,sY i k j c h1,A31 i k j g e⟩
  all_goals simp[Ks]at h
theorem A6D {t:Ty} {x:AV} {d:t.den} {v:Value} (h:FM l σ t x=some d) (hp:∀u i,x≠.p u i) (e:CD V x v):OJ V x [v]/\t.wrap [v]=v:=by
 unfold FM at h;split at h
 .exact absurd rfl (hp _ _)
 .obtain⟨b,a,m,c,_,_,_,f,g,rfl,_⟩:=e;refine⟨⟨_,rfl,rfl,?_⟩,rfl⟩;exact⟨b,a,m,c,by assumption,by assumption,by assumption,f,g,rfl,by assumption⟩
 .obtain⟨b,o,a,c,u,h1,j,k,rfl⟩:=e;exact⟨⟨_,rfl,rfl,b,o,a,c,u,h1,j,k,rfl⟩,rfl⟩
 .have n:v=_:=e;subst n;exact⟨⟨_,rfl,rfl,rfl⟩,rfl⟩
 cases h
theorem JK (f:∀b,¬V.O b->¬O' b) (j:l=true->∀b,¬O' b) (i:∀n o,lk n σ.objs=some o->BA V o (V.ρ n))
  {t:Ty} {x:AV} {d:t.den} {v:Value} (h:Lp l σ t x=some d) (g:CD V x v):Bo V.w O' t v d:=by
 unfold Lp at h;split at h
 .rename_i t fs;obtain⟨cs,rfl,m⟩:=g;exact⟨cs,(A31 f j i h m:B6 V.w O' t cs d),rfl⟩
 by_cases hp:∃u a,x=.p u a
 .obtain⟨u,a,rfl⟩:=hp;have h:BW t ⟨u,a⟩=some d:=by simpa only[FM] using h
  have:=BJ h;injection this with h1 c
  subst h1;cases c;exact Bo.mono (λb _ k=>f b k) (λ_ _ _=>rfl) g
 obtain⟨h1,c⟩:=A6D h (λu a e=>hp ⟨u,a,e⟩) g;exact⟨[v],sY f j i h h1,c.symm⟩
end
end
section
open Go Go.RowKit
def dK:Ty->Value->Bool
 | .agg _,.agg _=>true
 | .agg _,_=>false
 | .prod _ _,_=>false
 | _,.agg _=>false
 | _,_=>true
def NW (P : Program) (id : TypeId) (a b : IntKind) : Prop := ∃ c d : Field, P.underlying id = some (.struct #[c, d]) /\ ((c.name != "_") = true /\ (d.name != "_") = true) /\ (c.offset = 0 /\ d.offset = 1) /\ (P.underlying c.type = some (.int a) /\ P.underlying d.type = some (.int b)) /\ P.stoodInHeld id = false
def WZ (P:Program) (id:TypeId):Ty->Nat->Prop
 | .agg (.prod (.int a) (.int b)),0=>NW P id a b
 | _,_=>True
def isI (k:IntKind):Option TypeDesc->Bool
 | some (.int a)=>k==a
 | _=>false
theorem Wa {k:IntKind} {d:Option TypeDesc} (h:isI k d=true):d=some (.int k):=by
 unfold isI at h;grind
def A9X (P:Program) (id:TypeId) (a b:IntKind):Option TypeDesc->Bool
 | some (.struct ⟨[c, d]⟩) => (c.name != "_") && (d.name != "_") && c.offset == 0 && d.offset == 1 && isI a (P.underlying c.type) && isI b (P.underlying d.type) && P.stoodInHeld id == false
 | _=>false
def A32 (P:Program) (id:TypeId):Ty->Nat->Bool
 | .agg (.prod (.int a) (.int b)),0=>A9X P id a b (P.underlying id)
 | _,_=>true
theorem A33 {P:Program} {id:TypeId} {t:Ty} {el:Nat} (h:A32 P id t el=true):WZ P id t el:=by
 unfold A32 at h;unfold WZ;split at h
 .unfold A9X at h;split at h
  .rename_i a b hu;simp only[AT,SJ]at h;obtain⟨⟨⟨⟨⟨⟨h1,c⟩,d⟩,e⟩,f⟩,g⟩,i⟩:=h;exact⟨a,b,hu,⟨h1,c⟩,⟨d,e⟩,⟨Wa f,Wa g⟩,i⟩
  cases h
 trivial
def EP (P:Program) (tb:Tb) (id:TypeId) (ti:TI):Prop :=
 (((∀p∈ti.offs,p.2≠0)/\0<ti.bytes/\WZ P id ti.ty ti.el)/\∃(i:TypeInfo) (z:Value),P.info? id=some i/\i.size=ti.ty.size/\i.bytes=ti.bytes/\i.zero=some z/\z.cells=ti.ty.zero.toArray) /\
 match ti.ty with
 | .int k=>P.underlying id=some (.int k)
 | .bool=>P.underlying id=some .bool
 | .str=>P.underlying id=some .string
 | .slice e=>P.underlying id=some (.slice ti.el)/\∃te,lk ti.el tb.ty=some te/\te.ty=e
 | .agg _=>(∃fs:Array Field,ti.el=0/\P.underlying id=some (.struct fs)/\ti.offs.map some=fs.toList.map λf=>(P.info? f.type).map λi=>(f.offset,i.size)) \/
   ∃n e i,ti.el≠0/\P.underlying id=some (.array n e)/\P.info? e=some i/\ti.offs=(List.range n).map λk=>(k*i.size,i.size)
 | .prod _ _=>False
 | .ref j=>∃d,P.underlying id=some d/\(match d with|.struct _=>False|.array _ _=>False|_=>True) /\
   ∀k e,j=2->ti.offs=[(k,e)]->d=.map k e/\∃(a te:TI) (z:Value),lk k tb.ty=some a/\lk e tb.ty=some te/\(∃i,P.info? e=some i/\i.zero=some z)/\z.cells=te.ty.zero.toArray/\dK te.ty z=true
def DL (P:Program) (tb:Tb):Prop:=∀id ti,lk id tb.ty=some ti->EP P tb id ti
def A34:Value->Value->Bool
 | .int k n,.int c d=>k==c&&n==d
 | .bool a,.bool b=>a==b
 | .string s,.string e=>s.size==0&&e.size==0
 | .slice none 0 0,.slice none 0 0=>true
 | .pointer none,.pointer none=>true
 | .nilFunc,.nilFunc=>true
 | .map none,.map none=>true
 | _,_=>false
theorem A35 {a b:Value} (h:A34 a b=true):a=b:=by
 unfold A34 at h;split at h
 .grind
 .grind
 .simp_all
 .rfl
 .rfl
 .rfl
 .rfl
 cases h
def O3:List Value->List Value->Bool
 | [],[]=>true
 | a :: l,b :: r=>A34 a b&&O3 l r
 | _,_=>false
theorem Sb:∀ {l r:List Value},O3 l r=true->l=r
 | [],[],_=>rfl
 | a :: l,b :: r,h=>by
  simp only[O3,AT]at h;rw[A35 h.1,Sb h.2]
 | [],_ :: _,h=>by simp[O3]at h
 | _ :: _,[],h=>by simp[O3]at h
def A9Y (ty:Ty) (bytes:Nat):Option TypeInfo->Bool
 | some i=>i.size==ty.size&&i.bytes==bytes&&(match i.zero with|some z=>O3 z.cells.toList ty.zero|none=>false)
 | none=>false
def ABR (offs:List (Nat×Nat)) (n:Nat):Option TypeInfo->Bool
 | some i=>offs==(List.range n).map λk=>(k*i.size,i.size)
 | none=>false
def A9Z (e:Nat) (te:Option TI):Option TypeInfo->Bool
 | some i=>match i.zero,te with|some z,some te=>O3 z.cells.toList te.ty.zero&&dK te.ty z|_,_=>false
 | none=>false
def AAp (P:Program) (tb:Tb) (j:Nat) (d:TypeDesc):List (Nat×Nat)->Bool
 | [(k,e)]=>j != 2||(match d with|.map b a=>b==k&&a==e&&(lk k tb.ty).isSome&&A9Z e (lk e tb.ty) (P.info? e)|_=>false)
 | _=>true
theorem A6E {P:Program} {tb:Tb} {j:Nat} {d:TypeDesc} {offs:List (Nat×Nat)} (h:AAp P tb j d offs=true):∀k e,j=2->offs=[(k,e)]->d=.map k e/\∃(a te:TI) (z:Value),lk k tb.ty=some a/\lk e tb.ty=some te/\(∃i,P.info? e=some i/\i.zero=some z)/\z.cells=te.ty.zero.toArray/\dK te.ty z=true:=by
 rintro k e rfl rfl;simp only[AAp,bne_self_eq_false,AGk]at h;split at h
 .simp only[AT,SJ]at h;obtain⟨⟨⟨rfl,rfl⟩,b⟩,c⟩:=h;refine⟨rfl,?_⟩;obtain⟨a,f⟩:=ABE.1 b;unfold A9Z at c;grind [Sb]
 cases h
def ABS (P:Program) (tb:Tb) (ti:TI):Ty->Option TypeDesc->Bool
 | .int k,some (.int a)=>k==a
 | .bool,some .bool=>true
 | .str,some .string=>true
 | .slice e,some (.slice el)=>el==ti.el&&(match lk ti.el tb.ty with|some te=>decide (te.ty=e)|none=>false)
 | .agg _,some (.struct fs)=>ti.el==0&&ti.offs.map some==fs.toList.map λf=>(P.info? f.type).map λi=>(f.offset,i.size)
 | .agg _,some (.array n e)=>ti.el != 0&&ABR ti.offs n (P.info? e)
 | .ref _,some (.struct _)=>false
 | .ref _,some (.array _ _)=>false
 | .ref j,some d=>AAp P tb j d ti.offs
 | _,_=>false
def tiB (P:Program) (tb:Tb) (id:TypeId) (ti:TI):Bool:=((ti.offs.all λp=>p.2 != 0)&&(decide (0<ti.bytes)&&A32 P id ti.ty ti.el))&&A9Y ti.ty ti.bytes (P.info? id)&&ABS P tb ti ti.ty (P.underlying id)
theorem AAq {P:Program} {tb:Tb} {id:TypeId} {ti:TI} (h:tiB P tb id ti=true):EP P tb id ti:=by
 simp only[tiB,AT]at h;obtain⟨⟨⟨h0,c,d⟩,h1⟩,a⟩:=h;refine⟨⟨⟨λp hp=>by simpa using (If.1 h0) p hp,by simpa using c,A33 d⟩,?_⟩,?_⟩
 .unfold A9Y at h1;grind [Sb]
 generalize hu:P.underlying id=u at a;generalize ti.ty=t at a;cases t<;>cases u<;>simp only[ABS]at a<;>try(cases a;done)
 all_goals
  rename_i u;cases u<;>simp only at a<;>try(cases a;done)
 .grind
 .rfl
 .rfl
 .grind
 .rename_i n e;simp only[AT,AFB]at a;obtain⟨b,a⟩:=a;unfold ABR at a;split at a
  .rename_i i hi;exact .inr ⟨_,_,i,b,rfl,hi,by simpa using a⟩
  cases a
 .grind
 all_goals exact⟨_,rfl,trivial,A6E a⟩
theorem A6F {P:Program} {tb:Tb} (h:(tb.ty.all λp=>tiB P tb p.1 p.2)=true):DL P tb:=λid ti hi=>by
 rw[If]at h;exact AAq (h _ (GK hi))
def Ty.isAgg:Ty->Bool
 | .agg _=>true
 | .int _=>false
 | .bool=>false
 | .str=>false
 | .slice _=>false
 | .prod _ _=>false
 | .ref _=>false
section
variable {P:Program} {tb:Tb} {id:TypeId} {ti:TI} (w:World)
theorem MU {i:TypeInfo} (h:P.info? id=some i):(typeInfo id).run P w=.ok i w:=by simp[typeInfo,h]
theorem A6G (h:EP P tb id ti):(isAgg id).run P w=.ok ti.ty.isAgg w:=by
 obtain⟨_,a⟩:=h;cases c:ti.ty<;>rw[c]at a<;>simp only at a;case agg =>
  rcases a with ⟨fs,_,hu,_⟩|⟨n,e,_,_,hu,_⟩<;>simp[isAgg,QF hu,Ty.isAgg]
 case slice=>simp[isAgg,QF a.1,Ty.isAgg]
 case ref k =>
  obtain⟨d,hu,b,_⟩:=a;cases d<;>first|exact b.elim|simp[isAgg,QF hu,Ty.isAgg]
 all_goals simp[isAgg,QF a,Ty.isAgg]
theorem IK (h:EP P tb id ti):(sizeOf id).run P w=.ok ti.ty.size w:=by
 obtain⟨⟨_,i,z,h1,a,_⟩,_⟩:=h;simp[sizeOf,MU w h1,a]
theorem EP.noprod (h:EP P tb id ti) {a b:Ty}:ti.ty≠.prod a b:=by
 intro e;have:=h.2;rw[e]at this;exact this
theorem iJ (h:EP P tb id ti) {ad:Addr} {cs:List Value} (d:cs.length=ti.ty.size) (e:∀(j:Nat) (u:Value),cs[j]?=some u->w.cell? (ad.add j)=some u) :
  (loadVar id ad).run P w=.ok (ti.ty.wrap cs) w:=by
 have i:=λa b=>h.noprod (a:=a) (b:=b);simp only[loadVar,f7,A6G w h,VK];cases f:ti.ty;case prod a b=>exact absurd f (i a b)
 case agg u =>
  have g:ti.ty.size=cs.length:=d.symm;simp only[Ty.isAgg,ZD,f7,IK w h,VK,g,run_loadCells_list w ad cs e,Ty.wrap];rfl
 all_goals
  rw[f]at d;obtain⟨c,rfl⟩:=nO.1 d;have h0:=e 0 c rfl;rw[NR]at h0;simp[Ty.isAgg,Ty.wrap,h0]
theorem Eu (h:EP P tb id ti) {ad:Addr} {cs:List Value} (b:cs.length=ti.ty.size) (a:∀(j:Nat) (u:Value),cs[j]?=some u->w.cell? (ad.add j)=some u) :
  (Instr.loadAt id (.pointer (some ad))).run P w=.ok (ti.ty.wrap cs) w:=by
 simp[Instr.loadAt,Instr.sureAddr,iJ w h b a]
end
end
end Go.Proofs.YtapkhdkbkodbjaaGreat.Fw
