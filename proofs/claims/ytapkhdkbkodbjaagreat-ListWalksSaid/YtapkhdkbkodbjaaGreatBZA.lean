/- Typed values, how they lie in memory, the executor's words and the table of types: what they mean. -/
import Derived.ProofKit
import Derived.Orders
import Derived.Laws.AppendOwn
import Derived.Laws.MakeOwn
import Derived.Laws.OwnMore
set_option linter.unusedVariables false
set_option linter.unusedSimpArgs false
namespace Go.Proofs.YtapkhdkbkodbjaaGreat.Fw
section
open Go
abbrev AS:=@List.getD_eq_getElem?_getD
abbrev AT:=@List.getElem?_eq_getElem
abbrev An:=@Bool.and_eq_true
abbrev As:=@if_neg
abbrev At:=@List.take_of_length_le
abbrev A0:=@List.length_append
abbrev BY:=@if_pos
abbrev By:=@List.mem_cons
abbrev DO:=@decide_eq_true_eq
abbrev Do:=@Int.ofNat_lt
abbrev GO:=@List.length_singleton
abbrev IF:=@List.mem_append
abbrev IN:=@Classical.byContradiction
abbrev IS:=@Nat.zero_le
abbrev If:=@List.mem_map
abbrev Is:=@Nat.le_refl
abbrev NO:=@List.mem_cons_of_mem
abbrev No:=@Option.map_eq_some_iff
abbrev OF:=@List.length_map
abbrev ON:=@List.all_eq_true
abbrev OR:=@List.length_take
abbrev OS:=@List.length_cons
abbrev Of:=@decide_eq_false_iff_not
abbrev On:=@List.drop_eq_nil_of_le
abbrev TO:=@Bool.not_eq_true'
abbrev Tj:=@List.drop_eq_getElem_cons
abbrev Tk:=@List.foldl_cons
abbrev Tl:=@List.take_length
abbrev Tm:=@List.getElem?_eq_some_iff
abbrev Tn:=@Int.ofNat_le
abbrev To:=@Int.toNat_natCast
abbrev Tp:=@Nat.le_trans
abbrev Tq:=@List.map_congr_left
abbrev Tr:=@Go.run_underlying
abbrev Ts:=@List.getElem?_eq_none
abbrev Tt:=@List.append_assoc
abbrev Tu:=@List.mem_singleton
abbrev Tv:=@List.eq_nil_of_length_eq_zero
abbrev Tw:=@List.pairwise_iff_getElem
abbrev Tx:=@List.mem_range
abbrev Tz:=@List.getElem?_append_left
abbrev UA:=@List.any_eq_true
abbrev UB:=@Nat.mul_le_mul_right
abbrev UC:=@List.getElem?_append_right
abbrev UD:=@List.map_cons
abbrev UE:=@List.getElem?_take
abbrev UF:=@List.append_nil
abbrev UG:=@Array.getElem?_eq_some_iff
abbrev UH:=@List.map_append
abbrev UI:=@Bool.or_eq_true
abbrev UJ:=@List.getElem_mem
abbrev UK:=@List.mem_append_left
abbrev UL:=@List.length_drop
abbrev UM:=@List.pairwise_cons
abbrev UN:=@List.mem_of_mem_take
abbrev UO:=@List.getElem?_map
abbrev UP:=@beq_iff_eq
abbrev UQ:=@List.range_succ
abbrev UR:=@List.drop_zero
abbrev US:=@List.nodup_cons
abbrev UT:=@List.mem_iff_getElem?
abbrev UU:=@List.length_set
abbrev UV:=@Go.Result.andThen_ok
abbrev UW:=@List.mem_of_getElem?
abbrev UX:=@Bool.or_eq_false_iff
abbrev UY:=@Array.getElem?_eq_getElem
abbrev UZ:=@List.ext_getElem
abbrev Ua:=@Bool.false_eq_true
abbrev Ub:=@List.length_take_le
abbrev Uc:=@Int.tdiv_eq_ediv_of_nonneg
abbrev Ud:=@List.not_mem_nil
abbrev Ue:=@List.filter_cons
abbrev Uf:=@List.map_map
abbrev Ug:=@List.length_nil
abbrev Uh:=@Option.isNone_iff_eq_none
abbrev Ui:=@List.getElem?_append
abbrev Uj:=@List.prefix_refl
abbrev Uk:=@List.getElem?_drop
abbrev Ul:=@List.length_filter_le
abbrev Um:=@Bool.and_eq_false_iff
abbrev Un:=@Option.some.injEq
abbrev Uo:=@List.take_zero
abbrev Up:=@List.getElem?_set
abbrev Uq:=@List.any_eq_false
abbrev Ur:=@List.mem_iff_getElem
abbrev Us:=@Nat.lt_of_lt_of_le
abbrev Ut:=@if_true
abbrev Uu:=@congrArg
abbrev Uv:=@decide_eq_false
abbrev Uw:=@beq_eq_false_iff_ne
abbrev Ux:=@List.take_succ_cons
abbrev Uy:=@Go.Sem.run_bind
abbrev Uz:=@List.pairwise_map
abbrev U0:=@List.nodup_append
abbrev VA:=@Int.natCast_nonneg
abbrev YY:=@Bool.not_eq_false'
abbrev YZ:=@if_false
abbrev Ya:=@List.getElem?_range
abbrev Yb:=@Int.toNat_of_nonneg
abbrev Yc:=@Nat.succ_mul
abbrev Yd:=@Int.not_lt
abbrev Ye:=@Int.le_trans
abbrev Yf:=@Nat.pos_of_ne_zero
abbrev Yg:=@Nat.le_antisymm
abbrev Yh:=@List.mem_filter
abbrev Yi:=@List.pairwise_append
abbrev Yj:=@Nat.zero_add
abbrev Yk:=@List.cons_append
abbrev Yl:=@List.drop_succ_cons
abbrev Ym:=@Bool.eq_false_iff
abbrev Yn:=@decide_eq_true
abbrev Yo:=@List.mem_or_eq_of_mem_set
abbrev Yp:=@List.all_cons
abbrev Yq:=@Nat.sub_self
abbrev Yr:=@Nat.min_eq_left
abbrev Ys:=@List.take_append_drop
abbrev Yt:=@List.nil_append
abbrev Yu:=@List.mem_append_right
abbrev Yv:=@Option.isSome_iff_exists
abbrev Yw:=@List.mem_of_mem_drop
abbrev Yx:=@List.getElem?_replicate
abbrev Yy:=@List.foldl_append
abbrev Yz:=@Option.map_some
abbrev Y0:=@Nat.mul_le_mul_left
abbrev Y2:=@List.length_eq_one_iff
abbrev aS:=@Int.tmod_eq_emod_of_nonneg
abbrev aT:=@List.getElem_map
abbrev bY:=@List.drop_length
abbrev f9:=@List.countP_cons
abbrev gO:=@List.mem_cons_self
abbrev iF:=@List.getElem_range
abbrev iN:=@ByteArray.size_append
abbrev iS:=@List.mem_take_iff_getElem
abbrev nO:=@Array.mapM_eq_mapM_toList
abbrev oF:=@BitVec.testBit_toNat
abbrev oN:=@Nat.lt_succ_iff_lt_or_eq
abbrev oR:=@List.cons.injEq
abbrev AA0:=@List.pairwise_singleton
abbrev AA1:=@List.getElem?_cons_zero
abbrev AA2:=@Int.le_refl
abbrev AA3:=@List.drop_left
abbrev AA5:=@List.filter_append
abbrev AAh:=@List.set_append_right
abbrev AAs:=@List.map_nil
abbrev AD5:=@List.any_append
abbrev AD7:=@List.all_append
abbrev ADc:=@Int.add_zero
abbrev ADd:=@Bool.eq_iff_iff
abbrev ADe:=@or_false
abbrev ADf:=@List.length_range
abbrev ADg:=@List.flatMap_cons
abbrev ADh:=@List.all_eq_false
abbrev ADi:=@List.mem_of_find?_eq_some
abbrev ADj:=@List.drop_drop
abbrev ADm:=@Int.not_le
abbrev ADn:=@Nat.add_sub_cancel_left
abbrev ADp:=@List.set_cons_zero
abbrev ADt:=@List.length_eq_zero_iff
abbrev ADu:=@List.filter_nil
abbrev ADw:=@List.getElem?_set_self
abbrev ADx:=@not_true_eq_false
abbrev ADz:=@bne_iff_ne
abbrev ADA:=@Nat.lt_trichotomy
abbrev ADC:=@Nat.add_mul
abbrev ADM:=@List.idxOf_append
abbrev ADN:=@List.ext_getElem?
abbrev ADO:=@List.length_replicate
abbrev ADP:=@List.eq_nil_iff_forall_not_mem
abbrev ADQ:=@Option.getD_some
abbrev ADR:=@List.exists_mem_of_length_pos
abbrev ADS:=@List.mem_erase_of_ne
abbrev ADT:=@Go.World.cell?_of_block
abbrev ADU:=@Nat.and_le_left
abbrev ADV:=@List.replicate_succ
abbrev ADW:=@Array.length_toList
abbrev ADX:=@Option.isSome_some
abbrev ADY:=@Nat.lt_of_le_of_lt
abbrev ADZ:=@Nat.le_of_lt
abbrev AE0:=@List.zip_cons_cons
abbrev AE1:=@List.set_cons_succ
abbrev AE2:=@List.prefix_append
abbrev AE3:=@List.mem_filterMap
abbrev AE4:=@List.find?_eq_none
abbrev AE5:=@List.countP_append
abbrev AE6:=@Int.lt_of_le_of_lt
abbrev AE7:=@Int.add_comm
abbrev AE8:=@Option.some_or
abbrev AE9:=@List.range_add
abbrev AEa:=@List.foldl_nil
abbrev AEb:=@Option.ext
abbrev AEc:=@List.take_add_one
abbrev AEd:=@Prod.mk.injEq
abbrev AEe:=@Nat.add_assoc
abbrev AEf:=@Int.ofNat.inj
abbrev AEh:=@Bool.true_and
abbrev AEi:=@Bool.false_or
abbrev AEj:=@Bool.and_comm
abbrev AEk:=@List.perm_middle
abbrev AEl:=@List.drop_append
abbrev AEm:=@Nat.zero_mul
abbrev AEn:=@List.find?_some
abbrev AEo:=@Int.sub_self
abbrev AEq:=@Nat.mod_lt
inductive Ty where
 | int (k:IntKind)
 | bool
 | str
 | slice (e:Ty)
 | prod (a b:Ty)
 | agg (t:Ty)
 
 | ref (k:Nat)
 deriving DecidableEq
def LP:Nat->Value
 | 0=>.pointer none
 | 1=>.nilFunc
 | _=>.map none
@[reducible] def Ty.den:Ty->Type
 | .int _=>Int
 | .bool=>Bool
 | .str=>ByteArray
 | .slice e=>List e.den
 | .prod a b=>a.den×b.den
 | .agg t=>t.den
 | .ref _=>Unit
def Ty.size:Ty->Nat
 | .prod a b=>a.size+b.size
 | .agg t=>t.size
 | .int _=>1
 | .bool=>1
 | .str=>1
 | .slice _=>1
 | .ref _=>1
def Ty.dflt:(t:Ty)->t.den
 | .int _=>(0:Int)
 | .bool=>false
 | .str=>ByteArray.empty
 | .slice _=>[]
 | .prod a b=>(a.dflt,b.dflt)
 | .agg t=>t.dflt
 | .ref _=>()
def Ty.zero:Ty->List Value
 | .int k=>[.int k 0]
 | .bool=>[.bool false]
 | .str=>[.string ByteArray.empty]
 | .slice _=>[.slice none 0 0]
 | .prod a b=>a.zero++b.zero
 | .agg t=>t.zero
 | .ref k=>[LP k]
def Ty.wrap:Ty->List Value->Value
 | .agg _,cs=>.agg cs.toArray
 | .prod _ _,cs=>.agg cs.toArray
 | .int _,cs=>cs.headD undef
 | .bool,cs=>cs.headD undef
 | .str,cs=>cs.headD undef
 | .slice _,cs=>cs.headD undef
 | .ref _,cs=>cs.headD undef
def KC (k:IntKind) (n:Int):Prop:=k.min<=n/\n<=k.max
def AO:Nat:=140737488355328
def Bv (w:World) (O:Nat->Prop):(t:Ty)->List Value->t.den->Prop
 | .int k,cs,d=>cs=[.int k d]/\KC k d
 | .bool,cs,d=>cs=[.bool d]
 | .str,cs,d=>cs=[.string d]/\ByteArray.size d<=AO
 | .slice e,cs,d=>∃(a:Option Addr) (c:Nat),cs=[.slice a (List.length d) c]/\List.length d<=c/\List.length d<=AO /\
   (d=[]\/∃ad:Addr,a=some ad/\¬O ad.block /\
    ∀(i:Nat) (x:e.den),d[i]?=some x->∃f:List Value,f.length=e.size/\(∀(j:Nat) (v:Value),f[j]?=some v->w.cell? (ad.add (i*e.size+j))=some v)/\Bv w O e f x)
 | .prod a b,cs,d=>∃c1 c2:List Value,cs=c1++c2/\Bv w O a c1 d.1/\Bv w O b c2 d.2
 | .agg t,cs,d=>Bv w O t cs d
 | .ref k,cs,_=>cs=[LP k]
def BS (w:World) (O:Nat->Prop) (t:Ty) (v:Value) (d:t.den):Prop:=∃cs,Bv w O t cs d/\v=t.wrap cs
theorem CD (a:Addr) (n:Nat):(a.add n).block=a.block:=by unfold Addr.add;split<;>rfl
theorem DF (a:Addr) (i j:Nat):(a.add i).add j=a.add (i+j):=by
 unfold Addr.add;grind
theorem Ml (a:Addr):a.add 0=a:=rfl
theorem f7 (g j:Nat):(⟨g,0,none⟩:Addr).add j=⟨g,j,none⟩:=by
 unfold Addr.add;split<;>simp_all
theorem JV (g i j:Nat):(⟨g,i,none⟩:Addr).add j=⟨g,i+j,none⟩:=by
 unfold Addr.add;split<;>simp_all
theorem Ty.size_pos:∀t:Ty,0<t.size
 | .int _=>by simp[Ty.size]
 | .bool=>by simp[Ty.size]
 | .str=>by simp[Ty.size]
 | .slice _=>by simp[Ty.size]
 | .ref _=>by simp[Ty.size]
 | .prod a b=>by have:=a.size_pos;simp[Ty.size];omega
 | .agg t=>by simpa[Ty.size] using t.size_pos
theorem Bv.length {w:World} {O:Nat->Prop}:∀ {t:Ty} {cs:List Value} {d:t.den},Bv w O t cs d->cs.length=t.size
 | .int _,_,_,h=>by obtain⟨rfl,_⟩:=h;rfl
 | .bool,_,_,h=>by have h:_=_:=h;subst h;rfl
 | .str,_,_,h=>by obtain⟨rfl,_⟩:=h;rfl
 | .slice _,_,_,h=>by obtain⟨_,_,rfl,_⟩:=h;rfl
 | .ref _,_,_,h=>by have h:_=_:=h;subst h;rfl
 | .prod a b,_,_,h=>by
  obtain⟨c1,c2,rfl,h1,c⟩:=h;simp[Ty.size,Bv.length h1,Bv.length c]
 | .agg t,_,_,h=>by
  have h:Bv w O t _ _:=h;simpa[Ty.size] using Bv.length h
theorem Bv.one {w:World} {O:Nat->Prop}:∀ {t:Ty} {cs:List Value} {d:t.den},Bv w O t cs d->∀v∈cs,v.oneCell'=true
 | .int _,_,_,h=>by obtain⟨rfl,_⟩:=h;simp[Value.oneCell']
 | .bool,_,_,h=>by have h:_=_:=h;subst h;simp[Value.oneCell']
 | .str,_,_,h=>by obtain⟨rfl,_⟩:=h;simp[Value.oneCell']
 | .slice _,_,_,h=>by obtain⟨_,_,rfl,_⟩:=h;simp[Value.oneCell']
 | .ref k,_,_,h=>by
  have h:_=[LP k]:=h;subst h;match k with
  | 0=>simp[Value.oneCell',LP]
  | 1=>simp[Value.oneCell',LP]
  | _+2=>simp[Value.oneCell',LP]
 | .prod a b,_,_,h=>by
  obtain⟨c1,c2,rfl,h1,e⟩:=h;intro v c;rcases IF.1 c with c|c
  .exact Bv.one h1 v c
  exact Bv.one e v c
 | .agg t,_,_,h=>by
  have h:Bv w O t _ _:=h;exact Bv.one h
theorem Bv.mono {w w':World} {O O':Nat->Prop} (f:∀b,b<w.heap.size->¬O b->¬O' b) (k:∀b,b<w.heap.size->¬O b->w'.heap[b]?=w.heap[b]?) :
  ∀ {t:Ty} {cs:List Value} {d:t.den},Bv w O t cs d->Bv w' O' t cs d
 | .int _,_,_,h=>h
 | .bool,_,_,h=>h
 | .str,_,_,h=>h
 | .ref _,_,_,h=>h
 | .slice e,_,d,h=>by
  obtain⟨a,c,rfl,h1,l,m⟩:=h;refine⟨a,c,rfl,h1,l,?_⟩;rcases m with m|⟨ad,rfl,s,q⟩
  .exact .inl m
  by_cases o:d=[]
  .exact .inl o
  have y:ad.block<w.heap.size:=by
   obtain⟨x,r,rfl⟩:∃x r,d=x :: r:=List.exists_cons_of_ne_nil o;obtain⟨g,p,n,_⟩:=q 0 x rfl;have hp:=e.size_pos;have:g[0]?=some (g[0]'(by omega)):=AT (by omega);have:=block_lt_of_cell (n 0 _ this)
   rwa [CD]at this
  refine .inr ⟨ad,rfl,f _ y s,λi x hi=>?_⟩;obtain⟨g,p,n,z⟩:=q i x hi;refine⟨g,p,λj v u=>?_,Bv.mono f k z⟩;rw[ADT (w:=w) (w':=w')]
  .exact n j v u
  grind [CD]
 | .prod a b,_,_,h=>by
  obtain⟨c1,c2,rfl,h1,l⟩:=h;exact⟨c1,c2,rfl,Bv.mono f k h1,Bv.mono f k l⟩
 | .agg t,_,_,h=>by
  have h:Bv w O t _ _:=h;exact(Bv.mono f k h:Bv w' O' t _ _)
theorem BS.mono {w w':World} {O O':Nat->Prop} (c:∀b,b<w.heap.size->¬O b->¬O' b) (e:∀b,b<w.heap.size->¬O b->w'.heap[b]?=w.heap[b]?)
  {t:Ty} {v:Value} {d:t.den} (h:BS w O t v d):BS w' O' t v d :=
 let ⟨cs,h1,a⟩:=h
 ⟨cs,h1.mono c e,a⟩
theorem Bv.zero (w:World) (O:Nat->Prop):∀t:Ty,Bv w O t t.zero t.dflt
 | .int k=>⟨rfl,by cases k<;>exact⟨by decide,by decide⟩⟩
 | .bool=>rfl
 | .str=>⟨rfl,by simp[Ty.dflt,AO]⟩
 | .slice _=>⟨none,0,rfl,by simp[Ty.dflt],by simp[Ty.dflt,AO],.inl rfl⟩
 | .ref _=>rfl
 | .prod a b=>⟨_,_,rfl,Bv.zero w O a,Bv.zero w O b⟩
 | .agg t=>(Bv.zero w O t:Bv w O t _ _)
end
section
open Go
structure PV where
 t:Ty
 d:t.den
def BP (t:Ty) (p:PV):Option t.den:=if h:p.t=t then some (h▸p.d) else none
theorem FK (t:Ty) (d:t.den):BP t ⟨t,d⟩=some d:=by simp[BP]
def Gt:(t:Ty)->Nat->t.den->Option PV
 | .prod a _,0,d=>some ⟨a,d.1⟩
 | .prod _ b,k+1,d=>Gt b k d.2
 | .int k,0,d=>some ⟨.int k,d⟩
 | .bool,0,d=>some ⟨.bool,d⟩
 | .str,0,d=>some ⟨.str,d⟩
 | .slice e,0,d=>some ⟨.slice e,d⟩
 | .agg t,0,d=>some ⟨.agg t,d⟩
 | .ref k,0,d=>some ⟨.ref k,d⟩
 | _,_,_=>none
def NU:(t:Ty)->Nat->t.den->PV->Option t.den
 | .prod a _,0,d,x=>(BP a x).map λy=>(y,d.2)
 | .prod _ b,k+1,d,x=>(NU b k d.2 x).map λy=>(d.1,y)
 | .int k,0,_,x=>BP (.int k) x
 | .bool,0,_,x=>BP .bool x
 | .str,0,_,x=>BP .str x
 | .slice e,0,_,x=>BP (.slice e) x
 | .agg t,0,_,x=>BP (.agg t) x
 | .ref k,0,_,x=>BP (.ref k) x
 | _,_,_,_=>none
def KD:Ty->Nat->Option Nat
 | .prod _ _,0=>some 0
 | .prod a b,k+1=>(KD b k).map (a.size + ·)
 | .int _,0=>some 0
 | .bool,0=>some 0
 | .str,0=>some 0
 | .slice _,0=>some 0
 | .agg _,0=>some 0
 | .ref _,0=>some 0
 | _,_=>none
def b5:Ty->Nat->Option Ty
 | .prod a _,0=>some a
 | .prod _ b,k+1=>b5 b k
 | .int k,0=>some (.int k)
 | .bool,0=>some .bool
 | .str,0=>some .str
 | .slice e,0=>some (.slice e)
 | .agg t,0=>some (.agg t)
 | .ref k,0=>some (.ref k)
 | _,_=>none
def TR:List Nat->(t:Ty)->t.den->Option PV
 | [],t,d=>some ⟨t,d⟩
 | k :: r,.agg t,d=>match Gt t k d with
  | some pv=>TR r pv.t pv.d
  | none=>none
 | _ :: _,_,_=>none
def Vj:List Nat->(t:Ty)->t.den->PV->Option t.den
 | [],t,_,x=>BP t x
 | k :: r,.agg t,d,x=>match Gt t k d with
  | some pv=>match Vj r pv.t pv.d x with
   | some y=>NU t k d ⟨pv.t,y⟩
   | none=>none
  | none=>none
 | _ :: _,_,_,_=>none
def LS:List Nat->Ty->Option Nat
 | [],_=>some 0
 | k :: r,.agg t=>match KD t k,b5 t k with
  | some o,some u=>(LS r u).map (o + ·)
  | _,_=>none
 | _ :: _,_=>none
inductive AV where
 
 | p (t:Ty) (d:t.den)
 
 | raw (v:Value)
 
 | sr (n:Nat) (e:Ty) (lo hi:Nat)
 
 | ep (n:Nat) (e:Ty) (i:Nat) (path:List Nat) (off:Nat)
 
 | pc (e:Ty) (d:List e.den)
 
 | ip (t:Ty) (d:t.den)
 
 | bp (n:Nat) (path:List Nat) (off:Nat)
 | fn (f:FuncId)
 
 | clo (f:FuncId) (ns:List Nat)
 
 | mp (n:Nat)
 
 | yl (n:Nat)
 
 | nin (n:Nat) (e:Ty) (i len:Nat)
 
 | ag (l:List AV)
 | tup (l:List AV)
 
 | top
inductive Obj where
 | arr (et:TypeId) (e:Ty) (xs:List e.den)
 | box (et:TypeId) (st:Bool) (fs:List AV)
 
 | mapo (k v:Ty) (l:List (k.den×v.den))
 
 | itr (k v:Ty) (l:List (k.den×v.den)) (left:List Nat) (cur:Option Nat)
 
 | nest (et iet:TypeId) (k e:Ty) (xs:List (k.den×List e.den)) (h:Option Nat)
 
 | frame (tm:Array Value) (fs:List (Nat×AV))
 
 | loop (L:Go.Loop)
 
 | dfr
structure St where
 env:List (Nat×AV)
 objs:List (Nat×Obj)
def lk {α:Type}:Nat->List (Nat×α)->Option α
 | _,[]=>none
 | k,(j,v) :: r=>if k=j then some v else lk k r
def del {α:Type}:Nat->List (Nat×α)->List (Nat×α)
 | _,[]=>[]
 | k,(j,v) :: r=>if k=j then del k r else (j,v) :: del k r
def upd {α:Type}:Nat->α->List (Nat×α)->List (Nat×α)
 | _,_,[]=>[]
 | k,u,(j,v) :: r=>if k=j then (j,u) :: upd k u r else (j,v) :: upd k u r
def sub {α:Type} (xs:List α) (lo hi:Nat):List α:=(xs.drop lo).take (hi-lo)
theorem IZ {α:Type} (xs:List α):sub xs 0 xs.length=xs:=by simp[sub]
structure TI where
 ty:Ty
 offs:List (Nat×Nat):=[]
 el:TypeId:=0
 bytes:Nat
inductive RV where
 | p (t:Ty) (d:t.den)
 | own (et:TypeId) (e:Ty) (xs:List e.den)
@[reducible] def KE:List Ty->Type
 | []=>Unit
 | t :: r=>t.den×KE r
def Ty.flat:Ty->Bool
 | .slice _=>false
 | .prod a b=>a.flat&&b.flat
 | .agg t=>t.flat
 | .int _=>true
 | .bool=>true
 | .str=>true
 | .ref _=>true
def RV.flat:RV->Bool
 | .p t _=>t.flat
 | .own _ _ _=>false
structure AZ where
 ins:List Ty
 lend:Bool:=false
 pre:KE ins->Prop
 out:KE ins->List RV
structure Tb where
 ty:List (Nat×TI)
 fns:List (Nat×AZ)
 
 pure:List Nat:=[]
 
 nests:List (Nat×TypeId):=[]
 
 live:List Nat:=[]
def inB (n:Nat):List Nat->Bool
 | []=>false
 | m :: r=>if n=m then true else inB n r
def HG:Value->AV
 | .int k n=>if k.min<=n/\n<=k.max then .p (.int k) n else .raw (.int k n)
 | .bool b=>.p .bool b
 | .string s=>if s.size<=AO then .p .str s else .raw (.string s)
 | v=>.raw v
def Ar (σ:St):Operand->Option AV
 | .tmp t=>lk t σ.env
 | .const v=>some (HG v)
 | .func f=>some (.fn f)
 | .global _=>none
def RE (e:Ty) (lo hi:Nat):Option Obj->Option (List e.den)
 | some (.arr _ a xs)=>BP (.slice e) ⟨.slice a,sub xs lo hi⟩
 | some (.nest _ _ k a xs none)=>BP (.slice e) ⟨.slice (.agg (.prod k (.slice a))),sub xs lo hi⟩
 | _=>none
def RH (e:Ty) (i:Nat):Option Obj->Option (List e.den)
 | some (.nest _ _ k a xs none)=>BP (.slice e) ⟨.slice a,(xs.getD i (k.dflt,[])).2⟩
 | _=>none
def Eq (l:Bool) (σ:St):(t:Ty)->AV->Option t.den
 | t,.p u d=>BP t ⟨u,d⟩
 | .slice e,.sr n a lo hi=>if l=true/\a=e then RE e lo hi (lk n σ.objs) else none
 | .slice e,.nin n a i _=>if l=true/\a=e then RH e i (lk n σ.objs) else none
 | .slice _,.raw (.slice none 0 0)=>some []
 | _,_=>none
def LT {α β:Type}:Option α->Option β->Option (α×β)
 | some a,some b=>some (a,b)
 | _,_=>none
def KF (l:Bool) (σ:St):List AV->(t:Ty)->Option t.den
 | [],_=>none
 | [x],t=>Eq l σ t x
 | x :: y :: r,.prod a b=>LT (Eq l σ a x) (KF l σ (y :: r) b)
 | _ :: _ :: _,_=>none
def Mm (l:Bool) (σ:St):(t:Ty)->AV->Option t.den
 | .agg t,.ag fs=>KF l σ fs t
 | t,x=>Eq l σ t x
def Aa (n:Nat):List Nat->Bool
 | []=>false
 | m :: r=>if n=m then true else Aa n r
theorem Ap (n:Nat):∀l:List Nat,Aa n l=true↔n∈l
 | []=>by simp[Aa]
 | m :: r=>by
  simp only[Aa,By];split
  .rename_i h;simp[h]
  rename_i h;simp[h,Ap n r]
mutual
def AV.fgt (hs:List Nat):AV->AV
 | .sr m e lo hi=>if Aa m hs=true then .top else .sr m e lo hi
 | .ep m e i path off=>if Aa m hs=true then .top else .ep m e i path off
 | .nin m e i len=>if Aa m hs=true then .top else .nin m e i len
 | .bp m path off=>if Aa m hs=true then .top else .bp m path off
 | .mp m=>if Aa m hs=true then .top else .mp m
 | .yl m=>if Aa m hs=true then .top else .yl m
 | .clo f ns=>if (ns.any λn=>Aa n hs)=true then .top else .clo f ns
 | .ag l=>.ag (AV.fgts hs l)
 | .tup l=>.tup (AV.fgts hs l)
 | .p t d=>.p t d
 | .pc e d=>.pc e d
 | .raw v=>.raw v
 | .ip t d=>.ip t d
 | .fn f=>.fn f
 | .top=>.top
def AV.fgts (hs:List Nat):List AV->List AV
 | []=>[]
 | x :: r=>AV.fgt hs x :: AV.fgts hs r
end
def CH (hs:List Nat):List (Nat×AV)->List (Nat×AV)
 | []=>[]
 | (s,x) :: r=>(s,x.fgt hs) :: CH hs r
def Obj.fgt (hs:List Nat):Obj->Obj
 | .arr et e xs=>.arr et e xs
 | .box et st fs=>.box et st (AV.fgts hs fs)
 | .mapo k v l=>.mapo k v l
 | .nest et b k e xs h=>.nest et b k e xs h
 | .frame i fs=>.frame i (CH hs fs)
 | .loop L=>.loop L
 | .itr c g d f a=>.itr c g d f a
 | .dfr=>.dfr
def Av (a hs:List Nat):List (Nat×Obj)->List (Nat×Obj)
 | []=>[]
 | (n,o) :: r=>if Aa n a=true then Av a hs r else (n,o.fgt hs) :: Av a hs r
mutual
def AV.trn (n:Nat) (hs:List Nat):AV->AV
 | .nin m e i len=>if m=n\/Aa m hs=true then .top else .nin m e i len
 | .sr m e lo hi=>if Aa m hs=true then .top else .sr m e lo hi
 | .ep m e i path off=>if Aa m hs=true then .top else .ep m e i path off
 | .bp m path off=>if Aa m hs=true then .top else .bp m path off
 | .mp m=>if Aa m hs=true then .top else .mp m
 | .yl m=>if Aa m hs=true then .top else .yl m
 | .clo f ns=>if (ns.any λn=>Aa n hs)=true then .top else .clo f ns
 | .ag l=>.ag (AV.trns n hs l)
 | .tup l=>.tup (AV.trns n hs l)
 | .p t d=>.p t d
 | .pc e d=>.pc e d
 | .raw v=>.raw v
 | .ip t d=>.ip t d
 | .fn f=>.fn f
 | .top=>.top
def AV.trns (n:Nat) (hs:List Nat):List AV->List AV
 | []=>[]
 | x :: r=>AV.trn n hs x :: AV.trns n hs r
end
def Er (n:Nat) (hs:List Nat):List (Nat×AV)->List (Nat×AV)
 | []=>[]
 | (s,x) :: r=>(s,x.trn n hs) :: Er n hs r
def Obj.trn (n:Nat) (hs:List Nat):Obj->Obj
 | .arr et e xs=>.arr et e xs
 | .box et st fs=>.box et st (AV.trns n hs fs)
 | .mapo k v l=>.mapo k v l
 | .nest et b k e xs h=>.nest et b k e xs h
 | .frame i fs=>.frame i (Er n hs fs)
 | .loop L=>.loop L
 | .itr c g d f a=>.itr c g d f a
 | .dfr=>.dfr
def Cz (n:Nat) (hs:List Nat):List (Nat×Obj)->List (Nat×Obj)
 | []=>[]
 | (m,o) :: r=>if Aa m (n :: hs)=true then Cz n hs r else (m,o.trn n hs) :: Cz n hs r
def Ce:Option Obj->Bool
 | some (.nest _ _ _ _ _ _)=>true
 | _=>false
def PY (σ:St) (e:Ty):AV->Option (List e.den)
 | .sr n a lo hi=>if Ce (lk n σ.objs)=true then none else Mm true σ (.slice e) (.sr n a lo hi)
 | x=>Mm true σ (.slice e) x
end
section
open Go
def Ah (x y:ByteArray):Bool:=x.toList==y.toList
def G8 (x y:ByteArray):Bool:=Op.bytesLess x.toList y.toList
def B2 (op:BinOp) (k:IntKind) (x y:Int):Int :=
 k.wrap (match op with
  | .and=>((BitVec.ofInt k.bits x &&& BitVec.ofInt k.bits y).toNat:Int)
  | .or=>((BitVec.ofInt k.bits x ||| BitVec.ofInt k.bits y).toNat:Int)
  | .xor=>((BitVec.ofInt k.bits x ^^^ BitVec.ofInt k.bits y).toNat:Int)
  | _=>((BitVec.ofInt k.bits x &&& ~~~BitVec.ofInt k.bits y).toNat:Int))
def TS (k:IntKind) (x y:Int):Int:=k.wrap (x*2 ^ (min y.toNat k.bits))
def Y6 (k:IntKind) (x y:Int):Int:=x.fdiv (2 ^ (min y.toNat k.bits))
def mU (k:IntKind) (a b:Int):BinOp->Prop×AV
 | .add=>(KC k (a+b),.p (.int k) (a+b))
 | .sub=>(KC k (a-b),.p (.int k) (a-b))
 | .mul=>(KC k (a*b),.p (.int k) (a*b))
 | .quo=>(b≠0/\KC k (a.tdiv b),.p (.int k) (a.tdiv b))
 | .rem=>(b≠0/\KC k (a.tmod b),.p (.int k) (a.tmod b))
 | .and=>(True,.p (.int k) (B2 .and k a b))
 | .or=>(True,.p (.int k) (B2 .or k a b))
 | .xor=>(True,.p (.int k) (B2 .xor k a b))
 | .andNot=>(True,.p (.int k) (B2 .andNot k a b))
 | .shl=>(False,.top)
 | .shr=>(False,.top)
 | .eql=>(True,.p .bool (a==b))
 | .neq=>(True,.p .bool (a != b))
 | .lss=>(True,.p .bool (decide (a<b)))
 | .leq=>(True,.p .bool (decide (a<=b)))
 | .gtr=>(True,.p .bool (decide (b<a)))
 | .geq=>(True,.p .bool (decide (b<=a)))
def Y7 (a b:ByteArray):BinOp->Prop×AV
 | .add=>(a.size+b.size<=AO,.p .str (a++b))
 | .eql=>(True,.p .bool (Ah a b))
 | .neq=>(True,.p .bool (!Ah a b))
 | .lss=>(True,.p .bool (G8 a b))
 | .leq=>(True,.p .bool (G8 a b||Ah a b))
 | .gtr=>(True,.p .bool (!(G8 a b||Ah a b)))
 | .geq=>(True,.p .bool (!G8 a b))
 | _=>(False,.top)
def bin (op:BinOp) (k:IntKind) (a:Int) (c:IntKind) (b:Int):Prop×AV :=
 match op with
 | .shl=>(0<=b,.p (.int k) (TS k a b))
 | .shr=>(0<=b/\KC k (Y6 k a b),.p (.int k) (Y6 k a b))
 | op=>if k=c then mU k a b op else (False,.top)
def zf1:Ty->AV
 | .slice _=>.raw (.slice none 0 0)
 | .ref k=>.raw (LP k)
 | t=>.p t t.dflt
def zfs:Ty->List AV
 | .prod a b=>zf1 a :: zfs b
 | t=>[zf1 t]
def pfs:(t:Ty)->t.den->List AV
 | .prod a b,d=>.p a d.1 :: pfs b d.2
 | .int k,d=>[.p (.int k) d]
 | .bool,d=>[.p .bool d]
 | .str,d=>[.p .str d]
 | .slice e,d=>[.p (.slice e) d]
 | .agg t,d=>[.p (.agg t) d]
 | .ref k,d=>[.p (.ref k) d]
def AV.cells:AV->Nat
 | .p t _=>t.size
 | .ag _=>0
 | .tup _=>0
 | _=>1
def CA:List AV->Nat->Nat
 | _,0=>0
 | [],_+1=>0
 | x :: r,k+1=>x.cells+CA r k
def JW (st:Bool) (fs:List AV):List Nat->Option AV
 | []=>if st then some (.ag fs) else fs[0]?
 | [k]=>if st then fs[k]? else none
 | k :: r=>if st then match fs[k]? with
   | some (.p t d)=>(TR r t d).map λpv=>.p pv.t pv.d
   | _=>none
  else none
def PZ (fs:List AV):List Nat->Option Nat
 | []=>some 0
 | k :: r=>match fs[k]? with
  | some (.p t _)=>(LS r t).map (CA fs k + ·)
  | some _=>if r.isEmpty then some (CA fs k) else none
  | none=>none
def Ty.cell1:Ty->Bool
 | .agg _=>false
 | .prod _ _=>false
 | .int _=>true
 | .bool=>true
 | .str=>true
 | .slice _=>true
 | .ref _=>true
def CS (ty:Ty):AV->Bool
 | .p t _=>ty=t
 | .ag l=>match ty with|.agg t=>CA l l.length==t.size|_=>false
 | .tup _=>false
 | .top=>false
 | .raw u=>u.oneCell'&&ty.cell1
 | _=>ty.cell1
def Nc (ty:Ty):AV->Bool
 | .top=>ty.cell1
 | x=>CS ty x
def Ga (n:Nat):Bool:=decide (1000000<=n)
mutual
def AV.frz (n:Nat) (e:Ty) (xs:List e.den):AV->AV
 | .sr m e' lo hi=>if m=n then (if e'=e then .p (.slice e) (sub xs lo hi) else .top) else .sr m e' lo hi
 | .ep m e' i path off=>if m=n then .top else .ep m e' i path off
 | .nin m e' i len=>if m=n then .top else .nin m e' i len
 | .ag l=>.ag (AV.frzs n e xs l)
 | .tup l=>.tup (AV.frzs n e xs l)
 | .p t d=>.p t d
 | .pc e d=>.pc e d
 | .raw v=>.raw v
 | .ip t d=>.ip t d
 | .bp m path off=>.bp m path off
 | .fn f=>.fn f
 | .clo f ns=>.clo f ns
 | .mp n=>.mp n
 | .yl n=>.yl n
 | .top=>.top
def AV.frzs (n:Nat) (e:Ty) (xs:List e.den):List AV->List AV
 | []=>[]
 | x :: r=>AV.frz n e xs x :: AV.frzs n e xs r
end
def DG (n:Nat) (e:Ty) (xs:List e.den):List (Nat×AV)->List (Nat×AV)
 | []=>[]
 | (s,x) :: r=>(s,x.frz n e xs) :: DG n e xs r
def A2 (n:Nat) (e:Ty) (xs:List e.den):List (Nat×Obj)->List (Nat×Obj)
 | []=>[]
 | (m,.arr et a ys) :: r=>(m,.arr et a ys) :: A2 n e xs r
 | (m,.box et st fs) :: r=>(m,.box et st (AV.frzs n e xs fs)) :: A2 n e xs r
 | (m,.mapo k v l) :: r=>(m,.mapo k v l) :: A2 n e xs r
 | (m,.nest et c k a ys h) :: r=>(m,.nest et c k a ys h) :: A2 n e xs r
 | (m,.frame j fs) :: r=>(m,.frame j (DG n e xs fs)) :: A2 n e xs r
 | (m,.loop L) :: r=>(m,.loop L) :: A2 n e xs r
 | (m,.itr d i f g b) :: r=>(m,.itr d i f g b) :: A2 n e xs r
 | (m,.dfr) :: r=>(m,.dfr) :: A2 n e xs r
def mV (n:Nat) (σ:St):Option Obj->St
 | some (.arr _ e xs)=>⟨DG n e xs σ.env,A2 n e xs (del n σ.objs)⟩
 | some (.nest _ _ k e xs none)=>⟨DG n (.agg (.prod k (.slice e))) xs σ.env,A2 n (.agg (.prod k (.slice e))) xs (del n σ.objs)⟩
 | _=>σ
def frz (n:Nat) (σ:St):St:=if Ga n=true then σ else mV n σ (lk n σ.objs)
mutual
def AV.drp (n:Nat):AV->AV
 | .sr m e' lo hi=>if m=n then .top else .sr m e' lo hi
 | .ep m e' i path off=>if m=n then .top else .ep m e' i path off
 | .nin m e' i len=>if m=n then .top else .nin m e' i len
 | .ag l=>.ag (AV.drps n l)
 | .tup l=>.tup (AV.drps n l)
 | .p t d=>.p t d
 | .pc e d=>.pc e d
 | .raw v=>.raw v
 | .ip t d=>.ip t d
 | .bp m path off=>.bp m path off
 | .fn f=>.fn f
 | .clo f ns=>.clo f ns
 | .mp n=>.mp n
 | .yl n=>.yl n
 | .top=>.top
def AV.drps (n:Nat):List AV->List AV
 | []=>[]
 | x :: r=>AV.drp n x :: AV.drps n r
end
def FY (n:Nat):List (Nat×AV)->List (Nat×AV)
 | []=>[]
 | (s,x) :: r=>(s,x.drp n) :: FY n r
def BX (n:Nat):List (Nat×Obj)->List (Nat×Obj)
 | []=>[]
 | (m,.arr et a ys) :: r=>(m,.arr et a ys) :: BX n r
 | (m,.box et st fs) :: r=>(m,.box et st (AV.drps n fs)) :: BX n r
 | (m,.mapo k v l) :: r=>(m,.mapo k v l) :: BX n r
 | (m,.nest et c k a ys h) :: r=>(m,.nest et c k a ys h) :: BX n r
 | (m,.frame i fs) :: r=>(m,.frame i (FY n fs)) :: BX n r
 | (m,.loop L) :: r=>(m,.loop L) :: BX n r
 | (m,.itr d g e f b) :: r=>(m,.itr d g e f b) :: BX n r
 | (m,.dfr) :: r=>(m,.dfr) :: BX n r
mutual
def AV.names:AV->List Nat
 | .sr m _ _ _=>[m]
 | .ag l=>AV.namess l
 | .tup l=>AV.namess l
 | .p _ _=>[]
 | .pc _ _=>[]
 | .raw _=>[]
 | .ip _ _=>[]
 | .bp _ _ _=>[]
 | .ep _ _ _ _ _=>[]
 | .nin _ _ _ _=>[]
 | .fn _=>[]
 | .clo _ _=>[]
 | .mp _=>[]
 | .yl _=>[]
 | .top=>[]
def AV.namess:List AV->List Nat
 | []=>[]
 | x :: r=>x.names++AV.namess r
end
def Gb (σ:St):Option Operand->Option (Option AV)
 | none=>some none
 | some x=>(Ar σ x).map some
def Es (σ:St) (e:Ty):Nat->List (Nat×Operand)->Option (List e.den)
 | _,[]=>some []
 | k,(i,x) :: r=>if i=k then match Ar σ x with
   | some av=>match Mm false σ e av,Es σ e (k+1) r with
    | some y,some ys=>some (y :: ys)
    | _,_=>none
   | none=>none
  else none
def Ia:AV->Bool
 | .p (.prod _ _) _=>false
 | .p _ _=>true
 | .raw u=>u.oneCell'
 | .ag _=>false
 | .tup _=>false
 | .top=>false
 | _=>true
def FZ (σ:St):Option AV->Option AV->Option AV
 | some (.p t _),some (.ag l)=>(Mm false σ t (.ag l)).map λd=>.p t d
 | _,x=>x
def Da (σ:St) (offs:List (Nat×Nat)):List AV->List (Nat×Operand)->Option (List AV)
 | fs,[]=>some fs
 | fs,(i,x) :: r=>match FZ σ fs[i]? (Ar σ x) with
  | some av=>if Ia av=true/\(fs[i]?.map AV.cells)=some av.cells/\offs[i]?=some (CA fs i,av.cells) then Da σ offs (fs.set i av) r else none
  | none=>none
def F5 (l:Bool) (σ:St):(ts:List Ty)->List Operand->Option (KE ts)
 | [],[]=>some ()
 | t :: ts,x :: xs=>match Ar σ x with
  | some av=>match Mm l σ t av,F5 l σ ts xs with
   | some y,some ys=>some (y,ys)
   | _,_=>none
  | none=>none
 | _,_=>none
def f8 (name:Nat):RV->AV
 | .p t d=>.p t d
 | .own _ e xs=>.sr name e 0 xs.length
def ST (name:Nat):RV->List (Nat×Obj)
 | .p _ _=>[]
 | .own et e xs=>[(name,.arr et e xs)]
def Hd:Nat->List RV->List AV
 | _,[]=>[]
 | n,r :: l=>f8 n r :: Hd (n+10000) l
def Cf:Nat->List RV->List (Nat×Obj)
 | _,[]=>[]
 | n,r :: l=>ST n r++Cf (n+10000) l
def G9 (name:Nat):List RV->AV
 | []=>.raw (.tuple #[])
 | [r]=>f8 name r
 | l=>.tup (Hd name l)
def He:(t:Ty)->t.den->t.den->Bool
 | .int _,a,b=>(a:Int)==b
 | .bool,a,b=>(a:Bool)==b
 | .str,a,b=>(a:ByteArray)==b
 | .prod t u,a,b=>He t a.1 b.1&&He u a.2 b.2
 | .agg t,a,b=>He t a b
 | .slice _,_,_=>false
 | .ref _,_,_=>false
def mW:Ty->Bool
 | .prod (.int _) (.int _)=>true
 | _=>false
def Y8:Ty->Bool
 | .int _=>true
 | .bool=>true
 | .str=>true
 | .prod _ _=>false
 | .agg t=>mW t
 | .slice _=>false
 | .ref _=>false
def BR (a b:Ty) (k:a.den):List (a.den×b.den)->Option b.den
 | []=>none
 | x :: r=>if He a k x.1=true then some x.2 else BR a b k r
def Fa (a b:Ty) (k:a.den) (v:b.den):List (a.den×b.den)->List (a.den×b.den)
 | []=>[(k,v)]
 | x :: r=>if He a k x.1=true then (k,v) :: r else x :: Fa a b k v r
abbrev BV:=Option (Prop×AV×List (Nat×Obj))
def Hf (x:AV) (lo hi:Option AV):BV :=
 match x,lo,hi with
 | .p (.slice e) l,none,some (.p (.int _) h)=>some (0<=h/\h<=l.length,.p (.slice e) (sub l 0 h.toNat),[])
 | .p (.slice e) l,some (.p (.int _) a),none=>some (0<=a/\a<=l.length,.p (.slice e) (sub l a.toNat l.length),[])
 | .p (.slice e) l,some (.p (.int _) a),some (.p (.int _) h)=>some (0<=a/\a<=h/\h<=l.length,.p (.slice e) (sub l a.toNat h.toNat),[])
 | .p .str s,none,some (.p (.int _) h)=>some (0<=h/\h<=s.size,.p .str (s.extract 0 h.toNat),[])
 | .p .str s,some (.p (.int _) a),none=>some (0<=a/\a<=s.size,.p .str (s.extract a.toNat s.size),[])
 | .p .str s,some (.p (.int _) a),some (.p (.int _) h)=>some (0<=a/\a<=h/\h<=s.size,.p .str (s.extract a.toNat h.toNat),[])
 | .sr n e b c,none,some (.p (.int _) h)=>some (0<=h/\h<=(c-b:Nat),.sr n e b (b+h.toNat),[])
 | .sr n e b c,some (.p (.int _) a),none=>some (0<=a/\a<=(c-b:Nat),.sr n e (b+a.toNat) c,[])
 | .sr n e b c,some (.p (.int _) a),some (.p (.int _) h)=>some (0<=a/\a<=h/\h<=(c-b:Nat),.sr n e (b+a.toNat) (b+h.toNat),[])
 | _,_,_=>none
def Gc:Option AV->BV
 | some v=>some (True,v,[])
 | none=>none
def LB:Option AV->Option AV->Option AV->BV
 | some (.p .bool true),x,_=>Gc x
 | some (.p .bool false),_,y=>Gc y
 | _,_,_=>none
def KG (d:Nat) (t:TypeId):Option TI->BV
 | some ⟨.agg u,_,_,_⟩=>some (True,.bp d [] 0,[(d,.box t true (zfs u))])
 | some ⟨.int k,_,_,_⟩=>some (True,.bp d [] 0,[(d,.box t false [zf1 (.int k)])])
 | some ⟨.bool,_,_,_⟩=>some (True,.bp d [] 0,[(d,.box t false [zf1 .bool])])
 | some ⟨.str,_,_,_⟩=>some (True,.bp d [] 0,[(d,.box t false [zf1 .str])])
 | some ⟨.slice e,_,_,_⟩=>some (True,.bp d [] 0,[(d,.box t false [zf1 (.slice e)])])
 | some ⟨.ref k,_,_,_⟩=>some (True,.bp d [] 0,[(d,.box t false [zf1 (.ref k)])])
 | _=>none
def TT (d:Nat) (t:TypeId):Option TI->Option AV->BV
 | some ⟨.agg u,_,_,_⟩,some (.p (.agg a) v)=>if u=a then some (True,.bp d [] 0,[(d,.box t true (pfs a v))]) else none
 | some ⟨.agg u,_,_,_⟩,some (.ag l)=>if l.map AV.cells=(zfs u).map AV.cells then some (True,.bp d [] 0,[(d,.box t true l)]) else none
 | some ⟨.int k,_,_,_⟩,some v=>if CS (.int k) v then some (True,.bp d [] 0,[(d,.box t false [v])]) else none
 | some ⟨.bool,_,_,_⟩,some v=>if CS .bool v then some (True,.bp d [] 0,[(d,.box t false [v])]) else none
 | some ⟨.str,_,_,_⟩,some v=>if CS .str v then some (True,.bp d [] 0,[(d,.box t false [v])]) else none
 | some ⟨.slice e,_,_,_⟩,some v=>if CS (.slice e) v then some (True,.bp d [] 0,[(d,.box t false [v])]) else none
 | some ⟨.ref k,_,_,_⟩,some v=>if CS (.ref k) v then some (True,.bp d [] 0,[(d,.box t false [v])]) else none
 | _,_=>none
def JA (σ:St) (parts:List (Nat×Operand)):Option TI->BV
 | some ⟨.agg u,offs,_,_⟩=>Gc ((Da σ offs (zfs u) parts).map AV.ag)
 | _=>none
def Bd (a:Bool) (d:Nat) (n:Nat) (el:TypeId) (e:Ty):Option (List e.den)->BV
 | some xs=>some (xs.length=n/\n*e.size<=16777216,if a then .p (.slice e) xs else .sr d e 0 n,if a then [] else [(d,.arr el e xs)])
 | none=>none
def BZ (a:Bool) (σ:St) (d:Nat) (n:Nat) (parts:List (Nat×Operand)):Option TI->BV
 | some ⟨.slice e,_,el,_⟩=>Bd a d n el e (Es σ e 0 parts)
 | _=>none
def KH (d:Nat) (el b:TypeId) (n:Nat) (k e:Ty):Option k.den->AV->BV
 | some a,.raw (.slice none 0 0)=>some (n=1/\k.size+1<=16777216,.sr d (.agg (.prod k (.slice e))) 0 1,[(d,.nest el b k e [(a,[])] none)])
 | some a,.pc c l=>if c=e then some ((n=1/\k.size+1<=16777216)/\List.length l=0,.sr d (.agg (.prod k (.slice e))) 0 1,[(d,.nest el b k e [(a,[])] none)]) else none
 | _,_=>none
def JB (σ:St) (d:Nat) (el a:TypeId) (n:Nat):Ty->Option AV->BV
 | .agg (.prod k (.slice e)),some (.ag [x,y])=>KH d el a n k e (Eq false σ k x) y
 | _,_=>none
def JC (σ:St) (d:Nat) (a:TypeId) (n:Nat):List (Nat×Operand)->Option TI->BV
 | [(0,x)],some ⟨.slice t,_,el,_⟩=>JB σ d el a n t (Ar σ x)
 | _,_=>none
def GW (tb:Tb) (σ:St) (d:Nat) (n:Nat) (parts:List (Nat×Operand)) (ti:Option TI):Option TypeId->BV
 | some a=>JC σ d a n parts ti
 | none=>BZ (inB d tb.pure) σ d n parts ti
def Ib (ty:Ty) (fs:List AV) (a:List Nat) (off:Nat):Option AV->BV
 | some v=>if CS ty v=true/\PZ fs a=some off then some (True,v,[]) else none
 | none=>none
def EI (ty:Ty) (a:List Nat) (off:Nat):Option Obj->BV
 | some (.box _ st fs)=>Ib ty fs a off (JW st fs a)
 | _=>none
def Ic (ty e:Ty) (a:List Nat) (off:Nat):Option PV->BV
 | some ⟨t,d⟩=>if ty=t/\LS a e=some off then some (True,.p t d,[]) else none
 | none=>none
def Id (ty e:Ty) (i:Nat) (a:List Nat) (off:Nat):Option (List e.den)->BV
 | some ys=>Ic ty e a off (TR a e (ys.getD i e.dflt))
 | none=>none
def OC (n:Nat) (ty:Ty) (i off:Nat) (k e:Ty) (x:k.den×List e.den):List Nat->BV
 | [0]=>if ty=k/\off=0 then some (True,.p k x.1,[]) else none
 | [1]=>if ty=.slice e/\off=k.size then some (True,.nin n e i x.2.length,[]) else none
 | _=>none
def EJ (n:Nat) (ty e:Ty) (i:Nat) (b:List Nat) (off:Nat):Option Obj->BV
 | some (.arr _ a xs)=>Id ty e i b off (BP (.slice e) ⟨.slice a,xs⟩)
 | some (.nest _ _ k a xs none)=>if e=.agg (.prod k (.slice a)) then OC n ty i off k a (xs.getD i (k.dflt,[])) b else none
 | _=>none
def JY (σ:St):Option TI->Option AV->BV
 | some ti,some (.bp n a off)=>EI ti.ty a off (lk n σ.objs)
 | some ti,some (.ep n e i a off)=>EJ n ti.ty e i a off (lk n σ.objs)
 | some ti,some (.ip u v)=>if ti.ty=u then some (True,.p u v,[]) else none
 | _,_=>none
def Ie (o:Option (Nat×Nat)) (a:Option Nat):Option PV->BV
 | some ⟨t,d⟩=>if o.map (·.1)=a then some (True,.ip t d,[]) else none
 | none=>none
def Vk (v:Nat->AV):Option (Nat×Nat)->BV
 | some (k,_)=>some (True,v k,[])
 | none=>none
def Pa (f:Nat) (o:Option (Nat×Nat)):AV->BV
 | .bp n a off=>Vk (λk=>.bp n (a++[f]) (off+k)) o
 | .ep n e i a off=>Vk (λk=>.ep n e i (a++[f]) (off+k)) o
 | .ip (.agg u) v=>Ie o (KD u f) (Gt u f v)
 | _=>none
def Gu (f:Nat):Option TI->Option AV->BV
 | some ⟨.agg _,offs,0,_⟩,some x=>Pa f offs[f]? x
 | _,_=>none
def KI (offs:List (Nat×Nat)) (x:AV):AV->BV
 | .p (.int _) k=>if 0<=k then Pa k.toNat offs[k.toNat]? x else none
 | _=>none
def Fb:Option TI->Option AV->Option AV->BV
 | some ⟨.slice e,_,_,_⟩,some (.p (.slice a) l),some (.p (.int _) k)=>if e=a then some (0<=k/\k<l.length,.ip a (l.getD k.toNat a.dflt),[]) else none
 | some ⟨.slice e,_,_,_⟩,some (.sr n a lo hi),some (.p (.int _) k)=>if e=a then some (0<=k/\k<(hi-lo:Nat),.ep n a (lo+k.toNat) [] 0,[]) else none
 | some ⟨.agg _,offs,_+1,_⟩,some x,some i=>KI offs x i
 | _,_,_=>none
def EB:Option TI->Option AV->Option AV->BV
 | some ⟨.str,_,_,_⟩,some (.p .str s),some (.p (.int _) k)=>some (0<=k/\k<s.size,.p (.int .u8) ((s.data.getD k.toNat 0).toNat:Int),[])
 | _,_,_=>none
def Vl:Option AV->BV
 | some (.bp n a off)=>some (True,.bp n a off,[])
 | some (.ip t v)=>some (True,.ip t v,[])
 | some (.ep n e i a off)=>some (True,.ep n e i a off,[])
 | _=>none
def mX (a b:Bool):BinOp->BV
 | .eql=>some (True,.p .bool (a==b),[])
 | .neq=>some (True,.p .bool (a != b),[])
 | _=>none
def SU:Option TI->Bool
 | some ⟨.bool,_,_,_⟩=>true
 | _=>false
def RI (op:BinOp) (ti:Option TI):Option AV->Option AV->BV
 | some (.p (.int k) a),some (.p (.int c) b)=>some ((bin op k a c b).1,(bin op k a c b).2,[])
 | some (.p .str a),some (.p .str b)=>some ((Y7 a b op).1,(Y7 a b op).2,[])
 | some (.p .bool a),some (.p .bool b)=>if SU ti=true then mX a b op else none
 | _,_=>none
def qUn:UnOp->Option AV->BV
 | .not,some (.p .bool b)=>some (True,.p .bool (!b),[])
 | .neg,some (.p (.int k) a)=>some (KC k (0-a),.p (.int k) (0-a),[])
 | _,_=>none
def SV (l:List Int):ByteArray:=⟨(l.map λx=>UInt8.ofNat x.toNat).toArray⟩
def JZ:Option TI->Option TI->Option AV->BV
 | some ⟨.int _,_,_,_⟩,some ⟨.int k,_,_,_⟩,some (.p (.int _) a)=>some (KC k a,.p (.int k) a,[])
 | some ⟨.slice (.int .u8),_,_,_⟩,some ⟨.str,_,_,_⟩,some (.p (.slice (.int .u8)) l)=>some (True,.p .str (SV l),[])
 | _,_,_=>none
def LU (d:Nat) (el:TypeId) (e:Ty) (n m:Int):Option TI->BV
 | some ti=>some (n=m/\0<=n/\n.toNat*ti.bytes<=AO,.sr d e 0 n.toNat,[(d,.arr el e (List.replicate n.toNat e.dflt))])
 | none=>none
def Ig (tb:Tb) (d:Nat):Option TI->Option AV->Option AV->BV
 | some ⟨.slice e,_,el,_⟩,some (.p (.int .i64) n),some (.p (.int .i64) m)=>LU d el e n m (lk el tb.ty)
 | _,_,_=>none
def FB:Option TI->Option AV->Option (Option AV)->Option (Option AV)->BV
 | some ⟨.slice e,_,_,_⟩,some (.p (.slice d) l),some a,some h=>if e=d then Hf (.p (.slice d) l) a h else none
 | some ⟨.slice e,_,_,_⟩,some (.sr n d b c),some a,some h=>if e=d then Hf (.sr n d b c) a h else none
 | some ⟨.str,_,_,_⟩,some (.p .str s),some a,some h=>Hf (.p .str s) a h
 | _,_,_,_=>none
def Db:Option TI->Option AV->Option AV->Option AV->BV
 | some ⟨.slice e,_,_,_⟩,some (.p (.slice c) l),some (.p (.int _) a),some (.p (.int _) b)=>if e=c then some (a=(List.length l:Int)/\b=(List.length l:Int),.pc c l,[]) else none
 | _,_,_,_=>none
def EK (i:Nat):Option AV->BV
 | some (.tup l)=>Gc l[i]?
 | _=>none
def TV:Option TI->Option AV->BV
 | some ⟨.slice _,_,_,_⟩,some (.p (.slice _) l)=>some (True,.p (.int .i64) (l.length:Int),[])
 | some ⟨.slice _,_,_,_⟩,some (.sr _ _ lo hi)=>some (True,.p (.int .i64) ((hi-lo:Nat):Int),[])
 | some ⟨.slice _,_,_,_⟩,some (.nin _ _ _ len)=>some (True,.p (.int .i64) (len:Int),[])
 | some ⟨.slice _,_,_,_⟩,some (.raw (.slice none 0 0))=>some (True,.p (.int .i64) (0:Int),[])
 | some ⟨.str,_,_,_⟩,some (.p .str s)=>some (True,.p (.int .i64) (s.size:Int),[])
 | _,_=>none
def Ey (d:Nat) (el:TypeId) (e:Ty):Option TI->Option (List e.den)->BV
 | some ti,some ys=>some (ys.length*ti.bytes<=AO,.sr d e 0 ys.length,[(d,.arr el e ys)])
 | _,_=>none
def EL (tb:Tb) (σ:St) (d:Nat) (v:AV):Option TI->BV
 | some ⟨.slice e,_,el,_⟩=>Ey d el e (lk el tb.ty) (PY σ e v)
 | _=>none
def KJ (d:Nat) (el:TypeId) (e:Ty) (l:List e.den):Option TI->Option (List e.den)->BV
 | some ti,some ys=>some (0<ys.length/\(l.length+ys.length)*ti.bytes<=AO,.sr d e 0 (l.length+ys.length),[(d,.arr el e (l++ys))])
 | _,_=>none
def JD (tb:Tb) (σ:St) (d:Nat) (e:Ty) (l:List e.den) (v:AV):Option TI->BV
 | some ⟨.slice a,_,el,_⟩=>if a=e then KJ d el e l (lk el tb.ty) (PY σ e v) else none
 | _=>none
def DL (tb:Tb) (σ:St) (d:Nat) (t u:TypeId):Option AV->Option AV->BV
 | some (.raw (.slice none 0 0)),some v=>if t=u then EL tb σ d v (lk t tb.ty) else none
 | some (.pc e l),some v=>if t=u then JD tb σ d e l v (lk t tb.ty) else none
 | _,_=>none
def RJ:Option AV->Option AV->BV
 | some (.p (.int k) a),some (.p (.int c) b)=>if k=c then some (True,.p (.int k) (if b<a then b else a),[]) else none
 | _,_=>none
def Ih:Option AV->Option AV->Option AV->BV
 | some (.p (.int k) a),some (.p (.int d) b),some (.p (.int e) c)=>if k=d/\k=e then some (True,.p (.int k) (if c<(if b<a then b else a) then c else (if b<a then b else a)),[]) else none
 | _,_,_=>none
def Nf (k:IntKind) (a:Int):Option AV->Option Int
 | some (.p (.int c) b)=>if k=c then some (if b<a then b else a) else none
 | _=>none
def FL (σ:St) (k:IntKind):Option Int->List Operand->Option Int
 | some a,x :: r=>FL σ k (Nf k a (Ar σ x)) r
 | o,_=>o
def Pb (k:IntKind):Option Int->BV
 | some m=>some (True,.p (.int k) m,[])
 | none=>none
def Ng (σ:St) (r:List Operand):Option AV->BV
 | some (.p (.int k) a)=>Pb k (FL σ k (some a) r)
 | _=>none
def RK:Option AV->Option AV->BV
 | some (.p (.int k) a),some (.p (.int c) b)=>if k=c then some (True,.p (.int k) (if a<b then b else a),[]) else none
 | _,_=>none
def KK (d:Nat) (sp:AZ):Option (KE sp.ins)->BV
 | some ds=>if sp.lend=false\/(sp.out ds).all RV.flat=true then some (sp.pre ds,G9 d (sp.out ds),Cf d (sp.out ds)) else none
 | none=>none
def JE (σ:St) (d:Nat) (xs:List Operand):Option AZ->BV
 | some sp=>KK d sp (F5 sp.lend σ sp.ins xs)
 | none=>none
def LV (tb:Tb) (σ:St) (d:Nat) (xs:List Operand):Option AV->BV
 | some (.fn f)=>JE σ d xs (lk f tb.fns)
 | _=>none
def EM (tb:Tb) (σ:St) (d:Nat):Builtin->List Operand->List TypeId->BV
 | .len,[x],[t]=>TV (lk t tb.ty) (Ar σ x)
 | .append,[x,y],[t,u]=>DL tb σ d t u (Ar σ x) (Ar σ y)
 | .min,[x,y],[_,_]=>RJ (Ar σ x) (Ar σ y)
 | .max,[x,y],[_,_]=>RK (Ar σ x) (Ar σ y)
 | .min,[x,y,z],[_,_,_]=>Ih (Ar σ x) (Ar σ y) (Ar σ z)
 | .min,x :: y :: z :: u :: r,_=>Ng σ (y :: z :: u :: r) (Ar σ x)
 | _,_,_=>none
def Hg (σ:St):List Operand->Option (List Nat)
 | []=>some []
 | x :: r=>match Ar σ x,Hg σ r with
  | some (.bp n [] 0),some ns=>some (n :: ns)
  | _,_=>none
def Pc (f:FuncId):Option (List Nat)->BV
 | some ns=>some (True,.clo f ns,[])
 | none=>none
def b6 (σ:St) (fn:Fn) (first a:List Operand):BV :=
 match fn,first with
 | .func f,[]=>Pc f (Hg σ a)
 | _,_=>none
def GC (d:Nat):Option TI->Option TI->BV
 | some a,some te=>some (True,.mp d,[(d,.mapo a.ty te.ty [])])
 | _,_=>none
def GD (tb:Tb) (d:Nat):List (Nat×Nat)->BV
 | [(k,e)]=>GC d (lk k tb.ty) (lk e tb.ty)
 | _=>none
def Fc (tb:Tb) (d:Nat):Option TI->BV
 | some ⟨.ref 2,offs,_,_⟩=>GD tb d offs
 | _=>none
def LX (a:Ty) (ok:Bool) (r:Option a.den):BV :=
 if ok then some (True,.tup [.p a (r.getD a.dflt),.p .bool r.isSome],[]) else some (True,.p a (r.getD a.dflt),[])
def KL (a b:Ty) (l:List (a.den×b.den)) (ok:Bool):Option a.den->BV
 | some k=>if Y8 a=true then LX b ok (BR a b k l) else none
 | none=>none
def Hh (tb:Tb) (σ:St) (b d:Nat) (x:AV) (ok:Bool):Option Obj->BV
 | some (.mapo a c l)=>if (lk b tb.ty).map TI.ty=some a/\(lk b tb.ty).map TI.el=some 0/\(lk d tb.ty).map TI.ty=some c then KL a c l ok (Mm false σ a x) else none
 | _=>none
def Ii (tb:Tb) (σ:St) (ok:Bool):Option TI->Option AV->Option AV->BV
 | some ⟨.ref 2,[(k,e)],_,_⟩,some (.mp n),some x=>Hh tb σ k e x ok (lk n σ.objs)
 | _,_,_=>none
def Dc (tb:Tb) (σ:St) (d:Nat) (xs:List Operand) (ts:List TypeId):Callee->BV
 | .builtin b=>EM tb σ d b xs ts
 | .value g=>LV tb σ d xs (Ar σ g)
 | _=>none
def aq (tb:Tb) (σ:St) (d:Nat):Op->BV
 | .move x=>Gc (Ar σ x)
 | .assign x=>Gc (Ar σ x)
 | .pick c x y=>LB (Ar σ c) (Ar σ x) (Ar σ y)
 | .alloc t=>KG d t (lk t tb.ty)
 | .box t x=>TT d t (lk t tb.ty) (Ar σ x)
 | .build t parts=>JA σ parts.toList (lk t tb.ty)
 | .buildSlice t n parts=>GW tb σ d n parts.toList (lk t tb.ty) (lk d tb.nests)
 | .load t x=>JY σ (lk t tb.ty) (Ar σ x)
 | .fieldAddr s x f=>Gu f (lk s tb.ty) (Ar σ x)
 | .indexAddr t x i=>Fb (lk t tb.ty) (Ar σ x) (Ar σ i)
 | .index t x i=>EB (lk t tb.ty) (Ar σ x) (Ar σ i)
 | .nilCheck x=>Vl (Ar σ x)
 | .binOp op t x y _=>RI op (lk t tb.ty) (Ar σ x) (Ar σ y)
 | .unOp op _ x=>qUn op (Ar σ x)
 | .convert s t x=>JZ (lk s tb.ty) (lk t tb.ty) (Ar σ x)
 | .makeSlice t l c=>Ig tb d (lk t tb.ty) (Ar σ l) (Ar σ c)
 | .slice t x none (some hi) (some b)=>Db (lk t tb.ty) (Ar σ x) (Ar σ hi) (Ar σ b)
 | .slice t x lo hi none=>FB (lk t tb.ty) (Ar σ x) (Gb σ lo) (Gb σ hi)
 | .extract x i=>EK i (Ar σ x)
 | .call c=>Dc tb σ d c.args.toList c.argTypes.toList c.callee
 | .makeFunc fn first a=>b6 σ fn first.toList a.toList
 | .makeMap t none=>Fc tb d (lk t tb.ty)
 | .lookup t x i ok=>Ii tb σ ok (lk t tb.ty) (Ar σ x) (Ar σ i)
 | _=>none
def Pd:AV->Bool
 | .ag _=>false
 | _=>true
def KM (st:Bool) (fs:List AV) (v:AV):List Nat->Option (List AV)
 | []=>if st then match v with
   | .p (.agg u) d=>some (pfs u d)
   | .ag l=>some l
   | _=>none
  else if Pd v then some [v] else none
 | [k]=>if st&&Pd v then some (fs.set k v) else none
 | k :: r=>if st then match fs[k]?,v with
   | some (.p t d),.p u x=>(Vj r t d ⟨u,x⟩).map λy=>fs.set k (.p t y)
   | _,_=>none
  else none
abbrev Ct:=Option (Prop×St)
def Ez (σ:St) (n:Nat) (et:TypeId) (st:Bool) (ty:Ty) (fs:List AV) (b:List Nat) (off:Nat) (v:AV):Option AV->Option (List AV)->Ct
 | some u,some a=>if Nc ty u=true/\CS ty v=true/\PZ fs b=some off/\a.map AV.cells=fs.map AV.cells then some (True,⟨σ.env,upd n (.box et st a) σ.objs⟩) else none
 | _,_=>none
def DM (σ:St) (n:Nat) (ty:Ty) (a:List Nat) (off:Nat) (v:AV):Option Obj->Ct
 | some (.box et st fs)=>Ez σ n et st ty fs a off v (JW st fs a) (KM st fs v a)
 | _=>none
def Fd (σ:St) (n:Nat) (et:TypeId) (e:Ty) (i:Nat) (a:List Nat) (off:Nat) (ys:List e.den):Option e.den->Ct
 | some z=>if LS a e=some off then some (True,⟨σ.env,upd n (.arr et e (ys.set i z)) σ.objs⟩) else none
 | none=>none
def EO (σ:St) (n:Nat) (et:TypeId) (ty e:Ty) (i:Nat) (a:List Nat) (off:Nat):Option (List e.den)->Option ty.den->Ct
 | some ys,some w=>Fd σ n et e i a off ys (Vj a e (ys.getD i e.dflt) ⟨ty,w⟩)
 | _,_=>none
def Nh (σ:St) (d n:Nat) (et a:TypeId) (k e:Ty) (xs:List (k.den×List e.den)) (i bytes:Nat):Option (List e.den)->Ct
 | some ys=>if (lk d σ.objs).isNone=true/\ys.isEmpty=false then some (((xs.getD i (k.dflt,[])).2.length+ys.length)*bytes<=AO,
   ⟨(d,.sr d e 0 ((xs.getD i (k.dflt,[])).2.length+ys.length)) :: Er n [] σ.env,(d,.arr a e ((xs.getD i (k.dflt,[])).2++ys)) :: (n,.nest et a k e xs (some i)) :: Cz n [] σ.objs⟩) else none
 | none=>none
def SW (σ:St) (d n:Nat) (el:TypeId) (b:Ty) (i:Nat) (v:AV):Option TI->Option Obj->Ct
 | some ti,some (.nest et a k e xs none)=>if b=e/\a=el/\Ga n=false then Nh σ d n et a k e xs i ti.bytes (PY σ e v) else none
 | _,_=>none
def Pe (tb:Tb) (σ:St) (d n:Nat) (a:Ty) (i:Nat) (v:AV):Option TI->Ct
 | some ⟨.slice e,_,el,_⟩=>if a=e then SW σ d n el e i v (lk el tb.ty) (lk n σ.objs) else none
 | _=>none
def KN (σ:St) (n m:Nat) (et a:TypeId) (k e:Ty) (xs:List (k.den×List e.den)) (i hi:Nat):Option (List e.den)->Ct
 | some ys=>some (hi=ys.length,⟨Er n [m] σ.env,(n,.nest et a k e (xs.set i ((xs.getD i (k.dflt,[])).1,ys)) none) :: Cz n [m] σ.objs⟩)
 | none=>none
def LY (σ:St) (n m:Nat) (et a:TypeId) (k e:Ty) (xs:List (k.den×List e.den)) (i hi:Nat):Option Obj->Ct
 | some (.arr c b ys)=>if c=a/\Ga m=false/\Ga n=false then KN σ n m et a k e xs i hi (BP (.slice e) ⟨.slice b,ys⟩) else none
 | _=>none
def KO (σ:St) (d n m:Nat) (et b:TypeId) (k e:Ty) (hi a bytes:Nat) (xs:List (k.den×List e.den)):Option (List (k.den×List e.den))->Ct
 | some ys=>some (hi=xs.length/\a=ys.length/\(xs.length+ys.length)*bytes<=AO,
   ⟨(d,.sr n (.agg (.prod k (.slice e))) 0 (xs.length+ys.length)) :: CH [n,m] σ.env,(n,.nest et b k e (xs++ys) none) :: Av [n,m] [n,m] σ.objs⟩)
 | none=>none
def LZ (σ:St) (d n m:Nat) (et a:TypeId) (k e:Ty) (hi c bytes:Nat) (xs:List (k.den×List e.den)):Option Obj->Ct
 | some (.nest _ f g b ys none)=>if f=a/\n≠m/\Ga m=false then KO σ d n m et a k e hi c bytes xs (BP (.slice (.agg (.prod k (.slice e)))) ⟨.slice (.agg (.prod g (.slice b))),ys⟩) else none
 | _=>none
def SX (σ:St) (d n:Nat) (et b:TypeId) (k e:Ty) (hi bytes:Nat) (xs:List (k.den×List e.den)):AV->Ct
 | .sr m _ 0 a=>LZ σ d n m et b k e hi a bytes xs (lk m σ.objs)
 | _=>none
def Pf (σ:St) (d m:Nat) (el b:TypeId) (k e:Ty) (ys:List (k.den×List e.den)) (a bytes:Nat):Ct :=
 if (lk d σ.objs).isNone=true/\Ga m=false then some (a=ys.length/\ys.length*bytes<=AO,
  ⟨(d,.sr d (.agg (.prod k (.slice e))) 0 ys.length) :: CH [m] σ.env,(d,.nest el b k e ys none) :: Av [m] [m] σ.objs⟩) else none
def Pg (σ:St) (d m:Nat) (el:TypeId) (t:Ty) (a:Nat):Option TI->Option Obj->Ct
 | some ti,some (.nest _ b k e ys none)=>if t=.agg (.prod k (.slice e)) then Pf σ d m el b k e ys a ti.bytes else none
 | _,_=>none
def b7 (tb:Tb) (σ:St) (d:Nat):AV->Option TI->Ct
 | .sr m _ 0 a,some ⟨.slice t,_,el,_⟩=>Pg σ d m el t a (lk el tb.ty) (lk m σ.objs)
 | _,_=>none
def La (σ:St) (n m:Nat) (ty:Ty) (et a:TypeId) (k e:Ty) (xs:List (k.den×List e.den)) (i hi:Nat) (b:List Nat) (off:Nat):Ct :=
 if ty=.slice e/\b=[1]/\off=k.size then LY σ n m et a k e xs i hi (lk m σ.objs) else none
def DN (σ:St) (n:Nat) (ty e:Ty) (i:Nat) (b:List Nat) (off:Nat) (v:AV):Option Obj->Ct
 | some (.arr et a xs)=>EO σ n et ty e i b off (BP (.slice e) ⟨.slice a,xs⟩) (Mm false σ ty v)
 | some (.nest et c k a xs (some j))=>match v with
  | .sr m E 0 hi=>if e=.agg (.prod k (.slice a))/\i=j/\E=a then La σ n m ty et c k a xs i hi b off else none
  | _=>none
 | _=>none
def Hi (σ:St):Option TI->Option AV->Option AV->Ct
 | some ti,some (.bp n a off),some v=>DM σ n ti.ty a off v (lk n σ.objs)
 | some ti,some (.ep n e i a off),some v=>DN σ n ti.ty e i a off v (lk n σ.objs)
 | _,_,_=>none
def E0 (σ:St) (d n:Nat) (et:TypeId) (e:Ty) (hi:Nat) (bytes:Nat):Option (List e.den)->Option (List e.den)->Ct
 | some a,some ys=>some ((hi+ys.length)*bytes<=AO,⟨(d,.sr n e 0 (hi+ys.length)) :: FY n σ.env,upd n (.arr et e (a.take hi++ys)) (BX n σ.objs)⟩)
 | _,_=>none
def CY (σ:St) (d n:Nat) (el:TypeId) (e:Ty) (hi:Nat) (v:AV) (ys:Option (List e.den)):Option TI->Option Obj->Ct
 | some ti,some (.arr et a xs)=>if et=el then E0 σ d n et e hi ti.bytes (BP (.slice e) ⟨.slice a,xs⟩) ys else none
 | some ti,some (.nest et b k a xs none)=>if et=el/\e=.agg (.prod k (.slice a)) then SX σ d n et b k a hi ti.bytes xs v else none
 | _,_=>none
def EP (tb:Tb) (σ:St) (d:Nat) (n:Nat) (a:Ty) (hi:Nat) (v:AV):Option TI->Ct
 | some ⟨.slice e,_,el,_⟩=>if e=a then CY σ d n el e hi v (PY σ e v) (lk el tb.ty) (lk n σ.objs) else none
 | _=>none
def EC (tb:Tb) (σ:St) (d:Option Nat) (t u:TypeId):Option AV->Option AV->Ct
 | some (.sr n e 0 hi),some v=>match d with
  | some d=>if t=u/\Ga n=false then EP tb σ d n e hi v (lk t tb.ty) else none
  | none=>none
 | some (.nin n e i _),some v=>match d with
  | some d=>if t=u then Pe tb σ d n e i v (lk t tb.ty) else none
  | none=>none
 | some (.raw (.slice none 0 0)),some v=>match d with
  | some d=>if t=u then b7 tb σ d v (lk t tb.ty) else none
  | none=>none
 | _,_=>none
def ER (tb:Tb) (σ:St) (d:Option Nat):Builtin->List Operand->List TypeId->Ct
 | .append,[x,y],[t,u]=>EC tb σ d t u (Ar σ x) (Ar σ y)
 | _,_,_=>none
def Dd (tb:Tb) (σ:St) (d:Option Nat) (xs:List Operand) (ts:List TypeId):Callee->Ct
 | .builtin b=>ER tb σ d b xs ts
 | _=>none
def GX (σ:St) (n:Nat) (a b:Ty) (l:List (a.den×b.den)):Option a.den->Option b.den->Ct
 | some k,some v=>if Y8 a=true then some (True,⟨σ.env,upd n (.mapo a b (Fa a b k v l)) σ.objs⟩) else none
 | _,_=>none
def Fe (tb:Tb) (σ:St) (n:Nat) (b:Nat) (x y:AV):Option Obj->Ct
 | some (.mapo a c l)=>if (lk b tb.ty).map TI.ty=some a/\(lk b tb.ty).map TI.el=some 0 then GX σ n a c l (Mm false σ a x) (Mm false σ c y) else none
 | _=>none
def KP (tb:Tb) (σ:St):Option TI->Option AV->Option AV->Option AV->Ct
 | some ⟨.ref 2,[(k,_)],_,_⟩,some (.mp n),some x,some y=>Fe tb σ n k x y (lk n σ.objs)
 | _,_,_,_=>none
def De (r:Ct):Option Nat->Ct
 | none=>r
 | some _=>none
def HA (tb:Tb) (σ:St) (d:Option Nat):Op->Ct
 | .store t x y=>De (Hi σ (lk t tb.ty) (Ar σ x) (Ar σ y)) d
 | .mapUpdate t m x y=>De (KP tb σ (lk t tb.ty) (Ar σ m) (Ar σ x) (Ar σ y)) d
 | .call c=>Dd tb σ d c.args.toList c.argTypes.toList c.callee
 | _=>none
def St.add (σ:St) (v:AV) (obs:List (Nat×Obj)):Option Nat->St
 | some d=>⟨(d,v) :: σ.env,obs++σ.objs⟩
 | none=>⟨σ.env,obs++σ.objs⟩
def Mn:Option AV->List Nat
 | some v=>v.names
 | none=>[]
def DH (σ:St):List (Nat×Operand)->List Nat
 | []=>[]
 | (_,x) :: r=>Mn (Ar σ x)++DH σ r
def Mo:Option AV->List Nat
 | some (.ag l)=>AV.namess l
 | _=>[]
def E1 (σ:St):List (Nat×Operand)->List Nat
 | []=>[]
 | (_,x) :: r=>Mo (Ar σ x)++E1 σ r
def CV (σ:St):Option AV->Option AV->List Nat
 | some (.ep n _ _ _ _),some v=>if Ce (lk n σ.objs)=true then [] else v.names
 | _,_=>[]
def Ja:Option AV->Option AV->Option AV->List Nat
 | some (.mp _),some v,some u=>v.names++u.names
 | _,_,_=>[]
def C0 (σ:St):Op->List Nat
 | .buildSlice _ _ parts=>DH σ parts.toList
 | .build _ parts=>E1 σ parts.toList
 | .store _ x y=>CV σ (Ar σ x) (Ar σ y)
 | .mapUpdate _ m x y=>Ja (Ar σ m) (Ar σ x) (Ar σ y)
 | _=>[]
def Cv:List Nat->St->St
 | [],σ=>σ
 | n :: r,σ=>Cv r (frz n σ)
def Ba (obs:List (Nat×Obj)) (σ:St):Bool:=obs.all λp=>(lk p.1 σ.objs).isNone
def Ni (tb:Tb) (σ:St) (o:Oper):BV->Ct
 | some (vc,v,obs)=>if Ba obs σ=true then some (vc,σ.add v obs o.dst) else none
 | none=>HA tb σ o.dst o.op
def SY (tb:Tb) (o:Oper) (σ:St):Ct:=Ni tb σ o (aq tb σ (o.dst.getD 0) o.op)
def Hj (tb:Tb) (o:Oper) (σ:St):Ct:=SY tb o (Cv (C0 σ o.op) σ)
def RL (a:Bool):Option AV->Option Bool
 | some (.p .bool b)=>some (b==a)
 | _=>none
def KQ (σ:St) (a:Bool):Option Tmp->Option Bool
 | some g=>RL a (lk g σ.env)
 | none=>none
def Ee (ops:List Oper) (σ:St):Option (Nat×Bool)->Option Bool
 | none=>some true
 | some (j,a)=>KQ σ a ((ops[j]?).bind (·.dst))
def Y3 (vc:Prop):Ct->Ct
 | some (a,σ)=>some (vc/\a,σ)
 | none=>none
mutual
def Bn (tb:Tb) (ops:List Oper):List Oper->St->Ct
 | [],σ=>some (True,σ)
 | o :: r,σ=>evG tb ops o r σ (Ee ops σ o.guard)
def evG (tb:Tb) (ops:List Oper) (o:Oper) (r:List Oper) (σ:St):Option Bool->Ct
 | some true=>evK tb ops r (Hj tb o σ)
 | some false=>Bn tb ops r (σ.add (.raw undef) [] o.dst)
 | none=>none
def evK (tb:Tb) (ops:List Oper) (r:List Oper):Ct->Ct
 | some (vc,σ)=>Y3 vc (Bn tb ops r σ)
 | none=>none
end
end
section
open Go Go.RowKit
theorem CE {w:World} {b:Nat} {o:_root_.Go.Obj} (h:w.heap[b]?=some o):b<w.heap.size:=by grind
def blk:Value->Option Nat
 | .slice (some a) _ _=>some a.block
 | .pointer (some a)=>some a.block
 | .map (some b)=>some b
 | _=>none
def bk (v:Value) (b:Nat):Prop:=blk v=some b\/∃a:Array Value,v=.tuple a/\∃x∈a.toList,blk x=some b
theorem Lb {a:Option Addr} {m c b:Nat}:bk (.slice a m c) b↔blk (.slice a m c)=some b:=by
 constructor
 .intro h;rcases h with h|⟨_,h,_⟩
  .exact h
  cases h
 exact .inl
def plc:Value->Value
 | .tuple a=>a.getD 0 undef
 | v=>v
def DI (loc:Value) (sz lo hi:Nat) (v:Value):Prop :=
 ∃(a:Option Addr) (m c:Nat),loc=.slice a m c/\lo<=hi/\hi<=m/\∃(b:Option Addr) (d:Nat),v=.slice b (hi-lo) d/\hi-lo<=d/\(lo=0->b=a/\d=c)/\(lo<hi->b=a.map (·.add (lo*sz)))
structure Vw where
 w:World
 
 O:Nat->Prop
 
 L:Nat->Prop
 
 ρ:Nat->Value
def Lay (u v:Value):Prop:=v=u\/(u=.slice none 0 0/\∃a:Option Addr,v=.slice a 0 0)
def Vm (V:Vw):AV->Value->Prop
 | .p t d,v=>BS V.w V.O t v d
 | .pc e d,v=>BS V.w V.O (.slice e) v d/\∃a:Option Addr,v=.slice a (List.length d) (List.length d)
 | .raw u,v=>v=u
 | .sr n e lo hi,v=>V.L n/\DI (plc (V.ρ n)) e.size lo hi v
 | .ep n e i _ off,v=>V.L n/\∃g m c:Nat,plc (V.ρ n)=.slice (some ⟨g,0,none⟩) m c/\i<m/\v=.pointer (some ⟨g,i*e.size+off,none⟩)
 | .nin n _ i len,v=>V.L n/\∃(h:Array Value) (a:Option Addr) (c:Nat) (u:Value),V.ρ n=.tuple h/\h[i+1]?=some u/\Lay u v/\v=.slice a len c
 | .ip t d,v=>∃(ad:Addr) (cs:List Value),v=.pointer (some ad)/\¬V.O ad.block/\(∀(j:Nat) (u:Value),cs[j]?=some u->V.w.cell? (ad.add j)=some u)/\Bv V.w V.O t cs d
 | .bp n _ off,v=>V.L n/\∃b:Nat,V.ρ n=.pointer (some ⟨b,0,none⟩)/\v=.pointer (some ⟨b,off,none⟩)
 | .fn f,v=>v=.func (.func f) #[] #[]
 | .clo f ns,v=>v=.func (.func f) #[] (ns.map V.ρ).toArray/\∀n∈ns,V.L n/\∃b:Nat,V.ρ n=.pointer (some ⟨b,0,none⟩)
 | .mp n,v=>V.L n/\∃b:Nat,V.ρ n=.map (some b)/\v=.map (some b)
 | .yl n,v=>V.L n/\∃b:Nat,V.ρ n=.pointer (some ⟨b,0,none⟩)/\v=.func (.yield b) #[] #[]
 | .top,_=>True
 | .ag _,_=>False
 | .tup _,_=>False
def NV (V:Vw):AV->List Value->Prop
 | .p t d,cs=>Bv V.w V.O t cs d
 | av,cs=>∃v,cs=[v]/\v.oneCell'=true/\Vm V av v
def DQ (V:Vw):List AV->List Value->Prop
 | [],cs=>cs=[]
 | x :: r,cs=>∃c1 c2:List Value,cs=c1++c2/\NV V x c1/\DQ V r c2
def SZ (V:Vw):AV->Value->Prop
 | .ag l,v=>∃cs:List Value,v=.agg cs.toArray/\DQ V l cs
 | x,v=>Vm V x v
def Hk (V:Vw):List AV->List Value->Prop
 | [],a=>a=[]
 | x :: r,a=>∃(v:Value) (l:List Value),a=v :: l/\SZ V x v/\Hk V r l
theorem SZ.of1 {V:Vw} {x:AV} {v:Value} (h:Vm V x v):SZ V x v:=by
 cases x;case ag l=>exact h.elim
 all_goals exact h
def Bz (V:Vw):AV->Value->Prop
 | .ag l,v=>∃cs:List Value,v=.agg cs.toArray/\DQ V l cs
 | .tup l,v=>∃a:List Value,v=.tuple a.toArray/\Hk V l a
 | av,v=>Vm V av v
theorem A1Y {V:Vw} {x:AV} {v:Value} (h:SZ V x v):Bz V x v:=by
 cases x;case tup l=>exact(show False from h).elim
 all_goals exact h
def DX (w:World) (O:Nat->Prop) (e:Ty) (cells:List Value) (xs:List e.den):Prop :=
 ∀(i:Nat) (x:e.den),xs[i]?=some x->∃a:List Value,a.length=e.size/\(∀(j:Nat) (u:Value),a[j]?=some u->cells[i*e.size+j]?=some u)/\Bv w O e a x
def OD (w:World) (O:Nat->Prop) (k v:Ty):List MapEntry->List (k.den×v.den)->Prop
 | [],[]=>True
 | e :: a,x :: xs=>BS w O k e.key x.1/\BS w O v e.val x.2/\OD w O k v a xs
 | _,_=>False
def b8 (a:Array MapEntry) (clock:Nat):Prop:=(a.toList.map (·.born)).Nodup/\∀b∈a.toList.map (·.born),b<clock
def RM (V:Vw) (et:TypeId) (e:Ty) (xs:List e.den) (loc:Value):Prop:=xs.length<=AO/\∃cells:List Value,V.w.ownsRow 0 et e.size loc xs.length cells/\DX V.w V.O e cells xs
def b9 (V:Vw) (a:TypeId) (k e:Ty) (hole:Bool) (cells:List Value) (i:Nat) (x:k.den×List e.den) (u:Value):Prop :=
 ∃(c1:List Value) (v:Value),(∀(j:Nat) (z:Value),(c1++[v])[j]?=some z->cells[i*(k.size+1)+j]?=some z)/\Bv V.w V.O k c1 x.1 /\
  ((hole=true/\u=.slice none 0 0)\/(hole=false/\Lay u v/\RM V a e x.2 u))
structure LC (V:Vw) (et iet:TypeId) (k e:Ty) (xs:List (k.den×List e.den)) (h:Option Nat) (o:Value) (ins:List Value) (cells:List Value):Prop where
 max:xs.length<=AO
 len:ins.length=xs.length
 own:V.w.ownsRow 0 et (k.size+1) o xs.length cells
 row:∀(i:Nat) (x:k.den×List e.den) (u:Value),xs[i]?=some x->ins[i]?=some u->b9 V iet k e (h==some i) cells i x u
 dist:∀(i j b:Nat) (u v:Value),ins[i]?=some u->ins[j]?=some v->blk u=some b->blk v=some b->i=j
 out:∀(i b:Nat) (u:Value),ins[i]?=some u->blk u=some b->blk o≠some b
def Shp (loc o:Value) (ins:List Value):Prop:=loc=.tuple (o :: ins).toArray\/(loc=.slice none 0 0/\o=.slice none 0 0/\ins=[])
def ADo (V:Vw) (k v:Ty) (l:List (k.den×v.den)) (left:List Nat) (d:Option Nat) (r:Nat):Prop :=
 ∃(b:Nat) (a:Array MapEntry) (clock c:Nat) (seen:Array Nat),V.w.heap[r]?=some (.mapIter (some b) c seen clock)/\¬V.O b/\V.w.heap[b]?=some (.map a clock)/\OD V.w V.O k v a.toList l/\b8 a clock /\
  (∀s∈a.toList.map (·.born),s<c)/\c<=clock/\left.Nodup/\(∀i,i∈left↔∃e,a[i]?=some e/\e.born∉seen)/\(∀i,d=some i->∃e,a[i]?=some e/\seen.back?=some e.born)
def A1 (V:Vw):Obj->Value->Prop
 | .arr et e xs,loc=>RM V et e xs loc
 | .nest et d k e xs h,loc=>∃(o:Value) (ins cells:List Value),Shp loc o ins/\LC V et d k e xs h o ins cells
 | .box et st fs,loc=>(st=false->fs.length=1)/\∃(b:Nat) (cs:List Value),loc=.pointer (some ⟨b,0,none⟩)/\V.w.heap[b]?=some (.cells cs.toArray et (0,0))/\DQ V fs cs
 | .mapo k v l,loc=>∃(b:Nat) (a:Array MapEntry) (clock:Nat),loc=.map (some b)/\V.w.heap[b]?=some (.map a clock)/\OD V.w V.O k v a.toList l/\b8 a clock
 | .frame f fs,loc=>loc=.pointer none/\∀s x,lk s fs=some x->Bz V x (f.getD s undef)
 | .itr k v l left c,loc=>∃r:Nat,loc=.pointer (some ⟨r,0,none⟩)/\ADo V k v l left c r
 | .loop L,loc=>∃b:Nat,loc=.pointer (some ⟨b,0,none⟩)/\V.w.heap[b]?=some (.loop L)
 | .dfr,loc=>∃b:Nat,loc=.pointer (some ⟨b,0,none⟩)/\V.w.heap[b]?=some (.deferred (some []))
structure Frm (K:Nat->Prop) (w0 w:World):Prop where
 os:w.os=w0.os
 tape:w.tape=w0.tape
 output:w.output=w0.output
 size:w0.heap.size<=w.heap.size
 block:∀k,K k->w.heap[k]?=w0.heap[k]?
def Gr (σ:St) (n:Nat):Prop:=∃o,lk n σ.objs=some o
def own (O0:Nat->Prop) (σ:St) (ρ:Nat->Value) (b:Nat):Prop:=O0 b\/∃n,Gr σ n/\bk (ρ n) b
def vw (w:World) (O0:Nat->Prop) (σ:St) (ρ:Nat->Value):Vw:=⟨w,own O0 σ ρ,Gr σ,ρ⟩
def A8W:Value->Bool
 | .slice _ _ _=>false
 | .tuple _=>false
 | _=>true
structure Fp where
 ds:List Deferred:=[]
 pin:List (Nat×Value):=[]
structure B6 (w0:World) (K O0:Nat->Prop) (nt:Nat) (ds:Fp) (σ:St) (ρ:Nat->Value) (a:Act) (w:World):Prop where
 frm:Frm K w0 w
 nt:a.tmps.size=nt
 defers:a.defers=ds.ds
 pin:∀p∈ds.pin,Gr σ p.1/\ρ p.1=p.2/\(A8W p.2=true\/Ga p.1=true)
 objs:∀n o,lk n σ.objs=some o->A1 (vw w O0 σ ρ) o (ρ n)
 free:∀n b,Gr σ n->bk (ρ n) b->¬K b/\¬O0 b
 dist:∀n m b,Gr σ n->Gr σ m->bk (ρ n) b->bk (ρ m) b->n=m
 env:∀s v,lk s σ.env=some v->Bz (vw w O0 σ ρ) v (a.tmps.getD s undef)
structure Cg (V V':Vw):Prop where
 O:∀b,b<V.w.heap.size->¬V.O b->¬V'.O b
 L:∀n,V.L n->V'.L n
 ρ:∀n,V.L n->V'.ρ n=V.ρ n
 heap:∀b,b<V.w.heap.size->¬V.O b->V'.w.heap[b]?=V.w.heap[b]?
theorem Vm.keeps {V V':Vw} (h:Cg V V'):∀ {x:AV} {v:Value},Vm V x v->Vm V' x v
 | .p _ _,_,b=>BS.mono h.O h.heap b
 | .pc _ _,_,b=>⟨BS.mono h.O h.heap b.1,b.2⟩
 | .raw _,_,b=>b
 | .sr n e lo hi,_,⟨a,hs⟩=>⟨h.L n a,by rw[h.ρ n a];exact hs⟩
 | .ep n e i _ off,_,⟨a,hs⟩=>⟨h.L n a,by rw[h.ρ n a];exact hs⟩
 | .nin n _ i len,_,⟨a,hs⟩=>⟨h.L n a,by rw[h.ρ n a];exact hs⟩
 | .ip t d,_,⟨ad,cs,c,g,k,m⟩=>by
  have l:ad.block<V.w.heap.size:=by
   have hp:=t.size_pos;have q:=m.length;have:=block_lt_of_cell (k 0 (cs[0]'(by omega)) (AT (by omega)))
   rwa [CD]at this
  refine⟨ad,cs,c,h.O _ l g,λj u o=>?_,Bv.mono h.O h.heap m⟩;rw[ADT (w:=V.w) (w':=V'.w)]
  .exact k j u o
  rw[CD];exact h.heap _ l g
 | .bp n _ off,_,⟨a,hs⟩=>⟨h.L n a,by rw[h.ρ n a];exact hs⟩
 | .fn _,_,b=>b
 | .clo f ns,_,⟨c,hs⟩=>by
  refine⟨?_,λn hn=>⟨h.L n (hs n hn).1,by rw[h.ρ n (hs n hn).1];exact(hs n hn).2⟩⟩;rw[c]
  congr 2
  exact Tq λn hn=>(h.ρ n (hs n hn).1).symm
 | .mp n,_,⟨a,hs⟩=>⟨h.L n a,by rw[h.ρ n a];exact hs⟩
 | .yl n,_,⟨a,hs⟩=>⟨h.L n a,by rw[h.ρ n a];exact hs⟩
 | .top,_,_=>trivial
 | .ag _,_,b=>b
 | .tup _,_,b=>b
theorem NV.keeps {V V':Vw} (h:Cg V V') {x:AV} {cs:List Value} (a:NV V x cs):NV V' x cs:=by
 cases x;case p t d=>exact(Bv.mono h.O h.heap a:Bv V'.w V'.O t cs d)
 all_goals
  obtain⟨v,h1,b,c⟩:=a;exact⟨v,h1,b,c.keeps h⟩
theorem DQ.keeps {V V':Vw} (h:Cg V V'):∀ {l:List AV} {cs:List Value},DQ V l cs->DQ V' l cs
 | [],_,b=>b
 | _ :: _,_,⟨c1,c2,e,h1,a⟩=>⟨c1,c2,e,h1.keeps h,a.keeps h⟩
theorem SZ.keeps {V V':Vw} (h:Cg V V') {x:AV} {v:Value} (a:SZ V x v):SZ V' x v:=by
 cases x;case ag l=>obtain⟨cs,h1,b⟩:=a;exact⟨cs,h1,b.keeps h⟩
 all_goals exact SZ.of1 (Vm.keeps h a)
theorem Hk.keeps {V V':Vw} (h:Cg V V'):∀ {l:List AV} {a:List Value},Hk V l a->Hk V' l a
 | [],_,c=>c
 | _ :: _,_,⟨v,l,e,h1,b⟩=>⟨v,l,e,h1.keeps h,b.keeps h⟩
theorem Bz.keeps {V V':Vw} (h:Cg V V') {x:AV} {v:Value} (a:Bz V x v):Bz V' x v:=by
 cases x;case ag l=>obtain⟨cs,h1,b⟩:=a;exact⟨cs,h1,b.keeps h⟩
 case tup l=>obtain⟨cs,h1,b⟩:=a;exact⟨cs,h1,b.keeps h⟩
 all_goals
  simp only[Bz]at a ⊢;exact Vm.keeps h a
theorem DX.keeps {V V':Vw} (h:Cg V V') {e:Ty} {cells:List Value} {xs:List e.den} (d:DX V.w V.O e cells xs):DX V'.w V'.O e cells xs:=λi x hi =>
 let ⟨a,h1,b,c⟩:=d i x hi
 ⟨a,h1,b,Bv.mono h.O h.heap c⟩
theorem OD.mono {w w':World} {O O':Nat->Prop} (a:∀b,b<w.heap.size->¬O b->¬O' b) (c:∀b,b<w.heap.size->¬O b->w'.heap[b]?=w.heap[b]?) {k v:Ty} :
  ∀ {d:List MapEntry} {l:List (k.den×v.den)},OD w O k v d l->OD w' O' k v d l
 | [],[],h=>h
 | [],_ :: _,h=>h.elim
 | _ :: _,[],h=>h.elim
 | _ :: _,_ :: _,⟨h1,e,f⟩=>⟨h1.mono a c,e.mono a c,f.mono a c⟩
theorem JF {w w':World} {et:TypeId} {sz n:Nat} {loc:Value} {cells:List Value} (d:∀b,blk loc=some b->w'.heap[b]?=w.heap[b]?) (h:w.ownsRow 0 et sz loc n cells):w'.ownsRow 0 et sz loc n cells:=by
 obtain⟨h1,a⟩:=h;refine⟨h1,?_⟩;rcases a with a|⟨g,cap,c,rfl,e,f,i⟩
 .exact .inl a
 exact .inr ⟨g,cap,c,rfl,e,(d g rfl).trans f,i⟩
theorem RM.keeps {V V':Vw} (h:Cg V V') {et:TypeId} {e:Ty} {xs:List e.den} {loc:Value} (a:∀b,blk loc=some b->V'.w.heap[b]?=V.w.heap[b]?) (f:RM V et e xs loc):RM V' et e xs loc:=by
 obtain⟨d,cells,h1,c⟩:=f;exact⟨d,cells,JF a h1,c.keeps h⟩
theorem b9.keeps {V V':Vw} (h:Cg V V') {c:TypeId} {k e:Ty} {hole:Bool} {cells:List Value} {i:Nat} {x:k.den×List e.den} {u:Value} (j:∀b,blk u=some b->V'.w.heap[b]?=V.w.heap[b]?) (l:b9 V c k e hole cells i x u):b9 V' c k e hole cells i x u:=by
 obtain⟨c1,v,h1,d,a⟩:=l;refine⟨c1,v,h1,Bv.mono h.O h.heap d,?_⟩;rcases a with a|⟨a,f,g⟩
 .exact .inl a
 exact .inr ⟨a,f,g.keeps h j⟩
theorem A4 {o:Value} {ins:List Value} {b:Nat}:bk (.tuple (o :: ins).toArray) b↔blk o=some b\/∃(i:Nat) (u:Value),ins[i]?=some u/\blk u=some b:=by
 constructor
 .rintro (h|⟨d,h,x,c,a⟩)
  .cases h
  injection h with h
  subst h;simp only[By]at c;rcases c with rfl|c
  .exact .inl a
  obtain⟨i,hi⟩:=List.getElem?_of_mem c;exact .inr ⟨i,x,hi,a⟩
 rintro (h|⟨i,u,hi,a⟩)
 .exact .inr ⟨_,rfl,o,by simp,h⟩
 exact .inr ⟨_,rfl,u,by simp[UW hi],a⟩
theorem Shp.bk {loc o:Value} {ins:List Value} {b:Nat} (h:Shp loc o ins):bk loc b↔bk (.tuple (o :: ins).toArray) b:=by
 rcases h with rfl|⟨rfl,rfl,rfl⟩
 .exact Iff.rfl
 grind [A4,Lb,blk]
theorem Shp.plc {loc o:Value} {ins:List Value} (h:Shp loc o ins):plc loc=o:=by
 rcases h with rfl|⟨rfl,rfl,rfl⟩<;>rfl
theorem Shp.tup {loc o:Value} {ins:List Value} {a:Array Value} (h:Shp loc o ins) (b:loc=.tuple a):a=(o :: ins).toArray:=by
 subst b;rcases h with h|⟨h,_⟩
 .injection h
 cases h
theorem LC.keeps {V V':Vw} (h:Cg V V') {et g:TypeId} {k e:Ty} {xs:List (k.den×List e.den)} {f:Option Nat} {o:Value} {ins cells:List Value} (d:∀b,bk (.tuple (o :: ins).toArray) b->V'.w.heap[b]?=V.w.heap[b]?) (a:LC V et g k e xs f o ins cells):LC V' et g k e xs f o ins cells :=
 ⟨a.max,a.len,JF (λb h1=>d b (A4.2 (.inl h1))) a.own,λi x u h1 c=>(a.row i x u h1 c).keeps h (λb j=>d b (A4.2 (.inr ⟨i,u,c,j⟩))),a.dist,a.out⟩
theorem Vn {w:World} {et:TypeId} {sz n b:Nat} {loc:Value} {cells:List Value} (h:w.ownsRow 0 et sz loc n cells) (a:blk loc=some b):b<w.heap.size:=by
 rcases h.2 with ⟨rfl,_⟩|⟨g,cap,c,rfl,d,e,f⟩
 .simp[blk]at a
 grind [blk,CE]
theorem LC.block_lt {V:Vw} {et h:TypeId} {k e:Ty} {xs:List (k.den×List e.den)} {g:Option Nat} {o:Value} {ins cells:List Value} (d:LC V et h k e xs g o ins cells) {b:Nat} (f:bk (.tuple (o :: ins).toArray) b):b<V.w.heap.size:=by
 rcases A4.1 f with h1|⟨i,u,h1,c⟩
 .exact Vn d.own h1
 have hi:i<xs.length:=by have:=(Tm.1 h1).1;rw[d.len]at this;exact this
 obtain⟨c1,v,_,_,a⟩:=d.row i xs[i] u (AT hi) h1;rcases a with ⟨_,a⟩|⟨_,_,_,j,a,_⟩
 .rw[a]at c;simp[blk]at c
 exact Vn a c
theorem A1.keeps {V V':Vw} (h:Cg V V') {o:Obj} {loc:Value} (d:∀b,bk loc b->V'.w.heap[b]?=V.w.heap[b]?) (c:A1 V o loc):A1 V' o loc:=by
 cases o with
 | arr et e xs =>
  obtain⟨C,cells,⟨h1,a⟩,B⟩:=c;refine⟨C,cells,⟨h1,?_⟩,B.keeps h⟩;rcases a with a|⟨g,cap,i,rfl,E,F,G⟩
  .exact .inl a
  exact .inr ⟨g,cap,i,rfl,E,(d g (.inl rfl)).trans F,G⟩
 | box et st fs =>
  obtain⟨h0,b,cs,rfl,h1,a⟩:=c;exact⟨h0,b,cs,rfl,(d b (.inl rfl)).trans h1,a.keeps h⟩
 | nest et K k e xs J =>
  obtain⟨o,ins,cells,hs,h1⟩:=c;exact⟨o,ins,cells,hs,h1.keeps h λb A=>d b (hs.bk.2 A)⟩
 | mapo k v l =>
  obtain⟨b,m,cl,rfl,h1,a,f⟩:=c;exact⟨b,m,cl,rfl,(d b (.inl rfl)).trans h1,a.mono h.O h.heap,f⟩
 | frame M fs =>
  obtain⟨h0,h1⟩:=c;exact⟨h0,λs x hs=>(h1 s x hs).keeps h⟩
 | itr k v l left i =>
  obtain⟨r,rfl,b,D,cl,I,H,h1,a,f,p,q,t,u,y,z,n⟩:=c;have j:=CE f;exact⟨r,rfl,b,D,cl,I,H,(d r (.inl rfl)).trans h1,h.O b j a,(h.heap b j a).trans f,p.mono h.O h.heap,q,t,u,y,z,n⟩
 | loop L =>
  obtain⟨b,rfl,h1⟩:=c;exact⟨b,rfl,(d b (.inl rfl)).trans h1⟩
 | dfr =>
  obtain⟨b,rfl,h1⟩:=c;exact⟨b,rfl,(d b (.inl rfl)).trans h1⟩
theorem A1.block_lt {V:Vw} {o:Obj} {loc:Value} (c:A1 V o loc) {b:Nat} (a:bk loc b):b<V.w.heap.size:=by
 cases o with
 | arr et e xs =>
  obtain⟨m,cells,⟨h1,d⟩,i⟩:=c;rcases d with ⟨rfl,_⟩|⟨g,cap,f,rfl,q,s,t⟩
  .simp[bk,blk]at a
  grind [bk,blk,CE]
 | box et st fs =>
  obtain⟨h0,b',cs,rfl,h1,d⟩:=c;simp[bk,blk]at a;subst a;exact CE h1
 | nest et n k e xs j =>
  obtain⟨o,ins,cells,hs,h1⟩:=c;exact h1.block_lt (hs.bk.1 a)
 | mapo k v l =>
  obtain⟨b',h,cl,rfl,h1,d⟩:=c;simp[bk,blk]at a;subst a;exact CE h1
 | frame y fs =>
  obtain⟨rfl,h1⟩:=c;simp[bk,blk]at a
 | itr k v l left f =>
  obtain⟨r,rfl,b',p,cl,x,u,h1,-⟩:=c;simp[bk,blk]at a;subst a;exact CE h1
 | loop L =>
  obtain⟨b',rfl,h1⟩:=c;simp[bk,blk]at a;subst a;exact CE h1
 | dfr =>
  obtain⟨b',rfl,h1⟩:=c;simp[bk,blk]at a;subst a;exact CE h1
section
variable {α:Type}
theorem A3 (k:Nat):∀(l r:List (Nat×α)),lk k (l++r)=(lk k l).or (lk k r)
 | [],_=>by simp[lk]
 | (j,v) :: l,r=>by
  simp only[Yk,lk];split
  .simp
  exact A3 k l r
theorem GE (k n:Nat) (u:α):∀l:List (Nat×α),lk k (upd n u l)=if k=n then (lk n l).map (λ_=>u) else lk k l
 | []=>by simp[lk,upd]
 | (j,v) :: l=>by
  simp only[upd];by_cases hn:n=j
  .subst hn;by_cases hk:k=n
   .subst hk;simp[lk]
   simp[lk,hk,GE k n u l]
  simp only[As hn,lk];by_cases hk:k=n
  .subst hk;simp[hn,GE k k u l]
  by_cases a:k=j
  .subst a;simp[hk]
  simp[hk,a,GE k n u l]
theorem RN (k n:Nat):∀l:List (Nat×α),lk k (del n l)=if k=n then none else lk k l
 | []=>by simp[lk,del]
 | (j,v) :: l=>by
  simp only[del];by_cases hn:n=j
  .subst hn;rw[BY rfl,RN k n l];grind [lk]
  rw[As hn];simp only[lk,RN k n l];grind
end
end
section
open Go Go.RowKit
def D7 (σ:St) (obs:List (Nat×Obj)):St:=⟨σ.env,obs++σ.objs⟩
structure QS (w:World) (O0:Nat->Prop) (σ:St) (ρ:Nat->Value) (v:AV) (obs:List (Nat×Obj)) (u:Value) (ρ':Nat->Value) (w':World):Prop where
 below:Below w.heap.size w w'
 rho:∀n,lk n obs=none->ρ' n=ρ n
 av:Bz (vw w' O0 (D7 σ obs) ρ') v u
 obj:∀n o,lk n obs=some o->A1 (vw w' O0 (D7 σ obs) ρ') o (ρ' n)
 new:∀n o b,lk n obs=some o->bk (ρ' n) b->w.heap.size<=b
 dist:∀n m o o' b,lk n obs=some o->lk m obs=some o'->bk (ρ' n) b->bk (ρ' m) b->n=m
theorem Ff {α:Type} {k:Nat} {v:α}:∀ {l:List (Nat×α)},lk k l=some v->(k,v)∈l
 | (j,u) :: l,h=>by
  simp only[lk]at h;split at h
  .grind
  exact NO _ (Ff h)
theorem OE {obs:List (Nat×Obj)} {σ:St} (h:Ba obs σ=true) {n:Nat} {o:Obj} (hn:lk n obs=some o):lk n σ.objs=none:=by
 simp only[Ba,ON]at h;simpa using h _ (Ff hn)
theorem Lc {σ:St} {obs:List (Nat×Obj)} {n:Nat} (h:Gr (D7 σ obs) n):(∃o,lk n obs=some o)\/(lk n obs=none/\Gr σ n):=by
 obtain⟨o,h⟩:=h;simp only[D7,A3]at h;cases a:lk n obs with
 | some b=>exact .inl ⟨b,rfl⟩
 | none=>rw[a]at h;exact .inr ⟨rfl,o,by simpa using h⟩
theorem cA {σ:St} {obs:List (Nat×Obj)} (hf:Ba obs σ=true) {n:Nat} (h:Gr σ n):Gr (D7 σ obs) n/\lk n obs=none:=by
 obtain⟨o,h⟩:=h;have hn:lk n obs=none:=by
  cases a:lk n obs with
  | none=>rfl
  | some b=>have:=OE hf a;rw[this]at h;cases h
 exact⟨⟨o,by simp[D7,A3,hn,h]⟩,hn⟩
theorem Hl {w w':World} {O0:Nat->Prop} {σ:St} {ρ ρ':Nat->Value} {obs:List (Nat×Obj)} (hf:Ba obs σ=true)
  (hb:Below w.heap.size w w') (hr:∀n,lk n obs=none->ρ' n=ρ n) (hn:∀n o b,lk n obs=some o->bk (ρ' n) b->w.heap.size<=b) :
  Cg (vw w O0 σ ρ) (vw w' O0 (D7 σ obs) ρ') where
 O:=by
  intro b hlt hO hO';rcases hO' with h0|⟨n,hl,hb'⟩
  .exact hO (.inl h0)
  rcases Lc hl with ⟨o,ho⟩|⟨hno,hl'⟩
  .have:=hn n o b ho hb';have hlt:b<w.heap.size:=hlt;omega
  exact hO (.inr ⟨n,hl',by rw[<-hr n hno];exact hb'⟩)
 L:=λn h=>(cA hf h).1
 ρ:=λn h=>hr n (cA hf h).2
 heap:=λb hlt _=>hb.block b hlt
theorem QS.keeps {w w':World} {O0:Nat->Prop} {σ:St} {ρ ρ':Nat->Value} {v:AV} {u:Value} {obs:List (Nat×Obj)} (hf:Ba obs σ=true) (h:QS w O0 σ ρ v obs u ρ' w') :
  Cg (vw w O0 σ ρ) (vw w' O0 (D7 σ obs) ρ'):=Hl hf h.below h.rho h.new
theorem Frm.below {K:Nat->Prop} {w0 w w':World} (h:Frm K w0 w) (hb:Below w.heap.size w w') (hK:∀b,K b->b<w0.heap.size):Frm K w0 w' where
 os:=hb.os.trans h.os
 tape:=hb.tape.trans h.tape
 output:=hb.output.trans h.output
 size:=Tp h.size hb.size
 block:=λk hk=>(hb.block k (Us (hK k hk) h.size)).trans (h.block k hk)
theorem Ph (a:Act) (dst:Option Tmp) (u:Value):(a.put dst u).tmps.size=a.tmps.size:=by
 cases dst<;>simp[Act.put]
theorem KR (a:Act) (dst:Option Tmp) (u:Value):(a.put dst u).defers=a.defers:=by cases dst<;>rfl
theorem Mp (a:Act) (d:Nat) (u:Value) (s:Nat) (b:d<a.tmps.size):(a.put (some d) u).tmps.getD s undef=if s=d then u else a.tmps.getD s undef:=by
 by_cases h:s=d
 .subst h;simp[Act.put,b]
 have:¬d=s:=λe=>h e.symm;simp[Act.put,h,this,Array.getElem?_setIfInBounds]
theorem B6.add {w0:World} {K O0:Nat->Prop} {nt:Nat} {ds:Fp} {σ:St} {ρ:Nat->Value} {a:Act} {w:World} (h:B6 w0 K O0 nt ds σ ρ a w)
  (H:∀b,K b->b<w0.heap.size) (J:∀b,O0 b->b<w0.heap.size) {dst:Option Nat} (I:∀d,dst=some d->d<nt)
  {v:AV} {obs:List (Nat×Obj)} {u:Value} {ρ':Nat->Value} {w':World} (hf:Ba obs σ=true) (c:QS w O0 σ ρ v obs u ρ' w') :
  B6 w0 K O0 nt ds (σ.add v obs dst) ρ' (a.put dst u) w':=by
 have hk:=c.keeps hf;have E:(σ.add v obs dst).objs=obs++σ.objs:=by cases dst<;>rfl
 have l:∀n,Gr (σ.add v obs dst) n↔Gr (D7 σ obs) n:=λn=>by simp[Gr,E,D7]
 have F:vw w' O0 (σ.add v obs dst) ρ'=vw w' O0 (D7 σ obs) ρ':=by
  have k:Gr (σ.add v obs dst)=Gr (D7 σ obs):=funext λn=>propext (l n);have g:own O0 (σ.add v obs dst) ρ'=own O0 (D7 σ obs) ρ':=by grind [own]
  simp only[vw,k,g]
 refine⟨h.frm.below c.below H,by rw[Ph];exact h.nt,by rw[KR];exact h.defers,λp hp=>?_,?_,?_,?_,?_⟩
 .obtain⟨h1,j,G⟩:=h.pin p hp;have B:=cA hf h1;exact⟨(l p.1).2 B.1,(c.rho _ B.2).trans j,G⟩
 .intro n o g;rw[E,A3]at g;rw[F];cases r:lk n obs with
  | some z=>rw[r]at g;cases g;exact c.obj n _ r
  | none =>
   rw[r]at g;have q:lk n σ.objs=some o:=by simpa using g
   rw[c.rho n r];refine(h.objs n o q).keeps hk λb f=>?_;exact c.below.block b ((h.objs n o q).block_lt f)
 .intro n b k f;rcases Lc ((l n).1 k) with ⟨o,g⟩|⟨t,y⟩
  .have L:=c.new n o b g f;have:=h.frm.size;grind
  rw[c.rho n t]at f;exact h.free n b y f
 .intro n m b k y f i;rcases Lc ((l n).1 k) with ⟨o,g⟩|⟨t,hn⟩<;>rcases Lc ((l m).1 y) with ⟨z,q⟩|⟨D,C⟩
  .exact c.dist n m o z b g q f i
  .have h1:=c.new n o b g f;rw[c.rho m D]at i;obtain⟨A,j⟩:=C;have:=(h.objs m A j).block_lt i;have:b<w.heap.size:=this;omega
  .have h1:=c.new m z b q i;rw[c.rho n t]at f;obtain⟨A,j⟩:=hn;have:=(h.objs n A j).block_lt f;have:b<w.heap.size:=this;omega
  rw[c.rho n t]at f;rw[c.rho m D]at i;exact h.dist n m b hn C f i
 intro s x hs;rw[F];cases dst with
 | none=>exact(h.env s x hs).keeps hk
 | some d =>
  simp only[St.add,lk]at hs;rw[Mp a d u s (by rw[h.nt];exact I d rfl)];split at hs
  .rename_i e;cases hs;rw[BY e];exact c.av
  rename_i e;rw[As e];exact(h.env s x hs).keeps hk
theorem QS.still {w:World} {O0:Nat->Prop} {σ:St} {ρ:Nat->Value} {v:AV} {u:Value} (h:Bz (vw w O0 σ ρ) v u):QS w O0 σ ρ v [] u ρ w where
 below:=Below.refl _ _
 rho:=λ_ _=>rfl
 av:=h
 obj:=λ_ _ h=>by cases h
 new:=λ_ _ _ h=>by cases h
 dist:=λ_ _ _ _ _ h=>by cases h
def Et (ρ:Nat->Value) (n:Nat) (x:Value):Nat->Value:=λm=>if m=n then x else ρ m
theorem Bo (ρ:Nat->Value) (n:Nat) (x:Value):Et ρ n x n=x:=by simp[Et]
theorem QS.one {w w':World} {O0:Nat->Prop} {σ:St} {ρ:Nat->Value} {v:AV} {u loc:Value} {n:Nat} {o:Obj} (hb:Below w.heap.size w w')
  (hnew:∀b,bk loc b->w.heap.size<=b)
  (hav:Bz (vw w' O0 (D7 σ [(n,o)]) (Et ρ n loc)) v u)
  (hobj:A1 (vw w' O0 (D7 σ [(n,o)]) (Et ρ n loc)) o loc):QS w O0 σ ρ v [(n,o)] u (Et ρ n loc) w' where
 below:=hb
 rho:=λm hm=>by grind [lk,Et]
 av:=hav
 obj:=λm o' hm=>by grind [lk,Bo]
 new:=λm o' b hm hb'=>by grind [lk,Bo]
 dist:=λm m' o1 o2 b h1 h2 _ _=>by grind [lk]
end
section
open Go Go.RowKit
theorem A6 {t:Ty} {p:PV} {d:t.den} (h:BP t p=some d):p=⟨t,d⟩:=by
 obtain⟨u,x⟩:=p;grind [BP]
theorem Be {e a:Ty} {xs:List a.den} {ys:List e.den} (h:BP (.slice e) ⟨.slice a,xs⟩=some ys):a=e/\HEq xs ys:=by
 have b:=A6 h;grind
theorem OG {α:Type} (xs:List α) {lo hi:Nat} (h:hi<=xs.length):(sub xs lo hi).length=hi-lo:=by
 simp[sub];omega
theorem cB {α:Type} (xs:List α) (lo hi i:Nat) {x:α} (h:(sub xs lo hi)[i]?=some x):xs[lo+i]?=some x/\i<hi-lo:=by grind [sub]
theorem qZ {w:World} {O':Nat->Prop} {et:TypeId} {e:Ty} {xs:List e.den} {loc v:Value} {cells:List Value} {lo hi:Nat} (y:∀b,blk loc=some b->¬O' b)
  (H:xs.length<=AO) (h:w.ownsRow 0 et e.size loc xs.length cells) (p:DX w O' e cells xs) (z:DI loc e.size lo hi v):Bv w O' (.slice e) [v] (sub xs lo hi):=by
 obtain⟨a,m,c,j,F,q,k,l,rfl,o,h0,h1⟩:=z;have u:m=xs.length:=by
  rcases h.2 with ⟨d,hn⟩|⟨g,cap,n,d,_⟩
  .grind
  rw[j]at d;injection d
 subst u;have f:=OG xs (lo:=lo) q;refine⟨k,l,by rw[f],by rw[f];exact o,by rw[f];omega,?_⟩;by_cases t:lo<hi
 .right;rcases h.2 with ⟨d,hn⟩|⟨g,cap,n,d,r⟩
  .omega
  have D:=World.ownsRow.cells h (g:=g) (by rw[d];rfl);have ha:a=some ⟨g,0,none⟩:=by rw[j]at d;injection d
  subst ha;refine⟨_,h1 t,y _ (by rw[d];simp only[blk,CD]),λi x s=>?_⟩;obtain⟨A,G⟩:=cB xs lo hi i s;obtain⟨B,E,C,I⟩:=p (lo+i) x A;grind [DF]
 simp_all
theorem HH {w:World} {base:Nat} {et:TypeId} {sz n:Nat} {s:Value} {xs:List Value} (h:w.ownsRow base et sz s n xs):plc s=s:=by
 rcases h.2 with ⟨rfl,_⟩|⟨g,cap,a,rfl,_⟩<;>rfl
theorem VB {V:Vw} {et:TypeId} {e:Ty} {xs:List e.den} {loc:Value} (h:A1 V (.arr et e xs) loc):plc loc=loc:=by
 obtain⟨_,_,h,_⟩:=h;exact HH h
theorem cC {V:Vw} {O':Nat->Prop} (h:∀b,¬V.O b->¬O' b) {et:TypeId} {e:Ty} {xs:List e.den} {loc v:Value} {lo hi:Nat} (n:∀b,blk loc=some b->¬O' b)
  (a:A1 V (.arr et e xs) loc) (c:DI (plc loc) e.size lo hi v):Bv V.w O' (.slice e) [v] (sub xs lo hi):=by
 rw[VB a]at c;obtain⟨l,cells,m,k⟩:=a;exact qZ n l m (λi x hi=>let ⟨d,h1,f,g⟩:=k i x hi;⟨d,h1,f,g.mono (λb _ j=>h b j) (λ_ _ _=>rfl)⟩) c
theorem GF {w:World} {et:TypeId} {sz n:Nat} {s:Value} {xs:List Value} (h:w.ownsRow 0 et sz s n xs):DI s sz 0 n s:=by
 rcases h.2 with ⟨rfl,hn⟩|⟨g,cap,a,rfl,_,_,b,_⟩
 .exact⟨none,0,0,rfl,by omega,by omega,none,0,by rw[hn],by omega,λ_=>⟨rfl,rfl⟩,λh=>by omega⟩
 exact⟨some ⟨g,0,none⟩,n,cap,rfl,by omega,by omega,some ⟨g,0,none⟩,cap,by simp,by omega,λ_=>⟨rfl,rfl⟩,λ_=>by simp[Ml]⟩
theorem ZN {V:Vw} {O':Nat->Prop} (c:∀b,¬V.O b->¬O' b) {et:TypeId} {e:Ty} {xs:List e.den} {u:Value} (d:∀b,blk u=some b->¬O' b) (h:RM V et e xs u):Bv V.w O' (.slice e) [u] xs:=by
 have h1:=h;obtain⟨_,_,a,_⟩:=h1;have:=cC (V:=V) c d (et:=et) (e:=e) (xs:=xs) (loc:=u) h (by rw[HH a];exact GF a)
 rwa [IZ]at this
theorem KS {w:World} {base:Nat} {et:TypeId} {sz n m c:Nat} {a:Option Addr} {xs:List Value} (h:w.ownsRow base et sz (.slice a m c) n xs):m=n:=by
 rcases h.2 with ⟨b,hn⟩|⟨g,cap,d,b,_⟩
 .injection b;omega
 injection b
theorem cD {V:Vw} {f:TypeId} {e:Ty} {xs:List e.den} {u:Value} {a:Option Addr} {len c:Nat} (b:Lay u (.slice a len c)) (h:RM V f e xs u):len=xs.length:=by
 obtain⟨_,j,d,_⟩:=h;rcases b with rfl|⟨rfl,g,i⟩
 .exact KS d
 grind [KS]
theorem A1Z {V:Vw} {j:TypeId} {e:Ty} {xs:List e.den} {u v:Value} (g:Lay u v) (h:RM V j e xs u):∃(a:Option Addr) (c:Nat),v=.slice a xs.length c:=by
 rcases g with rfl|⟨rfl,a,rfl⟩
 .obtain⟨_,k,f,_⟩:=h;obtain⟨_,_,_,_,_,_,b,d,i,_⟩:=GF f;exact⟨b,d,i⟩
 have hn:=cD (.inr ⟨rfl,a,rfl⟩) h;exact⟨a,0,by rw[<-hn]⟩
theorem q9 {V:Vw} {O':Nat->Prop} {f:TypeId} {e:Ty} {xs:List e.den} {u v:Value} (b:Lay u v) (h:RM V f e xs u) (c:Bv V.w O' (.slice e) [u] xs):Bv V.w O' (.slice e) [v] xs:=by
 rcases b with rfl|⟨rfl,a,rfl⟩
 .exact c
 have hn:=cD (.inr ⟨rfl,a,rfl⟩) h;have d:xs=[]:=Tv hn.symm;subst d;exact⟨a,0,rfl,Is _,by simp,.inl rfl⟩
theorem OH {V:Vw} {O':Nat->Prop} (g:∀b,¬V.O b->¬O' b) {et p:TypeId} {k e:Ty} {xs:List (k.den×List e.den)} {o:Value} {ins cells:List Value} (h:LC V et p k e xs none o ins cells)
  (n:∀(i b:Nat) (u:Value),ins[i]?=some u->blk u=some b->¬O' b):DX V.w O' (.agg (.prod k (.slice e))) cells xs:=by
 intro i x hi;have j:i<ins.length:=by rw[h.len];exact(Tm.1 hi).1
 obtain⟨c1,v,h1,d,a⟩:=h.row i x ins[i] hi (AT j);rcases a with ⟨a,_⟩|⟨_,l,f⟩
 .cases a
 have m:=q9 l f (ZN g (λb c=>n i b _ (AT j) c) f);refine⟨c1++[v],by simp[Ty.size,d.length],h1,?_⟩;exact(⟨c1,[v],rfl,d.mono (λb _ c=>g b c) (λ_ _ _=>rfl),m⟩:Bv V.w O' (.prod k (.slice e)) _ x)
theorem gB {V:Vw} {O':Nat->Prop} (f:∀b,¬V.O b->¬O' b) {et l:TypeId} {k e:Ty} {xs:List (k.den×List e.den)} {loc v:Value} {lo hi:Nat} (a:∀b,bk loc b->¬O' b)
  (j:A1 V (.nest et l k e xs none) loc) (c:DI (plc loc) (k.size+1) lo hi v):Bv V.w O' (.slice (.agg (.prod k (.slice e)))) [v] (sub (α:=k.den×List e.den) xs lo hi):=by
 obtain⟨o,ins,cells,hs,h⟩:=j;rw[hs.plc]at c;exact qZ (e:=.agg (.prod k (.slice e))) (xs:=xs) (λb g=>a b (hs.bk.2 (A4.2 (.inl g)))) h.max h.own (OH f h λi b u h1 d=>a b (hs.bk.2 (A4.2 (.inr ⟨i,u,h1,d⟩)))) c
theorem ZO {V:Vw} {p:Obj} {loc:Value} {a:Option Addr} {m c:Nat} (d:A1 V p loc) (h:plc loc=.slice a m c):∃et sz cells,V.w.ownsRow 0 et sz (.slice a m c) m cells/\m<=AO:=by
 cases p with
 | arr et e xs =>
  have h1:=VB d;obtain⟨r,cells,i,_⟩:=d;rw[h1]at h;subst h;have j:m=xs.length:=by
   rcases i.2 with ⟨f,hn⟩|⟨g,cap,q,f,_⟩
   .injection f;omega
   injection f
  subst j;exact⟨et,_,cells,i,r⟩
 | nest et u k e xs s =>
  obtain⟨o,ins,cells,hs,n⟩:=d;rw[hs.plc]at h;subst h;have i:=n.own;have j:m=xs.length:=by
   rcases i.2 with ⟨f,hn⟩|⟨g,cap,q,f,_⟩
   .injection f;omega
   injection f
  subst j;exact⟨et,_,cells,i,n.max⟩
 | box et st fs=>obtain⟨_,b,cs,rfl,_⟩:=d;cases h
 | mapo k v l=>obtain⟨b,_,_,rfl,_⟩:=d;cases h
 | frame B fs=>obtain⟨rfl,_⟩:=d;cases h
 | loop L=>obtain⟨b,rfl,_⟩:=d;cases h
 | itr x A y z t=>obtain⟨b,rfl,_⟩:=d;cases h
 | dfr=>obtain⟨b,rfl,_⟩:=d;cases h
theorem Mq {V V':Vw} (c:V'.w=V.w) (d:V'.O=V.O) {et f:TypeId} {k e:Ty} {xs:List (k.den×List e.den)} {h:Option Nat} {loc:Value} (s:A1 V (.nest et f k e xs h) loc):A1 V' (.nest et f k e xs h) loc:=by
 obtain⟨o,ins,cells,q,a⟩:=s;refine⟨o,ins,cells,q,a.max,a.len,by rw[c];exact a.own,λi x u h1 g=>?_,a.dist,a.out⟩;obtain⟨c1,v,j,l,b⟩:=a.row i x u h1 g;refine⟨c1,v,j,by rw[c,d];exact l,?_⟩;rcases b with b|⟨b,m,r,t,n,p⟩
 .exact .inl b
 exact .inr ⟨b,m,r,t,by rw[c];exact n,by rw[c,d];exact p⟩
theorem A07 {V V':Vw} (d:V'.w=V.w) (g:∀b,¬V.O b->¬V'.O b) {et j:TypeId} {k e:Ty} {xs:List (k.den×List e.den)} {h:Option Nat} {loc:Value} (C:A1 V (.nest et j k e xs h) loc):A1 V' (.nest et j k e xs h) loc:=by
 obtain⟨o,ins,cells,A,a⟩:=C;refine⟨o,ins,cells,A,a.max,a.len,by rw[d];exact a.own,λi x u h1 q=>?_,a.dist,a.out⟩;obtain⟨c1,v,r,s,c⟩:=a.row i x u h1 q;refine⟨c1,v,r,s.mono (λb _ f=>g b f) (λb _ _=>by rw[d]),?_⟩;rcases c with c|⟨c,t,B,D,y,z⟩
 .exact .inl c
 refine .inr ⟨c,t,B,D,by rw[d];exact y,λi x hi=>?_⟩;obtain⟨l,m,n,p⟩:=z i x hi;exact⟨l,m,n,p.mono (λb _ f=>g b f) (λb _ _=>by rw[d])⟩
theorem cE {V:Vw} {et g:TypeId} {k e:Ty} {xs:List (k.den×List e.den)} {h:Option Nat} {loc v:Value} {c:Array Value} {i:Nat} {z:k.den×List e.den}
  (d:A1 V (.nest et g k e xs h) loc) (f:loc=.tuple c) (a:c[i+1]?=some v):xs[i]?=some (xs.getD i z):=by
 obtain⟨o,ins,cells,hs,h⟩:=d;obtain rfl:=hs.tup f;have a:ins[i]?=some v:=by simpa using a
 have b:i<xs.length:=by rw[<-h.len];exact(Tm.1 a).1
 rw[AT b,AS,AT b];rfl
theorem A5i {V:Vw} {t:Obj} {loc u v:Value} {w:Array Value} {i len c:Nat} {a:Option Addr} (d:A1 V t loc) (z:loc=.tuple w) (f:w[i+1]?=some u) (j:Lay u v) (s:v=.slice a len c):len<=AO:=by
 subst z;cases t with
 | arr et e xs =>
  obtain⟨E,cells,y,_⟩:=d;rcases y.2 with ⟨r,_⟩|⟨g,cap,B,r,_⟩<;>cases r
 | nest et G k e xs D =>
  obtain⟨o,ins,cells,hs,q⟩:=d;obtain rfl:=hs.tup rfl;have f:ins[i]?=some u:=by simpa using f
  have x:i<xs.length:=by rw[<-q.len];exact(Tm.1 f).1
  obtain⟨c1,N,h1,C,m⟩:=q.row i xs[i] u (AT x) f;rcases m with ⟨_,m⟩|⟨_,_,n⟩
  .subst s;rcases j with p|⟨_,A,p⟩
   .grind
   injection p;omega
  rw[s]at j;rw[cD j n];exact n.1
 | box et st fs=>obtain⟨_,b,cs,h,_⟩:=d;cases h
 | mapo k v l=>obtain⟨b,_,_,h,_⟩:=d;cases h
 | frame M fs=>obtain⟨h,_⟩:=d;cases h
 | loop L=>obtain⟨b,h,_⟩:=d;cases h
 | itr H K I J F=>obtain⟨b,h,_⟩:=d;cases h
 | dfr=>obtain⟨b,h,_⟩:=d;cases h
theorem A5j {V:Vw} {O':Nat->Prop} (p:∀b,¬V.O b->¬O' b) {et l:TypeId} {k e:Ty} {xs:List (k.den×List e.den)} {loc v:Value} {d:Array Value} {i:Nat} {x:k.den×List e.den} (s:∀b,bk loc b->¬O' b) {u:Value}
  (f:A1 V (.nest et l k e xs none) loc) (g:loc=.tuple d) (c:d[i+1]?=some u) (r:Lay u v) (j:xs[i]?=some x):Bv V.w O' (.slice e) [v] x.2:=by
 obtain⟨o,ins,cells,hs,h⟩:=f;obtain rfl:=hs.tup g;have c:ins[i]?=some u:=by simpa using c
 obtain⟨c1,t,h1,m,a⟩:=h.row i x u j c;rcases a with ⟨a,_⟩|⟨_,q,n⟩
 .cases a
 grind [q9,ZN,A4]
section
variable {V:Vw} {O':Nat->Prop} {l:Bool} {σ:St}
theorem rB (p:∀b,¬V.O b->¬O' b) (y:l=true->∀b,¬O' b) (s:∀n o,lk n σ.objs=some o->A1 V o (V.ρ n))
  {t:Ty} {x:AV} {d:t.den} {cs:List Value} (h:Eq l σ t x=some d) (g:NV V x cs):Bv V.w O' t cs d:=by
 unfold Eq at h;split at h
 .rename_i u z;have:=A6 h;injection this with h1 j
  subst h1;cases j;have g:Bv V.w V.O u cs z:=g;exact g.mono (λb _ D=>p b D) (λ_ _ _=>rfl)
 .rename_i e n A lo hi;split at h
  .rename_i q;obtain⟨r,rfl⟩:=q;have m:=r;obtain⟨v,rfl,_,C,f⟩:=g;cases hn:lk n σ.objs with
   | none=>rw[hn]at h;simp[RE]at h
   | some o =>
    rw[hn]at h;cases o with
    | box et st fs=>simp[RE]at h
    | mapo k v l=>simp[RE]at h
    | frame P fs=>simp[RE]at h
    | loop L=>simp[RE]at h
    | itr J N K M H=>simp[RE]at h
    | dfr=>simp[RE]at h
    | nest et I k B xs m =>
     cases m with
     | some i=>simp[RE]at h
     | none =>
      simp only[RE]at h;obtain⟨h1,j⟩:=Be h;subst h1;cases j;exact gB p (λb _=>y r b) (s n _ hn) f
    | arr et B xs =>
     simp only[RE]at h;obtain⟨h1,j⟩:=Be h;subst h1;cases j;exact cC p (λb _=>y m b) (s n _ hn) f
  cases h
 .rename_i e n A i len;split at h
  .rename_i q;obtain⟨m,rfl⟩:=q;obtain⟨v,rfl,_,C,R,a,c,Q,G,F,E,_⟩:=g;cases hn:lk n σ.objs with
   | none=>rw[hn]at h;simp[RH]at h
   | some o =>
    rw[hn]at h;unfold RH at h;split at h
    .grind [Be,A5j,cE]
    cases h
  cases h
 .obtain⟨v,rfl,_,f⟩:=g;have f:v=_:=f;subst f;cases h;exact⟨none,0,rfl,by simp,by simp[AO],.inl rfl⟩
 cases h
theorem A20 (i:∀b,¬V.O b->¬O' b) (k:l=true->∀b,¬O' b) (j:∀n o,lk n σ.objs=some o->A1 V o (V.ρ n)) :
  ∀ {fs:List AV} {t:Ty} {d:t.den} {cs:List Value},KF l σ fs t=some d->DQ V fs cs->Bv V.w O' t cs d
 | [],t,d,cs,h,f=>by simp[KF]at h
 | [x],t,d,cs,h,f=>by
  obtain⟨c1,c2,rfl,h1,e⟩:=f;have e:c2=[]:=e;grind [KF,rB]
 | x :: y :: r,t,d,cs,h,f=>by
  obtain⟨c1,c2,rfl,h1,e⟩:=f;cases t;case prod a b =>
   simp only[KF]at h;cases c:Eq l σ a x with
   | none=>rw[c]at h;simp[LT]at h
   | some m =>
    cases g:KF l σ (y :: r) b with
    | none=>rw[c,g]at h;simp[LT]at h
    | some p =>
     rw[c,g]at h;simp only[LT]at h;cases h;exact⟨c1,c2,rfl,rB i k j c h1,A20 i k j g e⟩
  all_goals simp[KF]at h
theorem A5k {t:Ty} {x:AV} {d:t.den} {v:Value} (h:Eq l σ t x=some d) (hp:∀u i,x≠.p u i) (e:Bz V x v):NV V x [v]/\t.wrap [v]=v:=by
 unfold Eq at h;split at h
 .exact absurd rfl (hp _ _)
 .obtain⟨b,a,m,c,_,_,_,f,g,rfl,_⟩:=e;refine⟨⟨_,rfl,rfl,?_⟩,rfl⟩;exact⟨b,a,m,c,by assumption,by assumption,by assumption,f,g,rfl,by assumption⟩
 .obtain⟨b,o,a,c,u,h1,j,k,rfl⟩:=e;exact⟨⟨_,rfl,rfl,b,o,a,c,u,h1,j,k,rfl⟩,rfl⟩
 .have n:v=_:=e;subst n;exact⟨⟨_,rfl,rfl,rfl⟩,rfl⟩
 cases h
theorem LD (f:∀b,¬V.O b->¬O' b) (j:l=true->∀b,¬O' b) (i:∀n o,lk n σ.objs=some o->A1 V o (V.ρ n))
  {t:Ty} {x:AV} {d:t.den} {v:Value} (h:Mm l σ t x=some d) (g:Bz V x v):BS V.w O' t v d:=by
 unfold Mm at h;split at h
 .rename_i t fs;obtain⟨cs,rfl,m⟩:=g;exact⟨cs,(A20 f j i h m:Bv V.w O' t cs d),rfl⟩
 by_cases hp:∃u a,x=.p u a
 .obtain⟨u,a,rfl⟩:=hp;have h:BP t ⟨u,a⟩=some d:=by simpa only[Eq] using h
  have:=A6 h;injection this with h1 c
  subst h1;cases c;exact BS.mono (λb _ k=>f b k) (λ_ _ _=>rfl) g
 obtain⟨h1,c⟩:=A5k h (λu a e=>hp ⟨u,a,e⟩) g;exact⟨[v],rB f j i h h1,c.symm⟩
end
end
section
open Go Go.RowKit
def cF:Ty->Value->Bool
 | .agg _,.agg _=>true
 | .agg _,_=>false
 | .prod _ _,_=>false
 | _,.agg _=>false
 | _,_=>true
def Pi (P : Program) (id : TypeId) (a b : IntKind) : Prop := ∃ c d : Field, P.underlying id = some (.struct #[c, d]) /\ ((c.name != "_") = true /\ (d.name != "_") = true) /\ (c.offset = 0 /\ d.offset = 1) /\ (P.underlying c.type = some (.int a) /\ P.underlying d.type = some (.int b)) /\ P.stoodInHeld id = false
def Vo (P:Program) (id:TypeId):Ty->Nat->Prop
 | .agg (.prod (.int a) (.int b)),0=>Pi P id a b
 | _,_=>True
def isI (k:IntKind):Option TypeDesc->Bool
 | some (.int a)=>k==a
 | _=>false
theorem Vp {k:IntKind} {d:Option TypeDesc} (h:isI k d=true):d=some (.int k):=by
 unfold isI at h;grind
def A8w (P:Program) (id:TypeId) (a b:IntKind):Option TypeDesc->Bool
 | some (.struct ⟨[c, d]⟩) => (c.name != "_") && (d.name != "_") && c.offset == 0 && d.offset == 1 && isI a (P.underlying c.type) && isI b (P.underlying d.type) && P.stoodInHeld id == false
 | _=>false
def A21 (P:Program) (id:TypeId):Ty->Nat->Bool
 | .agg (.prod (.int a) (.int b)),0=>A8w P id a b (P.underlying id)
 | _,_=>true
theorem A22 {P:Program} {id:TypeId} {t:Ty} {el:Nat} (h:A21 P id t el=true):Vo P id t el:=by
 unfold A21 at h;unfold Vo;split at h
 .unfold A8w at h;split at h
  .rename_i a b hu;simp only[An,UP]at h;obtain⟨⟨⟨⟨⟨⟨h1,c⟩,d⟩,e⟩,f⟩,g⟩,i⟩:=h;exact⟨a,b,hu,⟨h1,c⟩,⟨d,e⟩,⟨Vp f,Vp g⟩,i⟩
  cases h
 trivial
def D8 (P:Program) (tb:Tb) (id:TypeId) (ti:TI):Prop :=
 (((∀p∈ti.offs,p.2≠0)/\0<ti.bytes/\Vo P id ti.ty ti.el)/\∃(i:TypeInfo) (z:Value),P.info? id=some i/\i.size=ti.ty.size/\i.bytes=ti.bytes/\i.zero=some z/\z.cells=ti.ty.zero.toArray) /\
 match ti.ty with
 | .int k=>P.underlying id=some (.int k)
 | .bool=>P.underlying id=some .bool
 | .str=>P.underlying id=some .string
 | .slice e=>P.underlying id=some (.slice ti.el)/\∃te,lk ti.el tb.ty=some te/\te.ty=e
 | .agg _=>(∃fs:Array Field,ti.el=0/\P.underlying id=some (.struct fs)/\ti.offs.map some=fs.toList.map λf=>(P.info? f.type).map λi=>(f.offset,i.size)) \/
   ∃n e i,ti.el≠0/\P.underlying id=some (.array n e)/\P.info? e=some i/\ti.offs=(List.range n).map λk=>(k*i.size,i.size)
 | .prod _ _=>False
 | .ref j=>∃d,P.underlying id=some d/\(match d with|.struct _=>False|.array _ _=>False|_=>True) /\
   ∀k e,j=2->ti.offs=[(k,e)]->d=.map k e/\∃(a te:TI) (z:Value),lk k tb.ty=some a/\lk e tb.ty=some te/\(∃i,P.info? e=some i/\i.zero=some z)/\z.cells=te.ty.zero.toArray/\cF te.ty z=true
def Cw (P:Program) (tb:Tb):Prop:=∀id ti,lk id tb.ty=some ti->D8 P tb id ti
def A23:Value->Value->Bool
 | .int k n,.int c d=>k==c&&n==d
 | .bool a,.bool b=>a==b
 | .string s,.string e=>s.size==0&&e.size==0
 | .slice none 0 0,.slice none 0 0=>true
 | .pointer none,.pointer none=>true
 | .nilFunc,.nilFunc=>true
 | .map none,.map none=>true
 | _,_=>false
theorem A24 {a b:Value} (h:A23 a b=true):a=b:=by
 unfold A23 at h;split at h
 .grind
 .grind
 .simp_all
 .rfl
 .rfl
 .rfl
 .rfl
 cases h
def OI:List Value->List Value->Bool
 | [],[]=>true
 | a :: l,b :: r=>A23 a b&&OI l r
 | _,_=>false
theorem RP:∀ {l r:List Value},OI l r=true->l=r
 | [],[],_=>rfl
 | a :: l,b :: r,h=>by
  simp only[OI,An]at h;rw[A24 h.1,RP h.2]
 | [],_ :: _,h=>by simp[OI]at h
 | _ :: _,[],h=>by simp[OI]at h
def A8x (ty:Ty) (bytes:Nat):Option TypeInfo->Bool
 | some i=>i.size==ty.size&&i.bytes==bytes&&(match i.zero with|some z=>OI z.cells.toList ty.zero|none=>false)
 | none=>false
def AA6 (offs:List (Nat×Nat)) (n:Nat):Option TypeInfo->Bool
 | some i=>offs==(List.range n).map λk=>(k*i.size,i.size)
 | none=>false
def A8y (e:Nat) (te:Option TI):Option TypeInfo->Bool
 | some i=>match i.zero,te with|some z,some te=>OI z.cells.toList te.ty.zero&&cF te.ty z|_,_=>false
 | none=>false
def A8X (P:Program) (tb:Tb) (j:Nat) (d:TypeDesc):List (Nat×Nat)->Bool
 | [(k,e)]=>j != 2||(match d with|.map b a=>b==k&&a==e&&(lk k tb.ty).isSome&&A8y e (lk e tb.ty) (P.info? e)|_=>false)
 | _=>true
theorem A5l {P:Program} {tb:Tb} {j:Nat} {d:TypeDesc} {offs:List (Nat×Nat)} (h:A8X P tb j d offs=true):∀k e,j=2->offs=[(k,e)]->d=.map k e/\∃(a te:TI) (z:Value),lk k tb.ty=some a/\lk e tb.ty=some te/\(∃i,P.info? e=some i/\i.zero=some z)/\z.cells=te.ty.zero.toArray/\cF te.ty z=true:=by
 rintro k e rfl rfl;simp only[A8X,bne_self_eq_false,AEi]at h;split at h
 .simp only[An,UP]at h;obtain⟨⟨⟨rfl,rfl⟩,b⟩,c⟩:=h;refine⟨rfl,?_⟩;obtain⟨a,f⟩:=Yv.1 b;unfold A8y at c;grind [RP]
 cases h
def AA7 (P:Program) (tb:Tb) (ti:TI):Ty->Option TypeDesc->Bool
 | .int k,some (.int a)=>k==a
 | .bool,some .bool=>true
 | .str,some .string=>true
 | .slice e,some (.slice el)=>el==ti.el&&(match lk ti.el tb.ty with|some te=>decide (te.ty=e)|none=>false)
 | .agg _,some (.struct fs)=>ti.el==0&&ti.offs.map some==fs.toList.map λf=>(P.info? f.type).map λi=>(f.offset,i.size)
 | .agg _,some (.array n e)=>ti.el != 0&&AA6 ti.offs n (P.info? e)
 | .ref _,some (.struct _)=>false
 | .ref _,some (.array _ _)=>false
 | .ref j,some d=>A8X P tb j d ti.offs
 | _,_=>false
def tiB (P:Program) (tb:Tb) (id:TypeId) (ti:TI):Bool:=((ti.offs.all λp=>p.2 != 0)&&(decide (0<ti.bytes)&&A21 P id ti.ty ti.el))&&A8x ti.ty ti.bytes (P.info? id)&&AA7 P tb ti ti.ty (P.underlying id)
theorem A8Y {P:Program} {tb:Tb} {id:TypeId} {ti:TI} (h:tiB P tb id ti=true):D8 P tb id ti:=by
 simp only[tiB,An]at h;obtain⟨⟨⟨h0,c,d⟩,h1⟩,a⟩:=h;refine⟨⟨⟨λp hp=>by simpa using (ON.1 h0) p hp,by simpa using c,A22 d⟩,?_⟩,?_⟩
 .unfold A8x at h1;grind [RP]
 generalize hu:P.underlying id=u at a;generalize ti.ty=t at a;cases t<;>cases u<;>simp only[AA7]at a<;>try(cases a;done)
 all_goals
  rename_i u;cases u<;>simp only at a<;>try(cases a;done)
 .grind
 .rfl
 .rfl
 .grind
 .rename_i n e;simp only[An,ADz]at a;obtain⟨b,a⟩:=a;unfold AA6 at a;split at a
  .rename_i i hi;exact .inr ⟨_,_,i,b,rfl,hi,by simpa using a⟩
  cases a
 .grind
 all_goals exact⟨_,rfl,trivial,A5l a⟩
theorem A5m {P:Program} {tb:Tb} (h:(tb.ty.all λp=>tiB P tb p.1 p.2)=true):Cw P tb:=λid ti hi=>by
 rw[ON]at h;exact A8Y (h _ (Ff hi))
def Ty.isAgg:Ty->Bool
 | .agg _=>true
 | .int _=>false
 | .bool=>false
 | .str=>false
 | .slice _=>false
 | .prod _ _=>false
 | .ref _=>false
section
variable {P:Program} {tb:Tb} {id:TypeId} {ti:TI} (w:World)
theorem Ld {i:TypeInfo} (h:P.info? id=some i):(typeInfo id).run P w=.ok i w:=by simp[typeInfo,h]
theorem A5n (h:D8 P tb id ti):(isAgg id).run P w=.ok ti.ty.isAgg w:=by
 obtain⟨_,a⟩:=h;cases c:ti.ty<;>rw[c]at a<;>simp only at a;case agg =>
  rcases a with ⟨fs,_,hu,_⟩|⟨n,e,_,_,hu,_⟩<;>simp[isAgg,Tr hu,Ty.isAgg]
 case slice=>simp[isAgg,Tr a.1,Ty.isAgg]
 case ref k =>
  obtain⟨d,hu,b,_⟩:=a;cases d<;>first|exact b.elim|simp[isAgg,Tr hu,Ty.isAgg]
 all_goals simp[isAgg,Tr a,Ty.isAgg]
theorem Hm (h:D8 P tb id ti):(sizeOf id).run P w=.ok ti.ty.size w:=by
 obtain⟨⟨_,i,z,h1,a,_⟩,_⟩:=h;simp[sizeOf,Ld w h1,a]
theorem D8.noprod (h:D8 P tb id ti) {a b:Ty}:ti.ty≠.prod a b:=by
 intro e;have:=h.2;rw[e]at this;exact this
theorem gC (h:D8 P tb id ti) {ad:Addr} {cs:List Value} (d:cs.length=ti.ty.size) (e:∀(j:Nat) (u:Value),cs[j]?=some u->w.cell? (ad.add j)=some u) :
  (loadVar id ad).run P w=.ok (ti.ty.wrap cs) w:=by
 have i:=λa b=>h.noprod (a:=a) (b:=b);simp only[loadVar,Uy,A5n w h,UV];cases f:ti.ty;case prod a b=>exact absurd f (i a b)
 case agg u =>
  have g:ti.ty.size=cs.length:=d.symm;simp only[Ty.isAgg,Ut,Uy,Hm w h,UV,g,run_loadCells_list w ad cs e,Ty.wrap];rfl
 all_goals
  rw[f]at d;obtain⟨c,rfl⟩:=Y2.1 d;have h0:=e 0 c rfl;rw[Ml]at h0;simp[Ty.isAgg,Ty.wrap,h0]
theorem ET (h:D8 P tb id ti) {ad:Addr} {cs:List Value} (b:cs.length=ti.ty.size) (a:∀(j:Nat) (u:Value),cs[j]?=some u->w.cell? (ad.add j)=some u) :
  (Instr.loadAt id (.pointer (some ad))).run P w=.ok (ti.ty.wrap cs) w:=by
 simp[Instr.loadAt,Instr.sureAddr,gC w h b a]
end
end
end Go.Proofs.YtapkhdkbkodbjaaGreat.Fw
