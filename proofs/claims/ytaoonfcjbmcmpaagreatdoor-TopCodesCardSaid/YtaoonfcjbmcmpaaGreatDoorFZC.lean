/- The executor's quiet operations are sound, second part; maps. -/
import Derived.Test.YtaoonfcjbmcmpaaGreatDoorFZB
import Derived.ArgAppend
import Derived.MapKept
import Derived.WideKeyRuns
import Derived.Laws.StructEq
set_option linter.unusedVariables false
set_option linter.unusedSimpArgs false
namespace Go.Proofs.YtaoonfcjbmcmpaaGreatDoor.Fw
section
open Go Go.RowKit
section
abbrev AAi:=@Go.MapKept.run_getObj_map
abbrev AB5:=@Go.World.ownsRow_nil
abbrev ABm:=@Go.Sem.run_pure
abbrev ABw:=@Go.MapKept.run_setObj_map
abbrev AC0:=@Go.heap_alloc_new
abbrev ACi:=@Go.MapKept.run_checkKey
abbrev ACw:=@Go.run_part_plain
variable {P:Program} {tb:Tb} {id:TypeId} {ti:TI} {w:World} {O0:Nat->Prop} {σ:St} {ρ:Nat->Value} {vc:Prop} {v:AV} {obs:List (Nat×Obj)}
theorem DR (w:World) (o:_root_.Go.Obj):Below w.heap.size w (w.alloc o):=(Below.refl _ _).alloc (If _) o
theorem QS.box {n:Nat} {et:TypeId} {a:Bool} {fs:List AV} {cs:List Value} (g:BS [(n,.box et a fs)] σ=true) (j:a=false->fs.length=1) (f:AVCs (vw w O0 σ ρ) fs cs) :
  QS w O0 σ ρ (.bp n [] 0) [(n,.box et a fs)] (.pointer (some ⟨w.heap.size,0,none⟩)) (DQ ρ n (.pointer (some ⟨w.heap.size,0,none⟩))) (w.alloc (.cells cs.toArray et)):=by
 have i:∀(m:Nat) (o:Obj) (b:Nat),lk m [(n,.box et a fs)]=some o->bk (DQ ρ n (.pointer (some ⟨w.heap.size,0,none⟩)) m) b->w.heap.size<=b:=by grind [lk,BV,bk,blk]
 have h:CG (vw w O0 σ ρ) (vw (w.alloc (.cells cs.toArray et)) O0 (Du σ [(n,.box et a fs)]) (DQ ρ n (.pointer (some ⟨w.heap.size,0,none⟩)))) :=
  JD g (DR w _) (λm c=>by
   simp only[lk]at c;split at c
   .cases c
   rename_i e;simp[DQ,e]) i
 refine QS.one (DR w _) (λb d=>by simp[bk,blk]at d;omega) ?_ ?_
 .refine⟨⟨.box et a fs,by simp[Du,lk]⟩,w.heap.size,by rw[show (vw (w.alloc (.cells cs.toArray et)) O0 (Du σ [(n,.box et a fs)]) (DQ ρ n (.pointer (some ⟨w.heap.size,0,none⟩)))).ρ n=DQ ρ n (.pointer (some ⟨w.heap.size,0,none⟩)) n from rfl,BV],rfl⟩
 exact⟨j,w.heap.size,cs,rfl,AC0 w _,f.keeps h⟩
theorem QS.arr {n:Nat} {et:TypeId} {e:Ty} {xs:List e.den} {cells:List Value} {loc:Value} {w':World} {hi:Nat} (p:BS [(n,.arr et e xs)] σ=true) (f:Below w.heap.size w w')
  (c:w'.ownsRow w.heap.size et e.size loc xs.length cells) (a:xs.length<=AN) (l:DE w (own O0 σ ρ) e cells xs) (r:hi=xs.length) :
  QS w O0 σ ρ (.sr n e 0 hi) [(n,.arr et e xs)] loc (DQ ρ n loc) w':=by
 subst r;have v:∀b,bk loc b->w.heap.size<=b:=by
  intro b i;rcases c.2 with ⟨rfl,_⟩|⟨g,cap,d,rfl,q,_⟩
  .simp[bk,blk]at i
  simp[bk,blk]at i;omega
 have u:∀(m:Nat) (o:Obj) (b:Nat),lk m [(n,.arr et e xs)]=some o->bk (DQ ρ n loc m) b->w.heap.size<=b:=by grind [lk,BV]
 have s:CG (vw w O0 σ ρ) (vw w' O0 (Du σ [(n,.arr et e xs)]) (DQ ρ n loc)) :=
  JD p f (λm a=>by
   simp only[lk]at a;split at a
   .cases a
   rename_i e;simp[DQ,e]) u
 refine QS.one f v ?_ ?_
 .refine⟨⟨.arr et e xs,by simp[Du,lk]⟩,?_⟩;show CV (plc (DQ ρ n loc n)) e.size 0 xs.length loc;rw[BV,Hg c];rcases c.2 with ⟨rfl,t⟩|⟨g,cap,d,rfl,q,_,y,_⟩
  .exact⟨none,0,0,rfl,by omega,by omega,none,0,by rw[t],by omega,λ_=>⟨rfl,rfl⟩,λh=>by omega⟩
  exact⟨some ⟨g,0,none⟩,xs.length,cap,rfl,by omega,by omega,some ⟨g,0,none⟩,cap,by simp,by omega,λ_=>⟨rfl,rfl⟩,λ_=>by simp[Gn]⟩
 refine⟨a,cells,⟨c.1,?_⟩,l.keeps s⟩;rcases c.2 with h|⟨g,cap,d,j,x,k⟩
 .exact .inl h
 exact .inr ⟨g,cap,d,j,BY _,k⟩
theorem IV (V:Vw) (t:Ty):Fa V (aG t) t.zero:=by
 cases t;case slice e=>exact⟨_,rfl,rfl,rfl⟩
 case ref k=>exact⟨UX k,rfl,QD k none,rfl⟩
 all_goals(exact Bl.zero V.w V.O _)
theorem wZ (V:Vw):∀t:Ty,AVCs V (qI t) t.zero
 | .prod a b=>⟨a.zero,b.zero,rfl,IV V a,wZ V b⟩
 | .int k=>⟨_,[],by simp,IV V (.int k),rfl⟩
 | .bool=>⟨_,[],by simp,IV V .bool,rfl⟩
 | .str=>⟨_,[],by simp,IV V .str,rfl⟩
 | .slice e=>⟨_,[],by simp,IV V (.slice e),rfl⟩
 | .agg t=>⟨_,[],by simp,IV V (.agg t),rfl⟩
 | .ref k=>⟨_,[],by simp,IV V (.ref k),rfl⟩
theorem QQ (V:Vw) (b:Bool) (t:Ty):Fa V (qJ b t) t.zero:=by
 unfold qJ;split
 .exact(wZ V _:AVCs V _ _)
 exact IV V t
theorem Ye (V:Vw) (b:Bool):∀t:Ty,AVCs V (Pd b t) t.zero
 | .prod a c=>⟨a.zero,c.zero,rfl,QQ V b a,Ye V b c⟩
 | .int k=>⟨_,[],by simp,QQ V b (.int k),rfl⟩
 | .bool=>⟨_,[],by simp,QQ V b .bool,rfl⟩
 | .str=>⟨_,[],by simp,QQ V b .str,rfl⟩
 | .slice e=>⟨_,[],by simp,QQ V b (.slice e),rfl⟩
 | .agg t=>⟨_,[],by simp,QQ V b (.agg t),rfl⟩
 | .ref k=>⟨_,[],by simp,QQ V b (.ref k),rfl⟩
theorem kB (V:Vw):∀(t:Ty) (d:t.den) (cs:List Value),Bl V.w V.O t cs d->AVCs V (qK t d) cs
 | .prod a b,d,cs,h=>by
  obtain⟨c1,c2,rfl,c,f⟩:=h;exact⟨c1,c2,rfl,c,kB V b d.2 c2 f⟩
 | .int k,d,cs,h=>⟨cs,[],by simp,h,rfl⟩
 | .bool,d,cs,h=>⟨cs,[],by simp,h,rfl⟩
 | .str,d,cs,h=>⟨cs,[],by simp,h,rfl⟩
 | .slice e,d,cs,h=>⟨cs,[],by simp,h,rfl⟩
 | .agg t,d,cs,h=>⟨cs,[],by simp,h,rfl⟩
 | .ref k,d,cs,h=>⟨cs,[],by simp,h,rfl⟩
theorem Mh (hT:Dg P tb id ti) (w:World):∃z:Value,(zeroValue id).run P w=.ok z w/\z.cells=ti.ty.zero.toArray:=by
 obtain⟨⟨_,i,z,a,d,e,b,c⟩,_⟩:=hT;exact⟨z,by simp[zeroValue,KF w a,b],c⟩
theorem qX (hT:Dg P tb id ti) {g:Bool} {d:Nat} (h:I4 g d id (some ti)=some (vc,v,obs)) (b:BS obs σ=true) :
  ∃u ρ' w',(Instr.alloc id true (.tuple #[])).run P w=.ok u w'/\QS w O0 σ ρ v obs u ρ' w':=by
 obtain⟨z,e,f⟩:=Mh hT w;have c:(Instr.alloc id true (.tuple #[])).run P w=.ok (.pointer (some ⟨w.heap.size,0,none⟩)) (w.alloc (.cells ti.ty.zero.toArray id)):=by
  simp[Instr.alloc,e,newVar,newRow,f]
 unfold I4 at h;split at h<;>first|(cases h;done)|skip
 all_goals
  rename_i a;cases a;cases h;refine⟨_,_,_,c,QS.box b ?_ ?_⟩
 .simp
 .exact Ye _ _ _
 .simp
 .exact⟨_,[],by simp[Ty.zero],IV _ _,rfl⟩
 .simp
 .exact⟨_,[],by simp[Ty.zero],IV _ _,rfl⟩
 .simp
 .exact⟨_,[],by simp[Ty.zero],IV _ _,rfl⟩
 .simp
 .exact⟨_,[],by simp[Ty.zero],IV _ _,rfl⟩
 .simp
 exact⟨_,[],by simp[Ty.zero],IV _ _,rfl⟩
theorem Lq {V:Vw} {ty:Ty} {x:AV} {v:Value} (j:Bn V x v) (o:CF ty x=true) (hs:ty.cell1=true):v.oneCell'=true:=by
 cases x;case p t d =>
  simp only[CF,Do]at o;subst o;obtain⟨cs,q,rfl⟩:=j;cases ty;case agg t=>simp[Ty.cell1]at hs
  case prod a b=>simp[Ty.cell1]at hs
  case slice e=>obtain⟨a,c,rfl,_⟩:=q;rfl
  case int k=>obtain⟨rfl,h⟩:=q;rfl
  case bool=>have q:cs=_:=q;subst q;rfl
  case str=>obtain⟨rfl,h⟩:=q;rfl
  case ref k =>
   obtain⟨rfl,_⟩:=q;exact QD k _
 case ag l=>cases ty<;>simp[CF]at o<;>simp[Ty.cell1]at hs
 case tup l=>simp[CF]at o
 case raw u =>
  have j:v=u:=j;subst j;simp only[CF,AT]at o;exact o.1
 case sr n e lo hi=>obtain⟨_,_,_,_,_,_,_,s,w,rfl,_⟩:=j;rfl
 case ep n e i r off=>obtain⟨_,g,m,c,_,_,rfl⟩:=j;rfl
 case nin n e i len=>obtain⟨_,_,_,_,_,_,_,_,rfl⟩:=j;rfl
 case pc e d=>obtain⟨_,a,rfl⟩:=j;rfl
 case ip t d=>obtain⟨ad,cs,rfl,_⟩:=j;rfl
 case bp n r off=>obtain⟨_,b,_,rfl⟩:=j;rfl
 case fn f=>have j:v=_:=j;subst j;rfl
 case clo f ns=>obtain⟨rfl,_⟩:=j;exact WF _ _
 case mp n=>obtain⟨_,b,_,rfl⟩:=j;rfl
 case yl n=>obtain⟨_,b,_,rfl⟩:=j;rfl
 case top=>simp[CF]at o
end
end
section
open Go Go.RowKit
section
variable {P:Program} {tb:Tb} {id:TypeId} {ti:TI} {w:World} {O0:Nat->Prop} {σ:St} {ρ:Nat->Value} {vc:Prop} {v:AV} {obs:List (Nat×Obj)}
theorem QR {t:Ty} {w:World} {O:Nat->Prop} {cs:List Value} {d:t.den} (h:Bl w O t cs d):(t.wrap cs).cells=cs.toArray:=by
 cases t;case agg t=>rfl
 case prod a b=>rfl
 case slice e=>obtain⟨a,c,rfl,_⟩:=h;rfl
 case int k=>obtain⟨rfl,_⟩:=h;rfl
 case bool=>have h:cs=_:=h;subst h;rfl
 case str=>obtain⟨rfl,_⟩:=h;rfl
 case ref k =>
  obtain⟨rfl,_⟩:=h;exact QE k d
theorem qY {V:Vw} {x:AV} {v:Value} (j:Bn V x v) (r:HX x=true):Fa V x v.cells.toList/\v.cells.size=x.cells:=by
 have simple:∀ {y:AV},KC V y v->v.oneCell'=true->(∀t d,y≠.p t d)->Fa V y v.cells.toList:=by
  intro y s h hp;have o:v.cells=#[v]:=by cases v<;>first|rfl|simp[Value.oneCell']at h
  rw[o];cases y;case p t d=>exact absurd rfl (hp t d)
  case ag l=>exact(show False from s).elim
  all_goals exact⟨v,rfl,h,s⟩
 have k:v.oneCell'=true->v.cells.size=1:=by
  intro h;have o:v.cells=#[v]:=by cases v<;>first|rfl|simp[Value.oneCell']at h
  rw[o];rfl
 cases x;case p t d =>
  obtain⟨cs,q,rfl⟩:=j;rw[QR q];exact⟨q,by simpa[AV.cells] using q.length⟩
 case raw u =>
  have w:v=u:=j;have h:v.oneCell'=true:=by rw[w];exact r
  exact⟨simple j h (λ_ _=>by simp),k h⟩
 case sr n e lo hi =>
  have h:v.oneCell'=true:=by obtain⟨_,_,_,_,_,_,_,A,B,rfl,_⟩:=j;rfl
  exact⟨simple j h (λ_ _=>by simp),k h⟩
 case ep n e i z off =>
  have h:v.oneCell'=true:=by obtain⟨_,g,m,c,_,_,rfl⟩:=j;rfl
  exact⟨simple j h (λ_ _=>by simp),k h⟩
 case nin n e i len =>
  have h:v.oneCell'=true:=by obtain⟨_,_,_,_,_,_,_,_,rfl⟩:=j;rfl
  exact⟨simple j h (λ_ _=>by simp),k h⟩
 case ip t d =>
  have h:v.oneCell'=true:=by obtain⟨ad,cs,rfl,_⟩:=j;rfl
  exact⟨simple j h (λ_ _=>by simp),k h⟩
 case bp n z off =>
  have h:v.oneCell'=true:=by obtain⟨_,b,_,rfl⟩:=j;rfl
  exact⟨simple j h (λ_ _=>by simp),k h⟩
 case pc e d =>
  have h:v.oneCell'=true:=by obtain⟨_,a,rfl⟩:=j;rfl
  exact⟨simple j h (λ_ _=>by simp),k h⟩
 case clo f ns =>
  have h:v.oneCell'=true:=by obtain⟨rfl,_⟩:=j;exact WF _ _
  exact⟨simple j h (λ_ _=>by simp),k h⟩
 case mp n =>
  have h:v.oneCell'=true:=by obtain⟨_,b,_,rfl⟩:=j;rfl
  exact⟨simple j h (λ_ _=>by simp),k h⟩
 case yl n =>
  have h:v.oneCell'=true:=by obtain⟨_,b,_,rfl⟩:=j;rfl
  exact⟨simple j h (λ_ _=>by simp),k h⟩
 case fn f =>
  have h:v.oneCell'=true:=by have j:v=_:=j;subst j;rfl
  exact⟨simple j h (λ_ _=>by simp),k h⟩
 all_goals simp[HX]at r
theorem A08 (hT:Dg P tb id ti) {d:Nat} {x:AV} {xv:Value} (h:Pe d id (some ti) (some x)=some (vc,v,obs)) (i:Bn (vw w O0 σ ρ) x xv) (j:BS obs σ=true) :
    ∃u ρ' w',(Instr.box id xv).run P w=.ok u w'/\QS w O0 σ ρ v obs u ρ' w':=by
  have g:(Instr.box id xv).run P w=.ok (.pointer (some ⟨w.heap.size,0,none⟩)) (w.alloc (.cells xv.cells id)):=by
    simp[Instr.box,newVar,newRow]
  have simple:∀ty:Ty,CF ty x=true->ty.cell1=true->(∀l,x≠.ag l)->AVCs (vw w O0 σ ρ) [x] xv.cells.toList:=by
    intro ty f t o;obtain⟨s,n⟩:=j0 i f (Lq i f);exact⟨_,[],by simp,n o,rfl⟩
  have r:xv.cells=xv.cells.toList.toArray:=by simp
  rw[r]at g;unfold Pe at h;split at h
  . rename_i u offs el b y m c a
    cases c;cases a;split at h
    . rename_i q
      subst q;cases h;obtain⟨cs,k,rfl⟩:=i;have k:Bl w (own O0 σ ρ) u cs m:=k;refine⟨_,_,_,g,QS.box j sa ?_⟩;simp only[Ty.wrap,Value.cells];exact kB _ _ _ _ k
    cases h
  . rename_i u offs el b l c a
    cases c;cases a;split at h
    . cases h
      obtain⟨cs,rfl,p⟩:=i;refine⟨_,_,_,g,QS.box j sa ?_⟩;simp only[Value.cells];exact p
    cases h
  all_goals first
    | (cases h;done)
    | (rename_i c a
       cases c;injection a with a
       subst a;split at h
       . rename_i f
         cases h;exact⟨_,_,_,g,QS.box j sa (simple _ f rfl (λl e=>by subst e;simp[CF]at f))⟩
       cases h)
theorem WN (off:Nat):∀(a:List Value) (k:Nat) (cells:Array Value),off+k+a.length<=cells.size ->
  ((a.zipIdx k).foldl (λ(cs:Array Value) (p:Value×Nat)=>cs.setIfInBounds (off+p.2) p.1) cells).toList=A2 cells.toList (off+k) a
 | [],k,cells,_=>by simp[A2]
 | v :: a,k,cells,h=>by
  simp only[iF]at h;simp only[List.zipIdx_cons,No];rw[WN off a (k+1) _ (by simp;omega)];simp only[A2,Array.toList_setIfInBounds,iF];apply ABY;intro j;have b:cells.toList.length=cells.size:=by simp
  simp only[oN,AAw,OS,ABk,b,AA3,AAy,AB4,iF];grind
theorem QT {place:Nat->Option (Nat×Nat)} {cells:Array Value} {i off:Nat} {v:Value} {rest:List (Nat×Value)} (hp:place i=some (off,v.cells.size)) (a:off+v.cells.size<=cells.size) :
  Instr.fill place cells ((i,v) :: rest)=Instr.fill place (A2 cells.toList off v.cells.toList).toArray rest:=by
 have b:¬(off+v.cells.size > cells.size):=by omega
 simp only[Instr.fill,hp];rw[As (by simp;omega)]
 congr 1
 have:=WN off v.cells.toList 0 cells (by simpa using a);apply Array.ext';rw[show v.cells.zipIdx.foldl (λcs x=>cs.setIfInBounds (off+x.2) x.1) cells=(v.cells.toList.zipIdx 0).foldl (λcs x=>cs.setIfInBounds (off+x.2) x.1) cells from by
  rw[<-Array.foldl_toList];simp]
 simpa using this
def EI (V:Vw) (σ:St) (ev:Operand->Value):Prop:=∀x v,Ae σ x=some v->Bn V v (ev x)
theorem eJ {V:Vw} (e:∀n o,lk n σ.objs=some o->Av V o (V.ρ n)) {z x:Option AV} {y:AV} {v:Value} (b:∀a,x=some a->Bn V a v) (h:FH σ z x=some y):Bn V y v:=by
 unfold FH at h;split at h
 .rename_i t _ l;simp only[GO]at h;obtain⟨d,c,rfl⟩:=h;exact Hh (V:=V) (O':=V.O) (λ_ h=>h) (λh=>by cases h) e c (b _ rfl)
 exact b _ h
theorem L8 {V:Vw} (g:∀n o,lk n σ.objs=some o->Av V o (V.ρ n)) {ev:Operand->Value} (f:EI V σ ev) {place:Nat->Option (Nat×Nat)} {offs:List (Nat×Nat)} (k:∀i p,offs[i]?=some p->place i=some p) :
  ∀ {parts:List (Nat×Operand)} {fs b:List AV} {cells:Array Value},DV σ offs fs parts=some b->AVCs V fs cells.toList ->
   ∃cells':Array Value,Instr.fill place cells (parts.map λp=>(p.1,ev p.2))=some cells'/\AVCs V b cells'.toList
 | [],fs,b,cells,h,c=>by
  simp only[DV]at h;cases h;exact⟨cells,rfl,c⟩
 | (i,x) :: r,fs,b,cells,h,c=>by
  simp only[DV]at h;cases d:FH σ fs[i]? (Ae σ x) with
  | none=>rw[d]at h;cases h
  | some av =>
   rw[d]at h;simp only at h;split at h
   .rename_i m;obtain⟨q,e,s⟩:=m;have C:=eJ g (λa y=>f x a y) d;obtain⟨t,u⟩:=qY C q;simp only[GO]at e;obtain⟨E,j,z⟩:=e;obtain⟨D,_⟩:=c.get j;have B:=c.set j t z.symm;have l:=k i _ s;rw[<-u]at l;have A:B9 fs i+(ev x).cells.size<=cells.size:=by grind
    obtain⟨cells',v,w⟩:=L8 g f k h (cells:=(A2 cells.toList (B9 fs i) (ev x).cells.toList).toArray) (by simpa using B);refine⟨cells',?_,w⟩;rw[oR,QT l A];exact v
   cases h
theorem WO {α a:Type} (f:α->Sem a) (w:World):∀ {l:List α} {ys:List a},(l.map λx=>(f x).run P w)=ys.map (λy=>Result.ok y w)->(l.mapM f).run P w=.ok ys w
 | [],ys,h=>by simp_all
 | x :: l,ys,h=>by
  cases ys with
  | nil=>simp at h
  | cons y ys =>
   simp only[oR,AAY]at h;obtain⟨b,c⟩:=h;have d:=WO f w c;simp[List.mapM_cons,b,d]
theorem qZ (hT:Dg P tb id ti) (s:∀n o,lk n σ.objs=some o->Av (vw w O0 σ ρ) o (ρ n)) {ev:Operand->Value} (r:EI (vw w O0 σ ρ) σ ev) {d:Bool} {parts:List (Nat×Operand)} (h:H6 d σ parts (some ti)=some (vc,v,obs)) :
  obs=[]/\∃u,(Instr.build id (parts.map λp=>(p.1,ev p.2)).toArray).run P w=.ok u w/\Bn (vw w O0 σ ρ) v u:=by
 obtain⟨z,t,D⟩:=Mh hT w;unfold H6 at h;split at h
 .rename_i u offs el b A;cases A;cases hp:DV σ offs (Pd d u) parts with
  | none=>rw[hp]at h;simp[F4]at h
  | some E =>
   rw[hp]at h;simp only[AB7,F4]at h;cases h;have a:=hT.2;have x:AVCs (vw w O0 σ ρ) (Pd d u) z.cells.toList:=by rw[D];exact Ye _ d u
   simp only at a;rcases a with ⟨fs,_,q,l⟩|⟨n,e,i,_,q,hi,l⟩
   .have m:∀(i:Nat) (p:Nat×Nat),offs[i]?=some p->offs.toArray[i]?=some p:=λi p c=>by simpa using c
    obtain⟨cells',g,j⟩:=L8 s r (place:=λi=>offs.toArray[i]?) m hp x;have C:(fs.mapM (λf=>do pure (f.offset,<-sizeOf f.type)):Sem (Array (Nat×Nat))).run P w=.ok offs.toArray w:=by
     rw[ABI];simp only[Sem.run_map];rw[WO (ys:=offs) _ w ?_]
     .simp
     rw [show (offs.map λy => Result.ok y w) = (offs.map some).map (λo => match o with | some y => Result.ok y w | none => .halt (.stuck "no such type") w) by simp [AB8, Function.comp_def], l, AB8]
     apply ABs;intro f _;simp only[Function.comp,sizeOf,typeInfo];cases hi:P.info? f.type<;>simp[hi]
    refine⟨rfl,.agg cells',?_,cells'.toList,by simp,j⟩;simp only[Instr.build,AAF,t,AAh,On q,C,g,ABm]
   have m:∀(k:Nat) (p:Nat×Nat),offs[k]?=some p->(λk=>some (k*i.size,i.size)) k=some p:=λk p c=>by
    rw[l]at c;simp only[AAr,GO]at c;obtain⟨G,B,rfl⟩:=c;obtain⟨F,a⟩:=ON.1 B;simp only[ACq]at a;subst a;rfl
   obtain⟨cells',g,j⟩:=L8 s r m hp x;refine⟨rfl,.agg cells',?_,cells'.toList,by simp,j⟩;simp[Instr.build,t,On q,sizeOf,KF w hi,g]
 cases h
end
end
section
open Go Go.RowKit
section
variable {P:Program} {tb:Tb} {id:TypeId} {ti:TI} {w:World} {O0:Nat->Prop} {σ:St} {ρ:Nat->Value} {vc:Prop} {v:AV} {obs:List (Nat×Obj)}
theorem Ss {t:Ty} {w:World} {O:Nat->Prop} {v:Value} {d:t.den} (h:BG w O t v d):v.cells.size=t.size/\Bl w O t v.cells.toList d:=by
 obtain⟨cs,a,rfl⟩:=h;rw[QR a];exact⟨by simpa using a.length,a⟩
theorem E3 (w:World) (O:Nat->Prop) (e:Ty) (cells:List Value):DE w O e cells []:=λi x h=>by simp at h
theorem WP {V:Vw} (B:∀n o,lk n σ.objs=some o->Av V o (V.ρ n)) {ev:Operand->Value} (t:EI V σ ev) {e:Ty} {N:Nat} :
  ∀ {parts:List (Nat×Operand)} {k:Nat} {xs pre:List e.den} {cells:Array Value},EW σ e k parts=some xs->cells.size=N*e.size->k+xs.length<=N->pre.length=k ->
   DE V.w V.O e cells.toList pre ->
   ∃cells':Array Value,Instr.fill (λi=>some (i*e.size,e.size)) cells (parts.map λp=>(p.1,ev p.2))=some cells'/\cells'.size=cells.size/\DE V.w V.O e cells'.toList (pre++xs)
 | [],k,xs,pre,cells,h,hs,v,hp,m=>by
  simp only[EW]at h;cases h;exact⟨cells,rfl,rfl,by simpa using m⟩
 | (i,x) :: r,k,xs,pre,cells,h,hs,v,hp,m=>by
  simp only[EW]at h;split at h
  .rename_i F;subst F;cases s:Ae σ x with
   | none=>rw[s]at h;cases h
   | some av =>
    rw[s]at h;simp only at h;split at h
    .rename_i y ys M P;cases h;have L:=Hh (O':=V.O) (λ_ h=>h) (λh=>by cases h) B M (t x av s);obtain⟨f,D⟩:=Ss L;simp only[iF]at v;have d:i*e.size+(ev x).cells.size<=cells.size:=by
      rw[f,hs,<-AAV];exact p8 _ oa
     have C:(A2 cells.toList (i*e.size) (ev x).cells.toList).length=cells.size:=by
      rw[Dp]
      .simp
      simpa using d
     have J:DE V.w V.O e (A2 cells.toList (i*e.size) (ev x).cells.toList) (pre++[y]):=by
      intro j z a;rw[AAw]at a;split at a
      .rename_i G;obtain⟨es,c,g,l⟩:=m j z a;refine⟨es,c,λq u b=>?_,l⟩;have K:q<e.size:=by rw[<-c];exact(ON.1 b).1
       have I:j*e.size+q<i*e.size:=by
        have:(j+1)*e.size<=i*e.size:=p8 _ oa;rw[AAV]at this;omega
       have E:i*e.size<=cells.toList.length:=by
        have:=d;simp;omega
       simp only[A2,oN];rw[AA5 (by rw[OS];omega),AA3,At I];exact g q u b
      rename_i G;have H:j=i:=by
       have:=(ON.1 a).1;simp at this;omega
      subst H;have Q:z=y:=by
       rw[hp,ABy]at a;simpa using a.symm
      subst Q;refine⟨(ev x).cells.toList,by simpa using f,λq u b=>?_,D⟩;have K:q<(ev x).cells.toList.length:=(ON.1 b).1;have E:j*e.size<=cells.toList.length:=by
       have:=d;simp;omega
      have A:(cells.toList.take (j*e.size)).length=j*e.size:=by rw[OS];omega
      simp only[A2,oN];rw[AAq (by rw[A];omega),A,AA5 oa];rw[show j*e.size+q-j*e.size=q by omega];exact b
     obtain⟨cells',c,g,l⟩:=WP (N:=N) B t P (pre:=pre++[y]) (cells:=(A2 cells.toList (i*e.size) (ev x).cells.toList).toArray) (by simp[C,hs]) oa (by simp[hp]) (by simpa using J);refine⟨cells',?_,by rw[g];simp[C],by simpa using l⟩;rw[oR,QT (by rw[f]) d];exact c
    cases h
  cases h
theorem Um {w:World} {et:TypeId} {sz n:Nat} {cells:Array Value} (hs:cells.size=n*sz) (c:n<=AN) :
  (w.alloc (.cells cells et)).ownsRow w.heap.size et sz (.slice (some ⟨w.heap.size,0,none⟩) n n) n cells.toList :=
 ⟨by simpa using hs,.inr ⟨w.heap.size,n,cells,rfl,If _,AC0 w _,If _,by have a:AN=140737488355328:=rfl;have b:maxLen=9223372036854775807:=rfl;omega,hs,By (by simp[hs])⟩⟩
theorem Mi (hT:Dg P tb id ti) (g:DG P tb) (x:∀n o,lk n σ.objs=some o->Av (vw w O0 σ ρ) o (ρ n)) {ev:Operand->Value} (r:EI (vw w O0 σ ρ) σ ev) {d n:Nat} {parts:List (Nat×Operand)}
  (h:Bd false σ d n parts (some ti)=some (vc,v,obs)) (C:vc) (s:BS obs σ=true) :
  ∃u ρ' w',(Instr.buildSlice id n (parts.map λp=>(p.1,ev p.2)).toArray).run P w=.ok u w'/\QS w O0 σ ρ v obs u ρ' w':=by
 unfold Bd at h;split at h
 .rename_i e offs el b q;cases q;obtain⟨k,hs,te,B,rfl⟩:=CA hT g;obtain⟨z,D,F⟩:=Mh (g _ _ B) w;cases hp:EW σ te.ty 0 parts with
  | none=>rw[hp]at h;simp[Bj]at h
  | some xs =>
   rw[hp]at h;simp only[Bj,AAG,AAX]at h;cases h;obtain⟨t,E⟩:=C;subst t;have y:=te.ty.size_pos;obtain⟨cells',a,m,f⟩:=WP (V:=vw w O0 σ ρ) x r hp (N:=xs.length) (pre:=[]) (cells:=(Array.range (xs.length*te.ty.size)).map (λi=>(if xs.length*te.ty.size=0 then (#[]:Array Value) else z.cells)[i % (if xs.length*te.ty.size=0 then (#[]:Array Value) else z.cells).size]!)) sa oa rfl (E3 _ _ _ _);have l:xs.length<=AN:=by
    have:xs.length*1<=xs.length*te.ty.size:=AB2 _ y;simp only[AN];omega
   have A:cells'.size=xs.length*te.ty.size:=by rw[m];simp
   refine⟨_,_,_,?_,QS.arr s (DR w _) (Um (et:=el) A l) l (by rw[AAK]at f;exact f) rfl⟩;have j:¬(xs.length*te.ty.size > 16777216):=by omega
   by_cases c:xs.length*te.ty.size=0
   .simp only[c,AAH]at a;simp[Instr.buildSlice,On k,hs,j,c,newRow];simp at a;simp[a]
   simp only[c,AAX]at a;simp only[Instr.buildSlice,AAF,On k,AAh,hs,As j,As c,D,ABm,a,newRow];rfl
 cases h
theorem xT (hT:Dg P tb id ti) (K:DG P tb) (ai:∀n o,lk n σ.objs=some o->Av (vw w O0 σ ρ) o (ρ n)) {ev:Operand->Value} (ab:EI (vw w O0 σ ρ) σ ev) {d n:Nat} {A:TypeId} {parts:List (Nat×Operand)}
  (h:H8 σ d A n parts (some ti)=some (vc,v,obs)) (F:vc) (D:BS obs σ=true) :
  ∃u ρ' w',(Instr.buildSlice id n (parts.map λp=>(p.1,ev p.2)).toArray).run P w=.ok u w'/\QS w O0 σ ρ v obs u ρ' w':=by
 unfold H8 at h;split at h
 .rename_i x t offs el b Z;cases Z;obtain⟨y,hs,te,al,rfl⟩:=CA hT K;obtain⟨z,an,au⟩:=Mh (K _ _ al) w;cases J:Ae σ x with
  | none=>rw[J]at h;unfold H7 at h;split at h<;>first|(cases h;done)|(rename_i G;cases G)
  | some av =>
   rw[J]at h;unfold H7 at h;split at h
   .rename_i k e S ax am W;cases W;have key:∀(a0:k.den) (c1:List Value) (a:Option Addr),Fa (vw w O0 σ ρ) S c1->EU false σ k S=some a0->ev x=.agg (c1++[Value.slice a 0 0]).toArray->n=1/\k.size+1<=16777216->BS [(d,Obj.nest el A k e [(a0,[])] none)] σ=true ->
      ∃u ρ' w',(Instr.buildSlice id n ([(0,x)].map λp=>(p.1,ev p.2)).toArray).run P w=.ok u w'/\QS w O0 σ ρ (.sr d (.agg (.prod k (.slice e))) 0 1) [(d,.nest el A k e [(a0,[])] none)] u ρ' w':=by
     intro a0 c1 a B q C af D;obtain⟨rfl,aq⟩:=af;have ae:wV (.slice none 0 0) (.slice a 0 0):=.inr ⟨rfl,a,rfl⟩;have E:=aJ (O':=own O0 σ ρ) (λ_ h=>h) (λh=>by cases h) ai q B;have E:Bl w (own O0 σ ρ) k c1 a0:=E;have I:=E.length;have ak:te.ty.size=k.size+1:=by rw[am];rfl
     rw[ak]at hs;have L:(ev x).cells.toList=c1++[Value.slice a 0 0]:=by rw[C];simp[Value.cells]
     have aj:Instr.fill (λi=>some (i*(k.size+1),k.size+1)) ((Array.range (1*(k.size+1))).map (λi=>z.cells[i % z.cells.size]!)) [(0,ev x)]=some (c1++[Value.slice a 0 0]).toArray:=by
      have M:(ev x).cells.size=k.size+1:=by rw[<-AAL,L];simp[I]
      rw[QT (by rw[M]) (by rw[M];simp)];rw[L];simp only[Instr.fill,ACo,A2,AB6,AAK,AAO];rw[List.drop_of_length_le (by simp[I]),AAb]
     generalize R:(Value.tuple #[Value.slice (some ⟨w.heap.size,0,none⟩) 1 1,.slice none 0 0])=loc;have ag:∀b,bk loc b->w.heap.size<=b:=by grind [A8,blk]
     have s:=Um (w:=w) (et:=el) (sz:=k.size+1) (n:=1) (cells:=(c1++[Value.slice a 0 0]).toArray) (by simp[I]) (by simp[AN]);have s:(w.alloc (.cells (c1++[Value.slice a 0 0]).toArray el)).ownsRow 0 el (k.size+1) (.slice (some ⟨w.heap.size,0,none⟩) 1 1) 1 (c1++[Value.slice a 0 0]):=⟨s.1,s.2.imp (λh=>h) λ⟨g,cap,U,e,_,r⟩=>⟨g,cap,U,e,BY _,r⟩⟩;have Q:=JD (O0:=O0) (ρ:=ρ) (ρ':=DQ ρ d loc) D (DR w (.cells (c1++[Value.slice a 0 0]).toArray el)) (λm f=>by
      simp only[lk]at f;split at f
      .cases f
      .rename_i e;simp[DQ,e]) (λm o b f X=>by
      simp only[lk]at f;split at f
      .grind [BV]
      cases f)
     refine⟨.slice (some ⟨w.heap.size,0,none⟩) 1 1,DQ ρ d loc,w.alloc (.cells (c1++[Value.slice a 0 0]).toArray el),?_,QS.one (DR w _) ag ?_ ?_⟩
     .have ah:¬(1*(k.size+1) > 16777216):=by omega
      have V:¬(1*(k.size+1)=0):=by omega
      simp only[Instr.buildSlice,AAF,On y,AAh,hs,As ah,As V,an,ABm,oR,ACK,aj,newRow];rfl
     .refine⟨⟨.nest el A k e [(a0,[])] none,by simp[Du,lk]⟩,?_⟩;show CV (plc (DQ ρ d loc d)) _ 0 1 _;rw[BV,<-R];exact Fe s
     refine⟨_,[.slice none 0 0],c1++[Value.slice a 0 0],.inl R.symm,by simp[AN],rfl,s,λi aw u hi y=>?_,λi j b u v hi N y ar=>?_,λi b u hi X _=>?_⟩
     .rcases i with _|i
      .simp only[ABt,AAU]at hi y;subst hi y;refine⟨c1,.slice a 0 0,λj z N=>by simpa using N,E.mono Q.O Q.heap,.inr ⟨rfl,ae,by simp[AN],[],AB5 _ 0 A _,E3 _ _ _ _⟩⟩
      simp at hi
     .grind
     grind [blk]
    unfold I5 at h;obtain⟨cs,C,Y⟩:=ab x _ J;obtain⟨c1,c2,rfl,B,G⟩:=Y;obtain⟨ao,T,rfl,c,H⟩:=G;have H:T=[]:=H;subst H;split at h
    .rename_i a0 q;cases h;obtain⟨v3,rfl,_,c⟩:=c;have c:v3=.slice none 0 0:=c;subst c;exact key a0 c1 none B q (by rw[C];simp) F D
    .rename_i a0 ap l q;split at h
     .rename_i aa;subst aa;cases h;obtain⟨v3,rfl,_,_,a,c⟩:=c;obtain⟨F,ad⟩:=F;rw[ad]at c;subst c;exact key a0 c1 a B q (by rw[C];simp) F D
     cases h
    cases h
   cases h
 cases h
theorem Sa (z:List Value) (h:0<z.length) (n:Nat) {i j:Nat} (c:j<z.length) (hi:i*z.length+j<n) {u:Value} (g:z[j]?=some u) :
  (madeCells z.toArray n)[i*z.length+j]?=some u:=by
 simp only[madeCells,Array.getElem?_map,AAD];have f:(Array.range n)[i*z.length+j]?=some (i*z.length+j):=by grind
 rw[f];have e:(i*z.length+j) % z.length=j:=by
  rw[Nat.mul_comm,Nat.mul_add_mod];exact Nat.mod_eq_of_lt c
 simp only[AB7,e];have d:=(ON.1 g);obtain⟨a,b⟩:=d;simp[a,b]
theorem q6 (hT:Dg P tb id ti) (f:DG P tb) {e:Ty} {offs:List (Nat×Nat)} {el:TypeId} {b:Nat} (B:ti=⟨.slice e,offs,el,b⟩) {te:TI} (l:lk el tb.ty=some te) {n:Int} {d:Nat}
  (o:0<=n) (I:n.toNat*te.bytes<=AN) (s:BS [(d,.arr el e (List.replicate n.toNat e.dflt))] σ=true) :
  ∃u ρ' w',(Instr.makeSlice id (.int .i64 n) (.int .i64 n)).run P w=.ok u w'/\QS w O0 σ ρ (.sr d e 0 n.toNat) [(d,.arr el e (List.replicate n.toNat e.dflt))] u ρ' w':=by
 subst B;obtain⟨C,hs,K,m,rfl⟩:=CA hT f;rw[l]at m;cases m;obtain⟨⟨⟨_,r,_⟩,i,z,hi,k,H,F,G⟩,_⟩:=f _ _ l;have J:=te.ty.size_pos;have a:n.toNat<=AN:=by
  have:n.toNat*1<=n.toNat*te.bytes:=AB2 _ r;omega
 have p:(i.bytes:Int)*n<=281474976710656:=by grind [AN]
 have A:=run_make (P:=P) w id el i z C hi F .i64 .i64 n n o (ACN _) p (by simp only[AN]at a;omega);have c:te.ty.zero.length=te.ty.size:=(Bl.zero w (λ_=>False) te.ty).length;refine⟨_,_,_,A,QS.arr s (DR w _) (Um (et:=el) (sz:=te.ty.size) (n:=n.toNat) (cells:=madeCells z.cells (n.toNat*i.size)) (by rw[size_madeCells,k]) a |> λh=>by simpa using h) (by simpa using a) ?_ sa⟩;intro j x D;have t:=(ON.1 D).1;simp only[AC3]at t;have E:x=te.ty.dflt:=by grind
 subst E;refine⟨te.ty.zero,c,λq u g=>?_,Bl.zero _ _ _⟩;have y:=(ON.1 g).1;have v:j*te.ty.zero.length+q<n.toNat*i.size:=by
  rw[k,c];have:(j+1)*te.ty.size<=n.toNat*te.ty.size:=p8 _ oa;rw[AAV]at this;omega
 have:=Sa te.ty.zero oa (n.toNat*i.size) y v g;rw[c]at this;rw[G];simpa using this
theorem xU (hT:Dg P tb id ti) (j:DG P tb) {d:Nat} {x y:AV} {xv f:Value} (h:Hc tb d (some ti) (some x) (some y)=some (vc,v,obs)) (q:vc)
  (r:Bn (vw w O0 σ ρ) x xv) (s:Bn (vw w O0 σ ρ) y f) (p:BS obs σ=true) :
  ∃u ρ' w',(Instr.makeSlice id xv f).run P w=.ok u w'/\QS w O0 σ ρ v obs u ρ' w':=by
 unfold Hc at h;split at h
 .rename_i e offs el b n m k l o;cases k;cases l;cases o;cases c:lk el tb.ty with
  | none=>rw[c]at h;simp[J6]at h
  | some te =>
   rw[c]at h;simp only[J6]at h;cases h;obtain⟨rfl,_⟩:=A3 r;obtain⟨rfl,_⟩:=A3 s;obtain⟨a,g,i⟩:=q;have a:n=m:=a;subst a;exact q6 hT j rfl c g i p
 cases h
end
end
section
open Go Go.RowKit
theorem Su {w:World} {O:Nat->Prop} {e:Ty}:∀ {l:List e.den} {ad:Addr},
  (∀(i:Nat) (x:e.den),l[i]?=some x->∃es:List Value,es.length=e.size/\(∀(j:Nat) (v:Value),es[j]?=some v->w.cell? (ad.add (i*e.size+j))=some v)/\Bl w O e es x) ->
  ∃b:List Value,b.length=l.length*e.size/\DE w O e b l/\(∀u∈b,u.oneCell'=true)/\(∀(j:Nat) (u:Value),b[j]?=some u->w.cell? (ad.add j)=some u)
 | [],ad,h=>⟨[],by simp,E3 _ _ _ _,by simp,by simp⟩
 | x :: l,ad,h=>by
  obtain⟨es,d,q,m⟩:=h 0 x rfl;obtain⟨b,n,o,p,r⟩:=Su (w:=w) (O:=O) (e:=e) (l:=l) (ad:=ad.add e.size) (λi y hi=>by
   obtain⟨f,g1,g,k⟩:=h (i+1) y (by simpa using hi);refine⟨f,g1,λj v a=>?_,k⟩;rw[C8,show e.size+(i*e.size+j)=(i+1)*e.size+j by rw[AAV];omega];exact g j v a)
  refine⟨es++b,by simp[d,n,AAV];omega,λi y hi=>?_,λu c=>?_,λj u a=>?_⟩
  .cases i with
   | zero =>
    simp at hi;subst hi;refine⟨es,d,λj u a=>?_,m⟩;rw[ACo,AAO,AA5 (ON.1 a).1];exact a
   | succ i =>
    obtain⟨f,g1,g,k⟩:=o i y (by simpa using hi);refine⟨f,g1,λj u a=>?_,k⟩;rw[AAq (by rw[d,AAV];omega),d,show (i+1)*e.size+j-e.size=i*e.size+j by rw[AAV];omega];exact g j u a
  .rcases aT.1 c with c|c
   .exact m.one u c
   exact p u c
  grind [C8]
section
variable {P:Program} {tb:Tb} {id:TypeId} {ti:TI} {w:World} {O0:Nat->Prop} {σ:St} {ρ:Nat->Value} {vc:Prop} {v:AV} {obs:List (Nat×Obj)}
structure qB (w:World) (O:Nat->Prop) (e:Ty) (xv:Value) (ys:List e.den) (news:List Value):Prop where
 form:∃(a:Option Addr) (c:Nat),xv=.slice a ys.length c/\(ys=[]\/∃ad,a=some ad/\∀(j:Nat) (u:Value),news[j]?=some u->w.cell? (ad.add j)=some u)
 len:news.length=ys.length*e.size
 elems:DE w O e news ys
 one:∀u∈news,u.oneCell'=true
 max:ys.length<=AN
theorem Mj (w:World) (O:Nat->Prop) (e:Ty) (a:Option Addr) (c:Nat):qB w O e (.slice a 0 c) [] [] :=
 ⟨⟨a,c,rfl,.inl rfl⟩,by simp,E3 _ _ _ _,by simp,by simp[AN]⟩
theorem Sv {V:Vw} {et:TypeId} {e:Ty} {xs:List e.den} {loc:Value} {cells:List Value} (k:V.w.ownsRow 0 et e.size loc xs.length cells) (g:DE V.w V.O e cells xs):∀u∈cells,u.oneCell'=true:=by
 intro u l;obtain⟨j,h,i⟩:=AAN.1 l;have m:=k.1;have b:=e.size_pos;have hi:j / e.size<xs.length:=by
  rw[Nat.div_lt_iff_lt_mul b];omega
 obtain⟨es,c,d,f⟩:=g (j / e.size) (xs[j / e.size]) (DO hi);have a:j % e.size<es.length:=by rw[c];exact ACz _ b
 have:=d (j % e.size) (es[j % e.size]) (DO a);rw[show j / e.size*e.size+j % e.size=j by rw[Nat.mul_comm];exact Nat.div_add_mod j e.size]at this;rw[DO h]at this;injection this with this
 rw[<-i,this];exact f.one _ (ACc a)
def noN (σ:St):AV->Bool
 | .sr n _ _ _=>Ci (lk n σ.objs)
 | _=>false
theorem aL {w:World} {O:Nat->Prop} {et:TypeId} {b:Ty} {xs:List b.den} {loc xv:Value} {cells:List Value} {lo hi:Nat} (Q:xs.length<=AN) (f:w.ownsRow 0 et b.size loc xs.length cells) (n:DE w O b cells xs) (F:CV loc b.size lo hi xv) :
  ∃H,qB w O b xv (sub xs lo hi) H:=by
 have T:=Sv (V:=⟨w,O,λ_=>False,λ_=>undef⟩) f n;obtain⟨a,m,c,q,N,o,k,l,rfl,J,I,y⟩:=F;have D:m=xs.length:=by
  rcases f.2 with ⟨d,E⟩|⟨g,cap,s,d,_⟩
  .grind
  rw[q]at d;injection d
 subst D;have e:=L5 xs (lo:=lo) o;by_cases B:lo<hi
 .rcases f.2 with ⟨d,E⟩|⟨g,cap,s,d,r⟩
  .omega
  have K:=World.ownsRow.cells f (g:=g) (by rw[d];rfl);have z:a=some ⟨g,0,none⟩:=by rw[q]at d;injection d
  subst z;have L:=f.1;have R:hi*b.size<=xs.length*b.size:=p8 _ o;have S:lo*b.size<=hi*b.size:=p8 _ oa;refine⟨(cells.drop (lo*b.size)).take ((hi-lo)*b.size),⟨k,l,by rw[e],.inr ⟨_,y B,λj u h=>?_⟩⟩,?_,?_,?_,?_⟩
  .grind [C8]
  .rw[e,OS,AAM,Nat.sub_mul];omega
  .intro i x A;obtain⟨G,P⟩:=Ue xs lo hi i A;obtain⟨es,g1,t,v⟩:=n (lo+i) x G;refine⟨es,g1,λj u h=>?_,v⟩;have M:=(ON.1 h).1;have C:i*b.size+j<(hi-lo)*b.size:=by
    have:(i+1)*b.size<=(hi-lo)*b.size:=p8 _ oa;rw[AAV]at this;omega
   rw[AA3,At C,AAy];have:=t j u h
   rwa [ACM,ACE]at this
  .grind
  rw[e];omega
 have p:sub xs lo hi=[]:=dO (by rw[e];omega);refine⟨[],⟨k,l,by rw[e],.inl p⟩,by rw[e,show hi-lo=0 by omega];simp,?_,by simp,by rw[e];omega⟩;rw[p];exact E3 _ _ _ _
theorem Un (q:∀n o,lk n σ.objs=some o->Av (vw w O0 σ ρ) o (ρ n)) {e:Ty} {x:AV} {xv:Value} {ys:List e.den} (h:IQ true σ (.slice e) x=some ys) (H:noN σ x=false) (s:Bn (vw w O0 σ ρ) x xv) :
  ∃C,qB w (own O0 σ ρ) e xv ys C:=by
 replace h:EU true σ (.slice e) x=some ys:=by
  unfold IQ at h;exact h
 cases x;case p u K =>
  have h:BR (.slice e) ⟨u,K⟩=some ys:=by simpa only[EU] using h
  have:=BH h;injection this with D E
  subst D;cases E;obtain⟨cs,⟨a,c,rfl,m,P,y⟩,rfl⟩:=s;by_cases b:ys=[]
  .subst b;exact⟨[],Mj _ _ _ _ _⟩
  rcases y with y|⟨ad,rfl,Y,g⟩
  .exact absurd y b
  obtain⟨C,g1,f,N,O⟩:=Su g;exact⟨C,⟨some ad,c,rfl,.inr ⟨ad,rfl,O⟩⟩,g1,f,N,P⟩
 case sr n M lo hi =>
  simp only[EU]at h;split at h
  .rename_i A;obtain⟨_,rfl⟩:=A;obtain⟨Q,d⟩:=s;cases b:lk n σ.objs with
   | none=>rw[b]at h;simp[Lk]at h
   | some o =>
    rw[b]at h;cases o with
    | box et ak fs=>simp[Lk]at h
    | mapo k v l=>simp[Lk]at h
    | frame al fs=>simp[Lk]at h
    | loop L=>simp[Lk]at h
    | itr ae ah af ag ab=>simp[Lk]at h
    | dfr=>simp[Lk]at h
    | sit ai aj=>simp[Lk]at h
    | gen G=>simp[Lk]at h
    | nest et X k t xs F=>rw[noN,b]at H;cases H
    | arr et t xs =>
     simp only[Lk]at h;obtain⟨g1,f⟩:=Bz h;subst g1;cases f;have d:CV (plc (ρ n)) t.size lo hi xv:=d;rw[Pp (q n _ b)]at d;obtain⟨B,cells,j,g⟩:=q n _ b;exact aL B j g d
  cases h
 case nin n M i len =>
  simp only[EU]at h;split at h
  .rename_i A;obtain⟨_,rfl⟩:=A;obtain⟨Q,an,a,c,J,I,r,T,Z⟩:=s;cases b:lk n σ.objs with
   | none=>rw[b]at h;simp[Np]at h
   | some o =>
    rw[b]at h;unfold Np at h;split at h
    .rename_i et X k t xs V;cases V;obtain⟨g1,f⟩:=Bz h;subst g1;cases f;have S:=Uh (z:=(k.dflt,[])) (q n _ b) I r;obtain⟨o,ins,cells,F,R⟩:=q n _ b;obtain rfl:=F.tup I;have r:ins[i]?=some J:=by simpa using r
     obtain⟨c1,am,D,E,m⟩:=R.row i _ J S r;rcases m with ⟨m,_⟩|⟨_,_,B,aa,j,g⟩
     .cases m
     rcases T with rfl|⟨rfl,a0,rfl⟩
     .have:=aL B j g (Fe j)
      rwa [HW]at this
     have U:=Gc j;have W:(xs.getD i (k.dflt,[])).2=[]:=dO U.symm;rw[W];exact⟨[],Mj _ _ _ _ _⟩
    cases h
  cases h
 case raw u =>
  have d:xv=u:=s;subst d;cases xv with
  | slice a n c =>
   cases a with
   | some a=>simp[EU]at h
   | none =>
    cases n with
    | succ n=>simp[EU]at h
    | zero =>
     cases c with
     | succ c=>simp[EU]at h
     | zero =>
      simp only[EU]at h;cases h;exact⟨[],Mj _ _ _ _ _⟩
  | _=>simp[EU]at h
 all_goals simp[EU]at h
theorem Mk (a:∀n o,lk n σ.objs=some o->Av (vw w O0 σ ρ) o (ρ n)) {e:Ty} {x:AV} {xv:Value} {ys:List e.den} (h:K5 σ e x=some ys) (b:Bn (vw w O0 σ ρ) x xv) :
  ∃f,qB w (own O0 σ ρ) e xv ys f:=by
 unfold K5 at h;split at h
 .split at h
  .cases h
  rename_i c;exact Un a h (by simpa[noN] using c) b
 rename_i d;refine Un a h ?_ b;cases x<;>first|rfl|exact absurd rfl (d _ _ _ _)
theorem Ow {el:TypeId} (a:P.underlying id=some (.slice el)) {sz:Nat} (hs:(sizeOf el).run P w=.ok sz w) {base et ty:Nat} {s:Value} {n:Nat} {xs:List Value} (d:w.ownsRow base et sz s n xs) (c:Nat) :
  (Builtin.append_ #[id,id] ty #[s,.slice none 0 c]).run P w=.ok s w:=by
 rcases d.2 with ⟨rfl,rfl⟩|⟨g,cap,e,rfl,_,_,b,_⟩
 .simp[Builtin.append_,On a,hs,Builtin.lenOf,Builtin.firstCells]
 simp[Builtin.append_,On a,hs,Builtin.lenOf,Builtin.firstCells,b,storeCells]
theorem EA (m:DG P tb) {el:TypeId} {e:Ty} (l:P.underlying id=some (.slice el)) {te:TI} (t:lk el tb.ty=some te) (C:te.ty=e) {base ty:Nat} {s xv:Value} {n:Nat} {xs j:List Value}
    (h:w.ownsRow base el e.size s n xs) {O:Nat->Prop} {ys:List e.den} (F:qB w O e xv ys j) (u:(n+ys.length)*te.bytes<=AN) (o:base<=w.heap.size) :
    ∃b w',(Builtin.append_ #[id,id] ty #[s,xv]).run P w=.ok b w'/\w'.ownsRow base el e.size b (n+ys.length) (xs++j)/\w.grownBy w' s.ownBlock/\n+ys.length<=AN:=by
  subst C;obtain⟨⟨⟨_,A,_⟩,i,z,hi,r,p,v,x⟩,_⟩:=m _ _ t;have g:n+ys.length<=AN:=by
    have:(n+ys.length)*1<=(n+ys.length)*te.bytes:=AB2 _ A;omega
  obtain⟨⟨a,c,rfl,y⟩,q,G,E,H⟩:=F;have hs:(sizeOf el).run P w=.ok te.ty.size w:=G6 w (m _ _ t);rcases y with rfl|⟨ad,rfl,B⟩
  . have D:j=[]:=dO (by simpa using q)
    subst D;cases a with
    | none =>
      refine⟨s,w,Ow l hs h c,by simpa using h,⟨rfl,rfl,rfl,If _,λ_ _ _=>rfl⟩,g⟩
    | some ad =>
      obtain⟨b,w',d,f,k,_⟩:=run_append_own (P:=P) w base id ty el i z te.ty.size te.bytes l hi v r p (by rw[x];simpa using (Bl.zero w (λ_=>False) te.ty).length) te.ty.size_pos s n xs h ad 0 c [] sa sa sa
        (by have d:AN=140737488355328:=rfl;have f:maxLen=9223372036854775807:=rfl;simp at g;omega) (by simpa[AN] using u) o
      exact⟨b,w',d,by simpa using f,k,g⟩
  obtain ⟨b, w', d, f, k, _⟩ := run_append_own (P := P) w base id ty el i z te.ty.size te.bytes l hi v r p (by rw [x]; simpa using (Bl.zero w (λ_ => False) te.ty).length) te.ty.size_pos s n xs h ad ys.length c j q B E
      (by have d:AN=140737488355328:=rfl;have f:maxLen=9223372036854775807:=rfl;omega) (by simpa[AN] using u) o
  exact⟨b,w',d,f,k,g⟩
theorem Gd {w:World} {O:Nat->Prop} {e:Ty} {c1 c2:List Value} {xs ys:List e.den} (c:DE w O e c1 xs) (d:DE w O e c2 ys) (g:c1.length=xs.length*e.size):DE w O e (c1++c2) (xs++ys):=by
 intro i x hi;rw[AAw]at hi;split at hi
 .obtain⟨es,g1,a,b⟩:=c i x hi;grind
 rename_i h;obtain⟨es,g1,a,b⟩:=d _ x hi;refine⟨es,g1,λj u f=>?_,b⟩;have k:xs.length*e.size<=i*e.size:=p8 _ oa;rw[AAq oa,g];have:=a j u f;rw[Nat.sub_mul]at this;rw[<-this]
 congr 1
 omega
theorem KG (m:DG P tb) {el:TypeId} {e:Ty} (p:P.underlying id=some (.slice el)) {te:TI} (o:lk el tb.ty=some te) (C:te.ty=e) {ty:Nat} {xv:Value} {O:Nat->Prop} {xs:List e.den} {a:Option Addr} {c:List Value}
  (hs:qB w O e (.slice a xs.length xs.length) xs c) {ys:List e.den} {d:List Value} (n:qB w O e xv ys d) (v:0<ys.length) (q:(xs.length+ys.length)*te.bytes<=AN) :
  ∃b w',(Builtin.append_ #[id,id] ty #[.slice a xs.length xs.length,xv]).run P w=.ok b w'/\w'.ownsRow w.heap.size el e.size b (xs.length+ys.length) (c++d)/\w.grownBy w' none:=by
 subst C;have r:∀ad:Addr,a=some ad->(∀(j:Nat) (u:Value),c[j]?=some u->w.cell? (ad.add j)=some u)->∃b w',(Builtin.append_ #[id,id] ty #[.slice a xs.length xs.length,xv]).run P w=.ok b w'/\w'.ownsRow w.heap.size el te.ty.size b (xs.length+ys.length) (c++d)/\w.grownBy w' none:=by
  intro ad f H;subst f;obtain⟨⟨⟨_,y,_⟩,i,z,hi,I,A,J,K⟩,_⟩:=m _ _ o;obtain⟨⟨M,c2,rfl,g⟩,E,S,X,U⟩:=n;have W:xs.length+ys.length<=AN:=by
   have:(xs.length+ys.length)*1<=(xs.length+ys.length)*te.bytes:=AB2 _ y;omega
  rcases g with rfl|⟨s,rfl,h⟩
  .simp at v
  exact run_append_arg_grows (P:=P) w id ty el i z te.ty.size te.bytes p hi J I A (by rw[K];simpa using (Bl.zero w (λ_=>False) te.ty).length) te.ty.size_pos ad xs.length xs.length c hs.len H s ys.length c2 d E h oa
   (by have k:AN=140737488355328:=rfl;have l:maxLen=9223372036854775807:=rfl;omega) (by simpa[AN] using q)
 obtain⟨⟨L,c1,B,g⟩,F,T,Y,V⟩:=hs;injection B with t N Q
 subst t;rcases g with rfl|⟨ad,f,h⟩
 .have G:c=[]:=dO (by simpa using F);subst G;cases a with
  | some ad=>exact r ad rfl λj u D=>by simp at D
  | none =>
   obtain⟨b,w',k,l,x,R⟩:=EA (ty:=ty) m p o rfl (AB5 w w.heap.size el te.ty.size) n (by simpa using q) (If _);exact⟨b,w',k,by simpa using l,x⟩
 exact r ad f h
theorem Ox {w w':World} (h:w.grownBy w' none):Below w.heap.size w w':=⟨h.os,h.tape,h.output,h.size,λk a=>h.block k a sa⟩
theorem kC (a:DG P tb) (F:∀n o,lk n σ.objs=some o->Av (vw w O0 σ ρ) o (ρ n)) {d:Nat} {t u:TypeId} {x y:AV} {xv M:Value} {ty:TypeId}
  (h:DI tb σ d t u (some x) (some y)=some (vc,v,obs)) (m:vc) (q:Bn (vw w O0 σ ρ) x xv) (K:Bn (vw w O0 σ ρ) y M) (J:BS obs σ=true) :
  ∃z ρ' w',(Builtin.append_ #[t,u] ty #[xv,M]).run P w=.ok z w'/\QS w O0 σ ρ v obs z ρ' w':=by
 unfold DI at h;split at h
 .rename_i D E;cases D;cases E;have q:xv=_:=q;subst q;split at h
  .rename_i H;subst H;cases c:lk t tb.ty with
   | none=>rw[c]at h;simp[D4]at h
   | some ti =>
    rw[c]at h;unfold D4 at h;split at h
    .rename_i e offs el b C;cases C;obtain⟨I,hs,te,i,k⟩:=CA (a _ _ c) a;rw[i]at h;cases f:K5 σ e y with
     | none=>rw[f]at h;simp[EZ]at h
     | some ys =>
      rw[f]at h;simp only[EZ]at h;cases h;obtain⟨L,g⟩:=Mk F f K;obtain⟨r,w',A,j,B,S⟩:=EA (ty:=ty) a I i k (AB5 w w.heap.size el e.size) g (by simpa using m) (If _);have j:w'.ownsRow w.heap.size el e.size r ys.length L:=by simpa using j
      exact⟨r,_,w',A,QS.arr J (Ox B) j g.max g.elems rfl⟩
    cases h
  cases h
 .rename_i e l v1 D E;cases D;cases E;split at h
  .rename_i H;subst H;obtain⟨Q,a0,rfl⟩:=q;cases c:lk t tb.ty with
   | none=>rw[c]at h;simp[H9]at h
   | some ti =>
    rw[c]at h;unfold H9 at h;split at h
    .rename_i s offs el b C;cases C;split at h
     .rename_i k;subst k;obtain⟨I,hs,te,i,k⟩:=CA (a _ _ c) a;rw[i]at h;cases f:K5 σ s y with
      | none=>rw[f]at h;simp[I7]at h
      | some ys =>
       rw[f]at h;simp only[I7]at h;cases h;obtain⟨R,m⟩:=m;obtain⟨L,g⟩:=Mk F f K;obtain⟨T,G⟩:=Un (e:=s) (ys:=l) (x:=.p (.slice s) l) F (by simp[IQ,EU,E0]) rfl Q;obtain⟨r,w',A,j,B⟩:=KG (ty:=ty) a I i k G g R m;have O:(l++ys).length<=AN:=by
        obtain⟨⟨⟨_,N,_⟩,_⟩,_⟩:=a _ _ i;have:(l.length+ys.length)*1<=(l.length+ys.length)*te.bytes:=AB2 _ N;rw[YT];omega
       exact⟨r,_,w',A,QS.arr J (Ox B) (by rw[YT];exact j) O (Gd G.elems g.elems G.len) (by rw[YT])⟩
     cases h
    cases h
  cases h
 cases h
end
end
section
open Go Go.RowKit
def Jp:Ty->Option TypeDesc
 | .int k=>some (.int k)
 | .bool=>some .bool
 | .str=>some .string
 | .prod _ _=>none
 | .agg _=>none
 | .slice _=>none
 | .ref _=>none
section
variable {w:World} {O:Nat->Prop}
theorem Ff {a:Ty} {d:TypeDesc} (b:Jp a=some d) {k:a.den} {c:Value} (h:BG w O a c k):MapKept.IsKey d c:=by
 cases a<;>simp only[Jp]at b<;>try(cases b;done)
 all_goals cases b
 .obtain⟨rfl,_⟩:=A3 h;trivial
 .have:=Dq h;subst this;trivial
 obtain⟨rfl,_⟩:=Ed h;trivial
theorem WQ {a:Ty} {d:TypeDesc} (c:Jp a=some d) {k e:a.den} {f g:Value} (h:BG w O a f k) (b:BG w O a g e):Instr.sameNow d f g=some (L2 a k e):=by
 cases a<;>simp only[Jp]at c<;>try(cases c;done)
 all_goals cases c
 .obtain⟨rfl,_⟩:=A3 h;obtain⟨rfl,_⟩:=A3 b;simp[Instr.sameNow,L2]
 .have:=Dq h;subst this;have:=Dq b;subst this;simp[Instr.sameNow,L2]
 obtain⟨rfl,_⟩:=Ed h;obtain⟨rfl,_⟩:=Ed b;simp[Instr.sameNow,L2]
theorem xV {a:Ty} {d:TypeDesc} (b:Jp a=some d) {k e:a.den} {f g:Value} (h:BG w O a f k) (c:BG w O a g e) (m:L2 a k e=true):g=f:=by
 have i:=WQ b h c;obtain⟨r,j,l⟩:=MapKept.sameNow_of_keys (Ff b h) (Ff b c);grind
def Hk (a vt:Ty) (k:a.den):List MapEntry->List (a.den×vt.den)->Nat->Option (Nat×Value)
 | e :: es,x :: l,i=>if L2 a k x.1=true then some (i,e.val) else Hk a vt k es l (i+1)
 | _,_,_=>none
end
structure Uo (P:Program) (kid:TypeId) (kt:Ty):Prop where
 check:∀ {w:World} {O:Nat->Prop} {kv:Value} {k:kt.den} (em:Bool),BG w O kt kv k->(Instr.checkKey em 10000 kid kv).run P w=.ok () w
 find:∀ {w:World} {O:Nat->Prop} {vt:Ty} {es:List MapEntry} {l:List (kt.den×vt.den)} {kv:Value} {k:kt.den},BG w O kt kv k->Jy w O kt vt es l->(Instr.findKey kid kv es).run P w=.ok (Hk kt vt k es l 0) w
 stays:∀ {w:World} {O:Nat->Prop} {kv:Value} {k:kt.den},BG w O kt kv k->(Instr.keyThatStays kv kv).run P w=.ok kv w
 same:∀ {w:World} {O:Nat->Prop} {kv kv':Value} {k k':kt.den},BG w O kt kv k->BG w O kt kv' k'->L2 kt k k'=true->kv'=kv
theorem Nx {w:World} {O:Nat->Prop} {a vt:Ty} {d:TypeDesc} (c:Jp a=some d) {k:a.den} {g:Value} (f:BG w O a g k):∀ {es:List MapEntry} {l:List (a.den×vt.den)},Jy w O a vt es l->∀i,Instr.findNow d g es i=some (Hk a vt k es l i)
 | [],[],_,i=>rfl
 | [],_ :: _,h,_=>h.elim
 | _ :: _,[],h,_=>h.elim
 | e :: es,x :: l,⟨j,o,m⟩,i=>by
  have hs:=WQ c f j;have n:=Nx c f m (i+1);cases b:L2 a k x.1<;>rw[b]at hs<;>simp[Instr.findNow,Hk,hs,b,n]
theorem Dr {P:Program} {kid:TypeId} {kt:Ty} {d:TypeDesc} (hd:Jp kt=some d) (hu:P.underlying kid=some d):Uo P kid kt where
 check:=λem h=>ACi hu (Ff hd h) em 9999
 find:=λhk he=>MapKept.run_findKey hu (Nx hd hk he 0)
 stays:=λh=>MapKept.run_keyThatStays (Ff hd h)
 same:=λh h' he=>xV hd h h' he
theorem Gp {w:World} {O:Nat->Prop} {a b:IntKind} {v:Value} {d:(Ty.agg (.prod (.int a) (.int b))).den} (h:BG w O (.agg (.prod (.int a) (.int b))) v d):v=.agg #[.int a d.1,.int b d.2]:=by
 obtain⟨cs,⟨c1,c2,rfl,⟨rfl,_⟩,⟨rfl,_⟩⟩,rfl⟩:=h;rfl
theorem Oy {P:Program} {w:World} {t:TypeId} {a:IntKind} (h:P.underlying t=some (.int a)) (d:Nat) (x y:Int):(Op.equalIn (d+1) t (.int a x) (.int a y)).run P w=.ok (x==y) w:=by simp[Op.equalIn,On h]
theorem Ml {P:Program} {w:World} {t:TypeId} {a:IntKind} (h:P.underlying t=some (.int a)) (em:Bool) (d:Nat) (x:Int):(Instr.checkKey em (d+1) t (.int a x)).run P w=.ok () w:=by simp[Instr.checkKey,On h]
theorem Sb {P:Program} {w:World} {h:TypeId} {a b:IntKind} (hp:Me P h a b) (em:Bool) (d:Nat) (x y:Int):(Instr.checkKey em (d+2) h (.agg #[.int a x,.int b y])).run P w=.ok () w:=by
 obtain⟨c,e,q,⟨i,k⟩,⟨m,n⟩,⟨f,g⟩,z⟩:=hp;have j : c.name ≠ "_" := by simpa using i
 have l : e.name ≠ "_" := by simpa using k
 have o:P.plainKey c.type=true:=by simp[Program.plainKey,f]
 have p:P.plainKey e.type=true:=by simp[Program.plainKey,g]
 have p0:=λ(u v:Value)=>ACw (P:=P) w o (xs:=#[u,v]) (off:=c.offset) (v:=u) (by rw[m];rfl);have r:=λ(u v:Value)=>ACw (P:=P) w p (xs:=#[u,v]) (off:=e.offset) (v:=v) (by rw[n];rfl);have s:=λx:Int=>Ml (w:=w) f em d x;have t:=λx:Int=>Ml (w:=w) g em d x;rw[Instr.checkKey];simp[On q,j,l,p0,r,s,t]
theorem Yf {P:Program} {g:TypeId} {a b:IntKind} (hp:Me P g a b) (w:World) (h i j k:Int):(Op.equal g (.agg #[.int a h,.int b i]) (.agg #[.int a j,.int b k])).run P w=.ok ((h==j)&&(i==k)) w:=by
 obtain⟨d,f,r,⟨l,m⟩,⟨t,z⟩,⟨n,o⟩,A⟩:=hp;have p:P.fieldsOf g=#[d,f]:=by simp[Program.fieldsOf,r]
 have B:P.plainKey d.type=true:=by simp[Program.plainKey,n]
 have C:P.plainKey f.type=true:=by simp[Program.plainKey,o]
 have l : d.name ≠ "_" := by simpa using l
 have m : f.name ≠ "_" := by simpa using m
 have D:∀x y:Int,(Op.equalIn 9999 d.type (.int a x) (.int a y)).run P w=.ok (x==y) w:=λx y=>Oy n 9998 x y;have q:∀x y:Int,(Op.equalIn 9999 f.type (.int b x) (.int b y)).run P w=.ok (x==y) w:=λx y=>Oy o 9998 x y;have e:(Op.equal g (.agg #[.int a h,.int b i]) (.agg #[.int a j,.int b k])).run P w=_:=run_equalIn_struct (P:=P) w 9999 g _ _ (by rw[p];exact r) A;rw[e,p];have p0:=λ(u v:Value)=>ACw (P:=P) w B (xs:=#[u,v]) (off:=d.offset) (v:=u) (by rw[t];rfl);have s:=λ(u v:Value)=>ACw (P:=P) w C (xs:=#[u,v]) (off:=f.offset) (v:=v) (by rw[z];rfl);simp only[Op.eqFields,l,m,ACO,ACx,AAH,AAF,p0,s,AAh,D,q];by_cases c:h=j
 .by_cases c2:i=k<;>simp[c,c2,Sem.run_ite,AAF,s,q,Op.eqFields]
 simp[c,Sem.run_ite]
theorem Sw {P:Program} {f:TypeId} {a b:IntKind} (hp:Me P f a b) {w:World} {O:Nat->Prop} {vt:Ty} {k:(Ty.agg (.prod (.int a) (.int b))).den} {g:Value} (c:BG w O (.agg (.prod (.int a) (.int b))) g k) :
  ∀ {es:List MapEntry} {l:List ((Ty.agg (.prod (.int a) (.int b))).den×vt.den)},Jy w O (.agg (.prod (.int a) (.int b))) vt es l->∀i,(Instr.findAsking f g es i).run P w=.ok (Hk (.agg (.prod (.int a) (.int b))) vt k es l i) w
 | [],[],_,i=>rfl
 | [],_ :: _,h,_=>h.elim
 | _ :: _,[],h,_=>h.elim
 | e :: es,x :: l,⟨j,p,m⟩,i=>by
  have o:=Sw hp c m (i+1);have d:=Yf hp w k.1 k.2 x.1.1 x.1.2;rw[<-Gp c,<-Gp j]at d;have n:L2 (.agg (.prod (.int a) (.int b))) k x.1=((k.1==x.1.1)&&(k.2==x.1.2)):=rfl;simp only[Instr.findAsking,AAF,d,AAh,Hk,n,Sem.run_ite];split
  .rfl
  exact o
theorem WR {P:Program} {kid:TypeId} {a b:IntKind} (hp:Me P kid a b):Uo P kid (.agg (.prod (.int a) (.int b))) where
 check:=λem h=>by
  rw[Gp h];exact Sb hp em 9998 _ _
 find:=λhk he=>by
  have hp2:=hp;obtain⟨f0,f1,hu,_⟩:=hp2;rw[run_findKey_eq _ (by rw[hu])];exact Sw hp hk he 0
 stays:=λh=>by
  rw[Gp h];simp[Instr.keyThatStays,Instr.sameBits]
 same:=λh h' he=>by
  rw[Gp h,Gp h'];have he:((_==_)&&(_==_))=true:=he;grind
theorem E4 {P:Program} {A:TypeId} {w:World} {O:Nat->Prop} {a vt:Ty} (s:Uo P A a) {k:a.den} {m:Value} (g:BG w O a m k):∀ {es:List MapEntry} {l:List (a.den×vt.den)},Jy w O a vt es l->∀i,
  (AQ a vt k l=none/\Hk a vt k es l i=none/\∀(v:vt.den) (c:Value) (b:Nat),BG w O vt c v->Jy w O a vt (es++[⟨m,c,b⟩]) (Bm a vt k v l)) \/
  ∃(j:Nat) (e:MapEntry) (v0:vt.den),AQ a vt k l=some v0/\Hk a vt k es l i=some (i+j,e.val)/\es[j]?=some e/\BG w O vt e.val v0/\e.key=m /\
   ∀(v:vt.den) (c:Value),BG w O vt c v->Jy w O a vt (es.modify j λe=>{ e with key:=m,val:=c }) (Bm a vt k v l)
 | [],[],_,i=>.inl ⟨rfl,rfl,λv c b f=>⟨g,f,trivial⟩⟩
 | [],_ :: _,h,_=>h.elim
 | _ :: _,[],h,_=>h.elim
 | e :: es,x :: l,⟨o,p,r⟩,i=>by
  cases d:L2 a k x.1 with
  | true =>
   refine .inr ⟨0,e,x.2,by simp[AQ,d],by simp[Hk,d],rfl,p,s.same g o d,λv c f=>?_⟩;simp only[Bm,d,AAH];exact⟨g,f,r⟩
  | false =>
   rcases E4 s g r (i+1) with ⟨g1,q,n⟩|⟨j,t,v0,g1,q,n,u,y,z⟩
   .refine .inl ⟨by simp[AQ,d,g1],by simp[Hk,d,q],λv c b f=>?_⟩;simp only[Bm,d,AAG,AAX];exact⟨o,p,n v c b f⟩
   refine .inr ⟨j+1,t,v0,by simp[AQ,d,g1],?_,by simpa using n,u,y,λv c f=>?_⟩
   .grind [Hk]
   simp only[Bm,d,AAG,AAX,List.modify_succ_cons];exact⟨o,p,z v c f⟩
theorem WS {P:Program} {tb:Tb} {id:TypeId} {ti:TI} (hT:Dg P tb id ti) (d:ti.el=0) (a:SY ti.ty=true):Uo P id ti.ty:=by
 have b:=hT.2;obtain⟨⟨⟨_,_,c⟩,_⟩,_⟩:=hT;rw[d]at c;cases e:ti.ty<;>rw[e]at b a c<;>simp only[SY]at a<;>try(cases a;done)
 .exact Dr rfl b
 .exact Dr rfl b
 .exact Dr rfl b
 unfold YY at a;split at a
 .exact WR c
 cases a
theorem eK {t:Ty} {z:Value} (c:z.cells=t.zero.toArray) (d:Ui t z=true):z=t.wrap t.zero:=by
 cases t with
 | agg t =>
  cases z<;>simp only[Ui]at d<;>try(cases d;done)
  simp only[Value.cells]at c;rw[c];rfl
 | prod a b=>cases z<;>simp[Ui]at d
 | _=>cases z<;>simp only[Ui]at d<;>(try(cases d;done))<;>(simp only[Value.cells,Ty.zero]at c;simp[Ty.wrap,Ty.zero]at c ⊢<;>exact c)
section
variable {P:Program} {tb:Tb} {w:World} {O0:Nat->Prop} {σ:St} {ρ:Nat->Value} {vc:Prop} {v:AV} {obs:List (Nat×Obj)} {id:TypeId} {ti:TI}
theorem eL {P:Program} {tb:Tb} {e:TypeId} {te:TI} {z:Value} {i:TypeInfo} (hi:P.info? e=some i) (c:i.zero=some z) (a:z.cells=te.ty.zero.toArray) (b:Ui te.ty z=true) (w:World) (O:Nat->Prop) :
  (zeroValue e).run P w=.ok z w/\BG w O te.ty z te.ty.dflt:=by
 refine⟨by simp[zeroValue,typeInfo,hi,c],te.ty.zero,Bl.zero w O te.ty,eK a b⟩
theorem bnd (f:Nat):¬(1000000+f<1000000)/\1000000+f-1000000=f:=by omega
theorem A09 {a:Act} (p:EI (vw w O0 σ ρ) σ a.eval) {fn:Fn} {first e:List Operand} (h:Ua σ fn first e=some (vc,v,obs)):obs=[]/\∃u,(Instr.makeFunc fn (first.map a.eval).toArray (e.map a.eval).toArray).run P w=.ok u w/\Bn (vw w O0 σ ρ) v u:=by
 unfold Ua at h;split at h
 .rename_i f;split at h;case isFalse=>cases h
  rename_i y;cases i:Gz σ e with
  | none=>rw[i]at h;simp[MX]at h
  | some ns =>
   rw[i]at h;simp only[MX]at h;cases h;have key:∀ {l:List Operand} {ns:List Nat},Gz σ l=some ns->l.map a.eval=ns.map ρ/\∀n∈ns,GL σ n/\∃b:Nat,ρ n=.pointer (some ⟨b,0,none⟩):=by
    intro l;induction l with
    | nil=>intro ns h;simp only[Gz]at h;cases h;exact⟨rfl,λ_ h=>by cases h⟩
    | cons x r z =>
     intro ns h;simp only[Gz]at h;split at h
     .rename_i n B q s;cases h;obtain⟨g1,g⟩:=z s;obtain⟨k,b,c,o⟩:=p x _ q;have c:ρ n=_:=c;refine⟨by simp only[oR,g1,o,c],λm d=>?_⟩;rcases Is.1 d with rfl|d
      .exact⟨k,b,c⟩
      exact g m d
     cases h
   obtain⟨g1,g⟩:=key i;refine⟨rfl,_,rfl,?_,g⟩;rw[g1];unfold Ya;rw[At y];rfl
 .rename_i f x;cases j:Ae σ x with
  | none=>rw[j]at h;simp[UZ]at h
  | some xv =>
   rw[j]at h;unfold UZ at h;split at h
   .rename_i n t;cases t;cases h;obtain⟨k,b,c,o⟩:=p x _ j;have c:ρ n=_:=c;refine⟨rfl,_,rfl,?_,λm d=>?_⟩
    .unfold Ya;rw[As (bnd f).1,(bnd f).2];simp only[oR,ACK,o];have A:(vw w O0 σ ρ).ρ n=.pointer (some ⟨b,0,none⟩):=c;rw[A]
    obtain rfl:=nO.1 d;exact⟨k,b,c⟩
   cases h
 cases h
theorem Sx {es:Array MapEntry} {cl:Nat} (h:Pg es cl) (x y:Value):Pg (es.push ⟨x,y,cl⟩) (cl+1):=by grind [Pg]
theorem Oz {es:Array MapEntry} {cl:Nat} (h:Pg es cl) (j:Nat) (x y:Value):Pg (es.modify j λe=>{ e with key:=x,val:=y }) cl:=by
 have e:((es.modify j λe=>{ e with key:=x,val:=y }).toList.map (·.born))=es.toList.map (·.born):=by
  rw[Array.toList_modify];apply AAx
  .simp
  grind
 unfold Pg;rw[e];exact h
theorem xW (F:DG P tb) (hT:Dg P tb id ti) {n:Nat} {k e:Nat} (N:ti.ty=.ref 2) (M:ti.offs=[(k,e)]) {a:TI} (Q:lk k tb.ty=some a) {vt:Ty} {l:List (a.ty.den×vt.den)} {V:Vw} (G:V.w=w)
  (L:Av V (.mapo a.ty vt l) (V.ρ n)) {x y:Value} {kd:a.ty.den} {h:vt.den} (H:a.el=0) (J:SY a.ty=true) (g:BG w V.O a.ty x kd) (B:BG w V.O vt y h) :
  ∃b m r,V.ρ n=.map (some b)/\(Instr.mapUpdate id (.map (some b)) x y).run P w=.ok () { w with heap:=w.heap.setIfInBounds b (.map m r) }/\(∃o,w.heap[b]?=some o)/\Jy w V.O a.ty vt m.toList (Bm a.ty vt kd h l)/\Pg m r:=by
 obtain⟨d,A,_,K⟩:∃d,P.underlying id=some d/\(match d with|.struct _=>False|.array _ _=>False|_=>True) /\
   ∀k e,(2:Nat)=2->ti.offs=[(k,e)]->d=.map k e/\∃(a te:TI) (z:Value),lk k tb.ty=some a/\lk e tb.ty=some te/\(∃i,P.info? e=some i/\i.zero=some z)/\z.cells=te.ty.zero.toArray/\Ui te.ty z=true:=by
  have:=hT.2;rw[N]at this;exact this
 obtain⟨rfl,_⟩:=K k e rfl M;obtain⟨b,es,cl,v,c,t,s⟩:=L;subst G;have f:=WS (F _ _ Q) H J;have u:=f.find g t;refine⟨b,?_⟩;rcases E4 f g t 0 with ⟨g1,p,q⟩|⟨j,C,v0,g1,p,q,R,D,E⟩
 .refine⟨es.push ⟨x,y,cl⟩,cl+1,v,?_,⟨_,c⟩,by simpa using q h y cl B,Sx s x y⟩;simp[Instr.mapUpdate,On A,AAi c,f.check _ g,u,p,ABw _ c]
 have I:es[j]?=some C:=by simpa using q
 refine⟨es.modify j λe=>{ e with key:=x,val:=y },cl,v,?_,⟨_,c⟩,by rw[Array.toList_modify];exact E h y B,Oz s j x y⟩;simp[Instr.mapUpdate,On A,AAi c,f.check _ g,u,p,I,D,f.stays g,ABw _ c]
theorem Sy (hT:Dg P tb id ti) {d:Nat} (h:DJ tb d (some ti)=some (vc,v,obs)) (g:BS obs σ=true) :
  ∃u ρ' w',(Instr.makeMap id none).run P w=.ok u w'/\QS w O0 σ ρ v obs u ρ' w':=by
 unfold DJ at h;split at h
 .rename_i offs _ _ c;cases c;unfold E2 at h;split at h
  .rename_i k e;unfold Fd at h;split at h
   .cases h;have f:(Instr.makeMap id none).run P w=.ok (.map (some w.heap.size)) (w.alloc (.map #[] 0)):=by
     simp[Instr.makeMap,Result.andThen]
    refine⟨_,_,_,f,QS.one (loc:=.map (some w.heap.size)) ((Below.refl _ w).alloc (If _) _) ?_ ?_ ?_⟩
    .grind [bk,blk]
    .refine⟨⟨_,by simp only[Du,ABe,lk,AAH];rfl⟩,w.heap.size,?_,rfl⟩;show plc (DQ ρ d _ d)=_;rw[BV];rfl
    exact⟨w.heap.size,#[],0,rfl,(MapKept.heap_alloc w _).1,trivial,List.Pairwise.nil,λb a=>by cases a⟩
   cases h
  cases h
 cases h
theorem Ny (hT:Dg P tb id ti) {d:Nat} (h:DJ tb d (some ti)=some (vc,v,obs)) {z u:Value} {w':World} {k:IntKind} {n:Int} (i:z=.int k n) (f:(Instr.makeMap id none).run P w=.ok u w'):(Instr.makeMap id (some z)).run P w=.ok u w':=by
 unfold DJ at h;split at h
 .rename_i offs _ _ b;cases b;unfold E2 at h;split at h
  .rename_i j e;obtain⟨l,g,_,c⟩:=hT.2;obtain⟨rfl,_⟩:=c j e rfl rfl;subst i;have a:(Instr.makeMap id (some (.int k n))).run P w=(Instr.makeMap id none).run P w:=by
    simp only[Instr.makeMap,AAF,On g,AAh,asInt,asIntOf,ABm]
   rw[a];exact f
  cases h
 cases h
theorem xX (hT:Dg P tb id ti) (O:DG P tb) (E:∀n o,lk n σ.objs=some o->Av (vw w O0 σ ρ) o (ρ n)) {ok:Bool} {x y:AV} {xv H:Value} (h:He tb σ ok (some ti) (some x) (some y)=some (vc,v,obs))
  (aa:Bn (vw w O0 σ ρ) x xv) (ab:Bn (vw w O0 σ ρ) y H):obs=[]/\∃u,(Instr.lookup id xv H ok).run P w=.ok u w/\Bn (vw w O0 σ ρ) v u:=by
 unfold He at h;split at h
 .rename_i k e _ _ n z S T U;cases S;cases T;cases U;obtain⟨d,L,_,Y⟩:=hT.2;obtain⟨rfl,G,te,ai,K,Z,⟨i,hi,ad⟩,ag,ah⟩:=Y k e rfl rfl;cases s:lk n σ.objs with
  | none=>rw[s]at h;simp[G0]at h
  | some o =>
   rw[s]at h;cases o with
   | mapo ak vt l =>
    simp only[G0,K,Z,AB7,AAU]at h;split at h
    .rename_i R;obtain⟨rfl,W,rfl⟩:=R;cases D:IQ false σ G.ty y with
     | none=>rw[D]at h;simp[I9]at h
     | some kd =>
      rw[D]at h;simp only[I9]at h;split at h
      .rename_i X;have a:=Hh (V:=vw w O0 σ ρ) (O':=own O0 σ ρ) (λ_ h=>h) (λh=>by cases h) E D ab;have a:BG w (own O0 σ ρ) G.ty H kd:=a;obtain⟨aj,b,F,rfl⟩:=aa;have F:ρ n=_:=Md (E n _ s) F;obtain⟨b',es,cl,c,p,m,-⟩:=E n _ s;rw[F]at c;injection c with c
       injection c with c
       subst c;have p:w.heap[b]?=some (.map es cl):=p;have m:Jy w (own O0 σ ρ) G.ty te.ty es.toList l:=m;have q:=WS (O _ _ K) W X;have I:=q.find a m;obtain⟨ae,af⟩:=eL (te:=te) (P:=P) (tb:=tb) hi ad ag ah w (own O0 σ ρ);have fin:∀(f:Value) (t:Bool) (r:Option te.ty.den),BG w (own O0 σ ρ) te.ty f (r.getD te.ty.dflt)->t=r.isSome->J8 te.ty ok r=some (vc,v,obs)->obs=[]/\∃u,u=(if ok=true then Value.tuple #[f,.bool t] else f)/\Bn (vw w O0 σ ρ) v u:=by
        intro f t r J Q g;unfold J8 at g;subst Q;cases ok with
        | true =>
         simp only[AAH]at g ⊢;cases g;exact⟨rfl,_,rfl,[f,.bool r.isSome],rfl,f,_,rfl,J,_,[],rfl,Bo _,rfl⟩
        | false =>
         simp only[AAG,AAX]at g ⊢;cases g;exact⟨rfl,_,rfl,J⟩
       rcases E4 q a m 0 with ⟨g1,A,_⟩|⟨j,M,v0,g1,A,_,N,_,_⟩
       .rw[g1]at h;obtain⟨B,u,rfl,C⟩:=fin ai false none af rfl h;refine⟨B,_,?_,C⟩;simp[Instr.lookup,On L,AAi p,q.check _ a,I,A,ae]
       rw[g1]at h;obtain⟨B,u,rfl,C⟩:=fin M.val true (some v0) N rfl h;refine⟨B,_,?_,C⟩;simp[Instr.lookup,On L,AAi p,q.check _ a,I,A]
      cases h
    cases h
   | _=>simp[G0]at h
 cases h
end
end
end Go.Proofs.YtaoonfcjbmcmpaaGreatDoor.Fw
