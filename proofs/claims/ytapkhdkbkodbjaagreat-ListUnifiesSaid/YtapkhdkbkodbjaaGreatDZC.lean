/- The executor's quiet operations are sound, second part; maps. -/
import Derived.Test.YtapkhdkbkodbjaaGreatDZB
import Derived.ArgAppend
import Derived.MapKept
import Derived.WideKeyRuns
import Derived.Laws.StructEq
set_option linter.unusedVariables false
set_option linter.unusedSimpArgs false
namespace Go.Proofs.YtapkhdkbkodbjaaGreat.Fw
section
open Go Go.RowKit
section
abbrev AEC:=@Go.World.ownsRow_nil
abbrev AED:=@Go.Sem.run_pure
abbrev AEH:=@Go.MapKept.run_getObj_map
abbrev AES:=@Go.run_part_plain
abbrev AFx:=@Go.Sem.run_ite
variable {P:Program} {tb:Tb} {id:TypeId} {ti:TI} {w:World} {O0:Nat->Prop} {σ:St} {ρ:Nat->Value} {vc:Prop} {v:AV} {obs:List (Nat×Obj)}
theorem FX (w:World) (o:_root_.Go.Obj):Below w.heap.size w (w.alloc o):=(Below.refl _ _).alloc (If _) o
theorem QS.box {n:Nat} {et:TypeId} {st:Bool} {fs:List AV} {cs:List Value} (hf:Bd [(n,.box et st fs)] σ=true) (g:st=false->fs.length=1) (d:Dc (vw w O0 σ ρ) fs cs) :
  QS w O0 σ ρ (.bp n [] 0) [(n,.box et st fs)] (.pointer (some ⟨w.heap.size,0,none⟩)) (E5 ρ n (.pointer (some ⟨w.heap.size,0,none⟩))) (w.alloc (.cells cs.toArray et)):=by
 have f:∀(m:Nat) (o:Obj) (b:Nat),lk m [(n,.box et st fs)]=some o->bk (E5 ρ n (.pointer (some ⟨w.heap.size,0,none⟩)) m) b->w.heap.size<=b:=by grind [lk,Bo,bk,blk]
 have hk:Cq (vw w O0 σ ρ) (vw (w.alloc (.cells cs.toArray et)) O0 (ET σ [(n,.box et st fs)]) (E5 ρ n (.pointer (some ⟨w.heap.size,0,none⟩)))) :=
  Hy hf (FX w _) (λm a=>by
   simp only[lk]at a;split at a
   .cases a
   rename_i e;simp[E5,e]) f
 refine QS.one (FX w _) (λb c=>by simp[bk,blk]at c;omega) ?_ ?_
 .refine⟨⟨.box et st fs,by simp[ET,lk]⟩,w.heap.size,by rw[show (vw (w.alloc (.cells cs.toArray et)) O0 (ET σ [(n,.box et st fs)]) (E5 ρ n (.pointer (some ⟨w.heap.size,0,none⟩)))).ρ n=E5 ρ n (.pointer (some ⟨w.heap.size,0,none⟩)) n from rfl,Bo],rfl⟩
 exact⟨g,w.heap.size,cs,rfl,heap_alloc_new w _,d.keeps hk⟩
theorem QS.arr {n:Nat} {et:TypeId} {e:Ty} {xs:List e.den} {cells:List Value} {loc:Value} {w':World} {hi:Nat} (hf:Bd [(n,.arr et e xs)] σ=true) (f:Below w.heap.size w w')
  (c:w'.ownsRow w.heap.size et e.size loc xs.length cells) (a:xs.length<=AO) (k:Dm w (own O0 σ ρ) e cells xs) (p:hi=xs.length) :
  QS w O0 σ ρ (.sr n e 0 hi) [(n,.arr et e xs)] loc (E5 ρ n loc) w':=by
 subst p;have r:∀b,bk loc b->w.heap.size<=b:=by
  intro b i;rcases c.2 with ⟨rfl,_⟩|⟨g,cap,d,rfl,l,_⟩
  .simp[bk,blk]at i
  simp[bk,blk]at i;omega
 have q:∀(m:Nat) (o:Obj) (b:Nat),lk m [(n,.arr et e xs)]=some o->bk (E5 ρ n loc m) b->w.heap.size<=b:=by grind [lk,Bo]
 have hk:Cq (vw w O0 σ ρ) (vw w' O0 (ET σ [(n,.arr et e xs)]) (E5 ρ n loc)) :=
  Hy hf f (λm a=>by
   simp only[lk]at a;split at a
   .cases a
   rename_i e;simp[E5,e]) q
 refine QS.one f r ?_ ?_
 .refine⟨⟨.arr et e xs,by simp[ET,lk]⟩,?_⟩;show DT (plc (E5 ρ n loc n)) e.size 0 xs.length loc;rw[Bo,HZ c];rcases c.2 with ⟨rfl,hn⟩|⟨g,cap,d,rfl,l,_,t,_⟩
  .exact⟨none,0,0,rfl,by omega,by omega,none,0,by rw[hn],by omega,λ_=>⟨rfl,rfl⟩,λh=>by omega⟩
  exact⟨some ⟨g,0,none⟩,xs.length,cap,rfl,by omega,by omega,some ⟨g,0,none⟩,cap,by simp,by omega,λ_=>⟨rfl,rfl⟩,λ_=>by simp[Mw]⟩
 refine⟨a,cells,⟨c.1,?_⟩,k.keeps hk⟩;rcases c.2 with h|⟨g,cap,d,h1,s,j⟩
 .exact .inl h
 exact .inr ⟨g,cap,d,h1,NO _,j⟩
theorem LV (V:Vw) (t:Ty):Ng V (zP t) t.zero:=by
 cases t;case slice e=>exact⟨_,rfl,rfl,rfl⟩
 case ref k=>exact⟨Lg k,rfl,by match k with|0=>rfl|1=>rfl|_+2=>rfl,rfl⟩
 all_goals(exact B0.zero V.w V.O _)
theorem A21 (V:Vw):∀t:Ty,Dc V (zQ t) t.zero
 | .prod a b=>⟨a.zero,b.zero,rfl,LV V a,A21 V b⟩
 | .int k=>⟨_,[],by simp,LV V (.int k),rfl⟩
 | .bool=>⟨_,[],by simp,LV V .bool,rfl⟩
 | .str=>⟨_,[],by simp,LV V .str,rfl⟩
 | .slice e=>⟨_,[],by simp,LV V (.slice e),rfl⟩
 | .agg t=>⟨_,[],by simp,LV V (.agg t),rfl⟩
 | .ref k=>⟨_,[],by simp,LV V (.ref k),rfl⟩
theorem A22 (V:Vw):∀(t:Ty) (d:t.den) (cs:List Value),B0 V.w V.O t cs d->Dc V (pfs t d) cs
 | .prod a b,d,cs,h=>by
  obtain⟨c1,c2,rfl,h1,c⟩:=h;exact⟨c1,c2,rfl,h1,A22 V b d.2 c2 c⟩
 | .int k,d,cs,h=>⟨cs,[],by simp,h,rfl⟩
 | .bool,d,cs,h=>⟨cs,[],by simp,h,rfl⟩
 | .str,d,cs,h=>⟨cs,[],by simp,h,rfl⟩
 | .slice e,d,cs,h=>⟨cs,[],by simp,h,rfl⟩
 | .agg t,d,cs,h=>⟨cs,[],by simp,h,rfl⟩
 | .ref k,d,cs,h=>⟨cs,[],by simp,h,rfl⟩
theorem Ps (hT:EU P tb id ti) (w:World):∃z:Value,(zeroValue id).run P w=.ok z w/\z.cells=ti.ty.zero.toArray:=by
 obtain⟨⟨_,i,z,h1,c,d,a,b⟩,_⟩:=hT;exact⟨z,by simp[zeroValue,Lt w h1,a],b⟩
theorem A5x (hT:EU P tb id ti) {d:Nat} (h:Kd d id (some ti)=some (vc,v,obs)) (hf:Bd obs σ=true) :
  ∃u ρ' w',(Instr.alloc id true (.tuple #[])).run P w=.ok u w'/\QS w O0 σ ρ v obs u ρ' w':=by
 obtain⟨z,c,e⟩:=Ps hT w;have b:(Instr.alloc id true (.tuple #[])).run P w=.ok (.pointer (some ⟨w.heap.size,0,none⟩)) (w.alloc (.cells ti.ty.zero.toArray id)):=by
  simp[Instr.alloc,c,newVar,newRow,e]
 unfold Kd at h;split at h<;>first|(cases h;done)|skip
 all_goals
  rename_i a;cases a;cases h;refine⟨_,_,_,b,QS.box hf ?_ ?_⟩
 .simp
 .exact A21 _ _
 .simp
 .exact⟨_,[],by simp[Ty.zero],LV _ _,rfl⟩
 .simp
 .exact⟨_,[],by simp[Ty.zero],LV _ _,rfl⟩
 .simp
 .exact⟨_,[],by simp[Ty.zero],LV _ _,rfl⟩
 .simp
 .exact⟨_,[],by simp[Ty.zero],LV _ _,rfl⟩
 .simp
 exact⟨_,[],by simp[Ty.zero],LV _ _,rfl⟩
theorem Nu {V:Vw} {ty:Ty} {x:AV} {v:Value} (hx:B3 V x v) (hf:CT ty x=true) (hs:ty.cell1=true):v.oneCell'=true:=by
 cases x;case p t d =>
  simp only[CT,Do]at hf;subst hf;obtain⟨cs,j,rfl⟩:=hx;cases ty;case agg t=>simp[Ty.cell1]at hs
  case prod a b=>simp[Ty.cell1]at hs
  case slice e=>obtain⟨a,c,rfl,_⟩:=j;rfl
  case int k=>obtain⟨rfl,h⟩:=j;rfl
  case bool=>have j:cs=_:=j;subst j;rfl
  case str=>obtain⟨rfl,h⟩:=j;rfl
  case ref k =>
   have j:cs=[Lg k]:=j;subst j;match k with
   | 0=>rfl
   | 1=>rfl
   | _+2=>rfl
 case ag l=>cases ty<;>simp[CT]at hf<;>simp[Ty.cell1]at hs
 case tup l=>simp[CT]at hf
 case raw u =>
  have hx:v=u:=hx;subst hx;simp only[CT,An]at hf;exact hf.1
 case sr n e lo hi=>obtain⟨_,_,_,_,_,_,_,q,r,rfl,_⟩:=hx;rfl
 case ep n e i o off=>obtain⟨_,g,m,c,_,_,rfl⟩:=hx;rfl
 case nin n e i len=>obtain⟨_,_,_,_,_,_,_,_,rfl⟩:=hx;rfl
 case pc e d=>obtain⟨_,a,rfl⟩:=hx;rfl
 case ip t d=>obtain⟨ad,cs,rfl,_⟩:=hx;rfl
 case bp n o off=>obtain⟨_,b,_,rfl⟩:=hx;rfl
 case fn f=>have hx:v=_:=hx;subst hx;rfl
 case clo f ns=>obtain⟨rfl,_⟩:=hx;rfl
 case mp n=>obtain⟨_,b,_,rfl⟩:=hx;rfl
 case yl n=>obtain⟨_,b,_,rfl⟩:=hx;rfl
 case top=>simp[CT]at hf
end
end
section
open Go Go.RowKit
section
variable {P:Program} {tb:Tb} {id:TypeId} {ti:TI} {w:World} {O0:Nat->Prop} {σ:St} {ρ:Nat->Value} {vc:Prop} {v:AV} {obs:List (Nat×Obj)}
theorem VV {t:Ty} {w:World} {O:Nat->Prop} {cs:List Value} {d:t.den} (h:B0 w O t cs d):(t.wrap cs).cells=cs.toArray:=by
 cases t;case agg t=>rfl
 case prod a b=>rfl
 case slice e=>obtain⟨a,c,rfl,_⟩:=h;rfl
 case int k=>obtain⟨rfl,_⟩:=h;rfl
 case bool=>have h:cs=_:=h;subst h;rfl
 case str=>obtain⟨rfl,_⟩:=h;rfl
 case ref k =>
  have h:cs=[Lg k]:=h;subst h;match k with
  | 0=>rfl
  | 1=>rfl
  | _+2=>rfl
theorem A5y {V:Vw} {x:AV} {v:Value} (hx:B3 V x v) (hf:Iq x=true):Ng V x v.cells.toList/\v.cells.size=x.cells:=by
 have simple:∀ {y:AV},VL V y v->v.oneCell'=true->(∀t d,y≠.p t d)->Ng V y v.cells.toList:=by
  intro y q h hp;have k:v.cells=#[v]:=by cases v<;>first|rfl|simp[Value.oneCell']at h
  rw[k];cases y;case p t d=>exact absurd rfl (hp t d)
  all_goals exact⟨v,rfl,h,q⟩
 have j:v.oneCell'=true->v.cells.size=1:=by
  intro h;have k:v.cells=#[v]:=by cases v<;>first|rfl|simp[Value.oneCell']at h
  rw[k];rfl
 cases x;case p t d =>
  obtain⟨cs,l,rfl⟩:=hx;rw[VV l];exact⟨l,by simpa[AV.cells] using l.length⟩
 case raw u =>
  have o:v=u:=hx;have h:v.oneCell'=true:=by rw[o];exact hf
  exact⟨simple hx h (λ_ _=>by simp),j h⟩
 case sr n e lo hi =>
  have h:v.oneCell'=true:=by obtain⟨_,_,_,_,_,_,_,s,w,rfl,_⟩:=hx;rfl
  exact⟨simple hx h (λ_ _=>by simp),j h⟩
 case ep n e i r off =>
  have h:v.oneCell'=true:=by obtain⟨_,g,m,c,_,_,rfl⟩:=hx;rfl
  exact⟨simple hx h (λ_ _=>by simp),j h⟩
 case nin n e i len =>
  have h:v.oneCell'=true:=by obtain⟨_,_,_,_,_,_,_,_,rfl⟩:=hx;rfl
  exact⟨simple hx h (λ_ _=>by simp),j h⟩
 case ip t d =>
  have h:v.oneCell'=true:=by obtain⟨ad,cs,rfl,_⟩:=hx;rfl
  exact⟨simple hx h (λ_ _=>by simp),j h⟩
 case bp n r off =>
  have h:v.oneCell'=true:=by obtain⟨_,b,_,rfl⟩:=hx;rfl
  exact⟨simple hx h (λ_ _=>by simp),j h⟩
 case pc e d =>
  have h:v.oneCell'=true:=by obtain⟨_,a,rfl⟩:=hx;rfl
  exact⟨simple hx h (λ_ _=>by simp),j h⟩
 case clo f ns =>
  have h:v.oneCell'=true:=by obtain⟨rfl,_⟩:=hx;rfl
  exact⟨simple hx h (λ_ _=>by simp),j h⟩
 case mp n =>
  have h:v.oneCell'=true:=by obtain⟨_,b,_,rfl⟩:=hx;rfl
  exact⟨simple hx h (λ_ _=>by simp),j h⟩
 case yl n =>
  have h:v.oneCell'=true:=by obtain⟨_,b,_,rfl⟩:=hx;rfl
  exact⟨simple hx h (λ_ _=>by simp),j h⟩
 case fn f =>
  have h:v.oneCell'=true:=by have hx:v=_:=hx;subst hx;rfl
  exact⟨simple hx h (λ_ _=>by simp),j h⟩
 all_goals simp[Iq]at hf
theorem AAs (hT:EU P tb id ti) {d:Nat} {x:AV} {xv:Value} (h:UK d id (some ti) (some x)=some (vc,v,obs)) (hx:B3 (vw w O0 σ ρ) x xv) (hf:Bd obs σ=true) :
    ∃u ρ' w',(Instr.box id xv).run P w=.ok u w'/\QS w O0 σ ρ v obs u ρ' w':=by
  have g:(Instr.box id xv).run P w=.ok (.pointer (some ⟨w.heap.size,0,none⟩)) (w.alloc (.cells xv.cells id)):=by
    simp[Instr.box,newVar,newRow]
  have simple:∀ty:Ty,CT ty x=true->ty.cell1=true->(∀l,x≠.ag l)->Dc (vw w O0 σ ρ) [x] xv.cells.toList:=by
    intro ty f p m;obtain⟨h1,k⟩:=A1U hx f (Nu hx f);exact⟨_,[],by simp,k m,rfl⟩
  have o:xv.cells=xv.cells.toList.toArray:=by simp
  rw[o]at g;unfold UK at h;split at h
  . rename_i u offs el b q j c a
    cases c;cases a;split at h
    . rename_i hu
      subst hu;cases h;obtain⟨cs,i,rfl⟩:=hx;have i:B0 w (own O0 σ ρ) u cs j:=i;refine⟨_,_,_,g,QS.box hf (by simp) ?_⟩;simp only[Ty.wrap,Value.cells];exact A22 _ _ _ _ i
    cases h
  . rename_i u offs el b l c a
    cases c;cases a;split at h
    . cases h
      obtain⟨cs,rfl,n⟩:=hx;refine⟨_,_,_,g,QS.box hf (by simp) ?_⟩;simp only[Value.cells];exact n
    cases h
  all_goals first
    | (cases h;done)
    | (rename_i c a
       cases c;injection a with a
       subst a;split at h
       . rename_i f
         cases h;exact⟨_,_,_,g,QS.box hf (by simp) (simple _ f rfl (λl e=>by subst e;simp[CT]at f))⟩
       cases h)
theorem eB (off:Nat):∀(a:List Value) (k:Nat) (cells:Array Value),off+k+a.length<=cells.size ->
  ((a.zipIdx k).foldl (λ(cs:Array Value) (p:Value×Nat)=>cs.setIfInBounds (off+p.2) p.1) cells).toList=Ax cells.toList (off+k) a
 | [],k,cells,_=>by simp[Ax]
 | v :: a,k,cells,h=>by
  simp only[No]at h;simp only[List.zipIdx_cons,RE];rw[eB off a (k+1) _ (by simp;omega)];simp only[Ax,Array.toList_setIfInBounds,No];apply AF1;intro j;have hl:cells.toList.length=cells.size:=by simp
  simp only[RN,AAi,OS,aT,hl,Sz,AAk,ADt,No];grind
theorem VW {place:Nat->Option (Nat×Nat)} {cells:Array Value} {i off:Nat} {v:Value} {rest:List (Nat×Value)} (hp:place i=some (off,v.cells.size)) (hl:off+v.cells.size<=cells.size) :
  Instr.fill place cells ((i,v) :: rest)=Instr.fill place (Ax cells.toList off v.cells.toList).toArray rest:=by
 have h1:¬(off+v.cells.size > cells.size):=by omega
 simp only[Instr.fill,hp];rw[As (by simp;omega)]
 congr 1
 have:=eB off v.cells.toList 0 cells (by simpa using hl);apply Array.ext';rw[show v.cells.zipIdx.foldl (λcs x=>cs.setIfInBounds (off+x.2) x.1) cells=(v.cells.toList.zipIdx 0).foldl (λcs x=>cs.setIfInBounds (off+x.2) x.1) cells from by
  rw[<-Array.foldl_toList];simp]
 simpa using this
def Ha (V:Vw) (σ:St) (ev:Operand->Value):Prop:=∀x v,Ap σ x=some v->B3 V v (ev x)
theorem zT {V:Vw} (c:∀n o,lk n σ.objs=some o->A3 V o (V.ρ n)) {z x:Option AV} {y:AV} {v:Value} (hx:∀a,x=some a->B3 V a v) (h:Fk σ z x=some y):B3 V y v:=by
 unfold Fk at h;split at h
 .rename_i t _ l;simp only[OF]at h;obtain⟨d,b,rfl⟩:=h;exact LU (V:=V) (O':=V.O) (λ_ h=>h) (λh=>by cases h) c b (hx _ rfl)
 exact hx _ h
theorem OW {V:Vw} (e:∀n o,lk n σ.objs=some o->A3 V o (V.ρ n)) {ev:Operand->Value} (d:Ha V σ ev) {place:Nat->Option (Nat×Nat)} {offs:List (Nat×Nat)} (g:∀i p,offs[i]?=some p->place i=some p) :
  ∀ {parts:List (Nat×Operand)} {fs b:List AV} {cells:Array Value},Dq σ offs fs parts=some b->Dc V fs cells.toList ->
   ∃cells':Array Value,Instr.fill place cells (parts.map λp=>(p.1,ev p.2))=some cells'/\Dc V b cells'.toList
 | [],fs,b,cells,h,c=>by
  simp only[Dq]at h;cases h;exact⟨cells,rfl,c⟩
 | (i,x) :: r,fs,b,cells,h,c=>by
  simp only[Dq]at h;cases hx:Fk σ fs[i]? (Ap σ x) with
  | none=>rw[hx]at h;cases h
  | some av =>
   rw[hx]at h;simp only at h;split at h
   .rename_i k;obtain⟨h0,h1,l⟩:=k;have y:=zT e (λa ha=>d x a ha) hx;obtain⟨m,q⟩:=A5y y h0;simp only[OF]at h1;obtain⟨A,f,u⟩:=h1;obtain⟨z,_⟩:=c.get f;have w:=c.set f m u.symm;have j:=g i _ l;rw[<-q]at j;have v:CF fs i+(ev x).cells.size<=cells.size:=by grind
    obtain⟨cells',s,t⟩:=OW e d g h (cells:=(Ax cells.toList (CF fs i) (ev x).cells.toList).toArray) (by simpa using w);refine⟨cells',?_,t⟩;rw[RS,VW j v];exact s
   cases h
theorem eC {α β:Type} (f:α->Sem β) (w:World):∀ {l:List α} {ys:List β},(l.map λx=>(f x).run P w)=ys.map (λy=>Result.ok y w)->(l.mapM f).run P w=.ok ys w
 | [],ys,h=>by simp_all
 | x :: l,ys,h=>by
  cases ys with
  | nil=>simp at h
  | cons y ys =>
   simp only[RS,AEy]at h;obtain⟨h1,a⟩:=h;have b:=eC f w a;simp[List.mapM_cons,h1,b]
theorem A5z (hT:EU P tb id ti) (m:∀n o,lk n σ.objs=some o->A3 (vw w O0 σ ρ) o (ρ n)) {ev:Operand->Value} (l:Ha (vw w O0 σ ρ) σ ev) {parts:List (Nat×Operand)} (h:JR σ parts (some ti)=some (vc,v,obs)) :
  obs=[]/\∃u,(Instr.build id (parts.map λp=>(p.1,ev p.2)).toArray).run P w=.ok u w/\B3 (vw w O0 σ ρ) v u:=by
 obtain⟨z,q,A⟩:=Ps hT w;unfold JR at h;split at h
 .rename_i u offs el b s;cases s;cases hp:Dq σ offs (zQ u) parts with
  | none=>rw[hp]at h;simp[Gu]at h
  | some B =>
   rw[hp]at h;simp only[AEm,Gu]at h;cases h;have a:=hT.2;have r:Dc (vw w O0 σ ρ) (zQ u) z.cells.toList:=by rw[A];exact A21 _ u
   simp only at a;rcases a with ⟨fs,_,hu,g⟩|⟨n,e,i,_,hu,hi,g⟩
   .have j:∀(i:Nat) (p:Nat×Nat),offs[i]?=some p->offs.toArray[i]?=some p:=λi p hh=>by simpa using hh
    obtain⟨cells',c,d⟩:=OW m l (place:=λi=>offs.toArray[i]?) j hp r;have x:(fs.mapM (λf=>do pure (f.offset,<-sizeOf f.type)):Sem (Array (Nat×Nat))).run P w=.ok offs.toArray w:=by
     rw[AEw];simp only[Sem.run_map];rw[eC (ys:=offs) _ w ?_]
     .simp
     rw [show (offs.map λy => Result.ok y w) = (offs.map some).map (λo => match o with | some y => Result.ok y w | none => .halt (.stuck "no such type") w) by simp [nO, Function.comp_def], g, nO]
     apply RI;intro f _;simp only[Function.comp,sizeOf,typeInfo];cases hi:P.info? f.type<;>simp[hi]
    refine⟨rfl,.agg cells',?_,cells'.toList,by simp,d⟩;simp only[Instr.build,ADx,q,iF,RL hu,x,c,AED]
   have j:∀(k:Nat) (p:Nat×Nat),offs[k]?=some p->(λk=>some (k*i.size,i.size)) k=some p:=λk p hh=>by
    rw[g]at hh;simp only[gO,OF]at hh;obtain⟨C,t,rfl⟩:=hh;obtain⟨h1,a⟩:=RF.1 t;simp only[AEt]at a;subst a;rfl
   obtain⟨cells',c,d⟩:=OW m l j hp r;refine⟨rfl,.agg cells',?_,cells'.toList,by simp,d⟩;simp[Instr.build,q,RL hu,sizeOf,Lt w hi,c]
 cases h
end
end
section
open Go Go.RowKit
section
variable {P:Program} {tb:Tb} {id:TypeId} {ti:TI} {w:World} {O0:Nat->Prop} {σ:St} {ρ:Nat->Value} {vc:Prop} {v:AV} {obs:List (Nat×Obj)}
theorem YX {t:Ty} {w:World} {O:Nat->Prop} {v:Value} {d:t.den} (h:BR w O t v d):v.cells.size=t.size/\B0 w O t v.cells.toList d:=by
 obtain⟨cs,a,rfl⟩:=h;rw[VV a];exact⟨by simpa using a.length,a⟩
theorem Hj (w:World) (O:Nat->Prop) (e:Ty) (cells:List Value):Dm w O e cells []:=λi x h=>by simp at h
theorem eD {V:Vw} (s:∀n o,lk n σ.objs=some o->A3 V o (V.ρ n)) {ev:Operand->Value} (m:Ha V σ ev) {e:Ty} {N:Nat} :
  ∀ {parts:List (Nat×Operand)} {k:Nat} {xs pre:List e.den} {cells:Array Value},E4 σ e k parts=some xs->cells.size=N*e.size->k+xs.length<=N->pre.length=k ->
   Dm V.w V.O e cells.toList pre ->
   ∃cells':Array Value,Instr.fill (λi=>some (i*e.size,e.size)) cells (parts.map λp=>(p.1,ev p.2))=some cells'/\cells'.size=cells.size/\Dm V.w V.O e cells'.toList (pre++xs)
 | [],k,xs,pre,cells,h,hs,hk,hp,l=>by
  simp only[E4]at h;cases h;exact⟨cells,rfl,rfl,by simpa using l⟩
 | (i,x) :: r,k,xs,pre,cells,h,hs,hk,hp,l=>by
  simp only[E4]at h;split at h
  .rename_i C;subst C;cases hx:Ap σ x with
   | none=>rw[hx]at h;cases h
   | some av =>
    rw[hx]at h;simp only at h;split at h
    .rename_i y ys J K;cases h;have I:=LU (O':=V.O) (λ_ h=>h) (λh=>by cases h) s J (m x av hx);obtain⟨h1,A⟩:=YX I;simp only[No]at hk;have d:i*e.size+(ev x).cells.size<=cells.size:=by
      rw[h1,hs,<-ADH];exact RU _ (by omega)
     have t:(Ax cells.toList (i*e.size) (ev x).cells.toList).length=cells.size:=by
      rw[FD]
      .simp
      simpa using d
     have G:Dm V.w V.O e (Ax cells.toList (i*e.size) (ev x).cells.toList) (pre++[y]):=by
      intro j z a;rw[AAi]at a;split at a
      .rename_i D;obtain⟨v,c,f,g⟩:=l j z a;refine⟨v,c,λq u b=>?_,g⟩;have H:q<e.size:=by rw[<-c];exact(RF.1 b).1
       have F:j*e.size+q<i*e.size:=by
        have:(j+1)*e.size<=i*e.size:=RU _ (by omega);rw[ADH]at this;omega
       have B:i*e.size<=cells.toList.length:=by
        have:=d;simp;omega
       simp only[Ax,RN];rw[RZ (by rw[OS];omega),Sz,BY F];exact f q u b
      rename_i D;have E:j=i:=by
       have:=(RF.1 a).1;simp at this;omega
      subst E;have L:z=y:=by
       rw[hp,AE5]at a;simpa using a.symm
      subst L;refine⟨(ev x).cells.toList,by simpa using h1,λq u b=>?_,A⟩;have H:q<(ev x).cells.toList.length:=(RF.1 b).1;have B:j*e.size<=cells.toList.length:=by
       have:=d;simp;omega
      have hl:(cells.toList.take (j*e.size)).length=j*e.size:=by rw[OS];omega
      simp only[Ax,RN];rw[RW (by rw[hl];omega),hl,RZ (by omega)];rw[show j*e.size+q-j*e.size=q by omega];exact b
     obtain⟨cells',c,f,g⟩:=eD (N:=N) s m K (pre:=pre++[y]) (cells:=(Ax cells.toList (i*e.size) (ev x).cells.toList).toArray) (by simp[t,hs]) (by omega) (by simp[hp]) (by simpa using G);refine⟨cells',?_,by rw[f];simp[t],by simpa using g⟩;rw[RS,VW (by rw[h1]) d];exact c
    cases h
  cases h
theorem aH {w:World} {et:TypeId} {sz n:Nat} {cells:Array Value} (hs:cells.size=n*sz) (hn:n<=AO) :
  (w.alloc (.cells cells et)).ownsRow w.heap.size et sz (.slice (some ⟨w.heap.size,0,none⟩) n n) n cells.toList :=
 ⟨by simpa using hs,.inr ⟨w.heap.size,n,cells,rfl,If _,heap_alloc_new w _,If _,by have h1:AO=140737488355328:=rfl;have a:maxLen=9223372036854775807:=rfl;omega,hs,At (by simp[hs])⟩⟩
theorem Pt (hT:EU P tb id ti) (c:DH P tb) (m:∀n o,lk n σ.objs=some o->A3 (vw w O0 σ ρ) o (ρ n)) {ev:Operand->Value} (l:Ha (vw w O0 σ ρ) σ ev) {d n:Nat} {parts:List (Nat×Operand)}
  (h:Bc false σ d n parts (some ti)=some (vc,v,obs)) (t:vc) (hf:Bd obs σ=true) :
  ∃u ρ' w',(Instr.buildSlice id n (parts.map λp=>(p.1,ev p.2)).toArray).run P w=.ok u w'/\QS w O0 σ ρ v obs u ρ' w':=by
 unfold Bc at h;split at h
 .rename_i e offs el b k;cases k;obtain⟨hu,hs,te,s,rfl⟩:=CU hT c;obtain⟨z,x,A⟩:=Ps (c _ _ s) w;cases hp:E4 σ te.ty 0 parts with
  | none=>rw[hp]at h;simp[Bg]at h
  | some xs =>
   rw[hp]at h;simp only[Bg,iN,ADz]at h;cases h;obtain⟨hn,y⟩:=t;subst hn;have q:=te.ty.size_pos;obtain⟨cells',h1,j,a⟩:=eD (V:=vw w O0 σ ρ) m l hp (N:=xs.length) (pre:=[]) (cells:=(Array.range (xs.length*te.ty.size)).map (λi=>(if xs.length*te.ty.size=0 then (#[]:Array Value) else z.cells)[i % (if xs.length*te.ty.size=0 then (#[]:Array Value) else z.cells).size]!)) (by simp) (by omega) rfl (Hj _ _ _ _);have g:xs.length<=AO:=by
    have:xs.length*1<=xs.length*te.ty.size:=AEn _ q;simp only[AO];omega
   have r:cells'.size=xs.length*te.ty.size:=by rw[j];simp
   refine⟨_,_,_,?_,QS.arr hf (FX w _) (aH (et:=el) r g) g (by rw[ADP]at a;exact a) rfl⟩;have f:¬(xs.length*te.ty.size > 16777216):=by omega
   by_cases h0:xs.length*te.ty.size=0
   .simp only[h0,ADv]at h1;simp[Instr.buildSlice,RL hu,hs,f,h0,newRow];simp at h1;simp[h1]
   simp only[h0,ADz]at h1;simp only[Instr.buildSlice,ADx,RL hu,iF,hs,As f,As h0,x,AED,h1,newRow];rfl
 cases h
theorem A9f (hT:EU P tb id ti) (G:DH P tb) (ad:∀n o,lk n σ.objs=some o->A3 (vw w O0 σ ρ) o (ρ n)) {ev:Operand->Value} (W:Ha (vw w O0 σ ρ) σ ev) {d n:Nat} {A:TypeId} {parts:List (Nat×Operand)}
  (h:JT σ d A n parts (some ti)=some (vc,v,obs)) (D:vc) (hf:Bd obs σ=true) :
  ∃u ρ' w',(Instr.buildSlice id n (parts.map λp=>(p.1,ev p.2)).toArray).run P w=.ok u w'/\QS w O0 σ ρ v obs u ρ' w':=by
 unfold JT at h;split at h
 .rename_i x t offs el b U;cases U;obtain⟨hu,hs,te,ag,rfl⟩:=CU hT G;obtain⟨z,ah,am⟩:=Ps (G _ _ ag) w;cases hx:Ap σ x with
  | none=>rw[hx]at h;unfold JS at h;split at h<;>first|(cases h;done)|(rename_i E;cases E)
  | some av =>
   rw[hx]at h;unfold JS at h;split at h
   .rename_i k e M ao hty R;cases R;have key:∀(c:k.den) (c1:List Value) (a:Option Addr),Ng (vw w O0 σ ρ) M c1->E2 false σ k M=some c->ev x=.agg (c1++[Value.slice a 0 0]).toArray->n=1/\k.size+1<=16777216->Bd [(d,Obj.nest el A k e [(c,[])] none)] σ=true ->
      ∃u ρ' w',(Instr.buildSlice id n ([(0,x)].map λp=>(p.1,ev p.2)).toArray).run P w=.ok u w'/\QS w O0 σ ρ (.sr d (.agg (.prod k (.slice e))) 0 1) [(d,.nest el A k e [(c,[])] none)] u ρ' w':=by
     intro c c1 a h1 s B Z hf;obtain⟨rfl,ak⟩:=Z;have Y:Lay (.slice none 0 0) (.slice a 0 0):=.inr ⟨rfl,a,rfl⟩;have C:=p7 (O':=own O0 σ ρ) (λ_ h=>h) (λh=>by cases h) ad s h1;have C:B0 w (own O0 σ ρ) k c1 c:=C;have hl:=C.length;have af:te.ty.size=k.size+1:=by rw[hty];rfl
     rw[af]at hs;have H:(ev x).cells.toList=c1++[Value.slice a 0 0]:=by rw[B];simp[Value.cells]
     have ae:Instr.fill (λi=>some (i*(k.size+1),k.size+1)) ((Array.range (1*(k.size+1))).map (λi=>z.cells[i % z.cells.size]!)) [(0,ev x)]=some (c1++[Value.slice a 0 0]).toArray:=by
      have I:(ev x).cells.size=k.size+1:=by rw[<-AFb,H];simp[hl]
      rw[VW (by rw[I]) (by rw[I];simp)];rw[H];simp only[Instr.fill,AFA,Ax,ADl,ADP,AE4];rw[List.drop_of_length_le (by simp[hl]),Ra]
     generalize K:(Value.tuple #[Value.slice (some ⟨w.heap.size,0,none⟩) 1 1,.slice none 0 0])=loc;have aa:∀b,bk loc b->w.heap.size<=b:=by grind [A7,blk]
     have y:=aH (w:=w) (et:=el) (sz:=k.size+1) (n:=1) (cells:=(c1++[Value.slice a 0 0]).toArray) (by simp[hl]) (by simp[AO]);have y:(w.alloc (.cells (c1++[Value.slice a 0 0]).toArray el)).ownsRow 0 el (k.size+1) (.slice (some ⟨w.heap.size,0,none⟩) 1 1) 1 (c1++[Value.slice a 0 0]):=⟨y.1,y.2.imp (λh=>h) λ⟨g,cap,Q,e,_,r⟩=>⟨g,cap,Q,e,NO _,r⟩⟩;have hk:=Hy (O0:=O0) (ρ:=ρ) (ρ':=E5 ρ d loc) hf (FX w (.cells (c1++[Value.slice a 0 0]).toArray el)) (λm q=>by
      simp only[lk]at q;split at q
      .cases q
      .rename_i e;simp[E5,e]) (λm o b q S=>by
      simp only[lk]at q;split at q
      .grind [Bo]
      cases q)
     refine⟨.slice (some ⟨w.heap.size,0,none⟩) 1 1,E5 ρ d loc,w.alloc (.cells (c1++[Value.slice a 0 0]).toArray el),?_,QS.one (FX w _) aa ?_ ?_⟩
     .have ab:¬(1*(k.size+1) > 16777216):=by omega
      have h0:¬(1*(k.size+1)=0):=by omega
      simp only[Instr.buildSlice,ADx,RL hu,iF,hs,As ab,As h0,ah,AED,RS,AEL,ae,newRow];rfl
     .refine⟨⟨.nest el A k e [(c,[])] none,by simp[ET,lk]⟩,?_⟩;show DT (plc (E5 ρ d loc d)) _ 0 1 _;rw[Bo,<-K];exact GW y
     refine⟨_,[.slice none 0 0],c1++[Value.slice a 0 0],.inl K.symm,by simp[AO],rfl,y,λi an u hi hu=>?_,λi j b u v hi J hu al=>?_,λi b u hi S _=>?_⟩
     .rcases i with _|i
      .simp only[AEE,ADj]at hi hu;subst hi hu;refine⟨c1,.slice a 0 0,λj z J=>by simpa using J,C.mono hk.O hk.heap,.inr ⟨rfl,Y,by simp[AO],[],AEC _ 0 A _,Hj _ _ _ _⟩⟩
      simp at hi
     .grind
     grind [blk]
    unfold Ke at h;obtain⟨cs,B,T⟩:=W x _ hx;obtain⟨c1,c2,rfl,h1,E⟩:=T;obtain⟨ai,N,rfl,f,F⟩:=E;have F:N=[]:=F;subst F;split at h
    .rename_i c s;cases h;obtain⟨L,rfl,_,f⟩:=f;have f:L=.slice none 0 0:=f;subst f;exact key c c1 none h1 s (by rw[B];simp) D hf
    .rename_i c aj l s;split at h
     .rename_i V;subst V;cases h;obtain⟨L,rfl,_,_,a,f⟩:=f;obtain⟨D,X⟩:=D;rw[X]at f;subst f;exact key c c1 a h1 s (by rw[B];simp) D hf
     cases h
    cases h
   cases h
 cases h
theorem YF (z:List Value) (f:0<z.length) (n:Nat) {i j:Nat} (b:j<z.length) (hi:i*z.length+j<n) {u:Value} (hu:z[j]?=some u) :
  (madeCells z.toArray n)[i*z.length+j]?=some u:=by
 simp only[madeCells,Array.getElem?_map,List.size_toArray];have e:(Array.range n)[i*z.length+j]?=some (i*z.length+j):=by grind
 rw[e];have d:(i*z.length+j) % z.length=j:=by
  rw[Nat.mul_comm,Nat.mul_add_mod];exact Nat.mod_eq_of_lt b
 simp only[AEm,d];have c:=(RF.1 hu);obtain⟨h1,a⟩:=c;simp[h1,a]
theorem A5A (hT:EU P tb id ti) (f:DH P tb) {e:Ty} {offs:List (Nat×Nat)} {el:TypeId} {b:Nat} (y:ti=⟨.slice e,offs,el,b⟩) {te:TI} (l:lk el tb.ty=some te) {n:Int} {d:Nat}
  (h0:0<=n) (hn:n.toNat*te.bytes<=AO) (hf:Bd [(d,.arr el e (List.replicate n.toNat e.dflt))] σ=true) :
  ∃u ρ' w',(Instr.makeSlice id (.int .i64 n) (.int .i64 n)).run P w=.ok u w'/\QS w O0 σ ρ (.sr d e 0 n.toNat) [(d,.arr el e (List.replicate n.toNat e.dflt))] u ρ' w':=by
 subst y;obtain⟨hu,hs,F,m,rfl⟩:=CU hT f;rw[l]at m;cases m;obtain⟨⟨⟨_,p,_⟩,i,z,hi,k,D,B,C⟩,_⟩:=f _ _ l;have E:=te.ty.size_pos;have a:n.toNat<=AO:=by
  have:n.toNat*1<=n.toNat*te.bytes:=AEn _ p;omega
 have o:(i.bytes:Int)*n<=281474976710656:=by grind [AO]
 have v:=run_make (P:=P) w id el i z hu hi B .i64 .i64 n n h0 (ADC _) o (by simp only[AO]at a;omega);have c:te.ty.zero.length=te.ty.size:=(B0.zero w (λ_=>False) te.ty).length;refine⟨_,_,_,v,QS.arr hf (FX w _) (aH (et:=el) (sz:=te.ty.size) (n:=n.toNat) (cells:=madeCells z.cells (n.toNat*i.size)) (by rw[size_madeCells,k]) a |> λh=>by simpa using h) (by simpa using a) ?_ (by simp)⟩;intro j x hx;have r:=(RF.1 hx).1;simp only[AF2]at r;have A:x=te.ty.dflt:=by grind
 subst A;refine⟨te.ty.zero,c,λq u g=>?_,B0.zero _ _ _⟩;have t:=(RF.1 g).1;have s:j*te.ty.zero.length+q<n.toNat*i.size:=by
  rw[k,c];have:(j+1)*te.ty.size<=n.toNat*te.ty.size:=RU _ (by omega);rw[ADH]at this;omega
 have:=YF te.ty.zero (by omega) (n.toNat*i.size) t s g;rw[c]at this;rw[C];simpa using this
theorem A9g (hT:EU P tb id ti) (i:DH P tb) {d:Nat} {x y:AV} {xv c:Value} (h:Iw tb d (some ti) (some x) (some y)=some (vc,v,obs)) (o:vc)
  (hx:B3 (vw w O0 σ ρ) x xv) (p:B3 (vw w O0 σ ρ) y c) (hf:Bd obs σ=true) :
  ∃u ρ' w',(Instr.makeSlice id xv c).run P w=.ok u w'/\QS w O0 σ ρ v obs u ρ' w':=by
 unfold Iw at h;split at h
 .rename_i e offs el b n m j k l;cases j;cases k;cases l;cases a:lk el tb.ty with
  | none=>rw[a]at h;simp[Ll]at h
  | some te =>
   rw[a]at h;simp only[Ll]at h;cases h;obtain⟨rfl,_⟩:=BF hx;obtain⟨rfl,_⟩:=BF p;obtain⟨h1,f,g⟩:=o;have h1:n=m:=h1;subst h1;exact A5A hT i rfl a f g hf
 cases h
end
end
section
open Go Go.RowKit
theorem YY {w:World} {O:Nat->Prop} {e:Ty}:∀ {l:List e.den} {ad:Addr},
  (∀(i:Nat) (x:e.den),l[i]?=some x->∃b:List Value,b.length=e.size/\(∀(j:Nat) (v:Value),b[j]?=some v->w.cell? (ad.add (i*e.size+j))=some v)/\B0 w O e b x) ->
  ∃c:List Value,c.length=l.length*e.size/\Dm w O e c l/\(∀u∈c,u.oneCell'=true)/\(∀(j:Nat) (u:Value),c[j]?=some u->w.cell? (ad.add j)=some u)
 | [],ad,h=>⟨[],by simp,Hj _ _ _ _,by simp,by simp⟩
 | x :: l,ad,h=>by
  obtain⟨b,h1,q,m⟩:=h 0 x rfl;obtain⟨c,n,o,p,r⟩:=YY (w:=w) (O:=O) (e:=e) (l:=l) (ad:=ad.add e.size) (λi y hi=>by
   obtain⟨d,f,g,k⟩:=h (i+1) y (by simpa using hi);refine⟨d,f,λj v a=>?_,k⟩;rw[DQ,show e.size+(i*e.size+j)=(i+1)*e.size+j by rw[ADH];omega];exact g j v a)
  refine⟨b++c,by simp[h1,n,ADH];omega,λi y hi=>?_,λu hu=>?_,λj u a=>?_⟩
  .cases i with
   | zero =>
    simp at hi;subst hi;refine⟨b,h1,λj u a=>?_,m⟩;rw[AFA,AE4,RZ (RF.1 a).1];exact a
   | succ i =>
    obtain⟨d,f,g,k⟩:=o i y (by simpa using hi);refine⟨d,f,λj u a=>?_,k⟩;rw[RW (by rw[h1,ADH];omega),h1,show (i+1)*e.size+j-e.size=i*e.size+j by rw[ADH];omega];exact g j u a
  .rcases Is.1 hu with hu|hu
   .exact m.one u hu
   exact p u hu
  grind [DQ]
section
variable {P:Program} {tb:Tb} {id:TypeId} {ti:TI} {w:World} {O0:Nat->Prop} {σ:St} {ρ:Nat->Value} {vc:Prop} {v:AV} {obs:List (Nat×Obj)}
structure Src (w:World) (O:Nat->Prop) (e:Ty) (xv:Value) (ys:List e.den) (news:List Value):Prop where
 form:∃(a:Option Addr) (c:Nat),xv=.slice a ys.length c/\(ys=[]\/∃ad,a=some ad/\∀(j:Nat) (u:Value),news[j]?=some u->w.cell? (ad.add j)=some u)
 len:news.length=ys.length*e.size
 elems:Dm w O e news ys
 one:∀u∈news,u.oneCell'=true
 max:ys.length<=AO
theorem UY (w:World) (O:Nat->Prop) (e:Ty) (a:Option Addr) (c:Nat):Src w O e (.slice a 0 c) [] [] :=
 ⟨⟨a,c,rfl,.inl rfl⟩,by simp,Hj _ _ _ _,by simp,by simp[AO]⟩
theorem YZ {V:Vw} {et:TypeId} {e:Ty} {xs:List e.den} {loc:Value} {cells:List Value} (k:V.w.ownsRow 0 et e.size loc xs.length cells) (g:Dm V.w V.O e cells xs):∀u∈cells,u.oneCell'=true:=by
 intro u hu;obtain⟨j,h,i⟩:=ADu.1 hu;have hl:=k.1;have c:=e.size_pos;have hi:j / e.size<xs.length:=by
  rw[Nat.div_lt_iff_lt_mul c];omega
 obtain⟨a,h1,d,f⟩:=g (j / e.size) (xs[j / e.size]) (AT hi);have b:j % e.size<a.length:=by rw[h1];exact AFF _ c
 have:=d (j % e.size) (a[j % e.size]) (AT b);rw[show j / e.size*e.size+j % e.size=j by rw[Nat.mul_comm];exact Nat.div_add_mod j e.size]at this;rw[AT h]at this;injection this with this
 rw[<-i,this];exact f.one _ (S3 b)
def noN (σ:St):AV->Bool
 | .sr n _ _ _=>Co (lk n σ.objs)
 | _=>false
theorem qA {w:World} {O:Nat->Prop} {et:TypeId} {e2:Ty} {xs:List e2.den} {loc xv:Value} {cells:List Value} {lo hi:Nat} (L:xs.length<=AO) (d:w.ownsRow 0 et e2.size loc xs.length cells) (k:Dm w O e2 cells xs) (D:DT loc e2.size lo hi xv) :
  ∃E,Src w O e2 xv (sub xs lo hi) E:=by
 have P:=YZ (V:=⟨w,O,λ_=>False,λ_=>undef⟩) d k;obtain⟨a,m,c,o,J,l,f,h,rfl,F,h0,h1⟩:=D;have B:m=xs.length:=by
  rcases d.2 with ⟨b,C⟩|⟨g,cap,p,b,_⟩
  .grind
  rw[o]at b;injection b
 subst B;have hl:=OT xs (lo:=lo) l;by_cases z:lo<hi
 .rcases d.2 with ⟨b,C⟩|⟨g,cap,p,b,r⟩
  .omega
  have G:=World.ownsRow.cells d (g:=g) (by rw[b];rfl);have ha:a=some ⟨g,0,none⟩:=by rw[o]at b;injection b
  subst ha;have H:=d.1;have M:hi*e2.size<=xs.length*e2.size:=RU _ l;have N:lo*e2.size<=hi*e2.size:=RU _ (by omega);refine⟨(cells.drop (lo*e2.size)).take ((hi-lo)*e2.size),⟨f,h,by rw[hl],.inr ⟨_,h1 z,λj u e=>?_⟩⟩,?_,?_,?_,?_⟩
  .grind [DQ]
  .rw[hl,OS,S0,Nat.sub_mul];omega
  .intro i x y;obtain⟨hx,K⟩:=aB xs lo hi i y;obtain⟨q,s,t,v⟩:=k (lo+i) x hx;refine⟨q,s,λj u e=>?_,v⟩;have I:=(RF.1 e).1;have A:i*e2.size+j<(hi-lo)*e2.size:=by
    have:(i+1)*e2.size<=(hi-lo)*e2.size:=RU _ (by omega);rw[ADH]at this;omega
   rw[Sz,BY A,AAk];have:=t j u e
   rwa [AF0,AFv]at this
  .grind
  rw[hl];omega
 have n:sub xs lo hi=[]:=RQ (by rw[hl];omega);refine⟨[],⟨f,h,by rw[hl],.inl n⟩,by rw[hl,show hi-lo=0 by omega];simp,?_,by simp,by rw[hl];omega⟩;rw[n];exact Hj _ _ _ _
theorem aI (q:∀n o,lk n σ.objs=some o->A3 (vw w O0 σ ρ) o (ρ n)) {e:Ty} {x:AV} {xv:Value} {ys:List e.den} (h:Mx true σ (.slice e) x=some ys) (C:noN σ x=false) (hx:B3 (vw w O0 σ ρ) x xv) :
  ∃A,Src w (own O0 σ ρ) e xv ys A:=by
 replace h:E2 true σ (.slice e) x=some ys:=by
  unfold Mx at h;exact h
 cases x;case p u F =>
  have h:BO (.slice e) ⟨u,F⟩=some ys:=by simpa only[E2] using h
  have:=A8 h;injection this with h1 B
  subst h1;cases B;obtain⟨cs,⟨a,c,rfl,m,J,s⟩,rfl⟩:=hx;by_cases hn:ys=[]
  .subst hn;exact⟨[],UY _ _ _ _ _⟩
  rcases s with s|⟨ad,rfl,U,g⟩
  .exact absurd s hn
  obtain⟨A,d,f,H,I⟩:=YY g;exact⟨A,⟨some ad,c,rfl,.inr ⟨ad,rfl,I⟩⟩,d,f,H,J⟩
 case sr n G lo hi =>
  simp only[E2]at h;split at h
  .rename_i t;obtain⟨_,rfl⟩:=t;obtain⟨K,b⟩:=hx;cases hn:lk n σ.objs with
   | none=>rw[hn]at h;simp[Rc]at h
   | some o =>
    rw[hn]at h;cases o with
    | box et st fs=>simp[Rc]at h
    | mapo k v l=>simp[Rc]at h
    | frame ae fs=>simp[Rc]at h
    | loop L=>simp[Rc]at h
    | itr Y ab Z aa X=>simp[Rc]at h
    | dfr=>simp[Rc]at h
    | nest et S k e2 xs hl=>rw[noN,hn]at C;cases C
    | arr et e2 xs =>
     simp only[Rc]at h;obtain⟨d,f⟩:=Bh h;subst d;cases f;have b:DT (plc (ρ n)) e2.size lo hi xv:=b;rw[UX (q n _ hn)]at b;obtain⟨y,cells,j,g⟩:=q n _ hn;exact qA y j g b
  cases h
 case nin n G i len =>
  simp only[E2]at h;split at h
  .rename_i t;obtain⟨_,rfl⟩:=t;obtain⟨K,ag,a,c,E,D,r,O,V⟩:=hx;cases hn:lk n σ.objs with
   | none=>rw[hn]at h;simp[Rh]at h
   | some o =>
    rw[hn]at h;unfold Rh at h;split at h
    .rename_i et S k e2 xs Q;cases Q;obtain⟨d,f⟩:=Bh h;subst d;cases f;have N:=aE (z:=(k.dflt,[])) (q n _ hn) D r;obtain⟨o,ins,cells,hl,M⟩:=q n _ hn;obtain rfl:=hl.tup D;have r:ins[i]?=some E:=by simpa using r
     obtain⟨c1,af,h1,B,m⟩:=M.row i _ E N r;rcases m with ⟨m,_⟩|⟨_,_,y,W,j,g⟩
     .cases m
     rcases O with rfl|⟨rfl,T,rfl⟩
     .have:=qA y j g (GW j)
      rwa [Ip]at this
     have P:=Kq j;have R:(xs.getD i (k.dflt,[])).2=[]:=RQ P.symm;rw[R];exact⟨[],UY _ _ _ _ _⟩
    cases h
  cases h
 case raw u =>
  have b:xv=u:=hx;subst b;cases xv with
  | slice a n c =>
   cases a with
   | some a=>simp[E2]at h
   | none =>
    cases n with
    | succ n=>simp[E2]at h
    | zero =>
     cases c with
     | succ c=>simp[E2]at h
     | zero =>
      simp only[E2]at h;cases h;exact⟨[],UY _ _ _ _ _⟩
  | _=>simp[E2]at h
 all_goals simp[E2]at h
theorem UZ (a:∀n o,lk n σ.objs=some o->A3 (vw w O0 σ ρ) o (ρ n)) {e:Ty} {x:AV} {xv:Value} {ys:List e.den} (h:Pf σ e x=some ys) (hx:B3 (vw w O0 σ ρ) x xv) :
  ∃d,Src w (own O0 σ ρ) e xv ys d:=by
 unfold Pf at h;split at h
 .split at h
  .cases h
  rename_i b;exact aI a h (by simpa[noN] using b) hx
 rename_i c;refine aI a h ?_ hx;cases x<;>first|rfl|exact absurd rfl (c _ _ _ _)
theorem TF {el:TypeId} (hu:P.underlying id=some (.slice el)) {sz:Nat} (hs:(sizeOf el).run P w=.ok sz w) {base et ty:Nat} {s:Value} {n:Nat} {xs:List Value} (b:w.ownsRow base et sz s n xs) (c:Nat) :
  (Builtin.append_ #[id,id] ty #[s,.slice none 0 c]).run P w=.ok s w:=by
 rcases b.2 with ⟨rfl,rfl⟩|⟨g,cap,d,rfl,_,_,a,_⟩
 .simp[Builtin.append_,RL hu,hs,Builtin.lenOf,Builtin.firstCells]
 simp[Builtin.append_,RL hu,hs,Builtin.lenOf,Builtin.firstCells,a,storeCells]
theorem GX (k:DH P tb) {el:TypeId} {e:Ty} (hu:P.underlying id=some (.slice el)) {te:TI} (q:lk el tb.ty=some te) (A:te.ty=e) {base ty:Nat} {s xv:Value} {n:Nat} {xs h:List Value}
    (g:w.ownsRow base el e.size s n xs) {O:Nat->Prop} {ys:List e.den} (D:Src w O e xv ys h) (r:(n+ys.length)*te.bytes<=AO) (l:base<=w.heap.size) :
    ∃b w',(Builtin.append_ #[id,id] ty #[s,xv]).run P w=.ok b w'/\w'.ownsRow base el e.size b (n+ys.length) (xs++h)/\w.grownBy w' s.ownBlock/\n+ys.length<=AO:=by
  subst A;obtain⟨⟨⟨_,x,_⟩,i,z,hi,p,m,t,u⟩,_⟩:=k _ _ q;have f:n+ys.length<=AO:=by
    have:(n+ys.length)*1<=(n+ys.length)*te.bytes:=AEn _ x;omega
  obtain⟨⟨a,c,rfl,v⟩,o,E,C,F⟩:=D;have hs:(sizeOf el).run P w=.ok te.ty.size w:=Hz w (k _ _ q);rcases v with rfl|⟨ad,rfl,y⟩
  . have B:h=[]:=RQ (by simpa using o)
    subst B;cases a with
    | none =>
      refine⟨s,w,TF hu hs g c,by simpa using g,⟨rfl,rfl,rfl,If _,λ_ _ _=>rfl⟩,f⟩
    | some ad =>
      obtain⟨b,w',h1,d,j,_⟩:=run_append_own (P:=P) w base id ty el i z te.ty.size te.bytes hu hi t p m (by rw[u];simpa using (B0.zero w (λ_=>False) te.ty).length) te.ty.size_pos s n xs g ad 0 c [] (by simp) (by simp) (by simp)
        (by have h1:AO=140737488355328:=rfl;have d:maxLen=9223372036854775807:=rfl;simp at f;omega) (by simpa[AO] using r) l
      exact⟨b,w',h1,by simpa using d,j,f⟩
  obtain ⟨b, w', h1, d, j, _⟩ := run_append_own (P := P) w base id ty el i z te.ty.size te.bytes hu hi t p m (by rw [u]; simpa using (B0.zero w (λ_ => False) te.ty).length) te.ty.size_pos s n xs g ad ys.length c h o y C
      (by have h1:AO=140737488355328:=rfl;have d:maxLen=9223372036854775807:=rfl;omega) (by simpa[AO] using r) l
  exact⟨b,w',h1,d,j,f⟩
theorem Ks {w:World} {O:Nat->Prop} {e:Ty} {c1 c2:List Value} {xs ys:List e.den} (h1:Dm w O e c1 xs) (f:Dm w O e c2 ys) (hl:c1.length=xs.length*e.size):Dm w O e (c1++c2) (xs++ys):=by
 intro i x hi;rw[AAi]at hi;split at hi
 .obtain⟨a,b,c,d⟩:=h1 i x hi;grind
 rename_i h;obtain⟨a,b,c,d⟩:=f _ x hi;refine⟨a,b,λj u g=>?_,d⟩;have k:xs.length*e.size<=i*e.size:=RU _ (by omega);rw[RW (by omega),hl];have:=c j u g;rw[Nat.sub_mul]at this;rw[<-this]
 congr 1
 omega
theorem TG (k:DH P tb) {el:TypeId} {e:Ty} (hu:P.underlying id=some (.slice el)) {te:TI} (m:lk el tb.ty=some te) (v:te.ty=e) {ty:Nat} {xv:Value} {O:Nat->Prop} {xs:List e.den} {a:Option Addr} {c:List Value}
  (hs:Src w O e (.slice a xs.length xs.length) xs c) {ys:List e.den} {d:List Value} (l:Src w O e xv ys d) (h0:0<ys.length) (n:(xs.length+ys.length)*te.bytes<=AO) :
  ∃b w',(Builtin.append_ #[id,id] ty #[.slice a xs.length xs.length,xv]).run P w=.ok b w'/\w'.ownsRow w.heap.size el e.size b (xs.length+ys.length) (c++d)/\w.grownBy w' none:=by
 subst v;have o:∀ad:Addr,a=some ad->(∀(j:Nat) (u:Value),c[j]?=some u->w.cell? (ad.add j)=some u)->∃b w',(Builtin.append_ #[id,id] ty #[.slice a xs.length xs.length,xv]).run P w=.ok b w'/\w'.ownsRow w.heap.size el te.ty.size b (xs.length+ys.length) (c++d)/\w.grownBy w' none:=by
  intro ad ha C;subst ha;obtain⟨⟨⟨_,r,_⟩,i,z,hi,D,s,E,F⟩,_⟩:=k _ _ m;obtain⟨⟨H,c2,rfl,f⟩,y,K,R,M⟩:=l;have Q:xs.length+ys.length<=AO:=by
   have:(xs.length+ys.length)*1<=(xs.length+ys.length)*te.bytes:=AEn _ r;omega
  rcases f with rfl|⟨p,rfl,g⟩
  .simp at h0
  exact run_append_arg_grows (P:=P) w id ty el i z te.ty.size te.bytes hu hi E D s (by rw[F];simpa using (B0.zero w (λ_=>False) te.ty).length) te.ty.size_pos ad xs.length xs.length c hs.len C p ys.length c2 d y g (by omega)
   (by have h1:AO=140737488355328:=rfl;have h:maxLen=9223372036854775807:=rfl;omega) (by simpa[AO] using n)
 obtain⟨⟨G,c1,t,f⟩,A,L,S,N⟩:=hs;injection t with e1 e2 I
 subst e1;rcases f with rfl|⟨ad,ha,g⟩
 .have B:c=[]:=RQ (by simpa using A);subst B;cases a with
  | some ad=>exact o ad rfl λj u x=>by simp at x
  | none =>
   obtain⟨b,w',h1,h,q,J⟩:=GX (ty:=ty) k hu m rfl (AEC w w.heap.size el te.ty.size) l (by simpa using n) (If _);exact⟨b,w',h1,by simpa using h,q⟩
 exact o ad ha g
theorem TH {w w':World} (h:w.grownBy w' none):Below w.heap.size w w':=⟨h.os,h.tape,h.output,h.size,λk hk=>h.block k hk (by simp)⟩
theorem A23 (a:DH P tb) (C:∀n o,lk n σ.objs=some o->A3 (vw w O0 σ ρ) o (ρ n)) {d:Nat} {t u:TypeId} {x y:AV} {xv H:Value} {ty:TypeId}
  (h:DX tb σ d t u (some x) (some y)=some (vc,v,obs)) (m:vc) (hx:B3 (vw w O0 σ ρ) x xv) (F:B3 (vw w O0 σ ρ) y H) (hf:Bd obs σ=true) :
  ∃z ρ' w',(Builtin.append_ #[t,u] ty #[xv,H]).run P w=.ok z w'/\QS w O0 σ ρ v obs z ρ' w':=by
 unfold DX at h;split at h
 .rename_i A B;cases A;cases B;have hx:xv=_:=hx;subst hx;split at h
  .rename_i E;subst E;cases c:lk t tb.ty with
   | none=>rw[c]at h;simp[Ee]at h
   | some ti =>
    rw[c]at h;unfold Ee at h;split at h
    .rename_i e offs el b s;cases s;obtain⟨hu,hs,te,i,k⟩:=CU (a _ _ c) a;rw[i]at h;cases f:Pf σ e y with
     | none=>rw[f]at h;simp[E9]at h
     | some ys =>
      rw[f]at h;simp only[E9]at h;cases h;obtain⟨G,g⟩:=UZ C f F;obtain⟨q,w',h1,j,r,N⟩:=GX (ty:=ty) a hu i k (AEC w w.heap.size el e.size) g (by simpa using m) (If _);have j:w'.ownsRow w.heap.size el e.size q ys.length G:=by simpa using j
      exact⟨q,_,w',h1,QS.arr hf (TH r) j g.max g.elems rfl⟩
    cases h
  cases h
 .rename_i e l v1 A B;cases A;cases B;split at h
  .rename_i E;subst E;obtain⟨K,M,rfl⟩:=hx;cases c:lk t tb.ty with
   | none=>rw[c]at h;simp[JU]at h
   | some ti =>
    rw[c]at h;unfold JU at h;split at h
    .rename_i e2 offs el b s;cases s;split at h
     .rename_i k;subst k;obtain⟨hu,hs,te,i,k⟩:=CU (a _ _ c) a;rw[i]at h;cases f:Pf σ e2 y with
      | none=>rw[f]at h;simp[Kh]at h
      | some ys =>
       rw[f]at h;simp only[Kh]at h;cases h;obtain⟨L,m⟩:=m;obtain⟨G,g⟩:=UZ C f F;obtain⟨O,D⟩:=aI (e:=e2) (ys:=l) (x:=.p (.slice e2) l) C (by simp[Mx,E2,FU]) rfl K;obtain⟨q,w',h1,j,r⟩:=TG (ty:=ty) a hu i k D g L m;have J:(l++ys).length<=AO:=by
        obtain⟨⟨⟨_,I,_⟩,_⟩,_⟩:=a _ _ i;have:(l.length+ys.length)*1<=(l.length+ys.length)*te.bytes:=AEn _ I;rw[By];omega
       exact⟨q,_,w',h1,QS.arr hf (TH r) (by rw[By];exact j) J (Ks D.elems g.elems D.len) (by rw[By])⟩
     cases h
    cases h
  cases h
 cases h
end
end
section
open Go Go.RowKit
def VX:Ty->Option TypeDesc
 | .int k=>some (.int k)
 | .bool=>some .bool
 | .str=>some .string
 | .prod _ _=>none
 | .agg _=>none
 | .slice _=>none
 | .ref _=>none
section
variable {w:World} {O:Nat->Prop}
theorem M4 {a:Ty} {d:TypeDesc} (b:VX a=some d) {k:a.den} {c:Value} (h:BR w O a c k):MapKept.IsKey d c:=by
 cases a<;>simp only[VX]at b<;>try(cases b;done)
 all_goals cases b
 .obtain⟨rfl,_⟩:=BF h;trivial
 .have:=EL h;subst this;trivial
 obtain⟨rfl,_⟩:=Gv h;trivial
theorem eE {a:Ty} {d:TypeDesc} (c:VX a=some d) {k e:a.den} {f g:Value} (h:BR w O a f k) (b:BR w O a g e):Instr.sameNow d f g=some (Ik a k e):=by
 cases a<;>simp only[VX]at c<;>try(cases c;done)
 all_goals cases c
 .obtain⟨rfl,_⟩:=BF h;obtain⟨rfl,_⟩:=BF b;simp[Instr.sameNow,Ik]
 .have:=EL h;subst this;have:=EL b;subst this;simp[Instr.sameNow,Ik]
 obtain⟨rfl,_⟩:=Gv h;obtain⟨rfl,_⟩:=Gv b;simp[Instr.sameNow,Ik]
theorem A9h {a:Ty} {d:TypeDesc} (b:VX a=some d) {k e:a.den} {f g:Value} (h:BR w O a f k) (c:BR w O a g e) (l:Ik a k e=true):g=f:=by
 have h1:=eE b h c;obtain⟨r,i,j⟩:=MapKept.sameNow_of_keys (M4 b h) (M4 b c);grind
def Lu (a b:Ty) (k:a.den):List MapEntry->List (a.den×b.den)->Nat->Option (Nat×Value)
 | e :: c,x :: l,i=>if Ik a k x.1=true then some (i,e.val) else Lu a b k c l (i+1)
 | _,_,_=>none
end
structure aJ (P:Program) (kid:TypeId) (kt:Ty):Prop where
 check:∀ {w:World} {O:Nat->Prop} {kv:Value} {k:kt.den} (em:Bool),BR w O kt kv k->(Instr.checkKey em 10000 kid kv).run P w=.ok () w
 find:∀ {w:World} {O:Nat->Prop} {vt:Ty} {es:List MapEntry} {l:List (kt.den×vt.den)} {kv:Value} {k:kt.den},BR w O kt kv k->OP w O kt vt es l->(Instr.findKey kid kv es).run P w=.ok (Lu kt vt k es l 0) w
 stays:∀ {w:World} {O:Nat->Prop} {kv:Value} {k:kt.den},BR w O kt kv k->(Instr.keyThatStays kv kv).run P w=.ok kv w
 same:∀ {w:World} {O:Nat->Prop} {kv kv':Value} {k k':kt.den},BR w O kt kv k->BR w O kt kv' k'->Ik kt k k'=true->kv'=kv
theorem Ya {w:World} {O:Nat->Prop} {a c:Ty} {d:TypeDesc} (g:VX a=some d) {k:a.den} {j:Value} (hk:BR w O a j k):∀ {b:List MapEntry} {l:List (a.den×c.den)},OP w O a c b l->∀i,Instr.findNow d j b i=some (Lu a c k b l i)
 | [],[],_,i=>rfl
 | [],_ :: _,h,_=>h.elim
 | _ :: _,[],h,_=>h.elim
 | e :: b,x :: l,⟨h1,o,m⟩,i=>by
  have hs:=eE g hk h1;have n:=Ya g hk m (i+1);cases f:Ik a k x.1<;>rw[f]at hs<;>simp[Instr.findNow,Lu,hs,f,n]
theorem JZ {P:Program} {kid:TypeId} {kt:Ty} {d:TypeDesc} (hd:VX kt=some d) (hu:P.underlying kid=some d):aJ P kid kt where
 check:=λem h=>MapKept.run_checkKey hu (M4 hd h) em 9999
 find:=λhk he=>MapKept.run_findKey hu (Ya hd hk he 0)
 stays:=λh=>MapKept.run_keyThatStays (M4 hd h)
 same:=λh h' he=>A9h hd h h' he
theorem Hk {w:World} {O:Nat->Prop} {a b:IntKind} {v:Value} {d:(Ty.agg (.prod (.int a) (.int b))).den} (h:BR w O (.agg (.prod (.int a) (.int b))) v d):v=.agg #[.int a d.1,.int b d.2]:=by
 obtain⟨cs,⟨c1,c2,rfl,⟨rfl,_⟩,⟨rfl,_⟩⟩,rfl⟩:=h;rfl
theorem Lv {P:Program} {w:World} {t:TypeId} {a:IntKind} (h:P.underlying t=some (.int a)) (d:Nat) (x y:Int):(Op.equalIn (d+1) t (.int a x) (.int a y)).run P w=.ok (x==y) w:=by simp[Op.equalIn,RL h]
theorem Pu {P:Program} {w:World} {t:TypeId} {a:IntKind} (h:P.underlying t=some (.int a)) (em:Bool) (d:Nat) (x:Int):(Instr.checkKey em (d+1) t (.int a x)).run P w=.ok () w:=by simp[Instr.checkKey,RL h]
theorem YG {P:Program} {w:World} {h:TypeId} {a b:IntKind} (hp:Pp P h a b) (em:Bool) (d:Nat) (x y:Int):(Instr.checkKey em (d+2) h (.agg #[.int a x,.int b y])).run P w=.ok () w:=by
 obtain⟨c,e,hu,⟨h1,j⟩,⟨l,m⟩,⟨f,g⟩,s⟩:=hp;have i : c.name ≠ "_" := by simpa using h1
 have k : e.name ≠ "_" := by simpa using j
 have n:P.plainKey c.type=true:=by simp[Program.plainKey,f]
 have o:P.plainKey e.type=true:=by simp[Program.plainKey,g]
 have p0:=λ(u v:Value)=>AES (P:=P) w n (xs:=#[u,v]) (off:=c.offset) (v:=u) (by rw[l];rfl);have p:=λ(u v:Value)=>AES (P:=P) w o (xs:=#[u,v]) (off:=e.offset) (v:=v) (by rw[m];rfl);have q:=λx:Int=>Pu (w:=w) f em d x;have r:=λx:Int=>Pu (w:=w) g em d x;rw[Instr.checkKey];simp[RL hu,i,k,p0,p,q,r]
theorem lR {P:Program} {g:TypeId} {a b:IntKind} (hp:Pp P g a b) (w:World) (h i j k:Int):(Op.equal g (.agg #[.int a h,.int b i]) (.agg #[.int a j,.int b k])).run P w=.ok ((h==j)&&(i==k)) w:=by
 obtain⟨d,f,hu,⟨h1,l⟩,⟨r,s⟩,⟨m,n⟩,t⟩:=hp;have o:P.fieldsOf g=#[d,f]:=by simp[Program.fieldsOf,hu]
 have z:P.plainKey d.type=true:=by simp[Program.plainKey,m]
 have A:P.plainKey f.type=true:=by simp[Program.plainKey,n]
 have h1 : d.name ≠ "_" := by simpa using h1
 have l : f.name ≠ "_" := by simpa using l
 have B:∀x y:Int,(Op.equalIn 9999 d.type (.int a x) (.int a y)).run P w=.ok (x==y) w:=λx y=>Lv m 9998 x y;have p:∀x y:Int,(Op.equalIn 9999 f.type (.int b x) (.int b y)).run P w=.ok (x==y) w:=λx y=>Lv n 9998 x y;have e:(Op.equal g (.agg #[.int a h,.int b i]) (.agg #[.int a j,.int b k])).run P w=_:=run_equalIn_struct (P:=P) w 9999 g _ _ (by rw[o];exact hu) t;rw[e,o];have p0:=λ(u v:Value)=>AES (P:=P) w z (xs:=#[u,v]) (off:=d.offset) (v:=u) (by rw[r];rfl);have q:=λ(u v:Value)=>AES (P:=P) w A (xs:=#[u,v]) (off:=f.offset) (v:=v) (by rw[s];rfl);simp only[Op.eqFields,h1,l,ne_eq,not_false_eq_true,ADv,ADx,p0,q,iF,B,p];by_cases c:h=j
 .by_cases c2:i=k<;>simp[c,c2,AFx,ADx,q,p,Op.eqFields]
 simp[c,AFx]
theorem Yb {P:Program} {g:TypeId} {a b:IntKind} (hp:Pp P g a b) {w:World} {O:Nat->Prop} {d:Ty} {k:(Ty.agg (.prod (.int a) (.int b))).den} {j:Value} (hk:BR w O (.agg (.prod (.int a) (.int b))) j k) :
  ∀ {c:List MapEntry} {l:List ((Ty.agg (.prod (.int a) (.int b))).den×d.den)},OP w O (.agg (.prod (.int a) (.int b))) d c l->∀i,(Instr.findAsking g j c i).run P w=.ok (Lu (.agg (.prod (.int a) (.int b))) d k c l i) w
 | [],[],_,i=>rfl
 | [],_ :: _,h,_=>h.elim
 | _ :: _,[],h,_=>h.elim
 | e :: c,x :: l,⟨h1,p,m⟩,i=>by
  have o:=Yb hp hk m (i+1);have f:=lR hp w k.1 k.2 x.1.1 x.1.2;rw[<-Hk hk,<-Hk h1]at f;have n:Ik (.agg (.prod (.int a) (.int b))) k x.1=((k.1==x.1.1)&&(k.2==x.1.2)):=rfl;simp only[Instr.findAsking,ADx,f,iF,Lu,n,AFx];split
  .rfl
  exact o
theorem eF {P:Program} {kid:TypeId} {a b:IntKind} (hp:Pp P kid a b):aJ P kid (.agg (.prod (.int a) (.int b))) where
 check:=λem h=>by
  rw[Hk h];exact YG hp em 9998 _ _
 find:=λhk he=>by
  have hp2:=hp;obtain⟨f0,f1,hu,_⟩:=hp2;rw[run_findKey_eq _ (by rw[hu])];exact Yb hp hk he 0
 stays:=λh=>by
  rw[Hk h];simp[Instr.keyThatStays,Instr.sameBits]
 same:=λh h' he=>by
  rw[Hk h,Hk h'];have he:((_==_)&&(_==_))=true:=he;grind
theorem Rp {P:Program} {B:TypeId} {w:World} {O:Nat->Prop} {c a:Ty} (t:aJ P B c) {k:c.den} {n:Value} (hk:BR w O c n k):∀ {g:List MapEntry} {l:List (c.den×a.den)},OP w O c a g l->∀i,
  (BT c a k l=none/\Lu c a k g l i=none/\∀(v:a.den) (d:Value) (b:Nat),BR w O a d v->OP w O c a (g++[⟨n,d,b⟩]) (Fl c a k v l)) \/
  ∃(j:Nat) (e:MapEntry) (v0:a.den),BT c a k l=some v0/\Lu c a k g l i=some (i+j,e.val)/\g[j]?=some e/\BR w O a e.val v0/\e.key=n /\
   ∀(v:a.den) (d:Value),BR w O a d v->OP w O c a (g.modify j λe=>{ e with key:=n,val:=d }) (Fl c a k v l)
 | [],[],_,i=>.inl ⟨rfl,rfl,λv d b m=>⟨hk,m,trivial⟩⟩
 | [],_ :: _,h,_=>h.elim
 | _ :: _,[],h,_=>h.elim
 | e :: g,x :: l,⟨h1,q,s⟩,i=>by
  cases f:Ik c k x.1 with
  | true =>
   refine .inr ⟨0,e,x.2,by simp[BT,f],by simp[Lu,f],rfl,q,t.same hk h1 f,λv d m=>?_⟩;simp only[Fl,f,ADv];exact⟨hk,m,s⟩
  | false =>
   rcases Rp t hk s (i+1) with ⟨o,r,p⟩|⟨j,u,v0,o,r,p,y,z,A⟩
   .refine .inl ⟨by simp[BT,f,o],by simp[Lu,f,r],λv d b m=>?_⟩;simp only[Fl,f,iN,ADz];exact⟨h1,q,p v d b m⟩
   refine .inr ⟨j+1,u,v0,by simp[BT,f,o],?_,by simpa using p,y,z,λv d m=>?_⟩
   .grind [Lu]
   simp only[Fl,f,iN,ADz,List.modify_succ_cons];exact⟨h1,q,A v d m⟩
theorem eG {P:Program} {tb:Tb} {id:TypeId} {ti:TI} (hT:EU P tb id ti) (c:ti.el=0) (hk:YE ti.ty=true):aJ P id ti.ty:=by
 have a:=hT.2;obtain⟨⟨⟨_,_,b⟩,_⟩,_⟩:=hT;rw[c]at b;cases d:ti.ty<;>rw[d]at a hk b<;>simp only[YE]at hk<;>try(cases hk;done)
 .exact JZ rfl a
 .exact JZ rfl a
 .exact JZ rfl a
 unfold lL at hk;split at hk
 .exact eF b
 cases hk
theorem zU {t:Ty} {z:Value} (c:z.cells=t.zero.toArray) (hf:aF t z=true):z=t.wrap t.zero:=by
 cases t with
 | agg t =>
  cases z<;>simp only[aF]at hf<;>try(cases hf;done)
  simp only[Value.cells]at c;rw[c];rfl
 | prod a b=>cases z<;>simp[aF]at hf
 | _=>cases z<;>simp only[aF]at hf<;>(try(cases hf;done))<;>(simp only[Value.cells,Ty.zero]at c;simp[Ty.wrap,Ty.zero]at c ⊢<;>exact c)
section
variable {P:Program} {tb:Tb} {w:World} {O0:Nat->Prop} {σ:St} {ρ:Nat->Value} {vc:Prop} {v:AV} {obs:List (Nat×Obj)} {id:TypeId} {ti:TI}
theorem zV {P:Program} {tb:Tb} {e:TypeId} {te:TI} {z:Value} {i:TypeInfo} (hi:P.info? e=some i) (b:i.zero=some z) (a:z.cells=te.ty.zero.toArray) (hf:aF te.ty z=true) (w:World) (O:Nat->Prop) :
  (zeroValue e).run P w=.ok z w/\BR w O te.ty z te.ty.dflt:=by
 refine⟨by simp[zeroValue,typeInfo,hi,b],te.ty.zero,B0.zero w O te.ty,zU a hf⟩
theorem AAt {a:Act} (o:Ha (vw w O0 σ ρ) σ a.eval) {fn:Fn} {first d:List Operand} (h:Z6 σ fn first d=some (vc,v,obs)):obs=[]/\∃u,(Instr.makeFunc fn (first.map a.eval).toArray (d.map a.eval).toArray).run P w=.ok u w/\B3 (vw w O0 σ ρ) v u:=by
 unfold Z6 at h;split at h
 .rename_i f;cases j:Ht σ d with
  | none=>rw[j]at h;simp[Pj]at h
  | some ns =>
   rw[j]at h;simp only[Pj]at h;cases h;have key:∀ {l:List Operand} {ns:List Nat},Ht σ l=some ns->l.map a.eval=ns.map ρ/\∀n∈ns,HG σ n/\∃b:Nat,ρ n=.pointer (some ⟨b,0,none⟩):=by
    intro l;induction l with
    | nil=>intro ns h;simp only[Ht]at h;cases h;exact⟨rfl,λ_ h=>by cases h⟩
    | cons x r p =>
     intro ns h;simp only[Ht]at h;split at h
     .rename_i n t h1 k;cases h;obtain⟨e,g⟩:=p k;obtain⟨q,b,c,s⟩:=o x _ h1;have c:ρ n=_:=c;refine⟨by simp only[RS,e,s,c],λm i=>?_⟩;rcases DO.1 i with rfl|i
      .exact⟨q,b,c⟩
      exact g m i
     cases h
   obtain⟨e,g⟩:=key j;refine⟨rfl,_,rfl,?_,g⟩;rw[e];rfl
 cases h
theorem zW {a:Array MapEntry} {cl:Nat} (h:Z8 a cl) (x y:Value):Z8 (a.push ⟨x,y,cl⟩) (cl+1):=by grind [Z8]
theorem eH {a:Array MapEntry} {cl:Nat} (h:Z8 a cl) (j:Nat) (x y:Value):Z8 (a.modify j λe=>{ e with key:=x,val:=y }) cl:=by
 have e:((a.modify j λe=>{ e with key:=x,val:=y }).toList.map (·.born))=a.toList.map (·.born):=by
  rw[Array.toList_modify];apply iS
  .simp
  grind
 unfold Z8;rw[e];exact h
theorem A9i (F:DH P tb) (hT:EU P tb id ti) {n:Nat} {k e:Nat} (N:ti.ty=.ref 2) (M:ti.offs=[(k,e)]) {a:TI} (Q:lk k tb.ty=some a) {c:Ty} {l:List (a.ty.den×c.den)} {V:Vw} (G:V.w=w)
  (L:A3 V (.mapo a.ty c l) (V.ρ n)) {x y:Value} {kd:a.ty.den} {g:c.den} (H:a.el=0) (J:YE a.ty=true) (hx:BR w V.O a.ty x kd) (A:BR w V.O c y g) :
  ∃b m r,V.ρ n=.map (some b)/\(Instr.mapUpdate id (.map (some b)) x y).run P w=.ok () { w with heap:=w.heap.setIfInBounds b (.map m r) }/\(∃o,w.heap[b]?=some o)/\OP w V.O a.ty c m.toList (Fl a.ty c kd g l)/\Z8 m r:=by
 obtain⟨d,hu,_,K⟩:∃d,P.underlying id=some d/\(match d with|.struct _=>False|.array _ _=>False|_=>True) /\
   ∀k e,(2:Nat)=2->ti.offs=[(k,e)]->d=.map k e/\∃(a te:TI) (z:Value),lk k tb.ty=some a/\lk e tb.ty=some te/\(∃i,P.info? e=some i/\i.zero=some z)/\z.cells=te.ty.zero.toArray/\aF te.ty z=true:=by
  have:=hT.2;rw[N]at this;exact this
 obtain⟨rfl,_⟩:=K k e rfl M;obtain⟨b,h,cl,v,hh,t,s⟩:=L;subst G;have f:=eG (F _ _ Q) H J;have u:=f.find hx t;refine⟨b,?_⟩;rcases Rp f hx t 0 with ⟨C,p,q⟩|⟨j,B,v0,C,p,q,R,D,E⟩
 .refine⟨h.push ⟨x,y,cl⟩,cl+1,v,?_,⟨_,hh⟩,by simpa using q g y cl A,zW s x y⟩;simp[Instr.mapUpdate,RL hu,AEH hh,f.check _ hx,u,p,MapKept.run_setObj_map _ hh]
 have I:h[j]?=some B:=by simpa using q
 refine⟨h.modify j λe=>{ e with key:=x,val:=y },cl,v,?_,⟨_,hh⟩,by rw[Array.toList_modify];exact E g y A,eH s j x y⟩;simp[Instr.mapUpdate,RL hu,AEH hh,f.check _ hx,u,p,I,D,f.stays hx,MapKept.run_setObj_map _ hh]
theorem zX (hT:EU P tb id ti) {d:Nat} (h:Fq tb d (some ti)=some (vc,v,obs)) (hf:Bd obs σ=true) :
  ∃u ρ' w',(Instr.makeMap id none).run P w=.ok u w'/\QS w O0 σ ρ v obs u ρ' w':=by
 unfold Fq at h;split at h
 .rename_i offs _ _ c;cases c;unfold GU at h;split at h
  .rename_i k e;unfold GT at h;split at h
   .cases h;have f:(Instr.makeMap id none).run P w=.ok (.map (some w.heap.size)) (w.alloc (.map #[] 0)):=by
     simp[Instr.makeMap,Result.andThen]
    refine⟨_,_,_,f,QS.one (loc:=.map (some w.heap.size)) ((Below.refl _ w).alloc (If _) _) ?_ ?_ ?_⟩
    .grind [bk,blk]
    .refine⟨⟨_,by simp only[ET,AE6,lk,ADv];rfl⟩,w.heap.size,?_,rfl⟩;show E5 ρ d _ d=_;rw[Bo]
    exact⟨w.heap.size,#[],0,rfl,(MapKept.heap_alloc w _).1,trivial,List.Pairwise.nil,λb a=>by cases a⟩
   cases h
  cases h
 cases h
theorem A9j (hT:EU P tb id ti) (M:DH P tb) (H:∀n o,lk n σ.objs=some o->A3 (vw w O0 σ ρ) o (ρ n)) {ok:Bool} {x y:AV} {xv D:Value} (h:Iy tb σ ok (some ti) (some x) (some y)=some (vc,v,obs))
  (hx:B3 (vw w O0 σ ρ) x xv) (Y:B3 (vw w O0 σ ρ) y D):obs=[]/\∃u,(Instr.lookup id xv D ok).run P w=.ok u w/\B3 (vw w O0 σ ρ) v u:=by
 unfold Iy at h;split at h
 .rename_i k e _ _ n z Q R S;cases Q;cases R;cases S;obtain⟨d,hu,_,W⟩:=hT.2;obtain⟨rfl,C,te,af,J,X,⟨i,hi,Z⟩,ad,ae⟩:=W k e rfl rfl;cases hn:lk n σ.objs with
  | none=>rw[hn]at h;simp[Hu]at h
  | some o =>
   rw[hn]at h;cases o with
   | mapo ah ai l =>
    simp only[Hu,J,X,AEm,ADj]at h;split at h
    .rename_i O;obtain⟨rfl,T,rfl⟩:=O;cases hk:Mx false σ C.ty y with
     | none=>rw[hk]at h;simp[Kj]at h
     | some kd =>
      rw[hk]at h;simp only[Kj]at h;split at h
      .rename_i U;have a:=LU (V:=vw w O0 σ ρ) (O':=own O0 σ ρ) (λ_ h=>h) (λh=>by cases h) H hk Y;have a:BR w (own O0 σ ρ) C.ty D kd:=a;obtain⟨ag,b,B,rfl⟩:=hx;have B:ρ n=_:=B;obtain⟨b',E,cl,c,hh,m,-⟩:=H n _ hn;rw[B]at c;injection c with c
       injection c with c
       subst c;have hh:w.heap[b]?=some (.map E cl):=hh;have m:OP w (own O0 σ ρ) C.ty te.ty E.toList l:=m;have p:=eG (M _ _ J) T U;have G:=p.find a m;obtain⟨aa,ab⟩:=zV (te:=te) (P:=P) (tb:=tb) hi Z ad ae w (own O0 σ ρ);have F:∀(f:Value) (q:Bool) (r:Option te.ty.den),BR w (own O0 σ ρ) te.ty f (r.getD te.ty.dflt)->q=r.isSome->Ln te.ty ok r=some (vc,v,obs)->obs=[]/\∃u,u=(if ok=true then Value.tuple #[f,.bool q] else f)/\B3 (vw w O0 σ ρ) v u:=by
        intro f q r I N g;unfold Ln at g;subst N;cases ok with
        | true =>
         simp only[ADv]at g ⊢;cases g;exact⟨rfl,_,rfl,[f,.bool r.isSome],rfl,f,_,rfl,I,_,[],rfl,Bp _,rfl⟩
        | false =>
         simp only[iN,ADz]at g ⊢;cases g;exact⟨rfl,_,rfl,I⟩
       rcases Rp p a m 0 with ⟨s,t,_⟩|⟨j,K,v0,s,t,_,L,_,_⟩
       .rw[s]at h;obtain⟨h1,u,rfl,A⟩:=F af false none ab rfl h;refine⟨h1,_,?_,A⟩;simp[Instr.lookup,RL hu,AEH hh,p.check _ a,G,t,aa]
       rw[s]at h;obtain⟨h1,u,rfl,A⟩:=F K.val true (some v0) L rfl h;refine⟨h1,_,?_,A⟩;simp[Instr.lookup,RL hu,AEH hh,p.check _ a,G,t]
      cases h
    cases h
   | _=>simp[Hu]at h
 cases h
end
end
end Go.Proofs.YtapkhdkbkodbjaaGreat.Fw
