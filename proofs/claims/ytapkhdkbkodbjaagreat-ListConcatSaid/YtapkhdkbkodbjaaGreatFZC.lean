/- The executor's quiet operations are sound, second part; maps. -/
import Derived.Test.YtapkhdkbkodbjaaGreatFZB
import Derived.ArgAppend
import Derived.MapKept
import Derived.WideKeyRuns
import Derived.Laws.StructEq
set_option linter.unusedVariables false
set_option linter.unusedSimpArgs false
namespace Go.Proofs.YtapkhdkbkodbjaaGreat.Fw
section
open Go Go.RowKit
section
abbrev AB8:=@Go.World.ownsRow_nil
abbrev ABa:=@Go.Sem.run_pure
abbrev ABe:=@Go.MapKept.run_getObj_map
abbrev ABq:=@Go.run_part_plain
abbrev AC4:=@Go.Sem.run_ite
variable {P:Program} {tb:Tb} {id:TypeId} {ti:TI} {w:World} {O0:Nat->Prop} {σ:St} {ρ:Nat->Value} {vc:Prop} {v:AV} {obs:List (Nat×Obj)}
theorem FT (w:World) (o:_root_.Go.Obj):Below w.heap.size w (w.alloc o):=(Below.refl _ _).alloc (No _) o
theorem QS.box {n:Nat} {et:TypeId} {st:Bool} {fs:List AV} {cs:List Value} (hf:Bg [(n,.box et st fs)] σ=true) (f:st=false->fs.length=1) (c:DX (vw w O0 σ ρ) fs cs) :
  QS w O0 σ ρ (.bp n [] 0) [(n,.box et st fs)] (.pointer (some ⟨w.heap.size,0,none⟩)) (Ex ρ n (.pointer (some ⟨w.heap.size,0,none⟩))) (w.alloc (.cells cs.toArray et)):=by
 have d:∀(m:Nat) (o:Obj) (b:Nat),lk m [(n,.box et st fs)]=some o->bk (Ex ρ n (.pointer (some ⟨w.heap.size,0,none⟩)) m) b->w.heap.size<=b:=by grind [lk,Bq,bk,blk]
 have hk:Cl (vw w O0 σ ρ) (vw (w.alloc (.cells cs.toArray et)) O0 (EJ σ [(n,.box et st fs)]) (Ex ρ n (.pointer (some ⟨w.heap.size,0,none⟩)))) :=
  H6 hf (FT w _) (λm a=>by
   simp only[lk]at a;split at a
   .cases a
   rename_i e;simp[Ex,e]) d
 refine QS.one (FT w _) (λb hb=>by simp[bk,blk]at hb;omega) ?_ ?_
 .refine⟨⟨.box et st fs,by simp[EJ,lk]⟩,w.heap.size,by rw[show (vw (w.alloc (.cells cs.toArray et)) O0 (EJ σ [(n,.box et st fs)]) (Ex ρ n (.pointer (some ⟨w.heap.size,0,none⟩)))).ρ n=Ex ρ n (.pointer (some ⟨w.heap.size,0,none⟩)) n from rfl,Bq],rfl⟩
 exact⟨f,w.heap.size,cs,rfl,heap_alloc_new w _,c.keeps hk⟩
theorem QS.arr {n:Nat} {et:TypeId} {e:Ty} {xs:List e.den} {cells:List Value} {loc:Value} {w':World} {hi:Nat} (hf:Bg [(n,.arr et e xs)] σ=true) (hb:Below w.heap.size w w')
  (c:w'.ownsRow w.heap.size et e.size loc xs.length cells) (a:xs.length<=AP) (j:De w (own O0 σ ρ) e cells xs) (l:hi=xs.length) :
  QS w O0 σ ρ (.sr n e 0 hi) [(n,.arr et e xs)] loc (Ex ρ n loc) w':=by
 subst l;have q:∀b,bk loc b->w.heap.size<=b:=by
  intro b f;rcases c.2 with ⟨rfl,_⟩|⟨g,cap,d,rfl,k,_⟩
  .simp[bk,blk]at f
  simp[bk,blk]at f;omega
 have p:∀(m:Nat) (o:Obj) (b:Nat),lk m [(n,.arr et e xs)]=some o->bk (Ex ρ n loc m) b->w.heap.size<=b:=by grind [lk,Bq]
 have hk:Cl (vw w O0 σ ρ) (vw w' O0 (EJ σ [(n,.arr et e xs)]) (Ex ρ n loc)) :=
  H6 hf hb (λm a=>by
   simp only[lk]at a;split at a
   .cases a
   rename_i e;simp[Ex,e]) p
 refine QS.one hb q ?_ ?_
 .refine⟨⟨.arr et e xs,by simp[EJ,lk]⟩,?_⟩;show DP (plc (Ex ρ n loc n)) e.size 0 xs.length loc;rw[Bq,HW c];rcases c.2 with ⟨rfl,hn⟩|⟨g,cap,d,rfl,k,_,s,_⟩
  .exact⟨none,0,0,rfl,by omega,by omega,none,0,by rw[hn],by omega,λ_=>⟨rfl,rfl⟩,λh=>by omega⟩
  exact⟨some ⟨g,0,none⟩,xs.length,cap,rfl,by omega,by omega,some ⟨g,0,none⟩,cap,by simp,by omega,λ_=>⟨rfl,rfl⟩,λ_=>by simp[Mm]⟩
 refine⟨a,cells,⟨c.1,?_⟩,j.keeps hk⟩;rcases c.2 with h|⟨g,cap,d,h1,r,i⟩
 .exact .inl h
 exact .inr ⟨g,cap,d,h1,ON _,i⟩
theorem LC (V:Vw) (t:Ty):NS V (zK t) t.zero:=by
 cases t;case slice e=>exact⟨_,rfl,rfl,rfl⟩
 case ref k=>exact⟨LT k,rfl,by match k with|0=>rfl|1=>rfl|_+2=>rfl,rfl⟩
 all_goals(exact Bx.zero V.w V.O _)
theorem A00 (V:Vw):∀t:Ty,DX V (zL t) t.zero
 | .prod a b=>⟨a.zero,b.zero,rfl,LC V a,A00 V b⟩
 | .int k=>⟨_,[],by simp,LC V (.int k),rfl⟩
 | .bool=>⟨_,[],by simp,LC V .bool,rfl⟩
 | .str=>⟨_,[],by simp,LC V .str,rfl⟩
 | .slice e=>⟨_,[],by simp,LC V (.slice e),rfl⟩
 | .agg t=>⟨_,[],by simp,LC V (.agg t),rfl⟩
 | .ref k=>⟨_,[],by simp,LC V (.ref k),rfl⟩
theorem A01 (V:Vw):∀(t:Ty) (d:t.den) (cs:List Value),Bx V.w V.O t cs d->DX V (pfs t d) cs
 | .prod a b,d,cs,h=>by
  obtain⟨c1,c2,rfl,h1,c⟩:=h;exact⟨c1,c2,rfl,h1,A01 V b d.2 c2 c⟩
 | .int k,d,cs,h=>⟨cs,[],by simp,h,rfl⟩
 | .bool,d,cs,h=>⟨cs,[],by simp,h,rfl⟩
 | .str,d,cs,h=>⟨cs,[],by simp,h,rfl⟩
 | .slice e,d,cs,h=>⟨cs,[],by simp,h,rfl⟩
 | .agg t,d,cs,h=>⟨cs,[],by simp,h,rfl⟩
 | .ref k,d,cs,h=>⟨cs,[],by simp,h,rfl⟩
theorem PZ (hT:EK P tb id ti) (w:World):∃z:Value,(zeroValue id).run P w=.ok z w/\z.cells=ti.ty.zero.toArray:=by
 obtain⟨⟨_,i,z,h1,c,d,a,b⟩,_⟩:=hT;exact⟨z,by simp[zeroValue,Lj w h1,a],b⟩
theorem A46 (hT:EK P tb id ti) {d:Nat} (h:LV d id (some ti)=some (vc,v,obs)) (hf:Bg obs σ=true) :
  ∃u ρ' w',(Instr.alloc id true (.tuple #[])).run P w=.ok u w'/\QS w O0 σ ρ v obs u ρ' w':=by
 obtain⟨z,c,e⟩:=PZ hT w;have b:(Instr.alloc id true (.tuple #[])).run P w=.ok (.pointer (some ⟨w.heap.size,0,none⟩)) (w.alloc (.cells ti.ty.zero.toArray id)):=by
  simp[Instr.alloc,c,newVar,newRow,e]
 unfold LV at h;split at h<;>first|(cases h;done)|skip
 all_goals
  rename_i a;cases a;cases h;refine⟨_,_,_,b,QS.box hf ?_ ?_⟩
 .simp
 .exact A00 _ _
 .simp
 .exact⟨_,[],by simp[Ty.zero],LC _ _,rfl⟩
 .simp
 .exact⟨_,[],by simp[Ty.zero],LC _ _,rfl⟩
 .simp
 .exact⟨_,[],by simp[Ty.zero],LC _ _,rfl⟩
 .simp
 .exact⟨_,[],by simp[Ty.zero],LC _ _,rfl⟩
 .simp
 exact⟨_,[],by simp[Ty.zero],LC _ _,rfl⟩
theorem Nc {V:Vw} {ty:Ty} {x:AV} {v:Value} (hx:B2 V x v) (hf:Ca ty x=true) (hs:ty.cell1=true):v.oneCell'=true:=by
 cases x;case p t d =>
  simp only[Ca,Is]at hf;subst hf;obtain⟨cs,j,rfl⟩:=hx;cases ty;case agg t=>simp[Ty.cell1]at hs
  case prod a b=>simp[Ty.cell1]at hs
  case slice e=>obtain⟨a,c,rfl,_⟩:=j;rfl
  case int k=>obtain⟨rfl,h⟩:=j;rfl
  case bool=>have j:cs=_:=j;subst j;rfl
  case str=>obtain⟨rfl,h⟩:=j;rfl
  case ref k =>
   have j:cs=[LT k]:=j;subst j;match k with
   | 0=>rfl
   | 1=>rfl
   | _+2=>rfl
 case ag l=>cases ty<;>simp[Ca]at hf<;>simp[Ty.cell1]at hs
 case tup l=>simp[Ca]at hf
 case raw u =>
  have hx:v=u:=hx;subst hx;simp only[Ca,An]at hf;exact hf.1
 case sr n e lo hi=>obtain⟨_,_,_,_,_,_,_,q,r,rfl,_⟩:=hx;rfl
 case ep n e i o off=>obtain⟨_,g,m,c,_,_,rfl⟩:=hx;rfl
 case nin n e i len=>obtain⟨_,_,_,_,_,_,_,_,rfl⟩:=hx;rfl
 case pc e d=>obtain⟨_,a,rfl⟩:=hx;rfl
 case ip t d=>obtain⟨ad,cs,rfl,_⟩:=hx;rfl
 case bp n o off=>obtain⟨_,b,_,rfl⟩:=hx;rfl
 case fn f=>have hx:v=_:=hx;subst hx;rfl
 case clo f ns=>obtain⟨rfl,_⟩:=hx;rfl
 case mp n=>obtain⟨_,b,_,rfl⟩:=hx;rfl
 case yl n=>obtain⟨_,b,_,rfl⟩:=hx;rfl
 case top=>simp[Ca]at hf
end
end
section
open Go Go.RowKit
section
variable {P:Program} {tb:Tb} {id:TypeId} {ti:TI} {w:World} {O0:Nat->Prop} {σ:St} {ρ:Nat->Value} {vc:Prop} {v:AV} {obs:List (Nat×Obj)}
theorem Vb {t:Ty} {w:World} {O:Nat->Prop} {cs:List Value} {d:t.den} (h:Bx w O t cs d):(t.wrap cs).cells=cs.toArray:=by
 cases t;case agg t=>rfl
 case prod a b=>rfl
 case slice e=>obtain⟨a,c,rfl,_⟩:=h;rfl
 case int k=>obtain⟨rfl,_⟩:=h;rfl
 case bool=>have h:cs=_:=h;subst h;rfl
 case str=>obtain⟨rfl,_⟩:=h;rfl
 case ref k =>
  have h:cs=[LT k]:=h;subst h;match k with
  | 0=>rfl
  | 1=>rfl
  | _+2=>rfl
theorem A47 {V:Vw} {x:AV} {v:Value} (hx:B2 V x v) (hf:KJ x=true):NS V x v.cells.toList/\v.cells.size=x.cells:=by
 have simple:∀ {y:AV},VR V y v->v.oneCell'=true->(∀t d,y≠.p t d)->NS V y v.cells.toList:=by
  intro y hy h o;have k:v.cells=#[v]:=by cases v<;>first|rfl|simp[Value.oneCell']at h
  rw[k];cases y;case p t d=>exact absurd rfl (o t d)
  all_goals exact⟨v,rfl,h,hy⟩
 have j:v.oneCell'=true->v.cells.size=1:=by
  intro h;have k:v.cells=#[v]:=by cases v<;>first|rfl|simp[Value.oneCell']at h
  rw[k];rfl
 cases x;case p t d =>
  obtain⟨cs,l,rfl⟩:=hx;rw[Vb l];exact⟨l,by simpa[AV.cells] using l.length⟩
 case raw u =>
  have q:v=u:=hx;have h:v.oneCell'=true:=by rw[q];exact hf
  exact⟨simple hx h (λ_ _=>by simp),j h⟩
 case sr n e lo hi =>
  have h:v.oneCell'=true:=by obtain⟨_,_,_,_,_,_,_,s,w,rfl,_⟩:=hx;rfl
  exact⟨simple hx h (λ_ _=>by simp),j h⟩
 case ep n e i r off =>
  have h:v.oneCell'=true:=by obtain⟨_,g,m,c,_,_,rfl⟩:=hx;rfl
  exact⟨simple hx h (λ_ _=>by simp),j h⟩
 case nin n e i len =>
  have h:v.oneCell'=true:=by obtain⟨_,_,_,_,_,_,_,_,rfl⟩:=hx;rfl
  exact⟨simple hx h (λ_ _=>by simp),j h⟩
 case ip t d =>
  have h:v.oneCell'=true:=by obtain⟨ad,cs,rfl,_⟩:=hx;rfl
  exact⟨simple hx h (λ_ _=>by simp),j h⟩
 case bp n r off =>
  have h:v.oneCell'=true:=by obtain⟨_,b,_,rfl⟩:=hx;rfl
  exact⟨simple hx h (λ_ _=>by simp),j h⟩
 case pc e d =>
  have h:v.oneCell'=true:=by obtain⟨_,a,rfl⟩:=hx;rfl
  exact⟨simple hx h (λ_ _=>by simp),j h⟩
 case clo f ns =>
  have h:v.oneCell'=true:=by obtain⟨rfl,_⟩:=hx;rfl
  exact⟨simple hx h (λ_ _=>by simp),j h⟩
 case mp n =>
  have h:v.oneCell'=true:=by obtain⟨_,b,_,rfl⟩:=hx;rfl
  exact⟨simple hx h (λ_ _=>by simp),j h⟩
 case yl n =>
  have h:v.oneCell'=true:=by obtain⟨_,b,_,rfl⟩:=hx;rfl
  exact⟨simple hx h (λ_ _=>by simp),j h⟩
 case fn f =>
  have h:v.oneCell'=true:=by have hx:v=_:=hx;subst hx;rfl
  exact⟨simple hx h (λ_ _=>by simp),j h⟩
 all_goals simp[KJ]at hf
theorem A8n (hT:EK P tb id ti) {d:Nat} {x:AV} {xv:Value} (h:VL d id (some ti) (some x)=some (vc,v,obs)) (hx:B2 (vw w O0 σ ρ) x xv) (hf:Bg obs σ=true) :
    ∃u ρ' w',(Instr.box id xv).run P w=.ok u w'/\QS w O0 σ ρ v obs u ρ' w':=by
  have g:(Instr.box id xv).run P w=.ok (.pointer (some ⟨w.heap.size,0,none⟩)) (w.alloc (.cells xv.cells id)):=by
    simp[Instr.box,newVar,newRow]
  have simple:∀ty:Ty,Ca ty x=true->ty.cell1=true->(∀l,x≠.ag l)->DX (vw w O0 σ ρ) [x] xv.cells.toList:=by
    intro ty f p m;obtain⟨h1,k⟩:=zZ hx f (Nc hx f);exact⟨_,[],by simp,k m,rfl⟩
  have o:xv.cells=xv.cells.toList.toArray:=by simp
  rw[o]at g;unfold VL at h;split at h
  . rename_i u offs el b q j c a
    cases c;cases a;split at h
    . rename_i hu
      subst hu;cases h;obtain⟨cs,i,rfl⟩:=hx;have i:Bx w (own O0 σ ρ) u cs j:=i;refine⟨_,_,_,g,QS.box hf sc ?_⟩;simp only[Ty.wrap,Value.cells];exact A01 _ _ _ _ i
    cases h
  . rename_i u offs el b l c a
    cases c;cases a;split at h
    . cases h
      obtain⟨cs,rfl,n⟩:=hx;refine⟨_,_,_,g,QS.box hf sc ?_⟩;simp only[Value.cells];exact n
    cases h
  all_goals first
    | (cases h;done)
    | (rename_i c a
       cases c;injection a with a
       subst a;split at h
       . rename_i f
         cases h;exact⟨_,_,_,g,QS.box hf sc (simple _ f rfl (λl e=>by subst e;simp[Ca]at f))⟩
       cases h)
theorem eK (off:Nat):∀(a:List Value) (k:Nat) (cells:Array Value),off+k+a.length<=cells.size ->
  ((a.zipIdx k).foldl (λ(cs:Array Value) (p:Value×Nat)=>cs.setIfInBounds (off+p.2) p.1) cells).toList=A4 cells.toList (off+k) a
 | [],k,cells,_=>by simp[A4]
 | v :: a,k,cells,h=>by
  simp only[IF]at h;simp only[List.zipIdx_cons,SU];rw[eK off a (k+1) _ (by simp;omega)];simp only[A4,Array.toList_setIfInBounds,IF];apply ABB;intro j;have hl:cells.toList.length=cells.size:=by simp
  simp only[SZ,AAa,OS,oS,hl,UP,AA9,AAh,IF];grind
theorem Vc {place:Nat->Option (Nat×Nat)} {cells:Array Value} {i off:Nat} {v:Value} {rest:List (Nat×Value)} (a:place i=some (off,v.cells.size)) (hl:off+v.cells.size<=cells.size) :
  Instr.fill place cells ((i,v) :: rest)=Instr.fill place (A4 cells.toList off v.cells.toList).toArray rest:=by
 have h1:¬(off+v.cells.size > cells.size):=by omega
 simp only[Instr.fill,a];rw[BY (by simp;omega)]
 congr 1
 have:=eK off v.cells.toList 0 cells (by simpa using hl);apply Array.ext';rw[show v.cells.zipIdx.foldl (λcs x=>cs.setIfInBounds (off+x.2) x.1) cells=(v.cells.toList.zipIdx 0).foldl (λcs x=>cs.setIfInBounds (off+x.2) x.1) cells from by
  rw[<-Array.foldl_toList];simp]
 simpa using this
def HX (V:Vw) (σ:St) (ev:Operand->Value):Prop:=∀x v,Aq σ x=some v->B2 V v (ev x)
theorem vL {V:Vw} (b:∀n o,lk n σ.objs=some o->A5 V o (V.ρ n)) {z x:Option AV} {y:AV} {v:Value} (hx:∀a,x=some a->B2 V a v) (h:GK σ z x=some y):B2 V y v:=by
 unfold GK at h;split at h
 .rename_i t _ l;simp only[OR]at h;obtain⟨d,hd,rfl⟩:=h;exact LB (V:=V) (O':=V.O) (λ_ h=>h) (λh=>by cases h) b hd (hx _ rfl)
 exact hx _ h
theorem OM {V:Vw} (e:∀n o,lk n σ.objs=some o->A5 V o (V.ρ n)) {ev:Operand->Value} (d:HX V σ ev) {place:Nat->Option (Nat×Nat)} {offs:List (Nat×Nat)} (g:∀i p,offs[i]?=some p->place i=some p) :
  ∀ {parts:List (Nat×Operand)} {fs b:List AV} {cells:Array Value},EL σ offs fs parts=some b->DX V fs cells.toList ->
   ∃cells':Array Value,Instr.fill place cells (parts.map λp=>(p.1,ev p.2))=some cells'/\DX V b cells'.toList
 | [],fs,b,cells,h,c=>by
  simp only[EL]at h;cases h;exact⟨cells,rfl,c⟩
 | (i,x) :: r,fs,b,cells,h,c=>by
  simp only[EL]at h;cases hx:GK σ fs[i]? (Aq σ x) with
  | none=>rw[hx]at h;cases h
  | some av =>
   rw[hx]at h;simp only at h;split at h
   .rename_i k;obtain⟨h0,h1,l⟩:=k;have y:=vL e (λa ha=>d x a ha) hx;obtain⟨m,q⟩:=A47 y h0;simp only[OR]at h1;obtain⟨A,f,u⟩:=h1;obtain⟨z,_⟩:=c.get f;have w:=c.set f m u.symm;have j:=g i _ l;rw[<-q]at j;have v:CM fs i+(ev x).cells.size<=cells.size:=by grind
    obtain⟨cells',s,t⟩:=OM e d g h (cells:=(A4 cells.toList (CM fs i) (ev x).cells.toList).toArray) (by simpa using w);refine⟨cells',?_,t⟩;rw[Sj,Vc j v];exact s
   cases h
theorem eL {α β:Type} (f:α->Sem β) (w:World):∀ {l:List α} {ys:List β},(l.map λx=>(f x).run P w)=ys.map (λy=>Result.ok y w)->(l.mapM f).run P w=.ok ys w
 | [],ys,h=>by simp_all
 | x :: l,ys,h=>by
  cases ys with
  | nil=>simp at h
  | cons y ys =>
   simp only[Sj,AB4]at h;obtain⟨h1,a⟩:=h;have b:=eL f w a;simp[List.mapM_cons,h1,b]
theorem A48 (hT:EK P tb id ti) (q:∀n o,lk n σ.objs=some o->A5 (vw w O0 σ ρ) o (ρ n)) {ev:Operand->Value} (m:HX (vw w O0 σ ρ) σ ev) {parts:List (Nat×Operand)} (h:KK σ parts (some ti)=some (vc,v,obs)) :
  obs=[]/\∃u,(Instr.build id (parts.map λp=>(p.1,ev p.2)).toArray).run P w=.ok u w/\B2 (vw w O0 σ ρ) v u:=by
 obtain⟨z,r,B⟩:=PZ hT w;unfold KK at h;split at h
 .rename_i u offs el b t;cases t;cases c:EL σ offs (zL u) parts with
  | none=>rw[c]at h;simp[G9]at h
  | some C =>
   rw[c]at h;simp only[AAP,G9]at h;cases h;have a:=hT.2;have s:DX (vw w O0 σ ρ) (zL u) z.cells.toList:=by rw[B];exact A00 _ u
   simp only at a;rcases a with ⟨fs,_,hu,j⟩|⟨n,e,i,_,hu,hi,j⟩
   .have l:∀(i:Nat) (p:Nat×Nat),offs[i]?=some p->offs.toArray[i]?=some p:=λi p hh=>by simpa using hh
    obtain⟨cells',d,g⟩:=OM q m (place:=λi=>offs.toArray[i]?) l c s;have A:(fs.mapM (λf=>do pure (f.offset,<-sizeOf f.type)):Sem (Array (Nat×Nat))).run P w=.ok offs.toArray w:=by
     rw[AB2];simp only[Sem.run_map];rw[eL (ys:=offs) _ w ?_]
     .simp
     rw [show (offs.map λy => Result.ok y w) = (offs.map some).map (λo => match o with | some y => Result.ok y w | none => .halt (.stuck "no such type") w) by simp [bY, Function.comp_def], j, bY]
     apply Of;intro f _;simp only[Function.comp,sizeOf,typeInfo];cases hi:P.info? f.type<;>simp[hi]
    refine⟨rfl,.agg cells',?_,cells'.toList,by simp,g⟩;simp only[Instr.build,AAm,r,tO,Sb hu,A,d,ABa]
   have l:∀(k:Nat) (p:Nat×Nat),offs[k]?=some p->(λk=>some (k*i.size,i.size)) k=some p:=λk p hh=>by
    rw[j]at hh;simp only[nO,OR]at hh;obtain⟨D,x,rfl⟩:=hh;obtain⟨h1,a⟩:=On.1 x;simp only[AAX]at a;subst a;rfl
   obtain⟨cells',d,g⟩:=OM q m l c s;refine⟨rfl,.agg cells',?_,cells'.toList,by simp,g⟩;simp[Instr.build,r,Sb hu,sizeOf,Lj w hi,d]
 cases h
end
end
section
open Go Go.RowKit
section
variable {P:Program} {tb:Tb} {id:TypeId} {ti:TI} {w:World} {O0:Nat->Prop} {σ:St} {ρ:Nat->Value} {vc:Prop} {v:AV} {obs:List (Nat×Obj)}
theorem Yf {t:Ty} {w:World} {O:Nat->Prop} {v:Value} {d:t.den} (h:BV w O t v d):v.cells.size=t.size/\Bx w O t v.cells.toList d:=by
 obtain⟨cs,a,rfl⟩:=h;rw[Vb a];exact⟨by simpa using a.length,a⟩
theorem Ho (w:World) (O:Nat->Prop) (e:Ty) (cells:List Value):De w O e cells []:=λi x h=>by simp at h
theorem eO {V:Vw} (t:∀n o,lk n σ.objs=some o->A5 V o (V.ρ n)) {ev:Operand->Value} (s:HX V σ ev) {e:Ty} {N:Nat} :
  ∀ {parts:List (Nat×Operand)} {k:Nat} {xs pre:List e.den} {cells:Array Value},FJ σ e k parts=some xs->cells.size=N*e.size->k+xs.length<=N->pre.length=k ->
   De V.w V.O e cells.toList pre ->
   ∃cells':Array Value,Instr.fill (λi=>some (i*e.size,e.size)) cells (parts.map λp=>(p.1,ev p.2))=some cells'/\cells'.size=cells.size/\De V.w V.O e cells'.toList (pre++xs)
 | [],k,xs,pre,cells,h,hs,hk,m,l=>by
  simp only[FJ]at h;cases h;exact⟨cells,rfl,rfl,by simpa using l⟩
 | (i,x) :: r,k,xs,pre,cells,h,hs,hk,m,l=>by
  simp only[FJ]at h;split at h
  .rename_i C;subst C;cases hx:Aq σ x with
   | none=>rw[hx]at h;cases h
   | some av =>
    rw[hx]at h;simp only at h;split at h
    .rename_i y ys hy J;cases h;have I:=LB (O':=V.O) (λ_ h=>h) (λh=>by cases h) t hy (s x av hx);obtain⟨h1,B⟩:=Yf I;simp only[IF]at hk;have d:i*e.size+(ev x).cells.size<=cells.size:=by
      rw[h1,hs,<-AAt];exact UI _ oa
     have v:(A4 cells.toList (i*e.size) (ev x).cells.toList).length=cells.size:=by
      rw[FA]
      .simp
      simpa using d
     have G:De V.w V.O e (A4 cells.toList (i*e.size) (ev x).cells.toList) (pre++[y]):=by
      intro j z a;rw[AAa]at a;split at a
      .rename_i D;obtain⟨A,c,f,g⟩:=l j z a;refine⟨A,c,λq u b=>?_,g⟩;have H:q<e.size:=by rw[<-c];exact(On.1 b).1
       have F:j*e.size+q<i*e.size:=by
        have:(j+1)*e.size<=i*e.size:=UI _ oa;rw[AAt]at this;omega
       have hb:i*e.size<=cells.toList.length:=by
        have:=d;simp;omega
       simp only[A4,SZ];rw[Se (by rw[OS];omega),UP,DO F];exact f q u b
      rename_i D;have E:j=i:=by
       have:=(On.1 a).1;simp at this;omega
      subst E;have K:z=y:=by
       rw[m,AAJ]at a;simpa using a.symm
      subst K;refine⟨(ev x).cells.toList,by simpa using h1,λq u b=>?_,B⟩;have H:q<(ev x).cells.toList.length:=(On.1 b).1;have hb:j*e.size<=cells.toList.length:=by
       have:=d;simp;omega
      have hl:(cells.toList.take (j*e.size)).length=j*e.size:=by rw[OS];omega
      simp only[A4,SZ];rw[Sf (by rw[hl];omega),hl,Se oa];rw[show j*e.size+q-j*e.size=q by omega];exact b
     obtain⟨cells',c,f,g⟩:=eO (N:=N) t s J (pre:=pre++[y]) (cells:=(A4 cells.toList (i*e.size) (ev x).cells.toList).toArray) (by simp[v,hs]) oa (by simp[m]) (by simpa using G);refine⟨cells',?_,by rw[f];simp[v],by simpa using g⟩;rw[Sj,Vc (by rw[h1]) d];exact c
    cases h
  cases h
theorem aQ {w:World} {et:TypeId} {sz n:Nat} {cells:Array Value} (hs:cells.size=n*sz) (hn:n<=AP) :
  (w.alloc (.cells cells et)).ownsRow w.heap.size et sz (.slice (some ⟨w.heap.size,0,none⟩) n n) n cells.toList :=
 ⟨by simpa using hs,.inr ⟨w.heap.size,n,cells,rfl,No _,heap_alloc_new w _,No _,by have h1:AP=140737488355328:=rfl;have a:maxLen=9223372036854775807:=rfl;omega,hs,By (by simp[hs])⟩⟩
theorem Pa (hT:EK P tb id ti) (f:DC P tb) (q:∀n o,lk n σ.objs=some o->A5 (vw w O0 σ ρ) o (ρ n)) {ev:Operand->Value} (m:HX (vw w O0 σ ρ) σ ev) {d n:Nat} {parts:List (Nat×Operand)}
  (h:Bp false σ d n parts (some ti)=some (vc,v,obs)) (x:vc) (hf:Bg obs σ=true) :
  ∃u ρ' w',(Instr.buildSlice id n (parts.map λp=>(p.1,ev p.2)).toArray).run P w=.ok u w'/\QS w O0 σ ρ v obs u ρ' w':=by
 unfold Bp at h;split at h
 .rename_i e offs el b l;cases l;obtain⟨hu,hs,te,t,rfl⟩:=CQ hT f;obtain⟨z,y,B⟩:=PZ (f _ _ t) w;cases a:FJ σ te.ty 0 parts with
  | none=>rw[a]at h;simp[B3]at h
  | some xs =>
   rw[a]at h;simp only[B3,AA0,AAp]at h;cases h;obtain⟨hn,A⟩:=x;subst hn;have r:=te.ty.size_pos;obtain⟨cells',h1,k,c⟩:=eO (V:=vw w O0 σ ρ) q m a (N:=xs.length) (pre:=[]) (cells:=(Array.range (xs.length*te.ty.size)).map (λi=>(if xs.length*te.ty.size=0 then (#[]:Array Value) else z.cells)[i % (if xs.length*te.ty.size=0 then (#[]:Array Value) else z.cells).size]!)) sc oa rfl (Ho _ _ _ _);have j:xs.length<=AP:=by
    have:xs.length*1<=xs.length*te.ty.size:=AAQ _ r;simp only[AP];omega
   have s:cells'.size=xs.length*te.ty.size:=by rw[k];simp
   refine⟨_,_,_,?_,QS.arr hf (FT w _) (aQ (et:=el) s j) j (by rw[AAl]at c;exact c) rfl⟩;have g:¬(xs.length*te.ty.size > 16777216):=by omega
   by_cases h0:xs.length*te.ty.size=0
   .simp only[h0,AAd]at h1;simp[Instr.buildSlice,Sb hu,hs,g,h0,newRow];simp at h1;simp[h1]
   simp only[h0,AAp]at h1;simp only[Instr.buildSlice,AAm,Sb hu,tO,hs,BY g,BY h0,y,ABa,h1,newRow];rfl
 cases h
theorem A6N (hT:EK P tb id ti) (G:DC P tb) (ab:∀n o,lk n σ.objs=some o->A5 (vw w O0 σ ρ) o (ρ n)) {ev:Operand->Value} (V:HX (vw w O0 σ ρ) σ ev) {d n:Nat} {A:TypeId} {parts:List (Nat×Operand)}
  (h:KM σ d A n parts (some ti)=some (vc,v,obs)) (D:vc) (hf:Bg obs σ=true) :
  ∃u ρ' w',(Instr.buildSlice id n (parts.map λp=>(p.1,ev p.2)).toArray).run P w=.ok u w'/\QS w O0 σ ρ v obs u ρ' w':=by
 unfold KM at h;split at h
 .rename_i x t offs el b T;cases T;obtain⟨hu,hs,te,af,rfl⟩:=CQ hT G;obtain⟨z,ag,al⟩:=PZ (G _ _ af) w;cases hx:Aq σ x with
  | none=>rw[hx]at h;unfold KL at h;split at h<;>first|(cases h;done)|(rename_i E;cases E)
  | some av =>
   rw[hx]at h;unfold KL at h;split at h
   .rename_i k e M an hty R;cases R;have key:∀(c:k.den) (c1:List Value) (a:Option Addr),NS (vw w O0 σ ρ) M c1->E3 false σ k M=some c->ev x=.agg (c1++[Value.slice a 0 0]).toArray->n=1/\k.size+1<=16777216->Bg [(d,Obj.nest el A k e [(c,[])] none)] σ=true ->
      ∃u ρ' w',(Instr.buildSlice id n ([(0,x)].map λp=>(p.1,ev p.2)).toArray).run P w=.ok u w'/\QS w O0 σ ρ (.sr d (.agg (.prod k (.slice e))) 0 1) [(d,.nest el A k e [(c,[])] none)] u ρ' w':=by
     intro c c1 a h1 s B Y hf;obtain⟨rfl,aj⟩:=Y;have X:Lay (.slice none 0 0) (.slice a 0 0):=.inr ⟨rfl,a,rfl⟩;have C:=qS (O':=own O0 σ ρ) (λ_ h=>h) (λh=>by cases h) ab s h1;have C:Bx w (own O0 σ ρ) k c1 c:=C;have hl:=C.length;have ae:te.ty.size=k.size+1:=by rw[hty];rfl
     rw[ae]at hs;have H:(ev x).cells.toList=c1++[Value.slice a 0 0]:=by rw[B];simp[Value.cells]
     have ad:Instr.fill (λi=>some (i*(k.size+1),k.size+1)) ((Array.range (1*(k.size+1))).map (λi=>z.cells[i % z.cells.size]!)) [(0,ev x)]=some (c1++[Value.slice a 0 0]).toArray:=by
      have I:(ev x).cells.size=k.size+1:=by rw[<-ABs,H];simp[hl]
      rw[Vc (by rw[I]) (by rw[I];simp)];rw[H];simp only[Instr.fill,AC8,A4,AAg,AAl,AAC];rw[List.drop_of_length_le (by simp[hl]),UL]
     generalize K:(Value.tuple #[Value.slice (some ⟨w.heap.size,0,none⟩) 1 1,.slice none 0 0])=loc;have Z:∀b,bk loc b->w.heap.size<=b:=by grind [A8,blk]
     have y:=aQ (w:=w) (et:=el) (sz:=k.size+1) (n:=1) (cells:=(c1++[Value.slice a 0 0]).toArray) (by simp[hl]) (by simp[AP]);have y:(w.alloc (.cells (c1++[Value.slice a 0 0]).toArray el)).ownsRow 0 el (k.size+1) (.slice (some ⟨w.heap.size,0,none⟩) 1 1) 1 (c1++[Value.slice a 0 0]):=⟨y.1,y.2.imp (λh=>h) λ⟨g,cap,Q,e,_,r⟩=>⟨g,cap,Q,e,ON _,r⟩⟩;have hk:=H6 (O0:=O0) (ρ:=ρ) (ρ':=Ex ρ d loc) hf (FT w (.cells (c1++[Value.slice a 0 0]).toArray el)) (λm q=>by
      simp only[lk]at q;split at q
      .cases q
      .rename_i e;simp[Ex,e]) (λm o b q hb=>by
      simp only[lk]at q;split at q
      .grind [Bq]
      cases q)
     refine⟨.slice (some ⟨w.heap.size,0,none⟩) 1 1,Ex ρ d loc,w.alloc (.cells (c1++[Value.slice a 0 0]).toArray el),?_,QS.one (FT w _) Z ?_ ?_⟩
     .have aa:¬(1*(k.size+1) > 16777216):=by omega
      have h0:¬(1*(k.size+1)=0):=by omega
      simp only[Instr.buildSlice,AAm,Sb hu,tO,hs,BY aa,BY h0,ag,ABa,Sj,ABj,ad,newRow];rfl
     .refine⟨⟨.nest el A k e [(c,[])] none,by simp[EJ,lk]⟩,?_⟩;show DP (plc (Ex ρ d loc d)) _ 0 1 _;rw[Bq,<-K];exact GN y
     refine⟨_,[.slice none 0 0],c1++[Value.slice a 0 0],.inl K.symm,by simp[AP],rfl,y,λi am u hi hu=>?_,λi j b u v hi J hu ak=>?_,λi b u hi hb _=>?_⟩
     .rcases i with _|i
      .simp only[ABc,AAf]at hi hu;subst hi hu;refine⟨c1,.slice a 0 0,λj z J=>by simpa using J,C.mono hk.O hk.heap,.inr ⟨rfl,X,by simp[AP],[],AB8 _ 0 A _,Ho _ _ _ _⟩⟩
      simp at hi
     .grind
     grind [blk]
    unfold LX at h;obtain⟨cs,B,S⟩:=V x _ hx;obtain⟨c1,c2,rfl,h1,E⟩:=S;obtain⟨ah,N,rfl,f,F⟩:=E;have F:N=[]:=F;subst F;split at h
    .rename_i c s;cases h;obtain⟨L,rfl,_,f⟩:=f;have f:L=.slice none 0 0:=f;subst f;exact key c c1 none h1 s (by rw[B];simp) D hf
    .rename_i c ai l s;split at h
     .rename_i U;subst U;cases h;obtain⟨L,rfl,_,_,a,f⟩:=f;obtain⟨D,W⟩:=D;rw[W]at f;subst f;exact key c c1 a h1 s (by rw[B];simp) D hf
     cases h
    cases h
   cases h
 cases h
theorem YL (z:List Value) (f:0<z.length) (n:Nat) {i j:Nat} (b:j<z.length) (hi:i*z.length+j<n) {u:Value} (hu:z[j]?=some u) :
  (madeCells z.toArray n)[i*z.length+j]?=some u:=by
 simp only[madeCells,Array.getElem?_map,List.size_toArray];have e:(Array.range n)[i*z.length+j]?=some (i*z.length+j):=by grind
 rw[e];have d:(i*z.length+j) % z.length=j:=by
  rw[Nat.mul_comm,Nat.mul_add_mod];exact Nat.mod_eq_of_lt b
 simp only[AAP,d];have c:=(On.1 hu);obtain⟨h1,a⟩:=c;simp[h1,a]
theorem A49 (hT:EK P tb id ti) (f:DC P tb) {e:Ty} {offs:List (Nat×Nat)} {el:TypeId} {b:Nat} (y:ti=⟨.slice e,offs,el,b⟩) {te:TI} (l:lk el tb.ty=some te) {n:Int} {d:Nat}
  (h0:0<=n) (hn:n.toNat*te.bytes<=AP) (hf:Bg [(d,.arr el e (List.replicate n.toNat e.dflt))] σ=true) :
  ∃u ρ' w',(Instr.makeSlice id (.int .i64 n) (.int .i64 n)).run P w=.ok u w'/\QS w O0 σ ρ (.sr d e 0 n.toNat) [(d,.arr el e (List.replicate n.toNat e.dflt))] u ρ' w':=by
 subst y;obtain⟨hu,hs,F,m,rfl⟩:=CQ hT f;rw[l]at m;cases m;obtain⟨⟨⟨_,p,_⟩,i,z,hi,k,D,B,C⟩,_⟩:=f _ _ l;have E:=te.ty.size_pos;have a:n.toNat<=AP:=by
  have:n.toNat*1<=n.toNat*te.bytes:=AAQ _ p;omega
 have o:(i.bytes:Int)*n<=281474976710656:=by grind [AP]
 have v:=run_make (P:=P) w id el i z hu hi B .i64 .i64 n n h0 (Sh _) o (by simp only[AP]at a;omega);have c:te.ty.zero.length=te.ty.size:=(Bx.zero w (λ_=>False) te.ty).length;refine⟨_,_,_,v,QS.arr hf (FT w _) (aQ (et:=el) (sz:=te.ty.size) (n:=n.toNat) (cells:=madeCells z.cells (n.toNat*i.size)) (by rw[size_madeCells,k]) a |> λh=>by simpa using h) (by simpa using a) ?_ sc⟩;intro j x hx;have r:=(On.1 hx).1;simp only[ABC]at r;have A:x=te.ty.dflt:=by grind
 subst A;refine⟨te.ty.zero,c,λq u g=>?_,Bx.zero _ _ _⟩;have t:=(On.1 g).1;have s:j*te.ty.zero.length+q<n.toNat*i.size:=by
  rw[k,c];have:(j+1)*te.ty.size<=n.toNat*te.ty.size:=UI _ oa;rw[AAt]at this;omega
 have:=YL te.ty.zero oa (n.toNat*i.size) t s g;rw[c]at this;rw[C];simpa using this
theorem A6O (hT:EK P tb id ti) (i:DC P tb) {d:Nat} {x y:AV} {xv c:Value} (h:Jg tb d (some ti) (some x) (some y)=some (vc,v,obs)) (o:vc)
  (hx:B2 (vw w O0 σ ρ) x xv) (hy:B2 (vw w O0 σ ρ) y c) (hf:Bg obs σ=true) :
  ∃u ρ' w',(Instr.makeSlice id xv c).run P w=.ok u w'/\QS w O0 σ ρ v obs u ρ' w':=by
 unfold Jg at h;split at h
 .rename_i e offs el b n m j k l;cases j;cases k;cases l;cases a:lk el tb.ty with
  | none=>rw[a]at h;simp[OB]at h
  | some te =>
   rw[a]at h;simp only[OB]at h;cases h;obtain⟨rfl,_⟩:=BM hx;obtain⟨rfl,_⟩:=BM hy;obtain⟨h1,f,g⟩:=o;have h1:n=m:=h1;subst h1;exact A49 hT i rfl a f g hf
 cases h
end
end
section
open Go Go.RowKit
theorem Yg {w:World} {O:Nat->Prop} {e:Ty}:∀ {l:List e.den} {ad:Addr},
  (∀(i:Nat) (x:e.den),l[i]?=some x->∃b:List Value,b.length=e.size/\(∀(j:Nat) (v:Value),b[j]?=some v->w.cell? (ad.add (i*e.size+j))=some v)/\Bx w O e b x) ->
  ∃c:List Value,c.length=l.length*e.size/\De w O e c l/\(∀u∈c,u.oneCell'=true)/\(∀(j:Nat) (u:Value),c[j]?=some u->w.cell? (ad.add j)=some u)
 | [],ad,h=>⟨[],by simp,Ho _ _ _ _,by simp,by simp⟩
 | x :: l,ad,h=>by
  obtain⟨b,h1,q,m⟩:=h 0 x rfl;obtain⟨c,n,o,p,r⟩:=Yg (w:=w) (O:=O) (e:=e) (l:=l) (ad:=ad.add e.size) (λi y hi=>by
   obtain⟨d,f,g,k⟩:=h (i+1) y (by simpa using hi);refine⟨d,f,λj v a=>?_,k⟩;rw[DL,show e.size+(i*e.size+j)=(i+1)*e.size+j by rw[AAt];omega];exact g j v a)
  refine⟨b++c,by simp[h1,n,AAt];omega,λi y hi=>?_,λu hu=>?_,λj u a=>?_⟩
  .cases i with
   | zero =>
    simp at hi;subst hi;refine⟨b,h1,λj u a=>?_,m⟩;rw[AC8,AAC,Se (On.1 a).1];exact a
   | succ i =>
    obtain⟨d,f,g,k⟩:=o i y (by simpa using hi);refine⟨d,f,λj u a=>?_,k⟩;rw[Sf (by rw[h1,AAt];omega),h1,show (i+1)*e.size+j-e.size=i*e.size+j by rw[AAt];omega];exact g j u a
  .rcases Do.1 hu with hu|hu
   .exact m.one u hu
   exact p u hu
  grind [DL]
section
variable {P:Program} {tb:Tb} {id:TypeId} {ti:TI} {w:World} {O0:Nat->Prop} {σ:St} {ρ:Nat->Value} {vc:Prop} {v:AV} {obs:List (Nat×Obj)}
structure Src (w:World) (O:Nat->Prop) (e:Ty) (xv:Value) (ys:List e.den) (news:List Value):Prop where
 form:∃(a:Option Addr) (c:Nat),xv=.slice a ys.length c/\(ys=[]\/∃ad,a=some ad/\∀(j:Nat) (u:Value),news[j]?=some u->w.cell? (ad.add j)=some u)
 len:news.length=ys.length*e.size
 elems:De w O e news ys
 one:∀u∈news,u.oneCell'=true
 max:ys.length<=AP
theorem UT (w:World) (O:Nat->Prop) (e:Ty) (a:Option Addr) (c:Nat):Src w O e (.slice a 0 c) [] [] :=
 ⟨⟨a,c,rfl,.inl rfl⟩,by simp,Ho _ _ _ _,by simp,by simp[AP]⟩
theorem Yh {V:Vw} {et:TypeId} {e:Ty} {xs:List e.den} {loc:Value} {cells:List Value} (k:V.w.ownsRow 0 et e.size loc xs.length cells) (g:De V.w V.O e cells xs):∀u∈cells,u.oneCell'=true:=by
 intro u hu;obtain⟨j,h,i⟩:=AAi.1 hu;have hl:=k.1;have c:=e.size_pos;have hi:j / e.size<xs.length:=by
  rw[Nat.div_lt_iff_lt_mul c];omega
 obtain⟨a,h1,d,f⟩:=g (j / e.size) (xs[j / e.size]) (AT hi);have b:j % e.size<a.length:=by rw[h1];exact ACd _ c
 have:=d (j % e.size) (a[j % e.size]) (AT b);rw[show j / e.size*e.size+j % e.size=j by rw[Nat.mul_comm];exact Nat.div_add_mod j e.size]at this;rw[AT h]at this;injection this with this
 rw[<-i,this];exact f.one _ (aT b)
def noN (σ:St):AV->Bool
 | .sr n _ _ _=>DA (lk n σ.objs)
 | _=>false
theorem qV {w:World} {O:Nat->Prop} {et:TypeId} {e2:Ty} {xs:List e2.den} {loc xv:Value} {cells:List Value} {lo hi:Nat} (L:xs.length<=AP) (d:w.ownsRow 0 et e2.size loc xs.length cells) (k:De w O e2 cells xs) (D:DP loc e2.size lo hi xv) :
  ∃E,Src w O e2 xv (sub xs lo hi) E:=by
 have P:=Yh (V:=⟨w,O,λ_=>False,λ_=>undef⟩) d k;obtain⟨a,m,c,o,J,l,f,h,rfl,F,h0,h1⟩:=D;have B:m=xs.length:=by
  rcases d.2 with ⟨b,C⟩|⟨g,cap,p,b,_⟩
  .grind
  rw[o]at b;injection b
 subst B;have hl:=OJ xs (lo:=lo) l;by_cases z:lo<hi
 .rcases d.2 with ⟨b,C⟩|⟨g,cap,p,b,r⟩
  .omega
  have G:=World.ownsRow.cells d (g:=g) (by rw[b];rfl);have ha:a=some ⟨g,0,none⟩:=by rw[o]at b;injection b
  subst ha;have H:=d.1;have M:hi*e2.size<=xs.length*e2.size:=UI _ l;have N:lo*e2.size<=hi*e2.size:=UI _ oa;refine⟨(cells.drop (lo*e2.size)).take ((hi-lo)*e2.size),⟨f,h,by rw[hl],.inr ⟨_,h1 z,λj u e=>?_⟩⟩,?_,?_,?_,?_⟩
  .grind [DL]
  .rw[hl,OS,aS,Nat.sub_mul];omega
  .intro i x y;obtain⟨hx,K⟩:=aK xs lo hi i y;obtain⟨q,s,t,v⟩:=k (lo+i) x hx;refine⟨q,s,λj u e=>?_,v⟩;have I:=(On.1 e).1;have A:i*e2.size+j<(hi-lo)*e2.size:=by
    have:(i+1)*e2.size<=(hi-lo)*e2.size:=UI _ oa;rw[AAt]at this;omega
   rw[UP,DO A,AA9];have:=t j u e
   rwa [ABz,AC3]at this
  .grind
  rw[hl];omega
 have n:sub xs lo hi=[]:=Sk (by rw[hl];omega);refine⟨[],⟨f,h,by rw[hl],.inl n⟩,by rw[hl,show hi-lo=0 by omega];simp,?_,by simp,by rw[hl];omega⟩;rw[n];exact Ho _ _ _ _
theorem aR (q:∀n o,lk n σ.objs=some o->A5 (vw w O0 σ ρ) o (ρ n)) {e:Ty} {x:AV} {xv:Value} {ys:List e.den} (h:NR true σ (.slice e) x=some ys) (C:noN σ x=false) (hx:B2 (vw w O0 σ ρ) x xv) :
  ∃A,Src w (own O0 σ ρ) e xv ys A:=by
 replace h:E3 true σ (.slice e) x=some ys:=by
  unfold NR at h;exact h
 cases x;case p u F =>
  have h:BQ (.slice e) ⟨u,F⟩=some ys:=by simpa only[E3] using h
  have:=BB h;injection this with h1 B
  subst h1;cases B;obtain⟨cs,⟨a,c,rfl,m,J,s⟩,rfl⟩:=hx;by_cases hn:ys=[]
  .subst hn;exact⟨[],UT _ _ _ _ _⟩
  rcases s with s|⟨ad,rfl,U,g⟩
  .exact absurd s hn
  obtain⟨A,d,f,H,I⟩:=Yg g;exact⟨A,⟨some ad,c,rfl,.inr ⟨ad,rfl,I⟩⟩,d,f,H,J⟩
 case sr n G lo hi =>
  simp only[E3]at h;split at h
  .rename_i t;obtain⟨_,rfl⟩:=t;obtain⟨K,b⟩:=hx;cases hn:lk n σ.objs with
   | none=>rw[hn]at h;simp[Q6]at h
   | some o =>
    rw[hn]at h;cases o with
    | box et st fs=>simp[Q6]at h
    | mapo k v l=>simp[Q6]at h
    | frame ae fs=>simp[Q6]at h
    | loop L=>simp[Q6]at h
    | itr Y ab Z aa X=>simp[Q6]at h
    | dfr=>simp[Q6]at h
    | nest et S k e2 xs hl=>rw[noN,hn]at C;cases C
    | arr et e2 xs =>
     simp only[Q6]at h;obtain⟨d,f⟩:=Bk h;subst d;cases f;have b:DP (plc (ρ n)) e2.size lo hi xv:=b;rw[US (q n _ hn)]at b;obtain⟨y,cells,j,g⟩:=q n _ hn;exact qV y j g b
  cases h
 case nin n G i len =>
  simp only[E3]at h;split at h
  .rename_i t;obtain⟨_,rfl⟩:=t;obtain⟨K,ag,a,c,E,D,r,O,V⟩:=hx;cases hn:lk n σ.objs with
   | none=>rw[hn]at h;simp[Tu]at h
   | some o =>
    rw[hn]at h;unfold Tu at h;split at h
    .rename_i et S k e2 xs Q;cases Q;obtain⟨d,f⟩:=Bk h;subst d;cases f;have N:=aN (z:=(k.dflt,[])) (q n _ hn) D r;obtain⟨o,ins,cells,hl,M⟩:=q n _ hn;obtain rfl:=hl.tup D;have r:ins[i]?=some E:=by simpa using r
     obtain⟨c1,af,h1,B,m⟩:=M.row i _ E N r;rcases m with ⟨m,_⟩|⟨_,_,y,W,j,g⟩
     .cases m
     rcases O with rfl|⟨rfl,T,rfl⟩
     .have:=qV y j g (GN j)
      rwa [KH]at this
     have P:=KU j;have R:(xs.getD i (k.dflt,[])).2=[]:=Sk P.symm;rw[R];exact⟨[],UT _ _ _ _ _⟩
    cases h
  cases h
 case raw u =>
  have b:xv=u:=hx;subst b;cases xv with
  | slice a n c =>
   cases a with
   | some a=>simp[E3]at h
   | none =>
    cases n with
    | succ n=>simp[E3]at h
    | zero =>
     cases c with
     | succ c=>simp[E3]at h
     | zero =>
      simp only[E3]at h;cases h;exact⟨[],UT _ _ _ _ _⟩
  | _=>simp[E3]at h
 all_goals simp[E3]at h
theorem UU (a:∀n o,lk n σ.objs=some o->A5 (vw w O0 σ ρ) o (ρ n)) {e:Ty} {x:AV} {xv:Value} {ys:List e.den} (h:Q1 σ e x=some ys) (hx:B2 (vw w O0 σ ρ) x xv) :
  ∃d,Src w (own O0 σ ρ) e xv ys d:=by
 unfold Q1 at h;split at h
 .split at h
  .cases h
  rename_i b;exact aR a h (by simpa[noN] using b) hx
 rename_i c;refine aR a h ?_ hx;cases x<;>first|rfl|exact absurd rfl (c _ _ _ _)
theorem S0 {el:TypeId} (hu:P.underlying id=some (.slice el)) {sz:Nat} (hs:(sizeOf el).run P w=.ok sz w) {base et ty:Nat} {s:Value} {n:Nat} {xs:List Value} (b:w.ownsRow base et sz s n xs) (c:Nat) :
  (Builtin.append_ #[id,id] ty #[s,.slice none 0 c]).run P w=.ok s w:=by
 rcases b.2 with ⟨rfl,rfl⟩|⟨g,cap,d,rfl,_,_,a,_⟩
 .simp[Builtin.append_,Sb hu,hs,Builtin.lenOf,Builtin.firstCells]
 simp[Builtin.append_,Sb hu,hs,Builtin.lenOf,Builtin.firstCells,a,storeCells]
theorem GP (k:DC P tb) {el:TypeId} {e:Ty} (hu:P.underlying id=some (.slice el)) {te:TI} (q:lk el tb.ty=some te) (A:te.ty=e) {base ty:Nat} {s xv:Value} {n:Nat} {xs h:List Value}
    (g:w.ownsRow base el e.size s n xs) {O:Nat->Prop} {ys:List e.den} (D:Src w O e xv ys h) (r:(n+ys.length)*te.bytes<=AP) (l:base<=w.heap.size) :
    ∃b w',(Builtin.append_ #[id,id] ty #[s,xv]).run P w=.ok b w'/\w'.ownsRow base el e.size b (n+ys.length) (xs++h)/\w.grownBy w' s.ownBlock/\n+ys.length<=AP:=by
  subst A;obtain⟨⟨⟨_,x,_⟩,i,z,hi,p,m,t,u⟩,_⟩:=k _ _ q;have f:n+ys.length<=AP:=by
    have:(n+ys.length)*1<=(n+ys.length)*te.bytes:=AAQ _ x;omega
  obtain⟨⟨a,c,rfl,v⟩,o,E,C,F⟩:=D;have hs:(sizeOf el).run P w=.ok te.ty.size w:=H7 w (k _ _ q);rcases v with rfl|⟨ad,rfl,y⟩
  . have B:h=[]:=Sk (by simpa using o)
    subst B;cases a with
    | none =>
      refine⟨s,w,S0 hu hs g c,by simpa using g,⟨rfl,rfl,rfl,No _,λ_ _ _=>rfl⟩,f⟩
    | some ad =>
      obtain⟨b,w',h1,d,j,_⟩:=run_append_own (P:=P) w base id ty el i z te.ty.size te.bytes hu hi t p m (by rw[u];simpa using (Bx.zero w (λ_=>False) te.ty).length) te.ty.size_pos s n xs g ad 0 c [] sc sc sc
        (by have h1:AP=140737488355328:=rfl;have d:maxLen=9223372036854775807:=rfl;simp at f;omega) (by simpa[AP] using r) l
      exact⟨b,w',h1,by simpa using d,j,f⟩
  obtain ⟨b, w', h1, d, j, _⟩ := run_append_own (P := P) w base id ty el i z te.ty.size te.bytes hu hi t p m (by rw [u]; simpa using (Bx.zero w (λ_ => False) te.ty).length) te.ty.size_pos s n xs g ad ys.length c h o y C
      (by have h1:AP=140737488355328:=rfl;have d:maxLen=9223372036854775807:=rfl;omega) (by simpa[AP] using r) l
  exact⟨b,w',h1,d,j,f⟩
theorem KW {w:World} {O:Nat->Prop} {e:Ty} {c1 c2:List Value} {xs ys:List e.den} (h1:De w O e c1 xs) (f:De w O e c2 ys) (hl:c1.length=xs.length*e.size):De w O e (c1++c2) (xs++ys):=by
 intro i x hi;rw[AAa]at hi;split at hi
 .obtain⟨a,b,c,d⟩:=h1 i x hi;grind
 rename_i h;obtain⟨a,b,c,d⟩:=f _ x hi;refine⟨a,b,λj u g=>?_,d⟩;have k:xs.length*e.size<=i*e.size:=UI _ oa;rw[Sf oa,hl];have:=c j u g;rw[Nat.sub_mul]at this;rw[<-this]
 congr 1
 omega
theorem S1 (k:DC P tb) {el:TypeId} {e:Ty} (hu:P.underlying id=some (.slice el)) {te:TI} (m:lk el tb.ty=some te) (v:te.ty=e) {ty:Nat} {xv:Value} {O:Nat->Prop} {xs:List e.den} {a:Option Addr} {c:List Value}
  (hs:Src w O e (.slice a xs.length xs.length) xs c) {ys:List e.den} {d:List Value} (l:Src w O e xv ys d) (h0:0<ys.length) (n:(xs.length+ys.length)*te.bytes<=AP) :
  ∃b w',(Builtin.append_ #[id,id] ty #[.slice a xs.length xs.length,xv]).run P w=.ok b w'/\w'.ownsRow w.heap.size el e.size b (xs.length+ys.length) (c++d)/\w.grownBy w' none:=by
 subst v;have o:∀ad:Addr,a=some ad->(∀(j:Nat) (u:Value),c[j]?=some u->w.cell? (ad.add j)=some u)->∃b w',(Builtin.append_ #[id,id] ty #[.slice a xs.length xs.length,xv]).run P w=.ok b w'/\w'.ownsRow w.heap.size el te.ty.size b (xs.length+ys.length) (c++d)/\w.grownBy w' none:=by
  intro ad ha C;subst ha;obtain⟨⟨⟨_,r,_⟩,i,z,hi,D,s,E,F⟩,_⟩:=k _ _ m;obtain⟨⟨H,c2,rfl,f⟩,y,K,R,M⟩:=l;have Q:xs.length+ys.length<=AP:=by
   have:(xs.length+ys.length)*1<=(xs.length+ys.length)*te.bytes:=AAQ _ r;omega
  rcases f with rfl|⟨p,rfl,g⟩
  .simp at h0
  exact run_append_arg_grows (P:=P) w id ty el i z te.ty.size te.bytes hu hi E D s (by rw[F];simpa using (Bx.zero w (λ_=>False) te.ty).length) te.ty.size_pos ad xs.length xs.length c hs.len C p ys.length c2 d y g oa
   (by have h1:AP=140737488355328:=rfl;have h:maxLen=9223372036854775807:=rfl;omega) (by simpa[AP] using n)
 obtain⟨⟨G,c1,t,f⟩,A,L,S,N⟩:=hs;injection t with e1 e2 I
 subst e1;rcases f with rfl|⟨ad,ha,g⟩
 .have B:c=[]:=Sk (by simpa using A);subst B;cases a with
  | some ad=>exact o ad rfl λj u x=>by simp at x
  | none =>
   obtain⟨b,w',h1,h,q,J⟩:=GP (ty:=ty) k hu m rfl (AB8 w w.heap.size el te.ty.size) l (by simpa using n) (No _);exact⟨b,w',h1,by simpa using h,q⟩
 exact o ad ha g
theorem S2 {w w':World} (h:w.grownBy w' none):Below w.heap.size w w':=⟨h.os,h.tape,h.output,h.size,λk hk=>h.block k hk sc⟩
theorem A02 (a:DC P tb) (C:∀n o,lk n σ.objs=some o->A5 (vw w O0 σ ρ) o (ρ n)) {d:Nat} {t u:TypeId} {x y:AV} {xv G:Value} {ty:TypeId}
  (h:Dg tb σ d t u (some x) (some y)=some (vc,v,obs)) (m:vc) (hx:B2 (vw w O0 σ ρ) x xv) (hy:B2 (vw w O0 σ ρ) y G) (hf:Bg obs σ=true) :
  ∃z ρ' w',(Builtin.append_ #[t,u] ty #[xv,G]).run P w=.ok z w'/\QS w O0 σ ρ v obs z ρ' w':=by
 unfold Dg at h;split at h
 .rename_i A B;cases A;cases B;have hx:xv=_:=hx;subst hx;split at h
  .rename_i E;subst E;cases c:lk t tb.ty with
   | none=>rw[c]at h;simp[E5]at h
   | some ti =>
    rw[c]at h;unfold E5 at h;split at h
    .rename_i e offs el b s;cases s;obtain⟨hu,hs,te,i,k⟩:=CQ (a _ _ c) a;rw[i]at h;cases f:Q1 σ e y with
     | none=>rw[f]at h;simp[Fj]at h
     | some ys =>
      rw[f]at h;simp only[Fj]at h;cases h;obtain⟨F,g⟩:=UU C f hy;obtain⟨q,w',h1,j,r,M⟩:=GP (ty:=ty) a hu i k (AB8 w w.heap.size el e.size) g (by simpa using m) (No _);have j:w'.ownsRow w.heap.size el e.size q ys.length F:=by simpa using j
      exact⟨q,_,w',h1,QS.arr hf (S2 r) j g.max g.elems rfl⟩
    cases h
  cases h
 .rename_i e l v1 A B;cases A;cases B;split at h
  .rename_i E;subst E;obtain⟨J,L,rfl⟩:=hx;cases c:lk t tb.ty with
   | none=>rw[c]at h;simp[KR]at h
   | some ti =>
    rw[c]at h;unfold KR at h;split at h
    .rename_i e2 offs el b s;cases s;split at h
     .rename_i k;subst k;obtain⟨hu,hs,te,i,k⟩:=CQ (a _ _ c) a;rw[i]at h;cases f:Q1 σ e2 y with
      | none=>rw[f]at h;simp[LY]at h
      | some ys =>
       rw[f]at h;simp only[LY]at h;cases h;obtain⟨K,m⟩:=m;obtain⟨F,g⟩:=UU C f hy;obtain⟨N,D⟩:=aR (e:=e2) (ys:=l) (x:=.p (.slice e2) l) C (by simp[NR,E3,Gf]) rfl J;obtain⟨q,w',h1,j,r⟩:=S1 (ty:=ty) a hu i k D g K m;have I:(l++ys).length<=AP:=by
        obtain⟨⟨⟨_,H,_⟩,_⟩,_⟩:=a _ _ i;have:(l.length+ys.length)*1<=(l.length+ys.length)*te.bytes:=AAQ _ H;rw[As];omega
       exact⟨q,_,w',h1,QS.arr hf (S2 r) (by rw[As];exact j) I (KW D.elems g.elems D.len) (by rw[As])⟩
     cases h
    cases h
  cases h
 cases h
end
end
section
open Go Go.RowKit
def Vd:Ty->Option TypeDesc
 | .int k=>some (.int k)
 | .bool=>some .bool
 | .str=>some .string
 | .prod _ _=>none
 | .agg _=>none
 | .slice _=>none
 | .ref _=>none
section
variable {w:World} {O:Nat->Prop}
theorem Mr {a:Ty} {d:TypeDesc} (hd:Vd a=some d) {k:a.den} {b:Value} (h:BV w O a b k):MapKept.IsKey d b:=by
 cases a<;>simp only[Vd]at hd<;>try(cases hd;done)
 all_goals cases hd
 .obtain⟨rfl,_⟩:=BM h;trivial
 .have:=ED h;subst this;trivial
 obtain⟨rfl,_⟩:=Gj h;trivial
theorem eQ {a:Ty} {d:TypeDesc} (hd:Vd a=some d) {k c:a.den} {e f:Value} (h:BV w O a e k) (b:BV w O a f c):Instr.sameNow d e f=some (Ii a k c):=by
 cases a<;>simp only[Vd]at hd<;>try(cases hd;done)
 all_goals cases hd
 .obtain⟨rfl,_⟩:=BM h;obtain⟨rfl,_⟩:=BM b;simp[Instr.sameNow,Ii]
 .have:=ED h;subst this;have:=ED b;subst this;simp[Instr.sameNow,Ii]
 obtain⟨rfl,_⟩:=Gj h;obtain⟨rfl,_⟩:=Gj b;simp[Instr.sameNow,Ii]
theorem A6P {a:Ty} {d:TypeDesc} (hd:Vd a=some d) {k c:a.den} {e f:Value} (h:BV w O a e k) (b:BV w O a f c) (j:Ii a k c=true):f=e:=by
 have h1:=eQ hd h b;obtain⟨r,g,i⟩:=MapKept.sameNow_of_keys (Mr hd h) (Mr hd b);grind
def Lk (a b:Ty) (k:a.den):List MapEntry->List (a.den×b.den)->Nat->Option (Nat×Value)
 | e :: c,x :: l,i=>if Ii a k x.1=true then some (i,e.val) else Lk a b k c l (i+1)
 | _,_,_=>none
end
structure aU (P:Program) (kid:TypeId) (kt:Ty):Prop where
 check:∀ {w:World} {O:Nat->Prop} {kv:Value} {k:kt.den} (em:Bool),BV w O kt kv k->(Instr.checkKey em 10000 kid kv).run P w=.ok () w
 find:∀ {w:World} {O:Nat->Prop} {vt:Ty} {es:List MapEntry} {l:List (kt.den×vt.den)} {kv:Value} {k:kt.den},BV w O kt kv k->OH w O kt vt es l->(Instr.findKey kid kv es).run P w=.ok (Lk kt vt k es l 0) w
 stays:∀ {w:World} {O:Nat->Prop} {kv:Value} {k:kt.den},BV w O kt kv k->(Instr.keyThatStays kv kv).run P w=.ok kv w
 same:∀ {w:World} {O:Nat->Prop} {kv kv':Value} {k k':kt.den},BV w O kt kv k->BV w O kt kv' k'->Ii kt k k'=true->kv'=kv
theorem Yi {w:World} {O:Nat->Prop} {a c:Ty} {d:TypeDesc} (hd:Vd a=some d) {k:a.den} {f:Value} (hk:BV w O a f k):∀ {b:List MapEntry} {l:List (a.den×c.den)},OH w O a c b l->∀i,Instr.findNow d f b i=some (Lk a c k b l i)
 | [],[],_,i=>rfl
 | [],_ :: _,h,_=>h.elim
 | _ :: _,[],h,_=>h.elim
 | e :: b,x :: l,⟨h1,m,g⟩,i=>by
  have hs:=eQ hd hk h1;have j:=Yi hd hk g (i+1);cases hb:Ii a k x.1<;>rw[hb]at hs<;>simp[Instr.findNow,Lk,hs,hb,j]
theorem JH {P:Program} {kid:TypeId} {kt:Ty} {d:TypeDesc} (hd:Vd kt=some d) (hu:P.underlying kid=some d):aU P kid kt where
 check:=λem h=>MapKept.run_checkKey hu (Mr hd h) em 9999
 find:=λhk he=>MapKept.run_findKey hu (Yi hd hk he 0)
 stays:=λh=>MapKept.run_keyThatStays (Mr hd h)
 same:=λh h' he=>A6P hd h h' he
theorem Hp {w:World} {O:Nat->Prop} {a b:IntKind} {v:Value} {d:(Ty.agg (.prod (.int a) (.int b))).den} (h:BV w O (.agg (.prod (.int a) (.int b))) v d):v=.agg #[.int a d.1,.int b d.2]:=by
 obtain⟨cs,⟨c1,c2,rfl,⟨rfl,_⟩,⟨rfl,_⟩⟩,rfl⟩:=h;rfl
theorem Ll {P:Program} {w:World} {t:TypeId} {a:IntKind} (h:P.underlying t=some (.int a)) (d:Nat) (x y:Int):(Op.equalIn (d+1) t (.int a x) (.int a y)).run P w=.ok (x==y) w:=by simp[Op.equalIn,Sb h]
theorem Pb {P:Program} {w:World} {t:TypeId} {a:IntKind} (h:P.underlying t=some (.int a)) (em:Bool) (d:Nat) (x:Int):(Instr.checkKey em (d+1) t (.int a x)).run P w=.ok () w:=by simp[Instr.checkKey,Sb h]
theorem YM {P:Program} {w:World} {h:TypeId} {a b:IntKind} (n:PU P h a b) (em:Bool) (d:Nat) (x y:Int):(Instr.checkKey em (d+2) h (.agg #[.int a x,.int b y])).run P w=.ok () w:=by
 obtain⟨c,e,hu,⟨h1,j⟩,⟨l,m⟩,⟨f,g⟩,t⟩:=n;have i : c.name ≠ "_" := by simpa using h1
 have k : e.name ≠ "_" := by simpa using j
 have o:P.plainKey c.type=true:=by simp[Program.plainKey,f]
 have p:P.plainKey e.type=true:=by simp[Program.plainKey,g]
 have p0:=λ(u v:Value)=>ABq (P:=P) w o (xs:=#[u,v]) (off:=c.offset) (v:=u) (by rw[l];rfl);have q:=λ(u v:Value)=>ABq (P:=P) w p (xs:=#[u,v]) (off:=e.offset) (v:=v) (by rw[m];rfl);have r:=λx:Int=>Pb (w:=w) f em d x;have s:=λx:Int=>Pb (w:=w) g em d x;rw[Instr.checkKey];simp[Sb hu,i,k,p0,q,r,s]
theorem lV {P:Program} {g:TypeId} {a b:IntKind} (z:PU P g a b) (w:World) (h i j k:Int):(Op.equal g (.agg #[.int a h,.int b i]) (.agg #[.int a j,.int b k])).run P w=.ok ((h==j)&&(i==k)) w:=by
 obtain⟨d,f,hu,⟨h1,l⟩,⟨r,s⟩,⟨m,n⟩,t⟩:=z;have o:P.fieldsOf g=#[d,f]:=by simp[Program.fieldsOf,hu]
 have A:P.plainKey d.type=true:=by simp[Program.plainKey,m]
 have B:P.plainKey f.type=true:=by simp[Program.plainKey,n]
 have h1 : d.name ≠ "_" := by simpa using h1
 have l : f.name ≠ "_" := by simpa using l
 have C:∀x y:Int,(Op.equalIn 9999 d.type (.int a x) (.int a y)).run P w=.ok (x==y) w:=λx y=>Ll m 9998 x y;have p:∀x y:Int,(Op.equalIn 9999 f.type (.int b x) (.int b y)).run P w=.ok (x==y) w:=λx y=>Ll n 9998 x y;have e:(Op.equal g (.agg #[.int a h,.int b i]) (.agg #[.int a j,.int b k])).run P w=_:=run_equalIn_struct (P:=P) w 9999 g _ _ (by rw[o];exact hu) t;rw[e,o];have p0:=λ(u v:Value)=>ABq (P:=P) w A (xs:=#[u,v]) (off:=d.offset) (v:=u) (by rw[r];rfl);have q:=λ(u v:Value)=>ABq (P:=P) w B (xs:=#[u,v]) (off:=f.offset) (v:=v) (by rw[s];rfl);simp only[Op.eqFields,h1,l,ne_eq,not_false_eq_true,AAd,AAm,p0,q,tO,C,p];by_cases c:h=j
 .by_cases c2:i=k<;>simp[c,c2,AC4,AAm,q,p,Op.eqFields]
 simp[c,AC4]
theorem Yj {P:Program} {j:TypeId} {a b:IntKind} (f:PU P j a b) {w:World} {O:Nat->Prop} {d:Ty} {k:(Ty.agg (.prod (.int a) (.int b))).den} {m:Value} (hk:BV w O (.agg (.prod (.int a) (.int b))) m k) :
  ∀ {c:List MapEntry} {l:List ((Ty.agg (.prod (.int a) (.int b))).den×d.den)},OH w O (.agg (.prod (.int a) (.int b))) d c l->∀i,(Instr.findAsking j m c i).run P w=.ok (Lk (.agg (.prod (.int a) (.int b))) d k c l i) w
 | [],[],_,i=>rfl
 | [],_ :: _,h,_=>h.elim
 | _ :: _,[],h,_=>h.elim
 | e :: c,x :: l,⟨h1,p,n⟩,i=>by
  have o:=Yj f hk n (i+1);have g:=lV f w k.1 k.2 x.1.1 x.1.2;rw[<-Hp hk,<-Hp h1]at g;have hb:Ii (.agg (.prod (.int a) (.int b))) k x.1=((k.1==x.1.1)&&(k.2==x.1.2)):=rfl;simp only[Instr.findAsking,AAm,g,tO,Lk,hb,AC4];split
  .rfl
  exact o
theorem eU {P:Program} {kid:TypeId} {a b:IntKind} (hp:PU P kid a b):aU P kid (.agg (.prod (.int a) (.int b))) where
 check:=λem h=>by
  rw[Hp h];exact YM hp em 9998 _ _
 find:=λhk he=>by
  have hp2:=hp;obtain⟨f0,f1,hu,_⟩:=hp2;rw[run_findKey_eq _ (by rw[hu])];exact Yj hp hk he 0
 stays:=λh=>by
  rw[Hp h];simp[Instr.keyThatStays,Instr.sameBits]
 same:=λh h' he=>by
  rw[Hp h,Hp h'];have he:((_==_)&&(_==_))=true:=he;grind
theorem RE {P:Program} {A:TypeId} {w:World} {O:Nat->Prop} {c a:Ty} (s:aU P A c) {k:c.den} {m:Value} (hk:BV w O c m k):∀ {f:List MapEntry} {l:List (c.den×a.den)},OH w O c a f l->∀i,
  (BX c a k l=none/\Lk c a k f l i=none/\∀(v:a.den) (d:Value) (b:Nat),BV w O a d v->OH w O c a (f++[⟨m,d,b⟩]) (Fh c a k v l)) \/
  ∃(j:Nat) (e:MapEntry) (v0:a.den),BX c a k l=some v0/\Lk c a k f l i=some (i+j,e.val)/\f[j]?=some e/\BV w O a e.val v0/\e.key=m /\
   ∀(v:a.den) (d:Value),BV w O a d v->OH w O c a (f.modify j λe=>{ e with key:=m,val:=d }) (Fh c a k v l)
 | [],[],_,i=>.inl ⟨rfl,rfl,λv d b g=>⟨hk,g,trivial⟩⟩
 | [],_ :: _,h,_=>h.elim
 | _ :: _,[],h,_=>h.elim
 | e :: f,x :: l,⟨h1,p,r⟩,i=>by
  cases hb:Ii c k x.1 with
  | true =>
   refine .inr ⟨0,e,x.2,by simp[BX,hb],by simp[Lk,hb],rfl,p,s.same hk h1 hb,λv d g=>?_⟩;simp only[Fh,hb,AAd];exact⟨hk,g,r⟩
  | false =>
   rcases RE s hk r (i+1) with ⟨n,q,o⟩|⟨j,t,v0,n,q,o,u,y,z⟩
   .refine .inl ⟨by simp[BX,hb,n],by simp[Lk,hb,q],λv d b g=>?_⟩;simp only[Fh,hb,AA0,AAp];exact⟨h1,p,o v d b g⟩
   refine .inr ⟨j+1,t,v0,by simp[BX,hb,n],?_,by simpa using o,u,y,λv d g=>?_⟩
   .grind [Lk]
   simp only[Fh,hb,AA0,AAp,List.modify_succ_cons];exact⟨h1,p,z v d g⟩
theorem eX {P:Program} {tb:Tb} {id:TypeId} {ti:TI} (hT:EK P tb id ti) (c:ti.el=0) (hk:aG ti.ty=true):aU P id ti.ty:=by
 have a:=hT.2;obtain⟨⟨⟨_,_,b⟩,_⟩,_⟩:=hT;rw[c]at b;cases ht:ti.ty<;>rw[ht]at a hk b<;>simp only[aG]at hk<;>try(cases hk;done)
 .exact JH rfl a
 .exact JH rfl a
 .exact JH rfl a
 unfold vF at hk;split at hk
 .exact eU b
 cases hk
theorem vM {t:Ty} {z:Value} (c:z.cells=t.zero.toArray) (hf:aO t z=true):z=t.wrap t.zero:=by
 cases t with
 | agg t =>
  cases z<;>simp only[aO]at hf<;>try(cases hf;done)
  simp only[Value.cells]at c;rw[c];rfl
 | prod a b=>cases z<;>simp[aO]at hf
 | _=>cases z<;>simp only[aO]at hf<;>(try(cases hf;done))<;>(simp only[Value.cells,Ty.zero]at c;simp[Ty.wrap,Ty.zero]at c ⊢<;>exact c)
section
variable {P:Program} {tb:Tb} {w:World} {O0:Nat->Prop} {σ:St} {ρ:Nat->Value} {vc:Prop} {v:AV} {obs:List (Nat×Obj)} {id:TypeId} {ti:TI}
theorem vO {P:Program} {tb:Tb} {e:TypeId} {te:TI} {z:Value} {i:TypeInfo} (hi:P.info? e=some i) (b:i.zero=some z) (a:z.cells=te.ty.zero.toArray) (hf:aO te.ty z=true) (w:World) (O:Nat->Prop) :
  (zeroValue e).run P w=.ok z w/\BV w O te.ty z te.ty.dflt:=by
 refine⟨by simp[zeroValue,typeInfo,hi,b],te.ty.zero,Bx.zero w O te.ty,vM a hf⟩
theorem A8o {a:Act} (o:HX (vw w O0 σ ρ) σ a.eval) {fn:Fn} {first d:List Operand} (h:eC σ fn first d=some (vc,v,obs)):obs=[]/\∃u,(Instr.makeFunc fn (first.map a.eval).toArray (d.map a.eval).toArray).run P w=.ok u w/\B2 (vw w O0 σ ρ) v u:=by
 unfold eC at h;split at h
 .rename_i f;cases j:Io σ d with
  | none=>rw[j]at h;simp[Sr]at h
  | some ns =>
   rw[j]at h;simp only[Sr]at h;cases h;have key:∀ {l:List Operand} {ns:List Nat},Io σ l=some ns->l.map a.eval=ns.map ρ/\∀n∈ns,Gz σ n/\∃b:Nat,ρ n=.pointer (some ⟨b,0,none⟩):=by
    intro l;induction l with
    | nil=>intro ns h;simp only[Io]at h;cases h;exact⟨rfl,λ_ h=>by cases h⟩
    | cons x r p =>
     intro ns h;simp only[Io]at h;split at h
     .rename_i n t h1 k;cases h;obtain⟨e,g⟩:=p k;obtain⟨q,b,c,s⟩:=o x _ h1;have c:ρ n=_:=c;refine⟨by simp only[Sj,e,s,c],λm i=>?_⟩;rcases At.1 i with rfl|i
      .exact⟨q,b,c⟩
      exact g m i
     cases h
   obtain⟨e,g⟩:=key j;refine⟨rfl,_,rfl,?_,g⟩;rw[e];rfl
 cases h
theorem vQ {a:Array MapEntry} {cl:Nat} (h:aH a cl) (x y:Value):aH (a.push ⟨x,y,cl⟩) (cl+1):=by grind [aH]
theorem eY {a:Array MapEntry} {cl:Nat} (h:aH a cl) (j:Nat) (x y:Value):aH (a.modify j λe=>{ e with key:=x,val:=y }) cl:=by
 have e:((a.modify j λe=>{ e with key:=x,val:=y }).toList.map (·.born))=a.toList.map (·.born):=by
  rw[Array.toList_modify];apply AA6
  .simp
  grind
 unfold aH;rw[e];exact h
theorem A6Q (E:DC P tb) (hT:EK P tb id ti) {n:Nat} {k e:Nat} (M:ti.ty=.ref 2) (L:ti.offs=[(k,e)]) {a:TI} (N:lk k tb.ty=some a) {c:Ty} {l:List (a.ty.den×c.den)} {V:Vw} (F:V.w=w)
  (K:A5 V (.mapo a.ty c l) (V.ρ n)) {x y:Value} {kd:a.ty.den} {g:c.den} (G:a.el=0) (I:aG a.ty=true) (hx:BV w V.O a.ty x kd) (hy:BV w V.O c y g) :
  ∃b m r,V.ρ n=.map (some b)/\(Instr.mapUpdate id (.map (some b)) x y).run P w=.ok () { w with heap:=w.heap.setIfInBounds b (.map m r) }/\(∃o,w.heap[b]?=some o)/\OH w V.O a.ty c m.toList (Fh a.ty c kd g l)/\aH m r:=by
 obtain⟨d,hu,_,J⟩:∃d,P.underlying id=some d/\(match d with|.struct _=>False|.array _ _=>False|_=>True) /\
   ∀k e,(2:Nat)=2->ti.offs=[(k,e)]->d=.map k e/\∃(a te:TI) (z:Value),lk k tb.ty=some a/\lk e tb.ty=some te/\(∃i,P.info? e=some i/\i.zero=some z)/\z.cells=te.ty.zero.toArray/\aO te.ty z=true:=by
  have:=hT.2;rw[M]at this;exact this
 obtain⟨rfl,_⟩:=J k e rfl L;obtain⟨b,h,cl,v,hh,t,s⟩:=K;subst F;have f:=eX (E _ _ N) G I;have u:=f.find hx t;refine⟨b,?_⟩;rcases RE f hx t 0 with ⟨B,p,q⟩|⟨j,A,v0,B,p,q,Q,C,D⟩
 .refine⟨h.push ⟨x,y,cl⟩,cl+1,v,?_,⟨_,hh⟩,by simpa using q g y cl hy,vQ s x y⟩;simp[Instr.mapUpdate,Sb hu,ABe hh,f.check _ hx,u,p,MapKept.run_setObj_map _ hh]
 have H:h[j]?=some A:=by simpa using q
 refine⟨h.modify j λe=>{ e with key:=x,val:=y },cl,v,?_,⟨_,hh⟩,by rw[Array.toList_modify];exact D g y hy,eY s j x y⟩;simp[Instr.mapUpdate,Sb hu,ABe hh,f.check _ hx,u,p,H,C,f.stays hx,MapKept.run_setObj_map _ hh]
theorem vS (hT:EK P tb id ti) {d:Nat} (h:Gh tb d (some ti)=some (vc,v,obs)) (hf:Bg obs σ=true) :
  ∃u ρ' w',(Instr.makeMap id none).run P w=.ok u w'/\QS w O0 σ ρ v obs u ρ' w':=by
 unfold Gh at h;split at h
 .rename_i offs _ _ a;cases a;unfold Hn at h;split at h
  .rename_i k e;unfold Hm at h;split at h
   .cases h;have c:(Instr.makeMap id none).run P w=.ok (.map (some w.heap.size)) (w.alloc (.map #[] 0)):=by
     simp[Instr.makeMap,Result.andThen]
    refine⟨_,_,_,c,QS.one (loc:=.map (some w.heap.size)) ((Below.refl _ w).alloc (No _) _) ?_ ?_ ?_⟩
    .grind [bk,blk]
    .refine⟨⟨_,by simp only[EJ,AAo,lk,AAd];rfl⟩,w.heap.size,?_,rfl⟩;show Ex ρ d _ d=_;rw[Bq]
    exact⟨w.heap.size,#[],0,rfl,(MapKept.heap_alloc w _).1,trivial,List.Pairwise.nil,λb hb=>by cases hb⟩
   cases h
  cases h
 cases h
theorem A6R (hT:EK P tb id ti) (M:DC P tb) (H:∀n o,lk n σ.objs=some o->A5 (vw w O0 σ ρ) o (ρ n)) {ok:Bool} {x y:AV} {xv D:Value} (h:Ji tb σ ok (some ti) (some x) (some y)=some (vc,v,obs))
  (hx:B2 (vw w O0 σ ρ) x xv) (hy:B2 (vw w O0 σ ρ) y D):obs=[]/\∃u,(Instr.lookup id xv D ok).run P w=.ok u w/\B2 (vw w O0 σ ρ) v u:=by
 unfold Ji at h;split at h
 .rename_i k e _ _ n z Q R S;cases Q;cases R;cases S;obtain⟨d,hu,_,W⟩:=hT.2;obtain⟨rfl,C,te,ae,J,X,⟨i,hi,Y⟩,ab,ad⟩:=W k e rfl rfl;cases hn:lk n σ.objs with
  | none=>rw[hn]at h;simp[JD]at h
  | some o =>
   rw[hn]at h;cases o with
   | mapo ah ai l =>
    simp only[JD,J,X,AAP,AAf]at h;split at h
    .rename_i O;obtain⟨rfl,T,rfl⟩:=O;cases hk:NR false σ C.ty y with
     | none=>rw[hk]at h;simp[La]at h
     | some kd =>
      rw[hk]at h;simp only[La]at h;split at h
      .rename_i U;have a:=LB (V:=vw w O0 σ ρ) (O':=own O0 σ ρ) (λ_ h=>h) (λh=>by cases h) H hk hy;have a:BV w (own O0 σ ρ) C.ty D kd:=a;obtain⟨ag,b,B,rfl⟩:=hx;have B:ρ n=_:=B;obtain⟨af,E,cl,c,hh,m,-⟩:=H n _ hn;rw[B]at c;injection c with c
       injection c with c
       subst c;have hh:w.heap[b]?=some (.map E cl):=hh;have m:OH w (own O0 σ ρ) C.ty te.ty E.toList l:=m;have p:=eX (M _ _ J) T U;have G:=p.find a m;obtain⟨Z,aa⟩:=vO (te:=te) (P:=P) (tb:=tb) hi Y ab ad w (own O0 σ ρ);have F:∀(f:Value) (q:Bool) (r:Option te.ty.den),BV w (own O0 σ ρ) te.ty f (r.getD te.ty.dflt)->q=r.isSome->OC te.ty ok r=some (vc,v,obs)->obs=[]/\∃u,u=(if ok=true then Value.tuple #[f,.bool q] else f)/\B2 (vw w O0 σ ρ) v u:=by
        intro f q r I N g;unfold OC at g;subst N;cases ok with
        | true =>
         simp only[AAd]at g ⊢;cases g;exact⟨rfl,_,rfl,[f,.bool r.isSome],rfl,f,_,rfl,I,_,[],rfl,Br _,rfl⟩
        | false =>
         simp only[AA0,AAp]at g ⊢;cases g;exact⟨rfl,_,rfl,I⟩
       rcases RE p a m 0 with ⟨s,t,_⟩|⟨j,K,v0,s,t,_,L,_,_⟩
       .rw[s]at h;obtain⟨h1,u,rfl,A⟩:=F ae false none aa rfl h;refine⟨h1,_,?_,A⟩;simp[Instr.lookup,Sb hu,ABe hh,p.check _ a,G,t,Z]
       rw[s]at h;obtain⟨h1,u,rfl,A⟩:=F K.val true (some v0) L rfl h;refine⟨h1,_,?_,A⟩;simp[Instr.lookup,Sb hu,ABe hh,p.check _ a,G,t]
      cases h
    cases h
   | _=>simp[JD]at h
 cases h
end
end
end Go.Proofs.YtapkhdkbkodbjaaGreat.Fw
