/- The executor's quiet operations are sound, second part; maps. -/
import Derived.Test.YtcmadlghkcjcbaaGreatGZB
import Derived.ArgAppend
import Derived.MapKept
import Derived.WideKeyRuns
import Derived.Laws.StructEq
set_option linter.unusedVariables false
set_option linter.unusedSimpArgs false
namespace Go.Proofs.YtcmadlghkcjcbaaGreat.Fw
variable {e:Ty} {P:Program} {t:TypeId} {a Z:IntKind} {d:TypeDesc} {b:Value} {w:World} {Y:Array MapEntry} {V:Vw} {X:Bool}
section
open Go Go.RowKit
section
abbrev ABM:=@Go.World.ownsRow_nil
abbrev ABO:=@Go.Sem.run_pure
abbrev ABS:=@Go.MapKept.run_getObj_map
abbrev AC3:=@Go.run_part_plain
abbrev ACL:=@Go.Sem.run_ite
variable {P:Program} {tb:Tb} {id:TypeId} {ti:TI} {w:World} {O0:Nat->Prop} {σ:St} {ρ:Nat->Value} {vc:Prop} {v:AV} {obs:List (Nat×Obj)}
theorem Fh (w:World) (o:_root_.Go.Obj):Below w.heap.size w (w.alloc o):=(Below.refl _ _).alloc (IN _) o
theorem QS.box {n:Nat} {et:TypeId} {fs:List AV} {cs:List Value} (hf:Bh [(n,.box et X fs)] σ=true) (d:X=false->fs.length=1) (a:Da (vw w O0 σ ρ) fs cs) :
  QS w O0 σ ρ (.bp n [] 0) [(n,.box et X fs)] (.pointer (some ⟨w.heap.size,0,none⟩)) (FA ρ n (.pointer (some ⟨w.heap.size,0,none⟩))) (w.alloc (.cells cs.toArray et)):=by
 have c:∀(m:Nat) (o:Obj) (b:Nat),lk m [(n,.box et X fs)]=some o->bk (FA ρ n (.pointer (some ⟨w.heap.size,0,none⟩)) m) b->w.heap.size<=b:=by grind [lk,Bp,bk,blk]
 have hk:Cu (vw w O0 σ ρ) (vw (w.alloc (.cells cs.toArray et)) O0 (EM σ [(n,.box et X fs)]) (FA ρ n (.pointer (some ⟨w.heap.size,0,none⟩)))) :=
  IA hf (Fh w _) (λm hm=>by
   simp only[lk]at hm;split at hm
   .cases hm
   rename_i e;simp[FA,e]) c
 refine QS.one (Fh w _) (λb hb=>by simp[bk,blk]at hb;omega) ?_ ?_
 .refine⟨⟨.box et X fs,by simp[EM,lk]⟩,w.heap.size,by rw[show (vw (w.alloc (.cells cs.toArray et)) O0 (EM σ [(n,.box et X fs)]) (FA ρ n (.pointer (some ⟨w.heap.size,0,none⟩)))).ρ n=FA ρ n (.pointer (some ⟨w.heap.size,0,none⟩)) n from rfl,Bp],rfl⟩
 exact⟨d,w.heap.size,cs,rfl,heap_alloc_new w _,a.keeps hk⟩
theorem QS.arr {n:Nat} {et:TypeId} {xs:List e.den} {cells:List Value} {loc:Value} {w':World} {hi:Nat} (hf:Bh [(n,.arr et e xs)] σ=true) (hb:Below w.heap.size w w')
  (a:w'.ownsRow w.heap.size et e.size loc xs.length cells) (hm:xs.length<=AQ) (i:Dh w (own O0 σ ρ) e cells xs) (k:hi=xs.length) :
  QS w O0 σ ρ (.sr n e 0 hi) [(n,.arr et e xs)] loc (FA ρ n loc) w':=by
 subst k;have p:∀b,bk loc b->w.heap.size<=b:=by
  intro b d;rcases a.2 with ⟨rfl,_⟩|⟨g,cap,c,rfl,j,_⟩
  .simp[bk,blk]at d
  simp[bk,blk]at d;omega
 have l:∀(m:Nat) (o:Obj) (b:Nat),lk m [(n,.arr et e xs)]=some o->bk (FA ρ n loc m) b->w.heap.size<=b:=by grind [lk,Bp]
 have hk:Cu (vw w O0 σ ρ) (vw w' O0 (EM σ [(n,.arr et e xs)]) (FA ρ n loc)) :=
  IA hf hb (λm hm=>by
   simp only[lk]at hm;split at hm
   .cases hm
   rename_i e;simp[FA,e]) l
 refine QS.one hb p ?_ ?_
 .refine⟨⟨.arr et e xs,by simp[EM,lk]⟩,?_⟩;show DM (plc (FA ρ n loc n)) e.size 0 xs.length loc;rw[Bp,Hk a];rcases a.2 with ⟨rfl,hn⟩|⟨g,cap,c,rfl,j,_,r,_⟩
  .exact⟨none,0,0,rfl,by omega,by omega,none,0,by rw[hn],by omega,λ_=>⟨rfl,rfl⟩,λh=>by omega⟩
  exact⟨some ⟨g,0,none⟩,xs.length,cap,rfl,by omega,by omega,some ⟨g,0,none⟩,cap,by simp,by omega,λ_=>⟨rfl,rfl⟩,λ_=>by simp[NC]⟩
 refine⟨hm,cells,⟨a.1,?_⟩,i.keeps hk⟩;rcases a.2 with h|⟨g,cap,c,h1,q,f⟩
 .exact .inl h
 exact .inr ⟨g,cap,c,h1,OF _,f⟩
theorem LT (V:Vw) (t:Ty):N3 V (zf1 t) t.zero:=by
 cases t;case slice e=>exact⟨_,rfl,rfl,rfl⟩
 case ref k=>exact⟨Ln k,rfl,by match k with|0=>rfl|1=>rfl|_+2=>rfl,rfl⟩
 all_goals(exact B1.zero V.w V.O _)
theorem A0M (V:Vw):∀t:Ty,Da V (zfs t) t.zero
 | .prod a b=>⟨a.zero,b.zero,rfl,LT V a,A0M V b⟩
 | .int k=>⟨_,[],by simp,LT V (.int k),rfl⟩
 | .bool=>⟨_,[],by simp,LT V .bool,rfl⟩
 | .str=>⟨_,[],by simp,LT V .str,rfl⟩
 | .slice e=>⟨_,[],by simp,LT V (.slice e),rfl⟩
 | .agg t=>⟨_,[],by simp,LT V (.agg t),rfl⟩
 | .ref k=>⟨_,[],by simp,LT V (.ref k),rfl⟩
theorem A0N (V:Vw):∀(t:Ty) (d:t.den) (cs:List Value),B1 V.w V.O t cs d->Da V (pfs t d) cs
 | .prod a b,d,cs,h=>by
  obtain⟨c1,c2,rfl,h1,c⟩:=h;exact⟨c1,c2,rfl,h1,A0N V b d.2 c2 c⟩
 | .int k,d,cs,h=>⟨cs,[],by simp,h,rfl⟩
 | .bool,d,cs,h=>⟨cs,[],by simp,h,rfl⟩
 | .str,d,cs,h=>⟨cs,[],by simp,h,rfl⟩
 | .slice e,d,cs,h=>⟨cs,[],by simp,h,rfl⟩
 | .agg t,d,cs,h=>⟨cs,[],by simp,h,rfl⟩
 | .ref k,d,cs,h=>⟨cs,[],by simp,h,rfl⟩
theorem Pt (hT:EO P tb id ti) (w:World):∃z:Value,(zeroValue id).run P w=.ok z w/\z.cells=ti.ty.zero.toArray:=by
 obtain⟨⟨_,i,z,h1,c,d,a,b⟩,_⟩:=hT;exact⟨z,by simp[zeroValue,L4 w h1,a],b⟩
theorem A4Y (hT:EO P tb id ti) {d:Nat} (h:Lp d id (some ti)=some (vc,v,obs)) (hf:Bh obs σ=true) :
  ∃u ρ' w',(Instr.alloc id true (.tuple #[])).run P w=.ok u w'/\QS w O0 σ ρ v obs u ρ' w':=by
 obtain⟨z,c,e⟩:=Pt hT w;have b:(Instr.alloc id true (.tuple #[])).run P w=.ok (.pointer (some ⟨w.heap.size,0,none⟩)) (w.alloc (.cells ti.ty.zero.toArray id)):=by
  simp[Instr.alloc,c,newVar,newRow,e]
 unfold Lp at h;split at h<;>first|(cases h;done)|skip
 all_goals
  rename_i a;cases a;cases h;refine⟨_,_,_,b,QS.box hf ?_ ?_⟩
 .simp
 .exact A0M _ _
 .simp
 .exact⟨_,[],by simp[Ty.zero],LT _ _,rfl⟩
 .simp
 .exact⟨_,[],by simp[Ty.zero],LT _ _,rfl⟩
 .simp
 .exact⟨_,[],by simp[Ty.zero],LT _ _,rfl⟩
 .simp
 .exact⟨_,[],by simp[Ty.zero],LT _ _,rfl⟩
 .simp
 exact⟨_,[],by simp[Ty.zero],LT _ _,rfl⟩
theorem OE {ty:Ty} {x:AV} {v:Value} (hx:B7 V x v) (hf:Cj ty x=true) (hs:ty.cell1=true):v.oneCell'=true:=by
 cases x;case p t d =>
  simp only[Cj,ON]at hf;subst hf;obtain⟨cs,j,rfl⟩:=hx;cases ty;case agg t=>simp[Ty.cell1]at hs
  case prod a b=>simp[Ty.cell1]at hs
  case slice e=>obtain⟨a,c,rfl,_⟩:=j;rfl
  case int k=>obtain⟨rfl,h⟩:=j;rfl
  case bool=>have j:cs=_:=j;subst j;rfl
  case str=>obtain⟨rfl,h⟩:=j;rfl
  case ref k =>
   have j:cs=[Ln k]:=j;subst j;match k with
   | 0=>rfl
   | 1=>rfl
   | _+2=>rfl
 case ag l=>cases ty<;>simp[Cj]at hf<;>simp[Ty.cell1]at hs
 case tup l=>simp[Cj]at hf
 case raw u =>
  have hx:v=u:=hx;subst hx;simp only[Cj,An]at hf;exact hf.1
 case sr n e lo hi=>obtain⟨_,_,_,_,_,_,_,q,r,rfl,_⟩:=hx;rfl
 case ep n e i o off=>obtain⟨_,g,m,c,_,_,rfl⟩:=hx;rfl
 case nin n e i len=>obtain⟨_,_,_,_,_,_,_,_,rfl⟩:=hx;rfl
 case pc e d=>obtain⟨_,a,rfl⟩:=hx;rfl
 case ip t d=>obtain⟨ad,cs,rfl,_⟩:=hx;rfl
 case bp n o off=>obtain⟨_,b,_,rfl⟩:=hx;rfl
 case fn f=>have hx:v=_:=hx;subst hx;rfl
 case clo f ns=>obtain⟨rfl,_⟩:=hx;rfl
 case mp n=>obtain⟨_,b,_,rfl⟩:=hx;rfl
 case yl n=>obtain⟨_,b,_,rfl⟩:=hx;rfl
 case top=>simp[Cj]at hf
end
end
section
open Go Go.RowKit
section
variable {P:Program} {tb:Tb} {id:TypeId} {ti:TI} {w:World} {O0:Nat->Prop} {σ:St} {ρ:Nat->Value} {vc:Prop} {v:AV} {obs:List (Nat×Obj)}
theorem Vo {t:Ty} {w:World} {O:Nat->Prop} {cs:List Value} {d:t.den} (h:B1 w O t cs d):(t.wrap cs).cells=cs.toArray:=by
 cases t;case agg t=>rfl
 case prod a b=>rfl
 case slice e=>obtain⟨a,c,rfl,_⟩:=h;rfl
 case int k=>obtain⟨rfl,_⟩:=h;rfl
 case bool=>have h:cs=_:=h;subst h;rfl
 case str=>obtain⟨rfl,_⟩:=h;rfl
 case ref k =>
  have h:cs=[Ln k]:=h;subst h;match k with
  | 0=>rfl
  | 1=>rfl
  | _+2=>rfl
theorem A4Z {x:AV} {v:Value} (hx:B7 V x v) (hf:KV x=true):N3 V x v.cells.toList/\v.cells.size=x.cells:=by
 have simple:∀ {y:AV},Ve V y v->v.oneCell'=true->(∀t d,y≠.p t d)->N3 V y v.cells.toList:=by
  intro y hy h o;have k:v.cells=#[v]:=by cases v<;>first|rfl|simp[Value.oneCell']at h
  rw[k];cases y;case p t d=>exact absurd rfl (o t d)
  all_goals exact⟨v,rfl,h,hy⟩
 have j:v.oneCell'=true->v.cells.size=1:=by
  intro h;have k:v.cells=#[v]:=by cases v<;>first|rfl|simp[Value.oneCell']at h
  rw[k];rfl
 cases x;case p t d =>
  obtain⟨cs,l,rfl⟩:=hx;rw[Vo l];exact⟨l,by simpa[AV.cells] using l.length⟩
 case raw u =>
  have q:v=u:=hx;have h:v.oneCell'=true:=by rw[q];exact hf
  exact⟨simple hx h (λ_ _=>by simp),j h⟩
 case sr n e lo hi =>
  have h:v.oneCell'=true:=by obtain⟨_,_,_,_,_,_,_,s,w,rfl,_⟩:=hx;rfl
  exact⟨simple hx h (λ_ _=>by simp),j h⟩
 case ep n e i r off =>
  have h:v.oneCell'=true:=by obtain⟨_,g,m,c,_,_,rfl⟩:=hx;rfl
  exact⟨simple hx h (λ_ _=>by simp),j h⟩
 case nin n e i len =>
  have h:v.oneCell'=true:=by obtain⟨_,_,_,_,_,_,_,_,rfl⟩:=hx;rfl
  exact⟨simple hx h (λ_ _=>by simp),j h⟩
 case ip t d =>
  have h:v.oneCell'=true:=by obtain⟨ad,cs,rfl,_⟩:=hx;rfl
  exact⟨simple hx h (λ_ _=>by simp),j h⟩
 case bp n r off =>
  have h:v.oneCell'=true:=by obtain⟨_,b,_,rfl⟩:=hx;rfl
  exact⟨simple hx h (λ_ _=>by simp),j h⟩
 case pc e d =>
  have h:v.oneCell'=true:=by obtain⟨_,a,rfl⟩:=hx;rfl
  exact⟨simple hx h (λ_ _=>by simp),j h⟩
 case clo f ns =>
  have h:v.oneCell'=true:=by obtain⟨rfl,_⟩:=hx;rfl
  exact⟨simple hx h (λ_ _=>by simp),j h⟩
 case mp n =>
  have h:v.oneCell'=true:=by obtain⟨_,b,_,rfl⟩:=hx;rfl
  exact⟨simple hx h (λ_ _=>by simp),j h⟩
 case yl n =>
  have h:v.oneCell'=true:=by obtain⟨_,b,_,rfl⟩:=hx;rfl
  exact⟨simple hx h (λ_ _=>by simp),j h⟩
 case fn f =>
  have h:v.oneCell'=true:=by have hx:v=_:=hx;subst hx;rfl
  exact⟨simple hx h (λ_ _=>by simp),j h⟩
 all_goals simp[KV]at hf
theorem A9o (hT:EO P tb id ti) {d:Nat} {x:AV} {xv:Value} (h:Va d id (some ti) (some x)=some (vc,v,obs)) (hx:B7 (vw w O0 σ ρ) x xv) (hf:Bh obs σ=true) :
    ∃u ρ' w',(Instr.box id xv).run P w=.ok u w'/\QS w O0 σ ρ v obs u ρ' w':=by
  have g:(Instr.box id xv).run P w=.ok (.pointer (some ⟨w.heap.size,0,none⟩)) (w.alloc (.cells xv.cells id)):=by
    simp[Instr.box,newVar,newRow]
  have simple:∀ty:Ty,Cj ty x=true->ty.cell1=true->(∀l,x≠.ag l)->Da (vw w O0 σ ρ) [x] xv.cells.toList:=by
    intro ty f p m;obtain⟨h1,k⟩:=A0F hx f (OE hx f);exact⟨_,[],by simp,k m,rfl⟩
  have o:xv.cells=xv.cells.toList.toArray:=by simp
  rw[o]at g;unfold Va at h;split at h
  . rename_i u offs el b q j c a
    cases c;cases a;split at h
    . rename_i hu
      subst hu;cases h;obtain⟨cs,i,rfl⟩:=hx;have i:B1 w (own O0 σ ρ) u cs j:=i;refine⟨_,_,_,g,QS.box hf sc ?_⟩;simp only[Ty.wrap,Value.cells];exact A0N _ _ _ _ i
    cases h
  . rename_i u offs el b l c a
    cases c;cases a;split at h
    . cases h
      obtain⟨cs,rfl,n⟩:=hx;refine⟨_,_,_,g,QS.box hf sc ?_⟩;simp only[Value.cells];exact n
    cases h
  all_goals first
    | (cases h;done)
    | (rename_i c a
       cases c;injection a with a
       subst a;split at h
       . rename_i f
         cases h;exact⟨_,_,_,g,QS.box hf sc (simple _ f rfl (λl e=>by subst e;simp[Cj]at f))⟩
       cases h)
theorem fR (off:Nat):∀(a:List Value) (k:Nat) (cells:Array Value),off+k+a.length<=cells.size ->
  ((a.zipIdx k).foldl (λ(cs:Array Value) (p:Value×Nat)=>cs.setIfInBounds (off+p.2) p.1) cells).toList=A1 cells.toList (off+k) a
 | [],k,cells,_=>by simp[A1]
 | v :: a,k,cells,h=>by
  simp only[NO]at h;simp only[List.zipIdx_cons,RJ];rw[fR off a (k+1) _ (by simp;omega)];simp only[A1,Array.toList_setIfInBounds,NO];apply ABL;intro j;have hl:cells.toList.length=cells.size:=by simp
  simp only[RI,AAE,On,TA,hl,TD,AAd,oN,NO];grind
theorem Vp {place:Nat->Option (Nat×Nat)} {cells:Array Value} {i off:Nat} {v:Value} {rest:List (Nat×Value)} (a:place i=some (off,v.cells.size)) (hl:off+v.cells.size<=cells.size) :
  Instr.fill place cells ((i,v) :: rest)=Instr.fill place (A1 cells.toList off v.cells.toList).toArray rest:=by
 have h1:¬(off+v.cells.size > cells.size):=by omega
 simp only[Instr.fill,a];rw[At (by simp;omega)]
 congr 1
 have:=fR off v.cells.toList 0 cells (by simpa using hl);apply Array.ext';rw[show v.cells.zipIdx.foldl (λcs x=>cs.setIfInBounds (off+x.2) x.1) cells=(v.cells.toList.zipIdx 0).foldl (λcs x=>cs.setIfInBounds (off+x.2) x.1) cells from by
  rw[<-Array.foldl_toList];simp]
 simpa using this
def Hl (V:Vw) (σ:St) (ev:Operand->Value):Prop:=∀x v,Aq σ x=some v->B7 V v (ev x)
theorem xB (b:∀n o,lk n σ.objs=some o->A6 V o (V.ρ n)) {z x:Option AV} {y:AV} {v:Value} (hx:∀a,x=some a->B7 V a v) (h:Gi σ z x=some y):B7 V y v:=by
 unfold Gi at h;split at h
 .rename_i t _ l;simp only[OS]at h;obtain⟨d,hd,rfl⟩:=h;exact LS (V:=V) (O':=V.O) (λ_ h=>h) (λh=>by cases h) b hd (hx _ rfl)
 exact hx _ h
theorem Ot {V:Vw} (e:∀n o,lk n σ.objs=some o->A6 V o (V.ρ n)) {ev:Operand->Value} (d:Hl V σ ev) {place:Nat->Option (Nat×Nat)} {offs:List (Nat×Nat)} (g:∀i p,offs[i]?=some p->place i=some p) :
  ∀ {parts:List (Nat×Operand)} {fs b:List AV} {cells:Array Value},EX σ offs fs parts=some b->Da V fs cells.toList ->
   ∃cells':Array Value,Instr.fill place cells (parts.map λp=>(p.1,ev p.2))=some cells'/\Da V b cells'.toList
 | [],fs,b,cells,h,c=>by
  simp only[EX]at h;cases h;exact⟨cells,rfl,c⟩
 | (i,x) :: r,fs,b,cells,h,c=>by
  simp only[EX]at h;cases hx:Gi σ fs[i]? (Aq σ x) with
  | none=>rw[hx]at h;cases h
  | some av =>
   rw[hx]at h;simp only at h;split at h
   .rename_i k;obtain⟨h0,h1,l⟩:=k;have y:=xB e (λa ha=>d x a ha) hx;obtain⟨m,q⟩:=A4Z y h0;simp only[OS]at h1;obtain⟨A,f,u⟩:=h1;obtain⟨z,_⟩:=c.get f;have w:=c.set f m u.symm;have j:=g i _ l;rw[<-q]at j;have v:CS fs i+(ev x).cells.size<=cells.size:=by grind
    obtain⟨cells',s,t⟩:=Ot e d g h (cells:=(A1 cells.toList (CS fs i) (ev x).cells.toList).toArray) (by simpa using w);refine⟨cells',?_,t⟩;rw[Rd,Vp j v];exact s
   cases h
theorem fS {α a:Type} (f:α->Sem a) (w:World):∀ {l:List α} {ys:List a},(l.map λx=>(f x).run P w)=ys.map (λy=>Result.ok y w)->(l.mapM f).run P w=.ok ys w
 | [],ys,h=>by simp_all
 | x :: l,ys,h=>by
  cases ys with
  | nil=>simp at h
  | cons y ys =>
   simp only[Rd,ABw]at h;obtain⟨h1,b⟩:=h;have c:=fS f w b;simp[List.mapM_cons,h1,c]
theorem A50 (hT:EO P tb id ti) (q:∀n o,lk n σ.objs=some o->A6 (vw w O0 σ ρ) o (ρ n)) {ev:Operand->Value} (m:Hl (vw w O0 σ ρ) σ ev) {parts:List (Nat×Operand)} (h:KW σ parts (some ti)=some (vc,v,obs)) :
  obs=[]/\∃u,(Instr.build id (parts.map λp=>(p.1,ev p.2)).toArray).run P w=.ok u w/\B7 (vw w O0 σ ρ) v u:=by
 obtain⟨z,r,B⟩:=Pt hT w;unfold KW at h;split at h
 .rename_i u offs el b t;cases t;cases c:EX σ offs (zfs u) parts with
  | none=>rw[c]at h;simp[HN]at h
  | some C =>
   rw[c]at h;simp only[ABj,HN]at h;cases h;have a:=hT.2;have s:Da (vw w O0 σ ρ) (zfs u) z.cells.toList:=by rw[B];exact A0M _ u
   simp only at a;rcases a with ⟨fs,_,hu,j⟩|⟨n,e,i,_,hu,hi,j⟩
   .have l:∀(i:Nat) (p:Nat×Nat),offs[i]?=some p->offs.toArray[i]?=some p:=λi p hh=>by simpa using hh
    obtain⟨cells',d,g⟩:=Ot q m (place:=λi=>offs.toArray[i]?) l c s;have A:(fs.mapM (λf=>do pure (f.offset,<-sizeOf f.type)):Sem (Array (Nat×Nat))).run P w=.ok offs.toArray w:=by
     rw[ABI];simp only[Sem.run_map];rw[fS (ys:=offs) _ w ?_]
     .simp
     rw [show (offs.map λy => Result.ok y w) = (offs.map some).map (λo => match o with | some y => Result.ok y w | none => .halt (.stuck "no such type") w) by simp [AAb, Function.comp_def], j, AAb]
     apply RN;intro f _;simp only[Function.comp,sizeOf,typeInfo];cases hi:P.info? f.type<;>simp[hi]
    refine⟨rfl,.agg cells',?_,cells'.toList,by simp,g⟩;simp only[Instr.build,AAZ,r,AAl,RR hu,A,d,ABO]
   have l:∀(k:Nat) (p:Nat×Nat),offs[k]?=some p->(λk=>some (k*i.size,i.size)) k=some p:=λk p hh=>by
    rw[j]at hh;simp only[Rb,OS]at hh;obtain⟨D,x,rfl⟩:=hh;obtain⟨h1,a⟩:=RL.1 x;simp only[ABE]at a;subst a;rfl
   obtain⟨cells',d,g⟩:=Ot q m l c s;refine⟨rfl,.agg cells',?_,cells'.toList,by simp,g⟩;simp[Instr.build,r,RR hu,sizeOf,L4 w hi,d]
 cases h
end
end
section
open Go Go.RowKit
section
variable {P:Program} {tb:Tb} {id:TypeId} {ti:TI} {w:World} {O0:Nat->Prop} {σ:St} {ρ:Nat->Value} {vc:Prop} {v:AV} {obs:List (Nat×Obj)}
theorem Yp {t:Ty} {w:World} {O:Nat->Prop} {v:Value} {d:t.den} (h:BU w O t v d):v.cells.size=t.size/\B1 w O t v.cells.toList d:=by
 obtain⟨cs,a,rfl⟩:=h;rw[Vo a];exact⟨by simpa using a.length,a⟩
theorem Hv (w:World) (O:Nat->Prop) (e:Ty) (cells:List Value):Dh w O e cells []:=λi x h=>by simp at h
theorem fT {V:Vw} (t:∀n o,lk n σ.objs=some o->A6 V o (V.ρ n)) {ev:Operand->Value} (s:Hl V σ ev) {e:Ty} {N:Nat} :
  ∀ {parts:List (Nat×Operand)} {k:Nat} {xs pre:List e.den} {cells:Array Value},FX σ e k parts=some xs->cells.size=N*e.size->k+xs.length<=N->pre.length=k ->
   Dh V.w V.O e cells.toList pre ->
   ∃cells':Array Value,Instr.fill (λi=>some (i*e.size,e.size)) cells (parts.map λp=>(p.1,ev p.2))=some cells'/\cells'.size=cells.size/\Dh V.w V.O e cells'.toList (pre++xs)
 | [],k,xs,pre,cells,h,hs,hk,m,l=>by
  simp only[FX]at h;cases h;exact⟨cells,rfl,rfl,by simpa using l⟩
 | (i,x) :: r,k,xs,pre,cells,h,hs,hk,m,l=>by
  simp only[FX]at h;split at h
  .rename_i C;subst C;cases hx:Aq σ x with
   | none=>rw[hx]at h;cases h
   | some av =>
    rw[hx]at h;simp only at h;split at h
    .rename_i y ys hy J;cases h;have I:=LS (O':=V.O) (λ_ h=>h) (λh=>by cases h) t hy (s x av hx);obtain⟨h1,B⟩:=Yp I;simp only[NO]at hk;have d:i*e.size+(ev x).cells.size<=cells.size:=by
      rw[h1,hs,<-AB3];exact Rc _ O1
     have v:(A1 cells.toList (i*e.size) (ev x).cells.toList).length=cells.size:=by
      rw[FI]
      .simp
      simpa using d
     have G:Dh V.w V.O e (A1 cells.toList (i*e.size) (ev x).cells.toList) (pre++[y]):=by
      intro j z a;rw[AAE]at a;split at a
      .rename_i D;obtain⟨A,c,f,g⟩:=l j z a;refine⟨A,c,λq u b=>?_,g⟩;have H:q<e.size:=by rw[<-c];exact(RL.1 b).1
       have F:j*e.size+q<i*e.size:=by
        have:(j+1)*e.size<=i*e.size:=Rc _ O1;rw[AB3]at this;omega
       have hb:i*e.size<=cells.toList.length:=by
        have:=d;simp;omega
       simp only[A1,RI];rw[RU (by rw[On];omega),TD,BY F];exact f q u b
      rename_i D;have E:j=i:=by
       have:=(RL.1 a).1;simp at this;omega
      subst E;have K:z=y:=by
       rw[m,AAD]at a;simpa using a.symm
      subst K;refine⟨(ev x).cells.toList,by simpa using h1,λq u b=>?_,B⟩;have H:q<(ev x).cells.toList.length:=(RL.1 b).1;have hb:j*e.size<=cells.toList.length:=by
       have:=d;simp;omega
      have hl:(cells.toList.take (j*e.size)).length=j*e.size:=by rw[On];omega
      simp only[A1,RI];rw[RS (by rw[hl];omega),hl,RU O1];rw[show j*e.size+q-j*e.size=q by omega];exact b
     obtain⟨cells',c,f,g⟩:=fT (N:=N) t s J (pre:=pre++[y]) (cells:=(A1 cells.toList (i*e.size) (ev x).cells.toList).toArray) (by simp[v,hs]) O1 (by simp[m]) (by simpa using G);refine⟨cells',?_,by rw[f];simp[v],by simpa using g⟩;rw[Rd,Vp (by rw[h1]) d];exact c
    cases h
  cases h
theorem bG {w:World} {et:TypeId} {sz n:Nat} {cells:Array Value} (hs:cells.size=n*sz) (hn:n<=AQ) :
  (w.alloc (.cells cells et)).ownsRow w.heap.size et sz (.slice (some ⟨w.heap.size,0,none⟩) n n) n cells.toList :=
 ⟨by simpa using hs,.inr ⟨w.heap.size,n,cells,rfl,IN _,heap_alloc_new w _,IN _,by have h1:AQ=140737488355328:=rfl;have a:maxLen=9223372036854775807:=rfl;omega,hs,As (by simp[hs])⟩⟩
theorem Pu (hT:EO P tb id ti) (f:DC P tb) (q:∀n o,lk n σ.objs=some o->A6 (vw w O0 σ ρ) o (ρ n)) {ev:Operand->Value} (m:Hl (vw w O0 σ ρ) σ ev) {d n:Nat} {parts:List (Nat×Operand)}
  (h:Bo false σ d n parts (some ti)=some (vc,v,obs)) (x:vc) (hf:Bh obs σ=true) :
  ∃u ρ' w',(Instr.buildSlice id n (parts.map λp=>(p.1,ev p.2)).toArray).run P w=.ok u w'/\QS w O0 σ ρ v obs u ρ' w':=by
 unfold Bo at h;split at h
 .rename_i e offs el b l;cases l;obtain⟨hu,hs,te,t,rfl⟩:=CZ hT f;obtain⟨z,y,B⟩:=Pt (f _ _ t) w;cases a:FX σ te.ty 0 parts with
  | none=>rw[a]at h;simp[B9]at h
  | some xs =>
   rw[a]at h;simp only[B9,oF,AAV]at h;cases h;obtain⟨hn,A⟩:=x;subst hn;have r:=te.ty.size_pos;obtain⟨cells',h1,k,c⟩:=fT (V:=vw w O0 σ ρ) q m a (N:=xs.length) (pre:=[]) (cells:=(Array.range (xs.length*te.ty.size)).map (λi=>(if xs.length*te.ty.size=0 then (#[]:Array Value) else z.cells)[i % (if xs.length*te.ty.size=0 then (#[]:Array Value) else z.cells).size]!)) sc O1 rfl (Hv _ _ _ _);have j:xs.length<=AQ:=by
    have:xs.length*1<=xs.length*te.ty.size:=ABv _ r;simp only[AQ];omega
   have s:cells'.size=xs.length*te.ty.size:=by rw[k];simp
   refine⟨_,_,_,?_,QS.arr hf (Fh w _) (bG (et:=el) s j) j (by rw[ABm]at c;exact c) rfl⟩;have g:¬(xs.length*te.ty.size > 16777216):=by omega
   by_cases h0:xs.length*te.ty.size=0
   .simp only[h0,AAF]at h1;simp[Instr.buildSlice,RR hu,hs,g,h0,newRow];simp at h1;simp[h1]
   simp only[h0,AAV]at h1;simp only[Instr.buildSlice,AAZ,RR hu,AAl,hs,At g,At h0,y,ABO,h1,newRow];rfl
 cases h
theorem A7F (hT:EO P tb id ti) (F:DC P tb) (aa:∀n o,lk n σ.objs=some o->A6 (vw w O0 σ ρ) o (ρ n)) {ev:Operand->Value} (U:Hl (vw w O0 σ ρ) σ ev) {d n:Nat} {y:TypeId} {parts:List (Nat×Operand)}
  (h:KY σ d y n parts (some ti)=some (vc,v,obs)) (C:vc) (hf:Bh obs σ=true) :
  ∃u ρ' w',(Instr.buildSlice id n (parts.map λp=>(p.1,ev p.2)).toArray).run P w=.ok u w'/\QS w O0 σ ρ v obs u ρ' w':=by
 unfold KY at h;split at h
 .rename_i x t offs el b S;cases S;obtain⟨hu,hs,te,ae,rfl⟩:=CZ hT F;obtain⟨z,af,ak⟩:=Pt (F _ _ ae) w;cases hx:Aq σ x with
  | none=>rw[hx]at h;unfold KX at h;split at h<;>first|(cases h;done)|(rename_i D;cases D)
  | some av =>
   rw[hx]at h;unfold KX at h;split at h
   .rename_i k e L am hty Q;cases Q;have key:∀(c:k.den) (c1:List Value) (a:Option Addr),N3 (vw w O0 σ ρ) L c1->FD false σ k L=some c->ev x=.agg (c1++[Value.slice a 0 0]).toArray->n=1/\k.size+1<=16777216->Bh [(d,Obj.nest el y k e [(c,[])] none)] σ=true ->
      ∃u ρ' w',(Instr.buildSlice id n ([(0,x)].map λp=>(p.1,ev p.2)).toArray).run P w=.ok u w'/\QS w O0 σ ρ (.sr d (.agg (.prod k (.slice e))) 0 1) [(d,.nest el y k e [(c,[])] none)] u ρ' w':=by
     intro c c1 a h1 q A X hf;obtain⟨rfl,ai⟩:=X;have W:Lay (.slice none 0 0) (.slice a 0 0):=.inr ⟨rfl,a,rfl⟩;have B:=sQ (O':=own O0 σ ρ) (λ_ h=>h) (λh=>by cases h) aa q h1;have B:B1 w (own O0 σ ρ) k c1 c:=B;have hl:=B.length;have ad:te.ty.size=k.size+1:=by rw[hty];rfl
     rw[ad]at hs;have G:(ev x).cells.toList=c1++[Value.slice a 0 0]:=by rw[A];simp[Value.cells]
     have ab:Instr.fill (λi=>some (i*(k.size+1),k.size+1)) ((Array.range (1*(k.size+1))).map (λi=>z.cells[i % z.cells.size]!)) [(0,ev x)]=some (c1++[Value.slice a 0 0]).toArray:=by
      have H:(ev x).cells.size=k.size+1:=by rw[<-ACs,G];simp[hl]
      rw[Vp (by rw[H]) (by rw[H];simp)];rw[G];simp only[Instr.fill,ACU,A1,AAG,ABm,AB8];rw[List.drop_of_length_le (by simp[hl]),S6]
     generalize J:(Value.tuple #[Value.slice (some ⟨w.heap.size,0,none⟩) 1 1,.slice none 0 0])=loc;have Y:∀b,bk loc b->w.heap.size<=b:=by grind [A8,blk]
     have s:=bG (w:=w) (et:=el) (sz:=k.size+1) (n:=1) (cells:=(c1++[Value.slice a 0 0]).toArray) (by simp[hl]) (by simp[AQ]);have s:(w.alloc (.cells (c1++[Value.slice a 0 0]).toArray el)).ownsRow 0 el (k.size+1) (.slice (some ⟨w.heap.size,0,none⟩) 1 1) 1 (c1++[Value.slice a 0 0]):=⟨s.1,s.2.imp (λh=>h) λ⟨g,cap,N,e,_,r⟩=>⟨g,cap,N,e,OF _,r⟩⟩;have hk:=IA (O0:=O0) (ρ:=ρ) (ρ':=FA ρ d loc) hf (Fh w (.cells (c1++[Value.slice a 0 0]).toArray el)) (λm hm=>by
      simp only[lk]at hm;split at hm
      .cases hm
      .rename_i e;simp[FA,e]) (λm o b hm hb=>by
      simp only[lk]at hm;split at hm
      .grind [Bp]
      cases hm)
     refine⟨.slice (some ⟨w.heap.size,0,none⟩) 1 1,FA ρ d loc,w.alloc (.cells (c1++[Value.slice a 0 0]).toArray el),?_,QS.one (Fh w _) Y ?_ ?_⟩
     .have Z:¬(1*(k.size+1) > 16777216):=by omega
      have h0:¬(1*(k.size+1)=0):=by omega
      simp only[Instr.buildSlice,AAZ,RR hu,AAl,hs,At Z,At h0,af,ABO,Rd,ABN,ab,newRow];rfl
     .refine⟨⟨.nest el y k e [(c,[])] none,by simp[EM,lk]⟩,?_⟩;show DM (plc (FA ρ d loc d)) _ 0 1 _;rw[Bp,<-J];exact Gl s
     refine⟨_,[.slice none 0 0],c1++[Value.slice a 0 0],.inl J.symm,by simp[AQ],rfl,s,λi al u hi hu=>?_,λi j b u v hi I hu aj=>?_,λi b u hi hb _=>?_⟩
     .rcases i with _|i
      .simp only[ABQ,AAJ]at hi hu;subst hi hu;refine⟨c1,.slice a 0 0,λj z I=>by simpa using I,B.mono hk.O hk.heap,.inr ⟨rfl,W,by simp[AQ],[],ABM _ 0 y _,Hv _ _ _ _⟩⟩
      simp at hi
     .grind
     grind [blk]
    unfold Lq at h;obtain⟨cs,A,R⟩:=U x _ hx;obtain⟨c1,c2,rfl,h1,D⟩:=R;obtain⟨ag,M,rfl,f,E⟩:=D;have E:M=[]:=E;subst E;split at h
    .rename_i c q;cases h;obtain⟨K,rfl,_,f⟩:=f;have f:K=.slice none 0 0:=f;subst f;exact key c c1 none h1 q (by rw[A];simp) C hf
    .rename_i c ah l q;split at h
     .rename_i T;subst T;cases h;obtain⟨K,rfl,_,_,a,f⟩:=f;obtain⟨C,V⟩:=C;rw[V]at f;subst f;exact key c c1 a h1 q (by rw[A];simp) C hf
     cases h
    cases h
   cases h
 cases h
theorem YX (z:List Value) (e:0<z.length) (n:Nat) {i j:Nat} (b:j<z.length) (hi:i*z.length+j<n) {u:Value} (hu:z[j]?=some u) :
  (madeCells z.toArray n)[i*z.length+j]?=some u:=by
 simp only[madeCells,Array.getElem?_map,List.size_toArray];have d:(Array.range n)[i*z.length+j]?=some (i*z.length+j):=by grind
 rw[d];have hm:(i*z.length+j) % z.length=j:=by
  rw[Nat.mul_comm,Nat.mul_add_mod];exact Nat.mod_eq_of_lt b
 simp only[ABj,hm];have c:=(RL.1 hu);obtain⟨h1,a⟩:=c;simp[h1,a]
theorem A51 (hT:EO P tb id ti) (f:DC P tb) {offs:List (Nat×Nat)} {el:TypeId} {b:Nat} (y:ti=⟨.slice e,offs,el,b⟩) {te:TI} (l:lk el tb.ty=some te) {n:Int} {d:Nat}
  (h0:0<=n) (hn:n.toNat*te.bytes<=AQ) (hf:Bh [(d,.arr el e (List.replicate n.toNat e.dflt))] σ=true) :
  ∃u ρ' w',(Instr.makeSlice id (.int .i64 n) (.int .i64 n)).run P w=.ok u w'/\QS w O0 σ ρ (.sr d e 0 n.toNat) [(d,.arr el e (List.replicate n.toNat e.dflt))] u ρ' w':=by
 subst y;obtain⟨hu,hs,F,m,rfl⟩:=CZ hT f;rw[l]at m;cases m;obtain⟨⟨⟨_,p,_⟩,i,z,hi,k,D,B,C⟩,_⟩:=f _ _ l;have E:=te.ty.size_pos;have a:n.toNat<=AQ:=by
  have:n.toNat*1<=n.toNat*te.bytes:=ABv _ p;omega
 have o:(i.bytes:Int)*n<=281474976710656:=by grind [AQ]
 have v:=run_make (P:=P) w id el i z hu hi B .i64 .i64 n n h0 (iF _) o (by simp only[AQ]at a;omega);have c:te.ty.zero.length=te.ty.size:=(B1.zero w (λ_=>False) te.ty).length;refine⟨_,_,_,v,QS.arr hf (Fh w _) (bG (et:=el) (sz:=te.ty.size) (n:=n.toNat) (cells:=madeCells z.cells (n.toNat*i.size)) (by rw[size_madeCells,k]) a |> λh=>by simpa using h) (by simpa using a) ?_ sc⟩;intro j x hx;have r:=(RL.1 hx).1;simp only[ABn]at r;have A:x=te.ty.dflt:=by grind
 subst A;refine⟨te.ty.zero,c,λq u g=>?_,B1.zero _ _ _⟩;have t:=(RL.1 g).1;have s:j*te.ty.zero.length+q<n.toNat*i.size:=by
  rw[k,c];have:(j+1)*te.ty.size<=n.toNat*te.ty.size:=Rc _ O1;rw[AB3]at this;omega
 have:=YX te.ty.zero O1 (n.toNat*i.size) t s g;rw[c]at this;rw[C];simpa using this
theorem A7G (hT:EO P tb id ti) (i:DC P tb) {d:Nat} {x y:AV} {xv c:Value} (h:Jt tb d (some ti) (some x) (some y)=some (vc,v,obs)) (o:vc)
  (hx:B7 (vw w O0 σ ρ) x xv) (hy:B7 (vw w O0 σ ρ) y c) (hf:Bh obs σ=true) :
  ∃u ρ' w',(Instr.makeSlice id xv c).run P w=.ok u w'/\QS w O0 σ ρ v obs u ρ' w':=by
 unfold Jt at h;split at h
 .rename_i e offs el b n m j k l;cases j;cases k;cases l;cases a:lk el tb.ty with
  | none=>rw[a]at h;simp[Od]at h
  | some te =>
   rw[a]at h;simp only[Od]at h;cases h;obtain⟨rfl,_⟩:=BI hx;obtain⟨rfl,_⟩:=BI hy;obtain⟨h1,f,g⟩:=o;have h1:n=m:=h1;subst h1;exact A51 hT i rfl a f g hf
 cases h
end
end
section
open Go Go.RowKit
theorem Yq {w:World} {O:Nat->Prop} {e:Ty}:∀ {l:List e.den} {ad:Addr},
  (∀(i:Nat) (x:e.den),l[i]?=some x->∃b:List Value,b.length=e.size/\(∀(j:Nat) (v:Value),b[j]?=some v->w.cell? (ad.add (i*e.size+j))=some v)/\B1 w O e b x) ->
  ∃c:List Value,c.length=l.length*e.size/\Dh w O e c l/\(∀u∈c,u.oneCell'=true)/\(∀(j:Nat) (u:Value),c[j]?=some u->w.cell? (ad.add j)=some u)
 | [],ad,h=>⟨[],by simp,Hv _ _ _ _,by simp,by simp⟩
 | x :: l,ad,h=>by
  obtain⟨b,h1,q,m⟩:=h 0 x rfl;obtain⟨c,n,o,p,r⟩:=Yq (w:=w) (O:=O) (e:=e) (l:=l) (ad:=ad.add e.size) (λi y hi=>by
   obtain⟨d,f,g,k⟩:=h (i+1) y (by simpa using hi);refine⟨d,f,λj v a=>?_,k⟩;rw[DK,show e.size+(i*e.size+j)=(i+1)*e.size+j by rw[AB3];omega];exact g j v a)
  refine⟨b++c,by simp[h1,n,AB3];omega,λi y hi=>?_,λu hu=>?_,λj u a=>?_⟩
  .cases i with
   | zero =>
    simp at hi;subst hi;refine⟨b,h1,λj u a=>?_,m⟩;rw[ACU,AB8,RU (RL.1 a).1];exact a
   | succ i =>
    obtain⟨d,f,g,k⟩:=o i y (by simpa using hi);refine⟨d,f,λj u a=>?_,k⟩;rw[RS (by rw[h1,AB3];omega),h1,show (i+1)*e.size+j-e.size=i*e.size+j by rw[AB3];omega];exact g j u a
  .rcases Fg.1 hu with hu|hu
   .exact m.one u hu
   exact p u hu
  grind [DK]
section
variable {P:Program} {tb:Tb} {id:TypeId} {ti:TI} {w:World} {O0:Nat->Prop} {σ:St} {ρ:Nat->Value} {vc:Prop} {v:AV} {obs:List (Nat×Obj)}
structure Src (w:World) (O:Nat->Prop) (e:Ty) (xv:Value) (ys:List e.den) (news:List Value):Prop where
 form:∃(a:Option Addr) (c:Nat),xv=.slice a ys.length c/\(ys=[]\/∃ad,a=some ad/\∀(j:Nat) (u:Value),news[j]?=some u->w.cell? (ad.add j)=some u)
 len:news.length=ys.length*e.size
 elems:Dh w O e news ys
 one:∀u∈news,u.oneCell'=true
 max:ys.length<=AQ
theorem Up (w:World) (O:Nat->Prop) (e:Ty) (a:Option Addr) (c:Nat):Src w O e (.slice a 0 c) [] [] :=
 ⟨⟨a,c,rfl,.inl rfl⟩,by simp,Hv _ _ _ _,by simp,by simp[AQ]⟩
theorem Yr {et:TypeId} {xs:List e.den} {loc:Value} {cells:List Value} (i:V.w.ownsRow 0 et e.size loc xs.length cells) (f:Dh V.w V.O e cells xs):∀u∈cells,u.oneCell'=true:=by
 intro u hu;obtain⟨j,g,h⟩:=gO.1 hu;have hl:=i.1;have b:=e.size_pos;have hi:j / e.size<xs.length:=by
  rw[Nat.div_lt_iff_lt_mul b];omega
 obtain⟨a,h1,c,d⟩:=f (j / e.size) (xs[j / e.size]) (AT hi);have hm:j % e.size<a.length:=by rw[h1];exact ACY _ b
 have:=c (j % e.size) (a[j % e.size]) (AT hm);rw[show j / e.size*e.size+j % e.size=j by rw[Nat.mul_comm];exact Nat.div_add_mod j e.size]at this;rw[AT g]at this;injection this with this
 rw[<-h,this];exact d.one _ (aT hm)
def noN (σ:St):AV->Bool
 | .sr n _ _ _=>C9 (lk n σ.objs)
 | _=>false
theorem sT {w:World} {O:Nat->Prop} {et:TypeId} {b:Ty} {xs:List b.den} {loc xv:Value} {cells:List Value} {lo hi:Nat} (hm:xs.length<=AQ) (e:w.ownsRow 0 et b.size loc xs.length cells) (l:Dh w O b cells xs) (E:DM loc b.size lo hi xv) :
  ∃F,Src w O b xv (sub xs lo hi) F:=by
 have P:=Yr (V:=⟨w,O,λ_=>False,λ_=>undef⟩) e l;obtain⟨a,m,c,p,K,n,h,k,rfl,G,h0,h1⟩:=E;have C:m=xs.length:=by
  rcases e.2 with ⟨d,D⟩|⟨g,cap,q,d,_⟩
  .grind
  rw[p]at d;injection d
 subst C;have hl:=Om xs (lo:=lo) n;by_cases A:lo<hi
 .rcases e.2 with ⟨d,D⟩|⟨g,cap,q,d,r⟩
  .omega
  have H:=World.ownsRow.cells e (g:=g) (by rw[d];rfl);have ha:a=some ⟨g,0,none⟩:=by rw[p]at d;injection d
  subst ha;have I:=e.1;have M:hi*b.size<=xs.length*b.size:=Rc _ n;have N:lo*b.size<=hi*b.size:=Rc _ O1;refine⟨(cells.drop (lo*b.size)).take ((hi-lo)*b.size),⟨h,k,by rw[hl],.inr ⟨_,h1 A,λj u f=>?_⟩⟩,?_,?_,?_,?_⟩
  .grind [DK]
  .rw[hl,On,aS,Nat.sub_mul];omega
  .intro i x z;obtain⟨hx,L⟩:=bA xs lo hi i z;obtain⟨s,t,v,y⟩:=l (lo+i) x hx;refine⟨s,t,λj u f=>?_,y⟩;have J:=(RL.1 f).1;have B:i*b.size+j<(hi-lo)*b.size:=by
    have:(i+1)*b.size<=(hi-lo)*b.size:=Rc _ O1;rw[AB3]at this;omega
   rw[TD,BY B,AAd];have:=v j u f
   rwa [ACd,ACK]at this
  .grind
  rw[hl];omega
 have o:sub xs lo hi=[]:=RW (by rw[hl];omega);refine⟨[],⟨h,k,by rw[hl],.inl o⟩,by rw[hl,show hi-lo=0 by omega];simp,?_,by simp,by rw[hl];omega⟩;rw[o];exact Hv _ _ _ _
theorem bH (q:∀n o,lk n σ.objs=some o->A6 (vw w O0 σ ρ) o (ρ n)) {x:AV} {xv:Value} {ys:List e.den} (h:N2 true σ (.slice e) x=some ys) (C:noN σ x=false) (hx:B7 (vw w O0 σ ρ) x xv) :
  ∃A,Src w (own O0 σ ρ) e xv ys A:=by
 replace h:FD true σ (.slice e) x=some ys:=by
  unfold N2 at h;exact h
 cases x;case p u F =>
  have h:BR (.slice e) ⟨u,F⟩=some ys:=by simpa only[FD] using h
  have:=BA h;injection this with h1 B
  subst h1;cases B;obtain⟨cs,⟨a,c,rfl,m,J,t⟩,rfl⟩:=hx;by_cases hn:ys=[]
  .subst hn;exact⟨[],Up _ _ _ _ _⟩
  rcases t with t|⟨ad,rfl,U,g⟩
  .exact absurd t hn
  obtain⟨A,d,f,H,I⟩:=Yq g;exact⟨A,⟨some ad,c,rfl,.inr ⟨ad,rfl,I⟩⟩,d,f,H,J⟩
 case sr n G lo hi =>
  simp only[FD]at h;split at h
  .rename_i y;obtain⟨_,rfl⟩:=y;obtain⟨K,b⟩:=hx;cases hn:lk n σ.objs with
   | none=>rw[hn]at h;simp[Ri]at h
   | some o =>
    rw[hn]at h;cases o with
    | box et st fs=>simp[Ri]at h
    | mapo k v l=>simp[Ri]at h
    | frame ae fs=>simp[Ri]at h
    | loop L=>simp[Ri]at h
    | itr Y ab Z aa X=>simp[Ri]at h
    | dfr=>simp[Ri]at h
    | nest et S k s xs hl=>rw[noN,hn]at C;cases C
    | arr et s xs =>
     simp only[Ri]at h;obtain⟨d,f⟩:=Bk h;subst d;cases f;have b:DM (plc (ρ n)) s.size lo hi xv:=b;rw[Uo (q n _ hn)]at b;obtain⟨hm,cells,j,g⟩:=q n _ hn;exact sT hm j g b
  cases h
 case nin n G i len =>
  simp only[FD]at h;split at h
  .rename_i y;obtain⟨_,rfl⟩:=y;obtain⟨K,ag,a,c,E,D,r,O,V⟩:=hx;cases hn:lk n σ.objs with
   | none=>rw[hn]at h;simp[UV]at h
   | some o =>
    rw[hn]at h;unfold UV at h;split at h
    .rename_i et S k s xs Q;cases Q;obtain⟨d,f⟩:=Bk h;subst d;cases f;have N:=bD (z:=(k.dflt,[])) (q n _ hn) D r;obtain⟨o,ins,cells,hl,M⟩:=q n _ hn;obtain rfl:=hl.tup D;have r:ins[i]?=some E:=by simpa using r
     obtain⟨c1,af,h1,B,m⟩:=M.row i _ E N r;rcases m with ⟨m,_⟩|⟨_,_,hm,W,j,g⟩
     .cases m
     rcases O with rfl|⟨rfl,T,rfl⟩
     .have:=sT hm j g (Gl j)
      rwa [KT]at this
     have P:=Ki j;have R:(xs.getD i (k.dflt,[])).2=[]:=RW P.symm;rw[R];exact⟨[],Up _ _ _ _ _⟩
    cases h
  cases h
 case raw u =>
  have b:xv=u:=hx;subst b;cases xv with
  | slice a n c =>
   cases a with
   | some a=>simp[FD]at h
   | none =>
    cases n with
    | succ n=>simp[FD]at h
    | zero =>
     cases c with
     | succ c=>simp[FD]at h
     | zero =>
      simp only[FD]at h;cases h;exact⟨[],Up _ _ _ _ _⟩
  | _=>simp[FD]at h
 all_goals simp[FD]at h
theorem Uq (a:∀n o,lk n σ.objs=some o->A6 (vw w O0 σ ρ) o (ρ n)) {x:AV} {xv:Value} {ys:List e.den} (h:Rf σ e x=some ys) (hx:B7 (vw w O0 σ ρ) x xv) :
  ∃d,Src w (own O0 σ ρ) e xv ys d:=by
 unfold Rf at h;split at h
 .split at h
  .cases h
  rename_i b;exact bH a h (by simpa[noN] using b) hx
 rename_i c;refine bH a h ?_ hx;cases x<;>first|rfl|exact absurd rfl (c _ _ _ _)
theorem TV {el:TypeId} (hu:P.underlying id=some (.slice el)) {sz:Nat} (hs:(sizeOf el).run P w=.ok sz w) {base et ty:Nat} {s:Value} {n:Nat} {xs:List Value} (b:w.ownsRow base et sz s n xs) (c:Nat) :
  (Builtin.append_ #[id,id] ty #[s,.slice none 0 c]).run P w=.ok s w:=by
 rcases b.2 with ⟨rfl,rfl⟩|⟨g,cap,d,rfl,_,_,a,_⟩
 .simp[Builtin.append_,RR hu,hs,Builtin.lenOf,Builtin.firstCells]
 simp[Builtin.append_,RR hu,hs,Builtin.lenOf,Builtin.firstCells,a,storeCells]
theorem Gm (k:DC P tb) {el:TypeId} (hu:P.underlying id=some (.slice el)) {te:TI} (q:lk el tb.ty=some te) (A:te.ty=e) {base ty:Nat} {s xv:Value} {n:Nat} {xs h:List Value}
    (g:w.ownsRow base el e.size s n xs) {O:Nat->Prop} {ys:List e.den} (D:Src w O e xv ys h) (r:(n+ys.length)*te.bytes<=AQ) (l:base<=w.heap.size) :
    ∃b w',(Builtin.append_ #[id,id] ty #[s,xv]).run P w=.ok b w'/\w'.ownsRow base el e.size b (n+ys.length) (xs++h)/\w.grownBy w' s.ownBlock/\n+ys.length<=AQ:=by
  subst A;obtain⟨⟨⟨_,x,_⟩,i,z,hi,p,m,t,u⟩,_⟩:=k _ _ q;have f:n+ys.length<=AQ:=by
    have:(n+ys.length)*1<=(n+ys.length)*te.bytes:=ABv _ x;omega
  obtain⟨⟨a,c,rfl,v⟩,o,E,C,F⟩:=D;have hs:(sizeOf el).run P w=.ok te.ty.size w:=IB w (k _ _ q);rcases v with rfl|⟨ad,rfl,y⟩
  . have B:h=[]:=RW (by simpa using o)
    subst B;cases a with
    | none =>
      refine⟨s,w,TV hu hs g c,by simpa using g,⟨rfl,rfl,rfl,IN _,λ_ _ _=>rfl⟩,f⟩
    | some ad =>
      obtain⟨b,w',h1,d,j,_⟩:=run_append_own (P:=P) w base id ty el i z te.ty.size te.bytes hu hi t p m (by rw[u];simpa using (B1.zero w (λ_=>False) te.ty).length) te.ty.size_pos s n xs g ad 0 c [] sc sc sc
        (by have h1:AQ=140737488355328:=rfl;have d:maxLen=9223372036854775807:=rfl;simp at f;omega) (by simpa[AQ] using r) l
      exact⟨b,w',h1,by simpa using d,j,f⟩
  obtain ⟨b, w', h1, d, j, _⟩ := run_append_own (P := P) w base id ty el i z te.ty.size te.bytes hu hi t p m (by rw [u]; simpa using (B1.zero w (λ_ => False) te.ty).length) te.ty.size_pos s n xs g ad ys.length c h o y C
      (by have h1:AQ=140737488355328:=rfl;have d:maxLen=9223372036854775807:=rfl;omega) (by simpa[AQ] using r) l
  exact⟨b,w',h1,d,j,f⟩
theorem Kk {w:World} {O:Nat->Prop} {c1 c2:List Value} {xs ys:List e.den} (h1:Dh w O e c1 xs) (f:Dh w O e c2 ys) (hl:c1.length=xs.length*e.size):Dh w O e (c1++c2) (xs++ys):=by
 intro i x hi;rw[AAE]at hi;split at hi
 .obtain⟨a,b,c,d⟩:=h1 i x hi;grind
 rename_i h;obtain⟨a,b,c,d⟩:=f _ x hi;refine⟨a,b,λj u g=>?_,d⟩;have k:xs.length*e.size<=i*e.size:=Rc _ O1;rw[RS O1,hl];have:=c j u g;rw[Nat.sub_mul]at this;rw[<-this]
 congr 1
 omega
theorem TW (k:DC P tb) {el:TypeId} (hu:P.underlying id=some (.slice el)) {te:TI} (m:lk el tb.ty=some te) (x:te.ty=e) {ty:Nat} {xv:Value} {O:Nat->Prop} {xs:List e.den} {a:Option Addr} {c:List Value}
  (hs:Src w O e (.slice a xs.length xs.length) xs c) {ys:List e.den} {d:List Value} (l:Src w O e xv ys d) (h0:0<ys.length) (n:(xs.length+ys.length)*te.bytes<=AQ) :
  ∃b w',(Builtin.append_ #[id,id] ty #[.slice a xs.length xs.length,xv]).run P w=.ok b w'/\w'.ownsRow w.heap.size el e.size b (xs.length+ys.length) (c++d)/\w.grownBy w' none:=by
 subst x;have o:∀ad:Addr,a=some ad->(∀(j:Nat) (u:Value),c[j]?=some u->w.cell? (ad.add j)=some u)->∃b w',(Builtin.append_ #[id,id] ty #[.slice a xs.length xs.length,xv]).run P w=.ok b w'/\w'.ownsRow w.heap.size el te.ty.size b (xs.length+ys.length) (c++d)/\w.grownBy w' none:=by
  intro ad ha D;subst ha;obtain⟨⟨⟨_,s,_⟩,i,z,hi,E,t,F,G⟩,_⟩:=k _ _ m;obtain⟨⟨I,c2,rfl,f⟩,A,M,T,Q⟩:=l;have S:xs.length+ys.length<=AQ:=by
   have:(xs.length+ys.length)*1<=(xs.length+ys.length)*te.bytes:=ABv _ s;omega
  rcases f with rfl|⟨p,rfl,g⟩
  .simp at h0
  exact run_append_arg_grows (P:=P) w id ty el i z te.ty.size te.bytes hu hi F E t (by rw[G];simpa using (B1.zero w (λ_=>False) te.ty).length) te.ty.size_pos ad xs.length xs.length c hs.len D p ys.length c2 d A g O1
   (by have h1:AQ=140737488355328:=rfl;have h:maxLen=9223372036854775807:=rfl;omega) (by simpa[AQ] using n)
 obtain⟨⟨H,c1,v,f⟩,B,N,U,R⟩:=hs;injection v with q J K
 subst q;rcases f with rfl|⟨ad,ha,g⟩
 .have C:c=[]:=RW (by simpa using B);subst C;cases a with
  | some ad=>exact o ad rfl λj u y=>by simp at y
  | none =>
   obtain⟨b,w',h1,h,r,L⟩:=Gm (ty:=ty) k hu m rfl (ABM w w.heap.size el te.ty.size) l (by simpa using n) (IN _);exact⟨b,w',h1,by simpa using h,r⟩
 exact o ad ha g
theorem TX {w w':World} (h:w.grownBy w' none):Below w.heap.size w w':=⟨h.os,h.tape,h.output,h.size,λk hk=>h.block k hk sc⟩
theorem A0O (a:DC P tb) (D:∀n o,lk n σ.objs=some o->A6 (vw w O0 σ ρ) o (ρ n)) {d:Nat} {t u:TypeId} {x y:AV} {xv H:Value} {ty:TypeId}
  (h:C2 tb σ d t u (some x) (some y)=some (vc,v,obs)) (m:vc) (hx:B7 (vw w O0 σ ρ) x xv) (hy:B7 (vw w O0 σ ρ) y H) (hf:Bh obs σ=true) :
  ∃z ρ' w',(Builtin.append_ #[t,u] ty #[xv,H]).run P w=.ok z w'/\QS w O0 σ ρ v obs z ρ' w':=by
 unfold C2 at h;split at h
 .rename_i B C;cases B;cases C;have hx:xv=_:=hx;subst hx;split at h
  .rename_i F;subst F;cases c:lk t tb.ty with
   | none=>rw[c]at h;simp[FF]at h
   | some ti =>
    rw[c]at h;unfold FF at h;split at h
    .rename_i e offs el b A;cases A;obtain⟨hu,hs,te,i,k⟩:=CZ (a _ _ c) a;rw[i]at h;cases f:Rf σ e y with
     | none=>rw[f]at h;simp[F3]at h
     | some ys =>
      rw[f]at h;simp only[F3]at h;cases h;obtain⟨G,g⟩:=Uq D f hy;obtain⟨q,w',h1,j,s,N⟩:=Gm (ty:=ty) a hu i k (ABM w w.heap.size el e.size) g (by simpa using m) (IN _);have j:w'.ownsRow w.heap.size el e.size q ys.length G:=by simpa using j
      exact⟨q,_,w',h1,QS.arr hf (TX s) j g.max g.elems rfl⟩
    cases h
  cases h
 .rename_i e l v1 B C;cases B;cases C;split at h
  .rename_i F;subst F;obtain⟨K,M,rfl⟩:=hx;cases c:lk t tb.ty with
   | none=>rw[c]at h;simp[Ke]at h
   | some ti =>
    rw[c]at h;unfold Ke at h;split at h
    .rename_i r offs el b A;cases A;split at h
     .rename_i k;subst k;obtain⟨hu,hs,te,i,k⟩:=CZ (a _ _ c) a;rw[i]at h;cases f:Rf σ r y with
      | none=>rw[f]at h;simp[Lr]at h
      | some ys =>
       rw[f]at h;simp only[Lr]at h;cases h;obtain⟨L,m⟩:=m;obtain⟨G,g⟩:=Uq D f hy;obtain⟨O,E⟩:=bH (e:=r) (ys:=l) (x:=.p (.slice r) l) D (by simp[N2,FD,G4]) rfl K;obtain⟨q,w',h1,j,s⟩:=TW (ty:=ty) a hu i k E g L m;have J:(l++ys).length<=AQ:=by
        obtain⟨⟨⟨_,I,_⟩,_⟩,_⟩:=a _ _ i;have:(l.length+ys.length)*1<=(l.length+ys.length)*te.bytes:=ABv _ I;rw[By];omega
       exact⟨q,_,w',h1,QS.arr hf (TX s) (by rw[By];exact j) J (Kk E.elems g.elems E.len) (by rw[By])⟩
     cases h
    cases h
  cases h
 cases h
end
end
section
open Go Go.RowKit
def Vq:Ty->Option TypeDesc
 | .int k=>some (.int k)
 | .bool=>some .bool
 | .str=>some .string
 | .prod _ _=>none
 | .agg _=>none
 | .slice _=>none
 | .ref _=>none
section
variable {w:World} {O:Nat->Prop}
theorem NH {a:Ty} (hd:Vq a=some d) {k:a.den} (h:BU w O a b k):MapKept.IsKey d b:=by
 cases a<;>simp only[Vq]at hd<;>try(cases hd;done)
 all_goals cases hd
 .obtain⟨rfl,_⟩:=BI h;trivial
 .have:=EH h;subst this;trivial
 obtain⟨rfl,_⟩:=G8 h;trivial
theorem fU {a:Ty} (hd:Vq a=some d) {k c:a.den} {e f:Value} (h:BU w O a e k) (b:BU w O a f c):Instr.sameNow d e f=some (Iv a k c):=by
 cases a<;>simp only[Vq]at hd<;>try(cases hd;done)
 all_goals cases hd
 .obtain⟨rfl,_⟩:=BI h;obtain⟨rfl,_⟩:=BI b;simp[Instr.sameNow,Iv]
 .have:=EH h;subst this;have:=EH b;subst this;simp[Instr.sameNow,Iv]
 obtain⟨rfl,_⟩:=G8 h;obtain⟨rfl,_⟩:=G8 b;simp[Instr.sameNow,Iv]
theorem A7H {a:Ty} (hd:Vq a=some d) {k c:a.den} {e f:Value} (h:BU w O a e k) (b:BU w O a f c) (j:Iv a k c=true):f=e:=by
 have h1:=fU hd h b;obtain⟨r,g,i⟩:=MapKept.sameNow_of_keys (NH hd h) (NH hd b);grind
def L5 (a b:Ty) (k:a.den):List MapEntry->List (a.den×b.den)->Nat->Option (Nat×Value)
 | e :: c,x :: l,i=>if Iv a k x.1=true then some (i,e.val) else L5 a b k c l (i+1)
 | _,_,_=>none
end
structure bI (P:Program) (kid:TypeId) (kt:Ty):Prop where
 check:∀ {w:World} {O:Nat->Prop} {kv:Value} {k:kt.den} (em:Bool),BU w O kt kv k->(Instr.checkKey em 10000 kid kv).run P w=.ok () w
 find:∀ {w:World} {O:Nat->Prop} {vt:Ty} {es:List MapEntry} {l:List (kt.den×vt.den)} {kv:Value} {k:kt.den},BU w O kt kv k->Oj w O kt vt es l->(Instr.findKey kid kv es).run P w=.ok (L5 kt vt k es l 0) w
 stays:∀ {w:World} {O:Nat->Prop} {kv:Value} {k:kt.den},BU w O kt kv k->(Instr.keyThatStays kv kv).run P w=.ok kv w
 same:∀ {w:World} {O:Nat->Prop} {kv kv':Value} {k k':kt.den},BU w O kt kv k->BU w O kt kv' k'->Iv kt k k'=true->kv'=kv
theorem Ys {w:World} {O:Nat->Prop} {a c:Ty} {d:TypeDesc} (hd:Vq a=some d) {k:a.den} {f:Value} (hk:BU w O a f k):∀ {b:List MapEntry} {l:List (a.den×c.den)},Oj w O a c b l->∀i,Instr.findNow d f b i=some (L5 a c k b l i)
 | [],[],_,i=>rfl
 | [],_ :: _,h,_=>h.elim
 | _ :: _,[],h,_=>h.elim
 | e :: b,x :: l,⟨h1,m,g⟩,i=>by
  have hs:=fU hd hk h1;have j:=Ys hd hk g (i+1);cases hb:Iv a k x.1<;>rw[hb]at hs<;>simp[Instr.findNow,L5,hs,hb,j]
theorem JV (hd:Vq e=some d) (hu:P.underlying t=some d):bI P t e where
 check:=λem h=>MapKept.run_checkKey hu (NH hd h) em 9999
 find:=λhk he=>MapKept.run_findKey hu (Ys hd hk he 0)
 stays:=λh=>MapKept.run_keyThatStays (NH hd h)
 same:=λh h' he=>A7H hd h h' he
theorem Hw {O:Nat->Prop} {b:IntKind} {v:Value} {d:(Ty.agg (.prod (.int a) (.int b))).den} (h:BU w O (.agg (.prod (.int a) (.int b))) v d):v=.agg #[.int a d.1,.int b d.2]:=by
 obtain⟨cs,⟨c1,c2,rfl,⟨rfl,_⟩,⟨rfl,_⟩⟩,rfl⟩:=h;rfl
theorem L6 (h:P.underlying t=some (.int a)) (d:Nat) (x y:Int):(Op.equalIn (d+1) t (.int a x) (.int a y)).run P w=.ok (x==y) w:=by simp[Op.equalIn,RR h]
theorem Pv (h:P.underlying t=some (.int a)) (em:Bool) (d:Nat) (x:Int):(Instr.checkKey em (d+1) t (.int a x)).run P w=.ok () w:=by simp[Instr.checkKey,RR h]
theorem YY {h:TypeId} {b:IntKind} (n:Pq P h a b) (em:Bool) (d:Nat) (x y:Int):(Instr.checkKey em (d+2) h (.agg #[.int a x,.int b y])).run P w=.ok () w:=by
 obtain⟨c,e,hu,⟨h1,j⟩,⟨l,m⟩,⟨f,g⟩,t⟩:=n;have i : c.name ≠ "_" := by simpa using h1
 have k : e.name ≠ "_" := by simpa using j
 have o:P.plainKey c.type=true:=by simp[Program.plainKey,f]
 have p:P.plainKey e.type=true:=by simp[Program.plainKey,g]
 have p0:=λ(u v:Value)=>AC3 (P:=P) w o (xs:=#[u,v]) (off:=c.offset) (v:=u) (by rw[l];rfl);have q:=λ(u v:Value)=>AC3 (P:=P) w p (xs:=#[u,v]) (off:=e.offset) (v:=v) (by rw[m];rfl);have r:=λx:Int=>Pv (w:=w) f em d x;have s:=λx:Int=>Pv (w:=w) g em d x;rw[Instr.checkKey];simp[RR hu,i,k,p0,q,r,s]
theorem nD {g:TypeId} {b:IntKind} (z:Pq P g a b) (w:World) (h i j k:Int):(Op.equal g (.agg #[.int a h,.int b i]) (.agg #[.int a j,.int b k])).run P w=.ok ((h==j)&&(i==k)) w:=by
 obtain⟨d,f,hu,⟨h1,l⟩,⟨r,s⟩,⟨m,n⟩,t⟩:=z;have o:P.fieldsOf g=#[d,f]:=by simp[Program.fieldsOf,hu]
 have A:P.plainKey d.type=true:=by simp[Program.plainKey,m]
 have B:P.plainKey f.type=true:=by simp[Program.plainKey,n]
 have h1 : d.name ≠ "_" := by simpa using h1
 have l : f.name ≠ "_" := by simpa using l
 have C:∀x y:Int,(Op.equalIn 9999 d.type (.int a x) (.int a y)).run P w=.ok (x==y) w:=λx y=>L6 m 9998 x y;have p:∀x y:Int,(Op.equalIn 9999 f.type (.int b x) (.int b y)).run P w=.ok (x==y) w:=λx y=>L6 n 9998 x y;have e:(Op.equal g (.agg #[.int a h,.int b i]) (.agg #[.int a j,.int b k])).run P w=_:=run_equalIn_struct (P:=P) w 9999 g _ _ (by rw[o];exact hu) t;rw[e,o];have p0:=λ(u v:Value)=>AC3 (P:=P) w A (xs:=#[u,v]) (off:=d.offset) (v:=u) (by rw[r];rfl);have q:=λ(u v:Value)=>AC3 (P:=P) w B (xs:=#[u,v]) (off:=f.offset) (v:=v) (by rw[s];rfl);simp only[Op.eqFields,h1,l,ne_eq,not_false_eq_true,AAF,AAZ,p0,q,AAl,C,p];by_cases c:h=j
 .by_cases c2:i=k<;>simp[c,c2,ACL,AAZ,q,p,Op.eqFields]
 simp[c,ACL]
theorem Yt {P:Program} {j:TypeId} {a b:IntKind} (f:Pq P j a b) {w:World} {O:Nat->Prop} {d:Ty} {k:(Ty.agg (.prod (.int a) (.int b))).den} {m:Value} (hk:BU w O (.agg (.prod (.int a) (.int b))) m k) :
  ∀ {c:List MapEntry} {l:List ((Ty.agg (.prod (.int a) (.int b))).den×d.den)},Oj w O (.agg (.prod (.int a) (.int b))) d c l->∀i,(Instr.findAsking j m c i).run P w=.ok (L5 (.agg (.prod (.int a) (.int b))) d k c l i) w
 | [],[],_,i=>rfl
 | [],_ :: _,h,_=>h.elim
 | _ :: _,[],h,_=>h.elim
 | e :: c,x :: l,⟨h1,p,n⟩,i=>by
  have o:=Yt f hk n (i+1);have g:=nD f w k.1 k.2 x.1.1 x.1.2;rw[<-Hw hk,<-Hw h1]at g;have hb:Iv (.agg (.prod (.int a) (.int b))) k x.1=((k.1==x.1.1)&&(k.2==x.1.2)):=rfl;simp only[Instr.findAsking,AAZ,g,AAl,L5,hb,ACL];split
  .rfl
  exact o
theorem fV {b:IntKind} (hp:Pq P t a b):bI P t (.agg (.prod (.int a) (.int b))) where
 check:=λem h=>by
  rw[Hw h];exact YY hp em 9998 _ _
 find:=λhk he=>by
  have hp2:=hp;obtain⟨f0,f1,hu,_⟩:=hp2;rw[run_findKey_eq _ (by rw[hu])];exact Yt hp hk he 0
 stays:=λh=>by
  rw[Hw h];simp[Instr.keyThatStays,Instr.sameBits]
 same:=λh h' he=>by
  rw[Hw h,Hw h'];have he:((_==_)&&(_==_))=true:=he;grind
theorem Rp {P:Program} {A:TypeId} {w:World} {O:Nat->Prop} {c a:Ty} (s:bI P A c) {k:c.den} {m:Value} (hk:BU w O c m k):∀ {f:List MapEntry} {l:List (c.den×a.den)},Oj w O c a f l->∀i,
  (BW c a k l=none/\L5 c a k f l i=none/\∀(v:a.den) (d:Value) (b:Nat),BU w O a d v->Oj w O c a (f++[⟨m,d,b⟩]) (F1 c a k v l)) \/
  ∃(j:Nat) (e:MapEntry) (v0:a.den),BW c a k l=some v0/\L5 c a k f l i=some (i+j,e.val)/\f[j]?=some e/\BU w O a e.val v0/\e.key=m /\
   ∀(v:a.den) (d:Value),BU w O a d v->Oj w O c a (f.modify j λe=>{ e with key:=m,val:=d }) (F1 c a k v l)
 | [],[],_,i=>.inl ⟨rfl,rfl,λv d b g=>⟨hk,g,trivial⟩⟩
 | [],_ :: _,h,_=>h.elim
 | _ :: _,[],h,_=>h.elim
 | e :: f,x :: l,⟨h1,p,r⟩,i=>by
  cases hb:Iv c k x.1 with
  | true =>
   refine .inr ⟨0,e,x.2,by simp[BW,hb],by simp[L5,hb],rfl,p,s.same hk h1 hb,λv d g=>?_⟩;simp only[F1,hb,AAF];exact⟨hk,g,r⟩
  | false =>
   rcases Rp s hk r (i+1) with ⟨n,q,o⟩|⟨j,t,v0,n,q,o,u,y,z⟩
   .refine .inl ⟨by simp[BW,hb,n],by simp[L5,hb,q],λv d b g=>?_⟩;simp only[F1,hb,oF,AAV];exact⟨h1,p,o v d b g⟩
   refine .inr ⟨j+1,t,v0,by simp[BW,hb,n],?_,by simpa using o,u,y,λv d g=>?_⟩
   .grind [L5]
   simp only[F1,hb,oF,AAV,List.modify_succ_cons];exact⟨h1,p,z v d g⟩
theorem fW {tb:Tb} {ti:TI} (hT:EO P tb t ti) (c:ti.el=0) (hk:aX ti.ty=true):bI P t ti.ty:=by
 have a:=hT.2;obtain⟨⟨⟨_,_,b⟩,_⟩,_⟩:=hT;rw[c]at b;cases ht:ti.ty<;>rw[ht]at a hk b<;>simp only[aX]at hk<;>try(cases hk;done)
 .exact JV rfl a
 .exact JV rfl a
 .exact JV rfl a
 unfold w5 at hk;split at hk
 .exact fV b
 cases hk
theorem xC {t:Ty} {z:Value} (c:z.cells=t.zero.toArray) (hf:bE t z=true):z=t.wrap t.zero:=by
 cases t with
 | agg t =>
  cases z<;>simp only[bE]at hf<;>try(cases hf;done)
  simp only[Value.cells]at c;rw[c];rfl
 | prod a b=>cases z<;>simp[bE]at hf
 | _=>cases z<;>simp only[bE]at hf<;>(try(cases hf;done))<;>(simp only[Value.cells,Ty.zero]at c;simp[Ty.wrap,Ty.zero]at c ⊢<;>exact c)
section
variable {P:Program} {tb:Tb} {w:World} {O0:Nat->Prop} {σ:St} {ρ:Nat->Value} {vc:Prop} {v:AV} {obs:List (Nat×Obj)} {id:TypeId} {ti:TI}
theorem xE {P:Program} {tb:Tb} {e:TypeId} {te:TI} {z:Value} {i:TypeInfo} (hi:P.info? e=some i) (b:i.zero=some z) (a:z.cells=te.ty.zero.toArray) (hf:bE te.ty z=true) (w:World) (O:Nat->Prop) :
  (zeroValue e).run P w=.ok z w/\BU w O te.ty z te.ty.dflt:=by
 refine⟨by simp[zeroValue,typeInfo,hi,b],te.ty.zero,B1.zero w O te.ty,xC a hf⟩
theorem A9p {a:Act} (k:Hl (vw w O0 σ ρ) σ a.eval) {fn:Fn} {first d:List Operand} (h:fF σ fn first d=some (vc,v,obs)):obs=[]/\∃u,(Instr.makeFunc fn (first.map a.eval).toArray (d.map a.eval).toArray).run P w=.ok u w/\B7 (vw w O0 σ ρ) v u:=by
 unfold fF at h;split at h
 .rename_i f;cases i:I1 σ d with
  | none=>rw[i]at h;simp[TK]at h
  | some ns =>
   rw[i]at h;simp only[TK]at h;cases h;have key:∀ {l:List Operand} {ns:List Nat},I1 σ l=some ns->l.map a.eval=ns.map ρ/\∀n∈ns,HK σ n/\∃b:Nat,ρ n=.pointer (some ⟨b,0,none⟩):=by
    intro l;induction l with
    | nil=>intro ns h;simp only[I1]at h;cases h;exact⟨rfl,λ_ h=>by cases h⟩
    | cons x r o =>
     intro ns h;simp only[I1]at h;split at h
     .rename_i n s h1 j;cases h;obtain⟨e,g⟩:=o j;obtain⟨p,b,c,q⟩:=k x _ h1;have c:ρ n=_:=c;refine⟨by simp only[Rd,e,q,c],λm hm=>?_⟩;rcases DO.1 hm with rfl|hm
      .exact⟨p,b,c⟩
      exact g m hm
     cases h
   obtain⟨e,g⟩:=key i;refine⟨rfl,_,rfl,?_,g⟩;rw[e];rfl
 cases h
theorem xF {a:Array MapEntry} {cl:Nat} (h:aY a cl) (x y:Value):aY (a.push ⟨x,y,cl⟩) (cl+1):=by grind [aY]
theorem fX {a:Array MapEntry} {cl:Nat} (h:aY a cl) (j:Nat) (x y:Value):aY (a.modify j λe=>{ e with key:=x,val:=y }) cl:=by
 have e:((a.modify j λe=>{ e with key:=x,val:=y }).toList.map (·.born))=a.toList.map (·.born):=by
  rw[Array.toList_modify];apply oS
  .simp
  grind
 unfold aY;rw[e];exact h
theorem A7I (E:DC P tb) (hT:EO P tb id ti) {n:Nat} {k e:Nat} (L:ti.ty=.ref 2) (K:ti.offs=[(k,e)]) {a:TI} (M:lk k tb.ty=some a) {c:Ty} {l:List (a.ty.den×c.den)} (F:V.w=w)
  (J:A6 V (.mapo a.ty c l) (V.ρ n)) {x y:Value} {kd:a.ty.den} {g:c.den} (G:a.el=0) (I:aX a.ty=true) (hx:BU w V.O a.ty x kd) (hy:BU w V.O c y g) :
  ∃b m r,V.ρ n=.map (some b)/\(Instr.mapUpdate id (.map (some b)) x y).run P w=.ok () { w with heap:=w.heap.setIfInBounds b (.map m r) }/\(∃o,w.heap[b]?=some o)/\Oj w V.O a.ty c m.toList (F1 a.ty c kd g l)/\aY m r:=by
 obtain⟨d,hu,_,hm⟩:∃d,P.underlying id=some d/\(match d with|.struct _=>False|.array _ _=>False|_=>True) /\
   ∀k e,(2:Nat)=2->ti.offs=[(k,e)]->d=.map k e/\∃(a te:TI) (z:Value),lk k tb.ty=some a/\lk e tb.ty=some te/\(∃i,P.info? e=some i/\i.zero=some z)/\z.cells=te.ty.zero.toArray/\bE te.ty z=true:=by
  have:=hT.2;rw[L]at this;exact this
 obtain⟨rfl,_⟩:=hm k e rfl K;obtain⟨b,h,cl,v,hh,t,s⟩:=J;subst F;have f:=fW (E _ _ M) G I;have u:=f.find hx t;refine⟨b,?_⟩;rcases Rp f hx t 0 with ⟨B,p,q⟩|⟨j,A,v0,B,p,q,N,C,D⟩
 .refine⟨h.push ⟨x,y,cl⟩,cl+1,v,?_,⟨_,hh⟩,by simpa using q g y cl hy,xF s x y⟩;simp[Instr.mapUpdate,RR hu,ABS hh,f.check _ hx,u,p,MapKept.run_setObj_map _ hh]
 have H:h[j]?=some A:=by simpa using q
 refine⟨h.modify j λe=>{ e with key:=x,val:=y },cl,v,?_,⟨_,hh⟩,by rw[Array.toList_modify];exact D g y hy,fX s j x y⟩;simp[Instr.mapUpdate,RR hu,ABS hh,f.check _ hx,u,p,H,C,f.stays hx,MapKept.run_setObj_map _ hh]
theorem xG (hT:EO P tb id ti) {d:Nat} (h:G6 tb d (some ti)=some (vc,v,obs)) (hf:Bh obs σ=true) :
  ∃u ρ' w',(Instr.makeMap id none).run P w=.ok u w'/\QS w O0 σ ρ v obs u ρ' w':=by
 unfold G6 at h;split at h
 .rename_i offs _ _ a;cases a;unfold Hu at h;split at h
  .rename_i k e;unfold Ht at h;split at h
   .cases h;have c:(Instr.makeMap id none).run P w=.ok (.map (some w.heap.size)) (w.alloc (.map #[] 0)):=by
     simp[Instr.makeMap,Result.andThen]
    refine⟨_,_,_,c,QS.one (loc:=.map (some w.heap.size)) ((Below.refl _ w).alloc (IN _) _) ?_ ?_ ?_⟩
    .grind [bk,blk]
    .refine⟨⟨_,by simp only[EM,AB6,lk,AAF];rfl⟩,w.heap.size,?_,rfl⟩;show FA ρ d _ d=_;rw[Bp]
    exact⟨w.heap.size,#[],0,rfl,(MapKept.heap_alloc w _).1,trivial,List.Pairwise.nil,λb hb=>by cases hb⟩
   cases h
  cases h
 cases h
theorem A7J (hT:EO P tb id ti) (M:DC P tb) (H:∀n o,lk n σ.objs=some o->A6 (vw w O0 σ ρ) o (ρ n)) {ok:Bool} {x y:AV} {xv D:Value} (h:Jv tb σ ok (some ti) (some x) (some y)=some (vc,v,obs))
  (hx:B7 (vw w O0 σ ρ) x xv) (hy:B7 (vw w O0 σ ρ) y D):obs=[]/\∃u,(Instr.lookup id xv D ok).run P w=.ok u w/\B7 (vw w O0 σ ρ) v u:=by
 unfold Jv at h;split at h
 .rename_i k e _ _ n z Q R S;cases Q;cases R;cases S;obtain⟨d,hu,_,hm⟩:=hT.2;obtain⟨rfl,C,te,ad,J,W,⟨i,hi,X⟩,aa,ab⟩:=hm k e rfl rfl;cases hn:lk n σ.objs with
  | none=>rw[hn]at h;simp[JR]at h
  | some o =>
   rw[hn]at h;cases o with
   | mapo ag ah l =>
    simp only[JR,J,W,ABj,AAJ]at h;split at h
    .rename_i O;obtain⟨rfl,T,rfl⟩:=O;cases hk:N2 false σ C.ty y with
     | none=>rw[hk]at h;simp[Lt]at h
     | some kd =>
      rw[hk]at h;simp only[Lt]at h;split at h
      .rename_i U;have a:=LS (V:=vw w O0 σ ρ) (O':=own O0 σ ρ) (λ_ h=>h) (λh=>by cases h) H hk hy;have a:BU w (own O0 σ ρ) C.ty D kd:=a;obtain⟨af,b,B,rfl⟩:=hx;have B:ρ n=_:=B;obtain⟨ae,E,cl,c,hh,m,-⟩:=H n _ hn;rw[B]at c;injection c with c
       injection c with c
       subst c;have hh:w.heap[b]?=some (.map E cl):=hh;have m:Oj w (own O0 σ ρ) C.ty te.ty E.toList l:=m;have p:=fW (M _ _ J) T U;have G:=p.find a m;obtain⟨Y,Z⟩:=xE (te:=te) (P:=P) (tb:=tb) hi X aa ab w (own O0 σ ρ);have F:∀(f:Value) (q:Bool) (r:Option te.ty.den),BU w (own O0 σ ρ) te.ty f (r.getD te.ty.dflt)->q=r.isSome->Oe te.ty ok r=some (vc,v,obs)->obs=[]/\∃u,u=(if ok=true then Value.tuple #[f,.bool q] else f)/\B7 (vw w O0 σ ρ) v u:=by
        intro f q r I N g;unfold Oe at g;subst N;cases ok with
        | true =>
         simp only[AAF]at g ⊢;cases g;exact⟨rfl,_,rfl,[f,.bool r.isSome],rfl,f,_,rfl,I,_,[],rfl,Bq _,rfl⟩
        | false =>
         simp only[oF,AAV]at g ⊢;cases g;exact⟨rfl,_,rfl,I⟩
       rcases Rp p a m 0 with ⟨s,t,_⟩|⟨j,K,v0,s,t,_,L,_,_⟩
       .rw[s]at h;obtain⟨h1,u,rfl,A⟩:=F ad false none Z rfl h;refine⟨h1,_,?_,A⟩;simp[Instr.lookup,RR hu,ABS hh,p.check _ a,G,t,Y]
       rw[s]at h;obtain⟨h1,u,rfl,A⟩:=F K.val true (some v0) L rfl h;refine⟨h1,_,?_,A⟩;simp[Instr.lookup,RR hu,ABS hh,p.check _ a,G,t]
      cases h
    cases h
   | _=>simp[JR]at h
 cases h
end
end
end Go.Proofs.YtcmadlghkcjcbaaGreat.Fw
