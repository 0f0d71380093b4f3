/- The executor's quiet operations are sound, second part; maps. -/
import Derived.Test.YtapkhdkbkodbjaaGreatJZB
import Derived.ArgAppend
import Derived.MapKept
import Derived.WideKeyRuns
import Derived.Laws.StructEq
set_option linter.unusedVariables false
set_option linter.unusedSimpArgs false
namespace Go.Proofs.YtapkhdkbkodbjaaGreat.Fw
section
open Go Go.RowKit
section
abbrev AEr:=@Go.Sem.run_pure
abbrev AEy:=@Go.World.ownsRow_nil
abbrev AEA:=@Go.MapKept.run_getObj_map
abbrev AEI:=@Go.run_part_plain
abbrev AFq:=@Go.Sem.run_ite
variable {P:Program} {tb:Tb} {id:TypeId} {ti:TI} {w:World} {O0:Nat->Prop} {σ:St} {ρ:Nat->Value} {vc:Prop} {v:AV} {obs:List (Nat×Obj)}
theorem Fj (w:World) (o:_root_.Go.Obj):Below w.heap.size w (w.alloc o):=(Below.refl _ _).alloc (NO _) o
theorem QS.box {n:Nat} {et:TypeId} {st:Bool} {fs:List AV} {cs:List Value} (hf:Bi [(n,.box et st fs)] σ=true) (g:st=false->fs.length=1) (d:Dn (vw w O0 σ ρ) fs cs) :
  QS w O0 σ ρ (.bp n [] 0) [(n,.box et st fs)] (.pointer (some ⟨w.heap.size,0,none⟩)) (Ei ρ n (.pointer (some ⟨w.heap.size,0,none⟩))) (w.alloc (.cells cs.toArray et)):=by
 have f:∀(m:Nat) (o:Obj) (b:Nat),lk m [(n,.box et st fs)]=some o->bk (Ei ρ n (.pointer (some ⟨w.heap.size,0,none⟩)) m) b->w.heap.size<=b:=by grind [lk,Bn,bk,blk]
 have hk:Cb (vw w O0 σ ρ) (vw (w.alloc (.cells cs.toArray et)) O0 (EZ σ [(n,.box et st fs)]) (Ei ρ n (.pointer (some ⟨w.heap.size,0,none⟩)))) :=
  Ho hf (Fj w _) (λm a=>by
   simp only[lk]at a;split at a
   ·cases a
   ·rename_i e;simp[Ei,e]) f
 refine QS.one (Fj w _) (λb c=>by simp[bk,blk]at c;omega) ?_ ?_
 ·refine⟨⟨.box et st fs,by simp[EZ,lk]⟩,w.heap.size,by rw[show (vw (w.alloc (.cells cs.toArray et)) O0 (EZ σ [(n,.box et st fs)]) (Ei ρ n (.pointer (some ⟨w.heap.size,0,none⟩)))).ρ n=Ei ρ n (.pointer (some ⟨w.heap.size,0,none⟩)) n from rfl,Bn],rfl⟩
 ·exact⟨g,w.heap.size,cs,rfl,heap_alloc_new w _,d.keeps hk⟩
theorem QS.arr {n:Nat} {et:TypeId} {e:Ty} {xs:List e.den} {cells:List Value} {loc:Value} {w':World} {hi:Nat} (hf:Bi [(n,.arr et e xs)] σ=true) (f:Below w.heap.size w w')
  (c:w'.ownsRow w.heap.size et e.size loc xs.length cells) (a:xs.length<=AP) (k:Dx w (own O0 σ ρ) e cells xs) (p:hi=xs.length) :
  QS w O0 σ ρ (.sr n e 0 hi) [(n,.arr et e xs)] loc (Ei ρ n loc) w':=by
 subst p;have r:∀b,bk loc b->w.heap.size<=b:=by
  intro b i;rcases c.2 with ⟨rfl,_⟩|⟨g,cap,d,rfl,l,_⟩
  ·simp[bk,blk]at i
  ·simp[bk,blk]at i;omega
 have q:∀(m:Nat) (o:Obj) (b:Nat),lk m [(n,.arr et e xs)]=some o->bk (Ei ρ n loc m) b->w.heap.size<=b:=by grind [lk,Bn]
 have hk:Cb (vw w O0 σ ρ) (vw w' O0 (EZ σ [(n,.arr et e xs)]) (Ei ρ n loc)) :=
  Ho hf f (λm a=>by
   simp only[lk]at a;split at a
   ·cases a
   ·rename_i e;simp[Ei,e]) q
 refine QS.one f r ?_ ?_
 ·refine⟨⟨.arr et e xs,by simp[EZ,lk]⟩,?_⟩;show DG (plc (Ei ρ n loc n)) e.size 0 xs.length loc;rw[Bn,HW c];rcases c.2 with ⟨rfl,hn⟩|⟨g,cap,d,rfl,l,_,t,_⟩
  ·exact⟨none,0,0,rfl,by omega,by omega,none,0,by rw[hn],by omega,λ_=>⟨rfl,rfl⟩,λh=>by omega⟩
  ·exact⟨some ⟨g,0,none⟩,xs.length,cap,rfl,by omega,by omega,some ⟨g,0,none⟩,cap,by simp,by omega,λ_=>⟨rfl,rfl⟩,λ_=>by simp[M4]⟩
 ·refine⟨a,cells,⟨c.1,?_⟩,k.keeps hk⟩;rcases c.2 with h|⟨g,cap,d,h1,s,j⟩
  ·exact .inl h
  ·exact .inr ⟨g,cap,d,h1,IS _,j⟩
theorem LU (V:Vw) (t:Ty):Nm V (yQ t) t.zero:=by
 cases t;case slice e=>exact⟨_,rfl,rfl,rfl⟩
 case ref k=>exact⟨Ln k,rfl,by match k with|0=>rfl|1=>rfl|_+2=>rfl,rfl⟩
 all_goals(exact B0.zero V.w V.O _)
theorem A1A (V:Vw):∀t:Ty,Dn V (yR t) t.zero
 | .prod a b=>⟨a.zero,b.zero,rfl,LU V a,A1A V b⟩
 | .int k=>⟨_,[],by simp,LU V (.int k),rfl⟩
 | .bool=>⟨_,[],by simp,LU V .bool,rfl⟩
 | .str=>⟨_,[],by simp,LU V .str,rfl⟩
 | .slice e=>⟨_,[],by simp,LU V (.slice e),rfl⟩
 | .agg t=>⟨_,[],by simp,LU V (.agg t),rfl⟩
 | .ref k=>⟨_,[],by simp,LU V (.ref k),rfl⟩
theorem A1B (V:Vw):∀(t:Ty) (d:t.den) (cs:List Value),B0 V.w V.O t cs d->Dn V (pfs t d) cs
 | .prod a b,d,cs,h=>by
  obtain⟨c1,c2,rfl,h1,c⟩:=h;exact⟨c1,c2,rfl,h1,A1B V b d.2 c2 c⟩
 | .int k,d,cs,h=>⟨cs,[],by simp,h,rfl⟩
 | .bool,d,cs,h=>⟨cs,[],by simp,h,rfl⟩
 | .str,d,cs,h=>⟨cs,[],by simp,h,rfl⟩
 | .slice e,d,cs,h=>⟨cs,[],by simp,h,rfl⟩
 | .agg t,d,cs,h=>⟨cs,[],by simp,h,rfl⟩
 | .ref k,d,cs,h=>⟨cs,[],by simp,h,rfl⟩
theorem L7 (hT:EH P tb id ti) (w:World):∃z:Value,(zeroValue id).run P w=.ok z w/\z.cells=ti.ty.zero.toArray:=by
 obtain⟨⟨_,i,z,h1,c,d,a,b⟩,_⟩:=hT;exact⟨z,by simp[zeroValue,L6 w h1,a],b⟩
theorem A50 (hT:EH P tb id ti) {d:Nat} (h:KT d id (some ti)=some (vc,v,obs)) (hf:Bi obs σ=true) :
  ∃u ρ' w',(Instr.alloc id true (.tuple #[])).run P w=.ok u w'/\QS w O0 σ ρ v obs u ρ' w':=by
 obtain⟨z,c,e⟩:=L7 hT w;have b:(Instr.alloc id true (.tuple #[])).run P w=.ok (.pointer (some ⟨w.heap.size,0,none⟩)) (w.alloc (.cells ti.ty.zero.toArray id)):=by
  simp[Instr.alloc,c,newVar,newRow,e]
 unfold KT at h;split at h<;>first|(cases h;done)|skip
 all_goals
  rename_i a;cases a;cases h;refine⟨_,_,_,b,QS.box hf ?_ ?_⟩
 ·simp
 ·exact A1A _ _
 ·simp
 ·exact⟨_,[],by simp[Ty.zero],LU _ _,rfl⟩
 ·simp
 ·exact⟨_,[],by simp[Ty.zero],LU _ _,rfl⟩
 ·simp
 ·exact⟨_,[],by simp[Ty.zero],LU _ _,rfl⟩
 ·simp
 ·exact⟨_,[],by simp[Ty.zero],LU _ _,rfl⟩
 ·simp
 ·exact⟨_,[],by simp[Ty.zero],LU _ _,rfl⟩
theorem Ny {V:Vw} {ty:Ty} {x:AV} {v:Value} (j:B7 V x v) (hf:Ca ty x=true) (hs:ty.cell1=true):v.oneCell'=true:=by
 cases x;case p t d =>
  simp only[Ca,Fe]at hf;subst hf;obtain⟨cs,o,rfl⟩:=j;cases ty;case agg t=>simp[Ty.cell1]at hs
  case prod a b=>simp[Ty.cell1]at hs
  case slice e=>obtain⟨a,c,rfl,_⟩:=o;rfl
  case int k=>obtain⟨rfl,h⟩:=o;rfl
  case bool=>have o:cs=_:=o;subst o;rfl
  case str=>obtain⟨rfl,h⟩:=o;rfl
  case ref k =>
   have o:cs=[Ln k]:=o;subst o;match k with
   | 0=>rfl
   | 1=>rfl
   | _+2=>rfl
 case ag l=>cases ty<;>simp[Ca]at hf<;>simp[Ty.cell1]at hs
 case tup l=>simp[Ca]at hf
 case raw u =>
  have j:v=u:=j;subst j;simp only[Ca,AT]at hf;exact hf.1
 case sr n e lo hi=>obtain⟨_,_,_,_,_,_,_,r,s,rfl,_⟩:=j;rfl
 case ep n e i q off=>obtain⟨_,g,m,c,_,_,rfl⟩:=j;rfl
 case nin n e i len=>obtain⟨_,_,_,_,_,_,_,_,rfl⟩:=j;rfl
 case pc e d=>obtain⟨_,a,rfl⟩:=j;rfl
 case ip t d=>obtain⟨ad,cs,rfl,_⟩:=j;rfl
 case bp n q off=>obtain⟨_,b,_,rfl⟩:=j;rfl
 case fn f=>have j:v=_:=j;subst j;rfl
 case clo f ns=>obtain⟨rfl,_⟩:=j;rfl
 case mp n=>obtain⟨_,b,_,rfl⟩:=j;rfl
 case yl n=>obtain⟨_,b,_,rfl⟩:=j;rfl
 case top=>simp[Ca]at hf
end
end
section
open Go Go.RowKit
section
variable {P:Program} {tb:Tb} {id:TypeId} {ti:TI} {w:World} {O0:Nat->Prop} {σ:St} {ρ:Nat->Value} {vc:Prop} {v:AV} {obs:List (Nat×Obj)}
theorem VV {t:Ty} {w:World} {O:Nat->Prop} {cs:List Value} {d:t.den} (h:B0 w O t cs d):(t.wrap cs).cells=cs.toArray:=by
 cases t;case agg t=>rfl
 case prod a b=>rfl
 case slice e=>obtain⟨a,c,rfl,_⟩:=h;rfl
 case int k=>obtain⟨rfl,_⟩:=h;rfl
 case bool=>have h:cs=_:=h;subst h;rfl
 case str=>obtain⟨rfl,_⟩:=h;rfl
 case ref k =>
  have h:cs=[Ln k]:=h;subst h;match k with
  | 0=>rfl
  | 1=>rfl
  | _+2=>rfl
theorem A51 {V:Vw} {x:AV} {v:Value} (j:B7 V x v) (hf:Ik x=true):Nm V x v.cells.toList/\v.cells.size=x.cells:=by
 have simple:∀ {y:AV},VL V y v->v.oneCell'=true->(∀t d,y≠.p t d)->Nm V y v.cells.toList:=by
  intro y r h hp;have l:v.cells=#[v]:=by cases v<;>first|rfl|simp[Value.oneCell']at h
  rw[l];cases y;case p t d=>exact absurd rfl (hp t d)
  all_goals exact⟨v,rfl,h,r⟩
 have k:v.oneCell'=true->v.cells.size=1:=by
  intro h;have l:v.cells=#[v]:=by cases v<;>first|rfl|simp[Value.oneCell']at h
  rw[l];rfl
 cases x;case p t d =>
  obtain⟨cs,o,rfl⟩:=j;rw[VV o];exact⟨o,by simpa[AV.cells] using o.length⟩
 case raw u =>
  have q:v=u:=j;have h:v.oneCell'=true:=by rw[q];exact hf
  exact⟨simple j h (λ_ _=>by simp),k h⟩
 case sr n e lo hi =>
  have h:v.oneCell'=true:=by obtain⟨_,_,_,_,_,_,_,w,z,rfl,_⟩:=j;rfl
  exact⟨simple j h (λ_ _=>by simp),k h⟩
 case ep n e i s off =>
  have h:v.oneCell'=true:=by obtain⟨_,g,m,c,_,_,rfl⟩:=j;rfl
  exact⟨simple j h (λ_ _=>by simp),k h⟩
 case nin n e i len =>
  have h:v.oneCell'=true:=by obtain⟨_,_,_,_,_,_,_,_,rfl⟩:=j;rfl
  exact⟨simple j h (λ_ _=>by simp),k h⟩
 case ip t d =>
  have h:v.oneCell'=true:=by obtain⟨ad,cs,rfl,_⟩:=j;rfl
  exact⟨simple j h (λ_ _=>by simp),k h⟩
 case bp n s off =>
  have h:v.oneCell'=true:=by obtain⟨_,b,_,rfl⟩:=j;rfl
  exact⟨simple j h (λ_ _=>by simp),k h⟩
 case pc e d =>
  have h:v.oneCell'=true:=by obtain⟨_,a,rfl⟩:=j;rfl
  exact⟨simple j h (λ_ _=>by simp),k h⟩
 case clo f ns =>
  have h:v.oneCell'=true:=by obtain⟨rfl,_⟩:=j;rfl
  exact⟨simple j h (λ_ _=>by simp),k h⟩
 case mp n =>
  have h:v.oneCell'=true:=by obtain⟨_,b,_,rfl⟩:=j;rfl
  exact⟨simple j h (λ_ _=>by simp),k h⟩
 case yl n =>
  have h:v.oneCell'=true:=by obtain⟨_,b,_,rfl⟩:=j;rfl
  exact⟨simple j h (λ_ _=>by simp),k h⟩
 case fn f =>
  have h:v.oneCell'=true:=by have j:v=_:=j;subst j;rfl
  exact⟨simple j h (λ_ _=>by simp),k h⟩
 all_goals simp[Ik]at hf
theorem AAm (hT:EH P tb id ti) {d:Nat} {x:AV} {xv:Value} (h:Tj d id (some ti) (some x)=some (vc,v,obs)) (i:B7 (vw w O0 σ ρ) x xv) (hf:Bi obs σ=true) :
    ∃u ρ' w',(Instr.box id xv).run P w=.ok u w'/\QS w O0 σ ρ v obs u ρ' w':=by
  have g:(Instr.box id xv).run P w=.ok (.pointer (some ⟨w.heap.size,0,none⟩)) (w.alloc (.cells xv.cells id)):=by
    simp[Instr.box,newVar,newRow]
  have simple:∀ty:Ty,Ca ty x=true->ty.cell1=true->(∀l,x≠.ag l)->Dn (vw w O0 σ ρ) [x] xv.cells.toList:=by
    intro ty f q n;obtain⟨h1,m⟩:=A1t i f (Ny i f);exact⟨_,[],by simp,m n,rfl⟩
  have p:xv.cells=xv.cells.toList.toArray:=by simp
  rw[p]at g;unfold Tj at h;split at h
  · rename_i u offs el b r k c a
    cases c;cases a;split at h
    · rename_i hu
      subst hu;cases h;obtain⟨cs,j,rfl⟩:=i;have j:B0 w (own O0 σ ρ) u cs k:=j;refine⟨_,_,_,g,QS.box hf (by simp) ?_⟩;simp only[Ty.wrap,Value.cells];exact A1B _ _ _ _ j
    · cases h
  · rename_i u offs el b l c a
    cases c;cases a;split at h
    · cases h
      obtain⟨cs,rfl,o⟩:=i;refine⟨_,_,_,g,QS.box hf (by simp) ?_⟩;simp only[Value.cells];exact o
    · cases h
  all_goals first
    | (cases h;done)
    | (rename_i c a
       cases c;injection a with a
       subst a;split at h
       · rename_i f
         cases h;exact⟨_,_,_,g,QS.box hf (by simp) (simple _ f rfl (λl e=>by subst e;simp[Ca]at f))⟩
       · cases h)
theorem fA (off:Nat):∀(a:List Value) (k:Nat) (cells:Array Value),off+k+a.length<=cells.size ->
  ((a.zipIdx k).foldl (λ(cs:Array Value) (p:Value×Nat)=>cs.setIfInBounds (off+p.2) p.1) cells).toList=A3 cells.toList (off+k) a
 | [],k,cells,_=>by simp[A3]
 | v :: a,k,cells,h=>by
  simp only[OS]at h;simp only[List.zipIdx_cons,OR];rw[fA off a (k+1) _ (by simp;omega)];simp only[A3,Array.toList_setIfInBounds,OS];apply AEV;intro j;have b:cells.toList.length=cells.size:=by simp
  simp only[UN,AAe,ON,YG,b,US,ADg,ADz,OS];grind
theorem Pm {place:Nat->Option (Nat×Nat)} {cells:Array Value} {i off:Nat} {v:Value} {rest:List (Nat×Value)} (hp:place i=some (off,v.cells.size)) (a:off+v.cells.size<=cells.size) :
  Instr.fill place cells ((i,v) :: rest)=Instr.fill place (A3 cells.toList off v.cells.toList).toArray rest:=by
 have h1:¬(off+v.cells.size > cells.size):=by omega
 simp only[Instr.fill,hp];rw[An (by simp;omega)]
 congr 1
 have:=fA off v.cells.toList 0 cells (by simpa using a);apply Array.ext';rw[show v.cells.zipIdx.foldl (λcs x=>cs.setIfInBounds (off+x.2) x.1) cells=(v.cells.toList.zipIdx 0).foldl (λcs x=>cs.setIfInBounds (off+x.2) x.1) cells from by
  rw[<-Array.foldl_toList];simp]
 simpa using this
def GZ (V:Vw) (σ:St) (ev:Operand->Value):Prop:=∀x v,Ak σ x=some v->B7 V v (ev x)
theorem yU {V:Vw} (e:∀n o,lk n σ.objs=some o->A8 V o (V.ρ n)) {z x:Option AV} {y:AV} {v:Value} (b:∀a,x=some a->B7 V a v) (h:F3 σ z x=some y):B7 V y v:=by
 unfold F3 at h;split at h
 ·rename_i t _ l;simp only[If]at h;obtain⟨d,c,rfl⟩:=h;exact Iu (V:=V) (O':=V.O) (λ_ h=>h) (λh=>by cases h) e c (b _ rfl)
 ·exact b _ h
theorem Oa {V:Vw} (f:∀n o,lk n σ.objs=some o->A8 V o (V.ρ n)) {ev:Operand->Value} (e:GZ V σ ev) {place:Nat->Option (Nat×Nat)} {offs:List (Nat×Nat)} (j:∀i p,offs[i]?=some p->place i=some p) :
  ∀ {parts:List (Nat×Operand)} {fs b:List AV} {cells:Array Value},Dy σ offs fs parts=some b->Dn V fs cells.toList ->
   ∃cells':Array Value,Instr.fill place cells (parts.map λp=>(p.1,ev p.2))=some cells'/\Dn V b cells'.toList
 | [],fs,b,cells,h,c=>by
  simp only[Dy]at h;cases h;exact⟨cells,rfl,c⟩
 | (i,x) :: r,fs,b,cells,h,c=>by
  simp only[Dy]at h;cases d:F3 σ fs[i]? (Ak σ x) with
  | none=>rw[d]at h;cases h
  | some av =>
   rw[d]at h;simp only at h;split at h
   ·rename_i l;obtain⟨h0,h1,m⟩:=l;have z:=yU f (λa ha=>e x a ha) d;obtain⟨q,s⟩:=A51 z h0;simp only[If]at h1;obtain⟨B,g,v⟩:=h1;obtain⟨A,_⟩:=c.get g;have y:=c.set g q v.symm;have k:=j i _ m;rw[<-s]at k;have w:CL fs i+(ev x).cells.size<=cells.size:=by grind
    obtain⟨cells',t,u⟩:=Oa f e j h (cells:=(A3 cells.toList (CL fs i) (ev x).cells.toList).toArray) (by simpa using y);refine⟨cells',?_,u⟩;rw[UQ,Pm k w];exact t
   ·cases h
theorem fB {α a:Type} (f:α->Sem a) (w:World):∀ {l:List α} {ys:List a},(l.map λx=>(f x).run P w)=ys.map (λy=>Result.ok y w)->(l.mapM f).run P w=.ok ys w
 | [],ys,h=>by simp_all
 | x :: l,ys,h=>by
  cases ys with
  | nil=>simp at h
  | cons y ys =>
   simp only[UQ,AEj]at h;obtain⟨h1,b⟩:=h;have c:=fB f w b;simp[List.mapM_cons,h1,c]
theorem A52 (hT:EH P tb id ti) (m:∀n o,lk n σ.objs=some o->A8 (vw w O0 σ ρ) o (ρ n)) {ev:Operand->Value} (l:GZ (vw w O0 σ ρ) σ ev) {parts:List (Nat×Operand)} (h:JS σ parts (some ti)=some (vc,v,obs)) :
  obs=[]/\∃u,(Instr.build id (parts.map λp=>(p.1,ev p.2)).toArray).run P w=.ok u w/\B7 (vw w O0 σ ρ) v u:=by
 obtain⟨z,q,A⟩:=L7 hT w;unfold JS at h;split at h
 ·rename_i u offs el b s;cases s;cases hp:Dy σ offs (yR u) parts with
  | none=>rw[hp]at h;simp[Gt]at h
  | some B =>
   rw[hp]at h;simp only[AEg,Gt]at h;cases h;have a:=hT.2;have r:Dn (vw w O0 σ ρ) (yR u) z.cells.toList:=by rw[A];exact A1A _ u
   simp only at a;rcases a with ⟨fs,_,hu,g⟩|⟨n,e,i,_,hu,hi,g⟩
   ·have j:∀(i:Nat) (p:Nat×Nat),offs[i]?=some p->offs.toArray[i]?=some p:=λi p hh=>by simpa using hh
    obtain⟨cells',c,d⟩:=Oa m l (place:=λi=>offs.toArray[i]?) j hp r;have x:(fs.mapM (λf=>do pure (f.offset,<-sizeOf f.type)):Sem (Array (Nat×Nat))).run P w=.ok offs.toArray w:=by
     rw[AEv];simp only[Sem.run_map];rw[fB (ys:=offs) _ w ?_]
     ·simp
     ·rw [show (offs.map λy => Result.ok y w) = (offs.map some).map (λo => match o with | some y => Result.ok y w | none => .halt (.stuck "no such type") w) by simp [AAc, Function.comp_def], g, AAc]
      apply UI;intro f _;simp only[Function.comp,sizeOf,typeInfo];cases hi:P.info? f.type<;>simp[hi]
    refine⟨rfl,.agg cells',?_,cells'.toList,by simp,d⟩;simp only[Instr.build,ADA,q,aS,UH hu,x,c,AEr]
   ·have j:∀(k:Nat) (p:Nat×Nat),offs[k]?=some p->(λk=>some (k*i.size,i.size)) k=some p:=λk p hh=>by
     rw[g]at hh;simp only[iS,If]at hh;obtain⟨C,t,rfl⟩:=hh;obtain⟨h1,a⟩:=UC.1 t;simp only[AEp]at a;subst a;rfl
    obtain⟨cells',c,d⟩:=Oa m l j hp r;refine⟨rfl,.agg cells',?_,cells'.toList,by simp,d⟩;simp[Instr.build,q,UH hu,sizeOf,L6 w hi,c]
 ·cases h
end
end
section
open Go Go.RowKit
section
variable {P:Program} {tb:Tb} {id:TypeId} {ti:TI} {w:World} {O0:Nat->Prop} {σ:St} {ρ:Nat->Value} {vc:Prop} {v:AV} {obs:List (Nat×Obj)}
theorem Yg {t:Ty} {w:World} {O:Nat->Prop} {v:Value} {d:t.den} (h:Bl w O t v d):v.cells.size=t.size/\B0 w O t v.cells.toList d:=by
 obtain⟨cs,a,rfl⟩:=h;rw[VV a];exact⟨by simpa using a.length,a⟩
theorem He (w:World) (O:Nat->Prop) (e:Ty) (cells:List Value):Dx w O e cells []:=λi x h=>by simp at h
theorem fC {V:Vw} (v:∀n o,lk n σ.objs=some o->A8 V o (V.ρ n)) {ev:Operand->Value} (s:GZ V σ ev) {e:Ty} {N:Nat} :
  ∀ {parts:List (Nat×Operand)} {k:Nat} {xs pre:List e.den} {cells:Array Value},FD σ e k parts=some xs->cells.size=N*e.size->k+xs.length<=N->pre.length=k ->
   Dx V.w V.O e cells.toList pre ->
   ∃cells':Array Value,Instr.fill (λi=>some (i*e.size,e.size)) cells (parts.map λp=>(p.1,ev p.2))=some cells'/\cells'.size=cells.size/\Dx V.w V.O e cells'.toList (pre++xs)
 | [],k,xs,pre,cells,h,hs,hk,hp,l=>by
  simp only[FD]at h;cases h;exact⟨cells,rfl,rfl,by simpa using l⟩
 | (i,x) :: r,k,xs,pre,cells,h,hs,hk,hp,l=>by
  simp only[FD]at h;split at h
  ·rename_i E;subst E;cases m:Ak σ x with
   | none=>rw[m]at h;cases h
   | some av =>
    rw[m]at h;simp only at h;split at h
    ·rename_i y ys L M;cases h;have K:=Iu (O':=V.O) (λ_ h=>h) (λh=>by cases h) v L (s x av m);obtain⟨h1,C⟩:=Yg K;simp only[OS]at hk;have d:i*e.size+(ev x).cells.size<=cells.size:=by
      rw[h1,hs,<-ADU];exact UP _ (by omega)
     have A:(A3 cells.toList (i*e.size) (ev x).cells.toList).length=cells.size:=by
      rw[FL]
      ·simp
      ·simpa using d
     have I:Dx V.w V.O e (A3 cells.toList (i*e.size) (ev x).cells.toList) (pre++[y]):=by
      intro j z a;rw[AAe]at a;split at a
      ·rename_i F;obtain⟨B,c,f,g⟩:=l j z a;refine⟨B,c,λq u b=>?_,g⟩;have J:q<e.size:=by rw[<-c];exact(UC.1 b).1
       have H:j*e.size+q<i*e.size:=by
        have:(j+1)*e.size<=i*e.size:=UP _ (by omega);rw[ADU]at this;omega
       have D:i*e.size<=cells.toList.length:=by
        have:=d;simp;omega
       simp only[A3,UN];rw[UR (by rw[ON];omega),US,BY H];exact f q u b
      ·rename_i F;have G:j=i:=by
        have:=(UC.1 a).1;simp at this;omega
       subst G;have P:z=y:=by
        rw[hp,AE3]at a;simpa using a.symm
       subst P;refine⟨(ev x).cells.toList,by simpa using h1,λq u b=>?_,C⟩;have J:q<(ev x).cells.toList.length:=(UC.1 b).1;have D:j*e.size<=cells.toList.length:=by
        have:=d;simp;omega
       have t:(cells.toList.take (j*e.size)).length=j*e.size:=by rw[ON];omega
       simp only[A3,UN];rw[UT (by rw[t];omega),t,UR (by omega)];rw[show j*e.size+q-j*e.size=q by omega];exact b
     obtain⟨cells',c,f,g⟩:=fC (N:=N) v s M (pre:=pre++[y]) (cells:=(A3 cells.toList (i*e.size) (ev x).cells.toList).toArray) (by simp[A,hs]) (by omega) (by simp[hp]) (by simpa using I);refine⟨cells',?_,by rw[f];simp[A],by simpa using g⟩;rw[UQ,Pm (by rw[h1]) d];exact c
    ·cases h
  ·cases h
theorem UX {w:World} {et:TypeId} {sz n:Nat} {cells:Array Value} (hs:cells.size=n*sz) (hn:n<=AP) :
  (w.alloc (.cells cells et)).ownsRow w.heap.size et sz (.slice (some ⟨w.heap.size,0,none⟩) n n) n cells.toList :=
 ⟨by simpa using hs,.inr ⟨w.heap.size,n,cells,rfl,NO _,heap_alloc_new w _,NO _,by have h1:AP=140737488355328:=rfl;have a:maxLen=9223372036854775807:=rfl;omega,hs,As (by simp[hs])⟩⟩
theorem Pn (hT:EH P tb id ti) (c:DH P tb) (m:∀n o,lk n σ.objs=some o->A8 (vw w O0 σ ρ) o (ρ n)) {ev:Operand->Value} (l:GZ (vw w O0 σ ρ) σ ev) {d n:Nat} {parts:List (Nat×Operand)}
  (h:Bh false σ d n parts (some ti)=some (vc,v,obs)) (t:vc) (hf:Bi obs σ=true) :
  ∃u ρ' w',(Instr.buildSlice id n (parts.map λp=>(p.1,ev p.2)).toArray).run P w=.ok u w'/\QS w O0 σ ρ v obs u ρ' w':=by
 unfold Bh at h;split at h
 ·rename_i e offs el b k;cases k;obtain⟨hu,hs,te,s,rfl⟩:=CM hT c;obtain⟨z,x,A⟩:=L7 (c _ _ s) w;cases hp:FD σ te.ty 0 parts with
  | none=>rw[hp]at h;simp[Bp]at h
  | some xs =>
   rw[hp]at h;simp only[Bp,ADB,AE4]at h;cases h;obtain⟨hn,y⟩:=t;subst hn;have q:=te.ty.size_pos;obtain⟨cells',h1,j,a⟩:=fC (V:=vw w O0 σ ρ) m l hp (N:=xs.length) (pre:=[]) (cells:=(Array.range (xs.length*te.ty.size)).map (λi=>(if xs.length*te.ty.size=0 then (#[]:Array Value) else z.cells)[i % (if xs.length*te.ty.size=0 then (#[]:Array Value) else z.cells).size]!)) (by simp) (by omega) rfl (He _ _ _ _);have g:xs.length<=AP:=by
    have:xs.length*1<=xs.length*te.ty.size:=AEh _ q;simp only[AP];omega
   have r:cells'.size=xs.length*te.ty.size:=by rw[j];simp
   refine⟨_,_,_,?_,QS.arr hf (Fj w _) (UX (et:=el) r g) g (by rw[AE0]at a;exact a) rfl⟩;have f:¬(xs.length*te.ty.size > 16777216):=by omega
   by_cases h0:xs.length*te.ty.size=0
   ·simp only[h0,AD1]at h1;simp[Instr.buildSlice,UH hu,hs,f,h0,newRow];simp at h1;simp[h1]
   ·simp only[h0,AE4]at h1;simp only[Instr.buildSlice,ADA,UH hu,aS,hs,An f,An h0,x,AEr,h1,newRow];rfl
 ·cases h
theorem A8V (hT:EH P tb id ti) (I:DH P tb) (af:∀n o,lk n σ.objs=some o->A8 (vw w O0 σ ρ) o (ρ n)) {ev:Operand->Value} (Y:GZ (vw w O0 σ ρ) σ ev) {d n:Nat} {A:TypeId} {parts:List (Nat×Operand)}
  (h:JU σ d A n parts (some ti)=some (vc,v,obs)) (D:vc) (hf:Bi obs σ=true) :
  ∃u ρ' w',(Instr.buildSlice id n (parts.map λp=>(p.1,ev p.2)).toArray).run P w=.ok u w'/\QS w O0 σ ρ v obs u ρ' w':=by
 unfold JU at h;split at h
 ·rename_i x t offs el b W;cases W;obtain⟨hu,hs,te,ai,rfl⟩:=CM hT I;obtain⟨z,ak,ap⟩:=L7 (I _ _ ai) w;cases H:Ak σ x with
  | none=>rw[H]at h;unfold JT at h;split at h<;>first|(cases h;done)|(rename_i E;cases E)
  | some av =>
   rw[H]at h;unfold JT at h;split at h
   ·rename_i k e Q ar aj T;cases T;have key:∀(c:k.den) (c1:List Value) (a:Option Addr),Nm (vw w O0 σ ρ) Q c1->Eh false σ k Q=some c->ev x=.agg (c1++[Value.slice a 0 0]).toArray->n=1/\k.size+1<=16777216->Bi [(d,Obj.nest el A k e [(c,[])] none)] σ=true ->
      ∃u ρ' w',(Instr.buildSlice id n ([(0,x)].map λp=>(p.1,ev p.2)).toArray).run P w=.ok u w'/\QS w O0 σ ρ (.sr d (.agg (.prod k (.slice e))) 0 1) [(d,.nest el A k e [(c,[])] none)] u ρ' w':=by
     intro c c1 a h1 s B ab hf;obtain⟨rfl,an⟩:=ab;have aa:Lay (.slice none 0 0) (.slice a 0 0):=.inr ⟨rfl,a,rfl⟩;have C:=eQ (O':=own O0 σ ρ) (λ_ h=>h) (λh=>by cases h) af s h1;have C:B0 w (own O0 σ ρ) k c1 c:=C;have G:=C.length;have ah:te.ty.size=k.size+1:=by rw[aj];rfl
     rw[ah]at hs;have J:(ev x).cells.toList=c1++[Value.slice a 0 0]:=by rw[B];simp[Value.cells]
     have ag:Instr.fill (λi=>some (i*(k.size+1),k.size+1)) ((Array.range (1*(k.size+1))).map (λi=>z.cells[i % z.cells.size]!)) [(0,ev x)]=some (c1++[Value.slice a 0 0]).toArray:=by
      have K:(ev x).cells.size=k.size+1:=by rw[<-AEL,J];simp[G]
      rw[Pm (by rw[K]) (by rw[K];simp)];rw[J];simp only[Instr.fill,AFb,A3,ADf,AE0,ADK];rw[List.drop_of_length_le (by simp[G]),UO]
     generalize M:(Value.tuple #[Value.slice (some ⟨w.heap.size,0,none⟩) 1 1,.slice none 0 0])=loc;have ad:∀b,bk loc b->w.heap.size<=b:=by grind [A9,blk]
     have y:=UX (w:=w) (et:=el) (sz:=k.size+1) (n:=1) (cells:=(c1++[Value.slice a 0 0]).toArray) (by simp[G]) (by simp[AP]);have y:(w.alloc (.cells (c1++[Value.slice a 0 0]).toArray el)).ownsRow 0 el (k.size+1) (.slice (some ⟨w.heap.size,0,none⟩) 1 1) 1 (c1++[Value.slice a 0 0]):=⟨y.1,y.2.imp (λh=>h) λ⟨g,cap,S,e,_,r⟩=>⟨g,cap,S,e,IS _,r⟩⟩;have hk:=Ho (O0:=O0) (ρ:=ρ) (ρ':=Ei ρ d loc) hf (Fj w (.cells (c1++[Value.slice a 0 0]).toArray el)) (λm q=>by
      simp only[lk]at q;split at q
      ·cases q
      ·rename_i e;simp[Ei,e]) (λm o b q U=>by
      simp only[lk]at q;split at q
      ·grind [Bn]
      ·cases q)
     refine⟨.slice (some ⟨w.heap.size,0,none⟩) 1 1,Ei ρ d loc,w.alloc (.cells (c1++[Value.slice a 0 0]).toArray el),?_,QS.one (Fj w _) ad ?_ ?_⟩
     ·have ae:¬(1*(k.size+1) > 16777216):=by omega
      have h0:¬(1*(k.size+1)=0):=by omega
      simp only[Instr.buildSlice,ADA,UH hu,aS,hs,An ae,An h0,ak,AEr,UQ,AEW,ag,newRow];rfl
     ·refine⟨⟨.nest el A k e [(c,[])] none,by simp[EZ,lk]⟩,?_⟩;show DG (plc (Ei ρ d loc d)) _ 0 1 _;rw[Bn,<-M];exact Fi y
     ·refine⟨_,[.slice none 0 0],c1++[Value.slice a 0 0],.inl M.symm,by simp[AP],rfl,y,λi aq u hi hu=>?_,λi j b u v hi L hu ao=>?_,λi b u hi U _=>?_⟩
      ·rcases i with _|i
       ·simp only[AE1,tO]at hi hu;subst hi hu;refine⟨c1,.slice a 0 0,λj z L=>by simpa using L,C.mono hk.O hk.heap,.inr ⟨rfl,aa,by simp[AP],[],AEy _ 0 A _,He _ _ _ _⟩⟩
       ·simp at hi
      ·grind
      ·grind [blk]
    unfold KU at h;obtain⟨cs,B,V⟩:=Y x _ H;obtain⟨c1,c2,rfl,h1,E⟩:=V;obtain⟨al,R,rfl,f,F⟩:=E;have F:R=[]:=F;subst F;split at h
    ·rename_i c s;cases h;obtain⟨N,rfl,_,f⟩:=f;have f:N=.slice none 0 0:=f;subst f;exact key c c1 none h1 s (by rw[B];simp) D hf
    ·rename_i c am l s;split at h
     ·rename_i X;subst X;cases h;obtain⟨N,rfl,_,_,a,f⟩:=f;obtain⟨D,Z⟩:=D;rw[Z]at f;subst f;exact key c c1 a h1 s (by rw[B];simp) D hf
     ·cases h
    ·cases h
   ·cases h
 ·cases h
theorem YR (z:List Value) (f:0<z.length) (n:Nat) {i j:Nat} (b:j<z.length) (hi:i*z.length+j<n) {u:Value} (hu:z[j]?=some u) :
  (madeCells z.toArray n)[i*z.length+j]?=some u:=by
 simp only[madeCells,Array.getElem?_map,List.size_toArray];have e:(Array.range n)[i*z.length+j]?=some (i*z.length+j):=by grind
 rw[e];have d:(i*z.length+j) % z.length=j:=by
  rw[Nat.mul_comm,Nat.mul_add_mod];exact Nat.mod_eq_of_lt b
 simp only[AEg,d];have c:=(UC.1 hu);obtain⟨h1,a⟩:=c;simp[h1,a]
theorem A53 (hT:EH P tb id ti) (f:DH P tb) {e:Ty} {offs:List (Nat×Nat)} {el:TypeId} {b:Nat} (y:ti=⟨.slice e,offs,el,b⟩) {te:TI} (l:lk el tb.ty=some te) {n:Int} {d:Nat}
  (h0:0<=n) (hn:n.toNat*te.bytes<=AP) (hf:Bi [(d,.arr el e (List.replicate n.toNat e.dflt))] σ=true) :
  ∃u ρ' w',(Instr.makeSlice id (.int .i64 n) (.int .i64 n)).run P w=.ok u w'/\QS w O0 σ ρ (.sr d e 0 n.toNat) [(d,.arr el e (List.replicate n.toNat e.dflt))] u ρ' w':=by
 subst y;obtain⟨hu,hs,G,m,rfl⟩:=CM hT f;rw[l]at m;cases m;obtain⟨⟨⟨_,p,_⟩,i,z,hi,k,E,C,D⟩,_⟩:=f _ _ l;have F:=te.ty.size_pos;have a:n.toNat<=AP:=by
  have:n.toNat*1<=n.toNat*te.bytes:=AEh _ p;omega
 have o:(i.bytes:Int)*n<=281474976710656:=by grind [AP]
 have v:=run_make (P:=P) w id el i z hu hi C .i64 .i64 n n h0 (AEu _) o (by simp only[AP]at a;omega);have c:te.ty.zero.length=te.ty.size:=(B0.zero w (λ_=>False) te.ty).length;refine⟨_,_,_,v,QS.arr hf (Fj w _) (UX (et:=el) (sz:=te.ty.size) (n:=n.toNat) (cells:=madeCells z.cells (n.toNat*i.size)) (by rw[size_madeCells,k]) a |> λh=>by simpa using h) (by simpa using a) ?_ (by simp)⟩;intro j x A;have r:=(UC.1 A).1;simp only[AEX]at r;have B:x=te.ty.dflt:=by grind
 subst B;refine⟨te.ty.zero,c,λq u g=>?_,B0.zero _ _ _⟩;have t:=(UC.1 g).1;have s:j*te.ty.zero.length+q<n.toNat*i.size:=by
  rw[k,c];have:(j+1)*te.ty.size<=n.toNat*te.ty.size:=UP _ (by omega);rw[ADU]at this;omega
 have:=YR te.ty.zero (by omega) (n.toNat*i.size) t s g;rw[c]at this;rw[D];simpa using this
theorem A8W (hT:EH P tb id ti) (i:DH P tb) {d:Nat} {x y:AV} {xv c:Value} (h:Iq tb d (some ti) (some x) (some y)=some (vc,v,obs)) (o:vc)
  (p:B7 (vw w O0 σ ρ) x xv) (q:B7 (vw w O0 σ ρ) y c) (hf:Bi obs σ=true) :
  ∃u ρ' w',(Instr.makeSlice id xv c).run P w=.ok u w'/\QS w O0 σ ρ v obs u ρ' w':=by
 unfold Iq at h;split at h
 ·rename_i e offs el b n m j k l;cases j;cases k;cases l;cases a:lk el tb.ty with
  | none=>rw[a]at h;simp[Lv]at h
  | some te =>
   rw[a]at h;simp only[Lv]at h;cases h;obtain⟨rfl,_⟩:=BR p;obtain⟨rfl,_⟩:=BR q;obtain⟨h1,f,g⟩:=o;have h1:n=m:=h1;subst h1;exact A53 hT i rfl a f g hf
 ·cases h
end
end
section
open Go Go.RowKit
theorem Yh {w:World} {O:Nat->Prop} {e:Ty}:∀ {l:List e.den} {ad:Addr},
  (∀(i:Nat) (x:e.den),l[i]?=some x->∃b:List Value,b.length=e.size/\(∀(j:Nat) (v:Value),b[j]?=some v->w.cell? (ad.add (i*e.size+j))=some v)/\B0 w O e b x) ->
  ∃c:List Value,c.length=l.length*e.size/\Dx w O e c l/\(∀u∈c,u.oneCell'=true)/\(∀(j:Nat) (u:Value),c[j]?=some u->w.cell? (ad.add j)=some u)
 | [],ad,h=>⟨[],by simp,He _ _ _ _,by simp,by simp⟩
 | x :: l,ad,h=>by
  obtain⟨b,h1,q,m⟩:=h 0 x rfl;obtain⟨c,n,o,p,r⟩:=Yh (w:=w) (O:=O) (e:=e) (l:=l) (ad:=ad.add e.size) (λi y hi=>by
   obtain⟨d,f,g,k⟩:=h (i+1) y (by simpa using hi);refine⟨d,f,λj v a=>?_,k⟩;rw[DV,show e.size+(i*e.size+j)=(i+1)*e.size+j by rw[ADU];omega];exact g j v a)
  refine⟨b++c,by simp[h1,n,ADU];omega,λi y hi=>?_,λu hu=>?_,λj u a=>?_⟩
  ·cases i with
   | zero =>
    simp at hi;subst hi;refine⟨b,h1,λj u a=>?_,m⟩;rw[AFb,ADK,UR (UC.1 a).1];exact a
   | succ i =>
    obtain⟨d,f,g,k⟩:=o i y (by simpa using hi);refine⟨d,f,λj u a=>?_,k⟩;rw[UT (by rw[h1,ADU];omega),h1,show (i+1)*e.size+j-e.size=i*e.size+j by rw[ADU];omega];exact g j u a
  ·rcases No.1 hu with hu|hu
   ·exact m.one u hu
   ·exact p u hu
  ·grind [DV]
section
variable {P:Program} {tb:Tb} {id:TypeId} {ti:TI} {w:World} {O0:Nat->Prop} {σ:St} {ρ:Nat->Value} {vc:Prop} {v:AV} {obs:List (Nat×Obj)}
structure Src (w:World) (O:Nat->Prop) (e:Ty) (xv:Value) (ys:List e.den) (news:List Value):Prop where
 form:∃(a:Option Addr) (c:Nat),xv=.slice a ys.length c/\(ys=[]\/∃ad,a=some ad/\∀(j:Nat) (u:Value),news[j]?=some u->w.cell? (ad.add j)=some u)
 len:news.length=ys.length*e.size
 elems:Dx w O e news ys
 one:∀u∈news,u.oneCell'=true
 max:ys.length<=AP
theorem UY (w:World) (O:Nat->Prop) (e:Ty) (a:Option Addr) (c:Nat):Src w O e (.slice a 0 c) [] [] :=
 ⟨⟨a,c,rfl,.inl rfl⟩,by simp,He _ _ _ _,by simp,by simp[AP]⟩
theorem Yi {V:Vw} {et:TypeId} {e:Ty} {xs:List e.den} {loc:Value} {cells:List Value} (k:V.w.ownsRow 0 et e.size loc xs.length cells) (g:Dx V.w V.O e cells xs):∀u∈cells,u.oneCell'=true:=by
 intro u hu;obtain⟨j,h,i⟩:=AAd.1 hu;have l:=k.1;have c:=e.size_pos;have hi:j / e.size<xs.length:=by
  rw[Nat.div_lt_iff_lt_mul c];omega
 obtain⟨a,h1,d,f⟩:=g (j / e.size) (xs[j / e.size]) (At hi);have b:j % e.size<a.length:=by rw[h1];exact AFA _ c
 have:=d (j % e.size) (a[j % e.size]) (At b);rw[show j / e.size*e.size+j % e.size=j by rw[Nat.mul_comm];exact Nat.div_add_mod j e.size]at this;rw[At h]at this;injection this with this
 rw[<-i,this];exact f.one _ (nO b)
def noN (σ:St):AV->Bool
 | .sr n _ _ _=>Cs (lk n σ.objs)
 | _=>false
theorem pP {w:World} {O:Nat->Prop} {et:TypeId} {b:Ty} {xs:List b.den} {loc xv:Value} {cells:List Value} {lo hi:Nat} (P:xs.length<=AP) (f:w.ownsRow 0 et b.size loc xs.length cells) (n:Dx w O b cells xs) (F:DG loc b.size lo hi xv) :
  ∃H,Src w O b xv (sub xs lo hi) H:=by
 have S:=Yi (V:=⟨w,O,λ_=>False,λ_=>undef⟩) f n;obtain⟨a,m,c,q,M,o,k,l,rfl,I,h0,h1⟩:=F;have D:m=xs.length:=by
  rcases f.2 with ⟨d,E⟩|⟨g,cap,s,d,_⟩
  ·grind
  ·rw[q]at d;injection d
 subst D;have e:=OX xs (lo:=lo) o;by_cases B:lo<hi
 ·rcases f.2 with ⟨d,E⟩|⟨g,cap,s,d,r⟩
  ·omega
  ·have J:=World.ownsRow.cells f (g:=g) (by rw[d];rfl);have ha:a=some ⟨g,0,none⟩:=by rw[q]at d;injection d
   subst ha;have K:=f.1;have Q:hi*b.size<=xs.length*b.size:=UP _ o;have R:lo*b.size<=hi*b.size:=UP _ (by omega);refine⟨(cells.drop (lo*b.size)).take ((hi-lo)*b.size),⟨k,l,by rw[e],.inr ⟨_,h1 B,λj u h=>?_⟩⟩,?_,?_,?_,?_⟩
   ·grind [DV]
   ·rw[e,ON,YE,Nat.sub_mul];omega
   ·intro i x A;obtain⟨G,N⟩:=aX xs lo hi i A;obtain⟨t,v,y,z⟩:=n (lo+i) x G;refine⟨t,v,λj u h=>?_,z⟩;have L:=(UC.1 h).1;have C:i*b.size+j<(hi-lo)*b.size:=by
     have:(i+1)*b.size<=(hi-lo)*b.size:=UP _ (by omega);rw[ADU]at this;omega
    rw[US,BY C,ADg];have:=y j u h
    rwa [AET,AFo]at this
   ·grind
   ·rw[e];omega
 ·have p:sub xs lo hi=[]:=UL (by rw[e];omega);refine⟨[],⟨k,l,by rw[e],.inl p⟩,by rw[e,show hi-lo=0 by omega];simp,?_,by simp,by rw[e];omega⟩;rw[p];exact He _ _ _ _
theorem bC (q:∀n o,lk n σ.objs=some o->A8 (vw w O0 σ ρ) o (ρ n)) {e:Ty} {x:AV} {xv:Value} {ys:List e.den} (h:LQ true σ (.slice e) x=some ys) (F:noN σ x=false) (s:B7 (vw w O0 σ ρ) x xv) :
  ∃C,Src w (own O0 σ ρ) e xv ys C:=by
 replace h:Eh true σ (.slice e) x=some ys:=by
  unfold LQ at h;exact h
 cases x;case p u I =>
  have h:BW (.slice e) ⟨u,I⟩=some ys:=by simpa only[Eh] using h
  have:=BI h;injection this with h1 D
  subst h1;cases D;obtain⟨cs,⟨a,c,rfl,m,N,y⟩,rfl⟩:=s;by_cases hn:ys=[]
  ·subst hn;exact⟨[],UY _ _ _ _ _⟩
  ·rcases y with y|⟨ad,rfl,X,g⟩
   ·exact absurd y hn
   ·obtain⟨C,d,f,K,M⟩:=Yh g;exact⟨C,⟨some ad,c,rfl,.inr ⟨ad,rfl,M⟩⟩,d,f,K,N⟩
 case sr n J lo hi =>
  simp only[Eh]at h;split at h
  ·rename_i A;obtain⟨_,rfl⟩:=A;obtain⟨O,b⟩:=s;cases hn:lk n σ.objs with
   | none=>rw[hn]at h;simp[RW]at h
   | some o =>
    rw[hn]at h;cases o with
    | box et st fs=>simp[RW]at h
    | mapo k v l=>simp[RW]at h
    | frame ah fs=>simp[RW]at h
    | loop L=>simp[RW]at h
    | itr ab ag ae af aa=>simp[RW]at h
    | dfr=>simp[RW]at h
    | nest et V k t xs E=>rw[noN,hn]at F;cases F
    | arr et t xs =>
     simp only[RW]at h;obtain⟨d,f⟩:=Bq h;subst d;cases f;have b:DG (plc (ρ n)) t.size lo hi xv:=b;rw[Pj (q n _ hn)]at b;obtain⟨B,cells,j,g⟩:=q n _ hn;exact pP B j g b
  ·cases h
 case nin n J i len =>
  simp only[Eh]at h;split at h
  ·rename_i A;obtain⟨_,rfl⟩:=A;obtain⟨O,aj,a,c,H,G,r,R,Y⟩:=s;cases hn:lk n σ.objs with
   | none=>rw[hn]at h;simp[RZ]at h
   | some o =>
    rw[hn]at h;unfold RZ at h;split at h
    ·rename_i et V k t xs T;cases T;obtain⟨d,f⟩:=Bq h;subst d;cases f;have Q:=a9 (z:=(k.dflt,[])) (q n _ hn) G r;obtain⟨o,ins,cells,E,P⟩:=q n _ hn;obtain rfl:=E.tup G;have r:ins[i]?=some H:=by simpa using r
     obtain⟨c1,ai,h1,D,m⟩:=P.row i _ H Q r;rcases m with ⟨m,_⟩|⟨_,_,B,Z,j,g⟩
     ·cases m
     ·rcases R with rfl|⟨rfl,W,rfl⟩
      ·have:=pP B j g (Fi j)
       rwa [Ij]at this
      ·have S:=Kh j;have U:(xs.getD i (k.dflt,[])).2=[]:=UL S.symm;rw[U];exact⟨[],UY _ _ _ _ _⟩
    ·cases h
  ·cases h
 case raw u =>
  have b:xv=u:=s;subst b;cases xv with
  | slice a n c =>
   cases a with
   | some a=>simp[Eh]at h
   | none =>
    cases n with
    | succ n=>simp[Eh]at h
    | zero =>
     cases c with
     | succ c=>simp[Eh]at h
     | zero =>
      simp only[Eh]at h;cases h;exact⟨[],UY _ _ _ _ _⟩
  | _=>simp[Eh]at h
 all_goals simp[Eh]at h
theorem UZ (a:∀n o,lk n σ.objs=some o->A8 (vw w O0 σ ρ) o (ρ n)) {e:Ty} {x:AV} {xv:Value} {ys:List e.den} (h:PZ σ e x=some ys) (b:B7 (vw w O0 σ ρ) x xv) :
  ∃f,Src w (own O0 σ ρ) e xv ys f:=by
 unfold PZ at h;split at h
 ·split at h
  ·cases h
  ·rename_i c;exact bC a h (by simpa[noN] using c) b
 ·rename_i d;refine bC a h ?_ b;cases x<;>first|rfl|exact absurd rfl (d _ _ _ _)
theorem Sq {el:TypeId} (hu:P.underlying id=some (.slice el)) {sz:Nat} (hs:(sizeOf el).run P w=.ok sz w) {base et ty:Nat} {s:Value} {n:Nat} {xs:List Value} (b:w.ownsRow base et sz s n xs) (c:Nat) :
  (Builtin.append_ #[id,id] ty #[s,.slice none 0 c]).run P w=.ok s w:=by
 rcases b.2 with ⟨rfl,rfl⟩|⟨g,cap,d,rfl,_,_,a,_⟩
 ·simp[Builtin.append_,UH hu,hs,Builtin.lenOf,Builtin.firstCells]
 ·simp[Builtin.append_,UH hu,hs,Builtin.lenOf,Builtin.firstCells,a,storeCells]
theorem Ga (k:DH P tb) {el:TypeId} {e:Ty} (hu:P.underlying id=some (.slice el)) {te:TI} (q:lk el tb.ty=some te) (A:te.ty=e) {base ty:Nat} {s xv:Value} {n:Nat} {xs h:List Value}
    (g:w.ownsRow base el e.size s n xs) {O:Nat->Prop} {ys:List e.den} (D:Src w O e xv ys h) (r:(n+ys.length)*te.bytes<=AP) (l:base<=w.heap.size) :
    ∃b w',(Builtin.append_ #[id,id] ty #[s,xv]).run P w=.ok b w'/\w'.ownsRow base el e.size b (n+ys.length) (xs++h)/\w.grownBy w' s.ownBlock/\n+ys.length<=AP:=by
  subst A;obtain⟨⟨⟨_,x,_⟩,i,z,hi,p,m,t,u⟩,_⟩:=k _ _ q;have f:n+ys.length<=AP:=by
    have:(n+ys.length)*1<=(n+ys.length)*te.bytes:=AEh _ x;omega
  obtain⟨⟨a,c,rfl,v⟩,o,E,C,F⟩:=D;have hs:(sizeOf el).run P w=.ok te.ty.size w:=Hr w (k _ _ q);rcases v with rfl|⟨ad,rfl,y⟩
  · have B:h=[]:=UL (by simpa using o)
    subst B;cases a with
    | none =>
      refine⟨s,w,Sq hu hs g c,by simpa using g,⟨rfl,rfl,rfl,NO _,λ_ _ _=>rfl⟩,f⟩
    | some ad =>
      obtain⟨b,w',h1,d,j,_⟩:=run_append_own (P:=P) w base id ty el i z te.ty.size te.bytes hu hi t p m (by rw[u];simpa using (B0.zero w (λ_=>False) te.ty).length) te.ty.size_pos s n xs g ad 0 c [] (by simp) (by simp) (by simp)
        (by have h1:AP=140737488355328:=rfl;have d:maxLen=9223372036854775807:=rfl;simp at f;omega) (by simpa[AP] using r) l
      exact⟨b,w',h1,by simpa using d,j,f⟩
  · obtain ⟨b, w', h1, d, j, _⟩ := run_append_own (P := P) w base id ty el i z te.ty.size te.bytes hu hi t p m (by rw [u]; simpa using (B0.zero w (λ_ => False) te.ty).length) te.ty.size_pos s n xs g ad ys.length c h o y C
        (by have h1:AP=140737488355328:=rfl;have d:maxLen=9223372036854775807:=rfl;omega) (by simpa[AP] using r) l
    exact⟨b,w',h1,d,j,f⟩
theorem Kj {w:World} {O:Nat->Prop} {e:Ty} {c1 c2:List Value} {xs ys:List e.den} (h1:Dx w O e c1 xs) (f:Dx w O e c2 ys) (h:c1.length=xs.length*e.size):Dx w O e (c1++c2) (xs++ys):=by
 intro i x hi;rw[AAe]at hi;split at hi
 ·obtain⟨a,b,c,d⟩:=h1 i x hi;grind
 ·rename_i k;obtain⟨a,b,c,d⟩:=f _ x hi;refine⟨a,b,λj u g=>?_,d⟩;have l:xs.length*e.size<=i*e.size:=UP _ (by omega);rw[UT (by omega),h];have:=c j u g;rw[Nat.sub_mul]at this;rw[<-this]
  congr 1
  omega
theorem Sr (k:DH P tb) {el:TypeId} {e:Ty} (hu:P.underlying id=some (.slice el)) {te:TI} (m:lk el tb.ty=some te) (x:te.ty=e) {ty:Nat} {xv:Value} {O:Nat->Prop} {xs:List e.den} {a:Option Addr} {c:List Value}
  (hs:Src w O e (.slice a xs.length xs.length) xs c) {ys:List e.den} {d:List Value} (l:Src w O e xv ys d) (h0:0<ys.length) (n:(xs.length+ys.length)*te.bytes<=AP) :
  ∃b w',(Builtin.append_ #[id,id] ty #[.slice a xs.length xs.length,xv]).run P w=.ok b w'/\w'.ownsRow w.heap.size el e.size b (xs.length+ys.length) (c++d)/\w.grownBy w' none:=by
 subst x;have o:∀ad:Addr,a=some ad->(∀(j:Nat) (u:Value),c[j]?=some u->w.cell? (ad.add j)=some u)->∃b w',(Builtin.append_ #[id,id] ty #[.slice a xs.length xs.length,xv]).run P w=.ok b w'/\w'.ownsRow w.heap.size el te.ty.size b (xs.length+ys.length) (c++d)/\w.grownBy w' none:=by
  intro ad ha D;subst ha;obtain⟨⟨⟨_,s,_⟩,i,z,hi,E,t,F,G⟩,_⟩:=k _ _ m;obtain⟨⟨I,c2,rfl,f⟩,A,M,T,Q⟩:=l;have S:xs.length+ys.length<=AP:=by
   have:(xs.length+ys.length)*1<=(xs.length+ys.length)*te.bytes:=AEh _ s;omega
  rcases f with rfl|⟨p,rfl,g⟩
  ·simp at h0
  ·exact run_append_arg_grows (P:=P) w id ty el i z te.ty.size te.bytes hu hi F E t (by rw[G];simpa using (B0.zero w (λ_=>False) te.ty).length) te.ty.size_pos ad xs.length xs.length c hs.len D p ys.length c2 d A g (by omega)
    (by have h1:AP=140737488355328:=rfl;have h:maxLen=9223372036854775807:=rfl;omega) (by simpa[AP] using n)
 obtain⟨⟨H,c1,v,f⟩,B,N,U,R⟩:=hs;injection v with q J K
 subst q;rcases f with rfl|⟨ad,ha,g⟩
 ·have C:c=[]:=UL (by simpa using B);subst C;cases a with
  | some ad=>exact o ad rfl λj u y=>by simp at y
  | none =>
   obtain⟨b,w',h1,h,r,L⟩:=Ga (ty:=ty) k hu m rfl (AEy w w.heap.size el te.ty.size) l (by simpa using n) (NO _);exact⟨b,w',h1,by simpa using h,r⟩
 ·exact o ad ha g
theorem Ss {w w':World} (h:w.grownBy w' none):Below w.heap.size w w':=⟨h.os,h.tape,h.output,h.size,λk hk=>h.block k hk (by simp)⟩
theorem A1C (a:DH P tb) (E:∀n o,lk n σ.objs=some o->A8 (vw w O0 σ ρ) o (ρ n)) {d:Nat} {t u:TypeId} {x y:AV} {xv J:Value} {ty:TypeId}
  (h:Cl tb σ d t u (some x) (some y)=some (vc,v,obs)) (m:vc) (q:B7 (vw w O0 σ ρ) x xv) (H:B7 (vw w O0 σ ρ) y J) (hf:Bi obs σ=true) :
  ∃z ρ' w',(Builtin.append_ #[t,u] ty #[xv,J]).run P w=.ok z w'/\QS w O0 σ ρ v obs z ρ' w':=by
 unfold Cl at h;split at h
 ·rename_i C D;cases C;cases D;have q:xv=_:=q;subst q;split at h
  ·rename_i G;subst G;cases c:lk t tb.ty with
   | none=>rw[c]at h;simp[Ep]at h
   | some ti =>
    rw[c]at h;unfold Ep at h;split at h
    ·rename_i e offs el b B;cases B;obtain⟨hu,hs,te,i,k⟩:=CM (a _ _ c) a;rw[i]at h;cases f:PZ σ e y with
     | none=>rw[f]at h;simp[FH]at h
     | some ys =>
      rw[f]at h;simp only[FH]at h;cases h;obtain⟨I,g⟩:=UZ E f H;obtain⟨r,w',h1,j,A,Q⟩:=Ga (ty:=ty) a hu i k (AEy w w.heap.size el e.size) g (by simpa using m) (NO _);have j:w'.ownsRow w.heap.size el e.size r ys.length I:=by simpa using j
      exact⟨r,_,w',h1,QS.arr hf (Ss A) j g.max g.elems rfl⟩
    ·cases h
  ·cases h
 ·rename_i e l v1 C D;cases C;cases D;split at h
  ·rename_i G;subst G;obtain⟨M,O,rfl⟩:=q;cases c:lk t tb.ty with
   | none=>rw[c]at h;simp[JV]at h
   | some ti =>
    rw[c]at h;unfold JV at h;split at h
    ·rename_i s offs el b B;cases B;split at h
     ·rename_i k;subst k;obtain⟨hu,hs,te,i,k⟩:=CM (a _ _ c) a;rw[i]at h;cases f:PZ σ s y with
      | none=>rw[f]at h;simp[KW]at h
      | some ys =>
       rw[f]at h;simp only[KW]at h;cases h;obtain⟨N,m⟩:=m;obtain⟨I,g⟩:=UZ E f H;obtain⟨R,F⟩:=bC (e:=s) (ys:=l) (x:=.p (.slice s) l) E (by simp[LQ,Eh,Ff]) rfl M;obtain⟨r,w',h1,j,A⟩:=Sr (ty:=ty) a hu i k F g N m;have L:(l++ys).length<=AP:=by
        obtain⟨⟨⟨_,K,_⟩,_⟩,_⟩:=a _ _ i;have:(l.length+ys.length)*1<=(l.length+ys.length)*te.bytes:=AEh _ K;rw[GO];omega
       exact⟨r,_,w',h1,QS.arr hf (Ss A) (by rw[GO];exact j) L (Kj F.elems g.elems F.len) (by rw[GO])⟩
     ·cases h
    ·cases h
  ·cases h
 ·cases h
end
end
section
open Go Go.RowKit
def VW:Ty->Option TypeDesc
 | .int k=>some (.int k)
 | .bool=>some .bool
 | .str=>some .string
 | .prod _ _=>none
 | .agg _=>none
 | .slice _=>none
 | .ref _=>none
section
variable {w:World} {O:Nat->Prop}
theorem NA {a:Ty} {d:TypeDesc} (b:VW a=some d) {k:a.den} {c:Value} (h:Bl w O a c k):MapKept.IsKey d c:=by
 cases a<;>simp only[VW]at b<;>try(cases b;done)
 all_goals cases b
 ·obtain⟨rfl,_⟩:=BR h;trivial
 ·have:=EM h;subst this;trivial
 ·obtain⟨rfl,_⟩:=Gu h;trivial
theorem fD {a:Ty} {d:TypeDesc} (c:VW a=some d) {k e:a.den} {f g:Value} (h:Bl w O a f k) (b:Bl w O a g e):Instr.sameNow d f g=some (Hj a k e):=by
 cases a<;>simp only[VW]at c<;>try(cases c;done)
 all_goals cases c
 ·obtain⟨rfl,_⟩:=BR h;obtain⟨rfl,_⟩:=BR b;simp[Instr.sameNow,Hj]
 ·have:=EM h;subst this;have:=EM b;subst this;simp[Instr.sameNow,Hj]
 ·obtain⟨rfl,_⟩:=Gu h;obtain⟨rfl,_⟩:=Gu b;simp[Instr.sameNow,Hj]
theorem A8X {a:Ty} {d:TypeDesc} (b:VW a=some d) {k e:a.den} {f g:Value} (h:Bl w O a f k) (c:Bl w O a g e) (l:Hj a k e=true):g=f:=by
 have h1:=fD b h c;obtain⟨r,i,j⟩:=MapKept.sameNow_of_keys (NA b h) (NA b c);grind
def L8 (a b:Ty) (k:a.den):List MapEntry->List (a.den×b.den)->Nat->Option (Nat×Value)
 | e :: c,x :: l,i=>if Hj a k x.1=true then some (i,e.val) else L8 a b k c l (i+1)
 | _,_,_=>none
end
structure bD (P:Program) (kid:TypeId) (kt:Ty):Prop where
 check:∀ {w:World} {O:Nat->Prop} {kv:Value} {k:kt.den} (em:Bool),Bl w O kt kv k->(Instr.checkKey em 10000 kid kv).run P w=.ok () w
 find:∀ {w:World} {O:Nat->Prop} {vt:Ty} {es:List MapEntry} {l:List (kt.den×vt.den)} {kv:Value} {k:kt.den},Bl w O kt kv k->OU w O kt vt es l->(Instr.findKey kid kv es).run P w=.ok (L8 kt vt k es l 0) w
 stays:∀ {w:World} {O:Nat->Prop} {kv:Value} {k:kt.den},Bl w O kt kv k->(Instr.keyThatStays kv kv).run P w=.ok kv w
 same:∀ {w:World} {O:Nat->Prop} {kv kv':Value} {k k':kt.den},Bl w O kt kv k->Bl w O kt kv' k'->Hj kt k k'=true->kv'=kv
theorem Yj {w:World} {O:Nat->Prop} {a c:Ty} {d:TypeDesc} (g:VW a=some d) {k:a.den} {j:Value} (hk:Bl w O a j k):∀ {b:List MapEntry} {l:List (a.den×c.den)},OU w O a c b l->∀i,Instr.findNow d j b i=some (L8 a c k b l i)
 | [],[],_,i=>rfl
 | [],_ :: _,h,_=>h.elim
 | _ :: _,[],h,_=>h.elim
 | e :: b,x :: l,⟨h1,o,m⟩,i=>by
  have hs:=fD g hk h1;have n:=Yj g hk m (i+1);cases f:Hj a k x.1<;>rw[f]at hs<;>simp[Instr.findNow,L8,hs,f,n]
theorem Ja {P:Program} {kid:TypeId} {kt:Ty} {d:TypeDesc} (hd:VW kt=some d) (hu:P.underlying kid=some d):bD P kid kt where
 check:=λem h=>MapKept.run_checkKey hu (NA hd h) em 9999
 find:=λhk he=>MapKept.run_findKey hu (Yj hd hk he 0)
 stays:=λh=>MapKept.run_keyThatStays (NA hd h)
 same:=λh h' he=>A8X hd h h' he
theorem Fk {w:World} {O:Nat->Prop} {a b:IntKind} {v:Value} {d:(Ty.agg (.prod (.int a) (.int b))).den} (h:Bl w O (.agg (.prod (.int a) (.int b))) v d):v=.agg #[.int a d.1,.int b d.2]:=by
 obtain⟨cs,⟨c1,c2,rfl,⟨rfl,_⟩,⟨rfl,_⟩⟩,rfl⟩:=h;rfl
theorem L9 {P:Program} {w:World} {t:TypeId} {a:IntKind} (h:P.underlying t=some (.int a)) (d:Nat) (x y:Int):(Op.equalIn (d+1) t (.int a x) (.int a y)).run P w=.ok (x==y) w:=by simp[Op.equalIn,UH h]
theorem Po {P:Program} {w:World} {t:TypeId} {a:IntKind} (h:P.underlying t=some (.int a)) (em:Bool) (d:Nat) (x:Int):(Instr.checkKey em (d+1) t (.int a x)).run P w=.ok () w:=by simp[Instr.checkKey,UH h]
theorem YS {P:Program} {w:World} {h:TypeId} {a b:IntKind} (hp:M8 P h a b) (em:Bool) (d:Nat) (x y:Int):(Instr.checkKey em (d+2) h (.agg #[.int a x,.int b y])).run P w=.ok () w:=by
 obtain⟨c,e,hu,⟨h1,j⟩,⟨l,m⟩,⟨f,g⟩,s⟩:=hp;have i : c.name ≠ "_" := by simpa using h1
 have k : e.name ≠ "_" := by simpa using j
 have n:P.plainKey c.type=true:=by simp[Program.plainKey,f]
 have o:P.plainKey e.type=true:=by simp[Program.plainKey,g]
 have p0:=λ(u v:Value)=>AEI (P:=P) w n (xs:=#[u,v]) (off:=c.offset) (v:=u) (by rw[l];rfl);have p:=λ(u v:Value)=>AEI (P:=P) w o (xs:=#[u,v]) (off:=e.offset) (v:=v) (by rw[m];rfl);have q:=λx:Int=>Po (w:=w) f em d x;have r:=λx:Int=>Po (w:=w) g em d x;rw[Instr.checkKey];simp[UH hu,i,k,p0,p,q,r]
theorem VX {P:Program} {g:TypeId} {a b:IntKind} (hp:M8 P g a b) (w:World) (h i j k:Int):(Op.equal g (.agg #[.int a h,.int b i]) (.agg #[.int a j,.int b k])).run P w=.ok ((h==j)&&(i==k)) w:=by
 obtain⟨d,f,hu,⟨h1,l⟩,⟨r,s⟩,⟨m,n⟩,t⟩:=hp;have o:P.fieldsOf g=#[d,f]:=by simp[Program.fieldsOf,hu]
 have z:P.plainKey d.type=true:=by simp[Program.plainKey,m]
 have A:P.plainKey f.type=true:=by simp[Program.plainKey,n]
 have h1 : d.name ≠ "_" := by simpa using h1
 have l : f.name ≠ "_" := by simpa using l
 have B:∀x y:Int,(Op.equalIn 9999 d.type (.int a x) (.int a y)).run P w=.ok (x==y) w:=λx y=>L9 m 9998 x y;have p:∀x y:Int,(Op.equalIn 9999 f.type (.int b x) (.int b y)).run P w=.ok (x==y) w:=λx y=>L9 n 9998 x y;have e:(Op.equal g (.agg #[.int a h,.int b i]) (.agg #[.int a j,.int b k])).run P w=_:=run_equalIn_struct (P:=P) w 9999 g _ _ (by rw[o];exact hu) t;rw[e,o];have p0:=λ(u v:Value)=>AEI (P:=P) w z (xs:=#[u,v]) (off:=d.offset) (v:=u) (by rw[r];rfl);have q:=λ(u v:Value)=>AEI (P:=P) w A (xs:=#[u,v]) (off:=f.offset) (v:=v) (by rw[s];rfl);simp only[Op.eqFields,h1,l,ne_eq,not_false_eq_true,AD1,ADA,p0,q,aS,B,p];by_cases c:h=j
 ·by_cases c2:i=k<;>simp[c,c2,AFq,ADA,q,p,Op.eqFields]
 ·simp[c,AFq]
theorem Yk {P:Program} {g:TypeId} {a b:IntKind} (hp:M8 P g a b) {w:World} {O:Nat->Prop} {d:Ty} {k:(Ty.agg (.prod (.int a) (.int b))).den} {j:Value} (hk:Bl w O (.agg (.prod (.int a) (.int b))) j k) :
  ∀ {c:List MapEntry} {l:List ((Ty.agg (.prod (.int a) (.int b))).den×d.den)},OU w O (.agg (.prod (.int a) (.int b))) d c l->∀i,(Instr.findAsking g j c i).run P w=.ok (L8 (.agg (.prod (.int a) (.int b))) d k c l i) w
 | [],[],_,i=>rfl
 | [],_ :: _,h,_=>h.elim
 | _ :: _,[],h,_=>h.elim
 | e :: c,x :: l,⟨h1,p,m⟩,i=>by
  have o:=Yk hp hk m (i+1);have f:=VX hp w k.1 k.2 x.1.1 x.1.2;rw[<-Fk hk,<-Fk h1]at f;have n:Hj (.agg (.prod (.int a) (.int b))) k x.1=((k.1==x.1.1)&&(k.2==x.1.2)):=rfl;simp only[Instr.findAsking,ADA,f,aS,L8,n,AFq];split
  ·rfl
  ·exact o
theorem fE {P:Program} {kid:TypeId} {a b:IntKind} (hp:M8 P kid a b):bD P kid (.agg (.prod (.int a) (.int b))) where
 check:=λem h=>by
  rw[Fk h];exact YS hp em 9998 _ _
 find:=λhk he=>by
  have hp2:=hp;obtain⟨f0,f1,hu,_⟩:=hp2;rw[run_findKey_eq _ (by rw[hu])];exact Yk hp hk he 0
 stays:=λh=>by
  rw[Fk h];simp[Instr.keyThatStays,Instr.sameBits]
 same:=λh h' he=>by
  rw[Fk h,Fk h'];have he:((_==_)&&(_==_))=true:=he;grind
theorem Rg {P:Program} {B:TypeId} {w:World} {O:Nat->Prop} {c a:Ty} (t:bD P B c) {k:c.den} {n:Value} (hk:Bl w O c n k):∀ {g:List MapEntry} {l:List (c.den×a.den)},OU w O c a g l->∀i,
  (Be c a k l=none/\L8 c a k g l i=none/\∀(v:a.den) (d:Value) (b:Nat),Bl w O a d v->OU w O c a (g++[⟨n,d,b⟩]) (GM c a k v l)) \/
  ∃(j:Nat) (e:MapEntry) (v0:a.den),Be c a k l=some v0/\L8 c a k g l i=some (i+j,e.val)/\g[j]?=some e/\Bl w O a e.val v0/\e.key=n /\
   ∀(v:a.den) (d:Value),Bl w O a d v->OU w O c a (g.modify j λe=>{ e with key:=n,val:=d }) (GM c a k v l)
 | [],[],_,i=>.inl ⟨rfl,rfl,λv d b m=>⟨hk,m,trivial⟩⟩
 | [],_ :: _,h,_=>h.elim
 | _ :: _,[],h,_=>h.elim
 | e :: g,x :: l,⟨h1,q,s⟩,i=>by
  cases f:Hj c k x.1 with
  | true =>
   refine .inr ⟨0,e,x.2,by simp[Be,f],by simp[L8,f],rfl,q,t.same hk h1 f,λv d m=>?_⟩;simp only[GM,f,AD1];exact⟨hk,m,s⟩
  | false =>
   rcases Rg t hk s (i+1) with ⟨o,r,p⟩|⟨j,u,v0,o,r,p,y,z,A⟩
   ·refine .inl ⟨by simp[Be,f,o],by simp[L8,f,r],λv d b m=>?_⟩;simp only[GM,f,ADB,AE4];exact⟨h1,q,p v d b m⟩
   ·refine .inr ⟨j+1,u,v0,by simp[Be,f,o],?_,by simpa using p,y,z,λv d m=>?_⟩
    ·grind [L8]
    ·simp only[GM,f,ADB,AE4,List.modify_succ_cons];exact⟨h1,q,A v d m⟩
theorem fF {P:Program} {tb:Tb} {id:TypeId} {ti:TI} (hT:EH P tb id ti) (c:ti.el=0) (hk:YQ ti.ty=true):bD P id ti.ty:=by
 have a:=hT.2;obtain⟨⟨⟨_,_,b⟩,_⟩,_⟩:=hT;rw[c]at b;cases d:ti.ty<;>rw[d]at a hk b<;>simp only[YQ]at hk<;>try(cases hk;done)
 ·exact Ja rfl a
 ·exact Ja rfl a
 ·exact Ja rfl a
 ·unfold lD at hk;split at hk
  ·exact fE b
  ·cases hk
theorem yV {t:Ty} {z:Value} (c:z.cells=t.zero.toArray) (hf:bA t z=true):z=t.wrap t.zero:=by
 cases t with
 | agg t =>
  cases z<;>simp only[bA]at hf<;>try(cases hf;done)
  simp only[Value.cells]at c;rw[c];rfl
 | prod a b=>cases z<;>simp[bA]at hf
 | _=>cases z<;>simp only[bA]at hf<;>(try(cases hf;done))<;>(simp only[Value.cells,Ty.zero]at c;simp[Ty.wrap,Ty.zero]at c ⊢<;>exact c)
section
variable {P:Program} {tb:Tb} {w:World} {O0:Nat->Prop} {σ:St} {ρ:Nat->Value} {vc:Prop} {v:AV} {obs:List (Nat×Obj)} {id:TypeId} {ti:TI}
theorem yW {P:Program} {tb:Tb} {e:TypeId} {te:TI} {z:Value} {i:TypeInfo} (hi:P.info? e=some i) (b:i.zero=some z) (a:z.cells=te.ty.zero.toArray) (hf:bA te.ty z=true) (w:World) (O:Nat->Prop) :
  (zeroValue e).run P w=.ok z w/\Bl w O te.ty z te.ty.dflt:=by
 refine⟨by simp[zeroValue,typeInfo,hi,b],te.ty.zero,B0.zero w O te.ty,yV a hf⟩
theorem AAn {a:Act} (o:GZ (vw w O0 σ ρ) σ a.eval) {fn:Fn} {first d:List Operand} (h:aQ σ fn first d=some (vc,v,obs)):obs=[]/\∃u,(Instr.makeFunc fn (first.map a.eval).toArray (d.map a.eval).toArray).run P w=.ok u w/\B7 (vw w O0 σ ρ) v u:=by
 unfold aQ at h;split at h
 ·rename_i f;cases j:Hl σ d with
  | none=>rw[j]at h;simp[Pd]at h
  | some ns =>
   rw[j]at h;simp only[Pd]at h;cases h;have key:∀ {l:List Operand} {ns:List Nat},Hl σ l=some ns->l.map a.eval=ns.map ρ/\∀n∈ns,HH σ n/\∃b:Nat,ρ n=.pointer (some ⟨b,0,none⟩):=by
    intro l;induction l with
    | nil=>intro ns h;simp only[Hl]at h;cases h;exact⟨rfl,λ_ h=>by cases h⟩
    | cons x r p =>
     intro ns h;simp only[Hl]at h;split at h
     ·rename_i n t h1 k;cases h;obtain⟨e,g⟩:=p k;obtain⟨q,b,c,s⟩:=o x _ h1;have c:ρ n=_:=c;refine⟨by simp only[UQ,e,s,c],λm i=>?_⟩;rcases DO.1 i with rfl|i
      ·exact⟨q,b,c⟩
      ·exact g m i
     ·cases h
   obtain⟨e,g⟩:=key j;refine⟨rfl,_,rfl,?_,g⟩;rw[e];rfl
 ·cases h
theorem yX {a:Array MapEntry} {cl:Nat} (h:aU a cl) (x y:Value):aU (a.push ⟨x,y,cl⟩) (cl+1):=by grind [aU]
theorem fG {a:Array MapEntry} {cl:Nat} (h:aU a cl) (j:Nat) (x y:Value):aU (a.modify j λe=>{ e with key:=x,val:=y }) cl:=by
 have e:((a.modify j λe=>{ e with key:=x,val:=y }).toList.map (·.born))=a.toList.map (·.born):=by
  rw[Array.toList_modify];apply YI
  ·simp
  ·grind
 unfold aU;rw[e];exact h
theorem A8Y (G:DH P tb) (hT:EH P tb id ti) {n:Nat} {k e:Nat} (Q:ti.ty=.ref 2) (N:ti.offs=[(k,e)]) {a:TI} (R:lk k tb.ty=some a) {c:Ty} {l:List (a.ty.den×c.den)} {V:Vw} (H:V.w=w)
  (M:A8 V (.mapo a.ty c l) (V.ρ n)) {x y:Value} {kd:a.ty.den} {h:c.den} (I:a.el=0) (K:YQ a.ty=true) (g:Bl w V.O a.ty x kd) (B:Bl w V.O c y h) :
  ∃b p s,V.ρ n=.map (some b)/\(Instr.mapUpdate id (.map (some b)) x y).run P w=.ok () { w with heap:=w.heap.setIfInBounds b (.map p s) }/\(∃o,w.heap[b]?=some o)/\OU w V.O a.ty c p.toList (GM a.ty c kd h l)/\aU p s:=by
 obtain⟨d,hu,_,L⟩:∃d,P.underlying id=some d/\(match d with|.struct _=>False|.array _ _=>False|_=>True) /\
   ∀k e,(2:Nat)=2->ti.offs=[(k,e)]->d=.map k e/\∃(a te:TI) (z:Value),lk k tb.ty=some a/\lk e tb.ty=some te/\(∃i,P.info? e=some i/\i.zero=some z)/\z.cells=te.ty.zero.toArray/\bA te.ty z=true:=by
  have:=hT.2;rw[Q]at this;exact this
 obtain⟨rfl,_⟩:=L k e rfl N;obtain⟨b,m,cl,A,hh,u,t⟩:=M;subst H;have f:=fF (G _ _ R) I K;have v:=f.find g u;refine⟨b,?_⟩;rcases Rg f g u 0 with ⟨D,q,r⟩|⟨j,C,v0,D,q,r,S,E,F⟩
 ·refine⟨m.push ⟨x,y,cl⟩,cl+1,A,?_,⟨_,hh⟩,by simpa using r h y cl B,yX t x y⟩;simp[Instr.mapUpdate,UH hu,AEA hh,f.check _ g,v,q,MapKept.run_setObj_map _ hh]
 ·have J:m[j]?=some C:=by simpa using r
  refine⟨m.modify j λe=>{ e with key:=x,val:=y },cl,A,?_,⟨_,hh⟩,by rw[Array.toList_modify];exact F h y B,fG t j x y⟩;simp[Instr.mapUpdate,UH hu,AEA hh,f.check _ g,v,q,J,E,f.stays g,MapKept.run_setObj_map _ hh]
theorem yY (hT:EH P tb id ti) {d:Nat} (h:F5 tb d (some ti)=some (vc,v,obs)) (hf:Bi obs σ=true) :
  ∃u ρ' w',(Instr.makeMap id none).run P w=.ok u w'/\QS w O0 σ ρ v obs u ρ' w':=by
 unfold F5 at h;split at h
 ·rename_i offs _ _ c;cases c;unfold GX at h;split at h
  ·rename_i k e;unfold GW at h;split at h
   ·cases h;have f:(Instr.makeMap id none).run P w=.ok (.map (some w.heap.size)) (w.alloc (.map #[] 0)):=by
     simp[Instr.makeMap,Result.andThen]
    refine⟨_,_,_,f,QS.one (loc:=.map (some w.heap.size)) ((Below.refl _ w).alloc (NO _) _) ?_ ?_ ?_⟩
    ·grind [bk,blk]
    ·refine⟨⟨_,by simp only[EZ,ADF,lk,AD1];rfl⟩,w.heap.size,?_,rfl⟩;show Ei ρ d _ d=_;rw[Bn]
    ·exact⟨w.heap.size,#[],0,rfl,(MapKept.heap_alloc w _).1,trivial,List.Pairwise.nil,λb a=>by cases a⟩
   ·cases h
  ·cases h
 ·cases h
theorem A8Z (hT:EH P tb id ti) (M:DH P tb) (H:∀n o,lk n σ.objs=some o->A8 (vw w O0 σ ρ) o (ρ n)) {ok:Bool} {x y:AV} {xv D:Value} (h:It tb σ ok (some ti) (some x) (some y)=some (vc,v,obs))
  (Y:B7 (vw w O0 σ ρ) x xv) (Z:B7 (vw w O0 σ ρ) y D):obs=[]/\∃u,(Instr.lookup id xv D ok).run P w=.ok u w/\B7 (vw w O0 σ ρ) v u:=by
 unfold It at h;split at h
 ·rename_i k e _ _ n z Q R S;cases Q;cases R;cases S;obtain⟨d,hu,_,W⟩:=hT.2;obtain⟨rfl,C,te,ag,J,X,⟨i,hi,aa⟩,ae,af⟩:=W k e rfl rfl;cases hn:lk n σ.objs with
  | none=>rw[hn]at h;simp[Hm]at h
  | some o =>
   rw[hn]at h;cases o with
   | mapo ai aj l =>
    simp only[Hm,J,X,AEg,tO]at h;split at h
    ·rename_i O;obtain⟨rfl,T,rfl⟩:=O;cases hk:LQ false σ C.ty y with
     | none=>rw[hk]at h;simp[KY]at h
     | some kd =>
      rw[hk]at h;simp only[KY]at h;split at h
      ·rename_i U;have a:=Iu (V:=vw w O0 σ ρ) (O':=own O0 σ ρ) (λ_ h=>h) (λh=>by cases h) H hk Z;have a:Bl w (own O0 σ ρ) C.ty D kd:=a;obtain⟨ah,b,B,rfl⟩:=Y;have B:ρ n=_:=B;obtain⟨b',E,cl,c,hh,m,-⟩:=H n _ hn;rw[B]at c;injection c with c
       injection c with c
       subst c;have hh:w.heap[b]?=some (.map E cl):=hh;have m:OU w (own O0 σ ρ) C.ty te.ty E.toList l:=m;have p:=fF (M _ _ J) T U;have G:=p.find a m;obtain⟨ab,ad⟩:=yW (te:=te) (P:=P) (tb:=tb) hi aa ae af w (own O0 σ ρ);have F:∀(f:Value) (q:Bool) (r:Option te.ty.den),Bl w (own O0 σ ρ) te.ty f (r.getD te.ty.dflt)->q=r.isSome->Lx te.ty ok r=some (vc,v,obs)->obs=[]/\∃u,u=(if ok=true then Value.tuple #[f,.bool q] else f)/\B7 (vw w O0 σ ρ) v u:=by
        intro f q r I N g;unfold Lx at g;subst N;cases ok with
        | true =>
         simp only[AD1]at g ⊢;cases g;exact⟨rfl,_,rfl,[f,.bool r.isSome],rfl,f,_,rfl,I,_,[],rfl,Bm _,rfl⟩
        | false =>
         simp only[ADB,AE4]at g ⊢;cases g;exact⟨rfl,_,rfl,I⟩
       rcases Rg p a m 0 with ⟨s,t,_⟩|⟨j,K,v0,s,t,_,L,_,_⟩
       ·rw[s]at h;obtain⟨h1,u,rfl,A⟩:=F ag false none ad rfl h;refine⟨h1,_,?_,A⟩;simp[Instr.lookup,UH hu,AEA hh,p.check _ a,G,t,ab]
       ·rw[s]at h;obtain⟨h1,u,rfl,A⟩:=F K.val true (some v0) L rfl h;refine⟨h1,_,?_,A⟩;simp[Instr.lookup,UH hu,AEA hh,p.check _ a,G,t]
      ·cases h
    ·cases h
   | _=>simp[Hm]at h
 ·cases h
end
end
end Go.Proofs.YtapkhdkbkodbjaaGreat.Fw
