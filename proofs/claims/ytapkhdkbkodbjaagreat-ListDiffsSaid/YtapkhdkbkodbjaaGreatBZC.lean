/- The executor's quiet operations are sound, second part; maps. -/
import Derived.Test.YtapkhdkbkodbjaaGreatBZB
import Derived.ArgAppend
import Derived.MapKept
import Derived.WideKeyRuns
import Derived.Laws.StructEq
set_option linter.unusedVariables false
set_option linter.unusedSimpArgs false
namespace Go.Proofs.YtapkhdkbkodbjaaGreat.Fw
section
open Go Go.RowKit
section
abbrev oS:=@Go.World.ownsRow_nil
abbrev tO:=@Go.Sem.run_pure
abbrev AA4:=@Go.MapKept.run_getObj_map
abbrev ADk:=@Go.run_part_plain
abbrev AEg:=@Go.Sem.run_ite
variable {P:Program} {tb:Tb} {id:TypeId} {ti:TI} {w:World} {O0:Nat->Prop} {σ:St} {ρ:Nat->Value} {vc:Prop} {v:AV} {obs:List (Nat×Obj)}
theorem FM (w:World) (o:_root_.Go.Obj):Below w.heap.size w (w.alloc o):=(Below.refl _ _).alloc (Is _) o
theorem QS.box {n:Nat} {et:TypeId} {st:Bool} {fs:List AV} {cs:List Value} (hf:Ba [(n,.box et st fs)] σ=true) (g:st=false->fs.length=1) (d:DQ (vw w O0 σ ρ) fs cs) :
  QS w O0 σ ρ (.bp n [] 0) [(n,.box et st fs)] (.pointer (some ⟨w.heap.size,0,none⟩)) (Et ρ n (.pointer (some ⟨w.heap.size,0,none⟩))) (w.alloc (.cells cs.toArray et)):=by
 have f:∀(m:Nat) (o:Obj) (b:Nat),lk m [(n,.box et st fs)]=some o->bk (Et ρ n (.pointer (some ⟨w.heap.size,0,none⟩)) m) b->w.heap.size<=b:=by grind [lk,Bo,bk,blk]
 have hk:Cg (vw w O0 σ ρ) (vw (w.alloc (.cells cs.toArray et)) O0 (D7 σ [(n,.box et st fs)]) (Et ρ n (.pointer (some ⟨w.heap.size,0,none⟩)))) :=
  Hl hf (FM w _) (λm a=>by
   simp only[lk]at a;split at a
   .cases a
   rename_i e;simp[Et,e]) f
 refine QS.one (FM w _) (λb c=>by simp[bk,blk]at c;omega) ?_ ?_
 .refine⟨⟨.box et st fs,by simp[D7,lk]⟩,w.heap.size,by rw[show (vw (w.alloc (.cells cs.toArray et)) O0 (D7 σ [(n,.box et st fs)]) (Et ρ n (.pointer (some ⟨w.heap.size,0,none⟩)))).ρ n=Et ρ n (.pointer (some ⟨w.heap.size,0,none⟩)) n from rfl,Bo],rfl⟩
 exact⟨g,w.heap.size,cs,rfl,heap_alloc_new w _,d.keeps hk⟩
theorem QS.arr {n:Nat} {et:TypeId} {e:Ty} {xs:List e.den} {cells:List Value} {loc:Value} {w':World} {hi:Nat} (hf:Ba [(n,.arr et e xs)] σ=true) (f:Below w.heap.size w w')
  (c:w'.ownsRow w.heap.size et e.size loc xs.length cells) (a:xs.length<=AO) (k:DX w (own O0 σ ρ) e cells xs) (p:hi=xs.length) :
  QS w O0 σ ρ (.sr n e 0 hi) [(n,.arr et e xs)] loc (Et ρ n loc) w':=by
 subst p;have r:∀b,bk loc b->w.heap.size<=b:=by
  intro b i;rcases c.2 with ⟨rfl,_⟩|⟨g,cap,d,rfl,l,_⟩
  .simp[bk,blk]at i
  simp[bk,blk]at i;omega
 have q:∀(m:Nat) (o:Obj) (b:Nat),lk m [(n,.arr et e xs)]=some o->bk (Et ρ n loc m) b->w.heap.size<=b:=by grind [lk,Bo]
 have hk:Cg (vw w O0 σ ρ) (vw w' O0 (D7 σ [(n,.arr et e xs)]) (Et ρ n loc)) :=
  Hl hf f (λm a=>by
   simp only[lk]at a;split at a
   .cases a
   rename_i e;simp[Et,e]) q
 refine QS.one f r ?_ ?_
 .refine⟨⟨.arr et e xs,by simp[D7,lk]⟩,?_⟩;show DI (plc (Et ρ n loc n)) e.size 0 xs.length loc;rw[Bo,HH c];rcases c.2 with ⟨rfl,hn⟩|⟨g,cap,d,rfl,l,_,t,_⟩
  .exact⟨none,0,0,rfl,by omega,by omega,none,0,by rw[hn],by omega,λ_=>⟨rfl,rfl⟩,λh=>by omega⟩
  exact⟨some ⟨g,0,none⟩,xs.length,cap,rfl,by omega,by omega,some ⟨g,0,none⟩,cap,by simp,by omega,λ_=>⟨rfl,rfl⟩,λ_=>by simp[Ml]⟩
 refine⟨a,cells,⟨c.1,?_⟩,k.keeps hk⟩;rcases c.2 with h|⟨g,cap,d,h1,s,j⟩
 .exact .inl h
 exact .inr ⟨g,cap,d,h1,IS _,j⟩
theorem LE (V:Vw) (t:Ty):NV V (zf1 t) t.zero:=by
 cases t;case slice e=>exact⟨_,rfl,rfl,rfl⟩
 case ref k=>exact⟨LP k,rfl,by match k with|0=>rfl|1=>rfl|_+2=>rfl,rfl⟩
 all_goals(exact Bv.zero V.w V.O _)
theorem A2c (V:Vw):∀t:Ty,DQ V (zfs t) t.zero
 | .prod a b=>⟨a.zero,b.zero,rfl,LE V a,A2c V b⟩
 | .int k=>⟨_,[],by simp,LE V (.int k),rfl⟩
 | .bool=>⟨_,[],by simp,LE V .bool,rfl⟩
 | .str=>⟨_,[],by simp,LE V .str,rfl⟩
 | .slice e=>⟨_,[],by simp,LE V (.slice e),rfl⟩
 | .agg t=>⟨_,[],by simp,LE V (.agg t),rfl⟩
 | .ref k=>⟨_,[],by simp,LE V (.ref k),rfl⟩
theorem A2d (V:Vw):∀(t:Ty) (d:t.den) (cs:List Value),Bv V.w V.O t cs d->DQ V (pfs t d) cs
 | .prod a b,d,cs,h=>by
  obtain⟨c1,c2,rfl,h1,c⟩:=h;exact⟨c1,c2,rfl,h1,A2d V b d.2 c2 c⟩
 | .int k,d,cs,h=>⟨cs,[],by simp,h,rfl⟩
 | .bool,d,cs,h=>⟨cs,[],by simp,h,rfl⟩
 | .str,d,cs,h=>⟨cs,[],by simp,h,rfl⟩
 | .slice e,d,cs,h=>⟨cs,[],by simp,h,rfl⟩
 | .agg t,d,cs,h=>⟨cs,[],by simp,h,rfl⟩
 | .ref k,d,cs,h=>⟨cs,[],by simp,h,rfl⟩
theorem Pl (hT:D8 P tb id ti) (w:World):∃z:Value,(zeroValue id).run P w=.ok z w/\z.cells=ti.ty.zero.toArray:=by
 obtain⟨⟨_,i,z,h1,c,d,a,b⟩,_⟩:=hT;exact⟨z,by simp[zeroValue,Ld w h1,a],b⟩
theorem A5t (hT:D8 P tb id ti) {d:Nat} (h:KG d id (some ti)=some (vc,v,obs)) (hf:Ba obs σ=true) :
  ∃u ρ' w',(Instr.alloc id true (.tuple #[])).run P w=.ok u w'/\QS w O0 σ ρ v obs u ρ' w':=by
 obtain⟨z,c,e⟩:=Pl hT w;have b:(Instr.alloc id true (.tuple #[])).run P w=.ok (.pointer (some ⟨w.heap.size,0,none⟩)) (w.alloc (.cells ti.ty.zero.toArray id)):=by
  simp[Instr.alloc,c,newVar,newRow,e]
 unfold KG at h;split at h<;>first|(cases h;done)|skip
 all_goals
  rename_i a;cases a;cases h;refine⟨_,_,_,b,QS.box hf ?_ ?_⟩
 .simp
 .exact A2c _ _
 .simp
 .exact⟨_,[],by simp[Ty.zero],LE _ _,rfl⟩
 .simp
 .exact⟨_,[],by simp[Ty.zero],LE _ _,rfl⟩
 .simp
 .exact⟨_,[],by simp[Ty.zero],LE _ _,rfl⟩
 .simp
 .exact⟨_,[],by simp[Ty.zero],LE _ _,rfl⟩
 .simp
 exact⟨_,[],by simp[Ty.zero],LE _ _,rfl⟩
theorem Nk {V:Vw} {ty:Ty} {x:AV} {v:Value} (j:Bz V x v) (hf:CS ty x=true) (hs:ty.cell1=true):v.oneCell'=true:=by
 cases x;case p t d =>
  simp only[CS,DO]at hf;subst hf;obtain⟨cs,o,rfl⟩:=j;cases ty;case agg t=>simp[Ty.cell1]at hs
  case prod a b=>simp[Ty.cell1]at hs
  case slice e=>obtain⟨a,c,rfl,_⟩:=o;rfl
  case int k=>obtain⟨rfl,h⟩:=o;rfl
  case bool=>have o:cs=_:=o;subst o;rfl
  case str=>obtain⟨rfl,h⟩:=o;rfl
  case ref k =>
   have o:cs=[LP k]:=o;subst o;match k with
   | 0=>rfl
   | 1=>rfl
   | _+2=>rfl
 case ag l=>cases ty<;>simp[CS]at hf<;>simp[Ty.cell1]at hs
 case tup l=>simp[CS]at hf
 case raw u =>
  have j:v=u:=j;subst j;simp only[CS,An]at hf;exact hf.1
 case sr n e lo hi=>obtain⟨_,_,_,_,_,_,_,r,s,rfl,_⟩:=j;rfl
 case ep n e i q off=>obtain⟨_,g,m,c,_,_,rfl⟩:=j;rfl
 case nin n e i len=>obtain⟨_,_,_,_,_,_,_,_,rfl⟩:=j;rfl
 case pc e d=>obtain⟨_,a,rfl⟩:=j;rfl
 case ip t d=>obtain⟨ad,cs,rfl,_⟩:=j;rfl
 case bp n q off=>obtain⟨_,b,_,rfl⟩:=j;rfl
 case fn f=>have j:v=_:=j;subst j;rfl
 case clo f ns=>obtain⟨rfl,_⟩:=j;rfl
 case mp n=>obtain⟨_,b,_,rfl⟩:=j;rfl
 case yl n=>obtain⟨_,b,_,rfl⟩:=j;rfl
 case top=>simp[CS]at hf
end
end
section
open Go Go.RowKit
section
variable {P:Program} {tb:Tb} {id:TypeId} {ti:TI} {w:World} {O0:Nat->Prop} {σ:St} {ρ:Nat->Value} {vc:Prop} {v:AV} {obs:List (Nat×Obj)}
theorem Vx {t:Ty} {w:World} {O:Nat->Prop} {cs:List Value} {d:t.den} (h:Bv w O t cs d):(t.wrap cs).cells=cs.toArray:=by
 cases t;case agg t=>rfl
 case prod a b=>rfl
 case slice e=>obtain⟨a,c,rfl,_⟩:=h;rfl
 case int k=>obtain⟨rfl,_⟩:=h;rfl
 case bool=>have h:cs=_:=h;subst h;rfl
 case str=>obtain⟨rfl,_⟩:=h;rfl
 case ref k =>
  have h:cs=[LP k]:=h;subst h;match k with
  | 0=>rfl
  | 1=>rfl
  | _+2=>rfl
theorem A5u {V:Vw} {x:AV} {v:Value} (j:Bz V x v) (hf:Ia x=true):NV V x v.cells.toList/\v.cells.size=x.cells:=by
 have simple:∀ {y:AV},Vm V y v->v.oneCell'=true->(∀t d,y≠.p t d)->NV V y v.cells.toList:=by
  intro y r h hp;have l:v.cells=#[v]:=by cases v<;>first|rfl|simp[Value.oneCell']at h
  rw[l];cases y;case p t d=>exact absurd rfl (hp t d)
  all_goals exact⟨v,rfl,h,r⟩
 have k:v.oneCell'=true->v.cells.size=1:=by
  intro h;have l:v.cells=#[v]:=by cases v<;>first|rfl|simp[Value.oneCell']at h
  rw[l];rfl
 cases x;case p t d =>
  obtain⟨cs,o,rfl⟩:=j;rw[Vx o];exact⟨o,by simpa[AV.cells] using o.length⟩
 case raw u =>
  have q:v=u:=j;have h:v.oneCell'=true:=by rw[q];exact hf
  exact⟨simple j h (λ_ _=>by simp),k h⟩
 case sr n e lo hi =>
  have h:v.oneCell'=true:=by obtain⟨_,_,_,_,_,_,_,w,z,rfl,_⟩:=j;rfl
  exact⟨simple j h (λ_ _=>by simp),k h⟩
 case ep n e i s off =>
  have h:v.oneCell'=true:=by obtain⟨_,g,m,c,_,_,rfl⟩:=j;rfl
  exact⟨simple j h (λ_ _=>by simp),k h⟩
 case nin n e i len =>
  have h:v.oneCell'=true:=by obtain⟨_,_,_,_,_,_,_,_,rfl⟩:=j;rfl
  exact⟨simple j h (λ_ _=>by simp),k h⟩
 case ip t d =>
  have h:v.oneCell'=true:=by obtain⟨ad,cs,rfl,_⟩:=j;rfl
  exact⟨simple j h (λ_ _=>by simp),k h⟩
 case bp n s off =>
  have h:v.oneCell'=true:=by obtain⟨_,b,_,rfl⟩:=j;rfl
  exact⟨simple j h (λ_ _=>by simp),k h⟩
 case pc e d =>
  have h:v.oneCell'=true:=by obtain⟨_,a,rfl⟩:=j;rfl
  exact⟨simple j h (λ_ _=>by simp),k h⟩
 case clo f ns =>
  have h:v.oneCell'=true:=by obtain⟨rfl,_⟩:=j;rfl
  exact⟨simple j h (λ_ _=>by simp),k h⟩
 case mp n =>
  have h:v.oneCell'=true:=by obtain⟨_,b,_,rfl⟩:=j;rfl
  exact⟨simple j h (λ_ _=>by simp),k h⟩
 case yl n =>
  have h:v.oneCell'=true:=by obtain⟨_,b,_,rfl⟩:=j;rfl
  exact⟨simple j h (λ_ _=>by simp),k h⟩
 case fn f =>
  have h:v.oneCell'=true:=by have j:v=_:=j;subst j;rfl
  exact⟨simple j h (λ_ _=>by simp),k h⟩
 all_goals simp[Ia]at hf
theorem AAd (hT:D8 P tb id ti) {d:Nat} {x:AV} {xv:Value} (h:TT d id (some ti) (some x)=some (vc,v,obs)) (i:Bz (vw w O0 σ ρ) x xv) (hf:Ba obs σ=true) :
    ∃u ρ' w',(Instr.box id xv).run P w=.ok u w'/\QS w O0 σ ρ v obs u ρ' w':=by
  have g:(Instr.box id xv).run P w=.ok (.pointer (some ⟨w.heap.size,0,none⟩)) (w.alloc (.cells xv.cells id)):=by
    simp[Instr.box,newVar,newRow]
  have simple:∀ty:Ty,CS ty x=true->ty.cell1=true->(∀l,x≠.ag l)->DQ (vw w O0 σ ρ) [x] xv.cells.toList:=by
    intro ty f q n;obtain⟨h1,m⟩:=A25 i f (Nk i f);exact⟨_,[],by simp,m n,rfl⟩
  have p:xv.cells=xv.cells.toList.toArray:=by simp
  rw[p]at g;unfold TT at h;split at h
  . rename_i u offs el b r k c a
    cases c;cases a;split at h
    . rename_i hu
      subst hu;cases h;obtain⟨cs,j,rfl⟩:=i;have j:Bv w (own O0 σ ρ) u cs k:=j;refine⟨_,_,_,g,QS.box hf (by simp) ?_⟩;simp only[Ty.wrap,Value.cells];exact A2d _ _ _ _ j
    cases h
  . rename_i u offs el b l c a
    cases c;cases a;split at h
    . cases h
      obtain⟨cs,rfl,o⟩:=i;refine⟨_,_,_,g,QS.box hf (by simp) ?_⟩;simp only[Value.cells];exact o
    cases h
  all_goals first
    | (cases h;done)
    | (rename_i c a
       cases c;injection a with a
       subst a;split at h
       . rename_i f
         cases h;exact⟨_,_,_,g,QS.box hf (by simp) (simple _ f rfl (λl e=>by subst e;simp[CS]at f))⟩
       cases h)
theorem gH (off:Nat):∀(a:List Value) (k:Nat) (cells:Array Value),off+k+a.length<=cells.size ->
  ((a.zipIdx k).foldl (λ(cs:Array Value) (p:Value×Nat)=>cs.setIfInBounds (off+p.2) p.1) cells).toList=Ay cells.toList (off+k) a
 | [],k,cells,_=>by simp[Ay]
 | v :: a,k,cells,h=>by
  simp only[OS]at h;simp only[List.zipIdx_cons,Tk];rw[gH off a (k+1) _ (by simp;omega)];simp only[Ay,Array.toList_setIfInBounds,OS];apply ADN;intro j;have b:cells.toList.length=cells.size:=by simp
  simp only[Tt,Ui,OR,UU,b,UE,Uk,Up,OS];grind
theorem Vy {place:Nat->Option (Nat×Nat)} {cells:Array Value} {i off:Nat} {v:Value} {rest:List (Nat×Value)} (hp:place i=some (off,v.cells.size)) (a:off+v.cells.size<=cells.size) :
  Instr.fill place cells ((i,v) :: rest)=Instr.fill place (Ay cells.toList off v.cells.toList).toArray rest:=by
 have h1:¬(off+v.cells.size > cells.size):=by omega
 simp only[Instr.fill,hp];rw[As (by simp;omega)]
 congr 1
 have:=gH off v.cells.toList 0 cells (by simpa using a);apply Array.ext';rw[show v.cells.zipIdx.foldl (λcs x=>cs.setIfInBounds (off+x.2) x.1) cells=(v.cells.toList.zipIdx 0).foldl (λcs x=>cs.setIfInBounds (off+x.2) x.1) cells from by
  rw[<-Array.foldl_toList];simp]
 simpa using this
def HI (V:Vw) (σ:St) (ev:Operand->Value):Prop:=∀x v,Ar σ x=some v->Bz V v (ev x)
theorem A09 {V:Vw} (e:∀n o,lk n σ.objs=some o->A1 V o (V.ρ n)) {z x:Option AV} {y:AV} {v:Value} (b:∀a,x=some a->Bz V a v) (h:FZ σ z x=some y):Bz V y v:=by
 unfold FZ at h;split at h
 .rename_i t _ l;simp only[No]at h;obtain⟨d,c,rfl⟩:=h;exact LD (V:=V) (O':=V.O) (λ_ h=>h) (λh=>by cases h) e c (b _ rfl)
 exact b _ h
theorem OJ {V:Vw} (f:∀n o,lk n σ.objs=some o->A1 V o (V.ρ n)) {ev:Operand->Value} (e:HI V σ ev) {place:Nat->Option (Nat×Nat)} {offs:List (Nat×Nat)} (j:∀i p,offs[i]?=some p->place i=some p) :
  ∀ {parts:List (Nat×Operand)} {fs b:List AV} {cells:Array Value},Da σ offs fs parts=some b->DQ V fs cells.toList ->
   ∃cells':Array Value,Instr.fill place cells (parts.map λp=>(p.1,ev p.2))=some cells'/\DQ V b cells'.toList
 | [],fs,b,cells,h,c=>by
  simp only[Da]at h;cases h;exact⟨cells,rfl,c⟩
 | (i,x) :: r,fs,b,cells,h,c=>by
  simp only[Da]at h;cases d:FZ σ fs[i]? (Ar σ x) with
  | none=>rw[d]at h;cases h
  | some av =>
   rw[d]at h;simp only at h;split at h
   .rename_i l;obtain⟨h0,h1,m⟩:=l;have z:=A09 f (λa ha=>e x a ha) d;obtain⟨q,s⟩:=A5u z h0;simp only[No]at h1;obtain⟨B,g,v⟩:=h1;obtain⟨A,_⟩:=c.get g;have y:=c.set g q v.symm;have k:=j i _ m;rw[<-s]at k;have w:CA fs i+(ev x).cells.size<=cells.size:=by grind
    obtain⟨cells',t,u⟩:=OJ f e j h (cells:=(Ay cells.toList (CA fs i) (ev x).cells.toList).toArray) (by simpa using y);refine⟨cells',?_,u⟩;rw[UD,Vy k w];exact t
   cases h
theorem gI {α a:Type} (f:α->Sem a) (w:World):∀ {l:List α} {ys:List a},(l.map λx=>(f x).run P w)=ys.map (λy=>Result.ok y w)->(l.mapM f).run P w=.ok ys w
 | [],ys,h=>by simp_all
 | x :: l,ys,h=>by
  cases ys with
  | nil=>simp at h
  | cons y ys =>
   simp only[UD,oR]at h;obtain⟨h1,b⟩:=h;have c:=gI f w b;simp[List.mapM_cons,h1,c]
theorem A5v (hT:D8 P tb id ti) (m:∀n o,lk n σ.objs=some o->A1 (vw w O0 σ ρ) o (ρ n)) {ev:Operand->Value} (l:HI (vw w O0 σ ρ) σ ev) {parts:List (Nat×Operand)} (h:JA σ parts (some ti)=some (vc,v,obs)) :
  obs=[]/\∃u,(Instr.build id (parts.map λp=>(p.1,ev p.2)).toArray).run P w=.ok u w/\Bz (vw w O0 σ ρ) v u:=by
 obtain⟨z,q,A⟩:=Pl hT w;unfold JA at h;split at h
 .rename_i u offs el b s;cases s;cases hp:Da σ offs (zfs u) parts with
  | none=>rw[hp]at h;simp[Gc]at h
  | some B =>
   rw[hp]at h;simp only[Yz,Gc]at h;cases h;have a:=hT.2;have r:DQ (vw w O0 σ ρ) (zfs u) z.cells.toList:=by rw[A];exact A2c _ u
   simp only at a;rcases a with ⟨fs,_,hu,g⟩|⟨n,e,i,_,hu,hi,g⟩
   .have j:∀(i:Nat) (p:Nat×Nat),offs[i]?=some p->offs.toArray[i]?=some p:=λi p hh=>by simpa using hh
    obtain⟨cells',c,d⟩:=OJ m l (place:=λi=>offs.toArray[i]?) j hp r;have x:(fs.mapM (λf=>do pure (f.offset,<-sizeOf f.type)):Sem (Array (Nat×Nat))).run P w=.ok offs.toArray w:=by
     rw[nO];simp only[Sem.run_map];rw[gI (ys:=offs) _ w ?_]
     .simp
     rw [show (offs.map λy => Result.ok y w) = (offs.map some).map (λo => match o with | some y => Result.ok y w | none => .halt (.stuck "no such type") w) by simp [Uf, Function.comp_def], g, Uf]
     apply Tq;intro f _;simp only[Function.comp,sizeOf,typeInfo];cases hi:P.info? f.type<;>simp[hi]
    refine⟨rfl,.agg cells',?_,cells'.toList,by simp,d⟩;simp only[Instr.build,Uy,q,UV,Tr hu,x,c,tO]
   have j:∀(k:Nat) (p:Nat×Nat),offs[k]?=some p->(λk=>some (k*i.size,i.size)) k=some p:=λk p hh=>by
    rw[g]at hh;simp only[UO,No]at hh;obtain⟨C,t,rfl⟩:=hh;obtain⟨h1,a⟩:=Tm.1 t;simp only[iF]at a;subst a;rfl
   obtain⟨cells',c,d⟩:=OJ m l j hp r;refine⟨rfl,.agg cells',?_,cells'.toList,by simp,d⟩;simp[Instr.build,q,Tr hu,sizeOf,Ld w hi,c]
 cases h
end
end
section
open Go Go.RowKit
section
variable {P:Program} {tb:Tb} {id:TypeId} {ti:TI} {w:World} {O0:Nat->Prop} {σ:St} {ρ:Nat->Value} {vc:Prop} {v:AV} {obs:List (Nat×Obj)}
theorem ZQ {t:Ty} {w:World} {O:Nat->Prop} {v:Value} {d:t.den} (h:BS w O t v d):v.cells.size=t.size/\Bv w O t v.cells.toList d:=by
 obtain⟨cs,a,rfl⟩:=h;rw[Vx a];exact⟨by simpa using a.length,a⟩
theorem HT (w:World) (O:Nat->Prop) (e:Ty) (cells:List Value):DX w O e cells []:=λi x h=>by simp at h
theorem gJ {V:Vw} (v:∀n o,lk n σ.objs=some o->A1 V o (V.ρ n)) {ev:Operand->Value} (s:HI V σ ev) {e:Ty} {N:Nat} :
  ∀ {parts:List (Nat×Operand)} {k:Nat} {xs pre:List e.den} {cells:Array Value},Es σ e k parts=some xs->cells.size=N*e.size->k+xs.length<=N->pre.length=k ->
   DX V.w V.O e cells.toList pre ->
   ∃cells':Array Value,Instr.fill (λi=>some (i*e.size,e.size)) cells (parts.map λp=>(p.1,ev p.2))=some cells'/\cells'.size=cells.size/\DX V.w V.O e cells'.toList (pre++xs)
 | [],k,xs,pre,cells,h,hs,hk,hp,l=>by
  simp only[Es]at h;cases h;exact⟨cells,rfl,rfl,by simpa using l⟩
 | (i,x) :: r,k,xs,pre,cells,h,hs,hk,hp,l=>by
  simp only[Es]at h;split at h
  .rename_i E;subst E;cases m:Ar σ x with
   | none=>rw[m]at h;cases h
   | some av =>
    rw[m]at h;simp only at h;split at h
    .rename_i y ys L M;cases h;have K:=LD (O':=V.O) (λ_ h=>h) (λh=>by cases h) v L (s x av m);obtain⟨h1,C⟩:=ZQ K;simp only[OS]at hk;have d:i*e.size+(ev x).cells.size<=cells.size:=by
      rw[h1,hs,<-Yc];exact UB _ (by omega)
     have A:(Ay cells.toList (i*e.size) (ev x).cells.toList).length=cells.size:=by
      rw[E2]
      .simp
      simpa using d
     have I:DX V.w V.O e (Ay cells.toList (i*e.size) (ev x).cells.toList) (pre++[y]):=by
      intro j z a;rw[Ui]at a;split at a
      .rename_i F;obtain⟨B,c,f,g⟩:=l j z a;refine⟨B,c,λq u b=>?_,g⟩;have J:q<e.size:=by rw[<-c];exact(Tm.1 b).1
       have H:j*e.size+q<i*e.size:=by
        have:(j+1)*e.size<=i*e.size:=UB _ (by omega);rw[Yc]at this;omega
       have D:i*e.size<=cells.toList.length:=by
        have:=d;simp;omega
       simp only[Ay,Tt];rw[Tz (by rw[OR];omega),UE,BY H];exact f q u b
      rename_i F;have G:j=i:=by
       have:=(Tm.1 a).1;simp at this;omega
      subst G;have P:z=y:=by
       rw[hp,Yq]at a;simpa using a.symm
      subst P;refine⟨(ev x).cells.toList,by simpa using h1,λq u b=>?_,C⟩;have J:q<(ev x).cells.toList.length:=(Tm.1 b).1;have D:j*e.size<=cells.toList.length:=by
       have:=d;simp;omega
      have t:(cells.toList.take (j*e.size)).length=j*e.size:=by rw[OR];omega
      simp only[Ay,Tt];rw[UC (by rw[t];omega),t,Tz (by omega)];rw[show j*e.size+q-j*e.size=q by omega];exact b
     obtain⟨cells',c,f,g⟩:=gJ (N:=N) v s M (pre:=pre++[y]) (cells:=(Ay cells.toList (i*e.size) (ev x).cells.toList).toArray) (by simp[A,hs]) (by omega) (by simp[hp]) (by simpa using I);refine⟨cells',?_,by rw[f];simp[A],by simpa using g⟩;rw[UD,Vy (by rw[h1]) d];exact c
    cases h
  cases h
theorem cI {w:World} {et:TypeId} {sz n:Nat} {cells:Array Value} (hs:cells.size=n*sz) (hn:n<=AO) :
  (w.alloc (.cells cells et)).ownsRow w.heap.size et sz (.slice (some ⟨w.heap.size,0,none⟩) n n) n cells.toList :=
 ⟨by simpa using hs,.inr ⟨w.heap.size,n,cells,rfl,Is _,heap_alloc_new w _,Is _,by have h1:AO=140737488355328:=rfl;have a:maxLen=9223372036854775807:=rfl;omega,hs,At (by simp[hs])⟩⟩
theorem Pm (hT:D8 P tb id ti) (c:Cw P tb) (m:∀n o,lk n σ.objs=some o->A1 (vw w O0 σ ρ) o (ρ n)) {ev:Operand->Value} (l:HI (vw w O0 σ ρ) σ ev) {d n:Nat} {parts:List (Nat×Operand)}
  (h:BZ false σ d n parts (some ti)=some (vc,v,obs)) (t:vc) (hf:Ba obs σ=true) :
  ∃u ρ' w',(Instr.buildSlice id n (parts.map λp=>(p.1,ev p.2)).toArray).run P w=.ok u w'/\QS w O0 σ ρ v obs u ρ' w':=by
 unfold BZ at h;split at h
 .rename_i e offs el b k;cases k;obtain⟨hu,hs,te,s,rfl⟩:=CT hT c;obtain⟨z,x,A⟩:=Pl (c _ _ s) w;cases hp:Es σ te.ty 0 parts with
  | none=>rw[hp]at h;simp[Bd]at h
  | some xs =>
   rw[hp]at h;simp only[Bd,Ua,YZ]at h;cases h;obtain⟨hn,y⟩:=t;subst hn;have q:=te.ty.size_pos;obtain⟨cells',h1,j,a⟩:=gJ (V:=vw w O0 σ ρ) m l hp (N:=xs.length) (pre:=[]) (cells:=(Array.range (xs.length*te.ty.size)).map (λi=>(if xs.length*te.ty.size=0 then (#[]:Array Value) else z.cells)[i % (if xs.length*te.ty.size=0 then (#[]:Array Value) else z.cells).size]!)) (by simp) (by omega) rfl (HT _ _ _ _);have g:xs.length<=AO:=by
    have:xs.length*1<=xs.length*te.ty.size:=Y0 _ q;simp only[AO];omega
   have r:cells'.size=xs.length*te.ty.size:=by rw[j];simp
   refine⟨_,_,_,?_,QS.arr hf (FM w _) (cI (et:=el) r g) g (by rw[Yt]at a;exact a) rfl⟩;have f:¬(xs.length*te.ty.size > 16777216):=by omega
   by_cases h0:xs.length*te.ty.size=0
   .simp only[h0,Ut]at h1;simp[Instr.buildSlice,Tr hu,hs,f,h0,newRow];simp at h1;simp[h1]
   simp only[h0,YZ]at h1;simp only[Instr.buildSlice,Uy,Tr hu,UV,hs,As f,As h0,x,tO,h1,newRow];rfl
 cases h
theorem A94 (hT:D8 P tb id ti) (I:Cw P tb) (af:∀n o,lk n σ.objs=some o->A1 (vw w O0 σ ρ) o (ρ n)) {ev:Operand->Value} (Y:HI (vw w O0 σ ρ) σ ev) {d n:Nat} {A:TypeId} {parts:List (Nat×Operand)}
  (h:JC σ d A n parts (some ti)=some (vc,v,obs)) (D:vc) (hf:Ba obs σ=true) :
  ∃u ρ' w',(Instr.buildSlice id n (parts.map λp=>(p.1,ev p.2)).toArray).run P w=.ok u w'/\QS w O0 σ ρ v obs u ρ' w':=by
 unfold JC at h;split at h
 .rename_i x t offs el b W;cases W;obtain⟨hu,hs,te,ai,rfl⟩:=CT hT I;obtain⟨z,ak,ap⟩:=Pl (I _ _ ai) w;cases H:Ar σ x with
  | none=>rw[H]at h;unfold JB at h;split at h<;>first|(cases h;done)|(rename_i E;cases E)
  | some av =>
   rw[H]at h;unfold JB at h;split at h
   .rename_i k e Q ar aj T;cases T;have key:∀(c:k.den) (c1:List Value) (a:Option Addr),NV (vw w O0 σ ρ) Q c1->Eq false σ k Q=some c->ev x=.agg (c1++[Value.slice a 0 0]).toArray->n=1/\k.size+1<=16777216->Ba [(d,Obj.nest el A k e [(c,[])] none)] σ=true ->
      ∃u ρ' w',(Instr.buildSlice id n ([(0,x)].map λp=>(p.1,ev p.2)).toArray).run P w=.ok u w'/\QS w O0 σ ρ (.sr d (.agg (.prod k (.slice e))) 0 1) [(d,.nest el A k e [(c,[])] none)] u ρ' w':=by
     intro c c1 a h1 s B ab hf;obtain⟨rfl,an⟩:=ab;have aa:Lay (.slice none 0 0) (.slice a 0 0):=.inr ⟨rfl,a,rfl⟩;have C:=rB (O':=own O0 σ ρ) (λ_ h=>h) (λh=>by cases h) af s h1;have C:Bv w (own O0 σ ρ) k c1 c:=C;have G:=C.length;have ah:te.ty.size=k.size+1:=by rw[aj];rfl
     rw[ah]at hs;have J:(ev x).cells.toList=c1++[Value.slice a 0 0]:=by rw[B];simp[Value.cells]
     have ag:Instr.fill (λi=>some (i*(k.size+1),k.size+1)) ((Array.range (1*(k.size+1))).map (λi=>z.cells[i % z.cells.size]!)) [(0,ev x)]=some (c1++[Value.slice a 0 0]).toArray:=by
      have K:(ev x).cells.size=k.size+1:=by rw[<-ADW,J];simp[G]
      rw[Vy (by rw[K]) (by rw[K];simp)];rw[J];simp only[Instr.fill,AEm,Ay,Uo,Yt,Yj];rw[List.drop_of_length_le (by simp[G]),UF]
     generalize M:(Value.tuple #[Value.slice (some ⟨w.heap.size,0,none⟩) 1 1,.slice none 0 0])=loc;have ad:∀b,bk loc b->w.heap.size<=b:=by grind [A4,blk]
     have y:=cI (w:=w) (et:=el) (sz:=k.size+1) (n:=1) (cells:=(c1++[Value.slice a 0 0]).toArray) (by simp[G]) (by simp[AO]);have y:(w.alloc (.cells (c1++[Value.slice a 0 0]).toArray el)).ownsRow 0 el (k.size+1) (.slice (some ⟨w.heap.size,0,none⟩) 1 1) 1 (c1++[Value.slice a 0 0]):=⟨y.1,y.2.imp (λh=>h) λ⟨g,cap,S,e,_,r⟩=>⟨g,cap,S,e,IS _,r⟩⟩;have hk:=Hl (O0:=O0) (ρ:=ρ) (ρ':=Et ρ d loc) hf (FM w (.cells (c1++[Value.slice a 0 0]).toArray el)) (λm q=>by
      simp only[lk]at q;split at q
      .cases q
      .rename_i e;simp[Et,e]) (λm o b q U=>by
      simp only[lk]at q;split at q
      .grind [Bo]
      cases q)
     refine⟨.slice (some ⟨w.heap.size,0,none⟩) 1 1,Et ρ d loc,w.alloc (.cells (c1++[Value.slice a 0 0]).toArray el),?_,QS.one (FM w _) ad ?_ ?_⟩
     .have ae:¬(1*(k.size+1) > 16777216):=by omega
      have h0:¬(1*(k.size+1)=0):=by omega
      simp only[Instr.buildSlice,Uy,Tr hu,UV,hs,As ae,As h0,ak,tO,UD,AAs,ag,newRow];rfl
     .refine⟨⟨.nest el A k e [(c,[])] none,by simp[D7,lk]⟩,?_⟩;show DI (plc (Et ρ d loc d)) _ 0 1 _;rw[Bo,<-M];exact GF y
     refine⟨_,[.slice none 0 0],c1++[Value.slice a 0 0],.inl M.symm,by simp[AO],rfl,y,λi aq u hi hu=>?_,λi j b u v hi L hu ao=>?_,λi b u hi U _=>?_⟩
     .rcases i with _|i
      .simp only[AA1,Un]at hi hu;subst hi hu;refine⟨c1,.slice a 0 0,λj z L=>by simpa using L,C.mono hk.O hk.heap,.inr ⟨rfl,aa,by simp[AO],[],oS _ 0 A _,HT _ _ _ _⟩⟩
      simp at hi
     .grind
     grind [blk]
    unfold KH at h;obtain⟨cs,B,V⟩:=Y x _ H;obtain⟨c1,c2,rfl,h1,E⟩:=V;obtain⟨al,R,rfl,f,F⟩:=E;have F:R=[]:=F;subst F;split at h
    .rename_i c s;cases h;obtain⟨N,rfl,_,f⟩:=f;have f:N=.slice none 0 0:=f;subst f;exact key c c1 none h1 s (by rw[B];simp) D hf
    .rename_i c am l s;split at h
     .rename_i X;subst X;cases h;obtain⟨N,rfl,_,_,a,f⟩:=f;obtain⟨D,Z⟩:=D;rw[Z]at f;subst f;exact key c c1 a h1 s (by rw[B];simp) D hf
     cases h
    cases h
   cases h
 cases h
theorem Y9 (z:List Value) (f:0<z.length) (n:Nat) {i j:Nat} (b:j<z.length) (hi:i*z.length+j<n) {u:Value} (hu:z[j]?=some u) :
  (madeCells z.toArray n)[i*z.length+j]?=some u:=by
 simp only[madeCells,Array.getElem?_map,List.size_toArray];have e:(Array.range n)[i*z.length+j]?=some (i*z.length+j):=by grind
 rw[e];have d:(i*z.length+j) % z.length=j:=by
  rw[Nat.mul_comm,Nat.mul_add_mod];exact Nat.mod_eq_of_lt b
 simp only[Yz,d];have c:=(Tm.1 hu);obtain⟨h1,a⟩:=c;simp[h1,a]
theorem A5w (hT:D8 P tb id ti) (f:Cw P tb) {e:Ty} {offs:List (Nat×Nat)} {el:TypeId} {b:Nat} (y:ti=⟨.slice e,offs,el,b⟩) {te:TI} (l:lk el tb.ty=some te) {n:Int} {d:Nat}
  (h0:0<=n) (hn:n.toNat*te.bytes<=AO) (hf:Ba [(d,.arr el e (List.replicate n.toNat e.dflt))] σ=true) :
  ∃u ρ' w',(Instr.makeSlice id (.int .i64 n) (.int .i64 n)).run P w=.ok u w'/\QS w O0 σ ρ (.sr d e 0 n.toNat) [(d,.arr el e (List.replicate n.toNat e.dflt))] u ρ' w':=by
 subst y;obtain⟨hu,hs,G,m,rfl⟩:=CT hT f;rw[l]at m;cases m;obtain⟨⟨⟨_,p,_⟩,i,z,hi,k,E,C,D⟩,_⟩:=f _ _ l;have F:=te.ty.size_pos;have a:n.toNat<=AO:=by
  have:n.toNat*1<=n.toNat*te.bytes:=Y0 _ p;omega
 have o:(i.bytes:Int)*n<=281474976710656:=by grind [AO]
 have v:=run_make (P:=P) w id el i z hu hi C .i64 .i64 n n h0 (AA2 _) o (by simp only[AO]at a;omega);have c:te.ty.zero.length=te.ty.size:=(Bv.zero w (λ_=>False) te.ty).length;refine⟨_,_,_,v,QS.arr hf (FM w _) (cI (et:=el) (sz:=te.ty.size) (n:=n.toNat) (cells:=madeCells z.cells (n.toNat*i.size)) (by rw[size_madeCells,k]) a |> λh=>by simpa using h) (by simpa using a) ?_ (by simp)⟩;intro j x A;have r:=(Tm.1 A).1;simp only[ADO]at r;have B:x=te.ty.dflt:=by grind
 subst B;refine⟨te.ty.zero,c,λq u g=>?_,Bv.zero _ _ _⟩;have t:=(Tm.1 g).1;have s:j*te.ty.zero.length+q<n.toNat*i.size:=by
  rw[k,c];have:(j+1)*te.ty.size<=n.toNat*te.ty.size:=UB _ (by omega);rw[Yc]at this;omega
 have:=Y9 te.ty.zero (by omega) (n.toNat*i.size) t s g;rw[c]at this;rw[D];simpa using this
theorem A95 (hT:D8 P tb id ti) (i:Cw P tb) {d:Nat} {x y:AV} {xv c:Value} (h:Ig tb d (some ti) (some x) (some y)=some (vc,v,obs)) (o:vc)
  (p:Bz (vw w O0 σ ρ) x xv) (q:Bz (vw w O0 σ ρ) y c) (hf:Ba obs σ=true) :
  ∃u ρ' w',(Instr.makeSlice id xv c).run P w=.ok u w'/\QS w O0 σ ρ v obs u ρ' w':=by
 unfold Ig at h;split at h
 .rename_i e offs el b n m j k l;cases j;cases k;cases l;cases a:lk el tb.ty with
  | none=>rw[a]at h;simp[LU]at h
  | some te =>
   rw[a]at h;simp only[LU]at h;cases h;obtain⟨rfl,_⟩:=BH p;obtain⟨rfl,_⟩:=BH q;obtain⟨h1,f,g⟩:=o;have h1:n=m:=h1;subst h1;exact A5w hT i rfl a f g hf
 cases h
end
end
section
open Go Go.RowKit
theorem ZR {w:World} {O:Nat->Prop} {e:Ty}:∀ {l:List e.den} {ad:Addr},
  (∀(i:Nat) (x:e.den),l[i]?=some x->∃b:List Value,b.length=e.size/\(∀(j:Nat) (v:Value),b[j]?=some v->w.cell? (ad.add (i*e.size+j))=some v)/\Bv w O e b x) ->
  ∃c:List Value,c.length=l.length*e.size/\DX w O e c l/\(∀u∈c,u.oneCell'=true)/\(∀(j:Nat) (u:Value),c[j]?=some u->w.cell? (ad.add j)=some u)
 | [],ad,h=>⟨[],by simp,HT _ _ _ _,by simp,by simp⟩
 | x :: l,ad,h=>by
  obtain⟨b,h1,q,m⟩:=h 0 x rfl;obtain⟨c,n,o,p,r⟩:=ZR (w:=w) (O:=O) (e:=e) (l:=l) (ad:=ad.add e.size) (λi y hi=>by
   obtain⟨d,f,g,k⟩:=h (i+1) y (by simpa using hi);refine⟨d,f,λj v a=>?_,k⟩;rw[DF,show e.size+(i*e.size+j)=(i+1)*e.size+j by rw[Yc];omega];exact g j v a)
  refine⟨b++c,by simp[h1,n,Yc];omega,λi y hi=>?_,λu hu=>?_,λj u a=>?_⟩
  .cases i with
   | zero =>
    simp at hi;subst hi;refine⟨b,h1,λj u a=>?_,m⟩;rw[AEm,Yj,Tz (Tm.1 a).1];exact a
   | succ i =>
    obtain⟨d,f,g,k⟩:=o i y (by simpa using hi);refine⟨d,f,λj u a=>?_,k⟩;rw[UC (by rw[h1,Yc];omega),h1,show (i+1)*e.size+j-e.size=i*e.size+j by rw[Yc];omega];exact g j u a
  .rcases IF.1 hu with hu|hu
   .exact m.one u hu
   exact p u hu
  grind [DF]
section
variable {P:Program} {tb:Tb} {id:TypeId} {ti:TI} {w:World} {O0:Nat->Prop} {σ:St} {ρ:Nat->Value} {vc:Prop} {v:AV} {obs:List (Nat×Obj)}
structure Src (w:World) (O:Nat->Prop) (e:Ty) (xv:Value) (ys:List e.den) (news:List Value):Prop where
 form:∃(a:Option Addr) (c:Nat),xv=.slice a ys.length c/\(ys=[]\/∃ad,a=some ad/\∀(j:Nat) (u:Value),news[j]?=some u->w.cell? (ad.add j)=some u)
 len:news.length=ys.length*e.size
 elems:DX w O e news ys
 one:∀u∈news,u.oneCell'=true
 max:ys.length<=AO
theorem VC (w:World) (O:Nat->Prop) (e:Ty) (a:Option Addr) (c:Nat):Src w O e (.slice a 0 c) [] [] :=
 ⟨⟨a,c,rfl,.inl rfl⟩,by simp,HT _ _ _ _,by simp,by simp[AO]⟩
theorem ZS {V:Vw} {et:TypeId} {e:Ty} {xs:List e.den} {loc:Value} {cells:List Value} (k:V.w.ownsRow 0 et e.size loc xs.length cells) (g:DX V.w V.O e cells xs):∀u∈cells,u.oneCell'=true:=by
 intro u hu;obtain⟨j,h,i⟩:=Ur.1 hu;have l:=k.1;have c:=e.size_pos;have hi:j / e.size<xs.length:=by
  rw[Nat.div_lt_iff_lt_mul c];omega
 obtain⟨a,h1,d,f⟩:=g (j / e.size) (xs[j / e.size]) (AT hi);have b:j % e.size<a.length:=by rw[h1];exact AEq _ c
 have:=d (j % e.size) (a[j % e.size]) (AT b);rw[show j / e.size*e.size+j % e.size=j by rw[Nat.mul_comm];exact Nat.div_add_mod j e.size]at this;rw[AT h]at this;injection this with this
 rw[<-i,this];exact f.one _ (UJ b)
def noN (σ:St):AV->Bool
 | .sr n _ _ _=>Ce (lk n σ.objs)
 | _=>false
theorem rF {w:World} {O:Nat->Prop} {et:TypeId} {b:Ty} {xs:List b.den} {loc xv:Value} {cells:List Value} {lo hi:Nat} (P:xs.length<=AO) (f:w.ownsRow 0 et b.size loc xs.length cells) (n:DX w O b cells xs) (F:DI loc b.size lo hi xv) :
  ∃H,Src w O b xv (sub xs lo hi) H:=by
 have S:=ZS (V:=⟨w,O,λ_=>False,λ_=>undef⟩) f n;obtain⟨a,m,c,q,M,o,k,l,rfl,I,h0,h1⟩:=F;have D:m=xs.length:=by
  rcases f.2 with ⟨d,E⟩|⟨g,cap,s,d,_⟩
  .grind
  rw[q]at d;injection d
 subst D;have e:=OG xs (lo:=lo) o;by_cases B:lo<hi
 .rcases f.2 with ⟨d,E⟩|⟨g,cap,s,d,r⟩
  .omega
  have J:=World.ownsRow.cells f (g:=g) (by rw[d];rfl);have ha:a=some ⟨g,0,none⟩:=by rw[q]at d;injection d
  subst ha;have K:=f.1;have Q:hi*b.size<=xs.length*b.size:=UB _ o;have R:lo*b.size<=hi*b.size:=UB _ (by omega);refine⟨(cells.drop (lo*b.size)).take ((hi-lo)*b.size),⟨k,l,by rw[e],.inr ⟨_,h1 B,λj u h=>?_⟩⟩,?_,?_,?_,?_⟩
  .grind [DF]
  .rw[e,OR,UL,Nat.sub_mul];omega
  .intro i x A;obtain⟨G,N⟩:=cB xs lo hi i A;obtain⟨t,v,y,z⟩:=n (lo+i) x G;refine⟨t,v,λj u h=>?_,z⟩;have L:=(Tm.1 h).1;have C:i*b.size+j<(hi-lo)*b.size:=by
    have:(i+1)*b.size<=(hi-lo)*b.size:=UB _ (by omega);rw[Yc]at this;omega
   rw[UE,BY C,Uk];have:=y j u h
   rwa [ADC,AEe]at this
  .grind
  rw[e];omega
 have p:sub xs lo hi=[]:=Tv (by rw[e];omega);refine⟨[],⟨k,l,by rw[e],.inl p⟩,by rw[e,show hi-lo=0 by omega];simp,?_,by simp,by rw[e];omega⟩;rw[p];exact HT _ _ _ _
theorem cJ (q:∀n o,lk n σ.objs=some o->A1 (vw w O0 σ ρ) o (ρ n)) {e:Ty} {x:AV} {xv:Value} {ys:List e.den} (h:Mm true σ (.slice e) x=some ys) (F:noN σ x=false) (s:Bz (vw w O0 σ ρ) x xv) :
  ∃C,Src w (own O0 σ ρ) e xv ys C:=by
 replace h:Eq true σ (.slice e) x=some ys:=by
  unfold Mm at h;exact h
 cases x;case p u I =>
  have h:BP (.slice e) ⟨u,I⟩=some ys:=by simpa only[Eq] using h
  have:=A6 h;injection this with h1 D
  subst h1;cases D;obtain⟨cs,⟨a,c,rfl,m,N,y⟩,rfl⟩:=s;by_cases hn:ys=[]
  .subst hn;exact⟨[],VC _ _ _ _ _⟩
  rcases y with y|⟨ad,rfl,X,g⟩
  .exact absurd y hn
  obtain⟨C,d,f,K,M⟩:=ZR g;exact⟨C,⟨some ad,c,rfl,.inr ⟨ad,rfl,M⟩⟩,d,f,K,N⟩
 case sr n J lo hi =>
  simp only[Eq]at h;split at h
  .rename_i A;obtain⟨_,rfl⟩:=A;obtain⟨O,b⟩:=s;cases hn:lk n σ.objs with
   | none=>rw[hn]at h;simp[RE]at h
   | some o =>
    rw[hn]at h;cases o with
    | box et st fs=>simp[RE]at h
    | mapo k v l=>simp[RE]at h
    | frame ah fs=>simp[RE]at h
    | loop L=>simp[RE]at h
    | itr ab ag ae af aa=>simp[RE]at h
    | dfr=>simp[RE]at h
    | nest et V k t xs E=>rw[noN,hn]at F;cases F
    | arr et t xs =>
     simp only[RE]at h;obtain⟨d,f⟩:=Be h;subst d;cases f;have b:DI (plc (ρ n)) t.size lo hi xv:=b;rw[VB (q n _ hn)]at b;obtain⟨B,cells,j,g⟩:=q n _ hn;exact rF B j g b
  cases h
 case nin n J i len =>
  simp only[Eq]at h;split at h
  .rename_i A;obtain⟨_,rfl⟩:=A;obtain⟨O,aj,a,c,H,G,r,R,Y⟩:=s;cases hn:lk n σ.objs with
   | none=>rw[hn]at h;simp[RH]at h
   | some o =>
    rw[hn]at h;unfold RH at h;split at h
    .rename_i et V k t xs T;cases T;obtain⟨d,f⟩:=Be h;subst d;cases f;have Q:=cE (z:=(k.dflt,[])) (q n _ hn) G r;obtain⟨o,ins,cells,E,P⟩:=q n _ hn;obtain rfl:=E.tup G;have r:ins[i]?=some H:=by simpa using r
     obtain⟨c1,ai,h1,D,m⟩:=P.row i _ H Q r;rcases m with ⟨m,_⟩|⟨_,_,B,Z,j,g⟩
     .cases m
     rcases R with rfl|⟨rfl,W,rfl⟩
     .have:=rF B j g (GF j)
      rwa [IZ]at this
     have S:=KS j;have U:(xs.getD i (k.dflt,[])).2=[]:=Tv S.symm;rw[U];exact⟨[],VC _ _ _ _ _⟩
    cases h
  cases h
 case raw u =>
  have b:xv=u:=s;subst b;cases xv with
  | slice a n c =>
   cases a with
   | some a=>simp[Eq]at h
   | none =>
    cases n with
    | succ n=>simp[Eq]at h
    | zero =>
     cases c with
     | succ c=>simp[Eq]at h
     | zero =>
      simp only[Eq]at h;cases h;exact⟨[],VC _ _ _ _ _⟩
  | _=>simp[Eq]at h
 all_goals simp[Eq]at h
theorem VD (a:∀n o,lk n σ.objs=some o->A1 (vw w O0 σ ρ) o (ρ n)) {e:Ty} {x:AV} {xv:Value} {ys:List e.den} (h:PY σ e x=some ys) (b:Bz (vw w O0 σ ρ) x xv) :
  ∃f,Src w (own O0 σ ρ) e xv ys f:=by
 unfold PY at h;split at h
 .split at h
  .cases h
  rename_i c;exact cJ a h (by simpa[noN] using c) b
 rename_i d;refine cJ a h ?_ b;cases x<;>first|rfl|exact absurd rfl (d _ _ _ _)
theorem Sc {el:TypeId} (hu:P.underlying id=some (.slice el)) {sz:Nat} (hs:(sizeOf el).run P w=.ok sz w) {base et ty:Nat} {s:Value} {n:Nat} {xs:List Value} (b:w.ownsRow base et sz s n xs) (c:Nat) :
  (Builtin.append_ #[id,id] ty #[s,.slice none 0 c]).run P w=.ok s w:=by
 rcases b.2 with ⟨rfl,rfl⟩|⟨g,cap,d,rfl,_,_,a,_⟩
 .simp[Builtin.append_,Tr hu,hs,Builtin.lenOf,Builtin.firstCells]
 simp[Builtin.append_,Tr hu,hs,Builtin.lenOf,Builtin.firstCells,a,storeCells]
theorem GG (k:Cw P tb) {el:TypeId} {e:Ty} (hu:P.underlying id=some (.slice el)) {te:TI} (q:lk el tb.ty=some te) (A:te.ty=e) {base ty:Nat} {s xv:Value} {n:Nat} {xs h:List Value}
    (g:w.ownsRow base el e.size s n xs) {O:Nat->Prop} {ys:List e.den} (D:Src w O e xv ys h) (r:(n+ys.length)*te.bytes<=AO) (l:base<=w.heap.size) :
    ∃b w',(Builtin.append_ #[id,id] ty #[s,xv]).run P w=.ok b w'/\w'.ownsRow base el e.size b (n+ys.length) (xs++h)/\w.grownBy w' s.ownBlock/\n+ys.length<=AO:=by
  subst A;obtain⟨⟨⟨_,x,_⟩,i,z,hi,p,m,t,u⟩,_⟩:=k _ _ q;have f:n+ys.length<=AO:=by
    have:(n+ys.length)*1<=(n+ys.length)*te.bytes:=Y0 _ x;omega
  obtain⟨⟨a,c,rfl,v⟩,o,E,C,F⟩:=D;have hs:(sizeOf el).run P w=.ok te.ty.size w:=Hm w (k _ _ q);rcases v with rfl|⟨ad,rfl,y⟩
  . have B:h=[]:=Tv (by simpa using o)
    subst B;cases a with
    | none =>
      refine⟨s,w,Sc hu hs g c,by simpa using g,⟨rfl,rfl,rfl,Is _,λ_ _ _=>rfl⟩,f⟩
    | some ad =>
      obtain⟨b,w',h1,d,j,_⟩:=run_append_own (P:=P) w base id ty el i z te.ty.size te.bytes hu hi t p m (by rw[u];simpa using (Bv.zero w (λ_=>False) te.ty).length) te.ty.size_pos s n xs g ad 0 c [] (by simp) (by simp) (by simp)
        (by have h1:AO=140737488355328:=rfl;have d:maxLen=9223372036854775807:=rfl;simp at f;omega) (by simpa[AO] using r) l
      exact⟨b,w',h1,by simpa using d,j,f⟩
  obtain ⟨b, w', h1, d, j, _⟩ := run_append_own (P := P) w base id ty el i z te.ty.size te.bytes hu hi t p m (by rw [u]; simpa using (Bv.zero w (λ_ => False) te.ty).length) te.ty.size_pos s n xs g ad ys.length c h o y C
      (by have h1:AO=140737488355328:=rfl;have d:maxLen=9223372036854775807:=rfl;omega) (by simpa[AO] using r) l
  exact⟨b,w',h1,d,j,f⟩
theorem KU {w:World} {O:Nat->Prop} {e:Ty} {c1 c2:List Value} {xs ys:List e.den} (h1:DX w O e c1 xs) (f:DX w O e c2 ys) (h:c1.length=xs.length*e.size):DX w O e (c1++c2) (xs++ys):=by
 intro i x hi;rw[Ui]at hi;split at hi
 .obtain⟨a,b,c,d⟩:=h1 i x hi;grind
 rename_i k;obtain⟨a,b,c,d⟩:=f _ x hi;refine⟨a,b,λj u g=>?_,d⟩;have l:xs.length*e.size<=i*e.size:=UB _ (by omega);rw[UC (by omega),h];have:=c j u g;rw[Nat.sub_mul]at this;rw[<-this]
 congr 1
 omega
theorem Sd (k:Cw P tb) {el:TypeId} {e:Ty} (hu:P.underlying id=some (.slice el)) {te:TI} (m:lk el tb.ty=some te) (x:te.ty=e) {ty:Nat} {xv:Value} {O:Nat->Prop} {xs:List e.den} {a:Option Addr} {c:List Value}
  (hs:Src w O e (.slice a xs.length xs.length) xs c) {ys:List e.den} {d:List Value} (l:Src w O e xv ys d) (h0:0<ys.length) (n:(xs.length+ys.length)*te.bytes<=AO) :
  ∃b w',(Builtin.append_ #[id,id] ty #[.slice a xs.length xs.length,xv]).run P w=.ok b w'/\w'.ownsRow w.heap.size el e.size b (xs.length+ys.length) (c++d)/\w.grownBy w' none:=by
 subst x;have o:∀ad:Addr,a=some ad->(∀(j:Nat) (u:Value),c[j]?=some u->w.cell? (ad.add j)=some u)->∃b w',(Builtin.append_ #[id,id] ty #[.slice a xs.length xs.length,xv]).run P w=.ok b w'/\w'.ownsRow w.heap.size el te.ty.size b (xs.length+ys.length) (c++d)/\w.grownBy w' none:=by
  intro ad ha D;subst ha;obtain⟨⟨⟨_,s,_⟩,i,z,hi,E,t,F,G⟩,_⟩:=k _ _ m;obtain⟨⟨I,c2,rfl,f⟩,A,M,T,Q⟩:=l;have S:xs.length+ys.length<=AO:=by
   have:(xs.length+ys.length)*1<=(xs.length+ys.length)*te.bytes:=Y0 _ s;omega
  rcases f with rfl|⟨p,rfl,g⟩
  .simp at h0
  exact run_append_arg_grows (P:=P) w id ty el i z te.ty.size te.bytes hu hi F E t (by rw[G];simpa using (Bv.zero w (λ_=>False) te.ty).length) te.ty.size_pos ad xs.length xs.length c hs.len D p ys.length c2 d A g (by omega)
   (by have h1:AO=140737488355328:=rfl;have h:maxLen=9223372036854775807:=rfl;omega) (by simpa[AO] using n)
 obtain⟨⟨H,c1,v,f⟩,B,N,U,R⟩:=hs;injection v with q J K
 subst q;rcases f with rfl|⟨ad,ha,g⟩
 .have C:c=[]:=Tv (by simpa using B);subst C;cases a with
  | some ad=>exact o ad rfl λj u y=>by simp at y
  | none =>
   obtain⟨b,w',h1,h,r,L⟩:=GG (ty:=ty) k hu m rfl (oS w w.heap.size el te.ty.size) l (by simpa using n) (Is _);exact⟨b,w',h1,by simpa using h,r⟩
 exact o ad ha g
theorem Se {w w':World} (h:w.grownBy w' none):Below w.heap.size w w':=⟨h.os,h.tape,h.output,h.size,λk hk=>h.block k hk (by simp)⟩
theorem A2e (a:Cw P tb) (E:∀n o,lk n σ.objs=some o->A1 (vw w O0 σ ρ) o (ρ n)) {d:Nat} {t u:TypeId} {x y:AV} {xv J:Value} {ty:TypeId}
  (h:DL tb σ d t u (some x) (some y)=some (vc,v,obs)) (m:vc) (q:Bz (vw w O0 σ ρ) x xv) (H:Bz (vw w O0 σ ρ) y J) (hf:Ba obs σ=true) :
  ∃z ρ' w',(Builtin.append_ #[t,u] ty #[xv,J]).run P w=.ok z w'/\QS w O0 σ ρ v obs z ρ' w':=by
 unfold DL at h;split at h
 .rename_i C D;cases C;cases D;have q:xv=_:=q;subst q;split at h
  .rename_i G;subst G;cases c:lk t tb.ty with
   | none=>rw[c]at h;simp[EL]at h
   | some ti =>
    rw[c]at h;unfold EL at h;split at h
    .rename_i e offs el b B;cases B;obtain⟨hu,hs,te,i,k⟩:=CT (a _ _ c) a;rw[i]at h;cases f:PY σ e y with
     | none=>rw[f]at h;simp[Ey]at h
     | some ys =>
      rw[f]at h;simp only[Ey]at h;cases h;obtain⟨I,g⟩:=VD E f H;obtain⟨r,w',h1,j,A,Q⟩:=GG (ty:=ty) a hu i k (oS w w.heap.size el e.size) g (by simpa using m) (Is _);have j:w'.ownsRow w.heap.size el e.size r ys.length I:=by simpa using j
      exact⟨r,_,w',h1,QS.arr hf (Se A) j g.max g.elems rfl⟩
    cases h
  cases h
 .rename_i e l v1 C D;cases C;cases D;split at h
  .rename_i G;subst G;obtain⟨M,O,rfl⟩:=q;cases c:lk t tb.ty with
   | none=>rw[c]at h;simp[JD]at h
   | some ti =>
    rw[c]at h;unfold JD at h;split at h
    .rename_i s offs el b B;cases B;split at h
     .rename_i k;subst k;obtain⟨hu,hs,te,i,k⟩:=CT (a _ _ c) a;rw[i]at h;cases f:PY σ s y with
      | none=>rw[f]at h;simp[KJ]at h
      | some ys =>
       rw[f]at h;simp only[KJ]at h;cases h;obtain⟨N,m⟩:=m;obtain⟨I,g⟩:=VD E f H;obtain⟨R,F⟩:=cJ (e:=s) (ys:=l) (x:=.p (.slice s) l) E (by simp[Mm,Eq,FK]) rfl M;obtain⟨r,w',h1,j,A⟩:=Sd (ty:=ty) a hu i k F g N m;have L:(l++ys).length<=AO:=by
        obtain⟨⟨⟨_,K,_⟩,_⟩,_⟩:=a _ _ i;have:(l.length+ys.length)*1<=(l.length+ys.length)*te.bytes:=Y0 _ K;rw[A0];omega
       exact⟨r,_,w',h1,QS.arr hf (Se A) (by rw[A0];exact j) L (KU F.elems g.elems F.len) (by rw[A0])⟩
     cases h
    cases h
  cases h
 cases h
end
end
section
open Go Go.RowKit
def Vz:Ty->Option TypeDesc
 | .int k=>some (.int k)
 | .bool=>some .bool
 | .str=>some .string
 | .prod _ _=>none
 | .agg _=>none
 | .slice _=>none
 | .ref _=>none
section
variable {w:World} {O:Nat->Prop}
theorem Ms {a:Ty} {d:TypeDesc} (b:Vz a=some d) {k:a.den} {c:Value} (h:BS w O a c k):MapKept.IsKey d c:=by
 cases a<;>simp only[Vz]at b<;>try(cases b;done)
 all_goals cases b
 .obtain⟨rfl,_⟩:=BH h;trivial
 .have:=Dy h;subst this;trivial
 obtain⟨rfl,_⟩:=Gd h;trivial
theorem gK {a:Ty} {d:TypeDesc} (c:Vz a=some d) {k e:a.den} {f g:Value} (h:BS w O a f k) (b:BS w O a g e):Instr.sameNow d f g=some (He a k e):=by
 cases a<;>simp only[Vz]at c<;>try(cases c;done)
 all_goals cases c
 .obtain⟨rfl,_⟩:=BH h;obtain⟨rfl,_⟩:=BH b;simp[Instr.sameNow,He]
 .have:=Dy h;subst this;have:=Dy b;subst this;simp[Instr.sameNow,He]
 obtain⟨rfl,_⟩:=Gd h;obtain⟨rfl,_⟩:=Gd b;simp[Instr.sameNow,He]
theorem A96 {a:Ty} {d:TypeDesc} (b:Vz a=some d) {k e:a.den} {f g:Value} (h:BS w O a f k) (c:BS w O a g e) (l:He a k e=true):g=f:=by
 have h1:=gK b h c;obtain⟨r,i,j⟩:=MapKept.sameNow_of_keys (Ms b h) (Ms b c);grind
def Le (a b:Ty) (k:a.den):List MapEntry->List (a.den×b.den)->Nat->Option (Nat×Value)
 | e :: c,x :: l,i=>if He a k x.1=true then some (i,e.val) else Le a b k c l (i+1)
 | _,_,_=>none
end
structure cK (P:Program) (kid:TypeId) (kt:Ty):Prop where
 check:∀ {w:World} {O:Nat->Prop} {kv:Value} {k:kt.den} (em:Bool),BS w O kt kv k->(Instr.checkKey em 10000 kid kv).run P w=.ok () w
 find:∀ {w:World} {O:Nat->Prop} {vt:Ty} {es:List MapEntry} {l:List (kt.den×vt.den)} {kv:Value} {k:kt.den},BS w O kt kv k->OD w O kt vt es l->(Instr.findKey kid kv es).run P w=.ok (Le kt vt k es l 0) w
 stays:∀ {w:World} {O:Nat->Prop} {kv:Value} {k:kt.den},BS w O kt kv k->(Instr.keyThatStays kv kv).run P w=.ok kv w
 same:∀ {w:World} {O:Nat->Prop} {kv kv':Value} {k k':kt.den},BS w O kt kv k->BS w O kt kv' k'->He kt k k'=true->kv'=kv
theorem ZT {w:World} {O:Nat->Prop} {a c:Ty} {d:TypeDesc} (g:Vz a=some d) {k:a.den} {j:Value} (hk:BS w O a j k):∀ {b:List MapEntry} {l:List (a.den×c.den)},OD w O a c b l->∀i,Instr.findNow d j b i=some (Le a c k b l i)
 | [],[],_,i=>rfl
 | [],_ :: _,h,_=>h.elim
 | _ :: _,[],h,_=>h.elim
 | e :: b,x :: l,⟨h1,o,m⟩,i=>by
  have hs:=gK g hk h1;have n:=ZT g hk m (i+1);cases f:He a k x.1<;>rw[f]at hs<;>simp[Instr.findNow,Le,hs,f,n]
theorem JH {P:Program} {kid:TypeId} {kt:Ty} {d:TypeDesc} (hd:Vz kt=some d) (hu:P.underlying kid=some d):cK P kid kt where
 check:=λem h=>MapKept.run_checkKey hu (Ms hd h) em 9999
 find:=λhk he=>MapKept.run_findKey hu (ZT hd hk he 0)
 stays:=λh=>MapKept.run_keyThatStays (Ms hd h)
 same:=λh h' he=>A96 hd h h' he
theorem HV {w:World} {O:Nat->Prop} {a b:IntKind} {v:Value} {d:(Ty.agg (.prod (.int a) (.int b))).den} (h:BS w O (.agg (.prod (.int a) (.int b))) v d):v=.agg #[.int a d.1,.int b d.2]:=by
 obtain⟨cs,⟨c1,c2,rfl,⟨rfl,_⟩,⟨rfl,_⟩⟩,rfl⟩:=h;rfl
theorem Lf {P:Program} {w:World} {t:TypeId} {a:IntKind} (h:P.underlying t=some (.int a)) (d:Nat) (x y:Int):(Op.equalIn (d+1) t (.int a x) (.int a y)).run P w=.ok (x==y) w:=by simp[Op.equalIn,Tr h]
theorem Pn {P:Program} {w:World} {t:TypeId} {a:IntKind} (h:P.underlying t=some (.int a)) (em:Bool) (d:Nat) (x:Int):(Instr.checkKey em (d+1) t (.int a x)).run P w=.ok () w:=by simp[Instr.checkKey,Tr h]
theorem ZA {P:Program} {w:World} {h:TypeId} {a b:IntKind} (hp:Pi P h a b) (em:Bool) (d:Nat) (x y:Int):(Instr.checkKey em (d+2) h (.agg #[.int a x,.int b y])).run P w=.ok () w:=by
 obtain⟨c,e,hu,⟨h1,j⟩,⟨l,m⟩,⟨f,g⟩,s⟩:=hp;have i : c.name ≠ "_" := by simpa using h1
 have k : e.name ≠ "_" := by simpa using j
 have n:P.plainKey c.type=true:=by simp[Program.plainKey,f]
 have o:P.plainKey e.type=true:=by simp[Program.plainKey,g]
 have p0:=λ(u v:Value)=>ADk (P:=P) w n (xs:=#[u,v]) (off:=c.offset) (v:=u) (by rw[l];rfl);have p:=λ(u v:Value)=>ADk (P:=P) w o (xs:=#[u,v]) (off:=e.offset) (v:=v) (by rw[m];rfl);have q:=λx:Int=>Pn (w:=w) f em d x;have r:=λx:Int=>Pn (w:=w) g em d x;rw[Instr.checkKey];simp[Tr hu,i,k,p0,p,q,r]
theorem m9 {P:Program} {g:TypeId} {a b:IntKind} (hp:Pi P g a b) (w:World) (h i j k:Int):(Op.equal g (.agg #[.int a h,.int b i]) (.agg #[.int a j,.int b k])).run P w=.ok ((h==j)&&(i==k)) w:=by
 obtain⟨d,f,hu,⟨h1,l⟩,⟨r,s⟩,⟨m,n⟩,t⟩:=hp;have o:P.fieldsOf g=#[d,f]:=by simp[Program.fieldsOf,hu]
 have z:P.plainKey d.type=true:=by simp[Program.plainKey,m]
 have A:P.plainKey f.type=true:=by simp[Program.plainKey,n]
 have h1 : d.name ≠ "_" := by simpa using h1
 have l : f.name ≠ "_" := by simpa using l
 have B:∀x y:Int,(Op.equalIn 9999 d.type (.int a x) (.int a y)).run P w=.ok (x==y) w:=λx y=>Lf m 9998 x y;have p:∀x y:Int,(Op.equalIn 9999 f.type (.int b x) (.int b y)).run P w=.ok (x==y) w:=λx y=>Lf n 9998 x y;have e:(Op.equal g (.agg #[.int a h,.int b i]) (.agg #[.int a j,.int b k])).run P w=_:=run_equalIn_struct (P:=P) w 9999 g _ _ (by rw[o];exact hu) t;rw[e,o];have p0:=λ(u v:Value)=>ADk (P:=P) w z (xs:=#[u,v]) (off:=d.offset) (v:=u) (by rw[r];rfl);have q:=λ(u v:Value)=>ADk (P:=P) w A (xs:=#[u,v]) (off:=f.offset) (v:=v) (by rw[s];rfl);simp only[Op.eqFields,h1,l,ne_eq,not_false_eq_true,Ut,Uy,p0,q,UV,B,p];by_cases c:h=j
 .by_cases c2:i=k<;>simp[c,c2,AEg,Uy,q,p,Op.eqFields]
 simp[c,AEg]
theorem ZU {P:Program} {g:TypeId} {a b:IntKind} (hp:Pi P g a b) {w:World} {O:Nat->Prop} {d:Ty} {k:(Ty.agg (.prod (.int a) (.int b))).den} {j:Value} (hk:BS w O (.agg (.prod (.int a) (.int b))) j k) :
  ∀ {c:List MapEntry} {l:List ((Ty.agg (.prod (.int a) (.int b))).den×d.den)},OD w O (.agg (.prod (.int a) (.int b))) d c l->∀i,(Instr.findAsking g j c i).run P w=.ok (Le (.agg (.prod (.int a) (.int b))) d k c l i) w
 | [],[],_,i=>rfl
 | [],_ :: _,h,_=>h.elim
 | _ :: _,[],h,_=>h.elim
 | e :: c,x :: l,⟨h1,p,m⟩,i=>by
  have o:=ZU hp hk m (i+1);have f:=m9 hp w k.1 k.2 x.1.1 x.1.2;rw[<-HV hk,<-HV h1]at f;have n:He (.agg (.prod (.int a) (.int b))) k x.1=((k.1==x.1.1)&&(k.2==x.1.2)):=rfl;simp only[Instr.findAsking,Uy,f,UV,Le,n,AEg];split
  .rfl
  exact o
theorem gL {P:Program} {kid:TypeId} {a b:IntKind} (hp:Pi P kid a b):cK P kid (.agg (.prod (.int a) (.int b))) where
 check:=λem h=>by
  rw[HV h];exact ZA hp em 9998 _ _
 find:=λhk he=>by
  have hp2:=hp;obtain⟨f0,f1,hu,_⟩:=hp2;rw[run_findKey_eq _ (by rw[hu])];exact ZU hp hk he 0
 stays:=λh=>by
  rw[HV h];simp[Instr.keyThatStays,Instr.sameBits]
 same:=λh h' he=>by
  rw[HV h,HV h'];have he:((_==_)&&(_==_))=true:=he;grind
theorem RQ {P:Program} {B:TypeId} {w:World} {O:Nat->Prop} {c a:Ty} (t:cK P B c) {k:c.den} {n:Value} (hk:BS w O c n k):∀ {g:List MapEntry} {l:List (c.den×a.den)},OD w O c a g l->∀i,
  (BR c a k l=none/\Le c a k g l i=none/\∀(v:a.den) (d:Value) (b:Nat),BS w O a d v->OD w O c a (g++[⟨n,d,b⟩]) (Fa c a k v l)) \/
  ∃(j:Nat) (e:MapEntry) (v0:a.den),BR c a k l=some v0/\Le c a k g l i=some (i+j,e.val)/\g[j]?=some e/\BS w O a e.val v0/\e.key=n /\
   ∀(v:a.den) (d:Value),BS w O a d v->OD w O c a (g.modify j λe=>{ e with key:=n,val:=d }) (Fa c a k v l)
 | [],[],_,i=>.inl ⟨rfl,rfl,λv d b m=>⟨hk,m,trivial⟩⟩
 | [],_ :: _,h,_=>h.elim
 | _ :: _,[],h,_=>h.elim
 | e :: g,x :: l,⟨h1,q,s⟩,i=>by
  cases f:He c k x.1 with
  | true =>
   refine .inr ⟨0,e,x.2,by simp[BR,f],by simp[Le,f],rfl,q,t.same hk h1 f,λv d m=>?_⟩;simp only[Fa,f,Ut];exact⟨hk,m,s⟩
  | false =>
   rcases RQ t hk s (i+1) with ⟨o,r,p⟩|⟨j,u,v0,o,r,p,y,z,A⟩
   .refine .inl ⟨by simp[BR,f,o],by simp[Le,f,r],λv d b m=>?_⟩;simp only[Fa,f,Ua,YZ];exact⟨h1,q,p v d b m⟩
   refine .inr ⟨j+1,u,v0,by simp[BR,f,o],?_,by simpa using p,y,z,λv d m=>?_⟩
   .grind [Le]
   simp only[Fa,f,Ua,YZ,List.modify_succ_cons];exact⟨h1,q,A v d m⟩
theorem gM {P:Program} {tb:Tb} {id:TypeId} {ti:TI} (hT:D8 P tb id ti) (c:ti.el=0) (hk:Y8 ti.ty=true):cK P id ti.ty:=by
 have a:=hT.2;obtain⟨⟨⟨_,_,b⟩,_⟩,_⟩:=hT;rw[c]at b;cases d:ti.ty<;>rw[d]at a hk b<;>simp only[Y8]at hk<;>try(cases hk;done)
 .exact JH rfl a
 .exact JH rfl a
 .exact JH rfl a
 unfold mW at hk;split at hk
 .exact gL b
 cases hk
theorem A0a {t:Ty} {z:Value} (c:z.cells=t.zero.toArray) (hf:cF t z=true):z=t.wrap t.zero:=by
 cases t with
 | agg t =>
  cases z<;>simp only[cF]at hf<;>try(cases hf;done)
  simp only[Value.cells]at c;rw[c];rfl
 | prod a b=>cases z<;>simp[cF]at hf
 | _=>cases z<;>simp only[cF]at hf<;>(try(cases hf;done))<;>(simp only[Value.cells,Ty.zero]at c;simp[Ty.wrap,Ty.zero]at c ⊢<;>exact c)
section
variable {P:Program} {tb:Tb} {w:World} {O0:Nat->Prop} {σ:St} {ρ:Nat->Value} {vc:Prop} {v:AV} {obs:List (Nat×Obj)} {id:TypeId} {ti:TI}
theorem A0b {P:Program} {tb:Tb} {e:TypeId} {te:TI} {z:Value} {i:TypeInfo} (hi:P.info? e=some i) (b:i.zero=some z) (a:z.cells=te.ty.zero.toArray) (hf:cF te.ty z=true) (w:World) (O:Nat->Prop) :
  (zeroValue e).run P w=.ok z w/\BS w O te.ty z te.ty.dflt:=by
 refine⟨by simp[zeroValue,typeInfo,hi,b],te.ty.zero,Bv.zero w O te.ty,A0a a hf⟩
theorem AAe {a:Act} (o:HI (vw w O0 σ ρ) σ a.eval) {fn:Fn} {first d:List Operand} (h:b6 σ fn first d=some (vc,v,obs)):obs=[]/\∃u,(Instr.makeFunc fn (first.map a.eval).toArray (d.map a.eval).toArray).run P w=.ok u w/\Bz (vw w O0 σ ρ) v u:=by
 unfold b6 at h;split at h
 .rename_i f;cases j:Hg σ d with
  | none=>rw[j]at h;simp[Pc]at h
  | some ns =>
   rw[j]at h;simp only[Pc]at h;cases h;have key:∀ {l:List Operand} {ns:List Nat},Hg σ l=some ns->l.map a.eval=ns.map ρ/\∀n∈ns,Gr σ n/\∃b:Nat,ρ n=.pointer (some ⟨b,0,none⟩):=by
    intro l;induction l with
    | nil=>intro ns h;simp only[Hg]at h;cases h;exact⟨rfl,λ_ h=>by cases h⟩
    | cons x r p =>
     intro ns h;simp only[Hg]at h;split at h
     .rename_i n t h1 k;cases h;obtain⟨e,g⟩:=p k;obtain⟨q,b,c,s⟩:=o x _ h1;have c:ρ n=_:=c;refine⟨by simp only[UD,e,s,c],λm i=>?_⟩;rcases By.1 i with rfl|i
      .exact⟨q,b,c⟩
      exact g m i
     cases h
   obtain⟨e,g⟩:=key j;refine⟨rfl,_,rfl,?_,g⟩;rw[e];rfl
 cases h
theorem A0c {a:Array MapEntry} {cl:Nat} (h:b8 a cl) (x y:Value):b8 (a.push ⟨x,y,cl⟩) (cl+1):=by grind [b8]
theorem gP {a:Array MapEntry} {cl:Nat} (h:b8 a cl) (j:Nat) (x y:Value):b8 (a.modify j λe=>{ e with key:=x,val:=y }) cl:=by
 have e:((a.modify j λe=>{ e with key:=x,val:=y }).toList.map (·.born))=a.toList.map (·.born):=by
  rw[Array.toList_modify];apply UZ
  .simp
  grind
 unfold b8;rw[e];exact h
theorem A97 (G:Cw P tb) (hT:D8 P tb id ti) {n:Nat} {k e:Nat} (Q:ti.ty=.ref 2) (N:ti.offs=[(k,e)]) {a:TI} (R:lk k tb.ty=some a) {c:Ty} {l:List (a.ty.den×c.den)} {V:Vw} (H:V.w=w)
  (M:A1 V (.mapo a.ty c l) (V.ρ n)) {x y:Value} {kd:a.ty.den} {h:c.den} (I:a.el=0) (K:Y8 a.ty=true) (g:BS w V.O a.ty x kd) (B:BS w V.O c y h) :
  ∃b p s,V.ρ n=.map (some b)/\(Instr.mapUpdate id (.map (some b)) x y).run P w=.ok () { w with heap:=w.heap.setIfInBounds b (.map p s) }/\(∃o,w.heap[b]?=some o)/\OD w V.O a.ty c p.toList (Fa a.ty c kd h l)/\b8 p s:=by
 obtain⟨d,hu,_,L⟩:∃d,P.underlying id=some d/\(match d with|.struct _=>False|.array _ _=>False|_=>True) /\
   ∀k e,(2:Nat)=2->ti.offs=[(k,e)]->d=.map k e/\∃(a te:TI) (z:Value),lk k tb.ty=some a/\lk e tb.ty=some te/\(∃i,P.info? e=some i/\i.zero=some z)/\z.cells=te.ty.zero.toArray/\cF te.ty z=true:=by
  have:=hT.2;rw[Q]at this;exact this
 obtain⟨rfl,_⟩:=L k e rfl N;obtain⟨b,m,cl,A,hh,u,t⟩:=M;subst H;have f:=gM (G _ _ R) I K;have v:=f.find g u;refine⟨b,?_⟩;rcases RQ f g u 0 with ⟨D,q,r⟩|⟨j,C,v0,D,q,r,S,E,F⟩
 .refine⟨m.push ⟨x,y,cl⟩,cl+1,A,?_,⟨_,hh⟩,by simpa using r h y cl B,A0c t x y⟩;simp[Instr.mapUpdate,Tr hu,AA4 hh,f.check _ g,v,q,MapKept.run_setObj_map _ hh]
 have J:m[j]?=some C:=by simpa using r
 refine⟨m.modify j λe=>{ e with key:=x,val:=y },cl,A,?_,⟨_,hh⟩,by rw[Array.toList_modify];exact F h y B,gP t j x y⟩;simp[Instr.mapUpdate,Tr hu,AA4 hh,f.check _ g,v,q,J,E,f.stays g,MapKept.run_setObj_map _ hh]
theorem A0d (hT:D8 P tb id ti) {d:Nat} (h:Fc tb d (some ti)=some (vc,v,obs)) (hf:Ba obs σ=true) :
  ∃u ρ' w',(Instr.makeMap id none).run P w=.ok u w'/\QS w O0 σ ρ v obs u ρ' w':=by
 unfold Fc at h;split at h
 .rename_i offs _ _ c;cases c;unfold GD at h;split at h
  .rename_i k e;unfold GC at h;split at h
   .cases h;have f:(Instr.makeMap id none).run P w=.ok (.map (some w.heap.size)) (w.alloc (.map #[] 0)):=by
     simp[Instr.makeMap,Result.andThen]
    refine⟨_,_,_,f,QS.one (loc:=.map (some w.heap.size)) ((Below.refl _ w).alloc (Is _) _) ?_ ?_ ?_⟩
    .grind [bk,blk]
    .refine⟨⟨_,by simp only[D7,Yk,lk,Ut];rfl⟩,w.heap.size,?_,rfl⟩;show Et ρ d _ d=_;rw[Bo]
    exact⟨w.heap.size,#[],0,rfl,(MapKept.heap_alloc w _).1,trivial,List.Pairwise.nil,λb a=>by cases a⟩
   cases h
  cases h
 cases h
theorem A98 (hT:D8 P tb id ti) (M:Cw P tb) (H:∀n o,lk n σ.objs=some o->A1 (vw w O0 σ ρ) o (ρ n)) {ok:Bool} {x y:AV} {xv D:Value} (h:Ii tb σ ok (some ti) (some x) (some y)=some (vc,v,obs))
  (Y:Bz (vw w O0 σ ρ) x xv) (Z:Bz (vw w O0 σ ρ) y D):obs=[]/\∃u,(Instr.lookup id xv D ok).run P w=.ok u w/\Bz (vw w O0 σ ρ) v u:=by
 unfold Ii at h;split at h
 .rename_i k e _ _ n z Q R S;cases Q;cases R;cases S;obtain⟨d,hu,_,W⟩:=hT.2;obtain⟨rfl,C,te,ag,J,X,⟨i,hi,aa⟩,ae,af⟩:=W k e rfl rfl;cases hn:lk n σ.objs with
  | none=>rw[hn]at h;simp[Hh]at h
  | some o =>
   rw[hn]at h;cases o with
   | mapo ai aj l =>
    simp only[Hh,J,X,Yz,Un]at h;split at h
    .rename_i O;obtain⟨rfl,T,rfl⟩:=O;cases hk:Mm false σ C.ty y with
     | none=>rw[hk]at h;simp[KL]at h
     | some kd =>
      rw[hk]at h;simp only[KL]at h;split at h
      .rename_i U;have a:=LD (V:=vw w O0 σ ρ) (O':=own O0 σ ρ) (λ_ h=>h) (λh=>by cases h) H hk Z;have a:BS w (own O0 σ ρ) C.ty D kd:=a;obtain⟨ah,b,B,rfl⟩:=Y;have B:ρ n=_:=B;obtain⟨b',E,cl,c,hh,m,-⟩:=H n _ hn;rw[B]at c;injection c with c
       injection c with c
       subst c;have hh:w.heap[b]?=some (.map E cl):=hh;have m:OD w (own O0 σ ρ) C.ty te.ty E.toList l:=m;have p:=gM (M _ _ J) T U;have G:=p.find a m;obtain⟨ab,ad⟩:=A0b (te:=te) (P:=P) (tb:=tb) hi aa ae af w (own O0 σ ρ);have F:∀(f:Value) (q:Bool) (r:Option te.ty.den),BS w (own O0 σ ρ) te.ty f (r.getD te.ty.dflt)->q=r.isSome->LX te.ty ok r=some (vc,v,obs)->obs=[]/\∃u,u=(if ok=true then Value.tuple #[f,.bool q] else f)/\Bz (vw w O0 σ ρ) v u:=by
        intro f q r I N g;unfold LX at g;subst N;cases ok with
        | true =>
         simp only[Ut]at g ⊢;cases g;exact⟨rfl,_,rfl,[f,.bool r.isSome],rfl,f,_,rfl,I,_,[],rfl,Bp _,rfl⟩
        | false =>
         simp only[Ua,YZ]at g ⊢;cases g;exact⟨rfl,_,rfl,I⟩
       rcases RQ p a m 0 with ⟨s,t,_⟩|⟨j,K,v0,s,t,_,L,_,_⟩
       .rw[s]at h;obtain⟨h1,u,rfl,A⟩:=F ag false none ad rfl h;refine⟨h1,_,?_,A⟩;simp[Instr.lookup,Tr hu,AA4 hh,p.check _ a,G,t,ab]
       rw[s]at h;obtain⟨h1,u,rfl,A⟩:=F K.val true (some v0) L rfl h;refine⟨h1,_,?_,A⟩;simp[Instr.lookup,Tr hu,AA4 hh,p.check _ a,G,t]
      cases h
    cases h
   | _=>simp[Hh]at h
 cases h
end
end
end Go.Proofs.YtapkhdkbkodbjaaGreat.Fw
