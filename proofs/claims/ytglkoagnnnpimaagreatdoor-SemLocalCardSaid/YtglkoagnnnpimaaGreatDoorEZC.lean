/- The executor's quiet operations are sound, second part; maps. -/
import Derived.Test.YtglkoagnnnpimaaGreatDoorEZB
import Derived.ArgAppend
import Derived.MapKept
import Derived.WideKeyRuns
import Derived.Laws.StructEq
set_option linter.unusedVariables false
set_option linter.unusedSimpArgs false
namespace Go.Proofs.YtglkoagnnnpimaaGreatDoor.Fw
variable {e:Ty} {P:Program} {t:TypeId} {a b:IntKind} {d:TypeDesc} {f:Value} {Z:Array MapEntry} {w:World} {Y:Bool} {V:Vw}
section
open Go Go.RowKit
section
abbrev ABw:=@Go.Sem.run_pure
abbrev AC0:=@Go.World.ownsRow_nil
abbrev AC4:=@Go.MapKept.run_getObj_map
abbrev ACe:=@Go.run_part_plain
abbrev AD3:=@Go.Sem.run_ite
variable {P:Program} {tb:Tb} {id:TypeId} {ti:TI} {w:World} {O0:Nat->Prop} {σ:St} {ρ:Nat->Value} {vc:Prop} {v:AV} {obs:List (Nat×Obj)}
theorem EX (w:World) (o:_root_.Go.Obj):Below w.heap.size w (w.alloc o):=(Below.refl _ _).alloc (OS _) o
theorem QS.box {n:Nat} {et:TypeId} {fs:List AV} {cs:List Value} (hf:Bk [(n,.box et Y fs)] σ=true) (g:Y=false->fs.length=1) (d:AVCs (vw w O0 σ ρ) fs cs) :
  QS w O0 σ ρ (.bp n [] 0) [(n,.box et Y fs)] (.pointer (some ⟨w.heap.size,0,none⟩)) (Ei ρ n (.pointer (some ⟨w.heap.size,0,none⟩))) (w.alloc (.cells cs.toArray et)):=by
 have f:∀(m:Nat) (o:Obj) (b:Nat),lk m [(n,.box et Y fs)]=some o->bk (Ei ρ n (.pointer (some ⟨w.heap.size,0,none⟩)) m) b->w.heap.size<=b:=by grind [lk,Bp,bk,blk]
 have hk:Cq (vw w O0 σ ρ) (vw (w.alloc (.cells cs.toArray et)) O0 (Dq σ [(n,.box et Y fs)]) (Ei ρ n (.pointer (some ⟨w.heap.size,0,none⟩)))) :=
  Hp hf (EX w _) (λm a=>by
   simp only[lk]at a;split at a
   .cases a
   rename_i e;simp[Ei,e]) f
 refine QS.one (EX w _) (λb c=>by simp[bk,blk]at c;omega) ?_ ?_
 .refine⟨⟨.box et Y fs,by simp[Dq,lk]⟩,w.heap.size,by rw[show (vw (w.alloc (.cells cs.toArray et)) O0 (Dq σ [(n,.box et Y fs)]) (Ei ρ n (.pointer (some ⟨w.heap.size,0,none⟩)))).ρ n=Ei ρ n (.pointer (some ⟨w.heap.size,0,none⟩)) n from rfl,Bp],rfl⟩
 exact⟨g,w.heap.size,cs,rfl,heap_alloc_new w _,d.keeps hk⟩
theorem QS.arr {n:Nat} {et:TypeId} {xs:List e.den} {cells:List Value} {loc:Value} {w':World} {hi:Nat} (hf:Bk [(n,.arr et e xs)] σ=true) (f:Below w.heap.size w w')
  (c:w'.ownsRow w.heap.size et e.size loc xs.length cells) (a:xs.length<=AP) (k:Dm w (own O0 σ ρ) e cells xs) (p:hi=xs.length) :
  QS w O0 σ ρ (.sr n e 0 hi) [(n,.arr et e xs)] loc (Ei ρ n loc) w':=by
 subst p;have r:∀b,bk loc b->w.heap.size<=b:=by
  intro b i;rcases c.2 with ⟨rfl,_⟩|⟨g,cap,d,rfl,l,_⟩
  .simp[bk,blk]at i
  simp[bk,blk]at i;omega
 have q:∀(m:Nat) (o:Obj) (b:Nat),lk m [(n,.arr et e xs)]=some o->bk (Ei ρ n loc m) b->w.heap.size<=b:=by grind [lk,Bp]
 have hk:Cq (vw w O0 σ ρ) (vw w' O0 (Dq σ [(n,.arr et e xs)]) (Ei ρ n loc)) :=
  Hp hf f (λm a=>by
   simp only[lk]at a;split at a
   .cases a
   rename_i e;simp[Ei,e]) q
 refine QS.one f r ?_ ?_
 .refine⟨⟨.arr et e xs,by simp[Dq,lk]⟩,?_⟩;show DN (plc (Ei ρ n loc n)) e.size 0 xs.length loc;rw[Bp,HK c];rcases c.2 with ⟨rfl,hn⟩|⟨g,cap,d,rfl,l,_,t,_⟩
  .exact⟨none,0,0,rfl,O1,O1,none,0,by rw[hn],O1,λ_=>⟨rfl,rfl⟩,λh=>by omega⟩
  exact⟨some ⟨g,0,none⟩,xs.length,cap,rfl,O1,O1,some ⟨g,0,none⟩,cap,sc,O1,λ_=>⟨rfl,rfl⟩,λ_=>by simp[Mf]⟩
 refine⟨a,cells,⟨c.1,?_⟩,k.keeps hk⟩;rcases c.2 with h|⟨g,cap,d,h1,s,j⟩
 .exact .inl h
 exact .inr ⟨g,cap,d,h1,GO _,j⟩
theorem JW (V:Vw) (t:Ty):F0 V (sN t) t.zero:=by
 cases t;case slice e=>exact⟨_,rfl,rfl,rfl⟩
 case ref k=>exact⟨Y9 k,rfl,Tz k none,rfl⟩
 all_goals(exact Bw.zero V.w V.O _)
theorem A61 (V:Vw):∀t:Ty,AVCs V (zfs t) t.zero
 | .prod a b=>⟨a.zero,b.zero,rfl,JW V a,A61 V b⟩
 | .int k=>⟨_,[],sc,JW V (.int k),rfl⟩
 | .bool=>⟨_,[],sc,JW V .bool,rfl⟩
 | .str=>⟨_,[],sc,JW V .str,rfl⟩
 | .slice e=>⟨_,[],sc,JW V (.slice e),rfl⟩
 | .agg t=>⟨_,[],sc,JW V (.agg t),rfl⟩
 | .ref k=>⟨_,[],sc,JW V (.ref k),rfl⟩
theorem UO (V:Vw) (b:Bool) (t:Ty):F0 V (zfx b t) t.zero:=by
 unfold zfx;split
 .exact(A61 V _:AVCs V _ _)
 exact JW V t
theorem jI (V:Vw) (b:Bool):∀t:Ty,AVCs V (T8 b t) t.zero
 | .prod a c=>⟨a.zero,c.zero,rfl,UO V b a,jI V b c⟩
 | .int k=>⟨_,[],sc,UO V b (.int k),rfl⟩
 | .bool=>⟨_,[],sc,UO V b .bool,rfl⟩
 | .str=>⟨_,[],sc,UO V b .str,rfl⟩
 | .slice e=>⟨_,[],sc,UO V b (.slice e),rfl⟩
 | .agg t=>⟨_,[],sc,UO V b (.agg t),rfl⟩
 | .ref k=>⟨_,[],sc,UO V b (.ref k),rfl⟩
theorem xA (V:Vw):∀(t:Ty) (d:t.den) (cs:List Value),Bw V.w V.O t cs d->AVCs V (pfs t d) cs
 | .prod a b,d,cs,h=>by
  obtain⟨c1,c2,rfl,h1,c⟩:=h;exact⟨c1,c2,rfl,h1,xA V b d.2 c2 c⟩
 | .int k,d,cs,h=>⟨cs,[],sc,h,rfl⟩
 | .bool,d,cs,h=>⟨cs,[],sc,h,rfl⟩
 | .str,d,cs,h=>⟨cs,[],sc,h,rfl⟩
 | .slice e,d,cs,h=>⟨cs,[],sc,h,rfl⟩
 | .agg t,d,cs,h=>⟨cs,[],sc,h,rfl⟩
 | .ref k,d,cs,h=>⟨cs,[],sc,h,rfl⟩
theorem O9 (hT:D2 P tb id ti) (w:World):∃z:Value,(zeroValue id).run P w=.ok z w/\z.cells=ti.ty.zero.toArray:=by
 obtain⟨⟨_,i,z,h1,c,d,a,b⟩,_⟩:=hT;exact⟨z,by simp[zeroValue,Lf w h1,a],b⟩
theorem A3l (hT:D2 P tb id ti) {f:Bool} {d:Nat} (h:LQ f d id (some ti)=some (vc,v,obs)) (hf:Bk obs σ=true) :
  ∃u ρ' w',(Instr.alloc id true (.tuple #[])).run P w=.ok u w'/\QS w O0 σ ρ v obs u ρ' w':=by
 obtain⟨z,c,e⟩:=O9 hT w;have b:(Instr.alloc id true (.tuple #[])).run P w=.ok (.pointer (some ⟨w.heap.size,0,none⟩)) (w.alloc (.cells ti.ty.zero.toArray id)):=by
  simp[Instr.alloc,c,newVar,newRow,e]
 unfold LQ at h;split at h<;>first|(cases h;done)|skip
 all_goals
  rename_i a;cases a;cases h;refine⟨_,_,_,b,QS.box hf ?_ ?_⟩
 .simp
 .exact jI _ _ _
 .simp
 .exact⟨_,[],by simp[Ty.zero],JW _ _,rfl⟩
 .simp
 .exact⟨_,[],by simp[Ty.zero],JW _ _,rfl⟩
 .simp
 .exact⟨_,[],by simp[Ty.zero],JW _ _,rfl⟩
 .simp
 .exact⟨_,[],by simp[Ty.zero],JW _ _,rfl⟩
 .simp
 exact⟨_,[],by simp[Ty.zero],JW _ _,rfl⟩
theorem NP {ty:Ty} {x:AV} {v:Value} (j:B4 V x v) (hf:CV ty x=true) (hs:ty.cell1=true):v.oneCell'=true:=by
 cases x;case p t d =>
  simp only[CV,If]at hf;subst hf;obtain⟨cs,o,rfl⟩:=j;cases ty;case agg t=>simp[Ty.cell1]at hs
  case prod a b=>simp[Ty.cell1]at hs
  case slice e=>obtain⟨a,c,rfl,_⟩:=o;rfl
  case int k=>obtain⟨rfl,h⟩:=o;rfl
  case bool=>have o:cs=_:=o;subst o;rfl
  case str=>obtain⟨rfl,h⟩:=o;rfl
  case ref k =>
   obtain⟨rfl,_⟩:=o;exact Tz k _
 case ag l=>cases ty<;>simp[CV]at hf<;>simp[Ty.cell1]at hs
 case tup l=>simp[CV]at hf
 case raw u =>
  have j:v=u:=j;subst j;simp only[CV,AT]at hf;exact hf.1
 case sr n e lo hi=>obtain⟨_,_,_,_,_,_,_,r,s,rfl,_⟩:=j;rfl
 case ep n e i q off=>obtain⟨_,g,m,c,_,_,rfl⟩:=j;rfl
 case nin n e i len=>obtain⟨_,_,_,_,_,_,_,_,rfl⟩:=j;rfl
 case pc e d=>obtain⟨_,a,rfl⟩:=j;rfl
 case ip t d=>obtain⟨ad,cs,rfl,_⟩:=j;rfl
 case bp n q off=>obtain⟨_,b,_,rfl⟩:=j;rfl
 case fn f=>have j:v=_:=j;subst j;rfl
 case clo f ns=>obtain⟨rfl,_⟩:=j;exact b4 _ _
 case mp n=>obtain⟨_,b,_,rfl⟩:=j;rfl
 case yl n=>obtain⟨_,b,_,rfl⟩:=j;rfl
 case top=>simp[CV]at hf
end
end
section
open Go Go.RowKit
section
variable {P:Program} {tb:Tb} {id:TypeId} {ti:TI} {w:World} {O0:Nat->Prop} {σ:St} {ρ:Nat->Value} {vc:Prop} {v:AV} {obs:List (Nat×Obj)}
theorem UP {t:Ty} {w:World} {O:Nat->Prop} {cs:List Value} {d:t.den} (h:Bw w O t cs d):(t.wrap cs).cells=cs.toArray:=by
 cases t;case agg t=>rfl
 case prod a b=>rfl
 case slice e=>obtain⟨a,c,rfl,_⟩:=h;rfl
 case int k=>obtain⟨rfl,_⟩:=h;rfl
 case bool=>have h:cs=_:=h;subst h;rfl
 case str=>obtain⟨rfl,_⟩:=h;rfl
 case ref k =>
  obtain⟨rfl,_⟩:=h;exact T6 k d
theorem A3m {x:AV} {v:Value} (j:B4 V x v) (hf:J3 x=true):F0 V x v.cells.toList/\v.cells.size=x.cells:=by
 have simple:∀ {y:AV},Ld V y v->v.oneCell'=true->(∀t d,y≠.p t d)->F0 V y v.cells.toList:=by
  intro y r h s;have o:v.cells=#[v]:=by cases v<;>first|rfl|simp[Value.oneCell']at h
  rw[o];cases y;case p t d=>exact absurd rfl (s t d)
  case ag l=>exact(show False from r).elim
  all_goals exact⟨v,rfl,h,r⟩
 have k:v.oneCell'=true->v.cells.size=1:=by
  intro h;have o:v.cells=#[v]:=by cases v<;>first|rfl|simp[Value.oneCell']at h
  rw[o];rfl
 cases x;case p t d =>
  obtain⟨cs,q,rfl⟩:=j;rw[UP q];exact⟨q,by simpa[AV.cells] using q.length⟩
 case raw u =>
  have w:v=u:=j;have h:v.oneCell'=true:=by rw[w];exact hf
  exact⟨simple j h (λ_ _=>by simp),k h⟩
 case sr n e lo hi =>
  have h:v.oneCell'=true:=by obtain⟨_,_,_,_,_,_,_,A,B,rfl,_⟩:=j;rfl
  exact⟨simple j h (λ_ _=>by simp),k h⟩
 case ep n e i z off =>
  have h:v.oneCell'=true:=by obtain⟨_,g,m,c,_,_,rfl⟩:=j;rfl
  exact⟨simple j h (λ_ _=>by simp),k h⟩
 case nin n e i len =>
  have h:v.oneCell'=true:=by obtain⟨_,_,_,_,_,_,_,_,rfl⟩:=j;rfl
  exact⟨simple j h (λ_ _=>by simp),k h⟩
 case ip t d =>
  have h:v.oneCell'=true:=by obtain⟨ad,cs,rfl,_⟩:=j;rfl
  exact⟨simple j h (λ_ _=>by simp),k h⟩
 case bp n z off =>
  have h:v.oneCell'=true:=by obtain⟨_,b,_,rfl⟩:=j;rfl
  exact⟨simple j h (λ_ _=>by simp),k h⟩
 case pc e d =>
  have h:v.oneCell'=true:=by obtain⟨_,a,rfl⟩:=j;rfl
  exact⟨simple j h (λ_ _=>by simp),k h⟩
 case clo f ns =>
  have h:v.oneCell'=true:=by obtain⟨rfl,_⟩:=j;exact b4 _ _
  exact⟨simple j h (λ_ _=>by simp),k h⟩
 case mp n =>
  have h:v.oneCell'=true:=by obtain⟨_,b,_,rfl⟩:=j;rfl
  exact⟨simple j h (λ_ _=>by simp),k h⟩
 case yl n =>
  have h:v.oneCell'=true:=by obtain⟨_,b,_,rfl⟩:=j;rfl
  exact⟨simple j h (λ_ _=>by simp),k h⟩
 case fn f =>
  have h:v.oneCell'=true:=by have j:v=_:=j;subst j;rfl
  exact⟨simple j h (λ_ _=>by simp),k h⟩
 all_goals simp[J3]at hf
theorem A93 (hT:D2 P tb id ti) {d:Nat} {x:AV} {xv:Value} (h:UB d id (some ti) (some x)=some (vc,v,obs)) (i:B4 (vw w O0 σ ρ) x xv) (hf:Bk obs σ=true) :
    ∃u ρ' w',(Instr.box id xv).run P w=.ok u w'/\QS w O0 σ ρ v obs u ρ' w':=by
  have g:(Instr.box id xv).run P w=.ok (.pointer (some ⟨w.heap.size,0,none⟩)) (w.alloc (.cells xv.cells id)):=by
    simp[Instr.box,newVar,newRow]
  have simple:∀ty:Ty,CV ty x=true->ty.cell1=true->(∀l,x≠.ag l)->AVCs (vw w O0 σ ρ) [x] xv.cells.toList:=by
    intro ty f q n;obtain⟨h1,m⟩:=w3 i f (NP i f);exact⟨_,[],sc,m n,rfl⟩
  have p:xv.cells=xv.cells.toList.toArray:=by simp
  rw[p]at g;unfold UB at h;split at h
  . rename_i u offs el b r k c a
    cases c;cases a;split at h
    . rename_i hu
      subst hu;cases h;obtain⟨cs,j,rfl⟩:=i;have j:Bw w (own O0 σ ρ) u cs k:=j;refine⟨_,_,_,g,QS.box hf sc ?_⟩;simp only[Ty.wrap,Value.cells];exact xA _ _ _ _ j
    cases h
  . rename_i u offs el b l c a
    cases c;cases a;split at h
    . cases h
      obtain⟨cs,rfl,o⟩:=i;refine⟨_,_,_,g,QS.box hf sc ?_⟩;simp only[Value.cells];exact o
    cases h
  all_goals first
    | (cases h;done)
    | (rename_i c a
       cases c;injection a with a
       subst a;split at h
       . rename_i f
         cases h;exact⟨_,_,_,g,QS.box hf sc (simple _ f rfl (λl e=>by subst e;simp[CV]at f))⟩
       cases h)
theorem cC (off:Nat):∀(a:List Value) (k:Nat) (cells:Array Value),off+k+a.length<=cells.size ->
  ((a.zipIdx k).foldl (λ(cs:Array Value) (p:Value×Nat)=>cs.setIfInBounds (off+p.2) p.1) cells).toList=A6 cells.toList (off+k) a
 | [],k,cells,_=>by simp[A6]
 | v :: a,k,cells,h=>by
  simp only[Is]at h;simp only[List.zipIdx_cons,ON];rw[cC off a (k+1) _ (by simp;omega)];simp only[A6,Array.toList_setIfInBounds,Is];apply ACv;intro j;have b:cells.toList.length=cells.size:=by simp
  simp only[AAg,AB4,Of,AAp,b,AAl,AB5,ABf,Is];grind
theorem UQ {place:Nat->Option (Nat×Nat)} {cells:Array Value} {i off:Nat} {v:Value} {rest:List (Nat×Value)} (b:place i=some (off,v.cells.size)) (a:off+v.cells.size<=cells.size) :
  Instr.fill place cells ((i,v) :: rest)=Instr.fill place (A6 cells.toList off v.cells.toList).toArray rest:=by
 have h1:¬(off+v.cells.size > cells.size):=by omega
 simp only[Instr.fill,b];rw[An (by simp;omega)]
 congr 1
 have:=cC off v.cells.toList 0 cells (by simpa using a);apply Array.ext';rw[show v.cells.zipIdx.foldl (λcs x=>cs.setIfInBounds (off+x.2) x.1) cells=(v.cells.toList.zipIdx 0).foldl (λcs x=>cs.setIfInBounds (off+x.2) x.1) cells from by
  rw[<-Array.foldl_toList];simp]
 simpa using this
def EY (V:Vw) (σ:St) (ev:Operand->Value):Prop:=∀x v,Aj σ x=some v->B4 V v (ev x)
theorem sU (e:∀n o,lk n σ.objs=some o->BC V o (V.ρ n)) {z x:Option AV} {y:AV} {v:Value} (b:∀a,x=some a->B4 V a v) (h:F7 σ z x=some y):B4 V y v:=by
 unfold F7 at h;split at h
 .rename_i t _ l;simp only[OF]at h;obtain⟨d,c,rfl⟩:=h;exact FT (V:=V) (O':=V.O) (λ_ h=>h) (λh=>by cases h) e c (b _ rfl)
 exact b _ h
theorem Nz {V:Vw} (f:∀n o,lk n σ.objs=some o->BC V o (V.ρ n)) {ev:Operand->Value} (e:EY V σ ev) {place:Nat->Option (Nat×Nat)} {offs:List (Nat×Nat)} (j:∀i p,offs[i]?=some p->place i=some p) :
  ∀ {parts:List (Nat×Operand)} {fs b:List AV} {cells:Array Value},EK σ offs fs parts=some b->AVCs V fs cells.toList ->
   ∃cells':Array Value,Instr.fill place cells (parts.map λp=>(p.1,ev p.2))=some cells'/\AVCs V b cells'.toList
 | [],fs,b,cells,h,c=>by
  simp only[EK]at h;cases h;exact⟨cells,rfl,c⟩
 | (i,x) :: r,fs,b,cells,h,c=>by
  simp only[EK]at h;cases d:F7 σ fs[i]? (Aj σ x) with
  | none=>rw[d]at h;cases h
  | some av =>
   rw[d]at h;simp only at h;split at h
   .rename_i l;obtain⟨h0,h1,m⟩:=l;have z:=sU f (λa ha=>e x a ha) d;obtain⟨q,s⟩:=A3m z h0;simp only[OF]at h1;obtain⟨B,g,v⟩:=h1;obtain⟨A,_⟩:=c.get g;have y:=c.set g q v.symm;have k:=j i _ m;rw[<-s]at k;have w:CU fs i+(ev x).cells.size<=cells.size:=by grind
    obtain⟨cells',t,u⟩:=Nz f e j h (cells:=(A6 cells.toList (CU fs i) (ev x).cells.toList).toArray) (by simpa using y);refine⟨cells',?_,u⟩;rw[oR,UQ k w];exact t
   cases h
theorem cE {α a:Type} (f:α->Sem a) (w:World):∀ {l:List α} {ys:List a},(l.map λx=>(f x).run P w)=ys.map (λy=>Result.ok y w)->(l.mapM f).run P w=.ok ys w
 | [],ys,h=>by simp_all
 | x :: l,ys,h=>by
  cases ys with
  | nil=>simp at h
  | cons y ys =>
   simp only[oR,ABD]at h;obtain⟨h1,b⟩:=h;have c:=cE f w b;simp[List.mapM_cons,h1,c]
theorem A3n (hT:D2 P tb id ti) (r:∀n o,lk n σ.objs=some o->BC (vw w O0 σ ρ) o (ρ n)) {ev:Operand->Value} (q:EY (vw w O0 σ ρ) σ ev) {d:Bool} {parts:List (Nat×Operand)} (h:J4 d σ parts (some ti)=some (vc,v,obs)) :
  obs=[]/\∃u,(Instr.build id (parts.map λp=>(p.1,ev p.2)).toArray).run P w=.ok u w/\B4 (vw w O0 σ ρ) v u:=by
 obtain⟨z,s,C⟩:=O9 hT w;unfold J4 at h;split at h
 .rename_i u offs el b x;cases x;cases c:EK σ offs (T8 d u) parts with
  | none=>rw[c]at h;simp[G2]at h
  | some D =>
   rw[c]at h;simp only[ABM,G2]at h;cases h;have a:=hT.2;have t:AVCs (vw w O0 σ ρ) (T8 d u) z.cells.toList:=by rw[C];exact jI _ d u
   simp only at a;rcases a with ⟨fs,_,hu,l⟩|⟨n,e,i,_,hu,hi,l⟩
   .have m:∀(i:Nat) (p:Nat×Nat),offs[i]?=some p->offs.toArray[i]?=some p:=λi p hh=>by simpa using hh
    obtain⟨cells',g,j⟩:=Nz r q (place:=λi=>offs.toArray[i]?) m c t;have B:(fs.mapM (λf=>do pure (f.offset,<-sizeOf f.type)):Sem (Array (Nat×Nat))).run P w=.ok offs.toArray w:=by
     rw[ABV];simp only[Sem.run_map];rw[cE (ys:=offs) _ w ?_]
     .simp
     rw [show (offs.map λy => Result.ok y w) = (offs.map some).map (λo => match o with | some y => Result.ok y w | none => .halt (.stuck "no such type") w) by simp [AAU, Function.comp_def], l, AAU]
     apply oS;intro f _;simp only[Function.comp,sizeOf,typeInfo];cases hi:P.info? f.type<;>simp[hi]
    refine⟨rfl,.agg cells',?_,cells'.toList,sc,j⟩;simp only[Instr.build,AB1,s,AAm,iF hu,B,g,ABw]
   have m:∀(k:Nat) (p:Nat×Nat),offs[k]?=some p->(λk=>some (k*i.size,i.size)) k=some p:=λk p hh=>by
    rw[l]at hh;simp only[AAV,OF]at hh;obtain⟨E,A,rfl⟩:=hh;obtain⟨h1,a⟩:=TO.1 A;simp only[ACl]at a;subst a;rfl
   obtain⟨cells',g,j⟩:=Nz r q m c t;refine⟨rfl,.agg cells',?_,cells'.toList,sc,j⟩;simp[Instr.build,s,iF hu,sizeOf,Lf w hi,g]
 cases h
end
end
section
open Go Go.RowKit
section
variable {P:Program} {tb:Tb} {id:TypeId} {ti:TI} {w:World} {O0:Nat->Prop} {σ:St} {ρ:Nat->Value} {vc:Prop} {v:AV} {obs:List (Nat×Obj)}
theorem XS {t:Ty} {w:World} {O:Nat->Prop} {v:Value} {d:t.den} (h:BX w O t v d):v.cells.size=t.size/\Bw w O t v.cells.toList d:=by
 obtain⟨cs,a,rfl⟩:=h;rw[UP a];exact⟨by simpa using a.length,a⟩
theorem Hg (w:World) (O:Nat->Prop) (e:Ty) (cells:List Value):Dm w O e cells []:=λi x h=>by simp at h
theorem cF {V:Vw} (A:∀n o,lk n σ.objs=some o->BC V o (V.ρ n)) {ev:Operand->Value} (t:EY V σ ev) {e:Ty} {N:Nat} :
  ∀ {parts:List (Nat×Operand)} {k:Nat} {xs pre:List e.den} {cells:Array Value},FG σ e k parts=some xs->cells.size=N*e.size->k+xs.length<=N->pre.length=k ->
   Dm V.w V.O e cells.toList pre ->
   ∃cells':Array Value,Instr.fill (λi=>some (i*e.size,e.size)) cells (parts.map λp=>(p.1,ev p.2))=some cells'/\cells'.size=cells.size/\Dm V.w V.O e cells'.toList (pre++xs)
 | [],k,xs,pre,cells,h,hs,hk,m,l=>by
  simp only[FG]at h;cases h;exact⟨cells,rfl,rfl,by simpa using l⟩
 | (i,x) :: r,k,xs,pre,cells,h,hs,hk,m,l=>by
  simp only[FG]at h;split at h
  .rename_i E;subst E;cases s:Aj σ x with
   | none=>rw[s]at h;cases h
   | some av =>
    rw[s]at h;simp only at h;split at h
    .rename_i y ys L M;cases h;have K:=FT (O':=V.O) (λ_ h=>h) (λh=>by cases h) A L (t x av s);obtain⟨h1,C⟩:=XS K;simp only[Is]at hk;have d:i*e.size+(ev x).cells.size<=cells.size:=by
      rw[h1,hs,<-ABr];exact AAe _ O1
     have B:(A6 cells.toList (i*e.size) (ev x).cells.toList).length=cells.size:=by
      rw[EA]
      .simp
      simpa using d
     have I:Dm V.w V.O e (A6 cells.toList (i*e.size) (ev x).cells.toList) (pre++[y]):=by
      intro j z a;rw[AB4]at a;split at a
      .rename_i F;obtain⟨es,c,f,g⟩:=l j z a;refine⟨es,c,λq u b=>?_,g⟩;have J:q<e.size:=by rw[<-c];exact(TO.1 b).1
       have H:j*e.size+q<i*e.size:=by
        have:(j+1)*e.size<=i*e.size:=AAe _ O1;rw[ABr]at this;omega
       have D:i*e.size<=cells.toList.length:=by
        have:=d;simp;omega
       simp only[A6,AAg];rw[AAn (by rw[Of];omega),AAl,At H];exact f q u b
      rename_i F;have G:j=i:=by
       have:=(TO.1 a).1;simp at this;omega
      subst G;have P:z=y:=by
       rw[m,ABB]at a;simpa using a.symm
      subst P;refine⟨(ev x).cells.toList,by simpa using h1,λq u b=>?_,C⟩;have J:q<(ev x).cells.toList.length:=(TO.1 b).1;have D:j*e.size<=cells.toList.length:=by
       have:=d;simp;omega
      have v:(cells.toList.take (j*e.size)).length=j*e.size:=by rw[Of];omega
      simp only[A6,AAg];rw[AAi (by rw[v];omega),v,AAn O1];rw[show j*e.size+q-j*e.size=q by omega];exact b
     obtain⟨cells',c,f,g⟩:=cF (N:=N) A t M (pre:=pre++[y]) (cells:=(A6 cells.toList (i*e.size) (ev x).cells.toList).toArray) (by simp[B,hs]) O1 (by simp[m]) (by simpa using I);refine⟨cells',?_,by rw[f];simp[B],by simpa using g⟩;rw[oR,UQ (by rw[h1]) d];exact c
    cases h
  cases h
theorem ZN {w:World} {et:TypeId} {sz n:Nat} {cells:Array Value} (hs:cells.size=n*sz) (hn:n<=AP) :
  (w.alloc (.cells cells et)).ownsRow w.heap.size et sz (.slice (some ⟨w.heap.size,0,none⟩) n n) n cells.toList :=
 ⟨by simpa using hs,.inr ⟨w.heap.size,n,cells,rfl,OS _,heap_alloc_new w _,OS _,by have h1:AP=140737488355328:=rfl;have a:maxLen=9223372036854775807:=rfl;omega,hs,BY (by simp[hs])⟩⟩
theorem PA (hT:D2 P tb id ti) (f:C7 P tb) (q:∀n o,lk n σ.objs=some o->BC (vw w O0 σ ρ) o (ρ n)) {ev:Operand->Value} (m:EY (vw w O0 σ ρ) σ ev) {d n:Nat} {parts:List (Nat×Operand)}
  (h:Bx false σ d n parts (some ti)=some (vc,v,obs)) (x:vc) (hf:Bk obs σ=true) :
  ∃u ρ' w',(Instr.buildSlice id n (parts.map λp=>(p.1,ev p.2)).toArray).run P w=.ok u w'/\QS w O0 σ ρ v obs u ρ' w':=by
 unfold Bx at h;split at h
 .rename_i e offs el b l;cases l;obtain⟨hu,hs,te,t,rfl⟩:=Ce hT f;obtain⟨z,y,B⟩:=O9 (f _ _ t) w;cases a:FG σ te.ty 0 parts with
  | none=>rw[a]at h;simp[B6]at h
  | some xs =>
   rw[a]at h;simp only[B6,ABl,ABs]at h;cases h;obtain⟨hn,A⟩:=x;subst hn;have r:=te.ty.size_pos;obtain⟨cells',h1,k,c⟩:=cF (V:=vw w O0 σ ρ) q m a (N:=xs.length) (pre:=[]) (cells:=(Array.range (xs.length*te.ty.size)).map (λi=>(if xs.length*te.ty.size=0 then (#[]:Array Value) else z.cells)[i % (if xs.length*te.ty.size=0 then (#[]:Array Value) else z.cells).size]!)) sc O1 rfl (Hg _ _ _ _);have j:xs.length<=AP:=by
    have:xs.length*1<=xs.length*te.ty.size:=ABN _ r;simp only[AP];omega
   have s:cells'.size=xs.length*te.ty.size:=by rw[k];simp
   refine⟨_,_,_,?_,QS.arr hf (EX w _) (ZN (et:=el) s j) j (by rw[jA]at c;exact c) rfl⟩;have g:¬(xs.length*te.ty.size > 16777216):=by omega
   by_cases h0:xs.length*te.ty.size=0
   .simp only[h0,ABa]at h1;simp[Instr.buildSlice,iF hu,hs,g,h0,newRow];simp at h1;simp[h1]
   simp only[h0,ABs]at h1;simp only[Instr.buildSlice,AB1,iF hu,AAm,hs,An g,An h0,y,ABw,h1,newRow];rfl
 cases h
theorem A6G (hT:D2 P tb id ti) (I:C7 P tb) (af:∀n o,lk n σ.objs=some o->BC (vw w O0 σ ρ) o (ρ n)) {ev:Operand->Value} (Y:EY (vw w O0 σ ρ) σ ev) {d n:Nat} {A:TypeId} {parts:List (Nat×Operand)}
  (h:J6 σ d A n parts (some ti)=some (vc,v,obs)) (D:vc) (hf:Bk obs σ=true) :
  ∃u ρ' w',(Instr.buildSlice id n (parts.map λp=>(p.1,ev p.2)).toArray).run P w=.ok u w'/\QS w O0 σ ρ v obs u ρ' w':=by
 unfold J6 at h;split at h
 .rename_i x t offs el b W;cases W;obtain⟨hu,hs,te,ai,rfl⟩:=Ce hT I;obtain⟨z,ak,ap⟩:=O9 (I _ _ ai) w;cases H:Aj σ x with
  | none=>rw[H]at h;unfold J5 at h;split at h<;>first|(cases h;done)|(rename_i E;cases E)
  | some av =>
   rw[H]at h;unfold J5 at h;split at h
   .rename_i k e Q ar aj T;cases T;have key:∀(c:k.den) (c1:List Value) (a:Option Addr),F0 (vw w O0 σ ρ) Q c1->E2 false σ k Q=some c->ev x=.agg (c1++[Value.slice a 0 0]).toArray->n=1/\k.size+1<=16777216->Bk [(d,Obj.nest el A k e [(c,[])] none)] σ=true ->
      ∃u ρ' w',(Instr.buildSlice id n ([(0,x)].map λp=>(p.1,ev p.2)).toArray).run P w=.ok u w'/\QS w O0 σ ρ (.sr d (.agg (.prod k (.slice e))) 0 1) [(d,.nest el A k e [(c,[])] none)] u ρ' w':=by
     intro c c1 a h1 s B ab hf;obtain⟨rfl,an⟩:=ab;have aa:Lay (.slice none 0 0) (.slice a 0 0):=.inr ⟨rfl,a,rfl⟩;have C:=nU (O':=own O0 σ ρ) (λ_ h=>h) (λh=>by cases h) af s h1;have C:Bw w (own O0 σ ρ) k c1 c:=C;have G:=C.length;have ah:te.ty.size=k.size+1:=by rw[aj];rfl
     rw[ah]at hs;have J:(ev x).cells.toList=c1++[Value.slice a 0 0]:=by rw[B];simp[Value.cells]
     have ag:Instr.fill (λi=>some (i*(k.size+1),k.size+1)) ((Array.range (1*(k.size+1))).map (λi=>z.cells[i % z.cells.size]!)) [(0,ev x)]=some (c1++[Value.slice a 0 0]).toArray:=by
      have K:(ev x).cells.size=k.size+1:=by rw[<-ACK,J];simp[G]
      rw[UQ (by rw[K]) (by rw[K];simp)];rw[J];simp only[Instr.fill,ADc,A6,ABi,jA,AB6];rw[List.drop_of_length_le (by simp[G]),AAu]
     generalize M:(Value.tuple #[Value.slice (some ⟨w.heap.size,0,none⟩) 1 1,.slice none 0 0])=loc;have ad:∀b,bk loc b->w.heap.size<=b:=by grind [BH,blk]
     have y:=ZN (w:=w) (et:=el) (sz:=k.size+1) (n:=1) (cells:=(c1++[Value.slice a 0 0]).toArray) (by simp[G]) (by simp[AP]);have y:(w.alloc (.cells (c1++[Value.slice a 0 0]).toArray el)).ownsRow 0 el (k.size+1) (.slice (some ⟨w.heap.size,0,none⟩) 1 1) 1 (c1++[Value.slice a 0 0]):=⟨y.1,y.2.imp (λh=>h) λ⟨g,cap,S,e,_,r⟩=>⟨g,cap,S,e,GO _,r⟩⟩;have hk:=Hp (O0:=O0) (ρ:=ρ) (ρ':=Ei ρ d loc) hf (EX w (.cells (c1++[Value.slice a 0 0]).toArray el)) (λm q=>by
      simp only[lk]at q;split at q
      .cases q
      .rename_i e;simp[Ei,e]) (λm o b q U=>by
      simp only[lk]at q;split at q
      .grind [Bp]
      cases q)
     refine⟨.slice (some ⟨w.heap.size,0,none⟩) 1 1,Ei ρ d loc,w.alloc (.cells (c1++[Value.slice a 0 0]).toArray el),?_,QS.one (EX w _) ad ?_ ?_⟩
     .have ae:¬(1*(k.size+1) > 16777216):=by omega
      have h0:¬(1*(k.size+1)=0):=by omega
      simp only[Instr.buildSlice,AB1,iF hu,AAm,hs,An ae,An h0,ak,ABw,oR,ABC,ag,newRow];rfl
     .refine⟨⟨.nest el A k e [(c,[])] none,by simp[Dq,lk]⟩,?_⟩;show DN (plc (Ei ρ d loc d)) _ 0 1 _;rw[Bp,<-M];exact GB y
     refine⟨_,[.slice none 0 0],c1++[Value.slice a 0 0],.inl M.symm,by simp[AP],rfl,y,λi aq u hi hu=>?_,λi j b u v hi L hu ao=>?_,λi b u hi U _=>?_⟩
     .rcases i with _|i
      .simp only[AC3,ABk]at hi hu;subst hi hu;refine⟨c1,.slice a 0 0,λj z L=>by simpa using L,C.mono hk.O hk.heap,.inr ⟨rfl,aa,by simp[AP],[],AC0 _ 0 A _,Hg _ _ _ _⟩⟩
      simp at hi
     .grind
     grind [blk]
    unfold LR at h;obtain⟨cs,B,V⟩:=Y x _ H;obtain⟨c1,c2,rfl,h1,E⟩:=V;obtain⟨al,R,rfl,f,F⟩:=E;have F:R=[]:=F;subst F;split at h
    .rename_i c s;cases h;obtain⟨N,rfl,_,f⟩:=f;have f:N=.slice none 0 0:=f;subst f;exact key c c1 none h1 s (by rw[B];simp) D hf
    .rename_i c am l s;split at h
     .rename_i X;subst X;cases h;obtain⟨N,rfl,_,_,a,f⟩:=f;obtain⟨D,Z⟩:=D;rw[Z]at f;subst f;exact key c c1 a h1 s (by rw[B];simp) D hf
     cases h
    cases h
   cases h
 cases h
theorem W8 (z:List Value) (f:0<z.length) (n:Nat) {i j:Nat} (b:j<z.length) (hi:i*z.length+j<n) {u:Value} (hu:z[j]?=some u) :
  (madeCells z.toArray n)[i*z.length+j]?=some u:=by
 simp only[madeCells,Array.getElem?_map,List.size_toArray];have e:(Array.range n)[i*z.length+j]?=some (i*z.length+j):=by grind
 rw[e];have d:(i*z.length+j) % z.length=j:=by
  rw[Nat.mul_comm,Nat.mul_add_mod];exact Nat.mod_eq_of_lt b
 simp only[ABM,d];have c:=(TO.1 hu);obtain⟨h1,a⟩:=c;simp[h1,a]
theorem A3o (hT:D2 P tb id ti) (f:C7 P tb) {offs:List (Nat×Nat)} {el:TypeId} {b:Nat} (y:ti=⟨.slice e,offs,el,b⟩) {te:TI} (l:lk el tb.ty=some te) {n:Int} {d:Nat}
  (h0:0<=n) (hn:n.toNat*te.bytes<=AP) (hf:Bk [(d,.arr el e (List.replicate n.toNat e.dflt))] σ=true) :
  ∃u ρ' w',(Instr.makeSlice id (.int .i64 n) (.int .i64 n)).run P w=.ok u w'/\QS w O0 σ ρ (.sr d e 0 n.toNat) [(d,.arr el e (List.replicate n.toNat e.dflt))] u ρ' w':=by
 subst y;obtain⟨hu,hs,G,m,rfl⟩:=Ce hT f;rw[l]at m;cases m;obtain⟨⟨⟨_,p,_⟩,i,z,hi,k,E,C,D⟩,_⟩:=f _ _ l;have F:=te.ty.size_pos;have a:n.toNat<=AP:=by
  have:n.toNat*1<=n.toNat*te.bytes:=ABN _ p;omega
 have o:(i.bytes:Int)*n<=281474976710656:=by grind [AP]
 have v:=run_make (P:=P) w id el i z hu hi C .i64 .i64 n n h0 (ABt _) o (by simp only[AP]at a;omega);have c:te.ty.zero.length=te.ty.size:=(Bw.zero w (λ_=>False) te.ty).length;refine⟨_,_,_,v,QS.arr hf (EX w _) (ZN (et:=el) (sz:=te.ty.size) (n:=n.toNat) (cells:=madeCells z.cells (n.toNat*i.size)) (by rw[size_madeCells,k]) a |> λh=>by simpa using h) (by simpa using a) ?_ sc⟩;intro j x A;have r:=(TO.1 A).1;simp only[List.length_replicate]at r;have B:x=te.ty.dflt:=by grind
 subst B;refine⟨te.ty.zero,c,λq u g=>?_,Bw.zero _ _ _⟩;have t:=(TO.1 g).1;have s:j*te.ty.zero.length+q<n.toNat*i.size:=by
  rw[k,c];have:(j+1)*te.ty.size<=n.toNat*te.ty.size:=AAe _ O1;rw[ABr]at this;omega
 have:=W8 te.ty.zero O1 (n.toNat*i.size) t s g;rw[c]at this;rw[D];simpa using this
theorem A6H (hT:D2 P tb id ti) (i:C7 P tb) {d:Nat} {x y:AV} {xv c:Value} (h:JT tb d (some ti) (some x) (some y)=some (vc,v,obs)) (o:vc)
  (p:B4 (vw w O0 σ ρ) x xv) (q:B4 (vw w O0 σ ρ) y c) (hf:Bk obs σ=true) :
  ∃u ρ' w',(Instr.makeSlice id xv c).run P w=.ok u w'/\QS w O0 σ ρ v obs u ρ' w':=by
 unfold JT at h;split at h
 .rename_i e offs el b n m j k l;cases j;cases k;cases l;cases a:lk el tb.ty with
  | none=>rw[a]at h;simp[Np]at h
  | some te =>
   rw[a]at h;simp only[Np]at h;cases h;obtain⟨rfl,_⟩:=BU p;obtain⟨rfl,_⟩:=BU q;obtain⟨h1,f,g⟩:=o;have h1:n=m:=h1;subst h1;exact A3o hT i rfl a f g hf
 cases h
end
end
section
open Go Go.RowKit
theorem XT {w:World} {O:Nat->Prop} {e:Ty}:∀ {l:List e.den} {ad:Addr},
  (∀(i:Nat) (x:e.den),l[i]?=some x->∃es:List Value,es.length=e.size/\(∀(j:Nat) (v:Value),es[j]?=some v->w.cell? (ad.add (i*e.size+j))=some v)/\Bw w O e es x) ->
  ∃b:List Value,b.length=l.length*e.size/\Dm w O e b l/\(∀u∈b,u.oneCell'=true)/\(∀(j:Nat) (u:Value),b[j]?=some u->w.cell? (ad.add j)=some u)
 | [],ad,h=>⟨[],sc,Hg _ _ _ _,sc,sc⟩
 | x :: l,ad,h=>by
  obtain⟨es,h1,p,k⟩:=h 0 x rfl;obtain⟨b,m,n,o,q⟩:=XT (w:=w) (O:=O) (e:=e) (l:=l) (ad:=ad.add e.size) (λi y hi=>by
   obtain⟨c,d,f,g⟩:=h (i+1) y (by simpa using hi);refine⟨c,d,λj v a=>?_,g⟩;rw[Cu,show e.size+(i*e.size+j)=(i+1)*e.size+j by rw[ABr];omega];exact f j v a)
  refine⟨es++b,by simp[h1,m,ABr];omega,λi y hi=>?_,λu hu=>?_,λj u a=>?_⟩
  .cases i with
   | zero =>
    simp at hi;subst hi;refine⟨es,h1,λj u a=>?_,k⟩;rw[ADc,AB6,AAn (TO.1 a).1];exact a
   | succ i =>
    obtain⟨c,d,f,g⟩:=n i y (by simpa using hi);refine⟨c,d,λj u a=>?_,g⟩;rw[AAi (by rw[h1,ABr];omega),h1,show (i+1)*e.size+j-e.size=i*e.size+j by rw[ABr];omega];exact f j u a
  .rcases IN.1 hu with hu|hu
   .exact k.one u hu
   exact o u hu
  grind [Cu]
section
variable {P:Program} {tb:Tb} {id:TypeId} {ti:TI} {w:World} {O0:Nat->Prop} {σ:St} {ρ:Nat->Value} {vc:Prop} {v:AV} {obs:List (Nat×Obj)}
structure Src (w:World) (O:Nat->Prop) (e:Ty) (xv:Value) (ys:List e.den) (news:List Value):Prop where
 form:∃(a:Option Addr) (c:Nat),xv=.slice a ys.length c/\(ys=[]\/∃ad,a=some ad/\∀(j:Nat) (u:Value),news[j]?=some u->w.cell? (ad.add j)=some u)
 len:news.length=ys.length*e.size
 elems:Dm w O e news ys
 one:∀u∈news,u.oneCell'=true
 max:ys.length<=AP
theorem TA (w:World) (O:Nat->Prop) (e:Ty) (a:Option Addr) (c:Nat):Src w O e (.slice a 0 c) [] [] :=
 ⟨⟨a,c,rfl,.inl rfl⟩,sc,Hg _ _ _ _,sc,by simp[AP]⟩
theorem XU {et:TypeId} {xs:List e.den} {loc:Value} {cells:List Value} (i:V.w.ownsRow 0 et e.size loc xs.length cells) (f:Dm V.w V.O e cells xs):∀u∈cells,u.oneCell'=true:=by
 intro u hu;obtain⟨j,g,h⟩:=wL.1 hu;have k:=i.1;have b:=e.size_pos;have hi:j / e.size<xs.length:=by
  rw[Nat.div_lt_iff_lt_mul b];omega
 obtain⟨es,h1,c,d⟩:=f (j / e.size) (xs[j / e.size]) (As hi);have a:j % e.size<es.length:=by rw[h1];exact ADh _ b
 have:=c (j % e.size) (es[j % e.size]) (As a);rw[show j / e.size*e.size+j % e.size=j by rw[Nat.mul_comm];exact Nat.div_add_mod j e.size]at this;rw[As g]at this;injection this with this
 rw[<-h,this];exact d.one _ (AAd a)
def noN (σ:St):AV->Bool
 | .sr n _ _ _=>C5 (lk n σ.objs)
 | _=>false
theorem nW {w:World} {O:Nat->Prop} {et:TypeId} {b:Ty} {xs:List b.den} {loc xv:Value} {cells:List Value} {lo hi:Nat} (N:xs.length<=AP) (f:w.ownsRow 0 et b.size loc xs.length cells) (n:Dm w O b cells xs) (E:DN loc b.size lo hi xv) :
  ∃G,Src w O b xv (sub xs lo hi) G:=by
 have R:=XU (V:=⟨w,O,λ_=>False,λ_=>undef⟩) f n;obtain⟨a,m,c,q,L,o,k,l,rfl,H,h0,h1⟩:=E;have C:m=xs.length:=by
  rcases f.2 with ⟨d,D⟩|⟨g,cap,s,d,_⟩
  .grind
  rw[q]at d;injection d
 subst C;have e:=Nw xs (lo:=lo) o;by_cases A:lo<hi
 .rcases f.2 with ⟨d,D⟩|⟨g,cap,s,d,r⟩
  .omega
  have I:=World.ownsRow.cells f (g:=g) (by rw[d];rfl);have ha:a=some ⟨g,0,none⟩:=by rw[q]at d;injection d
  subst ha;have J:=f.1;have P:hi*b.size<=xs.length*b.size:=AAe _ o;have Q:lo*b.size<=hi*b.size:=AAe _ O1;refine⟨(cells.drop (lo*b.size)).take ((hi-lo)*b.size),⟨k,l,by rw[e],.inr ⟨_,h1 A,λj u h=>?_⟩⟩,?_,?_,?_,?_⟩
  .grind [Cu]
  .rw[e,Of,ABv,Nat.sub_mul];omega
  .intro i x z;obtain⟨F,M⟩:=ZG xs lo hi i z;obtain⟨es,t,v,y⟩:=n (lo+i) x F;refine⟨es,t,λj u h=>?_,y⟩;have K:=(TO.1 h).1;have B:i*b.size+j<(hi-lo)*b.size:=by
    have:(i+1)*b.size<=(hi-lo)*b.size:=AAe _ O1;rw[ABr]at this;omega
   rw[AAl,At B,AB5];have:=v j u h
   rwa [ACt,AD2]at this
  .grind
  rw[e];omega
 have p:sub xs lo hi=[]:=AAc (by rw[e];omega);refine⟨[],⟨k,l,by rw[e],.inl p⟩,by rw[e,show hi-lo=0 by omega];simp,?_,sc,by rw[e];omega⟩;rw[p];exact Hg _ _ _ _
theorem ZO (q:∀n o,lk n σ.objs=some o->BC (vw w O0 σ ρ) o (ρ n)) {x:AV} {xv:Value} {ys:List e.den} (h:I1 true σ (.slice e) x=some ys) (F:noN σ x=false) (s:B4 (vw w O0 σ ρ) x xv) :
  ∃C,Src w (own O0 σ ρ) e xv ys C:=by
 replace h:E2 true σ (.slice e) x=some ys:=by
  unfold I1 at h;exact h
 cases x;case p u I =>
  have h:BZ (.slice e) ⟨u,I⟩=some ys:=by simpa only[E2] using h
  have:=BJ h;injection this with h1 D
  subst h1;cases D;obtain⟨cs,⟨a,c,rfl,m,N,y⟩,rfl⟩:=s;by_cases hn:ys=[]
  .subst hn;exact⟨[],TA _ _ _ _ _⟩
  rcases y with y|⟨ad,rfl,X,g⟩
  .exact absurd y hn
  obtain⟨C,d,f,K,M⟩:=XT g;exact⟨C,⟨some ad,c,rfl,.inr ⟨ad,rfl,M⟩⟩,d,f,K,N⟩
 case sr n J lo hi =>
  simp only[E2]at h;split at h
  .rename_i A;obtain⟨_,rfl⟩:=A;obtain⟨O,b⟩:=s;cases hn:lk n σ.objs with
   | none=>rw[hn]at h;simp[Ov]at h
   | some o =>
    rw[hn]at h;cases o with
    | box et st fs=>simp[Ov]at h
    | mapo k v l=>simp[Ov]at h
    | frame ah fs=>simp[Ov]at h
    | loop L=>simp[Ov]at h
    | itr ab ag ae af aa=>simp[Ov]at h
    | dfr=>simp[Ov]at h
    | sit sb sp=>simp[Ov]at h
    | nest et V k t xs E=>rw[noN,hn]at F;cases F
    | arr et t xs =>
     simp only[Ov]at h;obtain⟨d,f⟩:=Bt h;subst d;cases f;have b:DN (plc (ρ n)) t.size lo hi xv:=b;rw[S8 (q n _ hn)]at b;obtain⟨B,cells,j,g⟩:=q n _ hn;exact nW B j g b
  cases h
 case nin n J i len =>
  simp only[E2]at h;split at h
  .rename_i A;obtain⟨_,rfl⟩:=A;obtain⟨O,aj,a,c,H,G,r,R,Y⟩:=s;cases hn:lk n σ.objs with
   | none=>rw[hn]at h;simp[Sm]at h
   | some o =>
    rw[hn]at h;unfold Sm at h;split at h
    .rename_i et V k t xs T;cases T;obtain⟨d,f⟩:=Bt h;subst d;cases f;have Q:=ZJ (z:=(k.dflt,[])) (q n _ hn) G r;obtain⟨o,ins,cells,E,P⟩:=q n _ hn;obtain rfl:=E.tup G;have r:ins[i]?=some H:=by simpa using r
     obtain⟨c1,ai,h1,D,m⟩:=P.row i _ H Q r;rcases m with ⟨m,_⟩|⟨_,_,B,Z,j,g⟩
     .cases m
     rcases R with rfl|⟨rfl,W,rfl⟩
     .have:=nW B j g (GB j)
      rwa [J2]at this
     have S:=KE j;have U:(xs.getD i (k.dflt,[])).2=[]:=AAc S.symm;rw[U];exact⟨[],TA _ _ _ _ _⟩
    cases h
  cases h
 case raw u =>
  have b:xv=u:=s;subst b;cases xv with
  | slice a n c =>
   cases a with
   | some a=>simp[E2]at h
   | none =>
    cases n with
    | succ n=>simp[E2]at h
    | zero =>
     cases c with
     | succ c=>simp[E2]at h
     | zero =>
      simp only[E2]at h;cases h;exact⟨[],TA _ _ _ _ _⟩
  | _=>simp[E2]at h
 all_goals simp[E2]at h
theorem TB (a:∀n o,lk n σ.objs=some o->BC (vw w O0 σ ρ) o (ρ n)) {x:AV} {xv:Value} {ys:List e.den} (h:Ow σ e x=some ys) (b:B4 (vw w O0 σ ρ) x xv) :
  ∃f,Src w (own O0 σ ρ) e xv ys f:=by
 unfold Ow at h;split at h
 .split at h
  .cases h
  rename_i c;exact ZO a h (by simpa[noN] using c) b
 rename_i d;refine ZO a h ?_ b;cases x<;>first|rfl|exact absurd rfl (d _ _ _ _)
theorem R5 {el:TypeId} (hu:P.underlying id=some (.slice el)) {sz:Nat} (hs:(sizeOf el).run P w=.ok sz w) {base et ty:Nat} {s:Value} {n:Nat} {xs:List Value} (b:w.ownsRow base et sz s n xs) (c:Nat) :
  (Builtin.append_ #[id,id] ty #[s,.slice none 0 c]).run P w=.ok s w:=by
 rcases b.2 with ⟨rfl,rfl⟩|⟨g,cap,d,rfl,_,_,a,_⟩
 .simp[Builtin.append_,iF hu,hs,Builtin.lenOf,Builtin.firstCells]
 simp[Builtin.append_,iF hu,hs,Builtin.lenOf,Builtin.firstCells,a,storeCells]
theorem GD (k:C7 P tb) {el:TypeId} (hu:P.underlying id=some (.slice el)) {te:TI} (q:lk el tb.ty=some te) (A:te.ty=e) {base ty:Nat} {s xv:Value} {n:Nat} {xs h:List Value}
    (g:w.ownsRow base el e.size s n xs) {O:Nat->Prop} {ys:List e.den} (D:Src w O e xv ys h) (r:(n+ys.length)*te.bytes<=AP) (l:base<=w.heap.size) :
    ∃b w',(Builtin.append_ #[id,id] ty #[s,xv]).run P w=.ok b w'/\w'.ownsRow base el e.size b (n+ys.length) (xs++h)/\w.grownBy w' s.ownBlock/\n+ys.length<=AP:=by
  subst A;obtain⟨⟨⟨_,x,_⟩,i,z,hi,p,m,t,u⟩,_⟩:=k _ _ q;have f:n+ys.length<=AP:=by
    have:(n+ys.length)*1<=(n+ys.length)*te.bytes:=ABN _ x;omega
  obtain⟨⟨a,c,rfl,v⟩,o,E,C,F⟩:=D;have hs:(sizeOf el).run P w=.ok te.ty.size w:=Hq w (k _ _ q);rcases v with rfl|⟨ad,rfl,y⟩
  . have B:h=[]:=AAc (by simpa using o)
    subst B;cases a with
    | none =>
      refine⟨s,w,R5 hu hs g c,by simpa using g,⟨rfl,rfl,rfl,OS _,λ_ _ _=>rfl⟩,f⟩
    | some ad =>
      obtain⟨b,w',h1,d,j,_⟩:=run_append_own (P:=P) w base id ty el i z te.ty.size te.bytes hu hi t p m (by rw[u];simpa using (Bw.zero w (λ_=>False) te.ty).length) te.ty.size_pos s n xs g ad 0 c [] sc sc sc
        (by have h1:AP=140737488355328:=rfl;have d:maxLen=9223372036854775807:=rfl;simp at f;omega) (by simpa[AP] using r) l
      exact⟨b,w',h1,by simpa using d,j,f⟩
  obtain ⟨b, w', h1, d, j, _⟩ := run_append_own (P := P) w base id ty el i z te.ty.size te.bytes hu hi t p m (by rw [u]; simpa using (Bw.zero w (λ_ => False) te.ty).length) te.ty.size_pos s n xs g ad ys.length c h o y C
      (by have h1:AP=140737488355328:=rfl;have d:maxLen=9223372036854775807:=rfl;omega) (by simpa[AP] using r) l
  exact⟨b,w',h1,d,j,f⟩
theorem KH {w:World} {O:Nat->Prop} {c1 c2:List Value} {xs ys:List e.den} (h1:Dm w O e c1 xs) (d:Dm w O e c2 ys) (g:c1.length=xs.length*e.size):Dm w O e (c1++c2) (xs++ys):=by
 intro i x hi;rw[AB4]at hi;split at hi
 .obtain⟨es,a,b,c⟩:=h1 i x hi;grind
 rename_i h;obtain⟨es,a,b,c⟩:=d _ x hi;refine⟨es,a,λj u f=>?_,c⟩;have k:xs.length*e.size<=i*e.size:=AAe _ O1;rw[AAi O1,g];have:=b j u f;rw[Nat.sub_mul]at this;rw[<-this]
 congr 1
 omega
theorem R6 (k:C7 P tb) {el:TypeId} (hu:P.underlying id=some (.slice el)) {te:TI} (m:lk el tb.ty=some te) (x:te.ty=e) {ty:Nat} {xv:Value} {O:Nat->Prop} {xs:List e.den} {a:Option Addr} {c:List Value}
  (hs:Src w O e (.slice a xs.length xs.length) xs c) {ys:List e.den} {d:List Value} (l:Src w O e xv ys d) (h0:0<ys.length) (n:(xs.length+ys.length)*te.bytes<=AP) :
  ∃b w',(Builtin.append_ #[id,id] ty #[.slice a xs.length xs.length,xv]).run P w=.ok b w'/\w'.ownsRow w.heap.size el e.size b (xs.length+ys.length) (c++d)/\w.grownBy w' none:=by
 subst x;have o:∀ad:Addr,a=some ad->(∀(j:Nat) (u:Value),c[j]?=some u->w.cell? (ad.add j)=some u)->∃b w',(Builtin.append_ #[id,id] ty #[.slice a xs.length xs.length,xv]).run P w=.ok b w'/\w'.ownsRow w.heap.size el te.ty.size b (xs.length+ys.length) (c++d)/\w.grownBy w' none:=by
  intro ad ha D;subst ha;obtain⟨⟨⟨_,s,_⟩,i,z,hi,E,t,F,G⟩,_⟩:=k _ _ m;obtain⟨⟨I,c2,rfl,f⟩,A,M,T,Q⟩:=l;have S:xs.length+ys.length<=AP:=by
   have:(xs.length+ys.length)*1<=(xs.length+ys.length)*te.bytes:=ABN _ s;omega
  rcases f with rfl|⟨p,rfl,g⟩
  .simp at h0
  exact run_append_arg_grows (P:=P) w id ty el i z te.ty.size te.bytes hu hi F E t (by rw[G];simpa using (Bw.zero w (λ_=>False) te.ty).length) te.ty.size_pos ad xs.length xs.length c hs.len D p ys.length c2 d A g O1
   (by have h1:AP=140737488355328:=rfl;have h:maxLen=9223372036854775807:=rfl;omega) (by simpa[AP] using n)
 obtain⟨⟨H,c1,v,f⟩,B,N,U,R⟩:=hs;injection v with q J K
 subst q;rcases f with rfl|⟨ad,ha,g⟩
 .have C:c=[]:=AAc (by simpa using B);subst C;cases a with
  | some ad=>exact o ad rfl λj u y=>by simp at y
  | none =>
   obtain⟨b,w',h1,h,r,L⟩:=GD (ty:=ty) k hu m rfl (AC0 w w.heap.size el te.ty.size) l (by simpa using n) (OS _);exact⟨b,w',h1,by simpa using h,r⟩
 exact o ad ha g
theorem R7 {w w':World} (h:w.grownBy w' none):Below w.heap.size w w':=⟨h.os,h.tape,h.output,h.size,λk hk=>h.block k hk sc⟩
theorem xB (a:C7 P tb) (E:∀n o,lk n σ.objs=some o->BC (vw w O0 σ ρ) o (ρ n)) {d:Nat} {t u:TypeId} {x y:AV} {xv J:Value} {ty:TypeId}
  (h:C0 tb σ d t u (some x) (some y)=some (vc,v,obs)) (m:vc) (q:B4 (vw w O0 σ ρ) x xv) (H:B4 (vw w O0 σ ρ) y J) (hf:Bk obs σ=true) :
  ∃z ρ' w',(Builtin.append_ #[t,u] ty #[xv,J]).run P w=.ok z w'/\QS w O0 σ ρ v obs z ρ' w':=by
 unfold C0 at h;split at h
 .rename_i C D;cases C;cases D;have q:xv=_:=q;subst q;split at h
  .rename_i G;subst G;cases c:lk t tb.ty with
   | none=>rw[c]at h;simp[E5]at h
   | some ti =>
    rw[c]at h;unfold E5 at h;split at h
    .rename_i e offs el b B;cases B;obtain⟨hu,hs,te,i,k⟩:=Ce (a _ _ c) a;rw[i]at h;cases f:Ow σ e y with
     | none=>rw[f]at h;simp[Fh]at h
     | some ys =>
      rw[f]at h;simp only[Fh]at h;cases h;obtain⟨I,g⟩:=TB E f H;obtain⟨r,w',h1,j,A,Q⟩:=GD (ty:=ty) a hu i k (AC0 w w.heap.size el e.size) g (by simpa using m) (OS _);have j:w'.ownsRow w.heap.size el e.size r ys.length I:=by simpa using j
      exact⟨r,_,w',h1,QS.arr hf (R7 A) j g.max g.elems rfl⟩
    cases h
  cases h
 .rename_i e l v1 C D;cases C;cases D;split at h
  .rename_i G;subst G;obtain⟨M,O,rfl⟩:=q;cases c:lk t tb.ty with
   | none=>rw[c]at h;simp[KB]at h
   | some ti =>
    rw[c]at h;unfold KB at h;split at h
    .rename_i s offs el b B;cases B;split at h
     .rename_i k;subst k;obtain⟨hu,hs,te,i,k⟩:=Ce (a _ _ c) a;rw[i]at h;cases f:Ow σ s y with
      | none=>rw[f]at h;simp[LS]at h
      | some ys =>
       rw[f]at h;simp only[LS]at h;cases h;obtain⟨N,m⟩:=m;obtain⟨I,g⟩:=TB E f H;obtain⟨R,F⟩:=ZO (e:=s) (ys:=l) (x:=.p (.slice s) l) E (by simp[I1,E2,Ga]) rfl M;obtain⟨r,w',h1,j,A⟩:=R6 (ty:=ty) a hu i k F g N m;have L:(l++ys).length<=AP:=by
        obtain⟨⟨⟨_,K,_⟩,_⟩,_⟩:=a _ _ i;have:(l.length+ys.length)*1<=(l.length+ys.length)*te.bytes:=ABN _ K;rw[IS];omega
       exact⟨r,_,w',h1,QS.arr hf (R7 A) (by rw[IS];exact j) L (KH F.elems g.elems F.len) (by rw[IS])⟩
     cases h
    cases h
  cases h
 cases h
end
end
section
open Go Go.RowKit
def UR:Ty->Option TypeDesc
 | .int k=>some (.int k)
 | .bool=>some .bool
 | .str=>some .string
 | .prod _ _=>none
 | .agg _=>none
 | .slice _=>none
 | .ref _=>none
section
variable {w:World} {O:Nat->Prop}
theorem Mk {a:Ty} (b:UR a=some d) {k:a.den} {c:Value} (h:BX w O a c k):MapKept.IsKey d c:=by
 cases a<;>simp only[UR]at b<;>try(cases b;done)
 all_goals cases b
 .obtain⟨rfl,_⟩:=BU h;trivial
 .have:=EB h;subst this;trivial
 obtain⟨rfl,_⟩:=Gf h;trivial
theorem cH {a:Ty} (c:UR a=some d) {k e:a.den} {g:Value} (h:BX w O a f k) (b:BX w O a g e):Instr.sameNow d f g=some (Hc a k e):=by
 cases a<;>simp only[UR]at c<;>try(cases c;done)
 all_goals cases c
 .obtain⟨rfl,_⟩:=BU h;obtain⟨rfl,_⟩:=BU b;simp[Instr.sameNow,Hc]
 .have:=EB h;subst this;have:=EB b;subst this;simp[Instr.sameNow,Hc]
 obtain⟨rfl,_⟩:=Gf h;obtain⟨rfl,_⟩:=Gf b;simp[Instr.sameNow,Hc]
theorem A6I {a:Ty} (b:UR a=some d) {k e:a.den} {g:Value} (h:BX w O a f k) (c:BX w O a g e) (l:Hc a k e=true):g=f:=by
 have h1:=cH b h c;obtain⟨r,i,j⟩:=MapKept.sameNow_of_keys (Mk b h) (Mk b c);grind
def Lg (a b:Ty) (k:a.den):List MapEntry->List (a.den×b.den)->Nat->Option (Nat×Value)
 | e :: es,x :: l,i=>if Hc a k x.1=true then some (i,e.val) else Lg a b k es l (i+1)
 | _,_,_=>none
end
structure ZP (P:Program) (kid:TypeId) (kt:Ty):Prop where
 check:∀ {w:World} {O:Nat->Prop} {kv:Value} {k:kt.den} (em:Bool),BX w O kt kv k->(Instr.checkKey em 10000 kid kv).run P w=.ok () w
 find:∀ {w:World} {O:Nat->Prop} {vt:Ty} {es:List MapEntry} {l:List (kt.den×vt.den)} {kv:Value} {k:kt.den},BX w O kt kv k->Nu w O kt vt es l->(Instr.findKey kid kv es).run P w=.ok (Lg kt vt k es l 0) w
 stays:∀ {w:World} {O:Nat->Prop} {kv:Value} {k:kt.den},BX w O kt kv k->(Instr.keyThatStays kv kv).run P w=.ok kv w
 same:∀ {w:World} {O:Nat->Prop} {kv kv':Value} {k k':kt.den},BX w O kt kv k->BX w O kt kv' k'->Hc kt k k'=true->kv'=kv
theorem XV {w:World} {O:Nat->Prop} {a b:Ty} {d:TypeDesc} (f:UR a=some d) {k:a.den} {g:Value} (hk:BX w O a g k):∀ {es:List MapEntry} {l:List (a.den×b.den)},Nu w O a b es l->∀i,Instr.findNow d g es i=some (Lg a b k es l i)
 | [],[],_,i=>rfl
 | [],_ :: _,h,_=>h.elim
 | _ :: _,[],h,_=>h.elim
 | e :: es,x :: l,⟨h1,n,j⟩,i=>by
  have hs:=cH f hk h1;have m:=XV f hk j (i+1);cases c:Hc a k x.1<;>rw[c]at hs<;>simp[Instr.findNow,Lg,hs,c,m]
theorem I8 (hd:UR e=some d) (hu:P.underlying t=some d):ZP P t e where
 check:=λem h=>MapKept.run_checkKey hu (Mk hd h) em 9999
 find:=λhk he=>MapKept.run_findKey hu (XV hd hk he 0)
 stays:=λh=>MapKept.run_keyThatStays (Mk hd h)
 same:=λh h' he=>A6I hd h h' he
theorem EC {O:Nat->Prop} {v:Value} {d:(Ty.agg (.prod (.int a) (.int b))).den} (h:BX w O (.agg (.prod (.int a) (.int b))) v d):v=.agg #[.int a d.1,.int b d.2]:=by
 obtain⟨cs,⟨c1,c2,rfl,⟨rfl,_⟩,⟨rfl,_⟩⟩,rfl⟩:=h;rfl
theorem Lh (h:P.underlying t=some (.int a)) (d:Nat) (x y:Int):(Op.equalIn (d+1) t (.int a x) (.int a y)).run P w=.ok (x==y) w:=by simp[Op.equalIn,iF h]
theorem PB (h:P.underlying t=some (.int a)) (em:Bool) (d:Nat) (x:Int):(Instr.checkKey em (d+1) t (.int a x)).run P w=.ok () w:=by simp[Instr.checkKey,iF h]
theorem W9 {h:TypeId} (n:KF P h a b) (em:Bool) (d:Nat) (x y:Int):(Instr.checkKey em (d+2) h (.agg #[.int a x,.int b y])).run P w=.ok () w:=by
 obtain⟨c,e,hu,⟨h1,j⟩,⟨l,m⟩,⟨f,g⟩,t⟩:=n;have i : c.name ≠ "_" := by simpa using h1
 have k : e.name ≠ "_" := by simpa using j
 have o:P.plainKey c.type=true:=by simp[Program.plainKey,f]
 have p:P.plainKey e.type=true:=by simp[Program.plainKey,g]
 have p0:=λ(u v:Value)=>ACe (P:=P) w o (xs:=#[u,v]) (off:=c.offset) (v:=u) (by rw[l];rfl);have q:=λ(u v:Value)=>ACe (P:=P) w p (xs:=#[u,v]) (off:=e.offset) (v:=v) (by rw[m];rfl);have r:=λx:Int=>PB (w:=w) f em d x;have s:=λx:Int=>PB (w:=w) g em d x;rw[Instr.checkKey];simp[iF hu,i,k,p0,q,r,s]
theorem N0 {g:TypeId} (z:KF P g a b) (w:World) (h i j k:Int):(Op.equal g (.agg #[.int a h,.int b i]) (.agg #[.int a j,.int b k])).run P w=.ok ((h==j)&&(i==k)) w:=by
 obtain⟨d,f,hu,⟨h1,l⟩,⟨r,s⟩,⟨m,n⟩,t⟩:=z;have o:P.fieldsOf g=#[d,f]:=by simp[Program.fieldsOf,hu]
 have A:P.plainKey d.type=true:=by simp[Program.plainKey,m]
 have B:P.plainKey f.type=true:=by simp[Program.plainKey,n]
 have h1 : d.name ≠ "_" := by simpa using h1
 have l : f.name ≠ "_" := by simpa using l
 have C:∀x y:Int,(Op.equalIn 9999 d.type (.int a x) (.int a y)).run P w=.ok (x==y) w:=λx y=>Lh m 9998 x y;have p:∀x y:Int,(Op.equalIn 9999 f.type (.int b x) (.int b y)).run P w=.ok (x==y) w:=λx y=>Lh n 9998 x y;have e:(Op.equal g (.agg #[.int a h,.int b i]) (.agg #[.int a j,.int b k])).run P w=_:=run_equalIn_struct (P:=P) w 9999 g _ _ (by rw[o];exact hu) t;rw[e,o];have p0:=λ(u v:Value)=>ACe (P:=P) w A (xs:=#[u,v]) (off:=d.offset) (v:=u) (by rw[r];rfl);have q:=λ(u v:Value)=>ACe (P:=P) w B (xs:=#[u,v]) (off:=f.offset) (v:=v) (by rw[s];rfl);simp only[Op.eqFields,h1,l,ne_eq,ACZ,ABa,AB1,p0,q,AAm,C,p];by_cases c:h=j
 .by_cases c2:i=k<;>simp[c,c2,AD3,AB1,q,p,Op.eqFields]
 simp[c,AD3]
theorem XW {P:Program} {g:TypeId} {a b:IntKind} (d:KF P g a b) {w:World} {O:Nat->Prop} {c:Ty} {k:(Ty.agg (.prod (.int a) (.int b))).den} {j:Value} (hk:BX w O (.agg (.prod (.int a) (.int b))) j k) :
  ∀ {es:List MapEntry} {l:List ((Ty.agg (.prod (.int a) (.int b))).den×c.den)},Nu w O (.agg (.prod (.int a) (.int b))) c es l->∀i,(Instr.findAsking g j es i).run P w=.ok (Lg (.agg (.prod (.int a) (.int b))) c k es l i) w
 | [],[],_,i=>rfl
 | [],_ :: _,h,_=>h.elim
 | _ :: _,[],h,_=>h.elim
 | e :: es,x :: l,⟨h1,p,m⟩,i=>by
  have o:=XW d hk m (i+1);have f:=N0 d w k.1 k.2 x.1.1 x.1.2;rw[<-EC hk,<-EC h1]at f;have n:Hc (.agg (.prod (.int a) (.int b))) k x.1=((k.1==x.1.1)&&(k.2==x.1.2)):=rfl;simp only[Instr.findAsking,AB1,f,AAm,Lg,n,AD3];split
  .rfl
  exact o
theorem cI (hp:KF P t a b):ZP P t (.agg (.prod (.int a) (.int b))) where
 check:=λem h=>by
  rw[EC h];exact W9 hp em 9998 _ _
 find:=λhk he=>by
  have hp2:=hp;obtain⟨f0,f1,hu,_⟩:=hp2;rw[run_findKey_eq _ (by rw[hu])];exact XW hp hk he 0
 stays:=λh=>by
  rw[EC h];simp[Instr.keyThatStays,Instr.sameBits]
 same:=λh h' he=>by
  rw[EC h,EC h'];have he:((_==_)&&(_==_))=true:=he;grind
theorem Qr {P:Program} {A:TypeId} {w:World} {O:Nat->Prop} {c a:Ty} (s:ZP P A c) {k:c.den} {m:Value} (hk:BX w O c m k):∀ {es:List MapEntry} {l:List (c.den×a.den)},Nu w O c a es l->∀i,
  (BV c a k l=none/\Lg c a k es l i=none/\∀(v:a.den) (d:Value) (b:Nat),BX w O a d v->Nu w O c a (es++[⟨m,d,b⟩]) (FH c a k v l)) \/
  ∃(j:Nat) (e:MapEntry) (v0:a.den),BV c a k l=some v0/\Lg c a k es l i=some (i+j,e.val)/\es[j]?=some e/\BX w O a e.val v0/\e.key=m /\
   ∀(v:a.den) (d:Value),BX w O a d v->Nu w O c a (es.modify j λe=>{ e with key:=m,val:=d }) (FH c a k v l)
 | [],[],_,i=>.inl ⟨rfl,rfl,λv d b g=>⟨hk,g,trivial⟩⟩
 | [],_ :: _,h,_=>h.elim
 | _ :: _,[],h,_=>h.elim
 | e :: es,x :: l,⟨h1,p,r⟩,i=>by
  cases f:Hc c k x.1 with
  | true =>
   refine .inr ⟨0,e,x.2,by simp[BV,f],by simp[Lg,f],rfl,p,s.same hk h1 f,λv d g=>?_⟩;simp only[FH,f,ABa];exact⟨hk,g,r⟩
  | false =>
   rcases Qr s hk r (i+1) with ⟨n,q,o⟩|⟨j,t,v0,n,q,o,u,y,z⟩
   .refine .inl ⟨by simp[BV,f,n],by simp[Lg,f,q],λv d b g=>?_⟩;simp only[FH,f,ABl,ABs];exact⟨h1,p,o v d b g⟩
   refine .inr ⟨j+1,t,v0,by simp[BV,f,n],?_,by simpa using o,u,y,λv d g=>?_⟩
   .grind [Lg]
   simp only[FH,f,ABl,ABs,List.modify_succ_cons];exact⟨h1,p,z v d g⟩
theorem cJ {tb:Tb} {ti:TI} (hT:D2 P tb t ti) (c:ti.el=0) (hk:ZC ti.ty=true):ZP P t ti.ty:=by
 have a:=hT.2;obtain⟨⟨⟨_,_,b⟩,_⟩,_⟩:=hT;rw[c]at b;cases ht:ti.ty<;>rw[ht]at a hk b<;>simp only[ZC]at hk<;>try(cases hk;done)
 .exact I8 rfl a
 .exact I8 rfl a
 .exact I8 rfl a
 unfold sP at hk;split at hk
 .exact cI b
 cases hk
theorem sV {t:Ty} {z:Value} (c:z.cells=t.zero.toArray) (hf:ZK t z=true):z=t.wrap t.zero:=by
 cases t with
 | agg t =>
  cases z<;>simp only[ZK]at hf<;>try(cases hf;done)
  simp only[Value.cells]at c;rw[c];rfl
 | prod a b=>cases z<;>simp[ZK]at hf
 | _=>cases z<;>simp only[ZK]at hf<;>(try(cases hf;done))<;>(simp only[Value.cells,Ty.zero]at c;simp[Ty.wrap,Ty.zero]at c ⊢<;>exact c)
section
variable {P:Program} {tb:Tb} {w:World} {O0:Nat->Prop} {σ:St} {ρ:Nat->Value} {vc:Prop} {v:AV} {obs:List (Nat×Obj)} {id:TypeId} {ti:TI}
theorem sW {P:Program} {tb:Tb} {e:TypeId} {te:TI} {z:Value} {i:TypeInfo} (hi:P.info? e=some i) (b:i.zero=some z) (a:z.cells=te.ty.zero.toArray) (hf:ZK te.ty z=true) (w:World) (O:Nat->Prop) :
  (zeroValue e).run P w=.ok z w/\BX w O te.ty z te.ty.dflt:=by
 refine⟨by simp[zeroValue,typeInfo,hi,b],te.ty.zero,Bw.zero w O te.ty,sV a hf⟩
theorem bnd (f:Nat):¬(1000000+f<1000000)/\1000000+f-1000000=f:=by omega
theorem A94 {a:Act} (q:EY (vw w O0 σ ρ) σ a.eval) {fn:Fn} {first e:List Operand} (h:bX σ fn first e=some (vc,v,obs)):obs=[]/\∃u,(Instr.makeFunc fn (first.map a.eval).toArray (e.map a.eval).toArray).run P w=.ok u w/\B4 (vw w O0 σ ρ) v u:=by
 unfold bX at h;split at h
 .rename_i f;split at h;case isFalse=>cases h
  rename_i y;cases j:Ic σ e with
  | none=>rw[j]at h;simp[Rv]at h
  | some ns =>
   rw[j]at h;simp only[Rv]at h;cases h;have key:∀ {l:List Operand} {ns:List Nat},Ic σ l=some ns->l.map a.eval=ns.map ρ/\∀n∈ns,G0 σ n/\∃b:Nat,ρ n=.pointer (some ⟨b,0,none⟩):=by
    intro l;induction l with
    | nil=>intro ns h;simp only[Ic]at h;cases h;exact⟨rfl,λ_ h=>by cases h⟩
    | cons x r z =>
     intro ns h;simp only[Ic]at h;split at h
     .rename_i n B h1 s;cases h;obtain⟨g,i⟩:=z s;obtain⟨o,b,c,p⟩:=q x _ h1;have c:ρ n=_:=c;refine⟨by simp only[oR,g,p,c],λm d=>?_⟩;rcases By.1 d with rfl|d
      .exact⟨o,b,c⟩
      exact i m d
     cases h
   obtain⟨g,i⟩:=key j;refine⟨rfl,_,rfl,?_,i⟩;rw[g];unfold sR;rw[At y];rfl
 .rename_i f x;cases k:Aj σ x with
  | none=>rw[k]at h;simp[bW]at h
  | some xv =>
   rw[k]at h;unfold bW at h;split at h
   .rename_i n t;cases t;cases h;obtain⟨o,b,c,p⟩:=q x _ k;have c:ρ n=_:=c;refine⟨rfl,_,rfl,?_,λm d=>?_⟩
    .unfold sR;rw[An (bnd f).1,(bnd f).2];simp only[oR,ABC,p];have A:(vw w O0 σ ρ).ρ n=.pointer (some ⟨b,0,none⟩):=c;rw[A]
    obtain rfl:=iS.1 d;exact⟨o,b,c⟩
   cases h
 cases h
theorem sX {es:Array MapEntry} {cl:Nat} (h:ZD es cl) (x y:Value):ZD (es.push ⟨x,y,cl⟩) (cl+1):=by grind [ZD]
theorem cK {es:Array MapEntry} {cl:Nat} (h:ZD es cl) (j:Nat) (x y:Value):ZD (es.modify j λe=>{ e with key:=x,val:=y }) cl:=by
 have e:((es.modify j λe=>{ e with key:=x,val:=y }).toList.map (·.born))=es.toList.map (·.born):=by
  rw[Array.toList_modify];apply AAJ
  .simp
  grind
 unfold ZD;rw[e];exact h
theorem A6J (F:C7 P tb) (hT:D2 P tb id ti) {n:Nat} {k e:Nat} (N:ti.ty=.ref 2) (M:ti.offs=[(k,e)]) {a:TI} (Q:lk k tb.ty=some a) {c:Ty} {l:List (a.ty.den×c.den)} (G:V.w=w)
  (L:BC V (.mapo a.ty c l) (V.ρ n)) {x y:Value} {kd:a.ty.den} {h:c.den} (H:a.el=0) (J:ZC a.ty=true) (g:BX w V.O a.ty x kd) (A:BX w V.O c y h) :
  ∃b m r,V.ρ n=.map (some b)/\(Instr.mapUpdate id (.map (some b)) x y).run P w=.ok () { w with heap:=w.heap.setIfInBounds b (.map m r) }/\(∃o,w.heap[b]?=some o)/\Nu w V.O a.ty c m.toList (FH a.ty c kd h l)/\ZD m r:=by
 obtain⟨d,hu,_,K⟩:∃d,P.underlying id=some d/\(match d with|.struct _=>False|.array _ _=>False|_=>True) /\
   ∀k e,(2:Nat)=2->ti.offs=[(k,e)]->d=.map k e/\∃(a te:TI) (z:Value),lk k tb.ty=some a/\lk e tb.ty=some te/\(∃i,P.info? e=some i/\i.zero=some z)/\z.cells=te.ty.zero.toArray/\ZK te.ty z=true:=by
  have:=hT.2;rw[N]at this;exact this
 obtain⟨rfl,_⟩:=K k e rfl M;obtain⟨b,es,cl,v,hh,t,s⟩:=L;subst G;have f:=cJ (F _ _ Q) H J;have u:=f.find g t;refine⟨b,?_⟩;rcases Qr f g t 0 with ⟨C,p,q⟩|⟨j,B,v0,C,p,q,R,D,E⟩
 .refine⟨es.push ⟨x,y,cl⟩,cl+1,v,?_,⟨_,hh⟩,by simpa using q h y cl A,sX s x y⟩;simp[Instr.mapUpdate,iF hu,AC4 hh,f.check _ g,u,p,MapKept.run_setObj_map _ hh]
 have I:es[j]?=some B:=by simpa using q
 refine⟨es.modify j λe=>{ e with key:=x,val:=y },cl,v,?_,⟨_,hh⟩,by rw[Array.toList_modify];exact E h y A,cK s j x y⟩;simp[Instr.mapUpdate,iF hu,AC4 hh,f.check _ g,u,p,I,D,f.stays g,MapKept.run_setObj_map _ hh]
theorem sY (hT:D2 P tb id ti) {d:Nat} (h:Gc tb d (some ti)=some (vc,v,obs)) (hf:Bk obs σ=true) :
  ∃u ρ' w',(Instr.makeMap id none).run P w=.ok u w'/\QS w O0 σ ρ v obs u ρ' w':=by
 unfold Gc at h;split at h
 .rename_i offs _ _ c;cases c;unfold Hf at h;split at h
  .rename_i k e;unfold He at h;split at h
   .cases h;have f:(Instr.makeMap id none).run P w=.ok (.map (some w.heap.size)) (w.alloc (.map #[] 0)):=by
     simp[Instr.makeMap,Result.andThen]
    refine⟨_,_,_,f,QS.one (loc:=.map (some w.heap.size)) ((Below.refl _ w).alloc (OS _) _) ?_ ?_ ?_⟩
    .grind [bk,blk]
    .refine⟨⟨_,by simp only[Dq,To,lk,ABa];rfl⟩,w.heap.size,?_,rfl⟩;show Ei ρ d _ d=_;rw[Bp]
    exact⟨w.heap.size,#[],0,rfl,(MapKept.heap_alloc w _).1,trivial,List.Pairwise.nil,λb a=>by cases a⟩
   cases h
  cases h
 cases h
theorem A6K (hT:D2 P tb id ti) (L:C7 P tb) (G:∀n o,lk n σ.objs=some o->BC (vw w O0 σ ρ) o (ρ n)) {ok:Bool} {x y:AV} {xv D:Value} (h:JV tb σ ok (some ti) (some x) (some y)=some (vc,v,obs))
  (X:B4 (vw w O0 σ ρ) x xv) (Y:B4 (vw w O0 σ ρ) y D):obs=[]/\∃u,(Instr.lookup id xv D ok).run P w=.ok u w/\B4 (vw w O0 σ ρ) v u:=by
 unfold JV at h;split at h
 .rename_i k e _ _ n z O Q R;cases O;cases Q;cases R;obtain⟨d,hu,_,U⟩:=hT.2;obtain⟨rfl,C,te,af,I,W,⟨i,hi,Z⟩,ad,ae⟩:=U k e rfl rfl;cases hn:lk n σ.objs with
  | none=>rw[hn]at h;simp[I3]at h
  | some o =>
   rw[hn]at h;cases o with
   | mapo ai aj l =>
    simp only[I3,I,W,ABM,ABk]at h;split at h
    .rename_i N;obtain⟨rfl,S,rfl⟩:=N;cases hk:I1 false σ C.ty y with
     | none=>rw[hk]at h;simp[LU]at h
     | some kd =>
      rw[hk]at h;simp only[LU]at h;split at h
      .rename_i T;have a:=FT (V:=vw w O0 σ ρ) (O':=own O0 σ ρ) (λ_ h=>h) (λh=>by cases h) G hk Y;have a:BX w (own O0 σ ρ) C.ty D kd:=a;obtain⟨ah,b,B,rfl⟩:=X;have B:ρ n=_:=B;obtain⟨ag,es,cl,c,hh,m,-⟩:=G n _ hn;rw[B]at c;injection c with c
       injection c with c
       subst c;have hh:w.heap[b]?=some (.map es cl):=hh;have m:Nu w (own O0 σ ρ) C.ty te.ty es.toList l:=m;have p:=cJ (L _ _ I) S T;have F:=p.find a m;obtain⟨aa,ab⟩:=sW (te:=te) (P:=P) (tb:=tb) hi Z ad ae w (own O0 σ ρ);have E:∀(f:Value) (q:Bool) (r:Option te.ty.den),BX w (own O0 σ ρ) te.ty f (r.getD te.ty.dflt)->q=r.isSome->Nq te.ty ok r=some (vc,v,obs)->obs=[]/\∃u,u=(if ok=true then Value.tuple #[f,.bool q] else f)/\B4 (vw w O0 σ ρ) v u:=by
        intro f q r H M g;unfold Nq at g;subst M;cases ok with
        | true =>
         simp only[ABa]at g ⊢;cases g;exact⟨rfl,_,rfl,[f,.bool r.isSome],rfl,f,_,rfl,H,_,[],rfl,Bo _,rfl⟩
        | false =>
         simp only[ABl,ABs]at g ⊢;cases g;exact⟨rfl,_,rfl,H⟩
       rcases Qr p a m 0 with ⟨s,t,_⟩|⟨j,J,v0,s,t,_,K,_,_⟩
       .rw[s]at h;obtain⟨h1,u,rfl,A⟩:=E af false none ab rfl h;refine⟨h1,_,?_,A⟩;simp[Instr.lookup,iF hu,AC4 hh,p.check _ a,F,t,aa]
       rw[s]at h;obtain⟨h1,u,rfl,A⟩:=E J.val true (some v0) K rfl h;refine⟨h1,_,?_,A⟩;simp[Instr.lookup,iF hu,AC4 hh,p.check _ a,F,t]
      cases h
    cases h
   | _=>simp[I3]at h
 cases h
end
end
end Go.Proofs.YtglkoagnnnpimaaGreatDoor.Fw
