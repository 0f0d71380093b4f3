/- The executor's quiet operations are sound, second part; maps. -/
import Derived.Test.YtddbnflakbngaaaGreatDoorFZB
import Derived.ArgAppend
import Derived.MapKept
import Derived.WideKeyRuns
import Derived.Laws.StructEq
set_option linter.unusedVariables false
set_option linter.unusedSimpArgs false
namespace Go.Proofs.YtddbnflakbngaaaGreatDoor.Fw
variable {e:Ty} {P:Program} {t:TypeId} {a b:IntKind} {d:TypeDesc} {f:Value} {Z:Array MapEntry} {w:World} {Y:Bool} {V:Vw}
section
open Go Go.RowKit
section
abbrev AD6:=@Go.Sem.run_pure
abbrev ADA:=@Go.World.ownsRow_nil
abbrev ADE:=@Go.MapKept.run_getObj_map
abbrev ADQ:=@Go.run_part_plain
abbrev AEF:=@Go.Sem.run_ite
variable {P:Program} {tb:Tb} {id:TypeId} {ti:TI} {w:World} {O0:Nat->Prop} {σ:St} {ρ:Nat->Value} {vc:Prop} {v:AV} {obs:List (Nat×Obj)}
theorem Er (w:World) (o:_root_.Go.Obj):Below w.heap.size w (w.alloc o):=(Below.refl _ _).alloc (Of _) o
theorem QS.box {n:Nat} {et:TypeId} {fs:List AV} {cs:List Value} (hf:Bp [(n,.box et Y fs)] σ=true) (g:Y=false->fs.length=1) (d:AVCs (vw w O0 σ ρ) fs cs) :
  QS w O0 σ ρ (.bp n [] 0) [(n,.box et Y fs)] (.pointer (some ⟨w.heap.size,0,none⟩)) (E3 ρ n (.pointer (some ⟨w.heap.size,0,none⟩))) (w.alloc (.cells cs.toArray et)):=by
 have f:∀(m:Nat) (o:Obj) (b:Nat),lk m [(n,.box et Y fs)]=some o->bk (E3 ρ n (.pointer (some ⟨w.heap.size,0,none⟩)) m) b->w.heap.size<=b:=by grind [lk,Bz,bk,blk]
 have hk:C3 (vw w O0 σ ρ) (vw (w.alloc (.cells cs.toArray et)) O0 (D5 σ [(n,.box et Y fs)]) (E3 ρ n (.pointer (some ⟨w.heap.size,0,none⟩)))) :=
  IJ hf (Er w _) (λm a=>by
   simp only[lk]at a;split at a
   .cases a
   rename_i e;simp[E3,e]) f
 refine QS.one (Er w _) (λb c=>by simp[bk,blk]at c;omega) ?_ ?_
 .refine⟨⟨.box et Y fs,by simp[D5,lk]⟩,w.heap.size,by rw[show (vw (w.alloc (.cells cs.toArray et)) O0 (D5 σ [(n,.box et Y fs)]) (E3 ρ n (.pointer (some ⟨w.heap.size,0,none⟩)))).ρ n=E3 ρ n (.pointer (some ⟨w.heap.size,0,none⟩)) n from rfl,Bz],rfl⟩
 exact⟨g,w.heap.size,cs,rfl,heap_alloc_new w _,d.keeps hk⟩
theorem QS.arr {n:Nat} {et:TypeId} {xs:List e.den} {cells:List Value} {loc:Value} {w':World} {hi:Nat} (hf:Bp [(n,.arr et e xs)] σ=true) (f:Below w.heap.size w w')
  (c:w'.ownsRow w.heap.size et e.size loc xs.length cells) (a:xs.length<=AP) (k:D1 w (own O0 σ ρ) e cells xs) (p:hi=xs.length) :
  QS w O0 σ ρ (.sr n e 0 hi) [(n,.arr et e xs)] loc (E3 ρ n loc) w':=by
 subst p;have r:∀b,bk loc b->w.heap.size<=b:=by
  intro b i;rcases c.2 with ⟨rfl,_⟩|⟨g,cap,d,rfl,l,_⟩
  .simp[bk,blk]at i
  simp[bk,blk]at i;omega
 have q:∀(m:Nat) (o:Obj) (b:Nat),lk m [(n,.arr et e xs)]=some o->bk (E3 ρ n loc m) b->w.heap.size<=b:=by grind [lk,Bz]
 have hk:C3 (vw w O0 σ ρ) (vw w' O0 (D5 σ [(n,.arr et e xs)]) (E3 ρ n loc)) :=
  IJ hf f (λm a=>by
   simp only[lk]at a;split at a
   .cases a
   rename_i e;simp[E3,e]) q
 refine QS.one f r ?_ ?_
 .refine⟨⟨.arr et e xs,by simp[D5,lk]⟩,?_⟩;show Di (plc (E3 ρ n loc n)) e.size 0 xs.length loc;rw[Bz,Hu c];rcases c.2 with ⟨rfl,hn⟩|⟨g,cap,d,rfl,l,_,t,_⟩
  .exact⟨none,0,0,rfl,O1,O1,none,0,by rw[hn],O1,λ_=>⟨rfl,rfl⟩,λh=>by omega⟩
  exact⟨some ⟨g,0,none⟩,xs.length,cap,rfl,O1,O1,some ⟨g,0,none⟩,cap,sc,O1,λ_=>⟨rfl,rfl⟩,λ_=>by simp[NY]⟩
 refine⟨a,cells,⟨c.1,?_⟩,k.keeps hk⟩;rcases c.2 with h|⟨g,cap,d,h1,s,j⟩
 .exact .inl h
 exact .inr ⟨g,cap,d,h1,DO _,j⟩
theorem KF (V:Vw) (t:Ty):GS V (qR t) t.zero:=by
 cases t;case slice e=>exact⟨_,rfl,rfl,rfl⟩
 case ref k=>exact⟨Xm k,rfl,U8 k none,rfl⟩
 all_goals(exact B6.zero V.w V.O _)
theorem A86 (V:Vw):∀t:Ty,AVCs V (zfs t) t.zero
 | .prod a b=>⟨a.zero,b.zero,rfl,KF V a,A86 V b⟩
 | .int k=>⟨_,[],sc,KF V (.int k),rfl⟩
 | .bool=>⟨_,[],sc,KF V .bool,rfl⟩
 | .str=>⟨_,[],sc,KF V .str,rfl⟩
 | .slice e=>⟨_,[],sc,KF V (.slice e),rfl⟩
 | .agg t=>⟨_,[],sc,KF V (.agg t),rfl⟩
 | .ref k=>⟨_,[],sc,KF V (.ref k),rfl⟩
theorem VN (V:Vw) (b:Bool) (t:Ty):GS V (zfx b t) t.zero:=by
 unfold zfx;split
 .exact(A86 V _:AVCs V _ _)
 exact KF V t
theorem mB (V:Vw) (b:Bool):∀t:Ty,AVCs V (T8 b t) t.zero
 | .prod a c=>⟨a.zero,c.zero,rfl,VN V b a,mB V b c⟩
 | .int k=>⟨_,[],sc,VN V b (.int k),rfl⟩
 | .bool=>⟨_,[],sc,VN V b .bool,rfl⟩
 | .str=>⟨_,[],sc,VN V b .str,rfl⟩
 | .slice e=>⟨_,[],sc,VN V b (.slice e),rfl⟩
 | .agg t=>⟨_,[],sc,VN V b (.agg t),rfl⟩
 | .ref k=>⟨_,[],sc,VN V b (.ref k),rfl⟩
theorem A0B (V:Vw):∀(t:Ty) (d:t.den) (cs:List Value),B6 V.w V.O t cs d->AVCs V (pfs t d) cs
 | .prod a b,d,cs,h=>by
  obtain⟨c1,c2,rfl,h1,c⟩:=h;exact⟨c1,c2,rfl,h1,A0B V b d.2 c2 c⟩
 | .int k,d,cs,h=>⟨cs,[],sc,h,rfl⟩
 | .bool,d,cs,h=>⟨cs,[],sc,h,rfl⟩
 | .str,d,cs,h=>⟨cs,[],sc,h,rfl⟩
 | .slice e,d,cs,h=>⟨cs,[],sc,h,rfl⟩
 | .agg t,d,cs,h=>⟨cs,[],sc,h,rfl⟩
 | .ref k,d,cs,h=>⟨cs,[],sc,h,rfl⟩
theorem QC (hT:EI P tb id ti) (w:World):∃z:Value,(zeroValue id).run P w=.ok z w/\z.cells=ti.ty.zero.toArray:=by
 obtain⟨⟨_,i,z,h1,c,d,a,b⟩,_⟩:=hT;exact⟨z,by simp[zeroValue,MY w h1,a],b⟩
theorem A4T (hT:EI P tb id ti) {e:Bool} {d:Nat} (h:Ks e d id (some ti)=some (vc,v,obs)) (hf:Bp obs σ=true) :
  ∃u ρ' w',(Instr.alloc id true (.tuple #[])).run P w=.ok u w'/\QS w O0 σ ρ v obs u ρ' w':=by
 obtain⟨z,hz,c⟩:=QC hT w;have b:(Instr.alloc id true (.tuple #[])).run P w=.ok (.pointer (some ⟨w.heap.size,0,none⟩)) (w.alloc (.cells ti.ty.zero.toArray id)):=by
  simp[Instr.alloc,hz,newVar,newRow,c]
 unfold Ks at h;split at h<;>first|(cases h;done)|skip
 all_goals
  rename_i a;cases a;cases h;refine⟨_,_,_,b,QS.box hf ?_ ?_⟩
 .simp
 .exact mB _ _ _
 .simp
 .exact⟨_,[],by simp[Ty.zero],KF _ _,rfl⟩
 .simp
 .exact⟨_,[],by simp[Ty.zero],KF _ _,rfl⟩
 .simp
 .exact⟨_,[],by simp[Ty.zero],KF _ _,rfl⟩
 .simp
 .exact⟨_,[],by simp[Ty.zero],KF _ _,rfl⟩
 .simp
 exact⟨_,[],by simp[Ty.zero],KF _ _,rfl⟩
theorem OP {ty:Ty} {x:AV} {v:Value} (j:CD V x v) (hf:CW ty x=true) (hs:ty.cell1=true):v.oneCell'=true:=by
 cases x;case p t d =>
  simp only[CW,Is]at hf;subst hf;obtain⟨cs,o,rfl⟩:=j;cases ty;case agg t=>simp[Ty.cell1]at hs
  case prod a b=>simp[Ty.cell1]at hs
  case slice e=>obtain⟨a,c,rfl,_⟩:=o;rfl
  case int k=>obtain⟨rfl,h⟩:=o;rfl
  case bool=>have o:cs=_:=o;subst o;rfl
  case str=>obtain⟨rfl,h⟩:=o;rfl
  case ref k =>
   obtain⟨rfl,_⟩:=o;exact U8 k _
 case ag l=>cases ty<;>simp[CW]at hf<;>simp[Ty.cell1]at hs
 case tup l=>simp[CW]at hf
 case raw u =>
  have j:v=u:=j;subst j;simp only[CW,An]at hf;exact hf.1
 case sr n e lo hi=>obtain⟨_,_,_,_,_,_,_,r,s,rfl,_⟩:=j;rfl
 case ep n e i q off=>obtain⟨_,g,m,c,_,_,rfl⟩:=j;rfl
 case nin n e i len=>obtain⟨_,_,_,_,_,_,_,_,rfl⟩:=j;rfl
 case pc e d=>obtain⟨_,a,rfl⟩:=j;rfl
 case ip t d=>obtain⟨ad,cs,rfl,_⟩:=j;rfl
 case bp n q off=>obtain⟨_,b,_,rfl⟩:=j;rfl
 case fn f=>have j:v=_:=j;subst j;rfl
 case clo f ns=>obtain⟨rfl,_⟩:=j;exact eI _ _
 case mp n=>obtain⟨_,b,_,rfl⟩:=j;rfl
 case yl n=>obtain⟨_,b,_,rfl⟩:=j;rfl
 case top=>simp[CW]at hf
end
end
section
open Go Go.RowKit
section
variable {P:Program} {tb:Tb} {id:TypeId} {ti:TI} {w:World} {O0:Nat->Prop} {σ:St} {ρ:Nat->Value} {vc:Prop} {v:AV} {obs:List (Nat×Obj)}
theorem VO {t:Ty} {w:World} {O:Nat->Prop} {cs:List Value} {d:t.den} (h:B6 w O t cs d):(t.wrap cs).cells=cs.toArray:=by
 cases t;case agg t=>rfl
 case prod a b=>rfl
 case slice e=>obtain⟨a,c,rfl,_⟩:=h;rfl
 case int k=>obtain⟨rfl,_⟩:=h;rfl
 case bool=>have h:cs=_:=h;subst h;rfl
 case str=>obtain⟨rfl,_⟩:=h;rfl
 case ref k =>
  obtain⟨rfl,_⟩:=h;exact U9 k d
theorem A4U {x:AV} {v:Value} (j:CD V x v) (hf:JD x=true):GS V x v.cells.toList/\v.cells.size=x.cells:=by
 have simple:∀ {y:AV},MW V y v->v.oneCell'=true->(∀t d,y≠.p t d)->GS V y v.cells.toList:=by
  intro y r h s;have o:v.cells=#[v]:=by cases v<;>first|rfl|simp[Value.oneCell']at h
  rw[o];cases y;case p t d=>exact absurd rfl (s t d)
  case ag l=>exact(show False from r).elim
  all_goals exact⟨v,rfl,h,r⟩
 have k:v.oneCell'=true->v.cells.size=1:=by
  intro h;have o:v.cells=#[v]:=by cases v<;>first|rfl|simp[Value.oneCell']at h
  rw[o];rfl
 cases x;case p t d =>
  obtain⟨cs,q,rfl⟩:=j;rw[VO q];exact⟨q,by simpa[AV.cells] using q.length⟩
 case raw u =>
  have w:v=u:=j;have h:v.oneCell'=true:=by rw[w];exact hf
  exact⟨simple j h (λ_ _=>by simp),k h⟩
 case sr n e lo hi =>
  have h:v.oneCell'=true:=by obtain⟨_,_,_,_,_,_,_,A,B,rfl,_⟩:=j;rfl
  exact⟨simple j h (λ_ _=>by simp),k h⟩
 case ep n e i z off =>
  have h:v.oneCell'=true:=by obtain⟨_,g,m,c,_,_,rfl⟩:=j;rfl
  exact⟨simple j h (λ_ _=>by simp),k h⟩
 case nin n e i len =>
  have h:v.oneCell'=true:=by obtain⟨_,_,_,_,_,_,_,_,rfl⟩:=j;rfl
  exact⟨simple j h (λ_ _=>by simp),k h⟩
 case ip t d =>
  have h:v.oneCell'=true:=by obtain⟨ad,cs,rfl,_⟩:=j;rfl
  exact⟨simple j h (λ_ _=>by simp),k h⟩
 case bp n z off =>
  have h:v.oneCell'=true:=by obtain⟨_,b,_,rfl⟩:=j;rfl
  exact⟨simple j h (λ_ _=>by simp),k h⟩
 case pc e d =>
  have h:v.oneCell'=true:=by obtain⟨_,a,rfl⟩:=j;rfl
  exact⟨simple j h (λ_ _=>by simp),k h⟩
 case clo f ns =>
  have h:v.oneCell'=true:=by obtain⟨rfl,_⟩:=j;exact eI _ _
  exact⟨simple j h (λ_ _=>by simp),k h⟩
 case mp n =>
  have h:v.oneCell'=true:=by obtain⟨_,b,_,rfl⟩:=j;rfl
  exact⟨simple j h (λ_ _=>by simp),k h⟩
 case yl n =>
  have h:v.oneCell'=true:=by obtain⟨_,b,_,rfl⟩:=j;rfl
  exact⟨simple j h (λ_ _=>by simp),k h⟩
 case fn f =>
  have h:v.oneCell'=true:=by have j:v=_:=j;subst j;rfl
  exact⟨simple j h (λ_ _=>by simp),k h⟩
 all_goals simp[JD]at hf
theorem AAI (hT:EI P tb id ti) {d:Nat} {x:AV} {xv:Value} (h:UA d id (some ti) (some x)=some (vc,v,obs)) (i:CD (vw w O0 σ ρ) x xv) (hf:Bp obs σ=true) :
    ∃u ρ' w',(Instr.box id xv).run P w=.ok u w'/\QS w O0 σ ρ v obs u ρ' w':=by
  have g:(Instr.box id xv).run P w=.ok (.pointer (some ⟨w.heap.size,0,none⟩)) (w.alloc (.cells xv.cells id)):=by
    simp[Instr.box,newVar,newRow]
  have simple:∀ty:Ty,CW ty x=true->ty.cell1=true->(∀l,x≠.ag l)->AVCs (vw w O0 σ ρ) [x] xv.cells.toList:=by
    intro ty f q n;obtain⟨h1,m⟩:=A0u i f (OP i f);exact⟨_,[],sc,m n,rfl⟩
  have p:xv.cells=xv.cells.toList.toArray:=by simp
  rw[p]at g;unfold UA at h;split at h
  . rename_i u offs el b r k c a
    cases c;cases a;split at h
    . rename_i hu
      subst hu;cases h;obtain⟨cs,j,rfl⟩:=i;have j:B6 w (own O0 σ ρ) u cs k:=j;refine⟨_,_,_,g,QS.box hf sc ?_⟩;simp only[Ty.wrap,Value.cells];exact A0B _ _ _ _ j
    cases h
  . rename_i u offs el b l c a
    cases c;cases a;split at h
    . cases h
      obtain⟨cs,rfl,o⟩:=i;refine⟨_,_,_,g,QS.box hf sc ?_⟩;simp only[Value.cells];exact o
    cases h
  all_goals first
    | (cases h;done)
    | (rename_i c a
       cases c;injection a with a
       subst a;split at h
       . rename_i f
         cases h;exact⟨_,_,_,g,QS.box hf sc (simple _ f rfl (λl e=>by subst e;simp[CW]at f))⟩
       cases h)
theorem eY (off:Nat):∀(a:List Value) (k:Nat) (cells:Array Value),off+k+a.length<=cells.size ->
  ((a.zipIdx k).foldl (λ(cs:Array Value) (p:Value×Nat)=>cs.setIfInBounds (off+p.2) p.1) cells).toList=A9 cells.toList (off+k) a
 | [],k,cells,_=>by simp[A9]
 | v :: a,k,cells,h=>by
  simp only[If]at h;simp only[List.zipIdx_cons,ON];rw[eY off a (k+1) _ (by simp;omega)];simp only[A9,Array.toList_setIfInBounds,If];apply AE9;intro j;have b:cells.toList.length=cells.size:=by simp
  simp only[AAp,ACg,On,AAx,b,AAA,ACh,ACs,If];grind
theorem VP {place:Nat->Option (Nat×Nat)} {cells:Array Value} {i off:Nat} {v:Value} {rest:List (Nat×Value)} (b:place i=some (off,v.cells.size)) (a:off+v.cells.size<=cells.size) :
  Instr.fill place cells ((i,v) :: rest)=Instr.fill place (A9 cells.toList off v.cells.toList).toArray rest:=by
 have h1:¬(off+v.cells.size > cells.size):=by omega
 simp only[Instr.fill,b];rw[As (by simp;omega)]
 congr 1
 have:=eY off v.cells.toList 0 cells (by simpa using a);apply Array.ext';rw[show v.cells.zipIdx.foldl (λcs x=>cs.setIfInBounds (off+x.2) x.1) cells=(v.cells.toList.zipIdx 0).foldl (λcs x=>cs.setIfInBounds (off+x.2) x.1) cells from by
  rw[<-Array.foldl_toList];simp]
 simpa using this
def Es (V:Vw) (σ:St) (ev:Operand->Value):Prop:=∀x v,Al σ x=some v->CD V v (ev x)
theorem wW (e:∀n o,lk n σ.objs=some o->BI V o (V.ρ n)) {z x:Option AV} {y:AV} {v:Value} (b:∀a,x=some a->CD V a v) (h:F8 σ z x=some y):CD V y v:=by
 unfold F8 at h;split at h
 .rename_i t _ l;simp only[No]at h;obtain⟨d,c,rfl⟩:=h;exact Ft (V:=V) (O':=V.O) (λ_ h=>h) (λh=>by cases h) e c (b _ rfl)
 exact b _ h
theorem Oz {V:Vw} (f:∀n o,lk n σ.objs=some o->BI V o (V.ρ n)) {ev:Operand->Value} (e:Es V σ ev) {place:Nat->Option (Nat×Nat)} {offs:List (Nat×Nat)} (j:∀i p,offs[i]?=some p->place i=some p) :
  ∀ {parts:List (Nat×Operand)} {fs b:List AV} {cells:Array Value},D2 σ offs fs parts=some b->AVCs V fs cells.toList ->
   ∃cells':Array Value,Instr.fill place cells (parts.map λp=>(p.1,ev p.2))=some cells'/\AVCs V b cells'.toList
 | [],fs,b,cells,h,c=>by
  simp only[D2]at h;cases h;exact⟨cells,rfl,c⟩
 | (i,x) :: r,fs,b,cells,h,c=>by
  simp only[D2]at h;cases d:F8 σ fs[i]? (Al σ x) with
  | none=>rw[d]at h;cases h
  | some av =>
   rw[d]at h;simp only at h;split at h
   .rename_i l;obtain⟨h0,h1,m⟩:=l;have z:=wW f (λa ha=>e x a ha) d;obtain⟨q,s⟩:=A4U z h0;simp only[No]at h1;obtain⟨B,g,v⟩:=h1;obtain⟨A,_⟩:=c.get g;have y:=c.set g q v.symm;have k:=j i _ m;rw[<-s]at k;have w:CT fs i+(ev x).cells.size<=cells.size:=by grind
    obtain⟨cells',t,u⟩:=Oz f e j h (cells:=(A9 cells.toList (CT fs i) (ev x).cells.toList).toArray) (by simpa using y);refine⟨cells',?_,u⟩;rw[gO,VP k w];exact t
   cases h
theorem eZ {α a:Type} (f:α->Sem a) (w:World):∀ {l:List α} {ys:List a},(l.map λx=>(f x).run P w)=ys.map (λy=>Result.ok y w)->(l.mapM f).run P w=.ok ys w
 | [],ys,h=>by simp_all
 | x :: l,ys,h=>by
  cases ys with
  | nil=>simp at h
  | cons y ys =>
   simp only[gO,ADc]at h;obtain⟨h1,b⟩:=h;have c:=eZ f w b;simp[List.mapM_cons,h1,c]
theorem A4V (hT:EI P tb id ti) (r:∀n o,lk n σ.objs=some o->BI (vw w O0 σ ρ) o (ρ n)) {ev:Operand->Value} (q:Es (vw w O0 σ ρ) σ ev) {d:Bool} {parts:List (Nat×Operand)} (h:Jn d σ parts (some ti)=some (vc,v,obs)) :
  obs=[]/\∃u,(Instr.build id (parts.map λp=>(p.1,ev p.2)).toArray).run P w=.ok u w/\CD (vw w O0 σ ρ) v u:=by
 obtain⟨z,hz,B⟩:=QC hT w;unfold Jn at h;split at h
 .rename_i u offs el b t;cases t;cases c:D2 σ offs (T8 d u) parts with
  | none=>rw[c]at h;simp[HB]at h
  | some C =>
   rw[c]at h;simp only[AD8,HB]at h;cases h;have a:=hT.2;have s:AVCs (vw w O0 σ ρ) (T8 d u) z.cells.toList:=by rw[B];exact mB _ d u
   simp only at a;rcases a with ⟨fs,_,hu,l⟩|⟨n,e,i,_,hu,hi,l⟩
   .have m:∀(i:Nat) (p:Nat×Nat),offs[i]?=some p->offs.toArray[i]?=some p:=λi p hh=>by simpa using hh
    obtain⟨cells',g,j⟩:=Oz r q (place:=λi=>offs.toArray[i]?) m c s;have A:(fs.mapM (λf=>do pure (f.offset,<-sizeOf f.type)):Sem (Array (Nat×Nat))).run P w=.ok offs.toArray w:=by
     rw[ADu];simp only[Sem.run_map];rw[eZ (ys:=offs) _ w ?_]
     .simp
     rw [show (offs.map λy => Result.ok y w) = (offs.map some).map (λo => match o with | some y => Result.ok y w | none => .halt (.stuck "no such type") w) by simp [AC0, Function.comp_def], l, AC0]
     apply iF;intro f _;simp only[Function.comp,sizeOf,typeInfo];cases hi:P.info? f.type<;>simp[hi]
    refine⟨rfl,.agg cells',?_,cells'.toList,sc,j⟩;simp only[Instr.build,ACc,hz,AAM,iS hu,A,g,AD6]
   have m:∀(k:Nat) (p:Nat×Nat),offs[k]?=some p->(λk=>some (k*i.size,i.size)) k=some p:=λk p hh=>by
    rw[l]at hh;simp only[ABL,No]at hh;obtain⟨D,x,rfl⟩:=hh;obtain⟨h1,a⟩:=aT.1 x;simp only[ADZ]at a;subst a;rfl
   obtain⟨cells',g,j⟩:=Oz r q m c s;refine⟨rfl,.agg cells',?_,cells'.toList,sc,j⟩;simp[Instr.build,hz,iS hu,sizeOf,MY w hi,g]
 cases h
end
end
section
open Go Go.RowKit
section
variable {P:Program} {tb:Tb} {id:TypeId} {ti:TI} {w:World} {O0:Nat->Prop} {σ:St} {ρ:Nat->Value} {vc:Prop} {v:AV} {obs:List (Nat×Obj)}
theorem YD {t:Ty} {w:World} {O:Nat->Prop} {v:Value} {d:t.den} (h:Bg w O t v d):v.cells.size=t.size/\B6 w O t v.cells.toList d:=by
 obtain⟨cs,a,rfl⟩:=h;rw[VO a];exact⟨by simpa using a.length,a⟩
theorem H6 (w:World) (O:Nat->Prop) (e:Ty) (cells:List Value):D1 w O e cells []:=λi x h=>by simp at h
theorem e9 {V:Vw} (v:∀n o,lk n σ.objs=some o->BI V o (V.ρ n)) {ev:Operand->Value} (s:Es V σ ev) {e:Ty} {N:Nat} :
  ∀ {parts:List (Nat×Operand)} {k:Nat} {xs pre:List e.den} {cells:Array Value},FI σ e k parts=some xs->cells.size=N*e.size->k+xs.length<=N->pre.length=k ->
   D1 V.w V.O e cells.toList pre ->
   ∃cells':Array Value,Instr.fill (λi=>some (i*e.size,e.size)) cells (parts.map λp=>(p.1,ev p.2))=some cells'/\cells'.size=cells.size/\D1 V.w V.O e cells'.toList (pre++xs)
 | [],k,xs,pre,cells,h,hs,hk,l,g=>by
  simp only[FI]at h;cases h;exact⟨cells,rfl,rfl,by simpa using g⟩
 | (i,x) :: r,k,xs,pre,cells,h,hs,hk,l,g=>by
  simp only[FI]at h;split at h
  .rename_i D;subst D;cases m:Al σ x with
   | none=>rw[m]at h;cases h
   | some av =>
    rw[m]at h;simp only at h;split at h
    .rename_i y ys K L;cases h;have J:=Ft (O':=V.O) (λ_ h=>h) (λh=>by cases h) v K (s x av m);obtain⟨h1,B⟩:=YD J;simp only[If]at hk;have c:i*e.size+(ev x).cells.size<=cells.size:=by
      rw[h1,hs,<-ACZ];exact AAu _ O1
     have A:(A9 cells.toList (i*e.size) (ev x).cells.toList).length=cells.size:=by
      rw[EW]
      .simp
      simpa using c
     have H:D1 V.w V.O e (A9 cells.toList (i*e.size) (ev x).cells.toList) (pre++[y]):=by
      intro j z hz;rw[ACg]at hz;split at hz
      .rename_i E;obtain⟨es,b,d,f⟩:=g j z hz;refine⟨es,b,λq u a=>?_,f⟩;have I:q<e.size:=by rw[<-b];exact(aT.1 a).1
       have G:j*e.size+q<i*e.size:=by
        have:(j+1)*e.size<=i*e.size:=AAu _ O1;rw[ACZ]at this;omega
       have C:i*e.size<=cells.toList.length:=by
        have:=c;simp;omega
       simp only[A9,AAp];rw[AAr (by rw[On];omega),AAA,At G];exact d q u a
      rename_i E;have F:j=i:=by
       have:=(aT.1 hz).1;simp at this;omega
      subst F;have M:z=y:=by
       rw[l,AD9]at hz;simpa using hz.symm
      subst M;refine⟨(ev x).cells.toList,by simpa using h1,λq u a=>?_,B⟩;have I:q<(ev x).cells.toList.length:=(aT.1 a).1;have C:j*e.size<=cells.toList.length:=by
       have:=c;simp;omega
      have t:(cells.toList.take (j*e.size)).length=j*e.size:=by rw[On];omega
      simp only[A9,AAp];rw[AAd (by rw[t];omega),t,AAr O1];rw[show j*e.size+q-j*e.size=q by omega];exact a
     obtain⟨cells',b,d,f⟩:=e9 (N:=N) v s L (pre:=pre++[y]) (cells:=(A9 cells.toList (i*e.size) (ev x).cells.toList).toArray) (by simp[A,hs]) O1 (by simp[l]) (by simpa using H);refine⟨cells',?_,by rw[d];simp[A],by simpa using f⟩;rw[gO,VP (by rw[h1]) c];exact b
    cases h
  cases h
theorem aE {w:World} {et:TypeId} {sz n:Nat} {cells:Array Value} (hs:cells.size=n*sz) (hn:n<=AP) :
  (w.alloc (.cells cells et)).ownsRow w.heap.size et sz (.slice (some ⟨w.heap.size,0,none⟩) n n) n cells.toList :=
 ⟨by simpa using hs,.inr ⟨w.heap.size,n,cells,rfl,Of _,heap_alloc_new w _,Of _,by have h1:AP=140737488355328:=rfl;have a:maxLen=9223372036854775807:=rfl;omega,hs,BY (by simp[hs])⟩⟩
theorem QD (hT:EI P tb id ti) (f:DI P tb) (q:∀n o,lk n σ.objs=some o->BI (vw w O0 σ ρ) o (ρ n)) {ev:Operand->Value} (m:Es (vw w O0 σ ρ) σ ev) {d n:Nat} {parts:List (Nat×Operand)}
  (h:Bu false σ d n parts (some ti)=some (vc,v,obs)) (x:vc) (hf:Bp obs σ=true) :
  ∃u ρ' w',(Instr.buildSlice id n (parts.map λp=>(p.1,ev p.2)).toArray).run P w=.ok u w'/\QS w O0 σ ρ v obs u ρ' w':=by
 unfold Bu at h;split at h
 .rename_i e offs el b l;cases l;obtain⟨hu,hs,te,t,rfl⟩:=Cm hT f;obtain⟨z,hz,A⟩:=QC (f _ _ t) w;cases a:FI σ te.ty 0 parts with
  | none=>rw[a]at h;simp[B1]at h
  | some xs =>
   rw[a]at h;simp only[B1,ACT,AD1]at h;cases h;obtain⟨hn,y⟩:=x;subst hn;have r:=te.ty.size_pos;obtain⟨cells',h1,k,c⟩:=e9 (V:=vw w O0 σ ρ) q m a (N:=xs.length) (pre:=[]) (cells:=(Array.range (xs.length*te.ty.size)).map (λi=>(if xs.length*te.ty.size=0 then (#[]:Array Value) else z.cells)[i % (if xs.length*te.ty.size=0 then (#[]:Array Value) else z.cells).size]!)) sc O1 rfl (H6 _ _ _ _);have j:xs.length<=AP:=by
    have:xs.length*1<=xs.length*te.ty.size:=ADk _ r;simp only[AP];omega
   have s:cells'.size=xs.length*te.ty.size:=by rw[k];simp
   refine⟨_,_,_,?_,QS.arr hf (Er w _) (aE (et:=el) s j) j (by rw[nO]at c;exact c) rfl⟩;have g:¬(xs.length*te.ty.size > 16777216):=by omega
   by_cases h0:xs.length*te.ty.size=0
   .simp only[h0,ACk]at h1;simp[Instr.buildSlice,iS hu,hs,g,h0,newRow];simp at h1;simp[h1]
   simp only[h0,AD1]at h1;simp only[Instr.buildSlice,ACc,iS hu,AAM,hs,As g,As h0,hz,AD6,h1,newRow];rfl
 cases h
theorem A8H (hT:EI P tb id ti) (I:DI P tb) (af:∀n o,lk n σ.objs=some o->BI (vw w O0 σ ρ) o (ρ n)) {ev:Operand->Value} (Y:Es (vw w O0 σ ρ) σ ev) {d n:Nat} {A:TypeId} {parts:List (Nat×Operand)}
  (h:Jp σ d A n parts (some ti)=some (vc,v,obs)) (D:vc) (hf:Bp obs σ=true) :
  ∃u ρ' w',(Instr.buildSlice id n (parts.map λp=>(p.1,ev p.2)).toArray).run P w=.ok u w'/\QS w O0 σ ρ v obs u ρ' w':=by
 unfold Jp at h;split at h
 .rename_i x t offs el b W;cases W;obtain⟨hu,hs,te,ai,rfl⟩:=Cm hT I;obtain⟨z,hz,ao⟩:=QC (I _ _ ai) w;cases H:Al σ x with
  | none=>rw[H]at h;unfold Jo at h;split at h<;>first|(cases h;done)|(rename_i E;cases E)
  | some av =>
   rw[H]at h;unfold Jo at h;split at h
   .rename_i k e Q aq aj T;cases T;have key:∀(c:k.den) (c1:List Value) (a:Option Addr),GS (vw w O0 σ ρ) Q c1->FH false σ k Q=some c->ev x=.agg (c1++[Value.slice a 0 0]).toArray->n=1/\k.size+1<=16777216->Bp [(d,Obj.nest el A k e [(c,[])] none)] σ=true ->
      ∃u ρ' w',(Instr.buildSlice id n ([(0,x)].map λp=>(p.1,ev p.2)).toArray).run P w=.ok u w'/\QS w O0 σ ρ (.sr d (.agg (.prod k (.slice e))) 0 1) [(d,.nest el A k e [(c,[])] none)] u ρ' w':=by
     intro c c1 a h1 s B ab hf;obtain⟨rfl,am⟩:=ab;have aa:Lay (.slice none 0 0) (.slice a 0 0):=.inr ⟨rfl,a,rfl⟩;have C:=qU (O':=own O0 σ ρ) (λ_ h=>h) (λh=>by cases h) af s h1;have C:B6 w (own O0 σ ρ) k c1 c:=C;have G:=C.length;have ah:te.ty.size=k.size+1:=by rw[aj];rfl
     rw[ah]at hs;have J:(ev x).cells.toList=c1++[Value.slice a 0 0]:=by rw[B];simp[Value.cells]
     have ag:Instr.fill (λi=>some (i*(k.size+1),k.size+1)) ((Array.range (1*(k.size+1))).map (λi=>z.cells[i % z.cells.size]!)) [(0,ev x)]=some (c1++[Value.slice a 0 0]).toArray:=by
      have K:(ev x).cells.size=k.size+1:=by rw[<-AEo,J];simp[G]
      rw[VP (by rw[K]) (by rw[K];simp)];rw[J];simp only[Instr.fill,AEO,A9,ACQ,nO,ACf];rw[List.drop_of_length_le (by simp[G]),AAW]
     generalize M:(Value.tuple #[Value.slice (some ⟨w.heap.size,0,none⟩) 1 1,.slice none 0 0])=loc;have ad:∀b,bk loc b->w.heap.size<=b:=by grind [BN,blk]
     have y:=aE (w:=w) (et:=el) (sz:=k.size+1) (n:=1) (cells:=(c1++[Value.slice a 0 0]).toArray) (by simp[G]) (by simp[AP]);have y:(w.alloc (.cells (c1++[Value.slice a 0 0]).toArray el)).ownsRow 0 el (k.size+1) (.slice (some ⟨w.heap.size,0,none⟩) 1 1) 1 (c1++[Value.slice a 0 0]):=⟨y.1,y.2.imp (λh=>h) λ⟨g,cap,S,e,_,r⟩=>⟨g,cap,S,e,DO _,r⟩⟩;have hk:=IJ (O0:=O0) (ρ:=ρ) (ρ':=E3 ρ d loc) hf (Er w (.cells (c1++[Value.slice a 0 0]).toArray el)) (λm q=>by
      simp only[lk]at q;split at q
      .cases q
      .rename_i e;simp[E3,e]) (λm o b q U=>by
      simp only[lk]at q;split at q
      .grind [Bz]
      cases q)
     refine⟨.slice (some ⟨w.heap.size,0,none⟩) 1 1,E3 ρ d loc,w.alloc (.cells (c1++[Value.slice a 0 0]).toArray el),?_,QS.one (Er w _) ad ?_ ?_⟩
     .have ae:¬(1*(k.size+1) > 16777216):=by omega
      have h0:¬(1*(k.size+1)=0):=by omega
      simp only[Instr.buildSlice,ACc,iS hu,AAM,hs,As ae,As h0,hz,AD6,gO,ACS,ag,newRow];rfl
     .refine⟨⟨.nest el A k e [(c,[])] none,by simp[D5,lk]⟩,?_⟩;show Di (plc (E3 ρ d loc d)) _ 0 1 _;rw[Bz,<-M];exact Gh y
     refine⟨_,[.slice none 0 0],c1++[Value.slice a 0 0],.inl M.symm,by simp[AP],rfl,y,λi ap u hi hu=>?_,λi j b u v hi L hu an=>?_,λi b u hi U _=>?_⟩
     .rcases i with _|i
      .simp only[ADC,ACR]at hi hu;subst hi hu;refine⟨c1,.slice a 0 0,λj z L=>by simpa using L,C.mono hk.O hk.heap,.inr ⟨rfl,aa,by simp[AP],[],ADA _ 0 A _,H6 _ _ _ _⟩⟩
      simp at hi
     .grind
     grind [blk]
    unfold Kt at h;obtain⟨cs,B,V⟩:=Y x _ H;obtain⟨c1,c2,rfl,h1,E⟩:=V;obtain⟨ak,R,rfl,f,F⟩:=E;have F:R=[]:=F;subst F;split at h
    .rename_i c s;cases h;obtain⟨N,rfl,_,f⟩:=f;have f:N=.slice none 0 0:=f;subst f;exact key c c1 none h1 s (by rw[B];simp) D hf
    .rename_i c al l s;split at h
     .rename_i X;subst X;cases h;obtain⟨N,rfl,_,_,a,f⟩:=f;obtain⟨D,Z⟩:=D;rw[Z]at f;subst f;exact key c c1 a h1 s (by rw[B];simp) D hf
     cases h
    cases h
   cases h
 cases h
theorem Xq (z:List Value) (hz:0<z.length) (n:Nat) {i j:Nat} (b:j<z.length) (hi:i*z.length+j<n) {u:Value} (hu:z[j]?=some u) :
  (madeCells z.toArray n)[i*z.length+j]?=some u:=by
 simp only[madeCells,Array.getElem?_map,List.size_toArray];have e:(Array.range n)[i*z.length+j]?=some (i*z.length+j):=by grind
 rw[e];have d:(i*z.length+j) % z.length=j:=by
  rw[Nat.mul_comm,Nat.mul_add_mod];exact Nat.mod_eq_of_lt b
 simp only[AD8,d];have c:=(aT.1 hu);obtain⟨h1,a⟩:=c;simp[h1,a]
theorem A4W (hT:EI P tb id ti) (f:DI P tb) {offs:List (Nat×Nat)} {el:TypeId} {b:Nat} (y:ti=⟨.slice e,offs,el,b⟩) {te:TI} (l:lk el tb.ty=some te) {n:Int} {d:Nat}
  (h0:0<=n) (hn:n.toNat*te.bytes<=AP) (hf:Bp [(d,.arr el e (List.replicate n.toNat e.dflt))] σ=true) :
  ∃u ρ' w',(Instr.makeSlice id (.int .i64 n) (.int .i64 n)).run P w=.ok u w'/\QS w O0 σ ρ (.sr d e 0 n.toNat) [(d,.arr el e (List.replicate n.toNat e.dflt))] u ρ' w':=by
 subst y;obtain⟨hu,hs,F,m,rfl⟩:=Cm hT f;rw[l]at m;cases m;obtain⟨⟨⟨_,p,_⟩,i,z,hi,k,D,hz,C⟩,_⟩:=f _ _ l;have E:=te.ty.size_pos;have a:n.toNat<=AP:=by
  have:n.toNat*1<=n.toNat*te.bytes:=ADk _ p;omega
 have o:(i.bytes:Int)*n<=281474976710656:=by grind [AP]
 have v:=run_make (P:=P) w id el i z hu hi hz .i64 .i64 n n h0 (AD3 _) o (by simp only[AP]at a;omega);have c:te.ty.zero.length=te.ty.size:=(B6.zero w (λ_=>False) te.ty).length;refine⟨_,_,_,v,QS.arr hf (Er w _) (aE (et:=el) (sz:=te.ty.size) (n:=n.toNat) (cells:=madeCells z.cells (n.toNat*i.size)) (by rw[size_madeCells,k]) a |> λh=>by simpa using h) (by simpa using a) ?_ sc⟩;intro j x A;have r:=(aT.1 A).1;simp only[ADJ]at r;have B:x=te.ty.dflt:=by grind
 subst B;refine⟨te.ty.zero,c,λq u g=>?_,B6.zero _ _ _⟩;have t:=(aT.1 g).1;have s:j*te.ty.zero.length+q<n.toNat*i.size:=by
  rw[k,c];have:(j+1)*te.ty.size<=n.toNat*te.ty.size:=AAu _ O1;rw[ACZ]at this;omega
 have:=Xq te.ty.zero O1 (n.toNat*i.size) t s g;rw[c]at this;rw[C];simpa using this
theorem A8I (hT:EI P tb id ti) (i:DI P tb) {d:Nat} {x y:AV} {xv c:Value} (h:JJ tb d (some ti) (some x) (some y)=some (vc,v,obs)) (o:vc)
  (p:CD (vw w O0 σ ρ) x xv) (q:CD (vw w O0 σ ρ) y c) (hf:Bp obs σ=true) :
  ∃u ρ' w',(Instr.makeSlice id xv c).run P w=.ok u w'/\QS w O0 σ ρ v obs u ρ' w':=by
 unfold JJ at h;split at h
 .rename_i e offs el b n m j k l;cases j;cases k;cases l;cases a:lk el tb.ty with
  | none=>rw[a]at h;simp[MO]at h
  | some te =>
   rw[a]at h;simp only[MO]at h;cases h;obtain⟨rfl,_⟩:=Bb p;obtain⟨rfl,_⟩:=Bb q;obtain⟨h1,f,g⟩:=o;have h1:n=m:=h1;subst h1;exact A4W hT i rfl a f g hf
 cases h
end
end
section
open Go Go.RowKit
theorem YE {w:World} {O:Nat->Prop} {e:Ty}:∀ {l:List e.den} {ad:Addr},
  (∀(i:Nat) (x:e.den),l[i]?=some x->∃es:List Value,es.length=e.size/\(∀(j:Nat) (v:Value),es[j]?=some v->w.cell? (ad.add (i*e.size+j))=some v)/\B6 w O e es x) ->
  ∃b:List Value,b.length=l.length*e.size/\D1 w O e b l/\(∀u∈b,u.oneCell'=true)/\(∀(j:Nat) (u:Value),b[j]?=some u->w.cell? (ad.add j)=some u)
 | [],ad,h=>⟨[],sc,H6 _ _ _ _,sc,sc⟩
 | x :: l,ad,h=>by
  obtain⟨es,h1,p,k⟩:=h 0 x rfl;obtain⟨b,m,n,o,q⟩:=YE (w:=w) (O:=O) (e:=e) (l:=l) (ad:=ad.add e.size) (λi y hi=>by
   obtain⟨c,d,f,g⟩:=h (i+1) y (by simpa using hi);refine⟨c,d,λj v a=>?_,g⟩;rw[C6,show e.size+(i*e.size+j)=(i+1)*e.size+j by rw[ACZ];omega];exact f j v a)
  refine⟨es++b,by simp[h1,m,ACZ];omega,λi y hi=>?_,λu hu=>?_,λj u a=>?_⟩
  .cases i with
   | zero =>
    simp at hi;subst hi;refine⟨es,h1,λj u a=>?_,k⟩;rw[AEO,ACf,AAr (aT.1 a).1];exact a
   | succ i =>
    obtain⟨c,d,f,g⟩:=n i y (by simpa using hi);refine⟨c,d,λj u a=>?_,g⟩;rw[AAd (by rw[h1,ACZ];omega),h1,show (i+1)*e.size+j-e.size=i*e.size+j by rw[ACZ];omega];exact f j u a
  .rcases IS.1 hu with hu|hu
   .exact k.one u hu
   exact o u hu
  grind [C6]
section
variable {P:Program} {tb:Tb} {id:TypeId} {ti:TI} {w:World} {O0:Nat->Prop} {σ:St} {ρ:Nat->Value} {vc:Prop} {v:AV} {obs:List (Nat×Obj)}
structure Src (w:World) (O:Nat->Prop) (e:Ty) (xv:Value) (ys:List e.den) (news:List Value):Prop where
 form:∃(a:Option Addr) (c:Nat),xv=.slice a ys.length c/\(ys=[]\/∃ad,a=some ad/\∀(j:Nat) (u:Value),news[j]?=some u->w.cell? (ad.add j)=some u)
 len:news.length=ys.length*e.size
 elems:D1 w O e news ys
 one:∀u∈news,u.oneCell'=true
 max:ys.length<=AP
theorem UV (w:World) (O:Nat->Prop) (e:Ty) (a:Option Addr) (c:Nat):Src w O e (.slice a 0 c) [] [] :=
 ⟨⟨a,c,rfl,.inl rfl⟩,sc,H6 _ _ _ _,sc,by simp[AP]⟩
theorem YF {et:TypeId} {xs:List e.den} {loc:Value} {cells:List Value} (i:V.w.ownsRow 0 et e.size loc xs.length cells) (f:D1 V.w V.O e cells xs):∀u∈cells,u.oneCell'=true:=by
 intro u hu;obtain⟨j,g,h⟩:=AAq.1 hu;have k:=i.1;have b:=e.size_pos;have hi:j / e.size<xs.length:=by
  rw[Nat.div_lt_iff_lt_mul b];omega
 obtain⟨es,h1,c,d⟩:=f (j / e.size) (xs[j / e.size]) (AT hi);have a:j % e.size<es.length:=by rw[h1];exact AER _ b
 have:=c (j % e.size) (es[j % e.size]) (AT a);rw[show j / e.size*e.size+j % e.size=j by rw[Nat.mul_comm];exact Nat.div_add_mod j e.size]at this;rw[AT g]at this;injection this with this
 rw[<-h,this];exact d.one _ (AAt a)
def noN (σ:St):AV->Bool
 | .sr n _ _ _=>C7 (lk n σ.objs)
 | _=>false
theorem qW {w:World} {O:Nat->Prop} {et:TypeId} {b:Ty} {xs:List b.den} {loc xv:Value} {cells:List Value} {lo hi:Nat} (N:xs.length<=AP) (f:w.ownsRow 0 et b.size loc xs.length cells) (n:D1 w O b cells xs) (E:Di loc b.size lo hi xv) :
  ∃G,Src w O b xv (sub xs lo hi) G:=by
 have R:=YF (V:=⟨w,O,λ_=>False,λ_=>undef⟩) f n;obtain⟨a,m,c,q,L,o,k,l,rfl,H,h0,h1⟩:=E;have C:m=xs.length:=by
  rcases f.2 with ⟨d,D⟩|⟨g,cap,s,d,_⟩
  .grind
  rw[q]at d;injection d
 subst C;have e:=Ow xs (lo:=lo) o;by_cases A:lo<hi
 .rcases f.2 with ⟨d,D⟩|⟨g,cap,s,d,r⟩
  .omega
  have I:=World.ownsRow.cells f (g:=g) (by rw[d];rfl);have ha:a=some ⟨g,0,none⟩:=by rw[q]at d;injection d
  subst ha;have J:=f.1;have P:hi*b.size<=xs.length*b.size:=AAu _ o;have Q:lo*b.size<=hi*b.size:=AAu _ O1;refine⟨(cells.drop (lo*b.size)).take ((hi-lo)*b.size),⟨k,l,by rw[e],.inr ⟨_,h1 A,λj u h=>?_⟩⟩,?_,?_,?_,?_⟩
  .grind [C6]
  .rw[e,On,AD5,Nat.sub_mul];omega
  .intro i x z;obtain⟨F,M⟩:=Z7 xs lo hi i z;obtain⟨es,t,v,y⟩:=n (lo+i) x F;refine⟨es,t,λj u h=>?_,y⟩;have K:=(aT.1 h).1;have B:i*b.size+j<(hi-lo)*b.size:=by
    have:(i+1)*b.size<=(hi-lo)*b.size:=AAu _ O1;rw[ACZ]at this;omega
   rw[AAA,At B,ACh];have:=v j u h
   rwa [AE6,AEj]at this
  .grind
  rw[e];omega
 have p:sub xs lo hi=[]:=AAs (by rw[e];omega);refine⟨[],⟨k,l,by rw[e],.inl p⟩,by rw[e,show hi-lo=0 by omega];simp,?_,sc,by rw[e];omega⟩;rw[p];exact H6 _ _ _ _
theorem aF (q:∀n o,lk n σ.objs=some o->BI (vw w O0 σ ρ) o (ρ n)) {x:AV} {xv:Value} {ys:List e.den} (h:JC true σ (.slice e) x=some ys) (F:noN σ x=false) (s:CD (vw w O0 σ ρ) x xv) :
  ∃C,Src w (own O0 σ ρ) e xv ys C:=by
 replace h:FH true σ (.slice e) x=some ys:=by
  unfold JC at h;exact h
 cases x;case p u I =>
  have h:Bh (.slice e) ⟨u,I⟩=some ys:=by simpa only[FH] using h
  have:=BP h;injection this with h1 D
  subst h1;cases D;obtain⟨cs,⟨a,c,rfl,m,N,y⟩,rfl⟩:=s;by_cases hn:ys=[]
  .subst hn;exact⟨[],UV _ _ _ _ _⟩
  rcases y with y|⟨ad,rfl,X,g⟩
  .exact absurd y hn
  obtain⟨C,d,f,K,M⟩:=YE g;exact⟨C,⟨some ad,c,rfl,.inr ⟨ad,rfl,M⟩⟩,d,f,K,N⟩
 case sr n J lo hi =>
  simp only[FH]at h;split at h
  .rename_i A;obtain⟨_,rfl⟩:=A;obtain⟨O,b⟩:=s;cases hn:lk n σ.objs with
   | none=>rw[hn]at h;simp[Pv]at h
   | some o =>
    rw[hn]at h;cases o with
    | box et st fs=>simp[Pv]at h
    | mapo k v l=>simp[Pv]at h
    | frame ah fs=>simp[Pv]at h
    | loop L=>simp[Pv]at h
    | itr ab ag ae af aa=>simp[Pv]at h
    | dfr=>simp[Pv]at h
    | sit sb sp=>simp[Pv]at h
    | nest et V k t xs E=>rw[noN,hn]at F;cases F
    | arr et t xs =>
     simp only[Pv]at h;obtain⟨d,f⟩:=B3 h;subst d;cases f;have b:Di (plc (ρ n)) t.size lo hi xv:=b;rw[UT (q n _ hn)]at b;obtain⟨B,cells,j,g⟩:=q n _ hn;exact qW B j g b
  cases h
 case nin n J i len =>
  simp only[FH]at h;split at h
  .rename_i A;obtain⟨_,rfl⟩:=A;obtain⟨O,aj,a,c,H,G,r,R,Y⟩:=s;cases hn:lk n σ.objs with
   | none=>rw[hn]at h;simp[Rq]at h
   | some o =>
    rw[hn]at h;unfold Rq at h;split at h
    .rename_i et V k t xs T;cases T;obtain⟨d,f⟩:=B3 h;subst d;cases f;have Q:=aA (z:=(k.dflt,[])) (q n _ hn) G r;obtain⟨o,ins,cells,E,P⟩:=q n _ hn;obtain rfl:=E.tup G;have r:ins[i]?=some H:=by simpa using r
     obtain⟨c1,ai,h1,D,m⟩:=P.row i _ H Q r;rcases m with ⟨m,_⟩|⟨_,_,B,Z,j,g⟩
     .cases m
     rcases R with rfl|⟨rfl,W,rfl⟩
     .have:=qW B j g (Gh j)
      rwa [JB]at this
     have S:=K5 j;have U:(xs.getD i (k.dflt,[])).2=[]:=AAs S.symm;rw[U];exact⟨[],UV _ _ _ _ _⟩
    cases h
  cases h
 case raw u =>
  have b:xv=u:=s;subst b;cases xv with
  | slice a n c =>
   cases a with
   | some a=>simp[FH]at h
   | none =>
    cases n with
    | succ n=>simp[FH]at h
    | zero =>
     cases c with
     | succ c=>simp[FH]at h
     | zero =>
      simp only[FH]at h;cases h;exact⟨[],UV _ _ _ _ _⟩
  | _=>simp[FH]at h
 all_goals simp[FH]at h
theorem UW (a:∀n o,lk n σ.objs=some o->BI (vw w O0 σ ρ) o (ρ n)) {x:AV} {xv:Value} {ys:List e.den} (h:Pw σ e x=some ys) (b:CD (vw w O0 σ ρ) x xv) :
  ∃f,Src w (own O0 σ ρ) e xv ys f:=by
 unfold Pw at h;split at h
 .split at h
  .cases h
  rename_i c;exact aF a h (by simpa[noN] using c) b
 rename_i d;refine aF a h ?_ b;cases x<;>first|rfl|exact absurd rfl (d _ _ _ _)
theorem TG {el:TypeId} (hu:P.underlying id=some (.slice el)) {sz:Nat} (hs:(sizeOf el).run P w=.ok sz w) {base et ty:Nat} {s:Value} {n:Nat} {xs:List Value} (b:w.ownsRow base et sz s n xs) (c:Nat) :
  (Builtin.append_ #[id,id] ty #[s,.slice none 0 c]).run P w=.ok s w:=by
 rcases b.2 with ⟨rfl,rfl⟩|⟨g,cap,d,rfl,_,_,a,_⟩
 .simp[Builtin.append_,iS hu,hs,Builtin.lenOf,Builtin.firstCells]
 simp[Builtin.append_,iS hu,hs,Builtin.lenOf,Builtin.firstCells,a,storeCells]
theorem Gj (k:DI P tb) {el:TypeId} (hu:P.underlying id=some (.slice el)) {te:TI} (q:lk el tb.ty=some te) (y:te.ty=e) {base ty:Nat} {s xv:Value} {n:Nat} {xs h:List Value}
    (g:w.ownsRow base el e.size s n xs) {O:Nat->Prop} {ys:List e.den} (C:Src w O e xv ys h) (r:(n+ys.length)*te.bytes<=AP) (l:base<=w.heap.size) :
    ∃b w',(Builtin.append_ #[id,id] ty #[s,xv]).run P w=.ok b w'/\w'.ownsRow base el e.size b (n+ys.length) (xs++h)/\w.grownBy w' s.ownBlock/\n+ys.length<=AP:=by
  subst y;obtain⟨⟨⟨_,v,_⟩,i,z,hi,p,m,hz,t⟩,_⟩:=k _ _ q;have f:n+ys.length<=AP:=by
    have:(n+ys.length)*1<=(n+ys.length)*te.bytes:=ADk _ v;omega
  obtain⟨⟨a,c,rfl,u⟩,o,D,B,E⟩:=C;have hs:(sizeOf el).run P w=.ok te.ty.size w:=IK w (k _ _ q);rcases u with rfl|⟨ad,rfl,x⟩
  . have A:h=[]:=AAs (by simpa using o)
    subst A;cases a with
    | none =>
      refine⟨s,w,TG hu hs g c,by simpa using g,⟨rfl,rfl,rfl,Of _,λ_ _ _=>rfl⟩,f⟩
    | some ad =>
      obtain⟨b,w',h1,d,j,_⟩:=run_append_own (P:=P) w base id ty el i z te.ty.size te.bytes hu hi hz p m (by rw[t];simpa using (B6.zero w (λ_=>False) te.ty).length) te.ty.size_pos s n xs g ad 0 c [] sc sc sc
        (by have h1:AP=140737488355328:=rfl;have d:maxLen=9223372036854775807:=rfl;simp at f;omega) (by simpa[AP] using r) l
      exact⟨b,w',h1,by simpa using d,j,f⟩
  obtain ⟨b, w', h1, d, j, _⟩ := run_append_own (P := P) w base id ty el i z te.ty.size te.bytes hu hi hz p m (by rw [t]; simpa using (B6.zero w (λ_ => False) te.ty).length) te.ty.size_pos s n xs g ad ys.length c h o x B
      (by have h1:AP=140737488355328:=rfl;have d:maxLen=9223372036854775807:=rfl;omega) (by simpa[AP] using r) l
  exact⟨b,w',h1,d,j,f⟩
theorem K8 {w:World} {O:Nat->Prop} {c1 c2:List Value} {xs ys:List e.den} (h1:D1 w O e c1 xs) (d:D1 w O e c2 ys) (g:c1.length=xs.length*e.size):D1 w O e (c1++c2) (xs++ys):=by
 intro i x hi;rw[ACg]at hi;split at hi
 .obtain⟨es,a,b,c⟩:=h1 i x hi;grind
 rename_i h;obtain⟨es,a,b,c⟩:=d _ x hi;refine⟨es,a,λj u f=>?_,c⟩;have k:xs.length*e.size<=i*e.size:=AAu _ O1;rw[AAd O1,g];have:=b j u f;rw[Nat.sub_mul]at this;rw[<-this]
 congr 1
 omega
theorem TH (k:DI P tb) {el:TypeId} (hu:P.underlying id=some (.slice el)) {te:TI} (m:lk el tb.ty=some te) (x:te.ty=e) {ty:Nat} {xv:Value} {O:Nat->Prop} {xs:List e.den} {a:Option Addr} {c:List Value}
  (hs:Src w O e (.slice a xs.length xs.length) xs c) {ys:List e.den} {d:List Value} (l:Src w O e xv ys d) (h0:0<ys.length) (n:(xs.length+ys.length)*te.bytes<=AP) :
  ∃b w',(Builtin.append_ #[id,id] ty #[.slice a xs.length xs.length,xv]).run P w=.ok b w'/\w'.ownsRow w.heap.size el e.size b (xs.length+ys.length) (c++d)/\w.grownBy w' none:=by
 subst x;have o:∀ad:Addr,a=some ad->(∀(j:Nat) (u:Value),c[j]?=some u->w.cell? (ad.add j)=some u)->∃b w',(Builtin.append_ #[id,id] ty #[.slice a xs.length xs.length,xv]).run P w=.ok b w'/\w'.ownsRow w.heap.size el te.ty.size b (xs.length+ys.length) (c++d)/\w.grownBy w' none:=by
  intro ad ha D;subst ha;obtain⟨⟨⟨_,s,_⟩,i,z,hi,E,t,hz,F⟩,_⟩:=k _ _ m;obtain⟨⟨H,c2,rfl,f⟩,A,L,S,N⟩:=l;have R:xs.length+ys.length<=AP:=by
   have:(xs.length+ys.length)*1<=(xs.length+ys.length)*te.bytes:=ADk _ s;omega
  rcases f with rfl|⟨p,rfl,g⟩
  .simp at h0
  exact run_append_arg_grows (P:=P) w id ty el i z te.ty.size te.bytes hu hi hz E t (by rw[F];simpa using (B6.zero w (λ_=>False) te.ty).length) te.ty.size_pos ad xs.length xs.length c hs.len D p ys.length c2 d A g O1
   (by have h1:AP=140737488355328:=rfl;have h:maxLen=9223372036854775807:=rfl;omega) (by simpa[AP] using n)
 obtain⟨⟨G,c1,v,f⟩,B,M,T,Q⟩:=hs;injection v with q I J
 subst q;rcases f with rfl|⟨ad,ha,g⟩
 .have C:c=[]:=AAs (by simpa using B);subst C;cases a with
  | some ad=>exact o ad rfl λj u y=>by simp at y
  | none =>
   obtain⟨b,w',h1,h,r,K⟩:=Gj (ty:=ty) k hu m rfl (ADA w w.heap.size el te.ty.size) l (by simpa using n) (Of _);exact⟨b,w',h1,by simpa using h,r⟩
 exact o ad ha g
theorem TJ {w w':World} (h:w.grownBy w' none):Below w.heap.size w w':=⟨h.os,h.tape,h.output,h.size,λk hk=>h.block k hk sc⟩
theorem A0C (a:DI P tb) (E:∀n o,lk n σ.objs=some o->BI (vw w O0 σ ρ) o (ρ n)) {d:Nat} {t u:TypeId} {x y:AV} {xv J:Value} {ty:TypeId}
  (h:Cy tb σ d t u (some x) (some y)=some (vc,v,obs)) (m:vc) (q:CD (vw w O0 σ ρ) x xv) (H:CD (vw w O0 σ ρ) y J) (hf:Bp obs σ=true) :
  ∃z ρ' w',(Builtin.append_ #[t,u] ty #[xv,J]).run P w=.ok z w'/\QS w O0 σ ρ v obs z ρ' w':=by
 unfold Cy at h;split at h
 .rename_i C D;cases C;cases D;have q:xv=_:=q;subst q;split at h
  .rename_i G;subst G;cases c:lk t tb.ty with
   | none=>rw[c]at h;simp[Eo]at h
   | some ti =>
    rw[c]at h;unfold Eo at h;split at h
    .rename_i e offs el b B;cases B;obtain⟨hu,hs,te,i,k⟩:=Cm (a _ _ c) a;rw[i]at h;cases f:Pw σ e y with
     | none=>rw[f]at h;simp[FN]at h
     | some ys =>
      rw[f]at h;simp only[FN]at h;cases h;obtain⟨I,g⟩:=UW E f H;obtain⟨r,w',h1,j,A,Q⟩:=Gj (ty:=ty) a hu i k (ADA w w.heap.size el e.size) g (by simpa using m) (Of _);have j:w'.ownsRow w.heap.size el e.size r ys.length I:=by simpa using j
      exact⟨r,_,w',h1,QS.arr hf (TJ A) j g.max g.elems rfl⟩
    cases h
  cases h
 .rename_i e l v1 C D;cases C;cases D;split at h
  .rename_i G;subst G;obtain⟨M,O,rfl⟩:=q;cases c:lk t tb.ty with
   | none=>rw[c]at h;simp[Jq]at h
   | some ti =>
    rw[c]at h;unfold Jq at h;split at h
    .rename_i s offs el b B;cases B;split at h
     .rename_i k;subst k;obtain⟨hu,hs,te,i,k⟩:=Cm (a _ _ c) a;rw[i]at h;cases f:Pw σ s y with
      | none=>rw[f]at h;simp[Kv]at h
      | some ys =>
       rw[f]at h;simp only[Kv]at h;cases h;obtain⟨N,m⟩:=m;obtain⟨I,g⟩:=UW E f H;obtain⟨R,F⟩:=aF (e:=s) (ys:=l) (x:=.p (.slice s) l) E (by simp[JC,FH,Fm]) rfl M;obtain⟨r,w',h1,j,A⟩:=TH (ty:=ty) a hu i k F g N m;have L:(l++ys).length<=AP:=by
        obtain⟨⟨⟨_,K,_⟩,_⟩,_⟩:=a _ _ i;have:(l.length+ys.length)*1<=(l.length+ys.length)*te.bytes:=ADk _ K;rw[IF];omega
       exact⟨r,_,w',h1,QS.arr hf (TJ A) (by rw[IF];exact j) L (K8 F.elems g.elems F.len) (by rw[IF])⟩
     cases h
    cases h
  cases h
 cases h
end
end
section
open Go Go.RowKit
def VQ:Ty->Option TypeDesc
 | .int k=>some (.int k)
 | .bool=>some .bool
 | .str=>some .string
 | .prod _ _=>none
 | .agg _=>none
 | .slice _=>none
 | .ref _=>none
section
variable {w:World} {O:Nat->Prop}
theorem Ng {a:Ty} (b:VQ a=some d) {k:a.den} {c:Value} (h:Bg w O a c k):MapKept.IsKey d c:=by
 cases a<;>simp only[VQ]at b<;>try(cases b;done)
 all_goals cases b
 .obtain⟨rfl,_⟩:=Bb h;trivial
 .have:=EX h;subst this;trivial
 obtain⟨rfl,_⟩:=HC h;trivial
theorem fA {a:Ty} (c:VQ a=some d) {k e:a.den} {g:Value} (h:Bg w O a f k) (b:Bg w O a g e):Instr.sameNow d f g=some (Ht a k e):=by
 cases a<;>simp only[VQ]at c<;>try(cases c;done)
 all_goals cases c
 .obtain⟨rfl,_⟩:=Bb h;obtain⟨rfl,_⟩:=Bb b;simp[Instr.sameNow,Ht]
 .have:=EX h;subst this;have:=EX b;subst this;simp[Instr.sameNow,Ht]
 obtain⟨rfl,_⟩:=HC h;obtain⟨rfl,_⟩:=HC b;simp[Instr.sameNow,Ht]
theorem A8J {a:Ty} (b:VQ a=some d) {k e:a.den} {g:Value} (h:Bg w O a f k) (c:Bg w O a g e) (l:Ht a k e=true):g=f:=by
 have h1:=fA b h c;obtain⟨r,i,j⟩:=MapKept.sameNow_of_keys (Ng b h) (Ng b c);grind
def MZ (a b:Ty) (k:a.den):List MapEntry->List (a.den×b.den)->Nat->Option (Nat×Value)
 | e :: es,x :: l,i=>if Ht a k x.1=true then some (i,e.val) else MZ a b k es l (i+1)
 | _,_,_=>none
end
structure aG (P:Program) (kid:TypeId) (kt:Ty):Prop where
 check:∀ {w:World} {O:Nat->Prop} {kv:Value} {k:kt.den} (em:Bool),Bg w O kt kv k->(Instr.checkKey em 10000 kid kv).run P w=.ok () w
 find:∀ {w:World} {O:Nat->Prop} {vt:Ty} {es:List MapEntry} {l:List (kt.den×vt.den)} {kv:Value} {k:kt.den},Bg w O kt kv k->Ou w O kt vt es l->(Instr.findKey kid kv es).run P w=.ok (MZ kt vt k es l 0) w
 stays:∀ {w:World} {O:Nat->Prop} {kv:Value} {k:kt.den},Bg w O kt kv k->(Instr.keyThatStays kv kv).run P w=.ok kv w
 same:∀ {w:World} {O:Nat->Prop} {kv kv':Value} {k k':kt.den},Bg w O kt kv k->Bg w O kt kv' k'->Ht kt k k'=true->kv'=kv
theorem YG {w:World} {O:Nat->Prop} {a b:Ty} {d:TypeDesc} (f:VQ a=some d) {k:a.den} {g:Value} (hk:Bg w O a g k):∀ {es:List MapEntry} {l:List (a.den×b.den)},Ou w O a b es l->∀i,Instr.findNow d g es i=some (MZ a b k es l i)
 | [],[],_,i=>rfl
 | [],_ :: _,h,_=>h.elim
 | _ :: _,[],h,_=>h.elim
 | e :: es,x :: l,⟨h1,n,j⟩,i=>by
  have hs:=fA f hk h1;have m:=YG f hk j (i+1);cases c:Ht a k x.1<;>rw[c]at hs<;>simp[Instr.findNow,MZ,hs,c,m]
theorem Jv (hd:VQ e=some d) (hu:P.underlying t=some d):aG P t e where
 check:=λem h=>MapKept.run_checkKey hu (Ng hd h) em 9999
 find:=λhk he=>MapKept.run_findKey hu (YG hd hk he 0)
 stays:=λh=>MapKept.run_keyThatStays (Ng hd h)
 same:=λh h' he=>A8J hd h h' he
theorem EY {O:Nat->Prop} {v:Value} {d:(Ty.agg (.prod (.int a) (.int b))).den} (h:Bg w O (.agg (.prod (.int a) (.int b))) v d):v=.agg #[.int a d.1,.int b d.2]:=by
 obtain⟨cs,⟨c1,c2,rfl,⟨rfl,_⟩,⟨rfl,_⟩⟩,rfl⟩:=h;rfl
theorem Ma (h:P.underlying t=some (.int a)) (d:Nat) (x y:Int):(Op.equalIn (d+1) t (.int a x) (.int a y)).run P w=.ok (x==y) w:=by simp[Op.equalIn,iS h]
theorem QE (h:P.underlying t=some (.int a)) (em:Bool) (d:Nat) (x:Int):(Instr.checkKey em (d+1) t (.int a x)).run P w=.ok () w:=by simp[Instr.checkKey,iS h]
theorem Xr {h:TypeId} (n:K6 P h a b) (em:Bool) (d:Nat) (x y:Int):(Instr.checkKey em (d+2) h (.agg #[.int a x,.int b y])).run P w=.ok () w:=by
 obtain⟨c,e,hu,⟨h1,j⟩,⟨l,m⟩,⟨f,g⟩,t⟩:=n;have i : c.name ≠ "_" := by simpa using h1
 have k : e.name ≠ "_" := by simpa using j
 have o:P.plainKey c.type=true:=by simp[Program.plainKey,f]
 have p:P.plainKey e.type=true:=by simp[Program.plainKey,g]
 have p0:=λ(u v:Value)=>ADQ (P:=P) w o (xs:=#[u,v]) (off:=c.offset) (v:=u) (by rw[l];rfl);have q:=λ(u v:Value)=>ADQ (P:=P) w p (xs:=#[u,v]) (off:=e.offset) (v:=v) (by rw[m];rfl);have r:=λx:Int=>QE (w:=w) f em d x;have s:=λx:Int=>QE (w:=w) g em d x;rw[Instr.checkKey];simp[iS hu,i,k,p0,q,r,s]
theorem O2 {g:TypeId} (z:K6 P g a b) (w:World) (h i j k:Int):(Op.equal g (.agg #[.int a h,.int b i]) (.agg #[.int a j,.int b k])).run P w=.ok ((h==j)&&(i==k)) w:=by
 obtain⟨d,f,hu,⟨h1,l⟩,⟨r,s⟩,⟨m,n⟩,t⟩:=z;have o:P.fieldsOf g=#[d,f]:=by simp[Program.fieldsOf,hu]
 have A:P.plainKey d.type=true:=by simp[Program.plainKey,m]
 have B:P.plainKey f.type=true:=by simp[Program.plainKey,n]
 have h1 : d.name ≠ "_" := by simpa using h1
 have l : f.name ≠ "_" := by simpa using l
 have C:∀x y:Int,(Op.equalIn 9999 d.type (.int a x) (.int a y)).run P w=.ok (x==y) w:=λx y=>Ma m 9998 x y;have p:∀x y:Int,(Op.equalIn 9999 f.type (.int b x) (.int b y)).run P w=.ok (x==y) w:=λx y=>Ma n 9998 x y;have e:(Op.equal g (.agg #[.int a h,.int b i]) (.agg #[.int a j,.int b k])).run P w=_:=run_equalIn_struct (P:=P) w 9999 g _ _ (by rw[o];exact hu) t;rw[e,o];have p0:=λ(u v:Value)=>ADQ (P:=P) w A (xs:=#[u,v]) (off:=d.offset) (v:=u) (by rw[r];rfl);have q:=λ(u v:Value)=>ADQ (P:=P) w B (xs:=#[u,v]) (off:=f.offset) (v:=v) (by rw[s];rfl);simp only[Op.eqFields,h1,l,ne_eq,AEC,ACk,ACc,p0,q,AAM,C,p];by_cases c:h=j
 .by_cases c2:i=k<;>simp[c,c2,AEF,ACc,q,p,Op.eqFields]
 simp[c,AEF]
theorem YH {P:Program} {g:TypeId} {a b:IntKind} (d:K6 P g a b) {w:World} {O:Nat->Prop} {c:Ty} {k:(Ty.agg (.prod (.int a) (.int b))).den} {j:Value} (hk:Bg w O (.agg (.prod (.int a) (.int b))) j k) :
  ∀ {es:List MapEntry} {l:List ((Ty.agg (.prod (.int a) (.int b))).den×c.den)},Ou w O (.agg (.prod (.int a) (.int b))) c es l->∀i,(Instr.findAsking g j es i).run P w=.ok (MZ (.agg (.prod (.int a) (.int b))) c k es l i) w
 | [],[],_,i=>rfl
 | [],_ :: _,h,_=>h.elim
 | _ :: _,[],h,_=>h.elim
 | e :: es,x :: l,⟨h1,p,m⟩,i=>by
  have o:=YH d hk m (i+1);have f:=O2 d w k.1 k.2 x.1.1 x.1.2;rw[<-EY hk,<-EY h1]at f;have n:Ht (.agg (.prod (.int a) (.int b))) k x.1=((k.1==x.1.1)&&(k.2==x.1.2)):=rfl;simp only[Instr.findAsking,ACc,f,AAM,MZ,n,AEF];split
  .rfl
  exact o
theorem fB (hp:K6 P t a b):aG P t (.agg (.prod (.int a) (.int b))) where
 check:=λem h=>by
  rw[EY h];exact Xr hp em 9998 _ _
 find:=λhk he=>by
  have hp2:=hp;obtain⟨f0,f1,hu,_⟩:=hp2;rw[run_findKey_eq _ (by rw[hu])];exact YH hp hk he 0
 stays:=λh=>by
  rw[EY h];simp[Instr.keyThatStays,Instr.sameBits]
 same:=λh h' he=>by
  rw[EY h,EY h'];have he:((_==_)&&(_==_))=true:=he;grind
theorem Rz {P:Program} {A:TypeId} {w:World} {O:Nat->Prop} {c a:Ty} (s:aG P A c) {k:c.den} {m:Value} (hk:Bg w O c m k):∀ {es:List MapEntry} {l:List (c.den×a.den)},Ou w O c a es l->∀i,
  (Bc c a k l=none/\MZ c a k es l i=none/\∀(v:a.den) (d:Value) (b:Nat),Bg w O a d v->Ou w O c a (es++[⟨m,d,b⟩]) (Fd c a k v l)) \/
  ∃(j:Nat) (e:MapEntry) (v0:a.den),Bc c a k l=some v0/\MZ c a k es l i=some (i+j,e.val)/\es[j]?=some e/\Bg w O a e.val v0/\e.key=m /\
   ∀(v:a.den) (d:Value),Bg w O a d v->Ou w O c a (es.modify j λe=>{ e with key:=m,val:=d }) (Fd c a k v l)
 | [],[],_,i=>.inl ⟨rfl,rfl,λv d b g=>⟨hk,g,trivial⟩⟩
 | [],_ :: _,h,_=>h.elim
 | _ :: _,[],h,_=>h.elim
 | e :: es,x :: l,⟨h1,p,r⟩,i=>by
  cases f:Ht c k x.1 with
  | true =>
   refine .inr ⟨0,e,x.2,by simp[Bc,f],by simp[MZ,f],rfl,p,s.same hk h1 f,λv d g=>?_⟩;simp only[Fd,f,ACk];exact⟨hk,g,r⟩
  | false =>
   rcases Rz s hk r (i+1) with ⟨n,q,o⟩|⟨j,t,v0,n,q,o,u,y,z⟩
   .refine .inl ⟨by simp[Bc,f,n],by simp[MZ,f,q],λv d b g=>?_⟩;simp only[Fd,f,ACT,AD1];exact⟨h1,p,o v d b g⟩
   refine .inr ⟨j+1,t,v0,by simp[Bc,f,n],?_,by simpa using o,u,y,λv d g=>?_⟩
   .grind [MZ]
   simp only[Fd,f,ACT,AD1,List.modify_succ_cons];exact⟨h1,p,z v d g⟩
theorem fC {tb:Tb} {ti:TI} (hT:EI P tb t ti) (c:ti.el=0) (hk:Xo ti.ty=true):aG P t ti.ty:=by
 have a:=hT.2;obtain⟨⟨⟨_,_,b⟩,_⟩,_⟩:=hT;rw[c]at b;cases d:ti.ty<;>rw[d]at a hk b<;>simp only[Xo]at hk<;>try(cases hk;done)
 .exact Jv rfl a
 .exact Jv rfl a
 .exact Jv rfl a
 unfold l6 at hk;split at hk
 .exact fB b
 cases hk
theorem wX {t:Ty} {z:Value} (c:z.cells=t.zero.toArray) (hf:aB t z=true):z=t.wrap t.zero:=by
 cases t with
 | agg t =>
  cases z<;>simp only[aB]at hf<;>try(cases hf;done)
  simp only[Value.cells]at c;rw[c];rfl
 | prod a b=>cases z<;>simp[aB]at hf
 | _=>cases z<;>simp only[aB]at hf<;>(try(cases hf;done))<;>(simp only[Value.cells,Ty.zero]at c;simp[Ty.wrap,Ty.zero]at c ⊢<;>exact c)
section
variable {P:Program} {tb:Tb} {w:World} {O0:Nat->Prop} {σ:St} {ρ:Nat->Value} {vc:Prop} {v:AV} {obs:List (Nat×Obj)} {id:TypeId} {ti:TI}
theorem wY {P:Program} {tb:Tb} {e:TypeId} {te:TI} {z:Value} {i:TypeInfo} (hi:P.info? e=some i) (hz:i.zero=some z) (a:z.cells=te.ty.zero.toArray) (hf:aB te.ty z=true) (w:World) (O:Nat->Prop) :
  (zeroValue e).run P w=.ok z w/\Bg w O te.ty z te.ty.dflt:=by
 refine⟨by simp[zeroValue,typeInfo,hi,hz],te.ty.zero,B6.zero w O te.ty,wX a hf⟩
theorem bnd (f:Nat):¬(1000000+f<1000000)/\1000000+f-1000000=f:=by omega
theorem AAJ {a:Act} (q:Es (vw w O0 σ ρ) σ a.eval) {fn:Fn} {first e:List Operand} (h:Z2 σ fn first e=some (vc,v,obs)):obs=[]/\∃u,(Instr.makeFunc fn (first.map a.eval).toArray (e.map a.eval).toArray).run P w=.ok u w/\CD (vw w O0 σ ρ) v u:=by
 unfold Z2 at h;split at h
 .rename_i f;split at h;case isFalse=>cases h
  rename_i y;cases j:IE σ e with
  | none=>rw[j]at h;simp[P2]at h
  | some ns =>
   rw[j]at h;simp only[P2]at h;cases h;have key:∀ {l:List Operand} {ns:List Nat},IE σ l=some ns->l.map a.eval=ns.map ρ/\∀n∈ns,HV σ n/\∃b:Nat,ρ n=.pointer (some ⟨b,0,none⟩):=by
    intro l;induction l with
    | nil=>intro ns h;simp only[IE]at h;cases h;exact⟨rfl,λ_ h=>by cases h⟩
    | cons x r z =>
     intro ns h;simp only[IE]at h;split at h
     .rename_i n B h1 s;cases h;obtain⟨g,i⟩:=z s;obtain⟨o,b,c,p⟩:=q x _ h1;have c:ρ n=_:=c;refine⟨by simp only[gO,g,p,c],λm d=>?_⟩;rcases By.1 d with rfl|d
      .exact⟨o,b,c⟩
      exact i m d
     cases h
   obtain⟨g,i⟩:=key j;refine⟨rfl,_,rfl,?_,i⟩;rw[g];unfold wT;rw[At y];rfl
 .rename_i f x;cases k:Al σ x with
  | none=>rw[k]at h;simp[Z1]at h
  | some xv =>
   rw[k]at h;unfold Z1 at h;split at h
   .rename_i n t;cases t;cases h;obtain⟨o,b,c,p⟩:=q x _ k;have c:ρ n=_:=c;refine⟨rfl,_,rfl,?_,λm d=>?_⟩
    .unfold wT;rw[As (bnd f).1,(bnd f).2];simp only[gO,ACS,p];have A:(vw w O0 σ ρ).ρ n=.pointer (some ⟨b,0,none⟩):=c;rw[A]
    obtain rfl:=oF.1 d;exact⟨o,b,c⟩
   cases h
 cases h
theorem wZ {es:Array MapEntry} {cl:Nat} (h:Z4 es cl) (x y:Value):Z4 (es.push ⟨x,y,cl⟩) (cl+1):=by grind [Z4]
theorem fD {es:Array MapEntry} {cl:Nat} (h:Z4 es cl) (j:Nat) (x y:Value):Z4 (es.modify j λe=>{ e with key:=x,val:=y }) cl:=by
 have e:((es.modify j λe=>{ e with key:=x,val:=y }).toList.map (·.born))=es.toList.map (·.born):=by
  rw[Array.toList_modify];apply AAy
  .simp
  grind
 unfold Z4;rw[e];exact h
theorem A8K (F:DI P tb) (hT:EI P tb id ti) {n:Nat} {k e:Nat} (N:ti.ty=.ref 2) (M:ti.offs=[(k,e)]) {a:TI} (Q:lk k tb.ty=some a) {c:Ty} {l:List (a.ty.den×c.den)} (G:V.w=w)
  (L:BI V (.mapo a.ty c l) (V.ρ n)) {x y:Value} {kd:a.ty.den} {h:c.den} (H:a.el=0) (J:Xo a.ty=true) (g:Bg w V.O a.ty x kd) (A:Bg w V.O c y h) :
  ∃b m r,V.ρ n=.map (some b)/\(Instr.mapUpdate id (.map (some b)) x y).run P w=.ok () { w with heap:=w.heap.setIfInBounds b (.map m r) }/\(∃o,w.heap[b]?=some o)/\Ou w V.O a.ty c m.toList (Fd a.ty c kd h l)/\Z4 m r:=by
 obtain⟨d,hu,_,K⟩:∃d,P.underlying id=some d/\(match d with|.struct _=>False|.array _ _=>False|_=>True) /\
   ∀k e,(2:Nat)=2->ti.offs=[(k,e)]->d=.map k e/\∃(a te:TI) (z:Value),lk k tb.ty=some a/\lk e tb.ty=some te/\(∃i,P.info? e=some i/\i.zero=some z)/\z.cells=te.ty.zero.toArray/\aB te.ty z=true:=by
  have:=hT.2;rw[N]at this;exact this
 obtain⟨rfl,_⟩:=K k e rfl M;obtain⟨b,es,cl,v,hh,t,s⟩:=L;subst G;have f:=fC (F _ _ Q) H J;have u:=f.find g t;refine⟨b,?_⟩;rcases Rz f g t 0 with ⟨C,p,q⟩|⟨j,B,v0,C,p,q,R,D,E⟩
 .refine⟨es.push ⟨x,y,cl⟩,cl+1,v,?_,⟨_,hh⟩,by simpa using q h y cl A,wZ s x y⟩;simp[Instr.mapUpdate,iS hu,ADE hh,f.check _ g,u,p,MapKept.run_setObj_map _ hh]
 have I:es[j]?=some B:=by simpa using q
 refine⟨es.modify j λe=>{ e with key:=x,val:=y },cl,v,?_,⟨_,hh⟩,by rw[Array.toList_modify];exact E h y A,fD s j x y⟩;simp[Instr.mapUpdate,iS hu,ADE hh,f.check _ g,u,p,I,D,f.stays g,MapKept.run_setObj_map _ hh]
theorem w3 (hT:EI P tb id ti) {d:Nat} (h:GA tb d (some ti)=some (vc,v,obs)) (hf:Bp obs σ=true) :
  ∃u ρ' w',(Instr.makeMap id none).run P w=.ok u w'/\QS w O0 σ ρ v obs u ρ' w':=by
 unfold GA at h;split at h
 .rename_i offs _ _ c;cases c;unfold Gf at h;split at h
  .rename_i k e;unfold Ge at h;split at h
   .cases h;have f:(Instr.makeMap id none).run P w=.ok (.map (some w.heap.size)) (w.alloc (.map #[] 0)):=by
     simp[Instr.makeMap,Result.andThen]
    refine⟨_,_,_,f,QS.one (loc:=.map (some w.heap.size)) ((Below.refl _ w).alloc (Of _) _) ?_ ?_ ?_⟩
    .grind [bk,blk]
    .refine⟨⟨_,by simp only[D5,To,lk,ACk];rfl⟩,w.heap.size,?_,rfl⟩;show E3 ρ d _ d=_;rw[Bz]
    exact⟨w.heap.size,#[],0,rfl,(MapKept.heap_alloc w _).1,trivial,List.Pairwise.nil,λb a=>by cases a⟩
   cases h
  cases h
 cases h
theorem A8L (hT:EI P tb id ti) (L:DI P tb) (G:∀n o,lk n σ.objs=some o->BI (vw w O0 σ ρ) o (ρ n)) {ok:Bool} {x y:AV} {xv D:Value} (h:JL tb σ ok (some ti) (some x) (some y)=some (vc,v,obs))
  (X:CD (vw w O0 σ ρ) x xv) (Y:CD (vw w O0 σ ρ) y D):obs=[]/\∃u,(Instr.lookup id xv D ok).run P w=.ok u w/\CD (vw w O0 σ ρ) v u:=by
 unfold JL at h;split at h
 .rename_i k e _ _ n z O Q R;cases O;cases Q;cases R;obtain⟨d,hu,_,U⟩:=hT.2;obtain⟨rfl,C,te,ae,I,W,⟨i,hi,hz⟩,ab,ad⟩:=U k e rfl rfl;cases hn:lk n σ.objs with
  | none=>rw[hn]at h;simp[IG]at h
  | some o =>
   rw[hn]at h;cases o with
   | mapo ah ai l =>
    simp only[IG,I,W,AD8,ACR]at h;split at h
    .rename_i N;obtain⟨rfl,S,rfl⟩:=N;cases hk:JC false σ C.ty y with
     | none=>rw[hk]at h;simp[Kx]at h
     | some kd =>
      rw[hk]at h;simp only[Kx]at h;split at h
      .rename_i T;have a:=Ft (V:=vw w O0 σ ρ) (O':=own O0 σ ρ) (λ_ h=>h) (λh=>by cases h) G hk Y;have a:Bg w (own O0 σ ρ) C.ty D kd:=a;obtain⟨ag,b,B,rfl⟩:=X;have B:ρ n=_:=B;obtain⟨af,es,cl,c,hh,m,-⟩:=G n _ hn;rw[B]at c;injection c with c
       injection c with c
       subst c;have hh:w.heap[b]?=some (.map es cl):=hh;have m:Ou w (own O0 σ ρ) C.ty te.ty es.toList l:=m;have p:=fC (L _ _ I) S T;have F:=p.find a m;obtain⟨Z,aa⟩:=wY (te:=te) (P:=P) (tb:=tb) hi hz ab ad w (own O0 σ ρ);have E:∀(f:Value) (q:Bool) (r:Option te.ty.den),Bg w (own O0 σ ρ) te.ty f (r.getD te.ty.dflt)->q=r.isSome->MQ te.ty ok r=some (vc,v,obs)->obs=[]/\∃u,u=(if ok=true then Value.tuple #[f,.bool q] else f)/\CD (vw w O0 σ ρ) v u:=by
        intro f q r H M g;unfold MQ at g;subst M;cases ok with
        | true =>
         simp only[ACk]at g ⊢;cases g;exact⟨rfl,_,rfl,[f,.bool r.isSome],rfl,f,_,rfl,H,_,[],rfl,Bx _,rfl⟩
        | false =>
         simp only[ACT,AD1]at g ⊢;cases g;exact⟨rfl,_,rfl,H⟩
       rcases Rz p a m 0 with ⟨s,t,_⟩|⟨j,J,v0,s,t,_,K,_,_⟩
       .rw[s]at h;obtain⟨h1,u,rfl,A⟩:=E ae false none aa rfl h;refine⟨h1,_,?_,A⟩;simp[Instr.lookup,iS hu,ADE hh,p.check _ a,F,t,Z]
       rw[s]at h;obtain⟨h1,u,rfl,A⟩:=E J.val true (some v0) K rfl h;refine⟨h1,_,?_,A⟩;simp[Instr.lookup,iS hu,ADE hh,p.check _ a,F,t]
      cases h
    cases h
   | _=>simp[IG]at h
 cases h
end
end
end Go.Proofs.YtddbnflakbngaaaGreatDoor.Fw
