/- The executor's quiet operations are sound, second part; maps. -/
import Derived.Test.YtdapahgnpbehbaaGreatIZB
import Derived.ArgAppend
import Derived.MapKept
import Derived.WideKeyRuns
import Derived.Laws.StructEq
set_option linter.unusedVariables false
set_option linter.unusedSimpArgs false
namespace Go.Proofs.YtdapahgnpbehbaaGreat.Fw
section
open Go Go.RowKit
section
abbrev AAK:=@Go.MapKept.run_getObj_map
abbrev AB1:=@Go.Sem.run_pure
abbrev ABs:=@Go.World.ownsRow_nil
abbrev ABw:=@Go.MapKept.run_setObj_map
abbrev ACj:=@Go.run_part_plain
variable {P:Program} {tb:Tb} {id:TypeId} {ti:TI} {w:World} {O0:Nat→Prop} {σ:St} {ρ:Nat→Value} {vc:Prop} {v:AV} {obs:List (Nat×Obj)}
theorem Ep (w:World) (o:_root_.Go.Obj):Below w.heap.size w (w.alloc o):=(Below.refl _ _).alloc (If _) o
theorem QS.box {n:Nat} {et:TypeId} {c:Bool} {fs:List AV} {cs:List Value} (hf:BQ [(n,.box et c fs)] σ=true) (h:c=false→fs.length=1) (f:Cw (vw w O0 σ ρ) fs cs) :
  QS w O0 σ ρ (.bp n [] 0) [(n,.box et c fs)] (.pointer (some ⟨w.heap.size,0,none⟩)) (Dr ρ n (.pointer (some ⟨w.heap.size,0,none⟩))) (w.alloc (.cells cs.toArray et)):=by
 have g:∀(m:Nat) (o:Obj) (b:Nat),lk m [(n,.box et c fs)]=some o→bk (Dr ρ n (.pointer (some ⟨w.heap.size,0,none⟩)) m) b→w.heap.size≤b:=by
  intro m o b a d;simp only[lk]at a;split at a
  ·rename_i e;subst e;rw[BU]at d;simp[bk,blk]at d;omega
  ·cases a
 have hk:B7 (vw w O0 σ ρ) (vw (w.alloc (.cells cs.toArray et)) O0 (Dq σ [(n,.box et c fs)]) (Dr ρ n (.pointer (some ⟨w.heap.size,0,none⟩)))) :=
  Gn hf (Ep w _) (fun m a=>by
   simp only[lk]at a;split at a
   ·cases a
   ·rename_i e;simp[Dr,e]) g
 refine QS.one (Ep w _) (fun b d=>by simp[bk,blk]at d;omega) ?_ ?_
 ·refine⟨⟨.box et c fs,by simp[Dq,lk]⟩,w.heap.size,by rw[show (vw (w.alloc (.cells cs.toArray et)) O0 (Dq σ [(n,.box et c fs)]) (Dr ρ n (.pointer (some ⟨w.heap.size,0,none⟩)))).ρ n=Dr ρ n (.pointer (some ⟨w.heap.size,0,none⟩)) n from rfl,BU],rfl⟩
 ·exact⟨h,w.heap.size,cs,rfl,heap_alloc_new w _,f.keeps hk⟩
theorem QS.arr {n:Nat} {et:TypeId} {e:Ty} {xs:List e.den} {cells:List Value} {loc:Value} {w':World} {hi:Nat} (hf:BQ [(n,.arr et e xs)] σ=true) (c:Below w.heap.size w w')
  (d:w'.ownsRow w.heap.size et e.size loc xs.length cells) (a:xs.length≤AO) (l:DL w (own O0 σ ρ) e cells xs) (q:hi=xs.length) :
  QS w O0 σ ρ (.sr n e 0 hi) [(n,.arr et e xs)] loc (Dr ρ n loc) w':=by
 subst q;have j:∀b,bk loc b→w.heap.size≤b:=by
  intro b i;rcases d.2 with ⟨rfl,_⟩|⟨g,cap,f,rfl,p,_⟩
  ·simp[bk,blk]at i
  ·simp[bk,blk]at i;omega
 have r:∀(m:Nat) (o:Obj) (b:Nat),lk m [(n,.arr et e xs)]=some o→bk (Dr ρ n loc m) b→w.heap.size≤b:=by
  intro m o b a c;simp only[lk]at a;split at a
  ·rename_i e;subst e;rw[BU]at c;exact j b c
  ·cases a
 have hk:B7 (vw w O0 σ ρ) (vw w' O0 (Dq σ [(n,.arr et e xs)]) (Dr ρ n loc)) :=
  Gn hf c (fun m a=>by
   simp only[lk]at a;split at a
   ·cases a
   ·rename_i e;simp[Dr,e]) r
 refine QS.one c j ?_ ?_
 ·refine⟨⟨.arr et e xs,by simp[Dq,lk]⟩,?_⟩;show Cf (plc (Dr ρ n loc n)) e.size 0 xs.length loc;rw[BU,GT d];rcases d.2 with ⟨rfl,hn⟩|⟨g,cap,f,rfl,p,_,t,_⟩
  ·exact⟨none,0,0,rfl,by omega,by omega,none,0,by rw[hn],by omega,fun _=>⟨rfl,rfl⟩,fun h=>by omega⟩
  ·exact⟨some ⟨g,0,none⟩,xs.length,cap,rfl,by omega,by omega,some ⟨g,0,none⟩,cap,by simp,by omega,fun _=>⟨rfl,rfl⟩,fun _=>by simp[LI]⟩
 ·refine⟨a,cells,⟨d.1,?_⟩,l.keeps hk⟩;rcases d.2 with h|⟨g,cap,f,h1,s,k⟩
  ·exact .inl h
  ·exact .inr ⟨g,cap,f,h1,IS _,k⟩
theorem J4 (V:Vw) (t:Ty):Lo V (kC t) t.zero:=by
 cases t;case slice e=>exact⟨_,rfl,rfl,rfl⟩
 case ref k=>exact⟨KJ k,rfl,by match k with|0=>rfl|1=>rfl|_+2=>rfl,rfl⟩
 all_goals(exact Be.zero V.w V.O _)
theorem oI (V:Vw):∀t:Ty,Cw V (kD t) t.zero
 | .prod a b=>⟨a.zero,b.zero,rfl,J4 V a,oI V b⟩
 | .int k=>⟨_,[],by simp,J4 V (.int k),rfl⟩
 | .bool=>⟨_,[],by simp,J4 V .bool,rfl⟩
 | .str=>⟨_,[],by simp,J4 V .str,rfl⟩
 | .slice e=>⟨_,[],by simp,J4 V (.slice e),rfl⟩
 | .agg t=>⟨_,[],by simp,J4 V (.agg t),rfl⟩
 | .ref k=>⟨_,[],by simp,J4 V (.ref k),rfl⟩
theorem oJ (V:Vw):∀(t:Ty) (d:t.den) (cs:List Value),Be V.w V.O t cs d→Cw V (uD t d) cs
 | .prod a b,d,cs,h=>by
  obtain⟨c1,c2,rfl,h1,c⟩:=h;exact⟨c1,c2,rfl,h1,oJ V b d.2 c2 c⟩
 | .int k,d,cs,h=>⟨cs,[],by simp,h,rfl⟩
 | .bool,d,cs,h=>⟨cs,[],by simp,h,rfl⟩
 | .str,d,cs,h=>⟨cs,[],by simp,h,rfl⟩
 | .slice e,d,cs,h=>⟨cs,[],by simp,h,rfl⟩
 | .agg t,d,cs,h=>⟨cs,[],by simp,h,rfl⟩
 | .ref k,d,cs,h=>⟨cs,[],by simp,h,rfl⟩
theorem KY (hT:Dd P tb id ti) (w:World):∃z:Value,(zeroValue id).run P w=.ok z w∧z.cells=ti.ty.zero.toArray:=by
 obtain⟨⟨_,i,z,h1,c,d,a,b⟩,_⟩:=hT;exact⟨z,by simp[zeroValue,KX w h1,a],b⟩
theorem uO (hT:Dd P tb id ti) {d:Nat} (h:JI d id (some ti)=some (vc,v,obs)) (hf:BQ obs σ=true) :
  ∃u ρ' w',(Instr.alloc id true (.tuple #[])).run P w=.ok u w'∧QS w O0 σ ρ v obs u ρ' w':=by
 obtain⟨z,c,e⟩:=KY hT w;have b:(Instr.alloc id true (.tuple #[])).run P w=.ok (.pointer (some ⟨w.heap.size,0,none⟩)) (w.alloc (.cells ti.ty.zero.toArray id)):=by
  simp[Instr.alloc,c,newVar,newRow,e]
 unfold JI at h;split at h<;>first|(cases h;done)|skip
 all_goals
  rename_i a;cases a;cases h;refine⟨_,_,_,b,QS.box hf ?_ ?_⟩
 ·simp
 ·exact oI _ _
 ·simp
 ·exact⟨_,[],by simp[Ty.zero],J4 _ _,rfl⟩
 ·simp
 ·exact⟨_,[],by simp[Ty.zero],J4 _ _,rfl⟩
 ·simp
 ·exact⟨_,[],by simp[Ty.zero],J4 _ _,rfl⟩
 ·simp
 ·exact⟨_,[],by simp[Ty.zero],J4 _ _,rfl⟩
 ·simp
 ·exact⟨_,[],by simp[Ty.zero],J4 _ _,rfl⟩
theorem Ly {V:Vw} {ty:Ty} {x:AV} {v:Value} (j:Bm V x v) (hf:CB ty x=true) (hs:ty.cell1=true):v.oneCell'=true:=by
 cases x;case p t d =>
  simp only[CB,GO]at hf;subst hf;obtain⟨cs,o,rfl⟩:=j;cases ty;case agg t=>simp[Ty.cell1]at hs
  case prod a b=>simp[Ty.cell1]at hs
  case slice e=>obtain⟨a,c,rfl,_⟩:=o;rfl
  case int k=>obtain⟨rfl,h⟩:=o;rfl
  case bool=>have o:cs=_:=o;subst o;rfl
  case str=>obtain⟨rfl,h⟩:=o;rfl
  case ref k =>
   have o:cs=[KJ k]:=o;subst o;match k with
   | 0=>rfl
   | 1=>rfl
   | _+2=>rfl
 case ag l=>cases ty<;>simp[CB]at hf<;>simp[Ty.cell1]at hs
 case tup l=>simp[CB]at hf
 case raw u =>
  have j:v=u:=j;subst j;simp only[CB,An]at hf;exact hf.1
 case sr n e lo hi=>obtain⟨_,_,_,_,_,_,_,r,s,rfl,_⟩:=j;rfl
 case ep n e i q off=>obtain⟨_,g,m,c,_,_,rfl⟩:=j;rfl
 case nin n e i len=>obtain⟨_,_,_,_,_,_,_,_,rfl⟩:=j;rfl
 case pc e d=>obtain⟨_,a,rfl⟩:=j;rfl
 case ip t d=>obtain⟨ad,cs,rfl,_⟩:=j;rfl
 case bp n q off=>obtain⟨_,b,_,rfl⟩:=j;rfl
 case fn f=>have j:v=_:=j;subst j;rfl
 case clo f ns=>obtain⟨rfl,_⟩:=j;rfl
 case mp n=>obtain⟨_,b,_,rfl⟩:=j;rfl
 case yl n=>obtain⟨_,b,_,rfl⟩:=j;rfl
 case top=>simp[CB]at hf
end
end
section
open Go Go.RowKit
section
variable {P:Program} {tb:Tb} {id:TypeId} {ti:TI} {w:World} {O0:Nat→Prop} {σ:St} {ρ:Nat→Value} {vc:Prop} {v:AV} {obs:List (Nat×Obj)}
theorem RW {t:Ty} {w:World} {O:Nat→Prop} {cs:List Value} {d:t.den} (h:Be w O t cs d):(t.wrap cs).cells=cs.toArray:=by
 cases t;case agg t=>rfl
 case prod a b=>rfl
 case slice e=>obtain⟨a,c,rfl,_⟩:=h;rfl
 case int k=>obtain⟨rfl,_⟩:=h;rfl
 case bool=>have h:cs=_:=h;subst h;rfl
 case str=>obtain⟨rfl,_⟩:=h;rfl
 case ref k =>
  have h:cs=[KJ k]:=h;subst h;match k with
  | 0=>rfl
  | 1=>rfl
  | _+2=>rfl
theorem uP {V:Vw} {x:AV} {v:Value} (j:Bm V x v) (hf:Hd x=true):Lo V x v.cells.toList∧v.cells.size=x.cells:=by
 have simple:∀ {y:AV},RM V y v→v.oneCell'=true→(∀t d,y≠.p t d)→Lo V y v.cells.toList:=by
  intro y r h hp;have l:v.cells=#[v]:=by cases v<;>first|rfl|simp[Value.oneCell']at h
  rw[l];cases y;case p t d=>exact absurd rfl (hp t d)
  all_goals exact⟨v,rfl,h,r⟩
 have k:v.oneCell'=true→v.cells.size=1:=by
  intro h;have l:v.cells=#[v]:=by cases v<;>first|rfl|simp[Value.oneCell']at h
  rw[l];rfl
 cases x;case p t d =>
  obtain⟨cs,o,rfl⟩:=j;rw[RW o];exact⟨o,by simpa[AV.cells] using o.length⟩
 case raw u =>
  have q:v=u:=j;have h:v.oneCell'=true:=by rw[q];exact hf
  exact⟨simple j h (fun _ _=>by simp),k h⟩
 case sr n e lo hi =>
  have h:v.oneCell'=true:=by obtain⟨_,_,_,_,_,_,_,w,z,rfl,_⟩:=j;rfl
  exact⟨simple j h (fun _ _=>by simp),k h⟩
 case ep n e i s off =>
  have h:v.oneCell'=true:=by obtain⟨_,g,m,c,_,_,rfl⟩:=j;rfl
  exact⟨simple j h (fun _ _=>by simp),k h⟩
 case nin n e i len =>
  have h:v.oneCell'=true:=by obtain⟨_,_,_,_,_,_,_,_,rfl⟩:=j;rfl
  exact⟨simple j h (fun _ _=>by simp),k h⟩
 case ip t d =>
  have h:v.oneCell'=true:=by obtain⟨ad,cs,rfl,_⟩:=j;rfl
  exact⟨simple j h (fun _ _=>by simp),k h⟩
 case bp n s off =>
  have h:v.oneCell'=true:=by obtain⟨_,b,_,rfl⟩:=j;rfl
  exact⟨simple j h (fun _ _=>by simp),k h⟩
 case pc e d =>
  have h:v.oneCell'=true:=by obtain⟨_,a,rfl⟩:=j;rfl
  exact⟨simple j h (fun _ _=>by simp),k h⟩
 case clo f ns =>
  have h:v.oneCell'=true:=by obtain⟨rfl,_⟩:=j;rfl
  exact⟨simple j h (fun _ _=>by simp),k h⟩
 case mp n =>
  have h:v.oneCell'=true:=by obtain⟨_,b,_,rfl⟩:=j;rfl
  exact⟨simple j h (fun _ _=>by simp),k h⟩
 case yl n =>
  have h:v.oneCell'=true:=by obtain⟨_,b,_,rfl⟩:=j;rfl
  exact⟨simple j h (fun _ _=>by simp),k h⟩
 case fn f =>
  have h:v.oneCell'=true:=by have j:v=_:=j;subst j;rfl
  exact⟨simple j h (fun _ _=>by simp),k h⟩
 all_goals simp[Hd]at hf
theorem A1b (hT:Dd P tb id ti) {d:Nat} {x:AV} {xv:Value} (h:QW d id (some ti) (some x)=some (vc,v,obs)) (i:Bm (vw w O0 σ ρ) x xv) (hf:BQ obs σ=true) :
    ∃u ρ' w',(Instr.box id xv).run P w=.ok u w'∧QS w O0 σ ρ v obs u ρ' w':=by
  have g:(Instr.box id xv).run P w=.ok (.pointer (some ⟨w.heap.size,0,none⟩)) (w.alloc (.cells xv.cells id)):=by
    simp[Instr.box,newVar,newRow]
  have simple:∀ty:Ty,CB ty x=true→ty.cell1=true→(∀l,x≠.ag l)→Cw (vw w O0 σ ρ) [x] xv.cells.toList:=by
    intro ty f r n;obtain⟨h1,m⟩:=oA i f (Ly i f);exact⟨_,[],by simp,m n,rfl⟩
  have q:xv.cells=xv.cells.toList.toArray:=by simp
  rw[q]at g;unfold QW at h;split at h
  · rename_i u offs el b s k c a
    cases c;cases a;split at h
    · rename_i p
      subst p;cases h;obtain⟨cs,j,rfl⟩:=i;have j:Be w (own O0 σ ρ) u cs k:=j;refine⟨_,_,_,g,QS.box hf (by simp) ?_⟩;simp only[Ty.wrap,Value.cells];exact oJ _ _ _ _ j
    · cases h
  · rename_i u offs el b l c a
    cases c;cases a;split at h
    · cases h
      obtain⟨cs,rfl,o⟩:=i;refine⟨_,_,_,g,QS.box hf (by simp) ?_⟩;simp only[Value.cells];exact o
    · cases h
  all_goals first
    | (cases h;done)
    | (rename_i c a
       cases c;injection a with a
       subst a;split at h
       · rename_i f
         cases h;exact⟨_,_,_,g,QS.box hf (by simp) (simple _ f rfl (fun l e=>by subst e;simp[CB]at f))⟩
       · cases h)
theorem Wy (off:Nat):∀(a:List Value) (k:Nat) (cells:Array Value),off+k+a.length≤cells.size →
  ((a.zipIdx k).foldl (fun(cs:Array Value) (p:Value×Nat)=>cs.setIfInBounds (off+p.2) p.1) cells).toList=Au cells.toList (off+k) a
 | [],k,cells,_=>by simp[Au]
 | v :: a,k,cells,h=>by
  simp only[Is]at h;simp only[List.zipIdx_cons,TO];rw[Wy off a (k+1) _ (by simp;omega)];simp only[Au,Array.toList_setIfInBounds,Is];apply ABS;intro j;have i:cells.toList.length=cells.size:=by simp
  simp only[AAy,AAh,OR,AAw,i,iN,AAe,AAp,Is];have d:min (off+(k+1)) cells.size=off+k+1:=by omega
  have e:min (off+k) cells.size=off+k:=by omega
  rw[d,e];by_cases c1:j<off+k
  ·simp[c1,show j<off+k+1 by omega,show j<off+(k+1) by omega,show ¬off+k=j by omega]
  ·by_cases c2:j=off+k
   ·subst c2;simp[show off+k<cells.size by omega]
   ·have c:¬j<off+k+1:=by omega
    have f:j-(off+k)=(j-(off+k+1))+1:=by omega
    simp only[c1,c,AAN];rw[f];simp only[List.getElem?_cons_succ];by_cases b:j-(off+k+1)<a.length
    ·simp[b]
    ·have g:off+(k+1)+a.length=off+k+(a.length+1):=by omega
     have l:∀q,¬(off+k=off+(k+1)+a.length+q):=by omega
     simp[b,g,show ¬off+k=off+k+(a.length+1)+(j-(off+k+1)-a.length) by omega]
theorem Mv {place:Nat→Option (Nat×Nat)} {cells:Array Value} {i off:Nat} {v:Value} {rest:List (Nat×Value)} (hp:place i=some (off,v.cells.size)) (a:off+v.cells.size≤cells.size) :
  Instr.fill place cells ((i,v) :: rest)=Instr.fill place (Au cells.toList off v.cells.toList).toArray rest:=by
 have h1:¬(off+v.cells.size > cells.size):=by omega
 simp only[Instr.fill,hp];rw[At (by simp;omega)]
 congr 1
 have:=Wy off v.cells.toList 0 cells (by simpa using a);apply ACD;rw[show v.cells.zipIdx.foldl (fun cs x=>cs.setIfInBounds (off+x.2) x.1) cells=(v.cells.toList.zipIdx 0).foldl (fun cs x=>cs.setIfInBounds (off+x.2) x.1) cells from by
  rw[←Array.foldl_toList];simp]
 simpa using this
def FK (V:Vw) (σ:St) (ev:Operand→Value):Prop:=∀x v,AZ σ x=some v→Bm V v (ev x)
theorem kG {V:Vw} (e:∀n o,lk n σ.objs=some o→Aw V o (V.ρ n)) {z x:Option AV} {y:AV} {v:Value} (b:∀a,x=some a→Bm V a v) (h:E4 σ z x=some y):Bm V y v:=by
 unfold E4 at h;split at h
 ·rename_i t _ l;simp only[IN]at h;obtain⟨d,c,rfl⟩:=h;exact Ie (V:=V) (O':=V.O) (fun _ h=>h) (fun h=>by cases h) e c (b _ rfl)
 ·exact b _ h
theorem MF {V:Vw} (j:∀n o,lk n σ.objs=some o→Aw V o (V.ρ n)) {ev:Operand→Value} (g:FK V σ ev) {place:Nat→Option (Nat×Nat)} {offs:List (Nat×Nat)} (l:∀i p,offs[i]?=some p→place i=some p) :
  ∀ {parts:List (Nat×Operand)} {fs b:List AV} {cells:Array Value},DQ σ offs fs parts=some b→Cw V fs cells.toList →
   ∃cells':Array Value,Instr.fill place cells (parts.map fun p=>(p.1,ev p.2))=some cells'∧Cw V b cells'.toList
 | [],fs,b,cells,h,c=>by
  simp only[DQ]at h;cases h;exact⟨cells,rfl,c⟩
 | (i,x) :: r,fs,b,cells,h,c=>by
  simp only[DQ]at h;cases d:E4 σ fs[i]? (AZ σ x) with
  | none=>rw[d]at h;cases h
  | some av =>
   rw[d]at h;simp only at h;split at h
   ·rename_i q;obtain⟨h0,h1,s⟩:=q;have A:=kG j (fun a ha=>g x a ha) d;obtain⟨t,e⟩:=uP A h0;simp only[IN]at h1;obtain⟨B,k,f⟩:=h1;obtain⟨u,_⟩:=c.get k;have z:=c.set k t f.symm;have m:=l i _ s;rw[←e]at m;have y:B0 fs i+(ev x).cells.size≤cells.size:=by
     rw[e,←f];simpa using u
    obtain⟨cells',v,w⟩:=MF j g l h (cells:=(Au cells.toList (B0 fs i) (ev x).cells.toList).toArray) (by simpa using z);refine⟨cells',?_,w⟩;rw[tO,Mv m y];exact v
   ·cases h
theorem Wz {α a:Type} (f:α→Sem a) (w:World):∀ {l:List α} {ys:List a},(l.map fun x=>(f x).run P w)=ys.map (fun y=>Result.ok y w)→(l.mapM f).run P w=.ok ys w
 | [],ys,h=>by
  cases ys with
  | nil=>simp
  | cons y ys=>simp at h
 | x :: l,ys,h=>by
  cases ys with
  | nil=>simp at h
  | cons y ys =>
   simp only[tO,ABa]at h;obtain⟨h1,b⟩:=h;have c:=Wz f w b;simp[List.mapM_cons,h1,c]
theorem uQ (hT:Dd P tb id ti) (r:∀n o,lk n σ.objs=some o→Aw (vw w O0 σ ρ) o (ρ n)) {ev:Operand→Value} (q:FK (vw w O0 σ ρ) σ ev) {parts:List (Nat×Operand)} (h:H6 σ parts (some ti)=some (vc,v,obs)) :
  obs=[]∧∃u,(Instr.build id (parts.map fun p=>(p.1,ev p.2)).toArray).run P w=.ok u w∧Bm (vw w O0 σ ρ) v u:=by
 obtain⟨z,s,C⟩:=KY hT w;unfold H6 at h;split at h
 ·rename_i u offs el b x;cases x;cases hp:DQ σ offs (kD u) parts with
  | none=>rw[hp]at h;simp[Fy]at h
  | some D =>
   rw[hp]at h;simp only[AAY,Fy]at h;cases h;have a:=hT.2;have t:Cw (vw w O0 σ ρ) (kD u) z.cells.toList:=by rw[C];exact oI _ u
   simp only at a;rcases a with ⟨fs,_,m,j⟩|⟨n,e,i,_,m,hi,j⟩
   ·have l:∀(i:Nat) (p:Nat×Nat),offs[i]?=some p→offs.toArray[i]?=some p:=fun i p c=>by simpa using c
    obtain⟨cells',d,g⟩:=MF r q (place:=fun i=>offs.toArray[i]?) l hp t;have B:(fs.mapM (fun f=>do pure (f.offset,←sizeOf f.type)):Sem (Array (Nat×Nat))).run P w=.ok offs.toArray w:=by
     rw[ABl];simp only[Sem.run_map];rw[Wz (ys:=offs) _ w ?_]
     ·simp
     ·rw [show (offs.map fun y => Result.ok y w) = (offs.map some).map (fun o => match o with | some y => Result.ok y w | none => .halt (.stuck "no such type") w) by simp [ABI, Function.comp_def], j, ABI]
      apply AAD;intro f _;simp only[Function.comp,sizeOf,typeInfo];cases hi:P.info? f.type<;>simp[hi]
    refine⟨rfl,.agg cells',?_,cells'.toList,by simp,g⟩;simp only[Instr.build,AAA,s,AA6,aS m,B,d,AB1]
   ·have l:∀(k:Nat) (p:Nat×Nat),offs[k]?=some p→(fun k=>some (k*i.size,i.size)) k=some p:=fun k p c=>by
     rw[j]at c;simp only[AAW,IN]at c;obtain⟨E,A,rfl⟩:=c;obtain⟨h1,a⟩:=No.1 A;simp only[ACe]at a;subst a;rfl
    obtain⟨cells',d,g⟩:=MF r q l hp t;refine⟨rfl,.agg cells',?_,cells'.toList,by simp,g⟩;simp[Instr.build,s,aS m,sizeOf,KX w hi,d]
 ·cases h
end
end
section
open Go Go.RowKit
section
variable {P:Program} {tb:Tb} {id:TypeId} {ti:TI} {w:World} {O0:Nat→Prop} {σ:St} {ρ:Nat→Value} {vc:Prop} {v:AV} {obs:List (Nat×Obj)}
theorem Tr {t:Ty} {w:World} {O:Nat→Prop} {v:Value} {d:t.den} (h:BM w O t v d):v.cells.size=t.size∧Be w O t v.cells.toList d:=by
 obtain⟨cs,a,rfl⟩:=h;rw[RW a];exact⟨by simpa using a.length,a⟩
theorem Gc (w:World) (O:Nat→Prop) (e:Ty) (cells:List Value):DL w O e cells []:=fun i x h=>by simp at h
theorem W7 {V:Vw} (v:∀n o,lk n σ.objs=some o→Aw V o (V.ρ n)) {ev:Operand→Value} (s:FK V σ ev) {e:Ty} {N:Nat} :
  ∀ {parts:List (Nat×Operand)} {k:Nat} {xs pre:List e.den} {cells:Array Value},EP σ e k parts=some xs→cells.size=N*e.size→k+xs.length≤N→pre.length=k →
   DL V.w V.O e cells.toList pre →
   ∃cells':Array Value,Instr.fill (fun i=>some (i*e.size,e.size)) cells (parts.map fun p=>(p.1,ev p.2))=some cells'∧cells'.size=cells.size∧DL V.w V.O e cells'.toList (pre++xs)
 | [],k,xs,pre,cells,h,hs,hk,hp,l=>by
  simp only[EP]at h;cases h;exact⟨cells,rfl,rfl,by simpa using l⟩
 | (i,x) :: r,k,xs,pre,cells,h,hs,hk,hp,l=>by
  simp only[EP]at h;split at h
  ·rename_i E;subst E;cases m:AZ σ x with
   | none=>rw[m]at h;cases h
   | some av =>
    rw[m]at h;simp only at h;split at h
    ·rename_i y ys L M;cases h;have K:=Ie (O':=V.O) (fun _ h=>h) (fun h=>by cases h) v L (s x av m);obtain⟨h1,C⟩:=Tr K;simp only[Is]at hk;have d:i*e.size+(ev x).cells.size≤cells.size:=by
      rw[h1,hs,←AAH];exact oR _ (by omega)
     have A:(Au cells.toList (i*e.size) (ev x).cells.toList).length=cells.size:=by
      rw[EY]
      ·simp
      ·simpa using d
     have I:DL V.w V.O e (Au cells.toList (i*e.size) (ev x).cells.toList) (pre++[y]):=by
      intro j z a;rw[AAh]at a;split at a
      ·rename_i F;obtain⟨B,c,f,g⟩:=l j z a;refine⟨B,c,fun q u b=>?_,g⟩;have J:q<e.size:=by rw[←c];exact(No.1 b).1
       have H:j*e.size+q<i*e.size:=by
        have:(j+1)*e.size≤i*e.size:=oR _ (by omega);rw[AAH]at this;omega
       have D:i*e.size≤cells.toList.length:=by
        have:=d;simp;omega
       simp only[Au,AAy];rw[AA2 (by rw[OR];omega),iN,BY H];exact f q u b
      ·rename_i F;have G:j=i:=by
        have:=(No.1 a).1;simp at this;omega
       subst G;have P:z=y:=by
        rw[hp,AB6]at a;simpa using a.symm
       subst P;refine⟨(ev x).cells.toList,by simpa using h1,fun q u b=>?_,C⟩;have J:q<(ev x).cells.toList.length:=(No.1 b).1;have D:j*e.size≤cells.toList.length:=by
        have:=d;simp;omega
       have t:(cells.toList.take (j*e.size)).length=j*e.size:=by rw[OR];omega
       simp only[Au,AAy];rw[AA5 (by rw[t];omega),t,AA2 (by omega)];rw[show j*e.size+q-j*e.size=q by omega];exact b
     obtain⟨cells',c,f,g⟩:=W7 (N:=N) v s M (pre:=pre++[y]) (cells:=(Au cells.toList (i*e.size) (ev x).cells.toList).toArray) (by simp[A,hs]) (by omega) (by simp[hp]) (by simpa using I);refine⟨cells',?_,by rw[f];simp[A],by simpa using g⟩;rw[tO,Mv (by rw[h1]) d];exact c
    ·cases h
  ·cases h
theorem Qk {w:World} {et:TypeId} {sz n:Nat} {cells:Array Value} (hs:cells.size=n*sz) (hn:n≤AO) :
  (w.alloc (.cells cells et)).ownsRow w.heap.size et sz (.slice (some ⟨w.heap.size,0,none⟩) n n) n cells.toList :=
 ⟨by simpa using hs,.inr ⟨w.heap.size,n,cells,rfl,If _,heap_alloc_new w _,If _,by have h1:AO=140737488355328:=rfl;have a:maxLen=9223372036854775807:=rfl;omega,hs,As (by simp[hs])⟩⟩
theorem Mw (hT:Dd P tb id ti) (c:Cg P tb) (q:∀n o,lk n σ.objs=some o→Aw (vw w O0 σ ρ) o (ρ n)) {ev:Operand→Value} (m:FK (vw w O0 σ ρ) σ ev) {d n:Nat} {parts:List (Nat×Operand)}
  (h:BP false σ d n parts (some ti)=some (vc,v,obs)) (x:vc) (hf:BQ obs σ=true) :
  ∃u ρ' w',(Instr.buildSlice id n (parts.map fun p=>(p.1,ev p.2)).toArray).run P w=.ok u w'∧QS w O0 σ ρ v obs u ρ' w':=by
 unfold BP at h;split at h
 ·rename_i e offs el b l;cases l;obtain⟨g,hs,te,t,rfl⟩:=B1 hT c;obtain⟨z,y,B⟩:=KY (c _ _ t) w;cases hp:EP σ te.ty 0 parts with
  | none=>rw[hp]at h;simp[BW]at h
  | some xs =>
   rw[hp]at h;simp only[BW,AAB,AAN]at h;cases h;obtain⟨hn,A⟩:=x;subst hn;have r:=te.ty.size_pos;obtain⟨cells',h1,k,a⟩:=W7 (V:=vw w O0 σ ρ) q m hp (N:=xs.length) (pre:=[]) (cells:=(Array.range (xs.length*te.ty.size)).map (fun i=>(if xs.length*te.ty.size=0 then (#[]:Array Value) else z.cells)[i % (if xs.length*te.ty.size=0 then (#[]:Array Value) else z.cells).size]!)) (by simp) (by omega) rfl (Gc _ _ _ _);have j:xs.length≤AO:=by
    have:xs.length*1≤xs.length*te.ty.size:=AB7 _ r;simp only[AO];omega
   have s:cells'.size=xs.length*te.ty.size:=by rw[k];simp
   refine⟨_,_,_,?_,QS.arr hf (Ep w _) (Qk (et:=el) s j) j (by rw[AB9]at a;exact a) rfl⟩;have f:¬(xs.length*te.ty.size > 16777216):=by omega
   by_cases h0:xs.length*te.ty.size=0
   ·simp only[h0,AAv]at h1;simp[Instr.buildSlice,aS g,hs,f,h0,newRow];simp at h1;simp[h1]
   ·simp only[h0,AAN]at h1;simp only[Instr.buildSlice,AAA,aS g,AA6,hs,At f,At h0,y,AB1,h1,newRow];rfl
 ·cases h
theorem A0f (hT:Dd P tb id ti) (K:Cg P tb) (af:∀n o,lk n σ.objs=some o→Aw (vw w O0 σ ρ) o (ρ n)) {ev:Operand→Value} (Z:FK (vw w O0 σ ρ) σ ev) {d n:Nat} {B:TypeId} {parts:List (Nat×Operand)}
  (h:H8 σ d B n parts (some ti)=some (vc,v,obs)) (E:vc) (hf:BQ obs σ=true) :
  ∃u ρ' w',(Instr.buildSlice id n (parts.map fun p=>(p.1,ev p.2)).toArray).run P w=.ok u w'∧QS w O0 σ ρ v obs u ρ' w':=by
 unfold H8 at h;split at h
 ·rename_i x t offs el b X;cases X;obtain⟨s,hs,te,ai,rfl⟩:=B1 hT K;obtain⟨z,ak,ap⟩:=KY (K _ _ ai) w;cases J:AZ σ x with
  | none=>rw[J]at h;unfold H7 at h;split at h<;>first|(cases h;done)|(rename_i F;cases F)
  | some av =>
   rw[J]at h;unfold H7 at h;split at h
   ·rename_i k e S ar aj V;cases V;have key:∀(a0:k.den) (c1:List Value) (a:Option Addr),Lo (vw w O0 σ ρ) S c1→Dy false σ k S=some a0→ev x=.agg (c1++[Value.slice a 0 0]).toArray→n=1∧k.size+1≤16777216→BQ [(d,Obj.nest el B k e [(a0,[])] none)] σ=true →
      ∃u ρ' w',(Instr.buildSlice id n ([(0,x)].map fun p=>(p.1,ev p.2)).toArray).run P w=.ok u w'∧QS w O0 σ ρ (.sr d (.agg (.prod k (.slice e))) 0 1) [(d,.nest el B k e [(a0,[])] none)] u ρ' w':=by
     intro a0 c1 a h1 y C ad hf;obtain⟨rfl,an⟩:=ad;have ab:zU (.slice none 0 0) (.slice a 0 0):=.inr ⟨rfl,a,rfl⟩;have D:=Ws (O':=own O0 σ ρ) (fun _ h=>h) (fun h=>by cases h) af y h1;have D:Be w (own O0 σ ρ) k c1 a0:=D;have H:=D.length;have ah:te.ty.size=k.size+1:=by rw[aj];rfl
     rw[ah]at hs;have L:(ev x).cells.toList=c1++[Value.slice a 0 0]:=by rw[C];simp[Value.cells]
     have ag:Instr.fill (fun i=>some (i*(k.size+1),k.size+1)) ((Array.range (1*(k.size+1))).map (fun i=>z.cells[i % z.cells.size]!)) [(0,ev x)]=some (c1++[Value.slice a 0 0]).toArray:=by
      have M:(ev x).cells.size=k.size+1:=by rw[←ABb,L];simp[H]
      rw[Mv (by rw[M]) (by rw[M];simp)];rw[L];simp only[Instr.fill,ABV,Au,AAL,AB9,AAC];rw[List.drop_of_length_le (by simp[H]),AAl]
     generalize I:(Value.tuple #[Value.slice (some ⟨w.heap.size,0,none⟩) 1 1,.slice none 0 0])=loc;have Q:∀b,bk loc b→w.heap.size≤b:=by
      intro b c;rw[←I]at c;rcases (Az (ins:=[.slice none 0 0])).1 c with c|⟨i,u,hi,c⟩
      ·simp[blk]at c;omega
      ·have:u=.slice none 0 0:=by
        rcases i with _|i
        ·simpa using hi.symm
        ·simp at hi
       subst this;simp[blk]at c
     have A:=Qk (w:=w) (et:=el) (sz:=k.size+1) (n:=1) (cells:=(c1++[Value.slice a 0 0]).toArray) (by simp[H]) (by simp[AO]);have A:(w.alloc (.cells (c1++[Value.slice a 0 0]).toArray el)).ownsRow 0 el (k.size+1) (.slice (some ⟨w.heap.size,0,none⟩) 1 1) 1 (c1++[Value.slice a 0 0]):=⟨A.1,A.2.imp (fun h=>h) fun⟨g,cap,U,e,_,r⟩=>⟨g,cap,U,e,IS _,r⟩⟩;have hk:=Gn (O0:=O0) (ρ:=ρ) (ρ':=Dr ρ d loc) hf (Ep w (.cells (c1++[Value.slice a 0 0]).toArray el)) (fun m q=>by
      simp only[lk]at q;split at q
      ·cases q
      ·rename_i e;simp[Dr,e]) (fun m o b q c=>by
      simp only[lk]at q;split at q
      ·rename_i e;subst e;rw[BU]at c;exact Q b c
      ·cases q)
     refine⟨.slice (some ⟨w.heap.size,0,none⟩) 1 1,Dr ρ d loc,w.alloc (.cells (c1++[Value.slice a 0 0]).toArray el),?_,QS.one (Ep w _) Q ?_ ?_⟩
     ·have ae:¬(1*(k.size+1) > 16777216):=by omega
      have h0:¬(1*(k.size+1)=0):=by omega
      simp only[Instr.buildSlice,AAA,aS s,AA6,hs,At ae,At h0,ak,AB1,tO,ACz,ag,newRow];rfl
     ·refine⟨⟨.nest el B k e [(a0,[])] none,by simp[Dq,lk]⟩,?_⟩;show Cf (plc (Dr ρ d loc d)) _ 0 1 _;rw[BU,←I];exact Eo A
     ·refine⟨_,[.slice none 0 0],c1++[Value.slice a 0 0],.inl I.symm,by simp[AO],rfl,A,fun i aq u hi s=>?_,fun i j b u v hi N s ao=>?_,fun i b u hi c _=>?_⟩
      ·rcases i with _|i
       ·simp only[AAj,AAo]at hi s;subst hi s;refine⟨c1,.slice a 0 0,fun j z N=>by simpa using N,D.mono hk.O hk.heap,.inr ⟨rfl,ab,by simp[AO],[],ABs _ 0 B _,Gc _ _ _ _⟩⟩
       ·simp at hi
      ·rcases i with _|i
       ·simp only[AAj,AAo]at hi;subst hi;simp[blk]at s
       ·simp at hi
      ·rcases i with _|i
       ·simp only[AAj,AAo]at hi;subst hi;simp[blk]at c
       ·simp at hi
    unfold JJ at h;obtain⟨cs,C,W⟩:=Z x _ J;obtain⟨c1,c2,rfl,h1,F⟩:=W;obtain⟨al,T,rfl,f,G⟩:=F;have G:T=[]:=G;subst G;split at h
    ·rename_i a0 y;cases h;obtain⟨R,rfl,_,f⟩:=f;have f:R=.slice none 0 0:=f;subst f;exact key a0 c1 none h1 y (by rw[C];simp) E hf
    ·rename_i a0 am l y;split at h
     ·rename_i Y;subst Y;cases h;obtain⟨R,rfl,_,_,a,f⟩:=f;obtain⟨E,aa⟩:=E;rw[aa]at f;subst f;exact key a0 c1 a h1 y (by rw[C];simp) E hf
     ·cases h
    ·cases h
   ·cases h
 ·cases h
theorem TZ (z:List Value) (g:0<z.length) (n:Nat) {i j:Nat} (b:j<z.length) (hi:i*z.length+j<n) {u:Value} (f:z[j]?=some u) :
  (madeCells z.toArray n)[i*z.length+j]?=some u:=by
 simp only[madeCells,Array.getElem?_map,List.size_toArray];have e:(Array.range n)[i*z.length+j]?=some (i*z.length+j):=by
  rw[Array.getElem?_range];simp[hi]
 rw[e];have d:(i*z.length+j) % z.length=j:=by
  rw[Nat.mul_comm,Nat.mul_add_mod];exact Nat.mod_eq_of_lt b
 simp only[AAY,d];have c:=(No.1 f);obtain⟨h1,a⟩:=c;simp[h1,a]
theorem uR (hT:Dd P tb id ti) (g:Cg P tb) {e:Ty} {offs:List (Nat×Nat)} {el:TypeId} {b:Nat} (C:ti=⟨.slice e,offs,el,b⟩) {te:TI} (o:lk el tb.ty=some te) {n:Int} {d:Nat}
  (h0:0≤n) (hn:n.toNat*te.bytes≤AO) (hf:BQ [(d,.arr el e (List.replicate n.toNat e.dflt))] σ=true) :
  ∃u ρ' w',(Instr.makeSlice id (.int .i64 n) (.int .i64 n)).run P w=.ok u w'∧QS w O0 σ ρ (.sr d e 0 n.toNat) [(d,.arr el e (List.replicate n.toNat e.dflt))] u ρ' w':=by
 subst C;obtain⟨D,hs,I,p,rfl⟩:=B1 hT g;rw[o]at p;cases p;obtain⟨⟨⟨_,t,_⟩,i,z,hi,m,v,F,G⟩,_⟩:=g _ _ o;have H:=te.ty.size_pos;have c:n.toNat≤AO:=by
  have:n.toNat*1≤n.toNat*te.bytes:=AB7 _ t;omega
 have s:(i.bytes:Int)*n≤281474976710656:=by
  have h1:((i.bytes*n.toNat:Nat):Int)≤140737488355328:=by
   rw[v,Nat.mul_comm];simp only[AO]at hn;omega
  rw[Int.natCast_mul]at h1;have r:((n.toNat:Nat):Int)=n:=by omega
  rw[r]at h1;omega
 have B:=run_make (P:=P) w id el i z D hi F .i64 .i64 n n h0 (AC6 _) s (by simp only[AO]at c;omega);have f:te.ty.zero.length=te.ty.size:=(Be.zero w (fun _=>False) te.ty).length;refine⟨_,_,_,B,QS.arr hf (Ep w _) (Qk (et:=el) (sz:=te.ty.size) (n:=n.toNat) (cells:=madeCells z.cells (n.toNat*i.size)) (by rw[size_madeCells,m]) c |> fun h=>by simpa using h) (by simpa using c) ?_ (by simp)⟩;intro j x a;have k:=(No.1 a).1;simp only[List.length_replicate]at k;have E:x=te.ty.dflt:=by
  rw[AAT]at a;simp[k]at a;exact a.symm
 subst E;refine⟨te.ty.zero,f,fun q u l=>?_,Be.zero _ _ _⟩;have A:=(No.1 l).1;have y:j*te.ty.zero.length+q<n.toNat*i.size:=by
  rw[m,f];have:(j+1)*te.ty.size≤n.toNat*te.ty.size:=oR _ (by omega);rw[AAH]at this;omega
 have:=TZ te.ty.zero (by omega) (n.toNat*i.size) A y l;rw[f]at this;rw[G];simpa using this
theorem A0g (hT:Dd P tb id ti) (i:Cg P tb) {d:Nat} {x y:AV} {xv c:Value} (h:Hi tb d (some ti) (some x) (some y)=some (vc,v,obs)) (o:vc)
  (p:Bm (vw w O0 σ ρ) x xv) (q:Bm (vw w O0 σ ρ) y c) (hf:BQ obs σ=true) :
  ∃u ρ' w',(Instr.makeSlice id xv c).run P w=.ok u w'∧QS w O0 σ ρ v obs u ρ' w':=by
 unfold Hi at h;split at h
 ·rename_i e offs el b n m j k l;cases j;cases k;cases l;cases a:lk el tb.ty with
  | none=>rw[a]at h;simp[KO]at h
  | some te =>
   rw[a]at h;simp only[KO]at h;cases h;obtain⟨rfl,_⟩:=BI p;obtain⟨rfl,_⟩:=BI q;obtain⟨h1,f,g⟩:=o;have h1:n=m:=h1;subst h1;exact uR hT i rfl a f g hf
 ·cases h
end
end
section
open Go Go.RowKit
theorem Ts {w:World} {O:Nat→Prop} {e:Ty}:∀ {l:List e.den} {ad:Addr},
  (∀(i:Nat) (x:e.den),l[i]?=some x→∃b:List Value,b.length=e.size∧(∀(j:Nat) (v:Value),b[j]?=some v→w.cell? (ad.add (i*e.size+j))=some v)∧Be w O e b x) →
  ∃c:List Value,c.length=l.length*e.size∧DL w O e c l∧(∀u∈c,u.oneCell'=true)∧(∀(j:Nat) (u:Value),c[j]?=some u→w.cell? (ad.add j)=some u)
 | [],ad,h=>⟨[],by simp,Gc _ _ _ _,by simp,by simp⟩
 | x :: l,ad,h=>by
  obtain⟨b,h1,o,n⟩:=h 0 x rfl;obtain⟨c,p,q,r,s⟩:=Ts (w:=w) (O:=O) (e:=e) (l:=l) (ad:=ad.add e.size) (fun i y hi=>by
   obtain⟨f,g,k,m⟩:=h (i+1) y (by simpa using hi);refine⟨f,g,fun j v a=>?_,m⟩;rw[Ct,show e.size+(i*e.size+j)=(i+1)*e.size+j by rw[AAH];omega];exact k j v a)
  refine⟨b++c,by simp[h1,p,AAH];omega,fun i y hi=>?_,fun u d=>?_,fun j u a=>?_⟩
  ·cases i with
   | zero =>
    simp at hi;subst hi;refine⟨b,h1,fun j u a=>?_,n⟩;rw[ABV,AAC,AA2 (No.1 a).1];exact a
   | succ i =>
    obtain⟨f,g,k,m⟩:=q i y (by simpa using hi);refine⟨f,g,fun j u a=>?_,m⟩;rw[AA5 (by rw[h1,AAH];omega),h1,show (i+1)*e.size+j-e.size=i*e.size+j by rw[AAH];omega];exact k j u a
  ·rcases ON.1 d with d|d
   ·exact n.one u d
   ·exact r u d
  ·rw[AAh]at a;split at a
   ·have:=o j u a
    rwa [ABV,AAC]at this
   ·rename_i t;have:=s _ u a;rw[Ct]at this
    rwa [show e.size+(j-b.length)=j by omega]at this
section
variable {P:Program} {tb:Tb} {id:TypeId} {ti:TI} {w:World} {O0:Nat→Prop} {σ:St} {ρ:Nat→Value} {vc:Prop} {v:AV} {obs:List (Nat×Obj)}
structure t8 (w:World) (O:Nat→Prop) (e:Ty) (xv:Value) (ys:List e.den) (news:List Value):Prop where
 form:∃(a:Option Addr) (c:Nat),xv=.slice a ys.length c∧(ys=[]∨∃ad,a=some ad∧∀(j:Nat) (u:Value),news[j]?=some u→w.cell? (ad.add j)=some u)
 len:news.length=ys.length*e.size
 elems:DL w O e news ys
 one:∀u∈news,u.oneCell'=true
 max:ys.length≤AO
theorem Ql (w:World) (O:Nat→Prop) (e:Ty) (a:Option Addr) (c:Nat):t8 w O e (.slice a 0 c) [] [] :=
 ⟨⟨a,c,rfl,.inl rfl⟩,by simp,Gc _ _ _ _,by simp,by simp[AO]⟩
theorem Tt {V:Vw} {et:TypeId} {e:Ty} {xs:List e.den} {loc:Value} {cells:List Value} (k:V.w.ownsRow 0 et e.size loc xs.length cells) (g:DL V.w V.O e cells xs):∀u∈cells,u.oneCell'=true:=by
 intro u l;obtain⟨j,h,i⟩:=AAa.1 l;have m:=k.1;have c:=e.size_pos;have hi:j / e.size<xs.length:=by
  rw[Nat.div_lt_iff_lt_mul c];omega
 obtain⟨a,h1,d,f⟩:=g (j / e.size) (xs[j / e.size]) (AT hi);have b:j % e.size<a.length:=by rw[h1];exact ACC _ c
 have:=d (j % e.size) (a[j % e.size]) (AT b);rw[show j / e.size*e.size+j % e.size=j by rw[Nat.mul_comm];exact Nat.div_add_mod j e.size]at this;rw[AT h]at this;injection this with this
 rw[←i,this];exact f.one _ (AAf b)
def noN (σ:St):AV→Bool
 | .sr n _ _ _=>CR (lk n σ.objs)
 | _=>false
theorem cE {w:World} {O:Nat→Prop} {et:TypeId} {b:Ty} {xs:List b.den} {loc xv:Value} {cells:List Value} {lo hi:Nat} (R:xs.length≤AO) (h:w.ownsRow 0 et b.size loc xs.length cells) (o:DL w O b cells xs) (I:Cf loc b.size lo hi xv) :
  ∃K,t8 w O b xv (sub xs lo hi) K:=by
 have G:=Tt (V:=⟨w,O,fun _=>False,fun _=>undef⟩) h o;obtain⟨a,m,c,k,P,p,l,n,rfl,L,h0,h1⟩:=I;have E:m=xs.length:=by
  rcases h.2 with ⟨d,F⟩|⟨g,cap,s,d,_⟩
  ·rw[k]at d;injection d;omega
  ·rw[k]at d;injection d
 subst E;have f:=MC xs (lo:=lo) p;by_cases C:lo<hi
 ·rcases h.2 with ⟨d,F⟩|⟨g,cap,s,d,r⟩
  ·omega
  ·have A:=World.ownsRow.cells h (g:=g) (by rw[d];rfl);have ha:a=some ⟨g,0,none⟩:=by rw[k]at d;injection d
   subst ha;have M:=h.1;have S:hi*b.size≤xs.length*b.size:=oR _ p;have T:lo*b.size≤hi*b.size:=oR _ (by omega);refine⟨(cells.drop (lo*b.size)).take ((hi-lo)*b.size),⟨l,n,by rw[f],.inr ⟨_,h1 C,fun j u e=>?_⟩⟩,?_,?_,?_,?_⟩
   ·rw[iN,AAe]at e;split at e
    ·have:=A _ u e;rw[Ct];exact this
    ·cases e
   ·rw[f,OR,AAP,Nat.sub_mul];omega
   ·intro i x B;obtain⟨J,Q⟩:=Vc xs lo hi i B;obtain⟨t,v,y,z⟩:=o (lo+i) x J;refine⟨t,v,fun j u e=>?_,z⟩;have N:=(No.1 e).1;have D:i*b.size+j<(hi-lo)*b.size:=by
     have:(i+1)*b.size≤(hi-lo)*b.size:=oR _ (by omega);rw[AAH]at this;omega
    rw[iN,BY D,AAe];have:=y j u e
    rwa [ABF,ABK]at this
   ·intro u H;exact G u (AAz (AA8 H))
   ·rw[f];omega
 ·have q:sub xs lo hi=[]:=aT (by rw[f];omega);refine⟨[],⟨l,n,by rw[f],.inl q⟩,by rw[f,show hi-lo=0 by omega];simp,?_,by simp,by rw[f];omega⟩;rw[q];exact Gc _ _ _ _
theorem Vi (q:∀n o,lk n σ.objs=some o→Aw (vw w O0 σ ρ) o (ρ n)) {e:Ty} {x:AV} {xv:Value} {ys:List e.den} (h:J0 true σ (.slice e) x=some ys) (F:noN σ x=false) (s:Bm (vw w O0 σ ρ) x xv) :
  ∃C,t8 w (own O0 σ ρ) e xv ys C:=by
 replace h:Dy true σ (.slice e) x=some ys:=by
  unfold J0 at h;exact h
 cases x;case p u I =>
  have h:BG (.slice e) ⟨u,I⟩=some ys:=by simpa only[Dy] using h
  have:=A5 h;injection this with h1 D
  subst h1;cases D;obtain⟨cs,⟨a,c,rfl,m,N,y⟩,rfl⟩:=s;by_cases hn:ys=[]
  ·subst hn;exact⟨[],Ql _ _ _ _ _⟩
  ·rcases y with y|⟨ad,rfl,W,g⟩
   ·exact absurd y hn
   ·obtain⟨C,d,f,K,M⟩:=Ts g;exact⟨C,⟨some ad,c,rfl,.inr ⟨ad,rfl,M⟩⟩,d,f,K,N⟩
 case sr n J lo hi =>
  simp only[Dy]at h;split at h
  ·rename_i A;obtain⟨_,rfl⟩:=A;obtain⟨O,b⟩:=s;cases hn:lk n σ.objs with
   | none=>rw[hn]at h;simp[OO]at h
   | some o =>
    rw[hn]at h;cases o with
    | box et ag fs=>simp[OO]at h
    | mapo k v l=>simp[OO]at h
    | frame ah fs=>simp[OO]at h
    | loop L=>simp[OO]at h
    | itr aa af ab ae Z=>simp[OO]at h
    | dfr=>simp[OO]at h
    | nest et V k t xs E=>rw[noN,hn]at F;cases F
    | arr et t xs =>
     simp only[OO]at h;obtain⟨d,f⟩:=BX h;subst d;cases f;have b:Cf (plc (ρ n)) t.size lo hi xv:=b;rw[Ms (q n _ hn)]at b;obtain⟨B,cells,j,g⟩:=q n _ hn;exact cE B j g b
  ·cases h
 case nin n J i len =>
  simp only[Dy]at h;split at h
  ·rename_i A;obtain⟨_,rfl⟩:=A;obtain⟨O,aj,a,c,H,G,r,R,X⟩:=s;cases hn:lk n σ.objs with
   | none=>rw[hn]at h;simp[OP]at h
   | some o =>
    rw[hn]at h;unfold OP at h;split at h
    ·rename_i et V k t xs T;cases T;obtain⟨d,f⟩:=BX h;subst d;cases f;have Q:=Qj (z:=(k.dflt,[])) (q n _ hn) G r;obtain⟨o,ins,cells,E,P⟩:=q n _ hn;obtain rfl:=E.tup G;have r:ins[i]?=some H:=by simpa using r
     obtain⟨c1,ai,h1,D,m⟩:=P.row i _ H Q r;rcases m with ⟨m,_⟩|⟨_,_,B,Y,j,g⟩
     ·cases m
     ·rcases R with rfl|⟨rfl,a0,rfl⟩
      ·have:=cE B j g (Eo j)
       rwa [Hc]at this
      ·have S:=JU j;have U:(xs.getD i (k.dflt,[])).2=[]:=aT S.symm;rw[U];exact⟨[],Ql _ _ _ _ _⟩
    ·cases h
  ·cases h
 case raw u =>
  have b:xv=u:=s;subst b;cases xv with
  | slice a n c =>
   cases a with
   | some a=>simp[Dy]at h
   | none =>
    cases n with
    | succ n=>simp[Dy]at h
    | zero =>
     cases c with
     | succ c=>simp[Dy]at h
     | zero =>
      simp only[Dy]at h;cases h;exact⟨[],Ql _ _ _ _ _⟩
  | _=>simp[Dy]at h
 all_goals simp[Dy]at h
theorem Qm (a:∀n o,lk n σ.objs=some o→Aw (vw w O0 σ ρ) o (ρ n)) {e:Ty} {x:AV} {xv:Value} {ys:List e.den} (h:Mj σ e x=some ys) (b:Bm (vw w O0 σ ρ) x xv) :
  ∃f,t8 w (own O0 σ ρ) e xv ys f:=by
 unfold Mj at h;split at h
 ·split at h
  ·cases h
  ·rename_i c;exact Vi a h (by simpa[noN] using c) b
 ·rename_i d;refine Vi a h ?_ b;cases x<;>first|rfl|exact absurd rfl (d _ _ _ _)
theorem Pl {el:TypeId} (a:P.underlying id=some (.slice el)) {sz:Nat} (hs:(sizeOf el).run P w=.ok sz w) {base et ty:Nat} {s:Value} {n:Nat} {xs:List Value} (d:w.ownsRow base et sz s n xs) (c:Nat) :
  (Builtin.append_ #[id,id] ty #[s,.slice none 0 c]).run P w=.ok s w:=by
 rcases d.2 with ⟨rfl,rfl⟩|⟨g,cap,e,rfl,_,_,b,_⟩
 ·simp[Builtin.append_,aS a,hs,Builtin.lenOf,Builtin.firstCells]
 ·simp[Builtin.append_,aS a,hs,Builtin.lenOf,Builtin.firstCells,b,storeCells]
theorem FY (l:Cg P tb) {el:TypeId} {e:Ty} (k:P.underlying id=some (.slice el)) {te:TI} (r:lk el tb.ty=some te) (B:te.ty=e) {base ty:Nat} {s xv:Value} {n:Nat} {xs h:List Value}
    (g:w.ownsRow base el e.size s n xs) {O:Nat→Prop} {ys:List e.den} (E:t8 w O e xv ys h) (t:(n+ys.length)*te.bytes≤AO) (m:base≤w.heap.size) :
    ∃b w',(Builtin.append_ #[id,id] ty #[s,xv]).run P w=.ok b w'∧w'.ownsRow base el e.size b (n+ys.length) (xs++h)∧w.grownBy w' s.ownBlock∧n+ys.length≤AO:=by
  subst B;obtain⟨⟨⟨_,y,_⟩,i,z,hi,q,o,u,v⟩,_⟩:=l _ _ r;have f:n+ys.length≤AO:=by
    have:(n+ys.length)*1≤(n+ys.length)*te.bytes:=AB7 _ y;omega
  obtain⟨⟨a,c,rfl,x⟩,p,F,D,G⟩:=E;have hs:(sizeOf el).run P w=.ok te.ty.size w:=Gp w (l _ _ r);rcases x with rfl|⟨ad,rfl,A⟩
  · have C:h=[]:=aT (by simpa using p)
    subst C;cases a with
    | none =>
      refine⟨s,w,Pl k hs g c,by simpa using g,⟨rfl,rfl,rfl,If _,fun _ _ _=>rfl⟩,f⟩
    | some ad =>
      obtain⟨b,w',h1,d,j,_⟩:=run_append_own (P:=P) w base id ty el i z te.ty.size te.bytes k hi u q o (by rw[v];simpa using (Be.zero w (fun _=>False) te.ty).length) te.ty.size_pos s n xs g ad 0 c [] (by simp) (by simp) (by simp)
        (by have h1:AO=140737488355328:=rfl;have d:maxLen=9223372036854775807:=rfl;simp at f;omega) (by simpa[AO] using t) m
      exact⟨b,w',h1,by simpa using d,j,f⟩
  · obtain ⟨b, w', h1, d, j, _⟩ := run_append_own (P := P) w base id ty el i z te.ty.size te.bytes k hi u q o (by rw [v]; simpa using (Be.zero w (fun _ => False) te.ty).length) te.ty.size_pos s n xs g ad ys.length c h p A D
        (by have h1:AO=140737488355328:=rfl;have d:maxLen=9223372036854775807:=rfl;omega) (by simpa[AO] using t) m
    exact⟨b,w',h1,d,j,f⟩
theorem JW {w:World} {O:Nat→Prop} {e:Ty} {c1 c2:List Value} {xs ys:List e.den} (h1:DL w O e c1 xs) (g:DL w O e c2 ys) (h:c1.length=xs.length*e.size):DL w O e (c1++c2) (xs++ys):=by
 intro i x hi;rw[AAh]at hi;split at hi
 ·obtain⟨a,b,c,d⟩:=h1 i x hi;refine⟨a,b,fun j u f=>?_,d⟩;have:=c j u f;rw[AA2 (No.1 this).1];exact this
 ·rename_i k;obtain⟨a,b,c,d⟩:=g _ x hi;refine⟨a,b,fun j u f=>?_,d⟩;have l:xs.length*e.size≤i*e.size:=oR _ (by omega);rw[AA5 (by omega),h];have:=c j u f;rw[Nat.sub_mul]at this;rw[←this]
  congr 1
  omega
theorem Pm (k:Cg P tb) {el:TypeId} {e:Ty} (n:P.underlying id=some (.slice el)) {te:TI} (m:lk el tb.ty=some te) (y:te.ty=e) {ty:Nat} {xv:Value} {O:Nat→Prop} {xs:List e.den} {a:Option Addr} {c:List Value}
  (hs:t8 w O e (.slice a xs.length xs.length) xs c) {ys:List e.den} {d:List Value} (l:t8 w O e xv ys d) (h0:0<ys.length) (o:(xs.length+ys.length)*te.bytes≤AO) :
  ∃b w',(Builtin.append_ #[id,id] ty #[.slice a xs.length xs.length,xv]).run P w=.ok b w'∧w'.ownsRow w.heap.size el e.size b (xs.length+ys.length) (c++d)∧w.grownBy w' none:=by
 subst y;have p:∀ad:Addr,a=some ad→(∀(j:Nat) (u:Value),c[j]?=some u→w.cell? (ad.add j)=some u)→∃b w',(Builtin.append_ #[id,id] ty #[.slice a xs.length xs.length,xv]).run P w=.ok b w'∧w'.ownsRow w.heap.size el te.ty.size b (xs.length+ys.length) (c++d)∧w.grownBy w' none:=by
  intro ad ha E;subst ha;obtain⟨⟨⟨_,t,_⟩,i,z,hi,F,v,G,H⟩,_⟩:=k _ _ m;obtain⟨⟨J,c2,rfl,f⟩,B,N,U,R⟩:=l;have T:xs.length+ys.length≤AO:=by
   have:(xs.length+ys.length)*1≤(xs.length+ys.length)*te.bytes:=AB7 _ t;omega
  rcases f with rfl|⟨q,rfl,g⟩
  ·simp at h0
  ·exact run_append_arg_grows (P:=P) w id ty el i z te.ty.size te.bytes n hi G F v (by rw[H];simpa using (Be.zero w (fun _=>False) te.ty).length) te.ty.size_pos ad xs.length xs.length c hs.len E q ys.length c2 d B g (by omega)
    (by have h1:AO=140737488355328:=rfl;have h:maxLen=9223372036854775807:=rfl;omega) (by simpa[AO] using o)
 obtain⟨⟨I,c1,x,f⟩,C,Q,V,S⟩:=hs;injection x with r K L
 subst r;rcases f with rfl|⟨ad,ha,g⟩
 ·have D:c=[]:=aT (by simpa using C);subst D;cases a with
  | some ad=>exact p ad rfl fun j u A=>by simp at A
  | none =>
   obtain⟨b,w',h1,h,s,M⟩:=FY (ty:=ty) k n m rfl (ABs w w.heap.size el te.ty.size) l (by simpa using o) (If _);exact⟨b,w',h1,by simpa using h,s⟩
 ·exact p ad ha g
theorem Pn {w w':World} (h:w.grownBy w' none):Below w.heap.size w w':=⟨h.os,h.tape,h.output,h.size,fun k hk=>h.block k hk (by simp)⟩
theorem oK (a:Cg P tb) (E:∀n o,lk n σ.objs=some o→Aw (vw w O0 σ ρ) o (ρ n)) {d:Nat} {t u:TypeId} {x y:AV} {xv K:Value} {ty:TypeId}
  (h:CK tb σ d t u (some x) (some y)=some (vc,v,obs)) (m:vc) (q:Bm (vw w O0 σ ρ) x xv) (I:Bm (vw w O0 σ ρ) y K) (hf:BQ obs σ=true) :
  ∃z ρ' w',(Builtin.append_ #[t,u] ty #[xv,K]).run P w=.ok z w'∧QS w O0 σ ρ v obs z ρ' w':=by
 unfold CK at h;split at h
 ·rename_i C D;cases C;cases D;have q:xv=_:=q;subst q;split at h
  ·rename_i G;subst G;cases c:lk t tb.ty with
   | none=>rw[c]at h;simp[D6]at h
   | some ti =>
    rw[c]at h;unfold D6 at h;split at h
    ·rename_i e offs el b B;cases B;obtain⟨H,hs,te,i,k⟩:=B1 (a _ _ c) a;rw[i]at h;cases f:Mj σ e y with
     | none=>rw[f]at h;simp[EU]at h
     | some ys =>
      rw[f]at h;simp only[EU]at h;cases h;obtain⟨J,g⟩:=Qm E f I;obtain⟨r,w',h1,j,A,Q⟩:=FY (ty:=ty) a H i k (ABs w w.heap.size el e.size) g (by simpa using m) (If _);have j:w'.ownsRow w.heap.size el e.size r ys.length J:=by simpa using j
      exact⟨r,_,w',h1,QS.arr hf (Pn A) j g.max g.elems rfl⟩
    ·cases h
  ·cases h
 ·rename_i e l v1 C D;cases C;cases D;split at h
  ·rename_i G;subst G;obtain⟨N,a0,rfl⟩:=q;cases c:lk t tb.ty with
   | none=>rw[c]at h;simp[H9]at h
   | some ti =>
    rw[c]at h;unfold H9 at h;split at h
    ·rename_i s offs el b B;cases B;split at h
     ·rename_i k;subst k;obtain⟨H,hs,te,i,k⟩:=B1 (a _ _ c) a;rw[i]at h;cases f:Mj σ s y with
      | none=>rw[f]at h;simp[JL]at h
      | some ys =>
       rw[f]at h;simp only[JL]at h;cases h;obtain⟨O,m⟩:=m;obtain⟨J,g⟩:=Qm E f I;obtain⟨R,F⟩:=Vi (e:=s) (ys:=l) (x:=.p (.slice s) l) E (by simp[J0,Dy,El]) rfl N;obtain⟨r,w',h1,j,A⟩:=Pm (ty:=ty) a H i k F g O m;have M:(l++ys).length≤AO:=by
        obtain⟨⟨⟨_,L,_⟩,_⟩,_⟩:=a _ _ i;have:(l.length+ys.length)*1≤(l.length+ys.length)*te.bytes:=AB7 _ L;rw[On];omega
       exact⟨r,_,w',h1,QS.arr hf (Pn A) (by rw[On];exact j) M (JW F.elems g.elems F.len) (by rw[On])⟩
     ·cases h
    ·cases h
  ·cases h
 ·cases h
end
end
section
open Go Go.RowKit
def RY:Ty→Option TypeDesc
 | .int k=>some (.int k)
 | .bool=>some .bool
 | .str=>some .string
 | .prod _ _=>none
 | .agg _=>none
 | .slice _=>none
 | .ref _=>none
section
variable {w:World} {O:Nat→Prop}
theorem LO {a:Ty} {d:TypeDesc} (b:RY a=some d) {k:a.den} {c:Value} (h:BM w O a c k):MapKept.IsKey d c:=by
 cases a<;>simp only[RY]at b<;>try(cases b;done)
 all_goals cases b
 ·obtain⟨rfl,_⟩:=BI h;trivial
 ·have:=Dk h;subst this;trivial
 ·obtain⟨rfl,_⟩:=Fz h;trivial
theorem W8 {a:Ty} {d:TypeDesc} (c:RY a=some d) {k e:a.den} {f g:Value} (h:BM w O a f k) (b:BM w O a g e):Instr.sameNow d f g=some (IR a k e):=by
 cases a<;>simp only[RY]at c<;>try(cases c;done)
 all_goals cases c
 ·obtain⟨rfl,_⟩:=BI h;obtain⟨rfl,_⟩:=BI b;simp[Instr.sameNow,IR]
 ·have:=Dk h;subst this;have:=Dk b;subst this;simp[Instr.sameNow,IR]
 ·obtain⟨rfl,_⟩:=Fz h;obtain⟨rfl,_⟩:=Fz b;simp[Instr.sameNow,IR]
theorem A0h {a:Ty} {d:TypeDesc} (c:RY a=some d) {k f:a.den} {g i:Value} (h:BM w O a g k) (e:BM w O a i f) (l:IR a k f=true):i=g:=by
 have h1:=W8 c h e;obtain⟨r,b,j⟩:=MapKept.sameNow_of_keys (LO c h) (LO c e);rw[h1]at b;injection b with b
 exact(j.1 (b▸l)).symm
def GP (a b:Ty) (k:a.den):List MapEntry→List (a.den×b.den)→Nat→Option (Nat×Value)
 | e :: c,x :: l,i=>if IR a k x.1=true then some (i,e.val) else GP a b k c l (i+1)
 | _,_,_=>none
end
structure RZ (P:Program) (kid:TypeId) (kt:Ty):Prop where
 check:∀ {w:World} {O:Nat→Prop} {kv:Value} {k:kt.den} (em:Bool),BM w O kt kv k→(Instr.checkKey em 10000 kid kv).run P w=.ok () w
 find:∀ {w:World} {O:Nat→Prop} {vt:Ty} {es:List MapEntry} {l:List (kt.den×vt.den)} {kv:Value} {k:kt.den},BM w O kt kv k→Ic w O kt vt es l→(Instr.findKey kid kv es).run P w=.ok (GP kt vt k es l 0) w
 stays:∀ {w:World} {O:Nat→Prop} {kv:Value} {k:kt.den},BM w O kt kv k→(Instr.keyThatStays kv kv).run P w=.ok kv w
 same:∀ {w:World} {O:Nat→Prop} {kv kv':Value} {k k':kt.den},BM w O kt kv k→BM w O kt kv' k'→IR kt k k'=true→kv'=kv
theorem Tu {w:World} {O:Nat→Prop} {a c:Ty} {d:TypeDesc} (g:RY a=some d) {k:a.den} {j:Value} (hk:BM w O a j k):∀ {b:List MapEntry} {l:List (a.den×c.den)},Ic w O a c b l→∀i,Instr.findNow d j b i=some (GP a c k b l i)
 | [],[],_,i=>rfl
 | [],_ :: _,h,_=>h.elim
 | _ :: _,[],h,_=>h.elim
 | e :: b,x :: l,⟨h1,o,m⟩,i=>by
  have hs:=W8 g hk h1;have n:=Tu g hk m (i+1);cases f:IR a k x.1<;>rw[f]at hs<;>simp[Instr.findNow,GP,hs,f,n]
theorem Fm {P:Program} {kid:TypeId} {kt:Ty} {d:TypeDesc} (hd:RY kt=some d) (hu:P.underlying kid=some d):RZ P kid kt where
 check:=fun em h=>MapKept.run_checkKey hu (LO hd h) em 9999
 find:=fun hk he=>MapKept.run_findKey hu (Tu hd hk he 0)
 stays:=fun h=>MapKept.run_keyThatStays (LO hd h)
 same:=fun h h' he=>A0h hd h h' he
theorem Eq {w:World} {O:Nat→Prop} {a b:IntKind} {v:Value} {d:(Ty.agg (.prod (.int a) (.int b))).den} (h:BM w O (.agg (.prod (.int a) (.int b))) v d):v=.agg #[.int a d.1,.int b d.2]:=by
 obtain⟨cs,⟨c1,c2,rfl,⟨rfl,_⟩,⟨rfl,_⟩⟩,rfl⟩:=h;rfl
theorem Po {P:Program} {w:World} {t:TypeId} {a:IntKind} (h:P.underlying t=some (.int a)) (d:Nat) (x y:Int):(Op.equalIn (d+1) t (.int a x) (.int a y)).run P w=.ok (x==y) w:=by simp[Op.equalIn,aS h]
theorem Mx {P:Program} {w:World} {t:TypeId} {a:IntKind} (h:P.underlying t=some (.int a)) (em:Bool) (d:Nat) (x:Int):(Instr.checkKey em (d+1) t (.int a x)).run P w=.ok () w:=by simp[Instr.checkKey,aS h]
theorem Ta {P:Program} {w:World} {h:TypeId} {a b:IntKind} (hp:LM P h a b) (em:Bool) (d:Nat) (x y:Int):(Instr.checkKey em (d+2) h (.agg #[.int a x,.int b y])).run P w=.ok () w:=by
 obtain⟨c,e,p,⟨h1,j⟩,⟨l,m⟩,⟨f,g⟩,t⟩:=hp;have i : c.name ≠ "_" := by simpa using h1
 have k : e.name ≠ "_" := by simpa using j
 have n:P.plainKey c.type=true:=by simp[Program.plainKey,f]
 have o:P.plainKey e.type=true:=by simp[Program.plainKey,g]
 have p0:=fun(u v:Value)=>ACj (P:=P) w n (xs:=#[u,v]) (off:=c.offset) (v:=u) (by rw[l];rfl);have q:=fun(u v:Value)=>ACj (P:=P) w o (xs:=#[u,v]) (off:=e.offset) (v:=v) (by rw[m];rfl);have r:=fun x:Int=>Mx (w:=w) f em d x;have s:=fun x:Int=>Mx (w:=w) g em d x;rw[Instr.checkKey];simp[aS p,i,k,p0,q,r,s]
theorem Ra {P:Program} {g:TypeId} {a b:IntKind} (hp:LM P g a b) (w:World) (h i j k:Int):(Op.equal g (.agg #[.int a h,.int b i]) (.agg #[.int a j,.int b k])).run P w=.ok ((h==j)&&(i==k)) w:=by
 obtain⟨d,f,q,⟨h1,l⟩,⟨s,t⟩,⟨m,n⟩,z⟩:=hp;have o:P.fieldsOf g=#[d,f]:=by simp[Program.fieldsOf,q]
 have A:P.plainKey d.type=true:=by simp[Program.plainKey,m]
 have B:P.plainKey f.type=true:=by simp[Program.plainKey,n]
 have h1 : d.name ≠ "_" := by simpa using h1
 have l : f.name ≠ "_" := by simpa using l
 have C:∀x y:Int,(Op.equalIn 9999 d.type (.int a x) (.int a y)).run P w=.ok (x==y) w:=fun x y=>Po m 9998 x y;have p:∀x y:Int,(Op.equalIn 9999 f.type (.int b x) (.int b y)).run P w=.ok (x==y) w:=fun x y=>Po n 9998 x y;have e:(Op.equal g (.agg #[.int a h,.int b i]) (.agg #[.int a j,.int b k])).run P w=_:=run_equalIn_struct (P:=P) w 9999 g _ _ (by rw[o];exact q) z;rw[e,o];have p0:=fun(u v:Value)=>ACj (P:=P) w A (xs:=#[u,v]) (off:=d.offset) (v:=u) (by rw[s];rfl);have r:=fun(u v:Value)=>ACj (P:=P) w B (xs:=#[u,v]) (off:=f.offset) (v:=v) (by rw[t];rfl);simp only[Op.eqFields,h1,l,ne_eq,not_false_eq_true,AAv,AAA,p0,r,AA6,C,p];by_cases c:h=j
 ·by_cases c2:i=k<;>simp[c,c2,Sem.run_ite,AAA,r,p,Op.eqFields]
 ·simp[c,Sem.run_ite]
theorem Tv {P:Program} {g:TypeId} {a b:IntKind} (hp:LM P g a b) {w:World} {O:Nat→Prop} {d:Ty} {k:(Ty.agg (.prod (.int a) (.int b))).den} {j:Value} (hk:BM w O (.agg (.prod (.int a) (.int b))) j k) :
  ∀ {c:List MapEntry} {l:List ((Ty.agg (.prod (.int a) (.int b))).den×d.den)},Ic w O (.agg (.prod (.int a) (.int b))) d c l→∀i,(Instr.findAsking g j c i).run P w=.ok (GP (.agg (.prod (.int a) (.int b))) d k c l i) w
 | [],[],_,i=>rfl
 | [],_ :: _,h,_=>h.elim
 | _ :: _,[],h,_=>h.elim
 | e :: c,x :: l,⟨h1,p,m⟩,i=>by
  have o:=Tv hp hk m (i+1);have f:=Ra hp w k.1 k.2 x.1.1 x.1.2;rw[←Eq hk,←Eq h1]at f;have n:IR (.agg (.prod (.int a) (.int b))) k x.1=((k.1==x.1.1)&&(k.2==x.1.2)):=rfl;simp only[Instr.findAsking,AAA,f,AA6,GP,n,Sem.run_ite];split
  ·rfl
  ·exact o
theorem W9 {P:Program} {kid:TypeId} {a b:IntKind} (hp:LM P kid a b):RZ P kid (.agg (.prod (.int a) (.int b))) where
 check:=fun em h=>by
  rw[Eq h];exact Ta hp em 9998 _ _
 find:=fun hk he=>by
  have hp2:=hp;obtain⟨f0,f1,hu,_⟩:=hp2;rw[run_findKey_eq _ (by rw[hu])];exact Tv hp hk he 0
 stays:=fun h=>by
  rw[Eq h];simp[Instr.keyThatStays,Instr.sameBits]
 same:=fun h h' he=>by
  rw[Eq h,Eq h'];have he:((_==_)&&(_==_))=true:=he;simp only[An,AA0]at he;rw[he.1,he.2]
theorem OZ {P:Program} {B:TypeId} {w:World} {O:Nat→Prop} {c a:Ty} (t:RZ P B c) {k:c.den} {n:Value} (hk:BM w O c n k):∀ {g:List MapEntry} {l:List (c.den×a.den)},Ic w O c a g l→∀i,
  (Ay c a k l=none∧GP c a k g l i=none∧∀(v:a.den) (d:Value) (b:Nat),BM w O a d v→Ic w O c a (g++[⟨n,d,b⟩]) (Gi c a k v l)) ∨
  ∃(j:Nat) (e:MapEntry) (v0:a.den),Ay c a k l=some v0∧GP c a k g l i=some (i+j,e.val)∧g[j]?=some e∧BM w O a e.val v0∧e.key=n ∧
   ∀(v:a.den) (d:Value),BM w O a d v→Ic w O c a (g.modify j fun e=>{ e with key:=n,val:=d }) (Gi c a k v l)
 | [],[],_,i=>.inl ⟨rfl,rfl,fun v d b m=>⟨hk,m,trivial⟩⟩
 | [],_ :: _,h,_=>h.elim
 | _ :: _,[],h,_=>h.elim
 | e :: g,x :: l,⟨h1,r,s⟩,i=>by
  cases f:IR c k x.1 with
  | true =>
   refine .inr ⟨0,e,x.2,by simp[Ay,f],by simp[GP,f],rfl,r,t.same hk h1 f,fun v d m=>?_⟩;simp only[Gi,f,AAv];exact⟨hk,m,s⟩
  | false =>
   rcases OZ t hk s (i+1) with ⟨o,p,q⟩|⟨j,u,v0,o,p,q,y,z,A⟩
   ·refine .inl ⟨by simp[Ay,f,o],by simp[GP,f,p],fun v d b m=>?_⟩;simp only[Gi,f,AAB,AAN];exact⟨h1,r,q v d b m⟩
   ·refine .inr ⟨j+1,u,v0,by simp[Ay,f,o],?_,by simpa using q,y,z,fun v d m=>?_⟩
    ·simp only[GP,f,p,AAB,AAN]
     congr 2
     omega
    ·simp only[Gi,f,AAB,AAN,List.modify_succ_cons];exact⟨h1,r,A v d m⟩
theorem XA {P:Program} {tb:Tb} {id:TypeId} {ti:TI} (hT:Dd P tb id ti) (c:ti.el=0) (hk:TY ti.ty=true):RZ P id ti.ty:=by
 have a:=hT.2;obtain⟨⟨⟨_,_,b⟩,_⟩,_⟩:=hT;rw[c]at b;cases d:ti.ty<;>rw[d]at a hk b<;>simp only[TY]at hk<;>try(cases hk;done)
 ·exact Fm rfl a
 ·exact Fm rfl a
 ·exact Fm rfl a
 ·unfold ZI at hk;split at hk
  ·exact W9 b
  ·cases hk
theorem kH {t:Ty} {z:Value} (c:z.cells=t.zero.toArray) (hf:Vf t z=true):z=t.wrap t.zero:=by
 cases t with
 | agg t =>
  cases z<;>simp only[Vf]at hf<;>try(cases hf;done)
  simp only[Value.cells]at c;rw[c];rfl
 | prod a b=>cases z<;>simp[Vf]at hf
 | _=>cases z<;>simp only[Vf]at hf<;>(try(cases hf;done))<;>(simp only[Value.cells,Ty.zero]at c;simp[Ty.wrap,Ty.zero]at c ⊢<;>exact c)
section
variable {P:Program} {tb:Tb} {w:World} {O0:Nat→Prop} {σ:St} {ρ:Nat→Value} {vc:Prop} {v:AV} {obs:List (Nat×Obj)} {id:TypeId} {ti:TI}
theorem kI {P:Program} {tb:Tb} {e:TypeId} {te:TI} {z:Value} {i:TypeInfo} (hi:P.info? e=some i) (b:i.zero=some z) (a:z.cells=te.ty.zero.toArray) (hf:Vf te.ty z=true) (w:World) (O:Nat→Prop) :
  (zeroValue e).run P w=.ok z w∧BM w O te.ty z te.ty.dflt:=by
 refine⟨by simp[zeroValue,typeInfo,hi,b],te.ty.zero,Be.zero w O te.ty,kH a hf⟩
theorem A1c {a:Act} (o:FK (vw w O0 σ ρ) σ a.eval) {fn:Fn} {first d:List Operand} (h:VY σ fn first d=some (vc,v,obs)):obs=[]∧∃u,(Instr.makeFunc fn (first.map a.eval).toArray (d.map a.eval).toArray).run P w=.ok u w∧Bm (vw w O0 σ ρ) v u:=by
 unfold VY at h;split at h
 ·rename_i f;cases j:Gk σ d with
  | none=>rw[j]at h;simp[Mm]at h
  | some ns =>
   rw[j]at h;simp only[Mm]at h;cases h;have key:∀ {l:List Operand} {ns:List Nat},Gk σ l=some ns→l.map a.eval=ns.map ρ∧∀n∈ns,Fl σ n∧∃b:Nat,ρ n=.pointer (some ⟨b,0,none⟩):=by
    intro l;induction l with
    | nil=>intro ns h;simp only[Gk]at h;cases h;exact⟨rfl,fun _ h=>by cases h⟩
    | cons x r p =>
     intro ns h;simp only[Gk]at h;split at h
     ·rename_i n t h1 k;cases h;obtain⟨e,g⟩:=p k;obtain⟨q,b,c,s⟩:=o x _ h1;have c:ρ n=_:=c;refine⟨by simp only[tO,e,s,c],fun m i=>?_⟩;rcases Do.1 i with rfl|i
      ·exact⟨q,b,c⟩
      ·exact g m i
     ·cases h
   obtain⟨e,g⟩:=key j;refine⟨rfl,_,rfl,?_,g⟩;rw[e];rfl
 ·cases h
theorem kJ {d:Array MapEntry} {cl:Nat} (h:OW d cl) (x y:Value):OW (d.push ⟨x,y,cl⟩) (cl+1):=by
 unfold OW;rw[Array.toList_push,AAM];refine⟨?_,fun b c=>?_⟩
 ·rw[AAF];refine⟨h.1,by simp,fun a ha b c e=>?_⟩;have c:b=cl:=by simpa using c
  have:=h.2 a ha;omega
 ·rcases ON.1 c with c|c
  ·have:=h.2 b c;omega
  ·have c:b=cl:=by simpa using c
   omega
theorem XB {a:Array MapEntry} {cl:Nat} (h:OW a cl) (j:Nat) (x y:Value):OW (a.modify j fun e=>{ e with key:=x,val:=y }) cl:=by
 have e:((a.modify j fun e=>{ e with key:=x,val:=y }).toList.map (·.born))=a.toList.map (·.born):=by
  rw[Array.toList_modify];apply AAE
  ·simp
  ·intro i h1 b;simp only[ACu,List.getElem_modify];split<;>rfl
 unfold OW;rw[e];exact h
theorem A0i (I:Cg P tb) (hT:Dd P tb id ti) {n:Nat} {k e:Nat} (S:ti.ty=.ref 2) (R:ti.offs=[(k,e)]) {a:TI} (T:lk k tb.ty=some a) {f:Ty} {l:List (a.ty.den×f.den)} {V:Vw} (J:V.w=w)
  (Q:Aw V (.mapo a.ty f l) (V.ρ n)) {x y:Value} {kd:a.ty.den} {m:f.den} (K:a.el=0) (M:TY a.ty=true) (h:BM w V.O a.ty x kd) (D:BM w V.O f y m) :
  ∃b q t,V.ρ n=.map (some b)∧(Instr.mapUpdate id (.map (some b)) x y).run P w=.ok () { w with heap:=w.heap.setIfInBounds b (.map q t) }∧(∃o,w.heap[b]?=some o)∧Ic w V.O a.ty f q.toList (Gi a.ty f kd m l)∧OW q t:=by
 obtain⟨d,C,_,N⟩:∃d,P.underlying id=some d∧(match d with|.struct _=>False|.array _ _=>False|_=>True) ∧
   ∀k e,(2:Nat)=2→ti.offs=[(k,e)]→d=.map k e∧∃(a te:TI) (z:Value),lk k tb.ty=some a∧lk e tb.ty=some te∧(∃i,P.info? e=some i∧i.zero=some z)∧z.cells=te.ty.zero.toArray∧Vf te.ty z=true:=by
  have:=hT.2;rw[S]at this;exact this
 obtain⟨rfl,_⟩:=N k e rfl R;obtain⟨b,p,cl,B,c,v,u⟩:=Q;subst J;have g:=XA (I _ _ T) K M;have A:=g.find h v;refine⟨b,?_⟩;rcases OZ g h v 0 with ⟨F,r,s⟩|⟨j,E,v0,F,r,s,U,G,H⟩
 ·refine⟨p.push ⟨x,y,cl⟩,cl+1,B,?_,⟨_,c⟩,by simpa using s m y cl D,kJ u x y⟩;simp[Instr.mapUpdate,aS C,AAK c,g.check _ h,A,r,ABw _ c]
 ·have L:p[j]?=some E:=by simpa using s
  refine⟨p.modify j fun e=>{ e with key:=x,val:=y },cl,B,?_,⟨_,c⟩,by rw[Array.toList_modify];exact H m y D,XB u j x y⟩;simp[Instr.mapUpdate,aS C,AAK c,g.check _ h,A,r,L,G,g.stays h,ABw _ c]
theorem kK (hT:Dd P tb id ti) {d:Nat} (h:E6 tb d (some ti)=some (vc,v,obs)) (hf:BQ obs σ=true) :
  ∃u ρ' w',(Instr.makeMap id none).run P w=.ok u w'∧QS w O0 σ ρ v obs u ρ' w':=by
 unfold E6 at h;split at h
 ·rename_i offs _ _ c;cases c;unfold FU at h;split at h
  ·rename_i k e;unfold FT at h;split at h
   ·cases h;have f:(Instr.makeMap id none).run P w=.ok (.map (some w.heap.size)) (w.alloc (.map #[] 0)):=by
     simp[Instr.makeMap,Result.andThen]
    refine⟨_,_,_,f,QS.one (loc:=.map (some w.heap.size)) ((Below.refl _ w).alloc (If _) _) ?_ ?_ ?_⟩
    ·intro b a;simp[bk,blk]at a;omega
    ·refine⟨⟨_,by simp only[Dq,ABe,lk,AAv];rfl⟩,w.heap.size,?_,rfl⟩;show Dr ρ d _ d=_;rw[BU]
    ·exact⟨w.heap.size,#[],0,rfl,(MapKept.heap_alloc w _).1,trivial,List.Pairwise.nil,fun b a=>by cases a⟩
   ·cases h
  ·cases h
 ·cases h
theorem A0j (hT:Dd P tb id ti) (O:Cg P tb) (I:∀n o,lk n σ.objs=some o→Aw (vw w O0 σ ρ) o (ρ n)) {ok:Bool} {x y:AV} {xv E:Value} (h:Hk tb σ ok (some ti) (some x) (some y)=some (vc,v,obs))
  (aa:Bm (vw w O0 σ ρ) x xv) (ab:Bm (vw w O0 σ ρ) y E):obs=[]∧∃u,(Instr.lookup id xv E ok).run P w=.ok u w∧Bm (vw w O0 σ ρ) v u:=by
 unfold Hk at h;split at h
 ·rename_i k e _ _ n z S T U;cases S;cases T;cases U;obtain⟨d,L,_,Y⟩:=hT.2;obtain⟨rfl,D,te,ai,K,Z,⟨i,hi,ad⟩,ag,ah⟩:=Y k e rfl rfl;cases hn:lk n σ.objs with
  | none=>rw[hn]at h;simp[Gl]at h
  | some o =>
   rw[hn]at h;cases o with
   | mapo ak al l =>
    simp only[Gl,K,Z,AAY,AAo]at h;split at h
    ·rename_i R;obtain⟨rfl,W,rfl⟩:=R;cases hk:J0 false σ D.ty y with
     | none=>rw[hk]at h;simp[JN]at h
     | some kd =>
      rw[hk]at h;simp only[JN]at h;split at h
      ·rename_i X;have a:=Ie (V:=vw w O0 σ ρ) (O':=own O0 σ ρ) (fun _ h=>h) (fun h=>by cases h) I hk ab;have a:BM w (own O0 σ ρ) D.ty E kd:=a;obtain⟨aj,b,C,rfl⟩:=aa;have C:ρ n=_:=C;obtain⟨b',F,cl,c,p,m,-⟩:=I n _ hn;rw[C]at c;injection c with c
       injection c with c
       subst c;have p:w.heap[b]?=some (.map F cl):=p;have m:Ic w (own O0 σ ρ) D.ty te.ty F.toList l:=m;have q:=XA (O _ _ K) W X;have H:=q.find a m;obtain⟨ae,af⟩:=kI (te:=te) (P:=P) (tb:=tb) hi ad ag ah w (own O0 σ ρ);have G:∀(f:Value) (s:Bool) (r:Option te.ty.den),BM w (own O0 σ ρ) te.ty f (r.getD te.ty.dflt)→s=r.isSome→KQ te.ty ok r=some (vc,v,obs)→obs=[]∧∃u,u=(if ok=true then Value.tuple #[f,.bool s] else f)∧Bm (vw w O0 σ ρ) v u:=by
        intro f s r J Q g;unfold KQ at g;subst Q;cases ok with
        | true =>
         simp only[AAv]at g ⊢;cases g;exact⟨rfl,_,rfl,[f,.bool r.isSome],rfl,f,_,rfl,J,_,[],rfl,BT _,rfl⟩
        | false =>
         simp only[AAB,AAN]at g ⊢;cases g;exact⟨rfl,_,rfl,J⟩
       rcases OZ q a m 0 with ⟨t,A,_⟩|⟨j,M,v0,t,A,_,N,_,_⟩
       ·rw[t]at h;obtain⟨h1,u,rfl,B⟩:=G ai false none af rfl h;refine⟨h1,_,?_,B⟩;simp[Instr.lookup,aS L,AAK p,q.check _ a,H,A,ae]
       ·rw[t]at h;obtain⟨h1,u,rfl,B⟩:=G M.val true (some v0) N rfl h;refine⟨h1,_,?_,B⟩;simp[Instr.lookup,aS L,AAK p,q.check _ a,H,A]
      ·cases h
    ·cases h
   | _=>simp[Gl]at h
 ·cases h
end
end
end Go.Proofs.YtdapahgnpbehbaaGreat.Fw
