/- The executor's quiet operations are sound, second part; maps. -/
/- Operations that make memory. -/
import Derived.Test.YtebfihindnhccaaGreatIZB
import Derived.MapKept
import Derived.WideKeyRuns
import Derived.Laws.StructEq
set_option linter.unusedVariables false
set_option linter.unusedSimpArgs false
namespace Go.Proofs.YtebfihindnhccaaGreat.Fw
section
open Go Go.RowKit
section
variable {P:Program} {tb:Tb} {id:TypeId} {ti:TI} {w:World} {O0:Nat→Prop} {σ:St} {ρ:Nat→Value} {vc:Prop} {v:AV} {obs:List (Nat×Obj)}
theorem E8 (w:World) (o:_root_.Go.Obj):Below w.heap.size w (w.alloc o):=(Below.refl _ _).alloc (Nat.le_refl _) o
theorem QS.box {n:Nat} {et:TypeId} {st:Bool} {fs:List AV} {cs:List Value} (hf:BT [(n,.box et st fs)] σ=true) (hst:st=false→fs.length=1) (hcs:DQ (vw w O0 σ ρ) fs cs) :
  QS w O0 σ ρ (.bp n [] 0) [(n,.box et st fs)] (.pointer (some ⟨w.heap.size,0,none⟩)) (EV ρ n (.pointer (some ⟨w.heap.size,0,none⟩))) (w.alloc (.cells cs.toArray et)):=by
 have hnew:∀(m:Nat) (o:Obj) (b:Nat),lk m [(n,.box et st fs)]=some o→bk (EV ρ n (.pointer (some ⟨w.heap.size,0,none⟩)) m) b→w.heap.size≤b:=by
  intro m o b hm hb
  simp only[lk]at hm
  split at hm
  ·rename_i e;subst e;rw[Ba]at hb;simp[bk,blk]at hb;omega
  ·cases hm
 have hk:Ck (vw w O0 σ ρ) (vw (w.alloc (.cells cs.toArray et)) O0 (Dz σ [(n,.box et st fs)]) (EV ρ n (.pointer (some ⟨w.heap.size,0,none⟩)))) :=
  HA hf (E8 w _) (fun m hm=>by
   simp only[lk]at hm
   split at hm
   ·cases hm
   ·rename_i e;simp[EV,e]) hnew
 refine QS.one (E8 w _) (fun b hb=>by simp[bk,blk]at hb;omega) ?_ ?_
 ·refine⟨⟨.box et st fs,by simp[Dz,lk]⟩,w.heap.size,by rw[show (vw (w.alloc (.cells cs.toArray et)) O0 (Dz σ [(n,.box et st fs)]) (EV ρ n (.pointer (some ⟨w.heap.size,0,none⟩)))).ρ n=EV ρ n (.pointer (some ⟨w.heap.size,0,none⟩)) n from rfl,Ba],rfl⟩
 ·exact⟨hst,w.heap.size,cs,rfl,heap_alloc_new w _,hcs.keeps hk⟩
theorem QS.arr {n:Nat} {et:TypeId} {e:Ty} {xs:List e.den} {cells:List Value} {loc:Value} {w':World} {hi:Nat} (hf:BT [(n,.arr et e xs)] σ=true) (hb:Below w.heap.size w w')
  (hown:w'.ownsRow w.heap.size et e.size loc xs.length cells) (hm:xs.length≤AP) (hel:DR w (own O0 σ ρ) e cells xs) (hhi:hi=xs.length) :
  QS w O0 σ ρ (.sr n e 0 hi) [(n,.arr et e xs)] loc (EV ρ n loc) w':=by
 subst hhi
 have hnew0:∀b,bk loc b→w.heap.size≤b:=by
  intro b hb'
  rcases hown.2 with ⟨rfl,_⟩|⟨g,cap,cur,rfl,hg,_⟩
  ·simp[bk,blk]at hb'
  ·simp[bk,blk]at hb';omega
 have hnew:∀(m:Nat) (o:Obj) (b:Nat),lk m [(n,.arr et e xs)]=some o→bk (EV ρ n loc m) b→w.heap.size≤b:=by
  intro m o b hm hb
  simp only[lk]at hm
  split at hm
  ·rename_i e;subst e;rw[Ba]at hb;exact hnew0 b hb
  ·cases hm
 have hk:Ck (vw w O0 σ ρ) (vw w' O0 (Dz σ [(n,.arr et e xs)]) (EV ρ n loc)) :=
  HA hf hb (fun m hm=>by
   simp only[lk]at hm
   split at hm
   ·cases hm
   ·rename_i e;simp[EV,e]) hnew
 refine QS.one hb hnew0 ?_ ?_
 ·refine⟨⟨.arr et e xs,by simp[Dz,lk]⟩,?_⟩
  show DC (plc (EV ρ n loc n)) e.size 0 xs.length loc
  rw[Ba,Gn hown]
  rcases hown.2 with ⟨rfl,hn⟩|⟨g,cap,cur,rfl,hg,_,hcap,_⟩
  ·exact⟨none,0,0,rfl,by omega,by omega,none,0,by rw[hn],by omega,fun _=>⟨rfl,rfl⟩,fun h=>by omega⟩
  ·exact⟨some ⟨g,0,none⟩,xs.length,cap,rfl,by omega,by omega,some ⟨g,0,none⟩,cap,by simp,by omega,fun _=>⟨rfl,rfl⟩,fun _=>by simp[Ld]⟩
 ·refine⟨hm,cells,⟨hown.1,?_⟩,hel.keeps hk⟩
  rcases hown.2 with h|⟨g,cap,cur,h1,h2,h3⟩
  ·exact .inl h
  ·exact .inr ⟨g,cap,cur,h1,Nat.zero_le _,h3⟩
theorem J6 (V:Vw) (t:Ty):MU V (pH t) t.zero:=by
 cases t
 case slice e=>exact⟨_,rfl,rfl,rfl⟩
 case ref k=>exact⟨KJ k,rfl,by match k with|0=>rfl|1=>rfl|_+2=>rfl,rfl⟩
 all_goals(exact Bj.zero V.w V.O _)
theorem t9 (V:Vw):∀t:Ty,DQ V (pI t) t.zero
 | .prod a b=>⟨a.zero,b.zero,rfl,J6 V a,t9 V b⟩
 | .int k=>⟨_,[],by simp,J6 V (.int k),rfl⟩
 | .bool=>⟨_,[],by simp,J6 V .bool,rfl⟩
 | .str=>⟨_,[],by simp,J6 V .str,rfl⟩
 | .slice e=>⟨_,[],by simp,J6 V (.slice e),rfl⟩
 | .agg t=>⟨_,[],by simp,J6 V (.agg t),rfl⟩
 | .ref k=>⟨_,[],by simp,J6 V (.ref k),rfl⟩
theorem uA (V:Vw):∀(t:Ty) (d:t.den) (cs:List Value),Bj V.w V.O t cs d→DQ V (zR t d) cs
 | .prod a b,d,cs,h=>by
  obtain⟨c1,c2,rfl,h1,h2⟩:=h
  exact⟨c1,c2,rfl,h1,uA V b d.2 c2 h2⟩
 | .int k,d,cs,h=>⟨cs,[],by simp,h,rfl⟩
 | .bool,d,cs,h=>⟨cs,[],by simp,h,rfl⟩
 | .str,d,cs,h=>⟨cs,[],by simp,h,rfl⟩
 | .slice e,d,cs,h=>⟨cs,[],by simp,h,rfl⟩
 | .agg t,d,cs,h=>⟨cs,[],by simp,h,rfl⟩
 | .ref k,d,cs,h=>⟨cs,[],by simp,h,rfl⟩
theorem Np (hT:ED P tb id ti) (w:World):∃z:Value,(zeroValue id).run P w=.ok z w∧z.cells=ti.ty.zero.toArray:=by
 obtain⟨⟨_,i,z,h1,h2,h3,h4,h5⟩,_⟩:=hT
 exact⟨z,by simp[zeroValue,Kb w h1,h4],h5⟩
theorem z7 (hT:ED P tb id ti) {d:Nat} (h:JL d id (some ti)=some (vc,v,obs)) (hf:BT obs σ=true) :
  ∃u ρ' w',(Instr.alloc id true (.tuple #[])).run P w=.ok u w'∧QS w O0 σ ρ v obs u ρ' w':=by
 obtain⟨z,hz,hzc⟩:=Np hT w
 have hrun:(Instr.alloc id true (.tuple #[])).run P w=.ok (.pointer (some ⟨w.heap.size,0,none⟩)) (w.alloc (.cells ti.ty.zero.toArray id)):=by
  simp[Instr.alloc,hz,newVar,newRow,hzc]
 unfold JL at h
 split at h<;>first|(cases h;done)|skip
 all_goals
  rename_i he
  cases he
  cases h
  refine⟨_,_,_,hrun,QS.box hf ?_ ?_⟩
 ·simp
 ·exact t9 _ _
 ·simp
 ·exact⟨_,[],by simp[Ty.zero],J6 _ _,rfl⟩
 ·simp
 ·exact⟨_,[],by simp[Ty.zero],J6 _ _,rfl⟩
 ·simp
 ·exact⟨_,[],by simp[Ty.zero],J6 _ _,rfl⟩
 ·simp
 ·exact⟨_,[],by simp[Ty.zero],J6 _ _,rfl⟩
 ·simp
 ·exact⟨_,[],by simp[Ty.zero],J6 _ _,rfl⟩
theorem MX {V:Vw} {ty:Ty} {x:AV} {v:Value} (hx:B5 V x v) (hf:CF ty x=true) (hs:ty.cell1=true):v.oneCell'=true:=by
 cases x
 case p t d =>
  simp only[CF,decide_eq_true_eq]at hf
  subst hf
  obtain⟨cs,hr,rfl⟩:=hx
  cases ty
  case agg t=>simp[Ty.cell1]at hs
  case prod a b=>simp[Ty.cell1]at hs
  case slice e=>obtain⟨a,c,rfl,_⟩:=hr;rfl
  case int k=>obtain⟨rfl,h⟩:=hr;rfl
  case bool=>have hr:cs=_:=hr;subst hr;rfl
  case str=>obtain⟨rfl,h⟩:=hr;rfl
  case ref k =>
   have hr:cs=[KJ k]:=hr
   subst hr
   match k with
   | 0=>rfl
   | 1=>rfl
   | _+2=>rfl
 case ag l=>cases ty<;>simp[CF]at hf<;>simp[Ty.cell1]at hs
 case tup l=>simp[CF]at hf
 case raw u =>
  have hx:v=u:=hx
  subst hx
  simp only[CF,Bool.and_eq_true]at hf
  exact hf.1
 case sr n e lo hi=>obtain⟨_,_,_,_,_,_,_,a',c',rfl,_⟩:=hx;rfl
 case ep n e i path off=>obtain⟨_,g,m,c,_,_,rfl⟩:=hx;rfl
 case nin n e i len=>obtain⟨_,_,_,_,_,_,rfl⟩:=hx;rfl
 case ip t d=>obtain⟨ad,cs,rfl,_⟩:=hx;rfl
 case bp n path off=>obtain⟨_,b,_,rfl⟩:=hx;rfl
 case fn f=>have hx:v=_:=hx;subst hx;rfl
 case clo f ns=>obtain⟨rfl,_⟩:=hx;rfl
 case mp n=>obtain⟨_,b,_,rfl⟩:=hx;rfl
 case yl n=>obtain⟨_,b,_,rfl⟩:=hx;rfl
 case top=>simp[CF]at hf
end
end
/- Operations that make memory, continued. -/
section
open Go Go.RowKit
section
variable {P:Program} {tb:Tb} {id:TypeId} {ti:TI} {w:World} {O0:Nat→Prop} {σ:St} {ρ:Nat→Value} {vc:Prop} {v:AV} {obs:List (Nat×Obj)}
theorem SG {t:Ty} {w:World} {O:Nat→Prop} {cs:List Value} {d:t.den} (h:Bj w O t cs d):(t.wrap cs).cells=cs.toArray:=by
 cases t
 case agg t=>rfl
 case prod a b=>rfl
 case slice e=>obtain⟨a,c,rfl,_⟩:=h;rfl
 case int k=>obtain⟨rfl,_⟩:=h;rfl
 case bool=>have h:cs=_:=h;subst h;rfl
 case str=>obtain⟨rfl,_⟩:=h;rfl
 case ref k =>
  have h:cs=[KJ k]:=h
  subst h
  match k with
  | 0=>rfl
  | 1=>rfl
  | _+2=>rfl
theorem z8 {V:Vw} {x:AV} {v:Value} (hx:B5 V x v) (hf:Hn x=true):MU V x v.cells.toList∧v.cells.size=x.cells:=by
 have simple:∀ {y:AV},R7 V y v→v.oneCell'=true→(∀t d,y≠.p t d)→MU V y v.cells.toList:=by
  intro y hy ho hp
  have hc:v.cells=#[v]:=by cases v<;>first|rfl|simp[Value.oneCell']at ho
  rw[hc]
  cases y
  case p t d=>exact absurd rfl (hp t d)
  all_goals exact⟨v,rfl,ho,hy⟩
 have size1:v.oneCell'=true→v.cells.size=1:=by
  intro ho
  have hc:v.cells=#[v]:=by cases v<;>first|rfl|simp[Value.oneCell']at ho
  rw[hc];rfl
 cases x
 case p t d =>
  obtain⟨cs,hr,rfl⟩:=hx
  rw[SG hr]
  exact⟨hr,by simpa[AV.cells] using hr.length⟩
 case raw u =>
  have hx':v=u:=hx
  have ho:v.oneCell'=true:=by rw[hx'];exact hf
  exact⟨simple hx ho (fun _ _=>by simp),size1 ho⟩
 case sr n e lo hi =>
  have ho:v.oneCell'=true:=by obtain⟨_,_,_,_,_,_,_,a',c',rfl,_⟩:=hx;rfl
  exact⟨simple hx ho (fun _ _=>by simp),size1 ho⟩
 case ep n e i path off =>
  have ho:v.oneCell'=true:=by obtain⟨_,g,m,c,_,_,rfl⟩:=hx;rfl
  exact⟨simple hx ho (fun _ _=>by simp),size1 ho⟩
 case nin n e i len =>
  have ho:v.oneCell'=true:=by obtain⟨_,_,_,_,_,_,rfl⟩:=hx;rfl
  exact⟨simple hx ho (fun _ _=>by simp),size1 ho⟩
 case ip t d =>
  have ho:v.oneCell'=true:=by obtain⟨ad,cs,rfl,_⟩:=hx;rfl
  exact⟨simple hx ho (fun _ _=>by simp),size1 ho⟩
 case bp n path off =>
  have ho:v.oneCell'=true:=by obtain⟨_,b,_,rfl⟩:=hx;rfl
  exact⟨simple hx ho (fun _ _=>by simp),size1 ho⟩
 case clo f ns =>
  have ho:v.oneCell'=true:=by obtain⟨rfl,_⟩:=hx;rfl
  exact⟨simple hx ho (fun _ _=>by simp),size1 ho⟩
 case mp n =>
  have ho:v.oneCell'=true:=by obtain⟨_,b,_,rfl⟩:=hx;rfl
  exact⟨simple hx ho (fun _ _=>by simp),size1 ho⟩
 case yl n =>
  have ho:v.oneCell'=true:=by obtain⟨_,b,_,rfl⟩:=hx;rfl
  exact⟨simple hx ho (fun _ _=>by simp),size1 ho⟩
 case fn f =>
  have ho:v.oneCell'=true:=by have hx:v=_:=hx;subst hx;rfl
  exact⟨simple hx ho (fun _ _=>by simp),size1 ho⟩
 all_goals simp[Hn]at hf
theorem A4e (hT:ED P tb id ti) {d:Nat} {x:AV} {xv:Value} (h:RG d id (some ti) (some x)=some (vc,v,obs)) (hx:B5 (vw w O0 σ ρ) x xv) (hf:BT obs σ=true) :
    ∃u ρ' w',(Instr.box id xv).run P w=.ok u w'∧QS w O0 σ ρ v obs u ρ' w':=by
  have hrun:(Instr.box id xv).run P w=.ok (.pointer (some ⟨w.heap.size,0,none⟩)) (w.alloc (.cells xv.cells id)):=by
    simp[Instr.box,newVar,newRow]
  have simple:∀ty:Ty,CF ty x=true→ty.cell1=true→(∀l,x≠.ag l)→DQ (vw w O0 σ ρ) [x] xv.cells.toList:=by
    intro ty hfit hc hag
    obtain⟨h1,h2⟩:=tZ hx hfit (MX hx hfit)
    exact⟨_,[],by simp,h2 hag,rfl⟩
  have hxc:xv.cells=xv.cells.toList.toArray:=by simp
  rw[hxc]at hrun
  unfold RG at h
  split at h
  · rename_i u offs el b u' dd he1 he2
    cases he1;cases he2
    split at h
    · rename_i hu
      subst hu;cases h
      obtain⟨cs,hr,rfl⟩:=hx
      have hr:Bj w (own O0 σ ρ) u cs dd:=hr
      refine⟨_,_,_,hrun,QS.box hf (by simp) ?_⟩
      simp only[Ty.wrap,Value.cells]
      exact uA _ _ _ _ hr
    · cases h
  · rename_i u offs el b l he1 he2
    cases he1;cases he2
    split at h
    · cases h
      obtain⟨cs,rfl,hcs⟩:=hx
      refine⟨_,_,_,hrun,QS.box hf (by simp) ?_⟩
      simp only[Value.cells]
      exact hcs
    · cases h
  all_goals first
    | (cases h;done)
    | (rename_i he1 he2
       cases he1
       injection he2 with he2
       subst he2
       split at h
       · rename_i hfit
         cases h
         exact⟨_,_,_,hrun,QS.box hf (by simp) (simple _ hfit rfl (fun l e=>by subst e;simp[CF]at hfit))⟩
       · cases h)
/-! ### build -/
theorem Yh (off:Nat):∀(vs:List Value) (k:Nat) (cells:Array Value),off+k+vs.length≤cells.size →
  ((vs.zipIdx k).foldl (fun(cs:Array Value) (p:Value×Nat)=>cs.setIfInBounds (off+p.2) p.1) cells).toList=Ay cells.toList (off+k) vs
 | [],k,cells,_=>by simp[Ay]
 | v :: vs,k,cells,h=>by
  simp only[List.length_cons]at h
  simp only[List.zipIdx_cons,List.foldl_cons]
  rw[Yh off vs (k+1) _ (by simp;omega)]
  simp only[Ay,Array.toList_setIfInBounds,List.length_cons]
  apply List.ext_getElem?
  intro j
  have hl:cells.toList.length=cells.size:=by simp
  simp only[List.append_assoc,List.getElem?_append,List.length_take,List.length_set,hl,List.getElem?_take,List.getElem?_drop,List.getElem?_set,List.length_cons]
  have e1:min (off+(k+1)) cells.size=off+k+1:=by omega
  have e2:min (off+k) cells.size=off+k:=by omega
  rw[e1,e2]
  by_cases c1:j<off+k
  ·simp[c1,show j<off+k+1 by omega,show j<off+(k+1) by omega,show ¬off+k=j by omega]
  ·by_cases c2:j=off+k
   ·subst c2
    simp[show off+k<cells.size by omega]
   ·have c3:¬j<off+k+1:=by omega
    have e4:j-(off+k)=(j-(off+k+1))+1:=by omega
    simp only[c1,c3,if_false]
    rw[e4]
    simp only[List.getElem?_cons_succ]
    by_cases c5:j-(off+k+1)<vs.length
    ·simp[c5]
    ·have e5:off+(k+1)+vs.length=off+k+(vs.length+1):=by omega
     have e6:∀q,¬(off+k=off+(k+1)+vs.length+q):=by omega
     simp[c5,e5,show ¬off+k=off+k+(vs.length+1)+(j-(off+k+1)-vs.length) by omega]
theorem SH {place:Nat→Option (Nat×Nat)} {cells:Array Value} {i off:Nat} {v:Value} {rest:List (Nat×Value)} (hp:place i=some (off,v.cells.size)) (hl:off+v.cells.size≤cells.size) :
  Instr.fill place cells ((i,v) :: rest)=Instr.fill place (Ay cells.toList off v.cells.toList).toArray rest:=by
 have h1:¬(off+v.cells.size > cells.size):=by omega
 simp only[Instr.fill,hp]
 rw[if_neg (by simp;omega)]
 congr 1
 have:=Yh off v.cells.toList 0 cells (by simpa using hl)
 apply Array.ext'
 rw[show v.cells.zipIdx.foldl (fun cs x=>cs.setIfInBounds (off+x.2) x.1) cells=(v.cells.toList.zipIdx 0).foldl (fun cs x=>cs.setIfInBounds (off+x.2) x.1) cells from by
  rw[←Array.foldl_toList];simp]
 simpa using this
def Hj (V:Vw) (σ:St) (ev:Operand→Value):Prop:=∀x v,Av σ x=some v→B5 V v (ev x)
theorem pL {V:Vw} (hobj:∀n o,lk n σ.objs=some o→A4 V o (V.ρ n)) {z x:Option AV} {y:AV} {v:Value} (hx:∀a,x=some a→B5 V a v) (h:FM σ z x=some y):B5 V y v:=by
 unfold FM at h
 split at h
 ·rename_i t _ l
  simp only[Option.map_eq_some_iff]at h
  obtain⟨d,hd,rfl⟩:=h
  exact MV (V:=V) (O':=V.O) (fun _ h=>h) (fun h=>by cases h) hobj hd (hx _ rfl)
 ·exact hx _ h
theorem Mr {V:Vw} (hobj:∀n o,lk n σ.objs=some o→A4 V o (V.ρ n)) {ev:Operand→Value} (hev:Hj V σ ev) {place:Nat→Option (Nat×Nat)} {offs:List (Nat×Nat)} (hpl:∀i p,offs[i]?=some p→place i=some p) :
  ∀ {parts:List (Nat×Operand)} {fs fs':List AV} {cells:Array Value},DW σ offs fs parts=some fs'→DQ V fs cells.toList →
   ∃cells':Array Value,Instr.fill place cells (parts.map fun p=>(p.1,ev p.2))=some cells'∧DQ V fs' cells'.toList
 | [],fs,fs',cells,h,hc=>by
  simp only[DW]at h;cases h
  exact⟨cells,rfl,hc⟩
 | (i,x) :: r,fs,fs',cells,h,hc=>by
  simp only[DW]at h
  cases hx:FM σ fs[i]? (Av σ x) with
  | none=>rw[hx]at h;cases h
  | some av =>
   rw[hx]at h
   simp only at h
   split at h
   ·rename_i AA
    obtain⟨h0,h1,h2⟩:=AA
    have hv:=pL hobj (fun a ha=>hev x a ha) hx
    obtain⟨h3,h4⟩:=z8 hv h0
    simp only[Option.map_eq_some_iff]at h1
    obtain⟨old,hold,hcells⟩:=h1
    obtain⟨h5,_⟩:=hc.get hold
    have hset:=hc.set hold h3 hcells.symm
    have hplace:=hpl i _ h2
    rw[←h4]at hplace
    have hlen:Bx fs i+(ev x).cells.size≤cells.size:=by
     rw[h4,←hcells];simpa using h5
    obtain⟨cells',h6,h7⟩:=Mr hobj hev hpl h (cells:=(Ay cells.toList (Bx fs i) (ev x).cells.toList).toArray) (by simpa using hset)
    refine⟨cells',?_,h7⟩
    rw[List.map_cons,SH hplace hlen]
    exact h6
   ·cases h
theorem Yi {α β:Type} (f:α→Sem β) (w:World):∀ {l:List α} {ys:List β},(l.map fun x=>(f x).run P w)=ys.map (fun y=>Result.ok y w)→(l.mapM f).run P w=.ok ys w
 | [],ys,h=>by
  cases ys with
  | nil=>simp
  | cons y ys=>simp at h
 | x :: l,ys,h=>by
  cases ys with
  | nil=>simp at h
  | cons y ys =>
   simp only[List.map_cons,List.cons.injEq]at h
   obtain⟨h1,h2⟩:=h
   have ih:=Yi f w h2
   simp[List.mapM_cons,h1,ih]
theorem z9 (hT:ED P tb id ti) (hobj:∀n o,lk n σ.objs=some o→A4 (vw w O0 σ ρ) o (ρ n)) {ev:Operand→Value} (hev:Hj (vw w O0 σ ρ) σ ev) {parts:List (Nat×Operand)} (h:IE σ parts (some ti)=some (vc,v,obs)) :
  obs=[]∧∃u,(Instr.build id (parts.map fun p=>(p.1,ev p.2)).toArray).run P w=.ok u w∧B5 (vw w O0 σ ρ) v u:=by
 obtain⟨z,hz,hzc⟩:=Np hT w
 unfold IE at h
 split at h
 ·rename_i u offs el b he
  cases he
  cases hp:DW σ offs (pI u) parts with
  | none=>rw[hp]at h;simp[GH]at h
  | some fs' =>
   rw[hp]at h
   simp only[Option.map_some,GH]at h
   cases h
   have h2:=hT.2
   have hzl:DQ (vw w O0 σ ρ) (pI u) z.cells.toList:=by rw[hzc];exact t9 _ u
   simp only at h2
   rcases h2 with ⟨fs,_,hu,ho⟩|⟨n,e,i,_,hu,hi,ho⟩
   ·have hpl:∀(i:Nat) (p:Nat×Nat),offs[i]?=some p→offs.toArray[i]?=some p:=fun i p hh=>by simpa using hh
    obtain⟨cells',h3,h4⟩:=Mr hobj hev (place:=fun i=>offs.toArray[i]?) hpl hp hzl
    have hmap:(fs.mapM (fun f=>do pure (f.offset,←sizeOf f.type)):Sem (Array (Nat×Nat))).run P w=.ok offs.toArray w:=by
     rw[Array.mapM_eq_mapM_toList]
     simp only[Sem.run_map]
     rw[Yi (ys:=offs) _ w ?_]
     ·simp
     ·rw [show (offs.map fun y => Result.ok y w) = (offs.map some).map (fun o => match o with | some y => Result.ok y w | none => .halt (.stuck "no such type") w) by simp [List.map_map, Function.comp_def], ho, List.map_map]
      apply List.map_congr_left
      intro f _
      simp only[Function.comp,sizeOf,typeInfo]
      cases hi:P.info? f.type<;>simp[hi]
    refine⟨rfl,.agg cells',?_,cells'.toList,by simp,h4⟩
    simp only[Instr.build,Sem.run_bind,hz,Result.andThen_ok,run_underlying hu,hmap,h3,Sem.run_pure]
   ·have hpl:∀(k:Nat) (p:Nat×Nat),offs[k]?=some p→(fun k=>some (k*i.size,i.size)) k=some p:=fun k p hh=>by
     rw[ho]at hh
     simp only[List.getElem?_map,Option.map_eq_some_iff]at hh
     obtain⟨k',hk',rfl⟩:=hh
     obtain⟨h1,h2⟩:=List.getElem?_eq_some_iff.1 hk'
     simp only[List.getElem_range]at h2
     subst h2;rfl
    obtain⟨cells',h3,h4⟩:=Mr hobj hev hpl hp hzl
    refine⟨rfl,.agg cells',?_,cells'.toList,by simp,h4⟩
    simp[Instr.build,hz,run_underlying hu,sizeOf,Kb w hi,h3]
 ·cases h
end
end
/- Rows made by a literal, by make, by append onto nil. -/
section
open Go Go.RowKit
section
variable {P:Program} {tb:Tb} {id:TypeId} {ti:TI} {w:World} {O0:Nat→Prop} {σ:St} {ρ:Nat→Value} {vc:Prop} {v:AV} {obs:List (Nat×Obj)}
theorem Uz {t:Ty} {w:World} {O:Nat→Prop} {v:Value} {d:t.den} (h:Bk w O t v d):v.cells.size=t.size∧Bj w O t v.cells.toList d:=by
 obtain⟨cs,hr,rfl⟩:=h
 rw[SG hr]
 exact⟨by simpa using hr.length,hr⟩
theorem Gw (w:World) (O:Nat→Prop) (e:Ty) (cells:List Value):DR w O e cells []:=fun i x h=>by simp at h
theorem Yj {V:Vw} (hobj:∀n o,lk n σ.objs=some o→A4 V o (V.ρ n)) {ev:Operand→Value} (hev:Hj V σ ev) {e:Ty} {N:Nat} :
  ∀ {parts:List (Nat×Operand)} {k:Nat} {xs pre:List e.den} {cells:Array Value},Ee σ e k parts=some xs→cells.size=N*e.size→k+xs.length≤N→pre.length=k →
   DR V.w V.O e cells.toList pre →
   ∃cells':Array Value,Instr.fill (fun i=>some (i*e.size,e.size)) cells (parts.map fun p=>(p.1,ev p.2))=some cells'∧cells'.size=cells.size∧DR V.w V.O e cells'.toList (pre++xs)
 | [],k,xs,pre,cells,h,hs,hk,hp,he=>by
  simp only[Ee]at h;cases h
  exact⟨cells,rfl,rfl,by simpa using he⟩
 | (i,x) :: r,k,xs,pre,cells,h,hs,hk,hp,he=>by
  simp only[Ee]at h
  split at h
  ·rename_i hik
   subst hik
   cases hx:Av σ x with
   | none=>rw[hx]at h;cases h
   | some av =>
    rw[hx]at h
    simp only at h
    split at h
    ·rename_i y ys hy hys
     cases h
     have hv:=MV (O':=V.O) (fun _ h=>h) (fun h=>by cases h) hobj hy (hev x av hx)
     obtain⟨h1,h2⟩:=Uz hv
     simp only[List.length_cons]at hk
     have hlen:i*e.size+(ev x).cells.size≤cells.size:=by
      rw[h1,hs,←Nat.succ_mul]
      exact Nat.mul_le_mul_right _ (by omega)
     have hsp:(Ay cells.toList (i*e.size) (ev x).cells.toList).length=cells.size:=by
      rw[Eq]
      ·simp
      ·simpa using hlen
     have hnew:DR V.w V.O e (Ay cells.toList (i*e.size) (ev x).cells.toList) (pre++[y]):=by
      intro j z hz
      rw[List.getElem?_append]at hz
      split at hz
      ·rename_i hj
       obtain⟨es,h3,h4,h5⟩:=he j z hz
       refine⟨es,h3,fun q u hq=>?_,h5⟩
       have hq':q<e.size:=by rw[←h3];exact(List.getElem?_eq_some_iff.1 hq).1
       have hlt:j*e.size+q<i*e.size:=by
        have:(j+1)*e.size≤i*e.size:=Nat.mul_le_mul_right _ (by omega)
        rw[Nat.succ_mul]at this
        omega
       have hb:i*e.size≤cells.toList.length:=by
        have:=hlen
        simp
        omega
       simp only[Ay,List.append_assoc]
       rw[List.getElem?_append_left (by rw[List.length_take];omega),List.getElem?_take,if_pos hlt]
       exact h4 q u hq
      ·rename_i hj
       have hji:j=i:=by
        have:=(List.getElem?_eq_some_iff.1 hz).1
        simp at this
        omega
       subst hji
       have hz':z=y:=by
        rw[hp,Nat.sub_self]at hz
        simpa using hz.symm
       subst hz'
       refine⟨(ev x).cells.toList,by simpa using h1,fun q u hq=>?_,h2⟩
       have hq':q<(ev x).cells.toList.length:=(List.getElem?_eq_some_iff.1 hq).1
       have hb:j*e.size≤cells.toList.length:=by
        have:=hlen
        simp
        omega
       have hl:(cells.toList.take (j*e.size)).length=j*e.size:=by rw[List.length_take];omega
       simp only[Ay,List.append_assoc]
       rw[List.getElem?_append_right (by rw[hl];omega),hl,List.getElem?_append_left (by omega)]
       rw[show j*e.size+q-j*e.size=q by omega]
       exact hq
     obtain⟨cells',h3,h4,h5⟩:=Yj (N:=N) hobj hev hys (pre:=pre++[y]) (cells:=(Ay cells.toList (i*e.size) (ev x).cells.toList).toArray) (by simp[hsp,hs]) (by omega) (by simp[hp]) (by simpa using hnew)
     refine⟨cells',?_,by rw[h4];simp[hsp],by simpa using h5⟩
     rw[List.map_cons,SH (by rw[h1]) hlen]
     exact h3
    ·cases h
  ·cases h
theorem Ww {w:World} {et:TypeId} {sz n:Nat} {cells:Array Value} (hs:cells.size=n*sz) (hn:n≤AP) :
  (w.alloc (.cells cells et)).ownsRow w.heap.size et sz (.slice (some ⟨w.heap.size,0,none⟩) n n) n cells.toList :=
 ⟨by simpa using hs,.inr ⟨w.heap.size,n,cells,rfl,Nat.le_refl _,heap_alloc_new w _,Nat.le_refl _,by have h1:AP=140737488355328:=rfl;have h2:maxLen=9223372036854775807:=rfl;omega,hs,List.take_of_length_le (by simp[hs])⟩⟩
theorem Nq (hT:ED P tb id ti) (hTb:Dp P tb) (hobj:∀n o,lk n σ.objs=some o→A4 (vw w O0 σ ρ) o (ρ n)) {ev:Operand→Value} (hev:Hj (vw w O0 σ ρ) σ ev) {d n:Nat} {parts:List (Nat×Operand)}
  (h:BS false σ d n parts (some ti)=some (vc,v,obs)) (hvc:vc) (hf:BT obs σ=true) :
  ∃u ρ' w',(Instr.buildSlice id n (parts.map fun p=>(p.1,ev p.2)).toArray).run P w=.ok u w'∧QS w O0 σ ρ v obs u ρ' w':=by
 unfold BS at h
 split at h
 ·rename_i e offs el b he
  cases he
  obtain⟨hu,hs,te,hte,rfl⟩:=Cm hT hTb
  obtain⟨z,hz,hzc⟩:=Np (hTb _ _ hte) w
  cases hp:Ee σ te.ty 0 parts with
  | none=>rw[hp]at h;simp[BV]at h
  | some xs =>
   rw[hp]at h
   simp only[BV,Bool.false_eq_true,if_false]at h
   cases h
   obtain⟨hn,hsz⟩:=hvc
   subst hn
   have hpos:=te.ty.size_pos
   obtain⟨cells',h1,h2,h3⟩:=Yj (V:=vw w O0 σ ρ) hobj hev hp (N:=xs.length) (pre:=[]) (cells:=(Array.range (xs.length*te.ty.size)).map (fun i=>(if xs.length*te.ty.size=0 then (#[]:Array Value) else z.cells)[i % (if xs.length*te.ty.size=0 then (#[]:Array Value) else z.cells).size]!)) (by simp) (by omega) rfl (Gw _ _ _ _)
   have hxl:xs.length≤AP:=by
    have:xs.length*1≤xs.length*te.ty.size:=Nat.mul_le_mul_left _ hpos
    simp only[AP]
    omega
   have hsize:cells'.size=xs.length*te.ty.size:=by rw[h2];simp
   refine⟨_,_,_,?_,QS.arr hf (E8 w _) (Ww (et:=el) hsize hxl) hxl (by rw[List.nil_append]at h3;exact h3) rfl⟩
   have hng:¬(xs.length*te.ty.size > 16777216):=by omega
   by_cases h0:xs.length*te.ty.size=0
   ·simp only[h0,if_true]at h1
    simp[Instr.buildSlice,run_underlying hu,hs,hng,h0,newRow]
    simp at h1
    simp[h1]
   ·simp only[h0,if_false]at h1
    simp only[Instr.buildSlice,Sem.run_bind,run_underlying hu,Result.andThen_ok,hs,if_neg hng,if_neg h0,hz,Sem.run_pure,h1,newRow]
    rfl
 ·cases h
theorem A3d (hT:ED P tb id ti) (hTb:Dp P tb) (hobj:∀n o,lk n σ.objs=some o→A4 (vw w O0 σ ρ) o (ρ n)) {ev:Operand→Value} (hev:Hj (vw w O0 σ ρ) σ ev) {d n:Nat} {iet:TypeId} {parts:List (Nat×Operand)}
  (h:IH σ d iet n parts (some ti)=some (vc,v,obs)) (hvc:vc) (hf:BT obs σ=true) :
  ∃u ρ' w',(Instr.buildSlice id n (parts.map fun p=>(p.1,ev p.2)).toArray).run P w=.ok u w'∧QS w O0 σ ρ v obs u ρ' w':=by
 unfold IH at h
 split at h
 ·rename_i x t offs el b he
  cases he
  obtain⟨hu,hs,te,hte,rfl⟩:=Cm hT hTb
  obtain⟨z,hz,hzc⟩:=Np (hTb _ _ hte) w
  cases hx:Av σ x with
  | none=>rw[hx]at h;unfold IG at h;split at h<;>first|(cases h;done)|(rename_i h2;cases h2)
  | some av =>
   rw[hx]at h
   unfold IG at h
   split at h
   ·rename_i k e x1 y1 hty hav
    cases hav
    unfold KR at h
    split at h
    ·rename_i a0 ha0
     cases h
     obtain⟨rfl,hsz⟩:=hvc
     obtain⟨cs,hcs,hcc⟩:=hev x _ hx
     obtain⟨c1,c2,rfl,h1,h2⟩:=hcc
     obtain⟨c3,c4,rfl,h3,h4⟩:=h2
     have h4:c4=[]:=h4
     subst h4
     obtain⟨v3,rfl,_,h3⟩:=h3
     have h3:v3=.slice none 0 0:=h3
     subst h3
     have hr:=f7 (O':=own O0 σ ρ) (fun _ h=>h) (fun h=>by cases h) hobj ha0 h1
     have hr:Bj w (own O0 σ ρ) k c1 a0:=hr
     have hl:=hr.length
     have hsize:te.ty.size=k.size+1:=by rw[hty];rfl
     rw[hsize]at hs
     have hcells:(ev x).cells.toList=c1++[Value.slice none 0 0]:=by rw[hcs];simp[Value.cells]
     have hrun:Instr.fill (fun i=>some (i*(k.size+1),k.size+1)) ((Array.range (1*(k.size+1))).map (fun i=>z.cells[i % z.cells.size]!)) [(0,ev x)]=some (c1++[Value.slice none 0 0]).toArray:=by
      have hcz:(ev x).cells.size=k.size+1:=by rw[←Array.length_toList,hcells];simp[hl]
      rw[SH (by rw[hcz]) (by rw[hcz];simp)]
      rw[hcells]
      simp only[Instr.fill,Nat.zero_mul,Ay,List.take_zero,List.nil_append,Nat.zero_add]
      rw[List.drop_of_length_le (by simp[hl]),List.append_nil]
     generalize hloc:(Value.tuple #[Value.slice (some ⟨w.heap.size,0,none⟩) 1 1,.slice none 0 0])=loc
     have hnew:∀b,bk loc b→w.heap.size≤b:=by
      intro b hb
      rw[←hloc]at hb
      rcases (A2 (ins:=[.slice none 0 0])).1 hb with hb|⟨i,u,hi,hb⟩
      ·simp[blk]at hb;omega
      ·have:u=.slice none 0 0:=by
        rcases i with _|i
        ·simpa using hi.symm
        ·simp at hi
       subst this
       simp[blk]at hb
     have how:=Ww (w:=w) (et:=el) (sz:=k.size+1) (n:=1) (cells:=(c1++[Value.slice none 0 0]).toArray) (by simp[hl]) (by simp[AP])
     have how:(w.alloc (.cells (c1++[Value.slice none 0 0]).toArray el)).ownsRow 0 el (k.size+1) (.slice (some ⟨w.heap.size,0,none⟩) 1 1) 1 (c1++[Value.slice none 0 0]):=⟨how.1,how.2.imp (fun h=>h) fun⟨g,cap,cur,e,_,r⟩=>⟨g,cap,cur,e,Nat.zero_le _,r⟩⟩
     have hk:=HA (O0:=O0) (ρ:=ρ) (ρ':=EV ρ d loc) hf (E8 w (.cells (c1++[Value.slice none 0 0]).toArray el)) (fun m hm=>by
      simp only[lk]at hm
      split at hm
      ·cases hm
      ·rename_i e;simp[EV,e]) (fun m o b hm hb=>by
      simp only[lk]at hm
      split at hm
      ·rename_i e;subst e;rw[Ba]at hb;exact hnew b hb
      ·cases hm)
     refine⟨.slice (some ⟨w.heap.size,0,none⟩) 1 1,EV ρ d loc,w.alloc (.cells (c1++[Value.slice none 0 0]).toArray el),?_,QS.one (E8 w _) hnew ?_ ?_⟩
     ·have hng:¬(1*(k.size+1) > 16777216):=by omega
      have h0:¬(1*(k.size+1)=0):=by omega
      simp only[Instr.buildSlice,Sem.run_bind,run_underlying hu,Result.andThen_ok,hs,if_neg hng,if_neg h0,hz,Sem.run_pure,List.map_cons,List.map_nil,hrun,newRow]
      rfl
     ·refine⟨⟨.nest el iet k e [(a0,[])] none,by simp[Dz,lk]⟩,?_⟩
      show DC (plc (EV ρ d loc d)) _ 0 1 _
      rw[Ba,←hloc]
      exact F0 how
     ·refine⟨_,[.slice none 0 0],c1++[Value.slice none 0 0],.inl hloc.symm,by simp[AP],rfl,how,fun i x2 u hi hu=>?_,fun i j b u v hi hj hu hv=>?_,fun i b u hi hb _=>?_⟩
      ·rcases i with _|i
       ·simp only[List.getElem?_cons_zero,Option.some.injEq]at hi hu
        subst hi hu
        refine⟨c1,.slice none 0 0,fun j z hj=>by simpa using hj,hr.mono hk.O hk.heap,.inr ⟨rfl,rfl,by simp[AP],[],World.ownsRow_nil _ 0 iet _,Gw _ _ _ _⟩⟩
       ·simp at hi
      ·rcases i with _|i
       ·simp only[List.getElem?_cons_zero,Option.some.injEq]at hi
        subst hi
        simp[blk]at hu
       ·simp at hi
      ·rcases i with _|i
       ·simp only[List.getElem?_cons_zero,Option.some.injEq]at hi
        subst hi
        simp[blk]at hb
       ·simp at hi
    ·cases h
   ·cases h
 ·cases h
theorem Ug (z:List Value) (hz:0<z.length) (n:Nat) {i j:Nat} (hj:j<z.length) (hi:i*z.length+j<n) {u:Value} (hu:z[j]?=some u) :
  (madeCells z.toArray n)[i*z.length+j]?=some u:=by
 simp only[madeCells,Array.getElem?_map,List.size_toArray]
 have hr:(Array.range n)[i*z.length+j]?=some (i*z.length+j):=by
  rw[Array.getElem?_range];simp[hi]
 rw[hr]
 have hm:(i*z.length+j) % z.length=j:=by
  rw[Nat.mul_comm,Nat.mul_add_mod]
  exact Nat.mod_eq_of_lt hj
 simp only[Option.map_some,hm]
 have hlt:=(List.getElem?_eq_some_iff.1 hu)
 obtain⟨h1,h2⟩:=hlt
 simp[h1,h2]
theorem A00 (hT:ED P tb id ti) (hTb:Dp P tb) {e:Ty} {offs:List (Nat×Nat)} {el:TypeId} {b:Nat} (hti:ti=⟨.slice e,offs,el,b⟩) {te:TI} (hte:lk el tb.ty=some te) {n:Int} {d:Nat}
  (h0:0≤n) (hn:n.toNat*te.bytes≤AP) (hf:BT [(d,.arr el e (List.replicate n.toNat e.dflt))] σ=true) :
  ∃u ρ' w',(Instr.makeSlice id (.int .i64 n) (.int .i64 n)).run P w=.ok u w'∧QS w O0 σ ρ (.sr d e 0 n.toNat) [(d,.arr el e (List.replicate n.toNat e.dflt))] u ρ' w':=by
 subst hti
 obtain⟨hu,hs,te',hte',rfl⟩:=Cm hT hTb
 rw[hte]at hte'
 cases hte'
 obtain⟨⟨⟨_,hbpos,_⟩,i,z,hi,hsz,hby,hz,hzc⟩,_⟩:=hTb _ _ hte
 have hpos:=te.ty.size_pos
 have hnm:n.toNat≤AP:=by
  have:n.toNat*1≤n.toNat*te.bytes:=Nat.mul_le_mul_left _ hbpos
  omega
 have hb':(i.bytes:Int)*n≤281474976710656:=by
  have h1:((i.bytes*n.toNat:Nat):Int)≤140737488355328:=by
   rw[hby,Nat.mul_comm]
   simp only[AP]at hn
   omega
  rw[Int.natCast_mul]at h1
  have h2:((n.toNat:Nat):Int)=n:=by omega
  rw[h2]at h1
  omega
 have hr:=run_make (P:=P) w id el i z hu hi hz .i64 .i64 n n h0 (Int.le_refl _) hb' (by simp only[AP]at hnm;omega)
 have hzl:te.ty.zero.length=te.ty.size:=(Bj.zero w (fun _=>False) te.ty).length
 refine⟨_,_,_,hr,QS.arr hf (E8 w _) (Ww (et:=el) (sz:=te.ty.size) (n:=n.toNat) (cells:=madeCells z.cells (n.toNat*i.size)) (by rw[size_madeCells,hsz]) hnm |> fun h=>by simpa using h) (by simpa using hnm) ?_ (by simp)⟩
 intro j x hx
 have hjl:=(List.getElem?_eq_some_iff.1 hx).1
 simp only[List.length_replicate]at hjl
 have hxd:x=te.ty.dflt:=by
  rw[List.getElem?_replicate]at hx
  simp[hjl]at hx
  exact hx.symm
 subst hxd
 refine⟨te.ty.zero,hzl,fun q u hq=>?_,Bj.zero _ _ _⟩
 have hq':=(List.getElem?_eq_some_iff.1 hq).1
 have hlt:j*te.ty.zero.length+q<n.toNat*i.size:=by
  rw[hsz,hzl]
  have:(j+1)*te.ty.size≤n.toNat*te.ty.size:=Nat.mul_le_mul_right _ (by omega)
  rw[Nat.succ_mul]at this
  omega
 have:=Ug te.ty.zero (by omega) (n.toNat*i.size) hq' hlt hq
 rw[hzl]at this
 rw[hzc]
 simpa using this
theorem A3e (hT:ED P tb id ti) (hTb:Dp P tb) {d:Nat} {x y:AV} {xv yv:Value} (h:Hs tb d (some ti) (some x) (some y)=some (vc,v,obs)) (hvc:vc)
  (hx:B5 (vw w O0 σ ρ) x xv) (hy:B5 (vw w O0 σ ρ) y yv) (hf:BT obs σ=true) :
  ∃u ρ' w',(Instr.makeSlice id xv yv).run P w=.ok u w'∧QS w O0 σ ρ v obs u ρ' w':=by
 unfold Hs at h
 split at h
 ·rename_i e offs el b n m he1 he2 he3
  cases he1;cases he2;cases he3
  cases hte:lk el tb.ty with
  | none=>rw[hte]at h;simp[KS]at h
  | some te =>
   rw[hte]at h
   simp only[KS]at h
   cases h
   obtain⟨rfl,_⟩:=Bu hx
   obtain⟨rfl,_⟩:=Bu hy
   obtain⟨h1,h2,h3⟩:=hvc
   have h1:n=m:=h1
   subst h1
   exact A00 hT hTb rfl hte h2 h3 hf
 ·cases h
end
end
/- append: what is appended, and append onto nil. -/
section
open Go Go.RowKit
theorem U0 {w:World} {O:Nat→Prop} {e:Ty}:∀ {l:List e.den} {ad:Addr},
  (∀(i:Nat) (x:e.den),l[i]?=some x→∃es:List Value,es.length=e.size∧(∀(j:Nat) (v:Value),es[j]?=some v→w.cell? (ad.add (i*e.size+j))=some v)∧Bj w O e es x) →
  ∃news:List Value,news.length=l.length*e.size∧DR w O e news l∧(∀u∈news,u.oneCell'=true)∧(∀(j:Nat) (u:Value),news[j]?=some u→w.cell? (ad.add j)=some u)
 | [],ad,h=>⟨[],by simp,Gw _ _ _ _,by simp,by simp⟩
 | x :: l,ad,h=>by
  obtain⟨es,h1,h2,h3⟩:=h 0 x rfl
  obtain⟨news,h4,h5,h6,h7⟩:=U0 (w:=w) (O:=O) (e:=e) (l:=l) (ad:=ad.add e.size) (fun i y hi=>by
   obtain⟨es',g1,g2,g3⟩:=h (i+1) y (by simpa using hi)
   refine⟨es',g1,fun j v hj=>?_,g3⟩
   rw[C0,show e.size+(i*e.size+j)=(i+1)*e.size+j by rw[Nat.succ_mul];omega]
   exact g2 j v hj)
  refine⟨es++news,by simp[h1,h4,Nat.succ_mul];omega,fun i y hi=>?_,fun u hu=>?_,fun j u hj=>?_⟩
  ·cases i with
   | zero =>
    simp at hi;subst hi
    refine⟨es,h1,fun j u hj=>?_,h3⟩
    rw[Nat.zero_mul,Nat.zero_add,List.getElem?_append_left (List.getElem?_eq_some_iff.1 hj).1]
    exact hj
   | succ i =>
    obtain⟨es',g1,g2,g3⟩:=h5 i y (by simpa using hi)
    refine⟨es',g1,fun j u hj=>?_,g3⟩
    rw[List.getElem?_append_right (by rw[h1,Nat.succ_mul];omega),h1,show (i+1)*e.size+j-e.size=i*e.size+j by rw[Nat.succ_mul];omega]
    exact g2 j u hj
  ·rcases List.mem_append.1 hu with hu|hu
   ·exact h3.one u hu
   ·exact h6 u hu
  ·rw[List.getElem?_append]at hj
   split at hj
   ·have:=h2 j u hj
    rwa [Nat.zero_mul,Nat.zero_add]at this
   ·rename_i hlt
    have:=h7 _ u hj
    rw[C0]at this
    rwa [show e.size+(j-es.length)=j by omega]at this
section
variable {P:Program} {tb:Tb} {id:TypeId} {ti:TI} {w:World} {O0:Nat→Prop} {σ:St} {ρ:Nat→Value} {vc:Prop} {v:AV} {obs:List (Nat×Obj)}
structure Src (w:World) (O:Nat→Prop) (e:Ty) (xv:Value) (ys:List e.den) (news:List Value):Prop where
 form:∃(a:Option Addr) (c:Nat),xv=.slice a ys.length c∧(ys=[]∨∃ad,a=some ad∧∀(j:Nat) (u:Value),news[j]?=some u→w.cell? (ad.add j)=some u)
 len:news.length=ys.length*e.size
 elems:DR w O e news ys
 one:∀u∈news,u.oneCell'=true
 max:ys.length≤AP
theorem gB (w:World) (O:Nat→Prop) (e:Ty) (a:Option Addr) (c:Nat):Src w O e (.slice a 0 c) [] [] :=
 ⟨⟨a,c,rfl,.inl rfl⟩,by simp,Gw _ _ _ _,by simp,by simp[AP]⟩
theorem VA {V:Vw} {et:TypeId} {e:Ty} {xs:List e.den} {loc:Value} {cells:List Value} (how:V.w.ownsRow 0 et e.size loc xs.length cells) (hel:DR V.w V.O e cells xs):∀u∈cells,u.oneCell'=true:=by
 intro u hu
 obtain⟨j,hj,hju⟩:=List.mem_iff_getElem.1 hu
 have hl:=how.1
 have hpos:=e.size_pos
 have hi:j / e.size<xs.length:=by
  rw[Nat.div_lt_iff_lt_mul hpos];omega
 obtain⟨es,h1,h2,h3⟩:=hel (j / e.size) (xs[j / e.size]) (List.getElem?_eq_getElem hi)
 have hm:j % e.size<es.length:=by rw[h1];exact Nat.mod_lt _ hpos
 have:=h2 (j % e.size) (es[j % e.size]) (List.getElem?_eq_getElem hm)
 rw[show j / e.size*e.size+j % e.size=j by rw[Nat.mul_comm];exact Nat.div_add_mod j e.size]at this
 rw[List.getElem?_eq_getElem hj]at this
 injection this with this
 rw[←hju,this]
 exact h3.one _ (List.getElem_mem hm)
def noN (σ:St):AV→Bool
 | .sr n _ _ _=>CX (lk n σ.objs)
 | _=>false
theorem gC {w:World} {O:Nat→Prop} {et:TypeId} {e2:Ty} {xs:List e2.den} {loc xv:Value} {cells:List Value} {lo hi:Nat} (hm:xs.length≤AP) (how:w.ownsRow 0 et e2.size loc xs.length cells) (hel:DR w O e2 cells xs) (hv:DC loc e2.size lo hi xv) :
  ∃news,Src w O e2 xv (sub xs lo hi) news:=by
 have hone:=VA (V:=⟨w,O,fun _=>False,fun _=>undef⟩) how hel
 obtain⟨a,m,c,hρ,hlo,hhi,a',c',rfl,hc',h0,h1⟩:=hv
 have hmx:m=xs.length:=by
  rcases how.2 with ⟨he,hnn⟩|⟨g,cap,cur,he,_⟩
  ·rw[hρ]at he;injection he;omega
  ·rw[hρ]at he;injection he
 subst hmx
 have hl:=Mo xs (lo:=lo) hhi
 by_cases hlt:lo<hi
 ·rcases how.2 with ⟨he,hnn⟩|⟨g,cap,cur,he,r⟩
  ·omega
  ·have hcell:=World.ownsRow.cells how (g:=g) (by rw[he];rfl)
   have ha:a=some ⟨g,0,none⟩:=by rw[hρ]at he;injection he
   subst ha
   have hcl:=how.1
   have hmul:hi*e2.size≤xs.length*e2.size:=Nat.mul_le_mul_right _ hhi
   have hmul2:lo*e2.size≤hi*e2.size:=Nat.mul_le_mul_right _ (by omega)
   refine⟨(cells.drop (lo*e2.size)).take ((hi-lo)*e2.size),⟨a',c',by rw[hl],.inr ⟨_,h1 hlt,fun j u hj=>?_⟩⟩,?_,?_,?_,?_⟩
   ·rw[List.getElem?_take,List.getElem?_drop]at hj
    split at hj
    ·have:=hcell _ u hj
     rw[C0]
     exact this
    ·cases hj
   ·rw[hl,List.length_take,List.length_drop,Nat.sub_mul]
    omega
   ·intro i x hi'
    obtain⟨hx,hlt'⟩:=Wq xs lo hi i hi'
    obtain⟨es,g1,g2,g3⟩:=hel (lo+i) x hx
    refine⟨es,g1,fun j u hj=>?_,g3⟩
    have hj':=(List.getElem?_eq_some_iff.1 hj).1
    have hlt2:i*e2.size+j<(hi-lo)*e2.size:=by
     have:(i+1)*e2.size≤(hi-lo)*e2.size:=Nat.mul_le_mul_right _ (by omega)
     rw[Nat.succ_mul]at this
     omega
    rw[List.getElem?_take,if_pos hlt2,List.getElem?_drop]
    have:=g2 j u hj
    rwa [Nat.add_mul,Nat.add_assoc]at this
   ·intro u hu
    exact hone u (List.mem_of_mem_drop (List.mem_of_mem_take hu))
   ·rw[hl];omega
 ·have hnil:sub xs lo hi=[]:=List.eq_nil_of_length_eq_zero (by rw[hl];omega)
  refine⟨[],⟨a',c',by rw[hl],.inl hnil⟩,by rw[hl,show hi-lo=0 by omega];simp,?_,by simp,by rw[hl];omega⟩
  rw[hnil];exact Gw _ _ _ _
theorem gD (hobj:∀n o,lk n σ.objs=some o→A4 (vw w O0 σ ρ) o (ρ n)) {e:Ty} {x:AV} {xv:Value} {ys:List e.den} (h:Ml true σ (.slice e) x=some ys) (hnn:noN σ x=false) (hx:B5 (vw w O0 σ ρ) x xv) :
  ∃news,Src w (own O0 σ ρ) e xv ys news:=by
 replace h:Ex true σ (.slice e) x=some ys:=by
  unfold Ml at h
  exact h
 cases x
 case p u d' =>
  have h:BL (.slice e) ⟨u,d'⟩=some ys:=by simpa only[Ex] using h
  have:=A6 h
  injection this with h1 h2
  subst h1
  cases h2
  obtain⟨cs,⟨a,c,rfl,h3,h4,h5⟩,rfl⟩:=hx
  by_cases hn:ys=[]
  ·subst hn;exact⟨[],gB _ _ _ _ _⟩
  ·rcases h5 with h5|⟨ad,rfl,hO,hel⟩
   ·exact absurd h5 hn
   ·obtain⟨news,g1,g2,g3,g4⟩:=U0 hel
    exact⟨news,⟨some ad,c,rfl,.inr ⟨ad,rfl,g4⟩⟩,g1,g2,g3,h4⟩
 case sr n e' lo hi =>
  simp only[Ex]at h
  split at h
  ·rename_i hc
   obtain⟨_,rfl⟩:=hc
   obtain⟨hL,hv⟩:=hx
   cases hn:lk n σ.objs with
   | none=>rw[hn]at h;simp[QP]at h
   | some o =>
    rw[hn]at h
    cases o with
    | box et st fs=>simp[QP]at h
    | mapo k v l=>simp[QP]at h
    | frame tm fs=>simp[QP]at h
    | loop L=>simp[QP]at h
    | dfr=>simp[QP]at h
    | nest et iet k e2 xs hl=>rw[noN,hn]at hnn;cases hnn
    | arr et e2 xs =>
     simp only[QP]at h
     obtain⟨g1,g2⟩:=BW h
     subst g1
     cases g2
     have hv:DC (plc (ρ n)) e2.size lo hi xv:=hv
     rw[RT (hobj n _ hn)]at hv
     obtain⟨hm,cells,how,hel⟩:=hobj n _ hn
     exact gC hm how hel hv
  ·cases h
 case nin n e' i len =>
  simp only[Ex]at h
  split at h
  ·rename_i hc
   obtain⟨_,rfl⟩:=hc
   obtain⟨hL,vs,a,c,hvs,hvi,hve⟩:=hx
   cases hn:lk n σ.objs with
   | none=>rw[hn]at h;simp[O8]at h
   | some o =>
    rw[hn]at h
    unfold O8 at h
    split at h
    ·rename_i et iet k e2 xs ho
     cases ho
     obtain⟨g1,g2⟩:=BW h
     subst g1
     cases g2
     have hg:=Ws (z:=(k.dflt,[])) (hobj n _ hn) hvs hvi
     obtain⟨o,ins,cells,hl,hN⟩:=hobj n _ hn
     obtain rfl:=hl.tup hvs
     have hvi:ins[i]?=some xv:=by simpa using hvi
     obtain⟨c1,v',h1,h2,h3⟩:=hN.row i _ xv hg hvi
     rcases h3 with ⟨h3,_⟩|⟨_,rfl,hm,ic,how,hel⟩
     ·cases h3
     ·have:=gC hm how hel (F0 how)
      rwa [Hm]at this
    ·cases h
  ·cases h
 case raw u =>
  have hv:xv=u:=hx
  subst hv
  cases xv with
  | slice a n c =>
   cases a with
   | some a=>simp[Ex]at h
   | none =>
    cases n with
    | succ n=>simp[Ex]at h
    | zero =>
     cases c with
     | succ c=>simp[Ex]at h
     | zero =>
      simp only[Ex]at h
      cases h
      exact⟨[],gB _ _ _ _ _⟩
  | _=>simp[Ex]at h
 all_goals simp[Ex]at h
theorem Wx (hobj:∀n o,lk n σ.objs=some o→A4 (vw w O0 σ ρ) o (ρ n)) {e:Ty} {x:AV} {xv:Value} {ys:List e.den} (h:RF σ e x=some ys) (hx:B5 (vw w O0 σ ρ) x xv) :
  ∃news,Src w (own O0 σ ρ) e xv ys news:=by
 unfold RF at h
 split at h
 ·split at h
  ·cases h
  ·rename_i hc
   exact gD hobj h (by simpa[noN] using hc) hx
 ·rename_i hne
  refine gD hobj h ?_ hx
  cases x<;>first|rfl|exact absurd rfl (hne _ _ _ _)
theorem QW {el:TypeId} (hu:P.underlying id=some (.slice el)) {sz:Nat} (hs:(sizeOf el).run P w=.ok sz w) {base et ty:Nat} {s:Value} {n:Nat} {xs:List Value} (hown:w.ownsRow base et sz s n xs) (c:Nat) :
  (Builtin.append_ #[id,id] ty #[s,.slice none 0 c]).run P w=.ok s w:=by
 rcases hown.2 with ⟨rfl,rfl⟩|⟨g,cap,cur,rfl,_,_,hnc,_⟩
 ·simp[Builtin.append_,run_underlying hu,hs,Builtin.lenOf,Builtin.firstCells]
 ·simp[Builtin.append_,run_underlying hu,hs,Builtin.lenOf,Builtin.firstCells,hnc,storeCells]
theorem HC (hTb:Dp P tb) {el:TypeId} {e:Ty} (hu:P.underlying id=some (.slice el)) {te:TI} (hte:lk el tb.ty=some te) (hee:te.ty=e) {base ty:Nat} {s xv:Value} {n:Nat} {xs news:List Value}
    (hown:w.ownsRow base el e.size s n xs) {O:Nat→Prop} {ys:List e.den} (hsrc:Src w O e xv ys news) (hvc:(n+ys.length)*te.bytes≤AP) (hbase:base≤w.heap.size) :
    ∃s' w',(Builtin.append_ #[id,id] ty #[s,xv]).run P w=.ok s' w'∧w'.ownsRow base el e.size s' (n+ys.length) (xs++news)∧w.grownBy w' s.ownBlock∧n+ys.length≤AP:=by
  subst hee
  obtain⟨⟨⟨_,hbpos,_⟩,i,z,hi,hsz,hby,hz,hzc⟩,_⟩:=hTb _ _ hte
  have hnm:n+ys.length≤AP:=by
    have:(n+ys.length)*1≤(n+ys.length)*te.bytes:=Nat.mul_le_mul_left _ hbpos
    omega
  obtain⟨⟨a,c,rfl,hac⟩,hlen,hel,hone,hmax⟩:=hsrc
  have hs:(sizeOf el).run P w=.ok te.ty.size w:=HB w (hTb _ _ hte)
  rcases hac with rfl|⟨ad,rfl,hc⟩
  · have hn0:news=[]:=List.eq_nil_of_length_eq_zero (by simpa using hlen)
    subst hn0
    cases a with
    | none =>
      refine⟨s,w,QW hu hs hown c,by simpa using hown,⟨rfl,rfl,rfl,Nat.le_refl _,fun _ _ _=>rfl⟩,hnm⟩
    | some ad =>
      obtain⟨s',w',h1,h2,h3,_⟩:=run_append_own (P:=P) w base id ty el i z te.ty.size te.bytes hu hi hz hsz hby (by rw[hzc];simpa using (Bj.zero w (fun _=>False) te.ty).length) te.ty.size_pos s n xs hown ad 0 c [] (by simp) (by simp) (by simp)
        (by have h1:AP=140737488355328:=rfl;have h2:maxLen=9223372036854775807:=rfl;simp at hnm;omega) (by simpa[AP] using hvc) hbase
      exact⟨s',w',h1,by simpa using h2,h3,hnm⟩
  · obtain ⟨s', w', h1, h2, h3, _⟩ := run_append_own (P := P) w base id ty el i z te.ty.size te.bytes hu hi hz hsz hby (by rw [hzc]; simpa using (Bj.zero w (fun _ => False) te.ty).length) te.ty.size_pos s n xs hown ad ys.length c news hlen hc hone
        (by have h1:AP=140737488355328:=rfl;have h2:maxLen=9223372036854775807:=rfl;omega) (by simpa[AP] using hvc) hbase
    exact⟨s',w',h1,h2,h3,hnm⟩
theorem Yk {w w':World} (h:w.grownBy w' none):Below w.heap.size w w':=⟨h.os,h.tape,h.output,h.size,fun k hk=>h.block k hk (by simp)⟩
theorem uB (hTb:Dp P tb) (hobj:∀n o,lk n σ.objs=some o→A4 (vw w O0 σ ρ) o (ρ n)) {d:Nat} {t u:TypeId} {x y:AV} {xv yv:Value} {ty:TypeId}
  (h:CP tb σ d t u (some x) (some y)=some (vc,v,obs)) (hvc:vc) (hx:B5 (vw w O0 σ ρ) x xv) (hy:B5 (vw w O0 σ ρ) y yv) (hf:BT obs σ=true) :
  ∃z ρ' w',(Builtin.append_ #[t,u] ty #[xv,yv]).run P w=.ok z w'∧QS w O0 σ ρ v obs z ρ' w':=by
 unfold CP at h
 split at h
 ·rename_i he1 he2
  cases he1;cases he2
  have hx:xv=_:=hx
  subst hx
  split at h
  ·rename_i htu
   subst htu
   cases hti:lk t tb.ty with
   | none=>rw[hti]at h;simp[EF]at h
   | some ti =>
    rw[hti]at h
    unfold EF at h
    split at h
    ·rename_i e offs el b he
     cases he
     obtain⟨hu,hs,te,hte,hee⟩:=Cm (hTb _ _ hti) hTb
     rw[hte]at h
     cases hys:RF σ e y with
     | none=>rw[hys]at h;simp[El]at h
     | some ys =>
      rw[hys]at h
      simp only[El]at h
      cases h
      obtain⟨news,hsrc⟩:=Wx hobj hys hy
      obtain⟨s',w',h1,h2,h3,h4⟩:=HC (ty:=ty) hTb hu hte hee (World.ownsRow_nil w w.heap.size el e.size) hsrc (by simpa using hvc) (Nat.le_refl _)
      have h2:w'.ownsRow w.heap.size el e.size s' ys.length news:=by simpa using h2
      exact⟨s',_,w',h1,QS.arr hf (Yk h3) h2 hsrc.max hsrc.elems rfl⟩
    ·cases h
  ·cases h
 ·cases h
end
end
/- Maps with simple keys; functions as values. -/
section
open Go Go.RowKit
def SI:Ty→Option TypeDesc
 | .int k=>some (.int k)
 | .bool=>some .bool
 | .str=>some .string
 | .prod _ _=>none
 | .agg _=>none
 | .slice _=>none
 | .ref _=>none
section
variable {w:World} {O:Nat→Prop}
theorem Lj {kt:Ty} {d:TypeDesc} (hd:SI kt=some d) {k:kt.den} {kv:Value} (h:Bk w O kt kv k):MapKept.IsKey d kv:=by
 cases kt<;>simp only[SI]at hd<;>try(cases hd;done)
 all_goals cases hd
 ·obtain⟨rfl,_⟩:=Bu h;trivial
 ·have:=Dw h;subst this;trivial
 ·obtain⟨rfl,_⟩:=GI h;trivial
theorem Yl {kt:Ty} {d:TypeDesc} (hd:SI kt=some d) {k k':kt.den} {kv kv':Value} (h:Bk w O kt kv k) (h':Bk w O kt kv' k'):Instr.sameNow d kv kv'=some (Ub kt k k'):=by
 cases kt<;>simp only[SI]at hd<;>try(cases hd;done)
 all_goals cases hd
 ·obtain⟨rfl,_⟩:=Bu h;obtain⟨rfl,_⟩:=Bu h';simp[Instr.sameNow,Ub]
 ·have:=Dw h;subst this;have:=Dw h';subst this;simp[Instr.sameNow,Ub]
 ·obtain⟨rfl,_⟩:=GI h;obtain⟨rfl,_⟩:=GI h';simp[Instr.sameNow,Ub]
theorem A3f {kt:Ty} {d:TypeDesc} (hd:SI kt=some d) {k k':kt.den} {kv kv':Value} (h:Bk w O kt kv k) (h':Bk w O kt kv' k') (he:Ub kt k k'=true):kv'=kv:=by
 have h1:=Yl hd h h'
 obtain⟨r,h2,h3⟩:=MapKept.sameNow_of_keys (Lj hd h) (Lj hd h')
 rw[h1]at h2
 injection h2 with h2
 exact(h3.1 (h2▸he)).symm
def Kd (kt vt:Ty) (k:kt.den):List MapEntry→List (kt.den×vt.den)→Nat→Option (Nat×Value)
 | e :: es,x :: l,i=>if Ub kt k x.1=true then some (i,e.val) else Kd kt vt k es l (i+1)
 | _,_,_=>none
end
structure Wy (P:Program) (kid:TypeId) (kt:Ty):Prop where
 check:∀ {w:World} {O:Nat→Prop} {kv:Value} {k:kt.den} (em:Bool),Bk w O kt kv k→(Instr.checkKey em 10000 kid kv).run P w=.ok () w
 find:∀ {w:World} {O:Nat→Prop} {vt:Ty} {es:List MapEntry} {l:List (kt.den×vt.den)} {kv:Value} {k:kt.den},Bk w O kt kv k→Nj w O kt vt es l→(Instr.findKey kid kv es).run P w=.ok (Kd kt vt k es l 0) w
 stays:∀ {w:World} {O:Nat→Prop} {kv:Value} {k:kt.den},Bk w O kt kv k→(Instr.keyThatStays kv kv).run P w=.ok kv w
 same:∀ {w:World} {O:Nat→Prop} {kv kv':Value} {k k':kt.den},Bk w O kt kv k→Bk w O kt kv' k'→Ub kt k k'=true→kv'=kv
theorem VB {w:World} {O:Nat→Prop} {kt vt:Ty} {d:TypeDesc} (hd:SI kt=some d) {k:kt.den} {kv:Value} (hk:Bk w O kt kv k):∀ {es:List MapEntry} {l:List (kt.den×vt.den)},Nj w O kt vt es l→∀i,Instr.findNow d kv es i=some (Kd kt vt k es l i)
 | [],[],_,i=>rfl
 | [],_ :: _,h,_=>h.elim
 | _ :: _,[],h,_=>h.elim
 | e :: es,x :: l,⟨h1,h2,h3⟩,i=>by
  have hs:=Yl hd hk h1
  have ih:=VB hd hk h3 (i+1)
  cases hb:Ub kt k x.1<;>rw[hb]at hs<;>simp[Instr.findNow,Kd,hs,hb,ih]
theorem IL {P:Program} {kid:TypeId} {kt:Ty} {d:TypeDesc} (hd:SI kt=some d) (hu:P.underlying kid=some d):Wy P kid kt where
 check:=fun em h=>MapKept.run_checkKey hu (Lj hd h) em 9999
 find:=fun hk he=>MapKept.run_findKey hu (VB hd hk he 0)
 stays:=fun h=>MapKept.run_keyThatStays (Lj hd h)
 same:=fun h h' he=>A3f hd h h' he
theorem Gx {w:World} {O:Nat→Prop} {a b:IntKind} {v:Value} {d:(Ty.agg (.prod (.int a) (.int b))).den} (h:Bk w O (.agg (.prod (.int a) (.int b))) v d):v=.agg #[.int a d.1,.int b d.2]:=by
 obtain⟨cs,⟨c1,c2,rfl,⟨rfl,_⟩,⟨rfl,_⟩⟩,rfl⟩:=h
 rfl
theorem QX {P:Program} {w:World} {t:TypeId} {a:IntKind} (h:P.underlying t=some (.int a)) (d:Nat) (x y:Int):(Op.equalIn (d+1) t (.int a x) (.int a y)).run P w=.ok (x==y) w:=by simp[Op.equalIn,run_underlying h]
theorem Nr {P:Program} {w:World} {t:TypeId} {a:IntKind} (h:P.underlying t=some (.int a)) (em:Bool) (d:Nat) (x:Int):(Instr.checkKey em (d+1) t (.int a x)).run P w=.ok () w:=by simp[Instr.checkKey,run_underlying h]
theorem Uh {P:Program} {w:World} {kid:TypeId} {a b:IntKind} (hp:Nl P kid a b) (em:Bool) (d:Nat) (x y:Int):(Instr.checkKey em (d+2) kid (.agg #[.int a x,.int b y])).run P w=.ok () w:=by
 obtain⟨f0,f1,hu,⟨h1,h2⟩,⟨h3,h4⟩,⟨h5,h6⟩,h7⟩:=hp
 have h1' : f0.name ≠ "_" := by simpa using h1
 have h2' : f1.name ≠ "_" := by simpa using h2
 have hpl0:P.plainKey f0.type=true:=by simp[Program.plainKey,h5]
 have hpl1:P.plainKey f1.type=true:=by simp[Program.plainKey,h6]
 have p0:=fun(u v:Value)=>run_part_plain (P:=P) w hpl0 (xs:=#[u,v]) (off:=f0.offset) (v:=u) (by rw[h3];rfl)
 have p1:=fun(u v:Value)=>run_part_plain (P:=P) w hpl1 (xs:=#[u,v]) (off:=f1.offset) (v:=v) (by rw[h4];rfl)
 have q0:=fun x:Int=>Nr (w:=w) h5 em d x
 have q1:=fun x:Int=>Nr (w:=w) h6 em d x
 rw[Instr.checkKey]
 simp[run_underlying hu,h1',h2',p0,p1,q0,q1]
theorem cI {P:Program} {kid:TypeId} {a b:IntKind} (hp:Nl P kid a b) (w:World) (x0 x1 y0 y1:Int):(Op.equal kid (.agg #[.int a x0,.int b x1]) (.agg #[.int a y0,.int b y1])).run P w=.ok ((x0==y0)&&(x1==y1)) w:=by
 obtain⟨f0,f1,hu,⟨h1,h2⟩,⟨h3,h4⟩,⟨h5,h6⟩,h7⟩:=hp
 have hfo:P.fieldsOf kid=#[f0,f1]:=by simp[Program.fieldsOf,hu]
 have hpl0:P.plainKey f0.type=true:=by simp[Program.plainKey,h5]
 have hpl1:P.plainKey f1.type=true:=by simp[Program.plainKey,h6]
 have h1 : f0.name ≠ "_" := by simpa using h1
 have h2 : f1.name ≠ "_" := by simpa using h2
 have hq0:∀x y:Int,(Op.equalIn 9999 f0.type (.int a x) (.int a y)).run P w=.ok (x==y) w:=fun x y=>QX h5 9998 x y
 have hq1:∀x y:Int,(Op.equalIn 9999 f1.type (.int b x) (.int b y)).run P w=.ok (x==y) w:=fun x y=>QX h6 9998 x y
 have e:(Op.equal kid (.agg #[.int a x0,.int b x1]) (.agg #[.int a y0,.int b y1])).run P w=_:=run_equalIn_struct (P:=P) w 9999 kid _ _ (by rw[hfo];exact hu) h7
 rw[e,hfo]
 have p0:=fun(u v:Value)=>run_part_plain (P:=P) w hpl0 (xs:=#[u,v]) (off:=f0.offset) (v:=u) (by rw[h3];rfl)
 have p1:=fun(u v:Value)=>run_part_plain (P:=P) w hpl1 (xs:=#[u,v]) (off:=f1.offset) (v:=v) (by rw[h4];rfl)
 simp only[Op.eqFields,h1,h2,ne_eq,not_false_eq_true,if_true,Sem.run_bind,p0,p1,Result.andThen_ok,hq0,hq1]
 by_cases c:x0=y0
 ·by_cases c2:x1=y1<;>simp[c,c2,Sem.run_ite,Sem.run_bind,p1,hq1,Op.eqFields]
 ·simp[c,Sem.run_ite]
theorem VC {P:Program} {kid:TypeId} {a b:IntKind} (hp:Nl P kid a b) {w:World} {O:Nat→Prop} {vt:Ty} {k:(Ty.agg (.prod (.int a) (.int b))).den} {kv:Value} (hk:Bk w O (.agg (.prod (.int a) (.int b))) kv k) :
  ∀ {es:List MapEntry} {l:List ((Ty.agg (.prod (.int a) (.int b))).den×vt.den)},Nj w O (.agg (.prod (.int a) (.int b))) vt es l→∀i,(Instr.findAsking kid kv es i).run P w=.ok (Kd (.agg (.prod (.int a) (.int b))) vt k es l i) w
 | [],[],_,i=>rfl
 | [],_ :: _,h,_=>h.elim
 | _ :: _,[],h,_=>h.elim
 | e :: es,x :: l,⟨h1,h2,h3⟩,i=>by
  have ih:=VC hp hk h3 (i+1)
  have hq:=cI hp w k.1 k.2 x.1.1 x.1.2
  rw[←Gx hk,←Gx h1]at hq
  have hb:Ub (.agg (.prod (.int a) (.int b))) k x.1=((k.1==x.1.1)&&(k.2==x.1.2)):=rfl
  simp only[Instr.findAsking,Sem.run_bind,hq,Result.andThen_ok,Kd,hb,Sem.run_ite]
  split
  ·rfl
  ·exact ih
theorem Ym {P:Program} {kid:TypeId} {a b:IntKind} (hp:Nl P kid a b):Wy P kid (.agg (.prod (.int a) (.int b))) where
 check:=fun em h=>by
  rw[Gx h]
  exact Uh hp em 9998 _ _
 find:=fun hk he=>by
  have hp2:=hp
  obtain⟨f0,f1,hu,_⟩:=hp2
  rw[run_findKey_eq _ (by rw[hu])]
  exact VC hp hk he 0
 stays:=fun h=>by
  rw[Gx h]
  simp[Instr.keyThatStays,Instr.sameBits]
 same:=fun h h' he=>by
  rw[Gx h,Gx h']
  have he:((_==_)&&(_==_))=true:=he
  simp only[Bool.and_eq_true,beq_iff_eq]at he
  rw[he.1,he.2]
theorem PF {P:Program} {kid:TypeId} {w:World} {O:Nat→Prop} {kt vt:Ty} (hr:Wy P kid kt) {k:kt.den} {kv:Value} (hk:Bk w O kt kv k):∀ {es:List MapEntry} {l:List (kt.den×vt.den)},Nj w O kt vt es l→∀i,
  (FN kt vt k l=none∧Kd kt vt k es l i=none∧∀(v:vt.den) (vv:Value) (b:Nat),Bk w O vt vv v→Nj w O kt vt (es++[⟨kv,vv,b⟩]) (R4 kt vt k v l)) ∨
  ∃(j:Nat) (e:MapEntry) (v0:vt.den),FN kt vt k l=some v0∧Kd kt vt k es l i=some (i+j,e.val)∧es[j]?=some e∧Bk w O vt e.val v0∧e.key=kv ∧
   ∀(v:vt.den) (vv:Value),Bk w O vt vv v→Nj w O kt vt (es.modify j fun e=>{ e with key:=kv,val:=vv }) (R4 kt vt k v l)
 | [],[],_,i=>.inl ⟨rfl,rfl,fun v vv b hv=>⟨hk,hv,trivial⟩⟩
 | [],_ :: _,h,_=>h.elim
 | _ :: _,[],h,_=>h.elim
 | e :: es,x :: l,⟨h1,h2,h3⟩,i=>by
  cases hb:Ub kt k x.1 with
  | true =>
   refine .inr ⟨0,e,x.2,by simp[FN,hb],by simp[Kd,hb],rfl,h2,hr.same hk h1 hb,fun v vv hv=>?_⟩
   simp only[R4,hb,if_true]
   exact⟨hk,hv,h3⟩
  | false =>
   rcases PF hr hk h3 (i+1) with ⟨g1,g2,g3⟩|⟨j,e',v0,g1,g2,g3,g4,g5,g6⟩
   ·refine .inl ⟨by simp[FN,hb,g1],by simp[Kd,hb,g2],fun v vv b hv=>?_⟩
    simp only[R4,hb,Bool.false_eq_true,if_false]
    exact⟨h1,h2,g3 v vv b hv⟩
   ·refine .inr ⟨j+1,e',v0,by simp[FN,hb,g1],?_,by simpa using g3,g4,g5,fun v vv hv=>?_⟩
    ·simp only[Kd,hb,g2,Bool.false_eq_true,if_false]
     congr 2
     omega
    ·simp only[R4,hb,Bool.false_eq_true,if_false,List.modify_succ_cons]
     exact⟨h1,h2,g6 v vv hv⟩
theorem Yn {P:Program} {tb:Tb} {id:TypeId} {ti:TI} (hT:ED P tb id ti) (hel:ti.el=0) (hk:Ue ti.ty=true):Wy P id ti.ty:=by
 have h2:=hT.2
 obtain⟨⟨⟨_,_,hkf⟩,_⟩,_⟩:=hT
 rw[hel]at hkf
 cases ht:ti.ty<;>rw[ht]at h2 hk hkf<;>simp only[Ue]at hk<;>try(cases hk;done)
 ·exact IL rfl h2
 ·exact IL rfl h2
 ·exact IL rfl h2
 ·unfold cE at hk
  split at hk
  ·exact Ym hkf
  ·cases hk
theorem pM {t:Ty} {z:Value} (hc:z.cells=t.zero.toArray) (hf:Wt t z=true):z=t.wrap t.zero:=by
 cases t with
 | agg t =>
  cases z<;>simp only[Wt]at hf<;>try(cases hf;done)
  simp only[Value.cells]at hc
  rw[hc];rfl
 | prod a b=>cases z<;>simp[Wt]at hf
 | _=>cases z<;>simp only[Wt]at hf<;>(try(cases hf;done))<;>(simp only[Value.cells,Ty.zero]at hc;simp[Ty.wrap,Ty.zero]at hc ⊢<;>exact hc)
section
variable {P:Program} {tb:Tb} {w:World} {O0:Nat→Prop} {σ:St} {ρ:Nat→Value} {vc:Prop} {v:AV} {obs:List (Nat×Obj)} {id:TypeId} {ti:TI}
theorem pN {P:Program} {tb:Tb} {e:TypeId} {te:TI} {z:Value} {i:TypeInfo} (hi:P.info? e=some i) (hz:i.zero=some z) (hc:z.cells=te.ty.zero.toArray) (hf:Wt te.ty z=true) (w:World) (O:Nat→Prop) :
  (zeroValue e).run P w=.ok z w∧Bk w O te.ty z te.ty.dflt:=by
 refine⟨by simp[zeroValue,typeInfo,hi,hz],te.ty.zero,Bj.zero w O te.ty,pM hc hf⟩
theorem A4f {a:Act} (hev:Hj (vw w O0 σ ρ) σ a.eval) {fn:Fn} {first captured:List Operand} (h:Wm σ fn first captured=some (vc,v,obs)):obs=[]∧∃u,(Instr.makeFunc fn (first.map a.eval).toArray (captured.map a.eval).toArray).run P w=.ok u w∧B5 (vw w O0 σ ρ) v u:=by
 unfold Wm at h
 split at h
 ·rename_i f
  cases hns:G7 σ captured with
  | none=>rw[hns]at h;simp[Nb]at h
  | some ns =>
   rw[hns]at h
   simp only[Nb]at h
   cases h
   have key:∀ {l:List Operand} {ns:List Nat},G7 σ l=some ns→l.map a.eval=ns.map ρ∧∀n∈ns,GZ σ n∧∃b:Nat,ρ n=.pointer (some ⟨b,0,none⟩):=by
    intro l
    induction l with
    | nil=>intro ns h;simp only[G7]at h;cases h;exact⟨rfl,fun _ h=>by cases h⟩
    | cons x r ih =>
     intro ns h
     simp only[G7]at h
     split at h
     ·rename_i n ns' h1 h2
      cases h
      obtain⟨g1,g2⟩:=ih h2
      obtain⟨q1,b,q2,q3⟩:=hev x _ h1
      have q2:ρ n=_:=q2
      refine⟨by simp only[List.map_cons,g1,q3,q2],fun m hm=>?_⟩
      rcases List.mem_cons.1 hm with rfl|hm
      ·exact⟨q1,b,q2⟩
      ·exact g2 m hm
     ·cases h
   obtain⟨g1,g2⟩:=key hns
   refine⟨rfl,_,rfl,?_,g2⟩
   rw[g1]
   rfl
 ·cases h
theorem A3g (hTb:Dp P tb) (hT:ED P tb id ti) {n:Nat} {k e:Nat} (hti:ti.ty=.ref 2) (hoffs:ti.offs=[(k,e)]) {tk:TI} (htk:lk k tb.ty=some tk) {vt:Ty} {l:List (tk.ty.den×vt.den)} {V:Vw} (hVw:V.w=w)
  (hobj:A4 V (.mapo tk.ty vt l) (V.ρ n)) {x y:Value} {kd:tk.ty.den} {vd:vt.den} (hel:tk.el=0) (hkt:Ue tk.ty=true) (hx:Bk w V.O tk.ty x kd) (hy:Bk w V.O vt y vd) :
  ∃b es' cl',V.ρ n=.map (some b)∧(Instr.mapUpdate id (.map (some b)) x y).run P w=.ok () { w with heap:=w.heap.setIfInBounds b (.map es' cl') }∧(∃o,w.heap[b]?=some o)∧Nj w V.O tk.ty vt es'.toList (R4 tk.ty vt kd vd l):=by
 obtain⟨d,hu,_,hm⟩:∃d,P.underlying id=some d∧(match d with|.struct _=>False|.array _ _=>False|_=>True) ∧
   ∀k e,(2:Nat)=2→ti.offs=[(k,e)]→d=.map k e∧∃(tk te:TI) (z:Value),lk k tb.ty=some tk∧lk e tb.ty=some te∧(∃i,P.info? e=some i∧i.zero=some z)∧z.cells=te.ty.zero.toArray∧Wt te.ty z=true:=by
  have:=hT.2
  rw[hti]at this
  exact this
 obtain⟨rfl,_⟩:=hm k e rfl hoffs
 obtain⟨b,es,cl,hloc,hh,hes⟩:=hobj
 subst hVw
 have hr:=Yn (hTb _ _ htk) hel hkt
 have hfind:=hr.find hx hes
 refine⟨b,?_⟩
 rcases PF hr hx hes 0 with ⟨g1,g2,g3⟩|⟨j,e',v0,g1,g2,g3,g4,g5,g6⟩
 ·refine⟨es.push ⟨x,y,cl⟩,cl+1,hloc,?_,⟨_,hh⟩,by simpa using g3 vd y cl hy⟩
  simp[Instr.mapUpdate,run_underlying hu,MapKept.run_getObj_map hh,hr.check _ hx,hfind,g2,MapKept.run_setObj_map _ hh]
 ·have hj:es[j]?=some e':=by simpa using g3
  refine⟨es.modify j fun e=>{ e with key:=x,val:=y },cl,hloc,?_,⟨_,hh⟩,by rw[Array.toList_modify];exact g6 vd y hy⟩
  simp[Instr.mapUpdate,run_underlying hu,MapKept.run_getObj_map hh,hr.check _ hx,hfind,g2,hj,g5,hr.stays hx,MapKept.run_setObj_map _ hh]
theorem pO (hT:ED P tb id ti) {d:Nat} (h:FP tb d (some ti)=some (vc,v,obs)) (hf:BT obs σ=true) :
  ∃u ρ' w',(Instr.makeMap id none).run P w=.ok u w'∧QS w O0 σ ρ v obs u ρ' w':=by
 unfold FP at h
 split at h
 ·rename_i offs _ _ he
  cases he
  unfold Fy at h
  split at h
  ·rename_i k e
   unfold Fx at h
   split at h
   ·cases h
    have hrun:(Instr.makeMap id none).run P w=.ok (.map (some w.heap.size)) (w.alloc (.map #[] 0)):=by
     simp[Instr.makeMap,Result.andThen]
    refine⟨_,_,_,hrun,QS.one (loc:=.map (some w.heap.size)) ((Below.refl _ w).alloc (Nat.le_refl _) _) ?_ ?_ ?_⟩
    ·intro b hb
     simp[bk,blk]at hb
     omega
    ·refine⟨⟨_,by simp only[Dz,List.cons_append,lk,if_true];rfl⟩,w.heap.size,?_,rfl⟩
     show EV ρ d _ d=_
     rw[Ba]
    ·exact⟨w.heap.size,#[],0,rfl,(MapKept.heap_alloc w _).1,trivial⟩
   ·cases h
  ·cases h
 ·cases h
theorem A3h (hT:ED P tb id ti) (hTb:Dp P tb) (hobj:∀n o,lk n σ.objs=some o→A4 (vw w O0 σ ρ) o (ρ n)) {ok:Bool} {x y:AV} {xv yv:Value} (h:Ht tb σ ok (some ti) (some x) (some y)=some (vc,v,obs))
  (hx:B5 (vw w O0 σ ρ) x xv) (hy:B5 (vw w O0 σ ρ) y yv):obs=[]∧∃u,(Instr.lookup id xv yv ok).run P w=.ok u w∧B5 (vw w O0 σ ρ) v u:=by
 unfold Ht at h
 split at h
 ·rename_i k e _ _ n z he1 he2 he3
  cases he1;cases he2;cases he3
  obtain⟨d,hu,_,hm⟩:=hT.2
  obtain⟨rfl,tk,te,zv,htk,hte,⟨i,hi,hz⟩,hzc,hzf⟩:=hm k e rfl rfl
  cases hn:lk n σ.objs with
  | none=>rw[hn]at h;simp[G8]at h
  | some o =>
   rw[hn]at h
   cases o with
   | mapo kt vt l =>
    simp only[G8,htk,hte,Option.map_some,Option.some.injEq]at h
    split at h
    ·rename_i hc
     obtain⟨rfl,hel,rfl⟩:=hc
     cases hk:Ml false σ tk.ty y with
     | none=>rw[hk]at h;simp[JO]at h
     | some kd =>
      rw[hk]at h
      simp only[JO]at h
      split at h
      ·rename_i hkt
       have hkv:=MV (V:=vw w O0 σ ρ) (O':=own O0 σ ρ) (fun _ h=>h) (fun h=>by cases h) hobj hk hy
       have hkv:Bk w (own O0 σ ρ) tk.ty yv kd:=hkv
       obtain⟨hL,b,hρ,rfl⟩:=hx
       have hρ:ρ n=_:=hρ
       obtain⟨b',es,cl,hloc,hh,hes⟩:=hobj n _ hn
       rw[hρ]at hloc
       injection hloc with hloc
       injection hloc with hloc
       subst hloc
       have hh:w.heap[b]?=some (.map es cl):=hh
       have hes:Nj w (own O0 σ ρ) tk.ty te.ty es.toList l:=hes
       have hkr:=Yn (hTb _ _ htk) hel hkt
       have hfind:=hkr.find hkv hes
       obtain⟨hz1,hz2⟩:=pN (te:=te) (P:=P) (tb:=tb) hi hz hzc hzf w (own O0 σ ρ)
       have fin:∀(u0:Value) (b0:Bool) (r:Option te.ty.den),Bk w (own O0 σ ρ) te.ty u0 (r.getD te.ty.dflt)→b0=r.isSome→KU te.ty ok r=some (vc,v,obs)→obs=[]∧∃u,u=(if ok=true then Value.tuple #[u0,.bool b0] else u0)∧B5 (vw w O0 σ ρ) v u:=by
        intro u0 b0 r hr hb0 hq
        unfold KU at hq
        subst hb0
        cases ok with
        | true =>
         simp only[if_true]at hq ⊢
         cases hq
         exact⟨rfl,_,rfl,[u0,.bool r.isSome],rfl,u0,_,rfl,hr,_,[],rfl,Bb _,rfl⟩
        | false =>
         simp only[Bool.false_eq_true,if_false]at hq ⊢
         cases hq
         exact⟨rfl,_,rfl,hr⟩
       rcases PF hkr hkv hes 0 with ⟨g1,g2,_⟩|⟨j,e',v0,g1,g2,_,g4,_,_⟩
       ·rw[g1]at h
        obtain⟨h1,u,rfl,h2⟩:=fin zv false none hz2 rfl h
        refine⟨h1,_,?_,h2⟩
        simp[Instr.lookup,run_underlying hu,MapKept.run_getObj_map hh,hkr.check _ hkv,hfind,g2,hz1]
       ·rw[g1]at h
        obtain⟨h1,u,rfl,h2⟩:=fin e'.val true (some v0) g4 rfl h
        refine⟨h1,_,?_,h2⟩
        simp[Instr.lookup,run_underlying hu,MapKept.run_getObj_map hh,hkr.check _ hkv,hfind,g2]
      ·cases h
    ·cases h
   | _=>simp[G8]at h
 ·cases h
end
end
end Go.Proofs.YtebfihindnhccaaGreat.Fw
