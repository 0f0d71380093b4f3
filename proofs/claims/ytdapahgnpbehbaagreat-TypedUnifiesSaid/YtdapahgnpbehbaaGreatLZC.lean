/- The executor's quiet operations are sound, second part; maps. -/
import Derived.Test.YtdapahgnpbehbaaGreatLZB
import Derived.ArgAppend
import Derived.MapKept
import Derived.WideKeyRuns
import Derived.Laws.StructEq
set_option linter.unusedVariables false
set_option linter.unusedSimpArgs false
namespace Go.Proofs.YtdapahgnpbehbaaGreat.Fw
section
open Go Go.RowKit
section
abbrev AB5:=@Go.MapKept.run_getObj_map
abbrev ABC:=@Go.Sem.run_pure
abbrev ABL:=@Go.World.ownsRow_nil
abbrev ABQ:=@Go.MapKept.run_setObj_map
abbrev ACF:=@Go.run_part_plain
variable {P:Program} {tb:Tb} {id:TypeId} {ti:TI} {w:World} {O0:Nat→Prop} {σ:St} {ρ:Nat→Value} {vc:Prop} {v:AV} {obs:List (Nat×Obj)}
theorem Fi (w:World) (o:_root_.Go.Obj):Below w.heap.size w (w.alloc o):=(Below.refl _ _).alloc (Is _) o
theorem QS.box {n:Nat} {et:TypeId} {st:Bool} {fs:List AV} {cs:List Value} (hf:Bd [(n,.box et st fs)] σ=true) (g:st=false→fs.length=1) (d:Db (vw w O0 σ ρ) fs cs) :
  QS w O0 σ ρ (.bp n [] 0) [(n,.box et st fs)] (.pointer (some ⟨w.heap.size,0,none⟩)) (Ek ρ n (.pointer (some ⟨w.heap.size,0,none⟩))) (w.alloc (.cells cs.toArray et)):=by
 have f:∀(m:Nat) (o:Obj) (b:Nat),lk m [(n,.box et st fs)]=some o→bk (Ek ρ n (.pointer (some ⟨w.heap.size,0,none⟩)) m) b→w.heap.size≤b:=by grind [lk,Bj,bk,blk]
 have hk:CW (vw w O0 σ ρ) (vw (w.alloc (.cells cs.toArray et)) O0 (Ec σ [(n,.box et st fs)]) (Ek ρ n (.pointer (some ⟨w.heap.size,0,none⟩)))) :=
  IP hf (Fi w _) (fun m a=>by
   simp only[lk]at a;split at a
   ·cases a
   ·rename_i e;simp[Ek,e]) f
 refine QS.one (Fi w _) (fun b c=>by simp[bk,blk]at c;omega) ?_ ?_
 ·refine⟨⟨.box et st fs,by simp[Ec,lk]⟩,w.heap.size,by rw[show (vw (w.alloc (.cells cs.toArray et)) O0 (Ec σ [(n,.box et st fs)]) (Ek ρ n (.pointer (some ⟨w.heap.size,0,none⟩)))).ρ n=Ek ρ n (.pointer (some ⟨w.heap.size,0,none⟩)) n from rfl,Bj],rfl⟩
 ·exact⟨g,w.heap.size,cs,rfl,heap_alloc_new w _,d.keeps hk⟩
theorem QS.arr {n:Nat} {et:TypeId} {e:Ty} {xs:List e.den} {cells:List Value} {loc:Value} {w':World} {hi:Nat} (hf:Bd [(n,.arr et e xs)] σ=true) (f:Below w.heap.size w w')
  (c:w'.ownsRow w.heap.size et e.size loc xs.length cells) (a:xs.length≤AO) (k:Dv w (own O0 σ ρ) e cells xs) (p:hi=xs.length) :
  QS w O0 σ ρ (.sr n e 0 hi) [(n,.arr et e xs)] loc (Ek ρ n loc) w':=by
 subst p;have r:∀b,bk loc b→w.heap.size≤b:=by
  intro b i;rcases c.2 with ⟨rfl,_⟩|⟨g,cap,d,rfl,l,_⟩
  ·simp[bk,blk]at i
  ·simp[bk,blk]at i;omega
 have q:∀(m:Nat) (o:Obj) (b:Nat),lk m [(n,.arr et e xs)]=some o→bk (Ek ρ n loc m) b→w.heap.size≤b:=by grind [lk,Bj]
 have hk:CW (vw w O0 σ ρ) (vw w' O0 (Ec σ [(n,.arr et e xs)]) (Ek ρ n loc)) :=
  IP hf f (fun m a=>by
   simp only[lk]at a;split at a
   ·cases a
   ·rename_i e;simp[Ek,e]) q
 refine QS.one f r ?_ ?_
 ·refine⟨⟨.arr et e xs,by simp[Ec,lk]⟩,?_⟩;show DK (plc (Ek ρ n loc n)) e.size 0 xs.length loc;rw[Bj,Hs c];rcases c.2 with ⟨rfl,hn⟩|⟨g,cap,d,rfl,l,_,t,_⟩
  ·exact⟨none,0,0,rfl,by omega,by omega,none,0,by rw[hn],by omega,fun _=>⟨rfl,rfl⟩,fun h=>by omega⟩
  ·exact⟨some ⟨g,0,none⟩,xs.length,cap,rfl,by omega,by omega,some ⟨g,0,none⟩,cap,by simp,by omega,fun _=>⟨rfl,rfl⟩,fun _=>by simp[Mx]⟩
 ·refine⟨a,cells,⟨c.1,?_⟩,k.keeps hk⟩;rcases c.2 with h|⟨g,cap,d,h1,s,j⟩
  ·exact .inl h
  ·exact .inr ⟨g,cap,d,h1,NO _,j⟩
theorem Ln (V:Vw) (t:Ty):NZ V (pY t) t.zero:=by
 cases t;case slice e=>exact⟨_,rfl,rfl,rfl⟩
 case ref k=>exact⟨Kt k,rfl,by match k with|0=>rfl|1=>rfl|_+2=>rfl,rfl⟩
 all_goals(exact Bq.zero V.w V.O _)
theorem yR (V:Vw):∀t:Ty,Db V (pZ t) t.zero
 | .prod a b=>⟨a.zero,b.zero,rfl,Ln V a,yR V b⟩
 | .int k=>⟨_,[],by simp,Ln V (.int k),rfl⟩
 | .bool=>⟨_,[],by simp,Ln V .bool,rfl⟩
 | .str=>⟨_,[],by simp,Ln V .str,rfl⟩
 | .slice e=>⟨_,[],by simp,Ln V (.slice e),rfl⟩
 | .agg t=>⟨_,[],by simp,Ln V (.agg t),rfl⟩
 | .ref k=>⟨_,[],by simp,Ln V (.ref k),rfl⟩
theorem yS (V:Vw):∀(t:Ty) (d:t.den) (cs:List Value),Bq V.w V.O t cs d→Db V (pfs t d) cs
 | .prod a b,d,cs,h=>by
  obtain⟨c1,c2,rfl,h1,c⟩:=h;exact⟨c1,c2,rfl,h1,yS V b d.2 c2 c⟩
 | .int k,d,cs,h=>⟨cs,[],by simp,h,rfl⟩
 | .bool,d,cs,h=>⟨cs,[],by simp,h,rfl⟩
 | .str,d,cs,h=>⟨cs,[],by simp,h,rfl⟩
 | .slice e,d,cs,h=>⟨cs,[],by simp,h,rfl⟩
 | .agg t,d,cs,h=>⟨cs,[],by simp,h,rfl⟩
 | .ref k,d,cs,h=>⟨cs,[],by simp,h,rfl⟩
theorem MG (hT:EJ P tb id ti) (w:World):∃z:Value,(zeroValue id).run P w=.ok z w∧z.cells=ti.ty.zero.toArray:=by
 obtain⟨⟨_,i,z,h1,c,d,a,b⟩,_⟩:=hT;exact⟨z,by simp[zeroValue,MF w h1,a],b⟩
theorem A3W (hT:EJ P tb id ti) {d:Nat} (h:Jl d id (some ti)=some (vc,v,obs)) (hf:Bd obs σ=true) :
  ∃u ρ' w',(Instr.alloc id true (.tuple #[])).run P w=.ok u w'∧QS w O0 σ ρ v obs u ρ' w':=by
 obtain⟨z,c,e⟩:=MG hT w;have b:(Instr.alloc id true (.tuple #[])).run P w=.ok (.pointer (some ⟨w.heap.size,0,none⟩)) (w.alloc (.cells ti.ty.zero.toArray id)):=by
  simp[Instr.alloc,c,newVar,newRow,e]
 unfold Jl at h;split at h<;>first|(cases h;done)|skip
 all_goals
  rename_i a;cases a;cases h;refine⟨_,_,_,b,QS.box hf ?_ ?_⟩
 ·simp
 ·exact yR _ _
 ·simp
 ·exact⟨_,[],by simp[Ty.zero],Ln _ _,rfl⟩
 ·simp
 ·exact⟨_,[],by simp[Ty.zero],Ln _ _,rfl⟩
 ·simp
 ·exact⟨_,[],by simp[Ty.zero],Ln _ _,rfl⟩
 ·simp
 ·exact⟨_,[],by simp[Ty.zero],Ln _ _,rfl⟩
 ·simp
 ·exact⟨_,[],by simp[Ty.zero],Ln _ _,rfl⟩
theorem Nn {V:Vw} {ty:Ty} {x:AV} {v:Value} (j:B1 V x v) (hf:CU ty x=true) (hs:ty.cell1=true):v.oneCell'=true:=by
 cases x;case p t d =>
  simp only[CU,IS]at hf;subst hf;obtain⟨cs,o,rfl⟩:=j;cases ty;case agg t=>simp[Ty.cell1]at hs
  case prod a b=>simp[Ty.cell1]at hs
  case slice e=>obtain⟨a,c,rfl,_⟩:=o;rfl
  case int k=>obtain⟨rfl,h⟩:=o;rfl
  case bool=>have o:cs=_:=o;subst o;rfl
  case str=>obtain⟨rfl,h⟩:=o;rfl
  case ref k =>
   have o:cs=[Kt k]:=o;subst o;match k with
   | 0=>rfl
   | 1=>rfl
   | _+2=>rfl
 case ag l=>cases ty<;>simp[CU]at hf<;>simp[Ty.cell1]at hs
 case tup l=>simp[CU]at hf
 case raw u =>
  have j:v=u:=j;subst j;simp only[CU,As]at hf;exact hf.1
 case sr n e lo hi=>obtain⟨_,_,_,_,_,_,_,r,s,rfl,_⟩:=j;rfl
 case ep n e i q off=>obtain⟨_,g,m,c,_,_,rfl⟩:=j;rfl
 case nin n e i len=>obtain⟨_,_,_,_,_,_,_,_,rfl⟩:=j;rfl
 case pc e d=>obtain⟨_,a,rfl⟩:=j;rfl
 case ip t d=>obtain⟨ad,cs,rfl,_⟩:=j;rfl
 case bp n q off=>obtain⟨_,b,_,rfl⟩:=j;rfl
 case fn f=>have j:v=_:=j;subst j;rfl
 case clo f ns=>obtain⟨rfl,_⟩:=j;rfl
 case mp n=>obtain⟨_,b,_,rfl⟩:=j;rfl
 case yl n=>obtain⟨_,b,_,rfl⟩:=j;rfl
 case top=>simp[CU]at hf
end
end
section
open Go Go.RowKit
section
variable {P:Program} {tb:Tb} {id:TypeId} {ti:TI} {w:World} {O0:Nat→Prop} {σ:St} {ρ:Nat→Value} {vc:Prop} {v:AV} {obs:List (Nat×Obj)}
theorem Tp {t:Ty} {w:World} {O:Nat→Prop} {cs:List Value} {d:t.den} (h:Bq w O t cs d):(t.wrap cs).cells=cs.toArray:=by
 cases t;case agg t=>rfl
 case prod a b=>rfl
 case slice e=>obtain⟨a,c,rfl,_⟩:=h;rfl
 case int k=>obtain⟨rfl,_⟩:=h;rfl
 case bool=>have h:cs=_:=h;subst h;rfl
 case str=>obtain⟨rfl,_⟩:=h;rfl
 case ref k =>
  have h:cs=[Kt k]:=h;subst h;match k with
  | 0=>rfl
  | 1=>rfl
  | _+2=>rfl
theorem A3X {V:Vw} {x:AV} {v:Value} (j:B1 V x v) (hf:Hm x=true):NZ V x v.cells.toList∧v.cells.size=x.cells:=by
 have simple:∀ {y:AV},Tf V y v→v.oneCell'=true→(∀t d,y≠.p t d)→NZ V y v.cells.toList:=by
  intro y r h hp;have l:v.cells=#[v]:=by cases v<;>first|rfl|simp[Value.oneCell']at h
  rw[l];cases y;case p t d=>exact absurd rfl (hp t d)
  all_goals exact⟨v,rfl,h,r⟩
 have k:v.oneCell'=true→v.cells.size=1:=by
  intro h;have l:v.cells=#[v]:=by cases v<;>first|rfl|simp[Value.oneCell']at h
  rw[l];rfl
 cases x;case p t d =>
  obtain⟨cs,o,rfl⟩:=j;rw[Tp o];exact⟨o,by simpa[AV.cells] using o.length⟩
 case raw u =>
  have q:v=u:=j;have h:v.oneCell'=true:=by rw[q];exact hf
  exact⟨simple j h (fun _ _=>by simp),k h⟩
 case sr n e lo hi =>
  have h:v.oneCell'=true:=by obtain⟨_,_,_,_,_,_,_,w,z,rfl,_⟩:=j;rfl
  exact⟨simple j h (fun _ _=>by simp),k h⟩
 case ep n e i s off =>
  have h:v.oneCell'=true:=by obtain⟨_,g,m,c,_,_,rfl⟩:=j;rfl
  exact⟨simple j h (fun _ _=>by simp),k h⟩
 case nin n e i len =>
  have h:v.oneCell'=true:=by obtain⟨_,_,_,_,_,_,_,_,rfl⟩:=j;rfl
  exact⟨simple j h (fun _ _=>by simp),k h⟩
 case ip t d =>
  have h:v.oneCell'=true:=by obtain⟨ad,cs,rfl,_⟩:=j;rfl
  exact⟨simple j h (fun _ _=>by simp),k h⟩
 case bp n s off =>
  have h:v.oneCell'=true:=by obtain⟨_,b,_,rfl⟩:=j;rfl
  exact⟨simple j h (fun _ _=>by simp),k h⟩
 case pc e d =>
  have h:v.oneCell'=true:=by obtain⟨_,a,rfl⟩:=j;rfl
  exact⟨simple j h (fun _ _=>by simp),k h⟩
 case clo f ns =>
  have h:v.oneCell'=true:=by obtain⟨rfl,_⟩:=j;rfl
  exact⟨simple j h (fun _ _=>by simp),k h⟩
 case mp n =>
  have h:v.oneCell'=true:=by obtain⟨_,b,_,rfl⟩:=j;rfl
  exact⟨simple j h (fun _ _=>by simp),k h⟩
 case yl n =>
  have h:v.oneCell'=true:=by obtain⟨_,b,_,rfl⟩:=j;rfl
  exact⟨simple j h (fun _ _=>by simp),k h⟩
 case fn f =>
  have h:v.oneCell'=true:=by have j:v=_:=j;subst j;rfl
  exact⟨simple j h (fun _ _=>by simp),k h⟩
 all_goals simp[Hm]at hf
theorem A7o (hT:EJ P tb id ti) {d:Nat} {x:AV} {xv:Value} (h:Qq d id (some ti) (some x)=some (vc,v,obs)) (i:B1 (vw w O0 σ ρ) x xv) (hf:Bd obs σ=true) :
    ∃u ρ' w',(Instr.box id xv).run P w=.ok u w'∧QS w O0 σ ρ v obs u ρ' w':=by
  have g:(Instr.box id xv).run P w=.ok (.pointer (some ⟨w.heap.size,0,none⟩)) (w.alloc (.cells xv.cells id)):=by
    simp[Instr.box,newVar,newRow]
  have simple:∀ty:Ty,CU ty x=true→ty.cell1=true→(∀l,x≠.ag l)→Db (vw w O0 σ ρ) [x] xv.cells.toList:=by
    intro ty f q n;obtain⟨h1,m⟩:=yK i f (Nn i f);exact⟨_,[],by simp,m n,rfl⟩
  have p:xv.cells=xv.cells.toList.toArray:=by simp
  rw[p]at g;unfold Qq at h;split at h
  · rename_i u offs el b r k c a
    cases c;cases a;split at h
    · rename_i hu
      subst hu;cases h;obtain⟨cs,j,rfl⟩:=i;have j:Bq w (own O0 σ ρ) u cs k:=j;refine⟨_,_,_,g,QS.box hf (by simp) ?_⟩;simp only[Ty.wrap,Value.cells];exact yS _ _ _ _ j
    · cases h
  · rename_i u offs el b l c a
    cases c;cases a;split at h
    · cases h
      obtain⟨cs,rfl,o⟩:=i;refine⟨_,_,_,g,QS.box hf (by simp) ?_⟩;simp only[Value.cells];exact o
    · cases h
  all_goals first
    | (cases h;done)
    | (rename_i c a
       cases c;injection a with a
       subst a;split at h
       · rename_i f
         cases h;exact⟨_,_,_,g,QS.box hf (by simp) (simple _ f rfl (fun l e=>by subst e;simp[CU]at f))⟩
       · cases h)
theorem aN (off:Nat):∀(a:List Value) (k:Nat) (cells:Array Value),off+k+a.length≤cells.size →
  ((a.zipIdx k).foldl (fun(cs:Array Value) (p:Value×Nat)=>cs.setIfInBounds (off+p.2) p.1) cells).toList=Az cells.toList (off+k) a
 | [],k,cells,_=>by simp[Az]
 | v :: a,k,cells,h=>by
  simp only[OF]at h;simp only[List.zipIdx_cons,O5];rw[aN off a (k+1) _ (by simp;omega)];simp only[Az,Array.toList_setIfInBounds,OF];apply ABJ;intro j;have b:cells.toList.length=cells.size:=by simp
  simp only[oF,AAM,OS,AAm,b,AAe,AAz,AAy,OF];grind
theorem PR {place:Nat→Option (Nat×Nat)} {cells:Array Value} {i off:Nat} {v:Value} {rest:List (Nat×Value)} (hp:place i=some (off,v.cells.size)) (a:off+v.cells.size≤cells.size) :
  Instr.fill place cells ((i,v) :: rest)=Instr.fill place (Az cells.toList off v.cells.toList).toArray rest:=by
 have h1:¬(off+v.cells.size > cells.size):=by omega
 simp only[Instr.fill,hp];rw[At (by simp;omega)]
 congr 1
 have:=aN off v.cells.toList 0 cells (by simpa using a);apply Array.ext';rw[show v.cells.zipIdx.foldl (fun cs x=>cs.setIfInBounds (off+x.2) x.1) cells=(v.cells.toList.zipIdx 0).foldl (fun cs x=>cs.setIfInBounds (off+x.2) x.1) cells from by
  rw[←Array.foldl_toList];simp]
 simpa using this
def GK (V:Vw) (σ:St) (ev:Operand→Value):Prop:=∀x v,Aj σ x=some v→B1 V v (ev x)
theorem tX {V:Vw} (e:∀n o,lk n σ.objs=some o→A2 V o (V.ρ n)) {z x:Option AV} {y:AV} {v:Value} (b:∀a,x=some a→B1 V a v) (h:FZ σ z x=some y):B1 V y v:=by
 unfold FZ at h;split at h
 ·rename_i t _ l;simp only[No]at h;obtain⟨d,c,rfl⟩:=h;exact KM (V:=V) (O':=V.O) (fun _ h=>h) (fun h=>by cases h) e c (b _ rfl)
 ·exact b _ h
theorem OI {V:Vw} (f:∀n o,lk n σ.objs=some o→A2 V o (V.ρ n)) {ev:Operand→Value} (e:GK V σ ev) {place:Nat→Option (Nat×Nat)} {offs:List (Nat×Nat)} (j:∀i p,offs[i]?=some p→place i=some p) :
  ∀ {parts:List (Nat×Operand)} {fs b:List AV} {cells:Array Value},Dj σ offs fs parts=some b→Db V fs cells.toList →
   ∃cells':Array Value,Instr.fill place cells (parts.map fun p=>(p.1,ev p.2))=some cells'∧Db V b cells'.toList
 | [],fs,b,cells,h,c=>by
  simp only[Dj]at h;cases h;exact⟨cells,rfl,c⟩
 | (i,x) :: r,fs,b,cells,h,c=>by
  simp only[Dj]at h;cases d:FZ σ fs[i]? (Aj σ x) with
  | none=>rw[d]at h;cases h
  | some av =>
   rw[d]at h;simp only at h;split at h
   ·rename_i l;obtain⟨h0,h1,m⟩:=l;have z:=tX f (fun a ha=>e x a ha) d;obtain⟨q,s⟩:=A3X z h0;simp only[No]at h1;obtain⟨B,g,v⟩:=h1;obtain⟨A,_⟩:=c.get g;have y:=c.set g q v.symm;have k:=j i _ m;rw[←s]at k;have w:CE fs i+(ev x).cells.size≤cells.size:=by grind
    obtain⟨cells',t,u⟩:=OI f e j h (cells:=(Az cells.toList (CE fs i) (ev x).cells.toList).toArray) (by simpa using y);refine⟨cells',?_,u⟩;rw[AA4,PR k w];exact t
   ·cases h
theorem aO {α a:Type} (f:α→Sem a) (w:World):∀ {l:List α} {ys:List a},(l.map fun x=>(f x).run P w)=ys.map (fun y=>Result.ok y w)→(l.mapM f).run P w=.ok ys w
 | [],ys,h=>by simp_all
 | x :: l,ys,h=>by
  cases ys with
  | nil=>simp at h
  | cons y ys =>
   simp only[AA4,ABw]at h;obtain⟨h1,b⟩:=h;have c:=aO f w b;simp[List.mapM_cons,h1,c]
theorem A3Y (hT:EJ P tb id ti) (m:∀n o,lk n σ.objs=some o→A2 (vw w O0 σ ρ) o (ρ n)) {ev:Operand→Value} (l:GK (vw w O0 σ ρ) σ ev) {parts:List (Nat×Operand)} (h:ID σ parts (some ti)=some (vc,v,obs)) :
  obs=[]∧∃u,(Instr.build id (parts.map fun p=>(p.1,ev p.2)).toArray).run P w=.ok u w∧B1 (vw w O0 σ ρ) v u:=by
 obtain⟨z,q,A⟩:=MG hT w;unfold ID at h;split at h
 ·rename_i u offs el b s;cases s;cases hp:Dj σ offs (pZ u) parts with
  | none=>rw[hp]at h;simp[GY]at h
  | some B =>
   rw[hp]at h;simp only[ABd,GY]at h;cases h;have a:=hT.2;have r:Db (vw w O0 σ ρ) (pZ u) z.cells.toList:=by rw[A];exact yR _ u
   simp only at a;rcases a with ⟨fs,_,hu,g⟩|⟨n,e,i,_,hu,hi,g⟩
   ·have j:∀(i:Nat) (p:Nat×Nat),offs[i]?=some p→offs.toArray[i]?=some p:=fun i p hh=>by simpa using hh
    obtain⟨cells',c,d⟩:=OI m l (place:=fun i=>offs.toArray[i]?) j hp r;have x:(fs.mapM (fun f=>do pure (f.offset,←sizeOf f.type)):Sem (Array (Nat×Nat))).run P w=.ok offs.toArray w:=by
     rw[ABG];simp only[Sem.run_map];rw[aO (ys:=offs) _ w ?_]
     ·simp
     ·rw [show (offs.map fun y => Result.ok y w) = (offs.map some).map (fun o => match o with | some y => Result.ok y w | none => .halt (.stuck "no such type") w) by simp [ABb, Function.comp_def], g, ABb]
      apply tO;intro f _;simp only[Function.comp,sizeOf,typeInfo];cases hi:P.info? f.type<;>simp[hi]
    refine⟨rfl,.agg cells',?_,cells'.toList,by simp,d⟩;simp only[Instr.build,AB2,q,AAA,iF hu,x,c,ABC]
   ·have j:∀(k:Nat) (p:Nat×Nat),offs[k]?=some p→(fun k=>some (k*i.size,i.size)) k=some p:=fun k p hh=>by
     rw[g]at hh;simp only[AA0,No]at hh;obtain⟨C,t,rfl⟩:=hh;obtain⟨h1,a⟩:=aT.1 t;simp only[ABR]at a;subst a;rfl
    obtain⟨cells',c,d⟩:=OI m l j hp r;refine⟨rfl,.agg cells',?_,cells'.toList,by simp,d⟩;simp[Instr.build,q,iF hu,sizeOf,MF w hi,c]
 ·cases h
end
end
section
open Go Go.RowKit
section
variable {P:Program} {tb:Tb} {id:TypeId} {ti:TI} {w:World} {O0:Nat→Prop} {σ:St} {ρ:Nat→Value} {vc:Prop} {v:AV} {obs:List (Nat×Obj)}
theorem Wu {t:Ty} {w:World} {O:Nat→Prop} {v:Value} {d:t.den} (h:Bb w O t v d):v.cells.size=t.size∧Bq w O t v.cells.toList d:=by
 obtain⟨cs,a,rfl⟩:=h;rw[Tp a];exact⟨by simpa using a.length,a⟩
theorem H6 (w:World) (O:Nat→Prop) (e:Ty) (cells:List Value):Dv w O e cells []:=fun i x h=>by simp at h
theorem aP {V:Vw} (v:∀n o,lk n σ.objs=some o→A2 V o (V.ρ n)) {ev:Operand→Value} (s:GK V σ ev) {e:Ty} {N:Nat} :
  ∀ {parts:List (Nat×Operand)} {k:Nat} {xs pre:List e.den} {cells:Array Value},Ep σ e k parts=some xs→cells.size=N*e.size→k+xs.length≤N→pre.length=k →
   Dv V.w V.O e cells.toList pre →
   ∃cells':Array Value,Instr.fill (fun i=>some (i*e.size,e.size)) cells (parts.map fun p=>(p.1,ev p.2))=some cells'∧cells'.size=cells.size∧Dv V.w V.O e cells'.toList (pre++xs)
 | [],k,xs,pre,cells,h,hs,hk,hp,l=>by
  simp only[Ep]at h;cases h;exact⟨cells,rfl,rfl,by simpa using l⟩
 | (i,x) :: r,k,xs,pre,cells,h,hs,hk,hp,l=>by
  simp only[Ep]at h;split at h
  ·rename_i E;subst E;cases m:Aj σ x with
   | none=>rw[m]at h;cases h
   | some av =>
    rw[m]at h;simp only at h;split at h
    ·rename_i y ys L M;cases h;have K:=KM (O':=V.O) (fun _ h=>h) (fun h=>by cases h) v L (s x av m);obtain⟨h1,C⟩:=Wu K;simp only[OF]at hk;have d:i*e.size+(ev x).cells.size≤cells.size:=by
      rw[h1,hs,←AB0];exact oS _ (by omega)
     have A:(Az cells.toList (i*e.size) (ev x).cells.toList).length=cells.size:=by
      rw[FL]
      ·simp
      ·simpa using d
     have I:Dv V.w V.O e (Az cells.toList (i*e.size) (ev x).cells.toList) (pre++[y]):=by
      intro j z a;rw[AAM]at a;split at a
      ·rename_i F;obtain⟨B,c,f,g⟩:=l j z a;refine⟨B,c,fun q u b=>?_,g⟩;have J:q<e.size:=by rw[←c];exact(aT.1 b).1
       have H:j*e.size+q<i*e.size:=by
        have:(j+1)*e.size≤i*e.size:=oS _ (by omega);rw[AB0]at this;omega
       have D:i*e.size≤cells.toList.length:=by
        have:=d;simp;omega
       simp only[Az,oF];rw[AA5 (by rw[OS];omega),AAe,BY H];exact f q u b
      ·rename_i F;have G:j=i:=by
        have:=(aT.1 a).1;simp at this;omega
       subst G;have P:z=y:=by
        rw[hp,AAI]at a;simpa using a.symm
       subst P;refine⟨(ev x).cells.toList,by simpa using h1,fun q u b=>?_,C⟩;have J:q<(ev x).cells.toList.length:=(aT.1 b).1;have D:j*e.size≤cells.toList.length:=by
        have:=d;simp;omega
       have t:(cells.toList.take (j*e.size)).length=j*e.size:=by rw[OS];omega
       simp only[Az,oF];rw[AA2 (by rw[t];omega),t,AA5 (by omega)];rw[show j*e.size+q-j*e.size=q by omega];exact b
     obtain⟨cells',c,f,g⟩:=aP (N:=N) v s M (pre:=pre++[y]) (cells:=(Az cells.toList (i*e.size) (ev x).cells.toList).toArray) (by simp[A,hs]) (by omega) (by simp[hp]) (by simpa using I);refine⟨cells',?_,by rw[f];simp[A],by simpa using g⟩;rw[AA4,PR (by rw[h1]) d];exact c
    ·cases h
  ·cases h
theorem Sw {w:World} {et:TypeId} {sz n:Nat} {cells:Array Value} (hs:cells.size=n*sz) (hn:n≤AO) :
  (w.alloc (.cells cells et)).ownsRow w.heap.size et sz (.slice (some ⟨w.heap.size,0,none⟩) n n) n cells.toList :=
 ⟨by simpa using hs,.inr ⟨w.heap.size,n,cells,rfl,Is _,heap_alloc_new w _,Is _,by have h1:AO=140737488355328:=rfl;have a:maxLen=9223372036854775807:=rfl;omega,hs,An (by simp[hs])⟩⟩
theorem PT (hT:EJ P tb id ti) (c:DL P tb) (m:∀n o,lk n σ.objs=some o→A2 (vw w O0 σ ρ) o (ρ n)) {ev:Operand→Value} (l:GK (vw w O0 σ ρ) σ ev) {d n:Nat} {parts:List (Nat×Operand)}
  (h:BQ false σ d n parts (some ti)=some (vc,v,obs)) (t:vc) (hf:Bd obs σ=true) :
  ∃u ρ' w',(Instr.buildSlice id n (parts.map fun p=>(p.1,ev p.2)).toArray).run P w=.ok u w'∧QS w O0 σ ρ v obs u ρ' w':=by
 unfold BQ at h;split at h
 ·rename_i e offs el b k;cases k;obtain⟨hu,hs,te,s,rfl⟩:=CJ hT c;obtain⟨z,x,A⟩:=MG (c _ _ s) w;cases hp:Ep σ te.ty 0 parts with
  | none=>rw[hp]at h;simp[BX]at h
  | some xs =>
   rw[hp]at h;simp only[BX,AAT,ABk]at h;cases h;obtain⟨hn,y⟩:=t;subst hn;have q:=te.ty.size_pos;obtain⟨cells',h1,j,a⟩:=aP (V:=vw w O0 σ ρ) m l hp (N:=xs.length) (pre:=[]) (cells:=(Array.range (xs.length*te.ty.size)).map (fun i=>(if xs.length*te.ty.size=0 then (#[]:Array Value) else z.cells)[i % (if xs.length*te.ty.size=0 then (#[]:Array Value) else z.cells).size]!)) (by simp) (by omega) rfl (H6 _ _ _ _);have g:xs.length≤AO:=by
    have:xs.length*1≤xs.length*te.ty.size:=ABv _ q;simp only[AO];omega
   have r:cells'.size=xs.length*te.ty.size:=by rw[j];simp
   refine⟨_,_,_,?_,QS.arr hf (Fi w _) (Sw (et:=el) r g) g (by rw[ABo]at a;exact a) rfl⟩;have f:¬(xs.length*te.ty.size > 16777216):=by omega
   by_cases h0:xs.length*te.ty.size=0
   ·simp only[h0,AAQ]at h1;simp[Instr.buildSlice,iF hu,hs,f,h0,newRow];simp at h1;simp[h1]
   ·simp only[h0,ABk]at h1;simp only[Instr.buildSlice,AB2,iF hu,AAA,hs,At f,At h0,x,ABC,h1,newRow];rfl
 ·cases h
theorem A6h (hT:EJ P tb id ti) (H:DL P tb) (ae:∀n o,lk n σ.objs=some o→A2 (vw w O0 σ ρ) o (ρ n)) {ev:Operand→Value} (X:GK (vw w O0 σ ρ) σ ev) {d n:Nat} {y:TypeId} {parts:List (Nat×Operand)}
  (h:IG σ d y n parts (some ti)=some (vc,v,obs)) (C:vc) (hf:Bd obs σ=true) :
  ∃u ρ' w',(Instr.buildSlice id n (parts.map fun p=>(p.1,ev p.2)).toArray).run P w=.ok u w'∧QS w O0 σ ρ v obs u ρ' w':=by
 unfold IG at h;split at h
 ·rename_i x t offs el b V;cases V;obtain⟨hu,hs,te,ah,rfl⟩:=CJ hT H;obtain⟨z,aj,ao⟩:=MG (H _ _ ah) w;cases G:Aj σ x with
  | none=>rw[G]at h;unfold IE at h;split at h<;>first|(cases h;done)|(rename_i D;cases D)
  | some av =>
   rw[G]at h;unfold IE at h;split at h
   ·rename_i k e N aq ai S;cases S;have key:∀(a0:k.den) (c1:List Value) (a:Option Addr),NZ (vw w O0 σ ρ) N c1→EZ false σ k N=some a0→ev x=.agg (c1++[Value.slice a 0 0]).toArray→n=1∧k.size+1≤16777216→Bd [(d,Obj.nest el y k e [(a0,[])] none)] σ=true →
      ∃u ρ' w',(Instr.buildSlice id n ([(0,x)].map fun p=>(p.1,ev p.2)).toArray).run P w=.ok u w'∧QS w O0 σ ρ (.sr d (.agg (.prod k (.slice e))) 0 1) [(d,.nest el y k e [(a0,[])] none)] u ρ' w':=by
     intro a0 c1 a h1 q A aa hf;obtain⟨rfl,am⟩:=aa;have Z:Lay (.slice none 0 0) (.slice a 0 0):=.inr ⟨rfl,a,rfl⟩;have B:=aH (O':=own O0 σ ρ) (fun _ h=>h) (fun h=>by cases h) ae q h1;have B:Bq w (own O0 σ ρ) k c1 a0:=B;have F:=B.length;have ag:te.ty.size=k.size+1:=by rw[ai];rfl
     rw[ag]at hs;have I:(ev x).cells.toList=c1++[Value.slice a 0 0]:=by rw[A];simp[Value.cells]
     have af:Instr.fill (fun i=>some (i*(k.size+1),k.size+1)) ((Array.range (1*(k.size+1))).map (fun i=>z.cells[i % z.cells.size]!)) [(0,ev x)]=some (c1++[Value.slice a 0 0]).toArray:=by
      have J:(ev x).cells.size=k.size+1:=by rw[←ABM,I];simp[F]
      rw[PR (by rw[J]) (by rw[J];simp)];rw[I];simp only[Instr.fill,ACw,Az,AAX,ABo,AAS];rw[List.drop_of_length_le (by simp[F]),AAh]
     generalize L:(Value.tuple #[Value.slice (some ⟨w.heap.size,0,none⟩) 1 1,.slice none 0 0])=loc;have ab:∀b,bk loc b→w.heap.size≤b:=by grind [A9,blk]
     have s:=Sw (w:=w) (et:=el) (sz:=k.size+1) (n:=1) (cells:=(c1++[Value.slice a 0 0]).toArray) (by simp[F]) (by simp[AO]);have s:(w.alloc (.cells (c1++[Value.slice a 0 0]).toArray el)).ownsRow 0 el (k.size+1) (.slice (some ⟨w.heap.size,0,none⟩) 1 1) 1 (c1++[Value.slice a 0 0]):=⟨s.1,s.2.imp (fun h=>h) fun⟨g,cap,R,e,_,r⟩=>⟨g,cap,R,e,NO _,r⟩⟩;have hk:=IP (O0:=O0) (ρ:=ρ) (ρ':=Ek ρ d loc) hf (Fi w (.cells (c1++[Value.slice a 0 0]).toArray el)) (fun m f=>by
      simp only[lk]at f;split at f
      ·cases f
      ·rename_i e;simp[Ek,e]) (fun m o b f T=>by
      simp only[lk]at f;split at f
      ·grind [Bj]
      ·cases f)
     refine⟨.slice (some ⟨w.heap.size,0,none⟩) 1 1,Ek ρ d loc,w.alloc (.cells (c1++[Value.slice a 0 0]).toArray el),?_,QS.one (Fi w _) ab ?_ ?_⟩
     ·have ad:¬(1*(k.size+1) > 16777216):=by omega
      have h0:¬(1*(k.size+1)=0):=by omega
      simp only[Instr.buildSlice,AB2,iF hu,AAA,hs,At ad,At h0,aj,ABC,AA4,ACi,af,newRow];rfl
     ·refine⟨⟨.nest el y k e [(a0,[])] none,by simp[Ec,lk]⟩,?_⟩;show DK (plc (Ek ρ d loc d)) _ 0 1 _;rw[Bj,←L];exact Fh s
     ·refine⟨_,[.slice none 0 0],c1++[Value.slice a 0 0],.inl L.symm,by simp[AO],rfl,s,fun i ap u hi hu=>?_,fun i j b u v hi K hu an=>?_,fun i b u hi T _=>?_⟩
      ·rcases i with _|i
       ·simp only[ABg,AB9]at hi hu;subst hi hu;refine⟨c1,.slice a 0 0,fun j z K=>by simpa using K,B.mono hk.O hk.heap,.inr ⟨rfl,Z,by simp[AO],[],ABL _ 0 y _,H6 _ _ _ _⟩⟩
       ·simp at hi
      ·grind
      ·grind [blk]
    unfold Jm at h;obtain⟨cs,A,U⟩:=X x _ G;obtain⟨c1,c2,rfl,h1,D⟩:=U;obtain⟨ak,Q,rfl,c,E⟩:=D;have E:Q=[]:=E;subst E;split at h
    ·rename_i a0 q;cases h;obtain⟨M,rfl,_,c⟩:=c;have c:M=.slice none 0 0:=c;subst c;exact key a0 c1 none h1 q (by rw[A];simp) C hf
    ·rename_i a0 al l q;split at h
     ·rename_i W;subst W;cases h;obtain⟨M,rfl,_,_,a,c⟩:=c;obtain⟨C,Y⟩:=C;rw[Y]at c;subst c;exact key a0 c1 a h1 q (by rw[A];simp) C hf
     ·cases h
    ·cases h
   ·cases h
 ·cases h
theorem Wb (z:List Value) (f:0<z.length) (n:Nat) {i j:Nat} (b:j<z.length) (hi:i*z.length+j<n) {u:Value} (hu:z[j]?=some u) :
  (madeCells z.toArray n)[i*z.length+j]?=some u:=by
 simp only[madeCells,Array.getElem?_map,List.size_toArray];have e:(Array.range n)[i*z.length+j]?=some (i*z.length+j):=by grind
 rw[e];have d:(i*z.length+j) % z.length=j:=by
  rw[Nat.mul_comm,Nat.mul_add_mod];exact Nat.mod_eq_of_lt b
 simp only[ABd,d];have c:=(aT.1 hu);obtain⟨h1,a⟩:=c;simp[h1,a]
theorem A3Z (hT:EJ P tb id ti) (f:DL P tb) {e:Ty} {offs:List (Nat×Nat)} {el:TypeId} {b:Nat} (y:ti=⟨.slice e,offs,el,b⟩) {te:TI} (l:lk el tb.ty=some te) {n:Int} {d:Nat}
  (h0:0≤n) (hn:n.toNat*te.bytes≤AO) (hf:Bd [(d,.arr el e (List.replicate n.toNat e.dflt))] σ=true) :
  ∃u ρ' w',(Instr.makeSlice id (.int .i64 n) (.int .i64 n)).run P w=.ok u w'∧QS w O0 σ ρ (.sr d e 0 n.toNat) [(d,.arr el e (List.replicate n.toNat e.dflt))] u ρ' w':=by
 subst y;obtain⟨hu,hs,G,m,rfl⟩:=CJ hT f;rw[l]at m;cases m;obtain⟨⟨⟨_,p,_⟩,i,z,hi,k,E,C,D⟩,_⟩:=f _ _ l;have F:=te.ty.size_pos;have a:n.toNat≤AO:=by
  have:n.toNat*1≤n.toNat*te.bytes:=ABv _ p;omega
 have o:(i.bytes:Int)*n≤281474976710656:=by grind [AO]
 have v:=run_make (P:=P) w id el i z hu hi C .i64 .i64 n n h0 (ACd _) o (by simp only[AO]at a;omega);have c:te.ty.zero.length=te.ty.size:=(Bq.zero w (fun _=>False) te.ty).length;refine⟨_,_,_,v,QS.arr hf (Fi w _) (Sw (et:=el) (sz:=te.ty.size) (n:=n.toNat) (cells:=madeCells z.cells (n.toNat*i.size)) (by rw[size_madeCells,k]) a |> fun h=>by simpa using h) (by simpa using a) ?_ (by simp)⟩;intro j x A;have r:=(aT.1 A).1;simp only[ABU]at r;have B:x=te.ty.dflt:=by grind
 subst B;refine⟨te.ty.zero,c,fun q u g=>?_,Bq.zero _ _ _⟩;have t:=(aT.1 g).1;have s:j*te.ty.zero.length+q<n.toNat*i.size:=by
  rw[k,c];have:(j+1)*te.ty.size≤n.toNat*te.ty.size:=oS _ (by omega);rw[AB0]at this;omega
 have:=Wb te.ty.zero (by omega) (n.toNat*i.size) t s g;rw[c]at this;rw[D];simpa using this
theorem A6i (hT:EJ P tb id ti) (i:DL P tb) {d:Nat} {x y:AV} {xv c:Value} (h:II tb d (some ti) (some x) (some y)=some (vc,v,obs)) (o:vc)
  (p:B1 (vw w O0 σ ρ) x xv) (q:B1 (vw w O0 σ ρ) y c) (hf:Bd obs σ=true) :
  ∃u ρ' w',(Instr.makeSlice id xv c).run P w=.ok u w'∧QS w O0 σ ρ v obs u ρ' w':=by
 unfold II at h;split at h
 ·rename_i e offs el b n m j k l;cases j;cases k;cases l;cases a:lk el tb.ty with
  | none=>rw[a]at h;simp[Kw]at h
  | some te =>
   rw[a]at h;simp only[Kw]at h;cases h;obtain⟨rfl,_⟩:=BR p;obtain⟨rfl,_⟩:=BR q;obtain⟨h1,f,g⟩:=o;have h1:n=m:=h1;subst h1;exact A3Z hT i rfl a f g hf
 ·cases h
end
end
section
open Go Go.RowKit
theorem Wv {w:World} {O:Nat→Prop} {e:Ty}:∀ {l:List e.den} {ad:Addr},
  (∀(i:Nat) (x:e.den),l[i]?=some x→∃b:List Value,b.length=e.size∧(∀(j:Nat) (v:Value),b[j]?=some v→w.cell? (ad.add (i*e.size+j))=some v)∧Bq w O e b x) →
  ∃c:List Value,c.length=l.length*e.size∧Dv w O e c l∧(∀u∈c,u.oneCell'=true)∧(∀(j:Nat) (u:Value),c[j]?=some u→w.cell? (ad.add j)=some u)
 | [],ad,h=>⟨[],by simp,H6 _ _ _ _,by simp,by simp⟩
 | x :: l,ad,h=>by
  obtain⟨b,h1,q,m⟩:=h 0 x rfl;obtain⟨c,n,o,p,r⟩:=Wv (w:=w) (O:=O) (e:=e) (l:=l) (ad:=ad.add e.size) (fun i y hi=>by
   obtain⟨d,f,g,k⟩:=h (i+1) y (by simpa using hi);refine⟨d,f,fun j v a=>?_,k⟩;rw[Da,show e.size+(i*e.size+j)=(i+1)*e.size+j by rw[AB0];omega];exact g j v a)
  refine⟨b++c,by simp[h1,n,AB0];omega,fun i y hi=>?_,fun u hu=>?_,fun j u a=>?_⟩
  ·cases i with
   | zero =>
    simp at hi;subst hi;refine⟨b,h1,fun j u a=>?_,m⟩;rw[ACw,AAS,AA5 (aT.1 a).1];exact a
   | succ i =>
    obtain⟨d,f,g,k⟩:=o i y (by simpa using hi);refine⟨d,f,fun j u a=>?_,k⟩;rw[AA2 (by rw[h1,AB0];omega),h1,show (i+1)*e.size+j-e.size=i*e.size+j by rw[AB0];omega];exact g j u a
  ·rcases Of.1 hu with hu|hu
   ·exact m.one u hu
   ·exact p u hu
  ·grind [Da]
section
variable {P:Program} {tb:Tb} {id:TypeId} {ti:TI} {w:World} {O0:Nat→Prop} {σ:St} {ρ:Nat→Value} {vc:Prop} {v:AV} {obs:List (Nat×Obj)}
structure Src (w:World) (O:Nat→Prop) (e:Ty) (xv:Value) (ys:List e.den) (news:List Value):Prop where
 form:∃(a:Option Addr) (c:Nat),xv=.slice a ys.length c∧(ys=[]∨∃ad,a=some ad∧∀(j:Nat) (u:Value),news[j]?=some u→w.cell? (ad.add j)=some u)
 len:news.length=ys.length*e.size
 elems:Dv w O e news ys
 one:∀u∈news,u.oneCell'=true
 max:ys.length≤AO
theorem Sx (w:World) (O:Nat→Prop) (e:Ty) (a:Option Addr) (c:Nat):Src w O e (.slice a 0 c) [] [] :=
 ⟨⟨a,c,rfl,.inl rfl⟩,by simp,H6 _ _ _ _,by simp,by simp[AO]⟩
theorem Ww {V:Vw} {et:TypeId} {e:Ty} {xs:List e.den} {loc:Value} {cells:List Value} (k:V.w.ownsRow 0 et e.size loc xs.length cells) (g:Dv V.w V.O e cells xs):∀u∈cells,u.oneCell'=true:=by
 intro u hu;obtain⟨j,h,i⟩:=AA6.1 hu;have l:=k.1;have c:=e.size_pos;have hi:j / e.size<xs.length:=by
  rw[Nat.div_lt_iff_lt_mul c];omega
 obtain⟨a,h1,d,f⟩:=g (j / e.size) (xs[j / e.size]) (AT hi);have b:j % e.size<a.length:=by rw[h1];exact ACW _ c
 have:=d (j % e.size) (a[j % e.size]) (AT b);rw[show j / e.size*e.size+j % e.size=j by rw[Nat.mul_comm];exact Nat.div_add_mod j e.size]at this;rw[AT h]at this;injection this with this
 rw[←i,this];exact f.one _ (AAs b)
def noN (σ:St):AV→Bool
 | .sr n _ _ _=>Ci (lk n σ.objs)
 | _=>false
theorem p9 {w:World} {O:Nat→Prop} {et:TypeId} {b:Ty} {xs:List b.den} {loc xv:Value} {cells:List Value} {lo hi:Nat} (P:xs.length≤AO) (f:w.ownsRow 0 et b.size loc xs.length cells) (n:Dv w O b cells xs) (F:DK loc b.size lo hi xv) :
  ∃H,Src w O b xv (sub xs lo hi) H:=by
 have S:=Ww (V:=⟨w,O,fun _=>False,fun _=>undef⟩) f n;obtain⟨a,m,c,q,M,o,k,l,rfl,I,h0,h1⟩:=F;have D:m=xs.length:=by
  rcases f.2 with ⟨d,E⟩|⟨g,cap,s,d,_⟩
  ·grind
  ·rw[q]at d;injection d
 subst D;have e:=OE xs (lo:=lo) o;by_cases B:lo<hi
 ·rcases f.2 with ⟨d,E⟩|⟨g,cap,s,d,r⟩
  ·omega
  ·have J:=World.ownsRow.cells f (g:=g) (by rw[d];rfl);have ha:a=some ⟨g,0,none⟩:=by rw[q]at d;injection d
   subst ha;have K:=f.1;have Q:hi*b.size≤xs.length*b.size:=oS _ o;have R:lo*b.size≤hi*b.size:=oS _ (by omega);refine⟨(cells.drop (lo*b.size)).take ((hi-lo)*b.size),⟨k,l,by rw[e],.inr ⟨_,h1 B,fun j u h=>?_⟩⟩,?_,?_,?_,?_⟩
   ·grind [Da]
   ·rw[e,OS,AAr,Nat.sub_mul];omega
   ·intro i x A;obtain⟨G,N⟩:=Ym xs lo hi i A;obtain⟨t,v,y,z⟩:=n (lo+i) x G;refine⟨t,v,fun j u h=>?_,z⟩;have L:=(aT.1 h).1;have C:i*b.size+j<(hi-lo)*b.size:=by
     have:(i+1)*b.size≤(hi-lo)*b.size:=oS _ (by omega);rw[AB0]at this;omega
    rw[AAe,BY C,AAz];have:=y j u h
    rwa [ACt,ACJ]at this
   ·grind
   ·rw[e];omega
 ·have p:sub xs lo hi=[]:=nO (by rw[e];omega);refine⟨[],⟨k,l,by rw[e],.inl p⟩,by rw[e,show hi-lo=0 by omega];simp,?_,by simp,by rw[e];omega⟩;rw[p];exact H6 _ _ _ _
theorem Ys (q:∀n o,lk n σ.objs=some o→A2 (vw w O0 σ ρ) o (ρ n)) {e:Ty} {x:AV} {xv:Value} {ys:List e.den} (h:Kv true σ (.slice e) x=some ys) (F:noN σ x=false) (s:B1 (vw w O0 σ ρ) x xv) :
  ∃C,Src w (own O0 σ ρ) e xv ys C:=by
 replace h:EZ true σ (.slice e) x=some ys:=by
  unfold Kv at h;exact h
 cases x;case p u I =>
  have h:BP (.slice e) ⟨u,I⟩=some ys:=by simpa only[EZ] using h
  have:=BD h;injection this with h1 D
  subst h1;cases D;obtain⟨cs,⟨a,c,rfl,m,N,y⟩,rfl⟩:=s;by_cases hn:ys=[]
  ·subst hn;exact⟨[],Sx _ _ _ _ _⟩
  ·rcases y with y|⟨ad,rfl,W,g⟩
   ·exact absurd y hn
   ·obtain⟨C,d,f,K,M⟩:=Wv g;exact⟨C,⟨some ad,c,rfl,.inr ⟨ad,rfl,M⟩⟩,d,f,K,N⟩
 case sr n J lo hi =>
  simp only[EZ]at h;split at h
  ·rename_i A;obtain⟨_,rfl⟩:=A;obtain⟨O,b⟩:=s;cases hn:lk n σ.objs with
   | none=>rw[hn]at h;simp[O7]at h
   | some o =>
    rw[hn]at h;cases o with
    | box et st fs=>simp[O7]at h
    | mapo k v l=>simp[O7]at h
    | frame ag fs=>simp[O7]at h
    | loop L=>simp[O7]at h
    | itr aa af ab ae Z=>simp[O7]at h
    | dfr=>simp[O7]at h
    | nest et V k t xs E=>rw[noN,hn]at F;cases F
    | arr et t xs =>
     simp only[O7]at h;obtain⟨d,f⟩:=Bk h;subst d;cases f;have b:DK (plc (ρ n)) t.size lo hi xv:=b;rw[PO (q n _ hn)]at b;obtain⟨B,cells,j,g⟩:=q n _ hn;exact p9 B j g b
  ·cases h
 case nin n J i len =>
  simp only[EZ]at h;split at h
  ·rename_i A;obtain⟨_,rfl⟩:=A;obtain⟨O,ai,a,c,H,G,r,R,X⟩:=s;cases hn:lk n σ.objs with
   | none=>rw[hn]at h;simp[O8]at h
   | some o =>
    rw[hn]at h;unfold O8 at h;split at h
    ·rename_i et V k t xs T;cases T;obtain⟨d,f⟩:=Bk h;subst d;cases f;have Q:=Sv (z:=(k.dflt,[])) (q n _ hn) G r;obtain⟨o,ins,cells,E,P⟩:=q n _ hn;obtain rfl:=E.tup G;have r:ins[i]?=some H:=by simpa using r
     obtain⟨c1,ah,h1,D,m⟩:=P.row i _ H Q r;rcases m with ⟨m,_⟩|⟨_,_,B,Y,j,g⟩
     ·cases m
     ·rcases R with rfl|⟨rfl,a0,rfl⟩
      ·have:=p9 B j g (Fh j)
       rwa [Hl]at this
      ·have S:=K5 j;have U:(xs.getD i (k.dflt,[])).2=[]:=nO S.symm;rw[U];exact⟨[],Sx _ _ _ _ _⟩
    ·cases h
  ·cases h
 case raw u =>
  have b:xv=u:=s;subst b;cases xv with
  | slice a n c =>
   cases a with
   | some a=>simp[EZ]at h
   | none =>
    cases n with
    | succ n=>simp[EZ]at h
    | zero =>
     cases c with
     | succ c=>simp[EZ]at h
     | zero =>
      simp only[EZ]at h;cases h;exact⟨[],Sx _ _ _ _ _⟩
  | _=>simp[EZ]at h
 all_goals simp[EZ]at h
theorem Sy (a:∀n o,lk n σ.objs=some o→A2 (vw w O0 σ ρ) o (ρ n)) {e:Ty} {x:AV} {xv:Value} {ys:List e.den} (h:O6 σ e x=some ys) (b:B1 (vw w O0 σ ρ) x xv) :
  ∃f,Src w (own O0 σ ρ) e xv ys f:=by
 unfold O6 at h;split at h
 ·split at h
  ·cases h
  ·rename_i c;exact Ys a h (by simpa[noN] using c) b
 ·rename_i d;refine Ys a h ?_ b;cases x<;>first|rfl|exact absurd rfl (d _ _ _ _)
theorem R0 {el:TypeId} (hu:P.underlying id=some (.slice el)) {sz:Nat} (hs:(sizeOf el).run P w=.ok sz w) {base et ty:Nat} {s:Value} {n:Nat} {xs:List Value} (b:w.ownsRow base et sz s n xs) (c:Nat) :
  (Builtin.append_ #[id,id] ty #[s,.slice none 0 c]).run P w=.ok s w:=by
 rcases b.2 with ⟨rfl,rfl⟩|⟨g,cap,d,rfl,_,_,a,_⟩
 ·simp[Builtin.append_,iF hu,hs,Builtin.lenOf,Builtin.firstCells]
 ·simp[Builtin.append_,iF hu,hs,Builtin.lenOf,Builtin.firstCells,a,storeCells]
theorem Gc (k:DL P tb) {el:TypeId} {e:Ty} (hu:P.underlying id=some (.slice el)) {te:TI} (q:lk el tb.ty=some te) (A:te.ty=e) {base ty:Nat} {s xv:Value} {n:Nat} {xs h:List Value}
    (g:w.ownsRow base el e.size s n xs) {O:Nat→Prop} {ys:List e.den} (D:Src w O e xv ys h) (r:(n+ys.length)*te.bytes≤AO) (l:base≤w.heap.size) :
    ∃b w',(Builtin.append_ #[id,id] ty #[s,xv]).run P w=.ok b w'∧w'.ownsRow base el e.size b (n+ys.length) (xs++h)∧w.grownBy w' s.ownBlock∧n+ys.length≤AO:=by
  subst A;obtain⟨⟨⟨_,x,_⟩,i,z,hi,p,m,t,u⟩,_⟩:=k _ _ q;have f:n+ys.length≤AO:=by
    have:(n+ys.length)*1≤(n+ys.length)*te.bytes:=ABv _ x;omega
  obtain⟨⟨a,c,rfl,v⟩,o,E,C,F⟩:=D;have hs:(sizeOf el).run P w=.ok te.ty.size w:=IQ w (k _ _ q);rcases v with rfl|⟨ad,rfl,y⟩
  · have B:h=[]:=nO (by simpa using o)
    subst B;cases a with
    | none =>
      refine⟨s,w,R0 hu hs g c,by simpa using g,⟨rfl,rfl,rfl,Is _,fun _ _ _=>rfl⟩,f⟩
    | some ad =>
      obtain⟨b,w',h1,d,j,_⟩:=run_append_own (P:=P) w base id ty el i z te.ty.size te.bytes hu hi t p m (by rw[u];simpa using (Bq.zero w (fun _=>False) te.ty).length) te.ty.size_pos s n xs g ad 0 c [] (by simp) (by simp) (by simp)
        (by have h1:AO=140737488355328:=rfl;have d:maxLen=9223372036854775807:=rfl;simp at f;omega) (by simpa[AO] using r) l
      exact⟨b,w',h1,by simpa using d,j,f⟩
  · obtain ⟨b, w', h1, d, j, _⟩ := run_append_own (P := P) w base id ty el i z te.ty.size te.bytes hu hi t p m (by rw [u]; simpa using (Bq.zero w (fun _ => False) te.ty).length) te.ty.size_pos s n xs g ad ys.length c h o y C
        (by have h1:AO=140737488355328:=rfl;have d:maxLen=9223372036854775807:=rfl;omega) (by simpa[AO] using r) l
    exact⟨b,w',h1,d,j,f⟩
theorem K7 {w:World} {O:Nat→Prop} {e:Ty} {c1 c2:List Value} {xs ys:List e.den} (h1:Dv w O e c1 xs) (f:Dv w O e c2 ys) (h:c1.length=xs.length*e.size):Dv w O e (c1++c2) (xs++ys):=by
 intro i x hi;rw[AAM]at hi;split at hi
 ·obtain⟨a,b,c,d⟩:=h1 i x hi;grind
 ·rename_i k;obtain⟨a,b,c,d⟩:=f _ x hi;refine⟨a,b,fun j u g=>?_,d⟩;have l:xs.length*e.size≤i*e.size:=oS _ (by omega);rw[AA2 (by omega),h];have:=c j u g;rw[Nat.sub_mul]at this;rw[←this]
  congr 1
  omega
theorem R1 (k:DL P tb) {el:TypeId} {e:Ty} (hu:P.underlying id=some (.slice el)) {te:TI} (m:lk el tb.ty=some te) (x:te.ty=e) {ty:Nat} {xv:Value} {O:Nat→Prop} {xs:List e.den} {a:Option Addr} {c:List Value}
  (hs:Src w O e (.slice a xs.length xs.length) xs c) {ys:List e.den} {d:List Value} (l:Src w O e xv ys d) (h0:0<ys.length) (n:(xs.length+ys.length)*te.bytes≤AO) :
  ∃b w',(Builtin.append_ #[id,id] ty #[.slice a xs.length xs.length,xv]).run P w=.ok b w'∧w'.ownsRow w.heap.size el e.size b (xs.length+ys.length) (c++d)∧w.grownBy w' none:=by
 subst x;have o:∀ad:Addr,a=some ad→(∀(j:Nat) (u:Value),c[j]?=some u→w.cell? (ad.add j)=some u)→∃b w',(Builtin.append_ #[id,id] ty #[.slice a xs.length xs.length,xv]).run P w=.ok b w'∧w'.ownsRow w.heap.size el te.ty.size b (xs.length+ys.length) (c++d)∧w.grownBy w' none:=by
  intro ad ha D;subst ha;obtain⟨⟨⟨_,s,_⟩,i,z,hi,E,t,F,G⟩,_⟩:=k _ _ m;obtain⟨⟨I,c2,rfl,f⟩,A,M,T,Q⟩:=l;have S:xs.length+ys.length≤AO:=by
   have:(xs.length+ys.length)*1≤(xs.length+ys.length)*te.bytes:=ABv _ s;omega
  rcases f with rfl|⟨p,rfl,g⟩
  ·simp at h0
  ·exact run_append_arg_grows (P:=P) w id ty el i z te.ty.size te.bytes hu hi F E t (by rw[G];simpa using (Bq.zero w (fun _=>False) te.ty).length) te.ty.size_pos ad xs.length xs.length c hs.len D p ys.length c2 d A g (by omega)
    (by have h1:AO=140737488355328:=rfl;have h:maxLen=9223372036854775807:=rfl;omega) (by simpa[AO] using n)
 obtain⟨⟨H,c1,v,f⟩,B,N,U,R⟩:=hs;injection v with q J K
 subst q;rcases f with rfl|⟨ad,ha,g⟩
 ·have C:c=[]:=nO (by simpa using B);subst C;cases a with
  | some ad=>exact o ad rfl fun j u y=>by simp at y
  | none =>
   obtain⟨b,w',h1,h,r,L⟩:=Gc (ty:=ty) k hu m rfl (ABL w w.heap.size el te.ty.size) l (by simpa using n) (Is _);exact⟨b,w',h1,by simpa using h,r⟩
 ·exact o ad ha g
theorem R2 {w w':World} (h:w.grownBy w' none):Below w.heap.size w w':=⟨h.os,h.tape,h.output,h.size,fun k hk=>h.block k hk (by simp)⟩
theorem yT (a:DL P tb) (E:∀n o,lk n σ.objs=some o→A2 (vw w O0 σ ρ) o (ρ n)) {d:Nat} {t u:TypeId} {x y:AV} {xv J:Value} {ty:TypeId}
  (h:Ca tb σ d t u (some x) (some y)=some (vc,v,obs)) (m:vc) (q:B1 (vw w O0 σ ρ) x xv) (H:B1 (vw w O0 σ ρ) y J) (hf:Bd obs σ=true) :
  ∃z ρ' w',(Builtin.append_ #[t,u] ty #[xv,J]).run P w=.ok z w'∧QS w O0 σ ρ v obs z ρ' w':=by
 unfold Ca at h;split at h
 ·rename_i C D;cases C;cases D;have q:xv=_:=q;subst q;split at h
  ·rename_i G;subst G;cases c:lk t tb.ty with
   | none=>rw[c]at h;simp[EF]at h
   | some ti =>
    rw[c]at h;unfold EF at h;split at h
    ·rename_i e offs el b B;cases B;obtain⟨hu,hs,te,i,k⟩:=CJ (a _ _ c) a;rw[i]at h;cases f:O6 σ e y with
     | none=>rw[f]at h;simp[Eq]at h
     | some ys =>
      rw[f]at h;simp only[Eq]at h;cases h;obtain⟨I,g⟩:=Sy E f H;obtain⟨r,w',h1,j,A,O⟩:=Gc (ty:=ty) a hu i k (ABL w w.heap.size el e.size) g (by simpa using m) (Is _);have j:w'.ownsRow w.heap.size el e.size r ys.length I:=by simpa using j
      exact⟨r,_,w',h1,QS.arr hf (R2 A) j g.max g.elems rfl⟩
    ·cases h
  ·cases h
 ·rename_i e l v1 C D;cases C;cases D;split at h
  ·rename_i G;subst G;obtain⟨M,a0,rfl⟩:=q;cases c:lk t tb.ty with
   | none=>rw[c]at h;simp[IJ]at h
   | some ti =>
    rw[c]at h;unfold IJ at h;split at h
    ·rename_i s offs el b B;cases B;split at h
     ·rename_i k;subst k;obtain⟨hu,hs,te,i,k⟩:=CJ (a _ _ c) a;rw[i]at h;cases f:O6 σ s y with
      | none=>rw[f]at h;simp[Jn]at h
      | some ys =>
       rw[f]at h;simp only[Jn]at h;cases h;obtain⟨N,m⟩:=m;obtain⟨I,g⟩:=Sy E f H;obtain⟨Q,F⟩:=Ys (e:=s) (ys:=l) (x:=.p (.slice s) l) E (by simp[Kv,EZ,Eo]) rfl M;obtain⟨r,w',h1,j,A⟩:=R1 (ty:=ty) a hu i k F g N m;have L:(l++ys).length≤AO:=by
        obtain⟨⟨⟨_,K,_⟩,_⟩,_⟩:=a _ _ i;have:(l.length+ys.length)*1≤(l.length+ys.length)*te.bytes:=ABv _ K;rw[Do];omega
       exact⟨r,_,w',h1,QS.arr hf (R2 A) (by rw[Do];exact j) L (K7 F.elems g.elems F.len) (by rw[Do])⟩
     ·cases h
    ·cases h
  ·cases h
 ·cases h
end
end
section
open Go Go.RowKit
def Tq:Ty→Option TypeDesc
 | .int k=>some (.int k)
 | .bool=>some .bool
 | .str=>some .string
 | .prod _ _=>none
 | .agg _=>none
 | .slice _=>none
 | .ref _=>none
section
variable {w:World} {O:Nat→Prop}
theorem M2 {a:Ty} {d:TypeDesc} (b:Tq a=some d) {k:a.den} {c:Value} (h:Bb w O a c k):MapKept.IsKey d c:=by
 cases a<;>simp only[Tq]at b<;>try(cases b;done)
 all_goals cases b
 ·obtain⟨rfl,_⟩:=BR h;trivial
 ·have:=EW h;subst this;trivial
 ·obtain⟨rfl,_⟩:=Gz h;trivial
theorem aQ {a:Ty} {d:TypeDesc} (c:Tq a=some d) {k e:a.den} {f g:Value} (h:Bb w O a f k) (b:Bb w O a g e):Instr.sameNow d f g=some (Jk a k e):=by
 cases a<;>simp only[Tq]at c<;>try(cases c;done)
 all_goals cases c
 ·obtain⟨rfl,_⟩:=BR h;obtain⟨rfl,_⟩:=BR b;simp[Instr.sameNow,Jk]
 ·have:=EW h;subst this;have:=EW b;subst this;simp[Instr.sameNow,Jk]
 ·obtain⟨rfl,_⟩:=Gz h;obtain⟨rfl,_⟩:=Gz b;simp[Instr.sameNow,Jk]
theorem A6j {a:Ty} {d:TypeDesc} (b:Tq a=some d) {k e:a.den} {f g:Value} (h:Bb w O a f k) (c:Bb w O a g e) (l:Jk a k e=true):g=f:=by
 have h1:=aQ b h c;obtain⟨r,i,j⟩:=MapKept.sameNow_of_keys (M2 b h) (M2 b c);grind
def Hf (a b:Ty) (k:a.den):List MapEntry→List (a.den×b.den)→Nat→Option (Nat×Value)
 | e :: c,x :: l,i=>if Jk a k x.1=true then some (i,e.val) else Hf a b k c l (i+1)
 | _,_,_=>none
end
structure Tr (P:Program) (kid:TypeId) (kt:Ty):Prop where
 check:∀ {w:World} {O:Nat→Prop} {kv:Value} {k:kt.den} (em:Bool),Bb w O kt kv k→(Instr.checkKey em 10000 kid kv).run P w=.ok () w
 find:∀ {w:World} {O:Nat→Prop} {vt:Ty} {es:List MapEntry} {l:List (kt.den×vt.den)} {kv:Value} {k:kt.den},Bb w O kt kv k→KK w O kt vt es l→(Instr.findKey kid kv es).run P w=.ok (Hf kt vt k es l 0) w
 stays:∀ {w:World} {O:Nat→Prop} {kv:Value} {k:kt.den},Bb w O kt kv k→(Instr.keyThatStays kv kv).run P w=.ok kv w
 same:∀ {w:World} {O:Nat→Prop} {kv kv':Value} {k k':kt.den},Bb w O kt kv k→Bb w O kt kv' k'→Jk kt k k'=true→kv'=kv
theorem Wx {w:World} {O:Nat→Prop} {a c:Ty} {d:TypeDesc} (g:Tq a=some d) {k:a.den} {j:Value} (hk:Bb w O a j k):∀ {b:List MapEntry} {l:List (a.den×c.den)},KK w O a c b l→∀i,Instr.findNow d j b i=some (Hf a c k b l i)
 | [],[],_,i=>rfl
 | [],_ :: _,h,_=>h.elim
 | _ :: _,[],h,_=>h.elim
 | e :: b,x :: l,⟨h1,o,m⟩,i=>by
  have hs:=aQ g hk h1;have n:=Wx g hk m (i+1);cases f:Jk a k x.1<;>rw[f]at hs<;>simp[Instr.findNow,Hf,hs,f,n]
theorem Gu {P:Program} {kid:TypeId} {kt:Ty} {d:TypeDesc} (hd:Tq kt=some d) (hu:P.underlying kid=some d):Tr P kid kt where
 check:=fun em h=>MapKept.run_checkKey hu (M2 hd h) em 9999
 find:=fun hk he=>MapKept.run_findKey hu (Wx hd hk he 0)
 stays:=fun h=>MapKept.run_keyThatStays (M2 hd h)
 same:=fun h h' he=>A6j hd h h' he
theorem Fj {w:World} {O:Nat→Prop} {a b:IntKind} {v:Value} {d:(Ty.agg (.prod (.int a) (.int b))).den} (h:Bb w O (.agg (.prod (.int a) (.int b))) v d):v=.agg #[.int a d.1,.int b d.2]:=by
 obtain⟨cs,⟨c1,c2,rfl,⟨rfl,_⟩,⟨rfl,_⟩⟩,rfl⟩:=h;rfl
theorem R3 {P:Program} {w:World} {t:TypeId} {a:IntKind} (h:P.underlying t=some (.int a)) (d:Nat) (x y:Int):(Op.equalIn (d+1) t (.int a x) (.int a y)).run P w=.ok (x==y) w:=by simp[Op.equalIn,iF h]
theorem PU {P:Program} {w:World} {t:TypeId} {a:IntKind} (h:P.underlying t=some (.int a)) (em:Bool) (d:Nat) (x:Int):(Instr.checkKey em (d+1) t (.int a x)).run P w=.ok () w:=by simp[Instr.checkKey,iF h]
theorem Wc {P:Program} {w:World} {h:TypeId} {a b:IntKind} (hp:Mz P h a b) (em:Bool) (d:Nat) (x y:Int):(Instr.checkKey em (d+2) h (.agg #[.int a x,.int b y])).run P w=.ok () w:=by
 obtain⟨c,e,hu,⟨h1,j⟩,⟨l,m⟩,⟨f,g⟩,s⟩:=hp;have i : c.name ≠ "_" := by simpa using h1
 have k : e.name ≠ "_" := by simpa using j
 have n:P.plainKey c.type=true:=by simp[Program.plainKey,f]
 have o:P.plainKey e.type=true:=by simp[Program.plainKey,g]
 have p0:=fun(u v:Value)=>ACF (P:=P) w n (xs:=#[u,v]) (off:=c.offset) (v:=u) (by rw[l];rfl);have p:=fun(u v:Value)=>ACF (P:=P) w o (xs:=#[u,v]) (off:=e.offset) (v:=v) (by rw[m];rfl);have q:=fun x:Int=>PU (w:=w) f em d x;have r:=fun x:Int=>PU (w:=w) g em d x;rw[Instr.checkKey];simp[iF hu,i,k,p0,p,q,r]
theorem Ts {P:Program} {g:TypeId} {a b:IntKind} (hp:Mz P g a b) (w:World) (h i j k:Int):(Op.equal g (.agg #[.int a h,.int b i]) (.agg #[.int a j,.int b k])).run P w=.ok ((h==j)&&(i==k)) w:=by
 obtain⟨d,f,hu,⟨h1,l⟩,⟨r,s⟩,⟨m,n⟩,t⟩:=hp;have o:P.fieldsOf g=#[d,f]:=by simp[Program.fieldsOf,hu]
 have z:P.plainKey d.type=true:=by simp[Program.plainKey,m]
 have A:P.plainKey f.type=true:=by simp[Program.plainKey,n]
 have h1 : d.name ≠ "_" := by simpa using h1
 have l : f.name ≠ "_" := by simpa using l
 have B:∀x y:Int,(Op.equalIn 9999 d.type (.int a x) (.int a y)).run P w=.ok (x==y) w:=fun x y=>R3 m 9998 x y;have p:∀x y:Int,(Op.equalIn 9999 f.type (.int b x) (.int b y)).run P w=.ok (x==y) w:=fun x y=>R3 n 9998 x y;have e:(Op.equal g (.agg #[.int a h,.int b i]) (.agg #[.int a j,.int b k])).run P w=_:=run_equalIn_struct (P:=P) w 9999 g _ _ (by rw[o];exact hu) t;rw[e,o];have p0:=fun(u v:Value)=>ACF (P:=P) w z (xs:=#[u,v]) (off:=d.offset) (v:=u) (by rw[r];rfl);have q:=fun(u v:Value)=>ACF (P:=P) w A (xs:=#[u,v]) (off:=f.offset) (v:=v) (by rw[s];rfl);simp only[Op.eqFields,h1,l,ne_eq,not_false_eq_true,AAQ,AB2,p0,q,AAA,B,p];by_cases c:h=j
 ·by_cases c2:i=k<;>simp[c,c2,Sem.run_ite,AB2,q,p,Op.eqFields]
 ·simp[c,Sem.run_ite]
theorem Wy {P:Program} {g:TypeId} {a b:IntKind} (hp:Mz P g a b) {w:World} {O:Nat→Prop} {d:Ty} {k:(Ty.agg (.prod (.int a) (.int b))).den} {j:Value} (hk:Bb w O (.agg (.prod (.int a) (.int b))) j k) :
  ∀ {c:List MapEntry} {l:List ((Ty.agg (.prod (.int a) (.int b))).den×d.den)},KK w O (.agg (.prod (.int a) (.int b))) d c l→∀i,(Instr.findAsking g j c i).run P w=.ok (Hf (.agg (.prod (.int a) (.int b))) d k c l i) w
 | [],[],_,i=>rfl
 | [],_ :: _,h,_=>h.elim
 | _ :: _,[],h,_=>h.elim
 | e :: c,x :: l,⟨h1,p,m⟩,i=>by
  have o:=Wy hp hk m (i+1);have f:=Ts hp w k.1 k.2 x.1.1 x.1.2;rw[←Fj hk,←Fj h1]at f;have n:Jk (.agg (.prod (.int a) (.int b))) k x.1=((k.1==x.1.1)&&(k.2==x.1.2)):=rfl;simp only[Instr.findAsking,AB2,f,AAA,Hf,n,Sem.run_ite];split
  ·rfl
  ·exact o
theorem aR {P:Program} {kid:TypeId} {a b:IntKind} (hp:Mz P kid a b):Tr P kid (.agg (.prod (.int a) (.int b))) where
 check:=fun em h=>by
  rw[Fj h];exact Wc hp em 9998 _ _
 find:=fun hk he=>by
  have hp2:=hp;obtain⟨f0,f1,hu,_⟩:=hp2;rw[run_findKey_eq _ (by rw[hu])];exact Wy hp hk he 0
 stays:=fun h=>by
  rw[Fj h];simp[Instr.keyThatStays,Instr.sameBits]
 same:=fun h h' he=>by
  rw[Fj h,Fj h'];have he:((_==_)&&(_==_))=true:=he;grind
theorem Qw {P:Program} {B:TypeId} {w:World} {O:Nat→Prop} {c a:Ty} (t:Tr P B c) {k:c.den} {n:Value} (hk:Bb w O c n k):∀ {g:List MapEntry} {l:List (c.den×a.den)},KK w O c a g l→∀i,
  (A8 c a k l=none∧Hf c a k g l i=none∧∀(v:a.den) (d:Value) (b:Nat),Bb w O a d v→KK w O c a (g++[⟨n,d,b⟩]) (IC c a k v l)) ∨
  ∃(j:Nat) (e:MapEntry) (v0:a.den),A8 c a k l=some v0∧Hf c a k g l i=some (i+j,e.val)∧g[j]?=some e∧Bb w O a e.val v0∧e.key=n ∧
   ∀(v:a.den) (d:Value),Bb w O a d v→KK w O c a (g.modify j fun e=>{ e with key:=n,val:=d }) (IC c a k v l)
 | [],[],_,i=>.inl ⟨rfl,rfl,fun v d b m=>⟨hk,m,trivial⟩⟩
 | [],_ :: _,h,_=>h.elim
 | _ :: _,[],h,_=>h.elim
 | e :: g,x :: l,⟨h1,q,s⟩,i=>by
  cases f:Jk c k x.1 with
  | true =>
   refine .inr ⟨0,e,x.2,by simp[A8,f],by simp[Hf,f],rfl,q,t.same hk h1 f,fun v d m=>?_⟩;simp only[IC,f,AAQ];exact⟨hk,m,s⟩
  | false =>
   rcases Qw t hk s (i+1) with ⟨o,r,p⟩|⟨j,u,v0,o,r,p,y,z,A⟩
   ·refine .inl ⟨by simp[A8,f,o],by simp[Hf,f,r],fun v d b m=>?_⟩;simp only[IC,f,AAT,ABk];exact⟨h1,q,p v d b m⟩
   ·refine .inr ⟨j+1,u,v0,by simp[A8,f,o],?_,by simpa using p,y,z,fun v d m=>?_⟩
    ·grind [Hf]
    ·simp only[IC,f,AAT,ABk,List.modify_succ_cons];exact⟨h1,q,A v d m⟩
theorem aU {P:Program} {tb:Tb} {id:TypeId} {ti:TI} (hT:EJ P tb id ti) (c:ti.el=0) (hk:Td ti.ty=true):Tr P id ti.ty:=by
 have a:=hT.2;obtain⟨⟨⟨_,_,b⟩,_⟩,_⟩:=hT;rw[c]at b;cases d:ti.ty<;>rw[d]at a hk b<;>simp only[Td]at hk<;>try(cases hk;done)
 ·exact Gu rfl a
 ·exact Gu rfl a
 ·exact Gu rfl a
 ·unfold aE at hk;split at hk
  ·exact aR b
  ·cases hk
theorem tY {t:Ty} {z:Value} (c:z.cells=t.zero.toArray) (hf:Yp t z=true):z=t.wrap t.zero:=by
 cases t with
 | agg t =>
  cases z<;>simp only[Yp]at hf<;>try(cases hf;done)
  simp only[Value.cells]at c;rw[c];rfl
 | prod a b=>cases z<;>simp[Yp]at hf
 | _=>cases z<;>simp only[Yp]at hf<;>(try(cases hf;done))<;>(simp only[Value.cells,Ty.zero]at c;simp[Ty.wrap,Ty.zero]at c ⊢<;>exact c)
section
variable {P:Program} {tb:Tb} {w:World} {O0:Nat→Prop} {σ:St} {ρ:Nat→Value} {vc:Prop} {v:AV} {obs:List (Nat×Obj)} {id:TypeId} {ti:TI}
theorem tZ {P:Program} {tb:Tb} {e:TypeId} {te:TI} {z:Value} {i:TypeInfo} (hi:P.info? e=some i) (b:i.zero=some z) (a:z.cells=te.ty.zero.toArray) (hf:Yp te.ty z=true) (w:World) (O:Nat→Prop) :
  (zeroValue e).run P w=.ok z w∧Bb w O te.ty z te.ty.dflt:=by
 refine⟨by simp[zeroValue,typeInfo,hi,b],te.ty.zero,Bq.zero w O te.ty,tY a hf⟩
theorem A7p {a:Act} (o:GK (vw w O0 σ ρ) σ a.eval) {fn:Fn} {first d:List Operand} (h:WZ σ fn first d=some (vc,v,obs)):obs=[]∧∃u,(Instr.makeFunc fn (first.map a.eval).toArray (d.map a.eval).toArray).run P w=.ok u w∧B1 (vw w O0 σ ρ) v u:=by
 unfold WZ at h;split at h
 ·rename_i f;cases j:He σ d with
  | none=>rw[j]at h;simp[Ng]at h
  | some ns =>
   rw[j]at h;simp only[Ng]at h;cases h;have key:∀ {l:List Operand} {ns:List Nat},He σ l=some ns→l.map a.eval=ns.map ρ∧∀n∈ns,Gt σ n∧∃b:Nat,ρ n=.pointer (some ⟨b,0,none⟩):=by
    intro l;induction l with
    | nil=>intro ns h;simp only[He]at h;cases h;exact⟨rfl,fun _ h=>by cases h⟩
    | cons x r p =>
     intro ns h;simp only[He]at h;split at h
     ·rename_i n t h1 k;cases h;obtain⟨e,g⟩:=p k;obtain⟨q,b,c,s⟩:=o x _ h1;have c:ρ n=_:=c;refine⟨by simp only[AA4,e,s,c],fun m i=>?_⟩;rcases By.1 i with rfl|i
      ·exact⟨q,b,c⟩
      ·exact g m i
     ·cases h
   obtain⟨e,g⟩:=key j;refine⟨rfl,_,rfl,?_,g⟩;rw[e];rfl
 ·cases h
theorem t5 {a:Array MapEntry} {cl:Nat} (h:Qt a cl) (x y:Value):Qt (a.push ⟨x,y,cl⟩) (cl+1):=by grind [Qt]
theorem aV {a:Array MapEntry} {cl:Nat} (h:Qt a cl) (j:Nat) (x y:Value):Qt (a.modify j fun e=>{ e with key:=x,val:=y }) cl:=by
 have e:((a.modify j fun e=>{ e with key:=x,val:=y }).toList.map (·.born))=a.toList.map (·.born):=by
  rw[Array.toList_modify];apply AAE
  ·simp
  ·grind
 unfold Qt;rw[e];exact h
theorem A6k (G:DL P tb) (hT:EJ P tb id ti) {n:Nat} {k e:Nat} (Q:ti.ty=.ref 2) (N:ti.offs=[(k,e)]) {a:TI} (R:lk k tb.ty=some a) {c:Ty} {l:List (a.ty.den×c.den)} {V:Vw} (H:V.w=w)
  (M:A2 V (.mapo a.ty c l) (V.ρ n)) {x y:Value} {kd:a.ty.den} {h:c.den} (I:a.el=0) (K:Td a.ty=true) (g:Bb w V.O a.ty x kd) (B:Bb w V.O c y h) :
  ∃b p s,V.ρ n=.map (some b)∧(Instr.mapUpdate id (.map (some b)) x y).run P w=.ok () { w with heap:=w.heap.setIfInBounds b (.map p s) }∧(∃o,w.heap[b]?=some o)∧KK w V.O a.ty c p.toList (IC a.ty c kd h l)∧Qt p s:=by
 obtain⟨d,hu,_,L⟩:∃d,P.underlying id=some d∧(match d with|.struct _=>False|.array _ _=>False|_=>True) ∧
   ∀k e,(2:Nat)=2→ti.offs=[(k,e)]→d=.map k e∧∃(a te:TI) (z:Value),lk k tb.ty=some a∧lk e tb.ty=some te∧(∃i,P.info? e=some i∧i.zero=some z)∧z.cells=te.ty.zero.toArray∧Yp te.ty z=true:=by
  have:=hT.2;rw[Q]at this;exact this
 obtain⟨rfl,_⟩:=L k e rfl N;obtain⟨b,m,cl,A,hh,u,t⟩:=M;subst H;have f:=aU (G _ _ R) I K;have v:=f.find g u;refine⟨b,?_⟩;rcases Qw f g u 0 with ⟨D,q,r⟩|⟨j,C,v0,D,q,r,S,E,F⟩
 ·refine⟨m.push ⟨x,y,cl⟩,cl+1,A,?_,⟨_,hh⟩,by simpa using r h y cl B,t5 t x y⟩;simp[Instr.mapUpdate,iF hu,AB5 hh,f.check _ g,v,q,ABQ _ hh]
 ·have J:m[j]?=some C:=by simpa using r
  refine⟨m.modify j fun e=>{ e with key:=x,val:=y },cl,A,?_,⟨_,hh⟩,by rw[Array.toList_modify];exact F h y B,aV t j x y⟩;simp[Instr.mapUpdate,iF hu,AB5 hh,f.check _ g,v,q,J,E,f.stays g,ABQ _ hh]
theorem t7 (hT:EJ P tb id ti) {d:Nat} (h:FI tb d (some ti)=some (vc,v,obs)) (hf:Bd obs σ=true) :
  ∃u ρ' w',(Instr.makeMap id none).run P w=.ok u w'∧QS w O0 σ ρ v obs u ρ' w':=by
 unfold FI at h;split at h
 ·rename_i offs _ _ c;cases c;unfold Fg at h;split at h
  ·rename_i k e;unfold Ff at h;split at h
   ·cases h;have f:(Instr.makeMap id none).run P w=.ok (.map (some w.heap.size)) (w.alloc (.map #[] 0)):=by
     simp[Instr.makeMap,Result.andThen]
    refine⟨_,_,_,f,QS.one (loc:=.map (some w.heap.size)) ((Below.refl _ w).alloc (Is _) _) ?_ ?_ ?_⟩
    ·grind [bk,blk]
    ·refine⟨⟨_,by simp only[Ec,ABz,lk,AAQ];rfl⟩,w.heap.size,?_,rfl⟩;show Ek ρ d _ d=_;rw[Bj]
    ·exact⟨w.heap.size,#[],0,rfl,(MapKept.heap_alloc w _).1,trivial,List.Pairwise.nil,fun b a=>by cases a⟩
   ·cases h
  ·cases h
 ·cases h
theorem A6l (hT:EJ P tb id ti) (M:DL P tb) (H:∀n o,lk n σ.objs=some o→A2 (vw w O0 σ ρ) o (ρ n)) {ok:Bool} {x y:AV} {xv D:Value} (h:IM tb σ ok (some ti) (some x) (some y)=some (vc,v,obs))
  (Y:B1 (vw w O0 σ ρ) x xv) (Z:B1 (vw w O0 σ ρ) y D):obs=[]∧∃u,(Instr.lookup id xv D ok).run P w=.ok u w∧B1 (vw w O0 σ ρ) v u:=by
 unfold IM at h;split at h
 ·rename_i k e _ _ n z Q R S;cases Q;cases R;cases S;obtain⟨d,hu,_,W⟩:=hT.2;obtain⟨rfl,C,te,ag,J,X,⟨i,hi,aa⟩,ae,af⟩:=W k e rfl rfl;cases hn:lk n σ.objs with
  | none=>rw[hn]at h;simp[HK]at h
  | some o =>
   rw[hn]at h;cases o with
   | mapo ai aj l =>
    simp only[HK,J,X,ABd,AB9]at h;split at h
    ·rename_i O;obtain⟨rfl,T,rfl⟩:=O;cases hk:Kv false σ C.ty y with
     | none=>rw[hk]at h;simp[Jp]at h
     | some kd =>
      rw[hk]at h;simp only[Jp]at h;split at h
      ·rename_i U;have a:=KM (V:=vw w O0 σ ρ) (O':=own O0 σ ρ) (fun _ h=>h) (fun h=>by cases h) H hk Z;have a:Bb w (own O0 σ ρ) C.ty D kd:=a;obtain⟨ah,b,B,rfl⟩:=Y;have B:ρ n=_:=B;obtain⟨b',E,cl,c,hh,m,-⟩:=H n _ hn;rw[B]at c;injection c with c
       injection c with c
       subst c;have hh:w.heap[b]?=some (.map E cl):=hh;have m:KK w (own O0 σ ρ) C.ty te.ty E.toList l:=m;have p:=aU (M _ _ J) T U;have G:=p.find a m;obtain⟨ab,ad⟩:=tZ (te:=te) (P:=P) (tb:=tb) hi aa ae af w (own O0 σ ρ);have F:∀(f:Value) (q:Bool) (r:Option te.ty.den),Bb w (own O0 σ ρ) te.ty f (r.getD te.ty.dflt)→q=r.isSome→Kx te.ty ok r=some (vc,v,obs)→obs=[]∧∃u,u=(if ok=true then Value.tuple #[f,.bool q] else f)∧B1 (vw w O0 σ ρ) v u:=by
        intro f q r I N g;unfold Kx at g;subst N;cases ok with
        | true =>
         simp only[AAQ]at g ⊢;cases g;exact⟨rfl,_,rfl,[f,.bool r.isSome],rfl,f,_,rfl,I,_,[],rfl,Bi _,rfl⟩
        | false =>
         simp only[AAT,ABk]at g ⊢;cases g;exact⟨rfl,_,rfl,I⟩
       rcases Qw p a m 0 with ⟨s,t,_⟩|⟨j,K,v0,s,t,_,L,_,_⟩
       ·rw[s]at h;obtain⟨h1,u,rfl,A⟩:=F ag false none ad rfl h;refine⟨h1,_,?_,A⟩;simp[Instr.lookup,iF hu,AB5 hh,p.check _ a,G,t,ab]
       ·rw[s]at h;obtain⟨h1,u,rfl,A⟩:=F K.val true (some v0) L rfl h;refine⟨h1,_,?_,A⟩;simp[Instr.lookup,iF hu,AB5 hh,p.check _ a,G,t]
      ·cases h
    ·cases h
   | _=>simp[HK]at h
 ·cases h
end
end
end Go.Proofs.YtdapahgnpbehbaaGreat.Fw
