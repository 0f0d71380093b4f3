/- The executor's quiet operations are sound, second part; maps. -/
import Derived.Test.YtdapahgnpbehbaaGreatKZB
import Derived.ArgAppend
import Derived.MapKept
import Derived.WideKeyRuns
import Derived.Laws.StructEq
set_option linter.unusedVariables false
set_option linter.unusedSimpArgs false
namespace Go.Proofs.YtdapahgnpbehbaaGreat.Fw
section
open Go Go.RowKit
section
abbrev AAR:=@Go.MapKept.run_getObj_map
abbrev AB6:=@Go.Sem.run_pure
abbrev ABz:=@Go.World.ownsRow_nil
abbrev ABB:=@Go.MapKept.run_setObj_map
abbrev ACq:=@Go.run_part_plain
variable {P:Program} {tb:Tb} {id:TypeId} {ti:TI} {w:World} {O0:Nat→Prop} {σ:St} {ρ:Nat→Value} {vc:Prop} {v:AV} {obs:List (Nat×Obj)}
theorem FO (w:World) (o:_root_.Go.Obj):Below w.heap.size w (w.alloc o):=(Below.refl _ _).alloc (NO _) o
theorem QS.box {n:Nat} {et:TypeId} {c:Bool} {fs:List AV} {cs:List Value} (hf:BZ [(n,.box et c fs)] σ=true) (h:c=false→fs.length=1) (f:DQ (vw w O0 σ ρ) fs cs) :
  QS w O0 σ ρ (.bp n [] 0) [(n,.box et c fs)] (.pointer (some ⟨w.heap.size,0,none⟩)) (EM ρ n (.pointer (some ⟨w.heap.size,0,none⟩))) (w.alloc (.cells cs.toArray et)):=by
 have g:∀(m:Nat) (o:Obj) (b:Nat),lk m [(n,.box et c fs)]=some o→bk (EM ρ n (.pointer (some ⟨w.heap.size,0,none⟩)) m) b→w.heap.size≤b:=by
  intro m o b a d;simp only[lk]at a;split at a
  ·rename_i e;subst e;rw[Bj]at d;simp[bk,blk]at d;omega
  ·cases a
 have hk:CN (vw w O0 σ ρ) (vw (w.alloc (.cells cs.toArray et)) O0 (EL σ [(n,.box et c fs)]) (EM ρ n (.pointer (some ⟨w.heap.size,0,none⟩)))) :=
  Hz hf (FO w _) (fun m a=>by
   simp only[lk]at a;split at a
   ·cases a
   ·rename_i e;simp[EM,e]) g
 refine QS.one (FO w _) (fun b d=>by simp[bk,blk]at d;omega) ?_ ?_
 ·refine⟨⟨.box et c fs,by simp[EL,lk]⟩,w.heap.size,by rw[show (vw (w.alloc (.cells cs.toArray et)) O0 (EL σ [(n,.box et c fs)]) (EM ρ n (.pointer (some ⟨w.heap.size,0,none⟩)))).ρ n=EM ρ n (.pointer (some ⟨w.heap.size,0,none⟩)) n from rfl,Bj],rfl⟩
 ·exact⟨h,w.heap.size,cs,rfl,heap_alloc_new w _,f.keeps hk⟩
theorem QS.arr {n:Nat} {et:TypeId} {e:Ty} {xs:List e.den} {cells:List Value} {loc:Value} {w':World} {hi:Nat} (hf:BZ [(n,.arr et e xs)] σ=true) (c:Below w.heap.size w w')
  (d:w'.ownsRow w.heap.size et e.size loc xs.length cells) (a:xs.length≤AO) (l:Dh w (own O0 σ ρ) e cells xs) (q:hi=xs.length) :
  QS w O0 σ ρ (.sr n e 0 hi) [(n,.arr et e xs)] loc (EM ρ n loc) w':=by
 subst q;have j:∀b,bk loc b→w.heap.size≤b:=by
  intro b i;rcases d.2 with ⟨rfl,_⟩|⟨g,cap,f,rfl,p,_⟩
  ·simp[bk,blk]at i
  ·simp[bk,blk]at i;omega
 have r:∀(m:Nat) (o:Obj) (b:Nat),lk m [(n,.arr et e xs)]=some o→bk (EM ρ n loc m) b→w.heap.size≤b:=by
  intro m o b a c;simp only[lk]at a;split at a
  ·rename_i e;subst e;rw[Bj]at c;exact j b c
  ·cases a
 have hk:CN (vw w O0 σ ρ) (vw w' O0 (EL σ [(n,.arr et e xs)]) (EM ρ n loc)) :=
  Hz hf c (fun m a=>by
   simp only[lk]at a;split at a
   ·cases a
   ·rename_i e;simp[EM,e]) r
 refine QS.one c j ?_ ?_
 ·refine⟨⟨.arr et e xs,by simp[EL,lk]⟩,?_⟩;show DA (plc (EM ρ n loc n)) e.size 0 xs.length loc;rw[Bj,HX d];rcases d.2 with ⟨rfl,hn⟩|⟨g,cap,f,rfl,p,_,t,_⟩
  ·exact⟨none,0,0,rfl,by omega,by omega,none,0,by rw[hn],by omega,fun _=>⟨rfl,rfl⟩,fun h=>by omega⟩
  ·exact⟨some ⟨g,0,none⟩,xs.length,cap,rfl,by omega,by omega,some ⟨g,0,none⟩,cap,by simp,by omega,fun _=>⟨rfl,rfl⟩,fun _=>by simp[MS]⟩
 ·refine⟨a,cells,⟨d.1,?_⟩,l.keeps hk⟩;rcases d.2 with h|⟨g,cap,f,h1,s,k⟩
  ·exact .inl h
  ·exact .inr ⟨g,cap,f,h1,IN _,k⟩
theorem LE (V:Vw) (t:Ty):M2 V (mI t) t.zero:=by
 cases t;case slice e=>exact⟨_,rfl,rfl,rfl⟩
 case ref k=>exact⟨KH k,rfl,by match k with|0=>rfl|1=>rfl|_+2=>rfl,rfl⟩
 all_goals(exact Br.zero V.w V.O _)
theorem uK (V:Vw):∀t:Ty,DQ V (mJ t) t.zero
 | .prod a b=>⟨a.zero,b.zero,rfl,LE V a,uK V b⟩
 | .int k=>⟨_,[],by simp,LE V (.int k),rfl⟩
 | .bool=>⟨_,[],by simp,LE V .bool,rfl⟩
 | .str=>⟨_,[],by simp,LE V .str,rfl⟩
 | .slice e=>⟨_,[],by simp,LE V (.slice e),rfl⟩
 | .agg t=>⟨_,[],by simp,LE V (.agg t),rfl⟩
 | .ref k=>⟨_,[],by simp,LE V (.ref k),rfl⟩
theorem uL (V:Vw):∀(t:Ty) (d:t.den) (cs:List Value),Br V.w V.O t cs d→DQ V (pfs t d) cs
 | .prod a b,d,cs,h=>by
  obtain⟨c1,c2,rfl,h1,c⟩:=h;exact⟨c1,c2,rfl,h1,uL V b d.2 c2 c⟩
 | .int k,d,cs,h=>⟨cs,[],by simp,h,rfl⟩
 | .bool,d,cs,h=>⟨cs,[],by simp,h,rfl⟩
 | .str,d,cs,h=>⟨cs,[],by simp,h,rfl⟩
 | .slice e,d,cs,h=>⟨cs,[],by simp,h,rfl⟩
 | .agg t,d,cs,h=>⟨cs,[],by simp,h,rfl⟩
 | .ref k,d,cs,h=>⟨cs,[],by simp,h,rfl⟩
theorem Ll (hT:D0 P tb id ti) (w:World):∃z:Value,(zeroValue id).run P w=.ok z w∧z.cells=ti.ty.zero.toArray:=by
 obtain⟨⟨_,i,z,h1,c,d,a,b⟩,_⟩:=hT;exact⟨z,by simp[zeroValue,Lk w h1,a],b⟩
theorem A1h (hT:D0 P tb id ti) {d:Nat} (h:JI d id (some ti)=some (vc,v,obs)) (hf:BZ obs σ=true) :
  ∃u ρ' w',(Instr.alloc id true (.tuple #[])).run P w=.ok u w'∧QS w O0 σ ρ v obs u ρ' w':=by
 obtain⟨z,c,e⟩:=Ll hT w;have b:(Instr.alloc id true (.tuple #[])).run P w=.ok (.pointer (some ⟨w.heap.size,0,none⟩)) (w.alloc (.cells ti.ty.zero.toArray id)):=by
  simp[Instr.alloc,c,newVar,newRow,e]
 unfold JI at h;split at h<;>first|(cases h;done)|skip
 all_goals
  rename_i a;cases a;cases h;refine⟨_,_,_,b,QS.box hf ?_ ?_⟩
 ·simp
 ·exact uK _ _
 ·simp
 ·exact⟨_,[],by simp[Ty.zero],LE _ _,rfl⟩
 ·simp
 ·exact⟨_,[],by simp[Ty.zero],LE _ _,rfl⟩
 ·simp
 ·exact⟨_,[],by simp[Ty.zero],LE _ _,rfl⟩
 ·simp
 ·exact⟨_,[],by simp[Ty.zero],LE _ _,rfl⟩
 ·simp
 ·exact⟨_,[],by simp[Ty.zero],LE _ _,rfl⟩
theorem NK {V:Vw} {ty:Ty} {x:AV} {v:Value} (j:B2 V x v) (hf:CL ty x=true) (hs:ty.cell1=true):v.oneCell'=true:=by
 cases x;case p t d =>
  simp only[CL,By]at hf;subst hf;obtain⟨cs,hr,rfl⟩:=j;cases ty;case agg t=>simp[Ty.cell1]at hs
  case prod a b=>simp[Ty.cell1]at hs
  case slice e=>obtain⟨a,c,rfl,_⟩:=hr;rfl
  case int k=>obtain⟨rfl,h⟩:=hr;rfl
  case bool=>have hr:cs=_:=hr;subst hr;rfl
  case str=>obtain⟨rfl,h⟩:=hr;rfl
  case ref k =>
   have hr:cs=[KH k]:=hr;subst hr;match k with
   | 0=>rfl
   | 1=>rfl
   | _+2=>rfl
 case ag l=>cases ty<;>simp[CL]at hf<;>simp[Ty.cell1]at hs
 case tup l=>simp[CL]at hf
 case raw u =>
  have j:v=u:=j;subst j;simp only[CL,An]at hf;exact hf.1
 case sr n e lo hi=>obtain⟨_,_,_,_,_,_,_,q,r,rfl,_⟩:=j;rfl
 case ep n e i o off=>obtain⟨_,g,m,c,_,_,rfl⟩:=j;rfl
 case nin n e i len=>obtain⟨_,_,_,_,_,_,_,_,rfl⟩:=j;rfl
 case pc e d=>obtain⟨_,a,rfl⟩:=j;rfl
 case ip t d=>obtain⟨ad,cs,rfl,_⟩:=j;rfl
 case bp n o off=>obtain⟨_,b,_,rfl⟩:=j;rfl
 case fn f=>have j:v=_:=j;subst j;rfl
 case clo f ns=>obtain⟨rfl,_⟩:=j;rfl
 case mp n=>obtain⟨_,b,_,rfl⟩:=j;rfl
 case yl n=>obtain⟨_,b,_,rfl⟩:=j;rfl
 case top=>simp[CL]at hf
end
end
section
open Go Go.RowKit
section
variable {P:Program} {tb:Tb} {id:TypeId} {ti:TI} {w:World} {O0:Nat→Prop} {σ:St} {ρ:Nat→Value} {vc:Prop} {v:AV} {obs:List (Nat×Obj)}
theorem S6 {t:Ty} {w:World} {O:Nat→Prop} {cs:List Value} {d:t.den} (h:Br w O t cs d):(t.wrap cs).cells=cs.toArray:=by
 cases t;case agg t=>rfl
 case prod a b=>rfl
 case slice e=>obtain⟨a,c,rfl,_⟩:=h;rfl
 case int k=>obtain⟨rfl,_⟩:=h;rfl
 case bool=>have h:cs=_:=h;subst h;rfl
 case str=>obtain⟨rfl,_⟩:=h;rfl
 case ref k =>
  have h:cs=[KH k]:=h;subst h;match k with
  | 0=>rfl
  | 1=>rfl
  | _+2=>rfl
theorem A1i {V:Vw} {x:AV} {v:Value} (j:B2 V x v) (hf:HR x=true):M2 V x v.cells.toList∧v.cells.size=x.cells:=by
 have simple:∀ {y:AV},Sx V y v→v.oneCell'=true→(∀t d,y≠.p t d)→M2 V y v.cells.toList:=by
  intro y q h hp;have l:v.cells=#[v]:=by cases v<;>first|rfl|simp[Value.oneCell']at h
  rw[l];cases y;case p t d=>exact absurd rfl (hp t d)
  all_goals exact⟨v,rfl,h,q⟩
 have k:v.oneCell'=true→v.cells.size=1:=by
  intro h;have l:v.cells=#[v]:=by cases v<;>first|rfl|simp[Value.oneCell']at h
  rw[l];rfl
 cases x;case p t d =>
  obtain⟨cs,hr,rfl⟩:=j;rw[S6 hr];exact⟨hr,by simpa[AV.cells] using hr.length⟩
 case raw u =>
  have o:v=u:=j;have h:v.oneCell'=true:=by rw[o];exact hf
  exact⟨simple j h (fun _ _=>by simp),k h⟩
 case sr n e lo hi =>
  have h:v.oneCell'=true:=by obtain⟨_,_,_,_,_,_,_,s,w,rfl,_⟩:=j;rfl
  exact⟨simple j h (fun _ _=>by simp),k h⟩
 case ep n e i r off =>
  have h:v.oneCell'=true:=by obtain⟨_,g,m,c,_,_,rfl⟩:=j;rfl
  exact⟨simple j h (fun _ _=>by simp),k h⟩
 case nin n e i len =>
  have h:v.oneCell'=true:=by obtain⟨_,_,_,_,_,_,_,_,rfl⟩:=j;rfl
  exact⟨simple j h (fun _ _=>by simp),k h⟩
 case ip t d =>
  have h:v.oneCell'=true:=by obtain⟨ad,cs,rfl,_⟩:=j;rfl
  exact⟨simple j h (fun _ _=>by simp),k h⟩
 case bp n r off =>
  have h:v.oneCell'=true:=by obtain⟨_,b,_,rfl⟩:=j;rfl
  exact⟨simple j h (fun _ _=>by simp),k h⟩
 case pc e d =>
  have h:v.oneCell'=true:=by obtain⟨_,a,rfl⟩:=j;rfl
  exact⟨simple j h (fun _ _=>by simp),k h⟩
 case clo f ns =>
  have h:v.oneCell'=true:=by obtain⟨rfl,_⟩:=j;rfl
  exact⟨simple j h (fun _ _=>by simp),k h⟩
 case mp n =>
  have h:v.oneCell'=true:=by obtain⟨_,b,_,rfl⟩:=j;rfl
  exact⟨simple j h (fun _ _=>by simp),k h⟩
 case yl n =>
  have h:v.oneCell'=true:=by obtain⟨_,b,_,rfl⟩:=j;rfl
  exact⟨simple j h (fun _ _=>by simp),k h⟩
 case fn f =>
  have h:v.oneCell'=true:=by have j:v=_:=j;subst j;rfl
  exact⟨simple j h (fun _ _=>by simp),k h⟩
 all_goals simp[HR]at hf
theorem A4o (hT:D0 P tb id ti) {d:Nat} {x:AV} {xv:Value} (h:QE d id (some ti) (some x)=some (vc,v,obs)) (i:B2 (vw w O0 σ ρ) x xv) (hf:BZ obs σ=true) :
    ∃u ρ' w',(Instr.box id xv).run P w=.ok u w'∧QS w O0 σ ρ v obs u ρ' w':=by
  have g:(Instr.box id xv).run P w=.ok (.pointer (some ⟨w.heap.size,0,none⟩)) (w.alloc (.cells xv.cells id)):=by
    simp[Instr.box,newVar,newRow]
  have simple:∀ty:Ty,CL ty x=true→ty.cell1=true→(∀l,x≠.ag l)→DQ (vw w O0 σ ρ) [x] xv.cells.toList:=by
    intro ty f p m;obtain⟨h1,k⟩:=uD i f (NK i f);exact⟨_,[],by simp,k m,rfl⟩
  have o:xv.cells=xv.cells.toList.toArray:=by simp
  rw[o]at g;unfold QE at h;split at h
  · rename_i u offs el b q j c a
    cases c;cases a;split at h
    · rename_i hu
      subst hu;cases h;obtain⟨cs,hr,rfl⟩:=i;have hr:Br w (own O0 σ ρ) u cs j:=hr;refine⟨_,_,_,g,QS.box hf (by simp) ?_⟩;simp only[Ty.wrap,Value.cells];exact uL _ _ _ _ hr
    · cases h
  · rename_i u offs el b l c a
    cases c;cases a;split at h
    · cases h
      obtain⟨cs,rfl,n⟩:=i;refine⟨_,_,_,g,QS.box hf (by simp) ?_⟩;simp only[Value.cells];exact n
    · cases h
  all_goals first
    | (cases h;done)
    | (rename_i c a
       cases c;injection a with a
       subst a;split at h
       · rename_i f
         cases h;exact⟨_,_,_,g,QS.box hf (by simp) (simple _ f rfl (fun l e=>by subst e;simp[CL]at f))⟩
       · cases h)
theorem ZJ (off:Nat):∀(a:List Value) (k:Nat) (cells:Array Value),off+k+a.length≤cells.size →
  ((a.zipIdx k).foldl (fun(cs:Array Value) (p:Value×Nat)=>cs.setIfInBounds (off+p.2) p.1) cells).toList=Az cells.toList (off+k) a
 | [],k,cells,_=>by simp[Az]
 | v :: a,k,cells,h=>by
  simp only[No]at h;simp only[List.zipIdx_cons,TO];rw[ZJ off a (k+1) _ (by simp;omega)];simp only[Az,Array.toList_setIfInBounds,No];apply ABU;intro j;have i:cells.toList.length=cells.size:=by simp
  simp only[AAt,AAk,SH,AAd,i,AA0,AAi,AAs,No];have d:min (off+(k+1)) cells.size=off+k+1:=by omega
  have e:min (off+k) cells.size=off+k:=by omega
  rw[d,e];by_cases c1:j<off+k
  ·simp[c1,show j<off+k+1 by omega,show j<off+(k+1) by omega,show ¬off+k=j by omega]
  ·by_cases c2:j=off+k
   ·subst c2;simp[show off+k<cells.size by omega]
   ·have c:¬j<off+k+1:=by omega
    have f:j-(off+k)=(j-(off+k+1))+1:=by omega
    simp only[c1,c,AAU];rw[f];simp only[List.getElem?_cons_succ];by_cases b:j-(off+k+1)<a.length
    ·simp[b]
    ·have g:off+(k+1)+a.length=off+k+(a.length+1):=by omega
     have l:∀q,¬(off+k=off+(k+1)+a.length+q):=by omega
     simp[b,g,show ¬off+k=off+k+(a.length+1)+(j-(off+k+1)-a.length) by omega]
theorem OZ {place:Nat→Option (Nat×Nat)} {cells:Array Value} {i off:Nat} {v:Value} {rest:List (Nat×Value)} (hp:place i=some (off,v.cells.size)) (a:off+v.cells.size≤cells.size) :
  Instr.fill place cells ((i,v) :: rest)=Instr.fill place (Az cells.toList off v.cells.toList).toArray rest:=by
 have h1:¬(off+v.cells.size > cells.size):=by omega
 simp only[Instr.fill,hp];rw[At (by simp;omega)]
 congr 1
 have:=ZJ off v.cells.toList 0 cells (by simpa using a);apply ACI;rw[show v.cells.zipIdx.foldl (fun cs x=>cs.setIfInBounds (off+x.2) x.1) cells=(v.cells.toList.zipIdx 0).foldl (fun cs x=>cs.setIfInBounds (off+x.2) x.1) cells from by
  rw[←Array.foldl_toList];simp]
 simpa using this
def F4 (V:Vw) (σ:St) (ev:Operand→Value):Prop:=∀x v,Ae σ x=some v→B2 V v (ev x)
theorem pN {V:Vw} (e:∀n o,lk n σ.objs=some o→A1 V o (V.ρ n)) {z x:Option AV} {y:AV} {v:Value} (b:∀a,x=some a→B2 V a v) (h:FD σ z x=some y):B2 V y v:=by
 unfold FD at h;split at h
 ·rename_i t _ l;simp only[Is]at h;obtain⟨d,c,rfl⟩:=h;exact Jo (V:=V) (O':=V.O) (fun _ h=>h) (fun h=>by cases h) e c (b _ rfl)
 ·exact b _ h
theorem Nc {V:Vw} (j:∀n o,lk n σ.objs=some o→A1 V o (V.ρ n)) {ev:Operand→Value} (g:F4 V σ ev) {place:Nat→Option (Nat×Nat)} {offs:List (Nat×Nat)} (l:∀i p,offs[i]?=some p→place i=some p) :
  ∀ {parts:List (Nat×Operand)} {fs b:List AV} {cells:Array Value},DY σ offs fs parts=some b→DQ V fs cells.toList →
   ∃cells':Array Value,Instr.fill place cells (parts.map fun p=>(p.1,ev p.2))=some cells'∧DQ V b cells'.toList
 | [],fs,b,cells,h,c=>by
  simp only[DY]at h;cases h;exact⟨cells,rfl,c⟩
 | (i,x) :: r,fs,b,cells,h,c=>by
  simp only[DY]at h;cases d:FD σ fs[i]? (Ae σ x) with
  | none=>rw[d]at h;cases h
  | some av =>
   rw[d]at h;simp only at h;split at h
   ·rename_i q;obtain⟨h0,h1,s⟩:=q;have A:=pN j (fun a ha=>g x a ha) d;obtain⟨t,e⟩:=A1i A h0;simp only[Is]at h1;obtain⟨B,k,f⟩:=h1;obtain⟨u,_⟩:=c.get k;have z:=c.set k t f.symm;have m:=l i _ s;rw[←e]at m;have y:B9 fs i+(ev x).cells.size≤cells.size:=by
     rw[e,←f];simpa using u
    obtain⟨cells',v,w⟩:=Nc j g l h (cells:=(Az cells.toList (B9 fs i) (ev x).cells.toList).toArray) (by simpa using z);refine⟨cells',?_,w⟩;rw[tO,OZ m y];exact v
   ·cases h
theorem ZK {α a:Type} (f:α→Sem a) (w:World):∀ {l:List α} {ys:List a},(l.map fun x=>(f x).run P w)=ys.map (fun y=>Result.ok y w)→(l.mapM f).run P w=.ok ys w
 | [],ys,h=>by
  cases ys with
  | nil=>simp
  | cons y ys=>simp at h
 | x :: l,ys,h=>by
  cases ys with
  | nil=>simp at h
  | cons y ys =>
   simp only[tO,ABg]at h;obtain⟨h1,b⟩:=h;have c:=ZK f w b;simp[List.mapM_cons,h1,c]
theorem A1j (hT:D0 P tb id ti) (m:∀n o,lk n σ.objs=some o→A1 (vw w O0 σ ρ) o (ρ n)) {ev:Operand→Value} (l:F4 (vw w O0 σ ρ) σ ev) {parts:List (Nat×Operand)} (h:Hq σ parts (some ti)=some (vc,v,obs)) :
  obs=[]∧∃u,(Instr.build id (parts.map fun p=>(p.1,ev p.2)).toArray).run P w=.ok u w∧B2 (vw w O0 σ ρ) v u:=by
 obtain⟨z,q,A⟩:=Ll hT w;unfold Hq at h;split at h
 ·rename_i u offs el b s;cases s;cases hp:DY σ offs (mJ u) parts with
  | none=>rw[hp]at h;simp[GF]at h
  | some B =>
   rw[hp]at h;simp only[AAY,GF]at h;cases h;have a:=hT.2;have r:DQ (vw w O0 σ ρ) (mJ u) z.cells.toList:=by rw[A];exact uK _ u
   simp only at a;rcases a with ⟨fs,_,hu,g⟩|⟨n,e,i,_,hu,hi,g⟩
   ·have j:∀(i:Nat) (p:Nat×Nat),offs[i]?=some p→offs.toArray[i]?=some p:=fun i p hh=>by simpa using hh
    obtain⟨cells',c,d⟩:=Nc m l (place:=fun i=>offs.toArray[i]?) j hp r;have x:(fs.mapM (fun f=>do pure (f.offset,←sizeOf f.type)):Sem (Array (Nat×Nat))).run P w=.ok offs.toArray w:=by
     rw[ABs];simp only[Sem.run_map];rw[ZK (ys:=offs) _ w ?_]
     ·simp
     ·rw [show (offs.map fun y => Result.ok y w) = (offs.map some).map (fun o => match o with | some y => Result.ok y w | none => .halt (.stuck "no such type") w) by simp [ABD, Function.comp_def], g, ABD]
      apply AAw;intro f _;simp only[Function.comp,sizeOf,typeInfo];cases hi:P.info? f.type<;>simp[hi]
    refine⟨rfl,.agg cells',?_,cells'.toList,by simp,d⟩;simp only[Instr.build,AAH,q,AA6,aS hu,x,c,AB6]
   ·have j:∀(k:Nat) (p:Nat×Nat),offs[k]?=some p→(fun k=>some (k*i.size,i.size)) k=some p:=fun k p hh=>by
     rw[g]at hh;simp only[AAy,Is]at hh;obtain⟨C,t,rfl⟩:=hh;obtain⟨h1,a⟩:=QB.1 t;simp only[ABo]at a;subst a;rfl
    obtain⟨cells',c,d⟩:=Nc m l j hp r;refine⟨rfl,.agg cells',?_,cells'.toList,by simp,d⟩;simp[Instr.build,q,aS hu,sizeOf,Lk w hi,c]
 ·cases h
end
end
section
open Go Go.RowKit
section
variable {P:Program} {tb:Tb} {id:TypeId} {ti:TI} {w:World} {O0:Nat→Prop} {σ:St} {ρ:Nat→Value} {vc:Prop} {v:AV} {obs:List (Nat×Obj)}
theorem Vx {t:Ty} {w:World} {O:Nat→Prop} {v:Value} {d:t.den} (h:BW w O t v d):v.cells.size=t.size∧Br w O t v.cells.toList d:=by
 obtain⟨cs,hr,rfl⟩:=h;rw[S6 hr];exact⟨by simpa using hr.length,hr⟩
theorem Hh (w:World) (O:Nat→Prop) (e:Ty) (cells:List Value):Dh w O e cells []:=fun i x h=>by simp at h
theorem ZL {V:Vw} (v:∀n o,lk n σ.objs=some o→A1 V o (V.ρ n)) {ev:Operand→Value} (s:F4 V σ ev) {e:Ty} {N:Nat} :
  ∀ {parts:List (Nat×Operand)} {k:Nat} {xs pre:List e.den} {cells:Array Value},EX σ e k parts=some xs→cells.size=N*e.size→k+xs.length≤N→pre.length=k →
   Dh V.w V.O e cells.toList pre →
   ∃cells':Array Value,Instr.fill (fun i=>some (i*e.size,e.size)) cells (parts.map fun p=>(p.1,ev p.2))=some cells'∧cells'.size=cells.size∧Dh V.w V.O e cells'.toList (pre++xs)
 | [],k,xs,pre,cells,h,hs,hk,hp,l=>by
  simp only[EX]at h;cases h;exact⟨cells,rfl,rfl,by simpa using l⟩
 | (i,x) :: r,k,xs,pre,cells,h,hs,hk,hp,l=>by
  simp only[EX]at h;split at h
  ·rename_i E;subst E;cases m:Ae σ x with
   | none=>rw[m]at h;cases h
   | some av =>
    rw[m]at h;simp only at h;split at h
    ·rename_i y ys L M;cases h;have K:=Jo (O':=V.O) (fun _ h=>h) (fun h=>by cases h) v L (s x av m);obtain⟨h1,C⟩:=Vx K;simp only[No]at hk;have d:i*e.size+(ev x).cells.size≤cells.size:=by
      rw[h1,hs,←AAP];exact AA2 _ (by omega)
     have A:(Az cells.toList (i*e.size) (ev x).cells.toList).length=cells.size:=by
      rw[E3]
      ·simp
      ·simpa using d
     have I:Dh V.w V.O e (Az cells.toList (i*e.size) (ev x).cells.toList) (pre++[y]):=by
      intro j z a;rw[AAk]at a;split at a
      ·rename_i F;obtain⟨B,c,f,g⟩:=l j z a;refine⟨B,c,fun q u b=>?_,g⟩;have J:q<e.size:=by rw[←c];exact(QB.1 b).1
       have H:j*e.size+q<i*e.size:=by
        have:(j+1)*e.size≤i*e.size:=AA2 _ (by omega);rw[AAP]at this;omega
       have D:i*e.size≤cells.toList.length:=by
        have:=d;simp;omega
       simp only[Az,AAt];rw[oS (by rw[SH];omega),AA0,BY H];exact f q u b
      ·rename_i F;have G:j=i:=by
        have:=(QB.1 a).1;simp at this;omega
       subst G;have P:z=y:=by
        rw[hp,AB4]at a;simpa using a.symm
       subst P;refine⟨(ev x).cells.toList,by simpa using h1,fun q u b=>?_,C⟩;have J:q<(ev x).cells.toList.length:=(QB.1 b).1;have D:j*e.size≤cells.toList.length:=by
        have:=d;simp;omega
       have t:(cells.toList.take (j*e.size)).length=j*e.size:=by rw[SH];omega
       simp only[Az,AAt];rw[AA3 (by rw[t];omega),t,oS (by omega)];rw[show j*e.size+q-j*e.size=q by omega];exact b
     obtain⟨cells',c,f,g⟩:=ZL (N:=N) v s M (pre:=pre++[y]) (cells:=(Az cells.toList (i*e.size) (ev x).cells.toList).toArray) (by simp[A,hs]) (by omega) (by simp[hp]) (by simpa using I);refine⟨cells',?_,by rw[f];simp[A],by simpa using g⟩;rw[tO,OZ (by rw[h1]) d];exact c
    ·cases h
  ·cases h
theorem SJ {w:World} {et:TypeId} {sz n:Nat} {cells:Array Value} (hs:cells.size=n*sz) (hn:n≤AO) :
  (w.alloc (.cells cells et)).ownsRow w.heap.size et sz (.slice (some ⟨w.heap.size,0,none⟩) n n) n cells.toList :=
 ⟨by simpa using hs,.inr ⟨w.heap.size,n,cells,rfl,NO _,heap_alloc_new w _,NO _,by have h1:AO=140737488355328:=rfl;have a:maxLen=9223372036854775807:=rfl;omega,hs,As (by simp[hs])⟩⟩
theorem Oa (hT:D0 P tb id ti) (c:DB P tb) (m:∀n o,lk n σ.objs=some o→A1 (vw w O0 σ ρ) o (ρ n)) {ev:Operand→Value} (l:F4 (vw w O0 σ ρ) σ ev) {d n:Nat} {parts:List (Nat×Operand)}
  (h:BQ false σ d n parts (some ti)=some (vc,v,obs)) (t:vc) (hf:BZ obs σ=true) :
  ∃u ρ' w',(Instr.buildSlice id n (parts.map fun p=>(p.1,ev p.2)).toArray).run P w=.ok u w'∧QS w O0 σ ρ v obs u ρ' w':=by
 unfold BQ at h;split at h
 ·rename_i e offs el b k;cases k;obtain⟨hu,hs,te,s,rfl⟩:=CD hT c;obtain⟨z,x,A⟩:=Ll (c _ _ s) w;cases hp:EX σ te.ty 0 parts with
  | none=>rw[hp]at h;simp[BU]at h
  | some xs =>
   rw[hp]at h;simp only[BU,AAJ,AAU]at h;cases h;obtain⟨hn,y⟩:=t;subst hn;have q:=te.ty.size_pos;obtain⟨cells',h1,j,a⟩:=ZL (V:=vw w O0 σ ρ) m l hp (N:=xs.length) (pre:=[]) (cells:=(Array.range (xs.length*te.ty.size)).map (fun i=>(if xs.length*te.ty.size=0 then (#[]:Array Value) else z.cells)[i % (if xs.length*te.ty.size=0 then (#[]:Array Value) else z.cells).size]!)) (by simp) (by omega) rfl (Hh _ _ _ _);have g:xs.length≤AO:=by
    have:xs.length*1≤xs.length*te.ty.size:=ABd _ q;simp only[AO];omega
   have r:cells'.size=xs.length*te.ty.size:=by rw[j];simp
   refine⟨_,_,_,?_,QS.arr hf (FO w _) (SJ (et:=el) r g) g (by rw[ABf]at a;exact a) rfl⟩;have f:¬(xs.length*te.ty.size > 16777216):=by omega
   by_cases h0:xs.length*te.ty.size=0
   ·simp only[h0,AAC]at h1;simp[Instr.buildSlice,aS hu,hs,f,h0,newRow];simp at h1;simp[h1]
   ·simp only[h0,AAU]at h1;simp only[Instr.buildSlice,AAH,aS hu,AA6,hs,At f,At h0,x,AB6,h1,newRow];rfl
 ·cases h
theorem A3h (hT:D0 P tb id ti) (I:DB P tb) (ad:∀n o,lk n σ.objs=some o→A1 (vw w O0 σ ρ) o (ρ n)) {ev:Operand→Value} (X:F4 (vw w O0 σ ρ) σ ev) {d n:Nat} {A:TypeId} {parts:List (Nat×Operand)}
  (h:Hs σ d A n parts (some ti)=some (vc,v,obs)) (C:vc) (hf:BZ obs σ=true) :
  ∃u ρ' w',(Instr.buildSlice id n (parts.map fun p=>(p.1,ev p.2)).toArray).run P w=.ok u w'∧QS w O0 σ ρ v obs u ρ' w':=by
 unfold Hs at h;split at h
 ·rename_i x t offs el b V;cases V;obtain⟨hu,hs,te,ag,rfl⟩:=CD hT I;obtain⟨z,ai,an⟩:=Ll (I _ _ ag) w;cases H:Ae σ x with
  | none=>rw[H]at h;unfold Hr at h;split at h<;>first|(cases h;done)|(rename_i D;cases D)
  | some av =>
   rw[H]at h;unfold Hr at h;split at h
   ·rename_i k e Q ap ah T;cases T;have key:∀(a0:k.den) (c1:List Value) (a:Option Addr),M2 (vw w O0 σ ρ) Q c1→EI false σ k Q=some a0→ev x=.agg (c1++[Value.slice a 0 0]).toArray→n=1∧k.size+1≤16777216→BZ [(d,Obj.nest el A k e [(a0,[])] none)] σ=true →
      ∃u ρ' w',(Instr.buildSlice id n ([(0,x)].map fun p=>(p.1,ev p.2)).toArray).run P w=.ok u w'∧QS w O0 σ ρ (.sr d (.agg (.prod k (.slice e))) 0 1) [(d,.nest el A k e [(a0,[])] none)] u ρ' w':=by
     intro a0 c1 a h1 s B aa hf;obtain⟨rfl,al⟩:=aa;have Z:Lay (.slice none 0 0) (.slice a 0 0):=.inr ⟨rfl,a,rfl⟩;have hr:=ZD (O':=own O0 σ ρ) (fun _ h=>h) (fun h=>by cases h) ad s h1;have hr:Br w (own O0 σ ρ) k c1 a0:=hr;have F:=hr.length;have af:te.ty.size=k.size+1:=by rw[ah];rfl
     rw[af]at hs;have J:(ev x).cells.toList=c1++[Value.slice a 0 0]:=by rw[B];simp[Value.cells]
     have ae:Instr.fill (fun i=>some (i*(k.size+1),k.size+1)) ((Array.range (1*(k.size+1))).map (fun i=>z.cells[i % z.cells.size]!)) [(0,ev x)]=some (c1++[Value.slice a 0 0]).toArray:=by
      have K:(ev x).cells.size=k.size+1:=by rw[←ABh,J];simp[F]
      rw[OZ (by rw[K]) (by rw[K];simp)];rw[J];simp only[Instr.fill,ABX,Az,AAS,ABf,AAL];rw[List.drop_of_length_le (by simp[F]),AAa]
     generalize G:(Value.tuple #[Value.slice (some ⟨w.heap.size,0,none⟩) 1 1,.slice none 0 0])=loc;have M:∀b,bk loc b→w.heap.size≤b:=by
      intro b c;rw[←G]at c;rcases (A6 (ins:=[.slice none 0 0])).1 c with c|⟨i,u,hi,c⟩
      ·simp[blk]at c;omega
      ·have:u=.slice none 0 0:=by
        rcases i with _|i
        ·simpa using hi.symm
        ·simp at hi
       subst this;simp[blk]at c
     have y:=SJ (w:=w) (et:=el) (sz:=k.size+1) (n:=1) (cells:=(c1++[Value.slice a 0 0]).toArray) (by simp[F]) (by simp[AO]);have y:(w.alloc (.cells (c1++[Value.slice a 0 0]).toArray el)).ownsRow 0 el (k.size+1) (.slice (some ⟨w.heap.size,0,none⟩) 1 1) 1 (c1++[Value.slice a 0 0]):=⟨y.1,y.2.imp (fun h=>h) fun⟨g,cap,S,e,_,r⟩=>⟨g,cap,S,e,IN _,r⟩⟩;have hk:=Hz (O0:=O0) (ρ:=ρ) (ρ':=EM ρ d loc) hf (FO w (.cells (c1++[Value.slice a 0 0]).toArray el)) (fun m q=>by
      simp only[lk]at q;split at q
      ·cases q
      ·rename_i e;simp[EM,e]) (fun m o b q c=>by
      simp only[lk]at q;split at q
      ·rename_i e;subst e;rw[Bj]at c;exact M b c
      ·cases q)
     refine⟨.slice (some ⟨w.heap.size,0,none⟩) 1 1,EM ρ d loc,w.alloc (.cells (c1++[Value.slice a 0 0]).toArray el),?_,QS.one (FO w _) M ?_ ?_⟩
     ·have ab:¬(1*(k.size+1) > 16777216):=by omega
      have h0:¬(1*(k.size+1)=0):=by omega
      simp only[Instr.buildSlice,AAH,aS hu,AA6,hs,At ab,At h0,ai,AB6,tO,AC0,ae,newRow];rfl
     ·refine⟨⟨.nest el A k e [(a0,[])] none,by simp[EL,lk]⟩,?_⟩;show DA (plc (EM ρ d loc d)) _ 0 1 _;rw[Bj,←G];exact FN y
     ·refine⟨_,[.slice none 0 0],c1++[Value.slice a 0 0],.inl G.symm,by simp[AO],rfl,y,fun i ao u hi hu=>?_,fun i j b u v hi L hu am=>?_,fun i b u hi c _=>?_⟩
      ·rcases i with _|i
       ·simp only[AAm,AAq]at hi hu;subst hi hu;refine⟨c1,.slice a 0 0,fun j z L=>by simpa using L,hr.mono hk.O hk.heap,.inr ⟨rfl,Z,by simp[AO],[],ABz _ 0 A _,Hh _ _ _ _⟩⟩
       ·simp at hi
      ·rcases i with _|i
       ·simp only[AAm,AAq]at hi;subst hi;simp[blk]at hu
       ·simp at hi
      ·rcases i with _|i
       ·simp only[AAm,AAq]at hi;subst hi;simp[blk]at c
       ·simp at hi
    unfold JJ at h;obtain⟨cs,B,U⟩:=X x _ H;obtain⟨c1,c2,rfl,h1,D⟩:=U;obtain⟨aj,R,rfl,f,E⟩:=D;have E:R=[]:=E;subst E;split at h
    ·rename_i a0 s;cases h;obtain⟨N,rfl,_,f⟩:=f;have f:N=.slice none 0 0:=f;subst f;exact key a0 c1 none h1 s (by rw[B];simp) C hf
    ·rename_i a0 ak l s;split at h
     ·rename_i W;subst W;cases h;obtain⟨N,rfl,_,_,a,f⟩:=f;obtain⟨C,Y⟩:=C;rw[Y]at f;subst f;exact key a0 c1 a h1 s (by rw[B];simp) C hf
     ·cases h
    ·cases h
   ·cases h
 ·cases h
theorem Vb (z:List Value) (e:0<z.length) (n:Nat) {i j:Nat} (b:j<z.length) (hi:i*z.length+j<n) {u:Value} (hu:z[j]?=some u) :
  (madeCells z.toArray n)[i*z.length+j]?=some u:=by
 simp only[madeCells,Array.getElem?_map,List.size_toArray];have hr:(Array.range n)[i*z.length+j]?=some (i*z.length+j):=by
  rw[Array.getElem?_range];simp[hi]
 rw[hr];have d:(i*z.length+j) % z.length=j:=by
  rw[Nat.mul_comm,Nat.mul_add_mod];exact Nat.mod_eq_of_lt b
 simp only[AAY,d];have c:=(QB.1 hu);obtain⟨h1,a⟩:=c;simp[h1,a]
theorem A1k (hT:D0 P tb id ti) (g:DB P tb) {e:Ty} {offs:List (Nat×Nat)} {el:TypeId} {b:Nat} (B:ti=⟨.slice e,offs,el,b⟩) {te:TI} (o:lk el tb.ty=some te) {n:Int} {d:Nat}
  (h0:0≤n) (hn:n.toNat*te.bytes≤AO) (hf:BZ [(d,.arr el e (List.replicate n.toNat e.dflt))] σ=true) :
  ∃u ρ' w',(Instr.makeSlice id (.int .i64 n) (.int .i64 n)).run P w=.ok u w'∧QS w O0 σ ρ (.sr d e 0 n.toNat) [(d,.arr el e (List.replicate n.toNat e.dflt))] u ρ' w':=by
 subst B;obtain⟨hu,hs,G,p,rfl⟩:=CD hT g;rw[o]at p;cases p;obtain⟨⟨⟨_,t,_⟩,i,z,hi,m,v,D,E⟩,_⟩:=g _ _ o;have F:=te.ty.size_pos;have c:n.toNat≤AO:=by
  have:n.toNat*1≤n.toNat*te.bytes:=ABd _ t;omega
 have s:(i.bytes:Int)*n≤281474976710656:=by
  have h1:((i.bytes*n.toNat:Nat):Int)≤140737488355328:=by
   rw[v,Nat.mul_comm];simp only[AO]at hn;omega
  rw[Int.natCast_mul]at h1;have r:((n.toNat:Nat):Int)=n:=by omega
  rw[r]at h1;omega
 have hr:=run_make (P:=P) w id el i z hu hi D .i64 .i64 n n h0 (ACd _) s (by simp only[AO]at c;omega);have f:te.ty.zero.length=te.ty.size:=(Br.zero w (fun _=>False) te.ty).length;refine⟨_,_,_,hr,QS.arr hf (FO w _) (SJ (et:=el) (sz:=te.ty.size) (n:=n.toNat) (cells:=madeCells z.cells (n.toNat*i.size)) (by rw[size_madeCells,m]) c |> fun h=>by simpa using h) (by simpa using c) ?_ (by simp)⟩;intro j x a;have k:=(QB.1 a).1;simp only[List.length_replicate]at k;have C:x=te.ty.dflt:=by
  rw[AAB]at a;simp[k]at a;exact a.symm
 subst C;refine⟨te.ty.zero,f,fun q u l=>?_,Br.zero _ _ _⟩;have A:=(QB.1 l).1;have y:j*te.ty.zero.length+q<n.toNat*i.size:=by
  rw[m,f];have:(j+1)*te.ty.size≤n.toNat*te.ty.size:=AA2 _ (by omega);rw[AAP]at this;omega
 have:=Vb te.ty.zero (by omega) (n.toNat*i.size) A y l;rw[f]at this;rw[E];simpa using this
theorem A3i (hT:D0 P tb id ti) (i:DB P tb) {d:Nat} {x y:AV} {xv c:Value} (h:Ht tb d (some ti) (some x) (some y)=some (vc,v,obs)) (o:vc)
  (p:B2 (vw w O0 σ ρ) x xv) (q:B2 (vw w O0 σ ρ) y c) (hf:BZ obs σ=true) :
  ∃u ρ' w',(Instr.makeSlice id xv c).run P w=.ok u w'∧QS w O0 σ ρ v obs u ρ' w':=by
 unfold Ht at h;split at h
 ·rename_i e offs el b n m j k l;cases j;cases k;cases l;cases a:lk el tb.ty with
  | none=>rw[a]at h;simp[KK]at h
  | some te =>
   rw[a]at h;simp only[KK]at h;cases h;obtain⟨rfl,_⟩:=BR p;obtain⟨rfl,_⟩:=BR q;obtain⟨h1,f,g⟩:=o;have h1:n=m:=h1;subst h1;exact A1k hT i rfl a f g hf
 ·cases h
end
end
section
open Go Go.RowKit
theorem Vy {w:World} {O:Nat→Prop} {e:Ty}:∀ {l:List e.den} {ad:Addr},
  (∀(i:Nat) (x:e.den),l[i]?=some x→∃b:List Value,b.length=e.size∧(∀(j:Nat) (v:Value),b[j]?=some v→w.cell? (ad.add (i*e.size+j))=some v)∧Br w O e b x) →
  ∃c:List Value,c.length=l.length*e.size∧Dh w O e c l∧(∀u∈c,u.oneCell'=true)∧(∀(j:Nat) (u:Value),c[j]?=some u→w.cell? (ad.add j)=some u)
 | [],ad,h=>⟨[],by simp,Hh _ _ _ _,by simp,by simp⟩
 | x :: l,ad,h=>by
  obtain⟨b,h1,n,m⟩:=h 0 x rfl;obtain⟨c,o,p,q,r⟩:=Vy (w:=w) (O:=O) (e:=e) (l:=l) (ad:=ad.add e.size) (fun i y hi=>by
   obtain⟨d,f,g,k⟩:=h (i+1) y (by simpa using hi);refine⟨d,f,fun j v a=>?_,k⟩;rw[DP,show e.size+(i*e.size+j)=(i+1)*e.size+j by rw[AAP];omega];exact g j v a)
  refine⟨b++c,by simp[h1,o,AAP];omega,fun i y hi=>?_,fun u hu=>?_,fun j u a=>?_⟩
  ·cases i with
   | zero =>
    simp at hi;subst hi;refine⟨b,h1,fun j u a=>?_,m⟩;rw[ABX,AAL,oS (QB.1 a).1];exact a
   | succ i =>
    obtain⟨d,f,g,k⟩:=p i y (by simpa using hi);refine⟨d,f,fun j u a=>?_,k⟩;rw[AA3 (by rw[h1,AAP];omega),h1,show (i+1)*e.size+j-e.size=i*e.size+j by rw[AAP];omega];exact g j u a
  ·rcases ON.1 hu with hu|hu
   ·exact m.one u hu
   ·exact q u hu
  ·rw[AAk]at a;split at a
   ·have:=n j u a
    rwa [ABX,AAL]at this
   ·rename_i s;have:=r _ u a;rw[DP]at this
    rwa [show e.size+(j-b.length)=j by omega]at this
section
variable {P:Program} {tb:Tb} {id:TypeId} {ti:TI} {w:World} {O0:Nat→Prop} {σ:St} {ρ:Nat→Value} {vc:Prop} {v:AV} {obs:List (Nat×Obj)}
structure Src (w:World) (O:Nat→Prop) (e:Ty) (xv:Value) (ys:List e.den) (news:List Value):Prop where
 form:∃(a:Option Addr) (c:Nat),xv=.slice a ys.length c∧(ys=[]∨∃ad,a=some ad∧∀(j:Nat) (u:Value),news[j]?=some u→w.cell? (ad.add j)=some u)
 len:news.length=ys.length*e.size
 elems:Dh w O e news ys
 one:∀u∈news,u.oneCell'=true
 max:ys.length≤AO
theorem SK (w:World) (O:Nat→Prop) (e:Ty) (a:Option Addr) (c:Nat):Src w O e (.slice a 0 c) [] [] :=
 ⟨⟨a,c,rfl,.inl rfl⟩,by simp,Hh _ _ _ _,by simp,by simp[AO]⟩
theorem Vz {V:Vw} {et:TypeId} {e:Ty} {xs:List e.den} {loc:Value} {cells:List Value} (k:V.w.ownsRow 0 et e.size loc xs.length cells) (g:Dh V.w V.O e cells xs):∀u∈cells,u.oneCell'=true:=by
 intro u hu;obtain⟨j,h,i⟩:=AAf.1 hu;have l:=k.1;have c:=e.size_pos;have hi:j / e.size<xs.length:=by
  rw[Nat.div_lt_iff_lt_mul c];omega
 obtain⟨a,h1,d,f⟩:=g (j / e.size) (xs[j / e.size]) (AT hi);have b:j % e.size<a.length:=by rw[h1];exact ACH _ c
 have:=d (j % e.size) (a[j % e.size]) (AT b);rw[show j / e.size*e.size+j % e.size=j by rw[Nat.mul_comm];exact Nat.div_add_mod j e.size]at this;rw[AT h]at this;injection this with this
 rw[←i,this];exact f.one _ (AA7 b)
def noN (σ:St):AV→Bool
 | .sr n _ _ _=>CY (lk n σ.objs)
 | _=>false
theorem mP {w:World} {O:Nat→Prop} {et:TypeId} {b:Ty} {xs:List b.den} {loc xv:Value} {cells:List Value} {lo hi:Nat} (Q:xs.length≤AO) (h:w.ownsRow 0 et b.size loc xs.length cells) (o:Dh w O b cells xs) (H:DA loc b.size lo hi xv) :
  ∃J,Src w O b xv (sub xs lo hi) J:=by
 have G:=Vz (V:=⟨w,O,fun _=>False,fun _=>undef⟩) h o;obtain⟨a,m,c,k,N,p,l,n,rfl,K,h0,h1⟩:=H;have E:m=xs.length:=by
  rcases h.2 with ⟨d,F⟩|⟨g,cap,s,d,_⟩
  ·rw[k]at d;injection d;omega
  ·rw[k]at d;injection d
 subst E;have f:=NZ xs (lo:=lo) p;by_cases C:lo<hi
 ·rcases h.2 with ⟨d,F⟩|⟨g,cap,s,d,r⟩
  ·omega
  ·have A:=World.ownsRow.cells h (g:=g) (by rw[d];rfl);have ha:a=some ⟨g,0,none⟩:=by rw[k]at d;injection d
   subst ha;have L:=h.1;have R:hi*b.size≤xs.length*b.size:=AA2 _ p;have S:lo*b.size≤hi*b.size:=AA2 _ (by omega);refine⟨(cells.drop (lo*b.size)).take ((hi-lo)*b.size),⟨l,n,by rw[f],.inr ⟨_,h1 C,fun j u e=>?_⟩⟩,?_,?_,?_,?_⟩
   ·rw[AA0,AAi]at e;split at e
    ·have:=A _ u e;rw[DP];exact this
    ·cases e
   ·rw[f,SH,AAV,Nat.sub_mul];omega
   ·intro i x B;obtain⟨I,P⟩:=Xo xs lo hi i B;obtain⟨t,v,y,z⟩:=o (lo+i) x I;refine⟨t,v,fun j u e=>?_,z⟩;have M:=(QB.1 e).1;have D:i*b.size+j<(hi-lo)*b.size:=by
     have:(i+1)*b.size≤(hi-lo)*b.size:=AA2 _ (by omega);rw[AAP]at this;omega
    rw[AA0,BY D,AAi];have:=y j u e
    rwa [ABK,ABF]at this
   ·intro u hu;exact G u (AAG (AAb hu))
   ·rw[f];omega
 ·have q:sub xs lo hi=[]:=aT (by rw[f];omega);refine⟨[],⟨l,n,by rw[f],.inl q⟩,by rw[f,show hi-lo=0 by omega];simp,?_,by simp,by rw[f];omega⟩;rw[q];exact Hh _ _ _ _
theorem Xu (q:∀n o,lk n σ.objs=some o→A1 (vw w O0 σ ρ) o (ρ n)) {e:Ty} {x:AV} {xv:Value} {ys:List e.den} (h:KJ true σ (.slice e) x=some ys) (F:noN σ x=false) (s:B2 (vw w O0 σ ρ) x xv) :
  ∃C,Src w (own O0 σ ρ) e xv ys C:=by
 replace h:EI true σ (.slice e) x=some ys:=by
  unfold KJ at h;exact h
 cases x;case p u I =>
  have h:BO (.slice e) ⟨u,I⟩=some ys:=by simpa only[EI] using h
  have:=BB h;injection this with h1 D
  subst h1;cases D;obtain⟨cs,⟨a,c,rfl,m,N,y⟩,rfl⟩:=s;by_cases hn:ys=[]
  ·subst hn;exact⟨[],SK _ _ _ _ _⟩
  ·rcases y with y|⟨ad,rfl,W,g⟩
   ·exact absurd y hn
   ·obtain⟨C,d,f,K,M⟩:=Vy g;exact⟨C,⟨some ad,c,rfl,.inr ⟨ad,rfl,M⟩⟩,d,f,K,N⟩
 case sr n J lo hi =>
  simp only[EI]at h;split at h
  ·rename_i A;obtain⟨_,rfl⟩:=A;obtain⟨O,b⟩:=s;cases hn:lk n σ.objs with
   | none=>rw[hn]at h;simp[OL]at h
   | some o =>
    rw[hn]at h;cases o with
    | box et ag fs=>simp[OL]at h
    | mapo k v l=>simp[OL]at h
    | frame ah fs=>simp[OL]at h
    | loop L=>simp[OL]at h
    | itr aa af ab ae Z=>simp[OL]at h
    | dfr=>simp[OL]at h
    | nest et V k t xs E=>rw[noN,hn]at F;cases F
    | arr et t xs =>
     simp only[OL]at h;obtain⟨d,f⟩:=Bm h;subst d;cases f;have b:DA (plc (ρ n)) t.size lo hi xv:=b;rw[OW (q n _ hn)]at b;obtain⟨B,cells,j,g⟩:=q n _ hn;exact mP B j g b
  ·cases h
 case nin n J i len =>
  simp only[EI]at h;split at h
  ·rename_i A;obtain⟨_,rfl⟩:=A;obtain⟨O,aj,a,c,H,G,r,R,X⟩:=s;cases hn:lk n σ.objs with
   | none=>rw[hn]at h;simp[OM]at h
   | some o =>
    rw[hn]at h;unfold OM at h;split at h
    ·rename_i et V k t xs T;cases T;obtain⟨d,f⟩:=Bm h;subst d;cases f;have Q:=SI (z:=(k.dflt,[])) (q n _ hn) G r;obtain⟨o,ins,cells,E,P⟩:=q n _ hn;obtain rfl:=E.tup G;have r:ins[i]?=some H:=by simpa using r
     obtain⟨c1,ai,h1,D,m⟩:=P.row i _ H Q r;rcases m with ⟨m,_⟩|⟨_,_,B,Y,j,g⟩
     ·cases m
     ·rcases R with rfl|⟨rfl,a0,rfl⟩
      ·have:=mP B j g (FN j)
       rwa [HQ]at this
      ·have S:=KS j;have U:(xs.getD i (k.dflt,[])).2=[]:=aT S.symm;rw[U];exact⟨[],SK _ _ _ _ _⟩
    ·cases h
  ·cases h
 case raw u =>
  have b:xv=u:=s;subst b;cases xv with
  | slice a n c =>
   cases a with
   | some a=>simp[EI]at h
   | none =>
    cases n with
    | succ n=>simp[EI]at h
    | zero =>
     cases c with
     | succ c=>simp[EI]at h
     | zero =>
      simp only[EI]at h;cases h;exact⟨[],SK _ _ _ _ _⟩
  | _=>simp[EI]at h
 all_goals simp[EI]at h
theorem SL (a:∀n o,lk n σ.objs=some o→A1 (vw w O0 σ ρ) o (ρ n)) {e:Ty} {x:AV} {xv:Value} {ys:List e.den} (h:OK σ e x=some ys) (b:B2 (vw w O0 σ ρ) x xv) :
  ∃f,Src w (own O0 σ ρ) e xv ys f:=by
 unfold OK at h;split at h
 ·split at h
  ·cases h
  ·rename_i c;exact Xu a h (by simpa[noN] using c) b
 ·rename_i d;refine Xu a h ?_ b;cases x<;>first|rfl|exact absurd rfl (d _ _ _ _)
theorem RL {el:TypeId} (hu:P.underlying id=some (.slice el)) {sz:Nat} (hs:(sizeOf el).run P w=.ok sz w) {base et ty:Nat} {s:Value} {n:Nat} {xs:List Value} (b:w.ownsRow base et sz s n xs) (c:Nat) :
  (Builtin.append_ #[id,id] ty #[s,.slice none 0 c]).run P w=.ok s w:=by
 rcases b.2 with ⟨rfl,rfl⟩|⟨g,cap,d,rfl,_,_,a,_⟩
 ·simp[Builtin.append_,aS hu,hs,Builtin.lenOf,Builtin.firstCells]
 ·simp[Builtin.append_,aS hu,hs,Builtin.lenOf,Builtin.firstCells,a,storeCells]
theorem GJ (k:DB P tb) {el:TypeId} {e:Ty} (hu:P.underlying id=some (.slice el)) {te:TI} (q:lk el tb.ty=some te) (A:te.ty=e) {base ty:Nat} {s xv:Value} {n:Nat} {xs h:List Value}
    (g:w.ownsRow base el e.size s n xs) {O:Nat→Prop} {ys:List e.den} (D:Src w O e xv ys h) (r:(n+ys.length)*te.bytes≤AO) (l:base≤w.heap.size) :
    ∃b w',(Builtin.append_ #[id,id] ty #[s,xv]).run P w=.ok b w'∧w'.ownsRow base el e.size b (n+ys.length) (xs++h)∧w.grownBy w' s.ownBlock∧n+ys.length≤AO:=by
  subst A;obtain⟨⟨⟨_,x,_⟩,i,z,hi,p,m,t,u⟩,_⟩:=k _ _ q;have f:n+ys.length≤AO:=by
    have:(n+ys.length)*1≤(n+ys.length)*te.bytes:=ABd _ x;omega
  obtain⟨⟨a,c,rfl,v⟩,o,E,C,F⟩:=D;have hs:(sizeOf el).run P w=.ok te.ty.size w:=H0 w (k _ _ q);rcases v with rfl|⟨ad,rfl,y⟩
  · have B:h=[]:=aT (by simpa using o)
    subst B;cases a with
    | none =>
      refine⟨s,w,RL hu hs g c,by simpa using g,⟨rfl,rfl,rfl,NO _,fun _ _ _=>rfl⟩,f⟩
    | some ad =>
      obtain⟨b,w',h1,d,j,_⟩:=run_append_own (P:=P) w base id ty el i z te.ty.size te.bytes hu hi t p m (by rw[u];simpa using (Br.zero w (fun _=>False) te.ty).length) te.ty.size_pos s n xs g ad 0 c [] (by simp) (by simp) (by simp)
        (by have h1:AO=140737488355328:=rfl;have d:maxLen=9223372036854775807:=rfl;simp at f;omega) (by simpa[AO] using r) l
      exact⟨b,w',h1,by simpa using d,j,f⟩
  · obtain ⟨b, w', h1, d, j, _⟩ := run_append_own (P := P) w base id ty el i z te.ty.size te.bytes hu hi t p m (by rw [u]; simpa using (Br.zero w (fun _ => False) te.ty).length) te.ty.size_pos s n xs g ad ys.length c h o y C
        (by have h1:AO=140737488355328:=rfl;have d:maxLen=9223372036854775807:=rfl;omega) (by simpa[AO] using r) l
    exact⟨b,w',h1,d,j,f⟩
theorem KU {w:World} {O:Nat→Prop} {e:Ty} {c1 c2:List Value} {xs ys:List e.den} (h1:Dh w O e c1 xs) (g:Dh w O e c2 ys) (h:c1.length=xs.length*e.size):Dh w O e (c1++c2) (xs++ys):=by
 intro i x hi;rw[AAk]at hi;split at hi
 ·obtain⟨a,b,c,d⟩:=h1 i x hi;refine⟨a,b,fun j u f=>?_,d⟩;have:=c j u f;rw[oS (QB.1 this).1];exact this
 ·rename_i k;obtain⟨a,b,c,d⟩:=g _ x hi;refine⟨a,b,fun j u f=>?_,d⟩;have l:xs.length*e.size≤i*e.size:=AA2 _ (by omega);rw[AA3 (by omega),h];have:=c j u f;rw[Nat.sub_mul]at this;rw[←this]
  congr 1
  omega
theorem RM (k:DB P tb) {el:TypeId} {e:Ty} (hu:P.underlying id=some (.slice el)) {te:TI} (m:lk el tb.ty=some te) (x:te.ty=e) {ty:Nat} {xv:Value} {O:Nat→Prop} {xs:List e.den} {a:Option Addr} {c:List Value}
  (hs:Src w O e (.slice a xs.length xs.length) xs c) {ys:List e.den} {d:List Value} (l:Src w O e xv ys d) (h0:0<ys.length) (n:(xs.length+ys.length)*te.bytes≤AO) :
  ∃b w',(Builtin.append_ #[id,id] ty #[.slice a xs.length xs.length,xv]).run P w=.ok b w'∧w'.ownsRow w.heap.size el e.size b (xs.length+ys.length) (c++d)∧w.grownBy w' none:=by
 subst x;have o:∀ad:Addr,a=some ad→(∀(j:Nat) (u:Value),c[j]?=some u→w.cell? (ad.add j)=some u)→∃b w',(Builtin.append_ #[id,id] ty #[.slice a xs.length xs.length,xv]).run P w=.ok b w'∧w'.ownsRow w.heap.size el te.ty.size b (xs.length+ys.length) (c++d)∧w.grownBy w' none:=by
  intro ad ha D;subst ha;obtain⟨⟨⟨_,s,_⟩,i,z,hi,E,t,F,G⟩,_⟩:=k _ _ m;obtain⟨⟨I,c2,rfl,f⟩,A,M,T,Q⟩:=l;have S:xs.length+ys.length≤AO:=by
   have:(xs.length+ys.length)*1≤(xs.length+ys.length)*te.bytes:=ABd _ s;omega
  rcases f with rfl|⟨p,rfl,g⟩
  ·simp at h0
  ·exact run_append_arg_grows (P:=P) w id ty el i z te.ty.size te.bytes hu hi F E t (by rw[G];simpa using (Br.zero w (fun _=>False) te.ty).length) te.ty.size_pos ad xs.length xs.length c hs.len D p ys.length c2 d A g (by omega)
    (by have h1:AO=140737488355328:=rfl;have h:maxLen=9223372036854775807:=rfl;omega) (by simpa[AO] using n)
 obtain⟨⟨H,c1,v,f⟩,B,N,U,R⟩:=hs;injection v with q J K
 subst q;rcases f with rfl|⟨ad,ha,g⟩
 ·have C:c=[]:=aT (by simpa using B);subst C;cases a with
  | some ad=>exact o ad rfl fun j u y=>by simp at y
  | none =>
   obtain⟨b,w',h1,h,r,L⟩:=GJ (ty:=ty) k hu m rfl (ABz w w.heap.size el te.ty.size) l (by simpa using n) (NO _);exact⟨b,w',h1,by simpa using h,r⟩
 ·exact o ad ha g
theorem RN {w w':World} (h:w.grownBy w' none):Below w.heap.size w w':=⟨h.os,h.tape,h.output,h.size,fun k hk=>h.block k hk (by simp)⟩
theorem uM (a:DB P tb) (E:∀n o,lk n σ.objs=some o→A1 (vw w O0 σ ρ) o (ρ n)) {d:Nat} {t u:TypeId} {x y:AV} {xv J:Value} {ty:TypeId}
  (h:CS tb σ d t u (some x) (some y)=some (vc,v,obs)) (m:vc) (q:B2 (vw w O0 σ ρ) x xv) (H:B2 (vw w O0 σ ρ) y J) (hf:BZ obs σ=true) :
  ∃z ρ' w',(Builtin.append_ #[t,u] ty #[xv,J]).run P w=.ok z w'∧QS w O0 σ ρ v obs z ρ' w':=by
 unfold CS at h;split at h
 ·rename_i C D;cases C;cases D;have q:xv=_:=q;subst q;split at h
  ·rename_i G;subst G;cases c:lk t tb.ty with
   | none=>rw[c]at h;simp[Dx]at h
   | some ti =>
    rw[c]at h;unfold Dx at h;split at h
    ·rename_i e offs el b B;cases B;obtain⟨hu,hs,te,i,k⟩:=CD (a _ _ c) a;rw[i]at h;cases f:OK σ e y with
     | none=>rw[f]at h;simp[EY]at h
     | some ys =>
      rw[f]at h;simp only[EY]at h;cases h;obtain⟨I,g⟩:=SL E f H;obtain⟨r,w',h1,j,A,O⟩:=GJ (ty:=ty) a hu i k (ABz w w.heap.size el e.size) g (by simpa using m) (NO _);have j:w'.ownsRow w.heap.size el e.size r ys.length I:=by simpa using j
      exact⟨r,_,w',h1,QS.arr hf (RN A) j g.max g.elems rfl⟩
    ·cases h
  ·cases h
 ·rename_i e l v1 C D;cases C;cases D;split at h
  ·rename_i G;subst G;obtain⟨M,a0,rfl⟩:=q;cases c:lk t tb.ty with
   | none=>rw[c]at h;simp[Hu]at h
   | some ti =>
    rw[c]at h;unfold Hu at h;split at h
    ·rename_i s offs el b B;cases B;split at h
     ·rename_i k;subst k;obtain⟨hu,hs,te,i,k⟩:=CD (a _ _ c) a;rw[i]at h;cases f:OK σ s y with
      | none=>rw[f]at h;simp[JK]at h
      | some ys =>
       rw[f]at h;simp only[JK]at h;cases h;obtain⟨N,m⟩:=m;obtain⟨I,g⟩:=SL E f H;obtain⟨Q,F⟩:=Xu (e:=s) (ys:=l) (x:=.p (.slice s) l) E (by simp[KJ,EI,EW]) rfl M;obtain⟨r,w',h1,j,A⟩:=RM (ty:=ty) a hu i k F g N m;have L:(l++ys).length≤AO:=by
        obtain⟨⟨⟨_,K,_⟩,_⟩,_⟩:=a _ _ i;have:(l.length+ys.length)*1≤(l.length+ys.length)*te.bytes:=ABd _ K;rw[OR];omega
       exact⟨r,_,w',h1,QS.arr hf (RN A) (by rw[OR];exact j) L (KU F.elems g.elems F.len) (by rw[OR])⟩
     ·cases h
    ·cases h
  ·cases h
 ·cases h
end
end
section
open Go Go.RowKit
def S7:Ty→Option TypeDesc
 | .int k=>some (.int k)
 | .bool=>some .bool
 | .str=>some .string
 | .prod _ _=>none
 | .agg _=>none
 | .slice _=>none
 | .ref _=>none
section
variable {w:World} {O:Nat→Prop}
theorem MW {a:Ty} {d:TypeDesc} (b:S7 a=some d) {k:a.den} {c:Value} (h:BW w O a c k):MapKept.IsKey d c:=by
 cases a<;>simp only[S7]at b<;>try(cases b;done)
 all_goals cases b
 ·obtain⟨rfl,_⟩:=BR h;trivial
 ·have:=EC h;subst this;trivial
 ·obtain⟨rfl,_⟩:=Gi h;trivial
theorem ZM {a:Ty} {d:TypeDesc} (c:S7 a=some d) {k e:a.den} {f g:Value} (h:BW w O a f k) (b:BW w O a g e):Instr.sameNow d f g=some (JH a k e):=by
 cases a<;>simp only[S7]at c<;>try(cases c;done)
 all_goals cases c
 ·obtain⟨rfl,_⟩:=BR h;obtain⟨rfl,_⟩:=BR b;simp[Instr.sameNow,JH]
 ·have:=EC h;subst this;have:=EC b;subst this;simp[Instr.sameNow,JH]
 ·obtain⟨rfl,_⟩:=Gi h;obtain⟨rfl,_⟩:=Gi b;simp[Instr.sameNow,JH]
theorem A3j {a:Ty} {d:TypeDesc} (c:S7 a=some d) {k f:a.den} {g i:Value} (h:BW w O a g k) (e:BW w O a i f) (l:JH a k f=true):i=g:=by
 have h1:=ZM c h e;obtain⟨r,b,j⟩:=MapKept.sameNow_of_keys (MW c h) (MW c e);rw[h1]at b;injection b with b
 exact(j.1 (b▸l)).symm
def HL (a b:Ty) (k:a.den):List MapEntry→List (a.den×b.den)→Nat→Option (Nat×Value)
 | e :: c,x :: l,i=>if JH a k x.1=true then some (i,e.val) else HL a b k c l (i+1)
 | _,_,_=>none
end
structure S8 (P:Program) (kid:TypeId) (kt:Ty):Prop where
 check:∀ {w:World} {O:Nat→Prop} {kv:Value} {k:kt.den} (em:Bool),BW w O kt kv k→(Instr.checkKey em 10000 kid kv).run P w=.ok () w
 find:∀ {w:World} {O:Nat→Prop} {vt:Ty} {es:List MapEntry} {l:List (kt.den×vt.den)} {kv:Value} {k:kt.den},BW w O kt kv k→Jm w O kt vt es l→(Instr.findKey kid kv es).run P w=.ok (HL kt vt k es l 0) w
 stays:∀ {w:World} {O:Nat→Prop} {kv:Value} {k:kt.den},BW w O kt kv k→(Instr.keyThatStays kv kv).run P w=.ok kv w
 same:∀ {w:World} {O:Nat→Prop} {kv kv':Value} {k k':kt.den},BW w O kt kv k→BW w O kt kv' k'→JH kt k k'=true→kv'=kv
theorem V0 {w:World} {O:Nat→Prop} {a c:Ty} {d:TypeDesc} (g:S7 a=some d) {k:a.den} {j:Value} (hk:BW w O a j k):∀ {b:List MapEntry} {l:List (a.den×c.den)},Jm w O a c b l→∀i,Instr.findNow d j b i=some (HL a c k b l i)
 | [],[],_,i=>rfl
 | [],_ :: _,h,_=>h.elim
 | _ :: _,[],h,_=>h.elim
 | e :: b,x :: l,⟨h1,o,m⟩,i=>by
  have hs:=ZM g hk h1;have n:=V0 g hk m (i+1);cases f:JH a k x.1<;>rw[f]at hs<;>simp[Instr.findNow,HL,hs,f,n]
theorem Gc {P:Program} {kid:TypeId} {kt:Ty} {d:TypeDesc} (hd:S7 kt=some d) (hu:P.underlying kid=some d):S8 P kid kt where
 check:=fun em h=>MapKept.run_checkKey hu (MW hd h) em 9999
 find:=fun hk he=>MapKept.run_findKey hu (V0 hd hk he 0)
 stays:=fun h=>MapKept.run_keyThatStays (MW hd h)
 same:=fun h h' he=>A3j hd h h' he
theorem FP {w:World} {O:Nat→Prop} {a b:IntKind} {v:Value} {d:(Ty.agg (.prod (.int a) (.int b))).den} (h:BW w O (.agg (.prod (.int a) (.int b))) v d):v=.agg #[.int a d.1,.int b d.2]:=by
 obtain⟨cs,⟨c1,c2,rfl,⟨rfl,_⟩,⟨rfl,_⟩⟩,rfl⟩:=h;rfl
theorem RP {P:Program} {w:World} {t:TypeId} {a:IntKind} (h:P.underlying t=some (.int a)) (d:Nat) (x y:Int):(Op.equalIn (d+1) t (.int a x) (.int a y)).run P w=.ok (x==y) w:=by simp[Op.equalIn,aS h]
theorem Ob {P:Program} {w:World} {t:TypeId} {a:IntKind} (h:P.underlying t=some (.int a)) (em:Bool) (d:Nat) (x:Int):(Instr.checkKey em (d+1) t (.int a x)).run P w=.ok () w:=by simp[Instr.checkKey,aS h]
theorem Vc {P:Program} {w:World} {h:TypeId} {a b:IntKind} (hp:MU P h a b) (em:Bool) (d:Nat) (x y:Int):(Instr.checkKey em (d+2) h (.agg #[.int a x,.int b y])).run P w=.ok () w:=by
 obtain⟨c,e,hu,⟨h1,j⟩,⟨l,m⟩,⟨f,g⟩,s⟩:=hp;have i : c.name ≠ "_" := by simpa using h1
 have k : e.name ≠ "_" := by simpa using j
 have n:P.plainKey c.type=true:=by simp[Program.plainKey,f]
 have o:P.plainKey e.type=true:=by simp[Program.plainKey,g]
 have p0:=fun(u v:Value)=>ACq (P:=P) w n (xs:=#[u,v]) (off:=c.offset) (v:=u) (by rw[l];rfl);have p:=fun(u v:Value)=>ACq (P:=P) w o (xs:=#[u,v]) (off:=e.offset) (v:=v) (by rw[m];rfl);have q:=fun x:Int=>Ob (w:=w) f em d x;have r:=fun x:Int=>Ob (w:=w) g em d x;rw[Instr.checkKey];simp[aS hu,i,k,p0,p,q,r]
theorem S9 {P:Program} {g:TypeId} {a b:IntKind} (hp:MU P g a b) (w:World) (h i j k:Int):(Op.equal g (.agg #[.int a h,.int b i]) (.agg #[.int a j,.int b k])).run P w=.ok ((h==j)&&(i==k)) w:=by
 obtain⟨d,f,hu,⟨h1,l⟩,⟨r,s⟩,⟨m,n⟩,t⟩:=hp;have o:P.fieldsOf g=#[d,f]:=by simp[Program.fieldsOf,hu]
 have z:P.plainKey d.type=true:=by simp[Program.plainKey,m]
 have A:P.plainKey f.type=true:=by simp[Program.plainKey,n]
 have h1 : d.name ≠ "_" := by simpa using h1
 have l : f.name ≠ "_" := by simpa using l
 have B:∀x y:Int,(Op.equalIn 9999 d.type (.int a x) (.int a y)).run P w=.ok (x==y) w:=fun x y=>RP m 9998 x y;have p:∀x y:Int,(Op.equalIn 9999 f.type (.int b x) (.int b y)).run P w=.ok (x==y) w:=fun x y=>RP n 9998 x y;have e:(Op.equal g (.agg #[.int a h,.int b i]) (.agg #[.int a j,.int b k])).run P w=_:=run_equalIn_struct (P:=P) w 9999 g _ _ (by rw[o];exact hu) t;rw[e,o];have p0:=fun(u v:Value)=>ACq (P:=P) w z (xs:=#[u,v]) (off:=d.offset) (v:=u) (by rw[r];rfl);have q:=fun(u v:Value)=>ACq (P:=P) w A (xs:=#[u,v]) (off:=f.offset) (v:=v) (by rw[s];rfl);simp only[Op.eqFields,h1,l,ne_eq,not_false_eq_true,AAC,AAH,p0,q,AA6,B,p];by_cases c:h=j
 ·by_cases c2:i=k<;>simp[c,c2,Sem.run_ite,AAH,q,p,Op.eqFields]
 ·simp[c,Sem.run_ite]
theorem WA {P:Program} {g:TypeId} {a b:IntKind} (hp:MU P g a b) {w:World} {O:Nat→Prop} {d:Ty} {k:(Ty.agg (.prod (.int a) (.int b))).den} {j:Value} (hk:BW w O (.agg (.prod (.int a) (.int b))) j k) :
  ∀ {c:List MapEntry} {l:List ((Ty.agg (.prod (.int a) (.int b))).den×d.den)},Jm w O (.agg (.prod (.int a) (.int b))) d c l→∀i,(Instr.findAsking g j c i).run P w=.ok (HL (.agg (.prod (.int a) (.int b))) d k c l i) w
 | [],[],_,i=>rfl
 | [],_ :: _,h,_=>h.elim
 | _ :: _,[],h,_=>h.elim
 | e :: c,x :: l,⟨h1,p,m⟩,i=>by
  have o:=WA hp hk m (i+1);have f:=S9 hp w k.1 k.2 x.1.1 x.1.2;rw[←FP hk,←FP h1]at f;have n:JH (.agg (.prod (.int a) (.int b))) k x.1=((k.1==x.1.1)&&(k.2==x.1.2)):=rfl;simp only[Instr.findAsking,AAH,f,AA6,HL,n,Sem.run_ite];split
  ·rfl
  ·exact o
theorem ZN {P:Program} {kid:TypeId} {a b:IntKind} (hp:MU P kid a b):S8 P kid (.agg (.prod (.int a) (.int b))) where
 check:=fun em h=>by
  rw[FP h];exact Vc hp em 9998 _ _
 find:=fun hk he=>by
  have hp2:=hp;obtain⟨f0,f1,hu,_⟩:=hp2;rw[run_findKey_eq _ (by rw[hu])];exact WA hp hk he 0
 stays:=fun h=>by
  rw[FP h];simp[Instr.keyThatStays,Instr.sameBits]
 same:=fun h h' he=>by
  rw[FP h,FP h'];have he:((_==_)&&(_==_))=true:=he;simp only[An,AA1]at he;rw[he.1,he.2]
theorem QK {P:Program} {A:TypeId} {w:World} {O:Nat→Prop} {c a:Ty} (hr:S8 P A c) {k:c.den} {n:Value} (hk:BW w O c n k):∀ {g:List MapEntry} {l:List (c.den×a.den)},Jm w O c a g l→∀i,
  (A5 c a k l=none∧HL c a k g l i=none∧∀(v:a.den) (d:Value) (b:Nat),BW w O a d v→Jm w O c a (g++[⟨n,d,b⟩]) (Ho c a k v l)) ∨
  ∃(j:Nat) (e:MapEntry) (v0:a.den),A5 c a k l=some v0∧HL c a k g l i=some (i+j,e.val)∧g[j]?=some e∧BW w O a e.val v0∧e.key=n ∧
   ∀(v:a.den) (d:Value),BW w O a d v→Jm w O c a (g.modify j fun e=>{ e with key:=n,val:=d }) (Ho c a k v l)
 | [],[],_,i=>.inl ⟨rfl,rfl,fun v d b m=>⟨hk,m,trivial⟩⟩
 | [],_ :: _,h,_=>h.elim
 | _ :: _,[],h,_=>h.elim
 | e :: g,x :: l,⟨h1,r,s⟩,i=>by
  cases f:JH c k x.1 with
  | true =>
   refine .inr ⟨0,e,x.2,by simp[A5,f],by simp[HL,f],rfl,r,hr.same hk h1 f,fun v d m=>?_⟩;simp only[Ho,f,AAC];exact⟨hk,m,s⟩
  | false =>
   rcases QK hr hk s (i+1) with ⟨o,p,q⟩|⟨j,t,v0,o,p,q,u,y,z⟩
   ·refine .inl ⟨by simp[A5,f,o],by simp[HL,f,p],fun v d b m=>?_⟩;simp only[Ho,f,AAJ,AAU];exact⟨h1,r,q v d b m⟩
   ·refine .inr ⟨j+1,t,v0,by simp[A5,f,o],?_,by simpa using q,u,y,fun v d m=>?_⟩
    ·simp only[HL,f,p,AAJ,AAU]
     congr 2
     omega
    ·simp only[Ho,f,AAJ,AAU,List.modify_succ_cons];exact⟨h1,r,z v d m⟩
theorem ZO {P:Program} {tb:Tb} {id:TypeId} {ti:TI} (hT:D0 P tb id ti) (c:ti.el=0) (hk:Sv ti.ty=true):S8 P id ti.ty:=by
 have a:=hT.2;obtain⟨⟨⟨_,_,b⟩,_⟩,_⟩:=hT;rw[c]at b;cases d:ti.ty<;>rw[d]at a hk b<;>simp only[Sv]at hk<;>try(cases hk;done)
 ·exact Gc rfl a
 ·exact Gc rfl a
 ·exact Gc rfl a
 ·unfold ZA at hk;split at hk
  ·exact ZN b
  ·cases hk
theorem pO {t:Ty} {z:Value} (c:z.cells=t.zero.toArray) (hf:Xr t z=true):z=t.wrap t.zero:=by
 cases t with
 | agg t =>
  cases z<;>simp only[Xr]at hf<;>try(cases hf;done)
  simp only[Value.cells]at c;rw[c];rfl
 | prod a b=>cases z<;>simp[Xr]at hf
 | _=>cases z<;>simp only[Xr]at hf<;>(try(cases hf;done))<;>(simp only[Value.cells,Ty.zero]at c;simp[Ty.wrap,Ty.zero]at c ⊢<;>exact c)
section
variable {P:Program} {tb:Tb} {w:World} {O0:Nat→Prop} {σ:St} {ρ:Nat→Value} {vc:Prop} {v:AV} {obs:List (Nat×Obj)} {id:TypeId} {ti:TI}
theorem pP {P:Program} {tb:Tb} {e:TypeId} {te:TI} {z:Value} {i:TypeInfo} (hi:P.info? e=some i) (b:i.zero=some z) (a:z.cells=te.ty.zero.toArray) (hf:Xr te.ty z=true) (w:World) (O:Nat→Prop) :
  (zeroValue e).run P w=.ok z w∧BW w O te.ty z te.ty.dflt:=by
 refine⟨by simp[zeroValue,typeInfo,hi,b],te.ty.zero,Br.zero w O te.ty,pO a hf⟩
theorem A4p {a:Act} (o:F4 (vw w O0 σ ρ) σ a.eval) {fn:Fn} {first d:List Operand} (h:VZ σ fn first d=some (vc,v,obs)):obs=[]∧∃u,(Instr.makeFunc fn (first.map a.eval).toArray (d.map a.eval).toArray).run P w=.ok u w∧B2 (vw w O0 σ ρ) v u:=by
 unfold VZ at h;split at h
 ·rename_i f;cases j:HK σ d with
  | none=>rw[j]at h;simp[NC]at h
  | some ns =>
   rw[j]at h;simp only[NC]at h;cases h;have key:∀ {l:List Operand} {ns:List Nat},HK σ l=some ns→l.map a.eval=ns.map ρ∧∀n∈ns,Gb σ n∧∃b:Nat,ρ n=.pointer (some ⟨b,0,none⟩):=by
    intro l;induction l with
    | nil=>intro ns h;simp only[HK]at h;cases h;exact⟨rfl,fun _ h=>by cases h⟩
    | cons x r p =>
     intro ns h;simp only[HK]at h;split at h
     ·rename_i n t h1 k;cases h;obtain⟨e,g⟩:=p k;obtain⟨q,b,c,s⟩:=o x _ h1;have c:ρ n=_:=c;refine⟨by simp only[tO,e,s,c],fun m i=>?_⟩;rcases GO.1 i with rfl|i
      ·exact⟨q,b,c⟩
      ·exact g m i
     ·cases h
   obtain⟨e,g⟩:=key j;refine⟨rfl,_,rfl,?_,g⟩;rw[e];rfl
 ·cases h
theorem pQ {d:Array MapEntry} {cl:Nat} (h:QH d cl) (x y:Value):QH (d.push ⟨x,y,cl⟩) (cl+1):=by
 unfold QH;rw[Array.toList_push,AAx];refine⟨?_,fun b c=>?_⟩
 ·rw[AAF];refine⟨h.1,by simp,fun a ha b c e=>?_⟩;have c:b=cl:=by simpa using c
  have:=h.2 a ha;omega
 ·rcases ON.1 c with c|c
  ·have:=h.2 b c;omega
  ·have c:b=cl:=by simpa using c
   omega
theorem ZP {a:Array MapEntry} {cl:Nat} (h:QH a cl) (j:Nat) (x y:Value):QH (a.modify j fun e=>{ e with key:=x,val:=y }) cl:=by
 have e:((a.modify j fun e=>{ e with key:=x,val:=y }).toList.map (·.born))=a.toList.map (·.born):=by
  rw[Array.toList_modify];apply AA8
  ·simp
  ·intro i h1 b;simp only[ABk,List.getElem_modify];split<;>rfl
 unfold QH;rw[e];exact h
theorem A3k (F:DB P tb) (hT:D0 P tb id ti) {n:Nat} {k e:Nat} (N:ti.ty=.ref 2) (M:ti.offs=[(k,e)]) {a:TI} (Q:lk k tb.ty=some a) {c:Ty} {l:List (a.ty.den×c.den)} {V:Vw} (G:V.w=w)
  (L:A1 V (.mapo a.ty c l) (V.ρ n)) {x y:Value} {kd:a.ty.den} {g:c.den} (H:a.el=0) (J:Sv a.ty=true) (f:BW w V.O a.ty x kd) (A:BW w V.O c y g) :
  ∃b m r,V.ρ n=.map (some b)∧(Instr.mapUpdate id (.map (some b)) x y).run P w=.ok () { w with heap:=w.heap.setIfInBounds b (.map m r) }∧(∃o,w.heap[b]?=some o)∧Jm w V.O a.ty c m.toList (Ho a.ty c kd g l)∧QH m r:=by
 obtain⟨d,hu,_,K⟩:∃d,P.underlying id=some d∧(match d with|.struct _=>False|.array _ _=>False|_=>True) ∧
   ∀k e,(2:Nat)=2→ti.offs=[(k,e)]→d=.map k e∧∃(a te:TI) (z:Value),lk k tb.ty=some a∧lk e tb.ty=some te∧(∃i,P.info? e=some i∧i.zero=some z)∧z.cells=te.ty.zero.toArray∧Xr te.ty z=true:=by
  have:=hT.2;rw[N]at this;exact this
 obtain⟨rfl,_⟩:=K k e rfl M;obtain⟨b,h,cl,v,hh,t,s⟩:=L;subst G;have hr:=ZO (F _ _ Q) H J;have u:=hr.find f t;refine⟨b,?_⟩;rcases QK hr f t 0 with ⟨C,p,q⟩|⟨j,B,v0,C,p,q,R,D,E⟩
 ·refine⟨h.push ⟨x,y,cl⟩,cl+1,v,?_,⟨_,hh⟩,by simpa using q g y cl A,pQ s x y⟩;simp[Instr.mapUpdate,aS hu,AAR hh,hr.check _ f,u,p,ABB _ hh]
 ·have I:h[j]?=some B:=by simpa using q
  refine⟨h.modify j fun e=>{ e with key:=x,val:=y },cl,v,?_,⟨_,hh⟩,by rw[Array.toList_modify];exact E g y A,ZP s j x y⟩;simp[Instr.mapUpdate,aS hu,AAR hh,hr.check _ f,u,p,I,D,hr.stays f,ABB _ hh]
theorem pR (hT:D0 P tb id ti) {d:Nat} (h:E0 tb d (some ti)=some (vc,v,obs)) (hf:BZ obs σ=true) :
  ∃u ρ' w',(Instr.makeMap id none).run P w=.ok u w'∧QS w O0 σ ρ v obs u ρ' w':=by
 unfold E0 at h;split at h
 ·rename_i offs _ _ c;cases c;unfold FM at h;split at h
  ·rename_i k e;unfold FL at h;split at h
   ·cases h;have f:(Instr.makeMap id none).run P w=.ok (.map (some w.heap.size)) (w.alloc (.map #[] 0)):=by
     simp[Instr.makeMap,Result.andThen]
    refine⟨_,_,_,f,QS.one (loc:=.map (some w.heap.size)) ((Below.refl _ w).alloc (NO _) _) ?_ ?_ ?_⟩
    ·intro b a;simp[bk,blk]at a;omega
    ·refine⟨⟨_,by simp only[EL,AB3,lk,AAC];rfl⟩,w.heap.size,?_,rfl⟩;show EM ρ d _ d=_;rw[Bj]
    ·exact⟨w.heap.size,#[],0,rfl,(MapKept.heap_alloc w _).1,trivial,List.Pairwise.nil,fun b a=>by cases a⟩
   ·cases h
  ·cases h
 ·cases h
theorem A3l (hT:D0 P tb id ti) (L:DB P tb) (H:∀n o,lk n σ.objs=some o→A1 (vw w O0 σ ρ) o (ρ n)) {ok:Bool} {x y:AV} {xv D:Value} (h:Hx tb σ ok (some ti) (some x) (some y)=some (vc,v,obs))
  (X:B2 (vw w O0 σ ρ) x xv) (Y:B2 (vw w O0 σ ρ) y D):obs=[]∧∃u,(Instr.lookup id xv D ok).run P w=.ok u w∧B2 (vw w O0 σ ρ) v u:=by
 unfold Hx at h;split at h
 ·rename_i k e _ _ n z O Q R;cases O;cases Q;cases R;obtain⟨d,hu,_,U⟩:=hT.2;obtain⟨rfl,C,te,af,I,W,⟨i,hi,Z⟩,ad,ae⟩:=U k e rfl rfl;cases hn:lk n σ.objs with
  | none=>rw[hn]at h;simp[G8]at h
  | some o =>
   rw[hn]at h;cases o with
   | mapo ah ai l =>
    simp only[G8,I,W,AAY,AAq]at h;split at h
    ·rename_i N;obtain⟨rfl,S,rfl⟩:=N;cases hk:KJ false σ C.ty y with
     | none=>rw[hk]at h;simp[JM]at h
     | some kd =>
      rw[hk]at h;simp only[JM]at h;split at h
      ·rename_i T;have a:=Jo (V:=vw w O0 σ ρ) (O':=own O0 σ ρ) (fun _ h=>h) (fun h=>by cases h) H hk Y;have a:BW w (own O0 σ ρ) C.ty D kd:=a;obtain⟨ag,b,B,rfl⟩:=X;have B:ρ n=_:=B;obtain⟨b',E,cl,c,hh,m,-⟩:=H n _ hn;rw[B]at c;injection c with c
       injection c with c
       subst c;have hh:w.heap[b]?=some (.map E cl):=hh;have m:Jm w (own O0 σ ρ) C.ty te.ty E.toList l:=m;have p:=ZO (L _ _ I) S T;have G:=p.find a m;obtain⟨aa,ab⟩:=pP (te:=te) (P:=P) (tb:=tb) hi Z ad ae w (own O0 σ ρ);have F:∀(f:Value) (q:Bool) (r:Option te.ty.den),BW w (own O0 σ ρ) te.ty f (r.getD te.ty.dflt)→q=r.isSome→KL te.ty ok r=some (vc,v,obs)→obs=[]∧∃u,u=(if ok=true then Value.tuple #[f,.bool q] else f)∧B2 (vw w O0 σ ρ) v u:=by
        intro f q r hr M g;unfold KL at g;subst M;cases ok with
        | true =>
         simp only[AAC]at g ⊢;cases g;exact⟨rfl,_,rfl,[f,.bool r.isSome],rfl,f,_,rfl,hr,_,[],rfl,Bg _,rfl⟩
        | false =>
         simp only[AAJ,AAU]at g ⊢;cases g;exact⟨rfl,_,rfl,hr⟩
       rcases QK p a m 0 with ⟨s,t,_⟩|⟨j,J,v0,s,t,_,K,_,_⟩
       ·rw[s]at h;obtain⟨h1,u,rfl,A⟩:=F af false none ab rfl h;refine⟨h1,_,?_,A⟩;simp[Instr.lookup,aS hu,AAR hh,p.check _ a,G,t,aa]
       ·rw[s]at h;obtain⟨h1,u,rfl,A⟩:=F J.val true (some v0) K rfl h;refine⟨h1,_,?_,A⟩;simp[Instr.lookup,aS hu,AAR hh,p.check _ a,G,t]
      ·cases h
    ·cases h
   | _=>simp[G8]at h
 ·cases h
end
end
end Go.Proofs.YtdapahgnpbehbaaGreat.Fw
