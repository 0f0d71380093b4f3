/- The executor's quiet operations are sound, second part; maps. -/
import Derived.Test.YtdapahgnpbehbaaGreatIZB
import Derived.ArgAppend
import Derived.MapKept
import Derived.WideKeyRuns
import Derived.Laws.StructEq
set_option linter.unusedVariables false
set_option linter.unusedSimpArgs false
namespace Go.Proofs.YtdapahgnpbehbaaGreat.Fw
section
open Go Go.RowKit
section
abbrev AAW:=@Go.MapKept.run_getObj_map
abbrev AB9:=@Go.Sem.run_pure
abbrev ABz:=@Go.World.ownsRow_nil
abbrev ABD:=@Go.MapKept.run_setObj_map
abbrev ACu:=@Go.run_part_plain
variable {P:Program} {tb:Tb} {id:TypeId} {ti:TI} {w:World} {O0:Nat→Prop} {σ:St} {ρ:Nat→Value} {vc:Prop} {v:AV} {obs:List (Nat×Obj)}
theorem Fc (w:World) (o:_root_.Go.Obj):Below w.heap.size w (w.alloc o):=(Below.refl _ _).alloc (No _) o
theorem QS.box {n:Nat} {et:TypeId} {st:Bool} {fs:List AV} {cs:List Value} (hf:Ba [(n,.box et st fs)] σ=true) (g:st=false→fs.length=1) (d:DX (vw w O0 σ ρ) fs cs) :
  QS w O0 σ ρ (.bp n [] 0) [(n,.box et st fs)] (.pointer (some ⟨w.heap.size,0,none⟩)) (EU ρ n (.pointer (some ⟨w.heap.size,0,none⟩))) (w.alloc (.cells cs.toArray et)):=by
 have f:∀(m:Nat) (o:Obj) (b:Nat),lk m [(n,.box et st fs)]=some o→bk (EU ρ n (.pointer (some ⟨w.heap.size,0,none⟩)) m) b→w.heap.size≤b:=by
  intro m o b a c;simp only[lk]at a;split at a
  ·rename_i e;subst e;rw[Bg]at c;simp[bk,blk]at c;omega
  ·cases a
 have hk:CR (vw w O0 σ ρ) (vw (w.alloc (.cells cs.toArray et)) O0 (ET σ [(n,.box et st fs)]) (EU ρ n (.pointer (some ⟨w.heap.size,0,none⟩)))) :=
  IE hf (Fc w _) (fun m a=>by
   simp only[lk]at a;split at a
   ·cases a
   ·rename_i e;simp[EU,e]) f
 refine QS.one (Fc w _) (fun b c=>by simp[bk,blk]at c;omega) ?_ ?_
 ·refine⟨⟨.box et st fs,by simp[ET,lk]⟩,w.heap.size,by rw[show (vw (w.alloc (.cells cs.toArray et)) O0 (ET σ [(n,.box et st fs)]) (EU ρ n (.pointer (some ⟨w.heap.size,0,none⟩)))).ρ n=EU ρ n (.pointer (some ⟨w.heap.size,0,none⟩)) n from rfl,Bg],rfl⟩
 ·exact⟨g,w.heap.size,cs,rfl,heap_alloc_new w _,d.keeps hk⟩
theorem QS.arr {n:Nat} {et:TypeId} {e:Ty} {xs:List e.den} {cells:List Value} {loc:Value} {w':World} {hi:Nat} (hf:Ba [(n,.arr et e xs)] σ=true) (c:Below w.heap.size w w')
  (d:w'.ownsRow w.heap.size et e.size loc xs.length cells) (a:xs.length≤AO) (l:Dp w (own O0 σ ρ) e cells xs) (q:hi=xs.length) :
  QS w O0 σ ρ (.sr n e 0 hi) [(n,.arr et e xs)] loc (EU ρ n loc) w':=by
 subst q;have j:∀b,bk loc b→w.heap.size≤b:=by
  intro b i;rcases d.2 with ⟨rfl,_⟩|⟨g,cap,f,rfl,p,_⟩
  ·simp[bk,blk]at i
  ·simp[bk,blk]at i;omega
 have r:∀(m:Nat) (o:Obj) (b:Nat),lk m [(n,.arr et e xs)]=some o→bk (EU ρ n loc m) b→w.heap.size≤b:=by
  intro m o b a c;simp only[lk]at a;split at a
  ·rename_i e;subst e;rw[Bg]at c;exact j b c
  ·cases a
 have hk:CR (vw w O0 σ ρ) (vw w' O0 (ET σ [(n,.arr et e xs)]) (EU ρ n loc)) :=
  IE hf c (fun m a=>by
   simp only[lk]at a;split at a
   ·cases a
   ·rename_i e;simp[EU,e]) r
 refine QS.one c j ?_ ?_
 ·refine⟨⟨.arr et e xs,by simp[ET,lk]⟩,?_⟩;show DE (plc (EU ρ n loc n)) e.size 0 xs.length loc;rw[Bg,Hk d];rcases d.2 with ⟨rfl,hn⟩|⟨g,cap,f,rfl,p,_,t,_⟩
  ·exact⟨none,0,0,rfl,by omega,by omega,none,0,by rw[hn],by omega,fun _=>⟨rfl,rfl⟩,fun h=>by omega⟩
  ·exact⟨some ⟨g,0,none⟩,xs.length,cap,rfl,by omega,by omega,some ⟨g,0,none⟩,cap,by simp,by omega,fun _=>⟨rfl,rfl⟩,fun _=>by simp[Mo]⟩
 ·refine⟨a,cells,⟨d.1,?_⟩,l.keeps hk⟩;rcases d.2 with h|⟨g,cap,f,h1,s,k⟩
  ·exact .inl h
  ·exact .inr ⟨g,cap,f,h1,Is _,k⟩
theorem LZ (V:Vw) (t:Ty):NS V (oJ t) t.zero:=by
 cases t;case slice e=>exact⟨_,rfl,rfl,rfl⟩
 case ref k=>exact⟨Ki k,rfl,by match k with|0=>rfl|1=>rfl|_+2=>rfl,rfl⟩
 all_goals(exact Bo.zero V.w V.O _)
theorem wR (V:Vw):∀t:Ty,DX V (oK t) t.zero
 | .prod a b=>⟨a.zero,b.zero,rfl,LZ V a,wR V b⟩
 | .int k=>⟨_,[],by simp,LZ V (.int k),rfl⟩
 | .bool=>⟨_,[],by simp,LZ V .bool,rfl⟩
 | .str=>⟨_,[],by simp,LZ V .str,rfl⟩
 | .slice e=>⟨_,[],by simp,LZ V (.slice e),rfl⟩
 | .agg t=>⟨_,[],by simp,LZ V (.agg t),rfl⟩
 | .ref k=>⟨_,[],by simp,LZ V (.ref k),rfl⟩
theorem wS (V:Vw):∀(t:Ty) (d:t.den) (cs:List Value),Bo V.w V.O t cs d→DX V (pfs t d) cs
 | .prod a b,d,cs,h=>by
  obtain⟨c1,c2,rfl,h1,c⟩:=h;exact⟨c1,c2,rfl,h1,wS V b d.2 c2 c⟩
 | .int k,d,cs,h=>⟨cs,[],by simp,h,rfl⟩
 | .bool,d,cs,h=>⟨cs,[],by simp,h,rfl⟩
 | .str,d,cs,h=>⟨cs,[],by simp,h,rfl⟩
 | .slice e,d,cs,h=>⟨cs,[],by simp,h,rfl⟩
 | .agg t,d,cs,h=>⟨cs,[],by simp,h,rfl⟩
 | .ref k,d,cs,h=>⟨cs,[],by simp,h,rfl⟩
theorem Ly (hT:ED P tb id ti) (w:World):∃z:Value,(zeroValue id).run P w=.ok z w∧z.cells=ti.ty.zero.toArray:=by
 obtain⟨⟨_,i,z,h1,c,d,a,b⟩,_⟩:=hT;exact⟨z,by simp[zeroValue,Lx w h1,a],b⟩
theorem A2w (hT:ED P tb id ti) {d:Nat} (h:Jb d id (some ti)=some (vc,v,obs)) (hf:Ba obs σ=true) :
  ∃u ρ' w',(Instr.alloc id true (.tuple #[])).run P w=.ok u w'∧QS w O0 σ ρ v obs u ρ' w':=by
 obtain⟨z,c,e⟩:=Ly hT w;have b:(Instr.alloc id true (.tuple #[])).run P w=.ok (.pointer (some ⟨w.heap.size,0,none⟩)) (w.alloc (.cells ti.ty.zero.toArray id)):=by
  simp[Instr.alloc,c,newVar,newRow,e]
 unfold Jb at h;split at h<;>first|(cases h;done)|skip
 all_goals
  rename_i a;cases a;cases h;refine⟨_,_,_,b,QS.box hf ?_ ?_⟩
 ·simp
 ·exact wR _ _
 ·simp
 ·exact⟨_,[],by simp[Ty.zero],LZ _ _,rfl⟩
 ·simp
 ·exact⟨_,[],by simp[Ty.zero],LZ _ _,rfl⟩
 ·simp
 ·exact⟨_,[],by simp[Ty.zero],LZ _ _,rfl⟩
 ·simp
 ·exact⟨_,[],by simp[Ty.zero],LZ _ _,rfl⟩
 ·simp
 ·exact⟨_,[],by simp[Ty.zero],LZ _ _,rfl⟩
theorem Ni {V:Vw} {ty:Ty} {x:AV} {v:Value} (j:B0 V x v) (hf:CP ty x=true) (hs:ty.cell1=true):v.oneCell'=true:=by
 cases x;case p t d =>
  simp only[CP,DO]at hf;subst hf;obtain⟨cs,o,rfl⟩:=j;cases ty;case agg t=>simp[Ty.cell1]at hs
  case prod a b=>simp[Ty.cell1]at hs
  case slice e=>obtain⟨a,c,rfl,_⟩:=o;rfl
  case int k=>obtain⟨rfl,h⟩:=o;rfl
  case bool=>have o:cs=_:=o;subst o;rfl
  case str=>obtain⟨rfl,h⟩:=o;rfl
  case ref k =>
   have o:cs=[Ki k]:=o;subst o;match k with
   | 0=>rfl
   | 1=>rfl
   | _+2=>rfl
 case ag l=>cases ty<;>simp[CP]at hf<;>simp[Ty.cell1]at hs
 case tup l=>simp[CP]at hf
 case raw u =>
  have j:v=u:=j;subst j;simp only[CP,AT]at hf;exact hf.1
 case sr n e lo hi=>obtain⟨_,_,_,_,_,_,_,r,s,rfl,_⟩:=j;rfl
 case ep n e i q off=>obtain⟨_,g,m,c,_,_,rfl⟩:=j;rfl
 case nin n e i len=>obtain⟨_,_,_,_,_,_,_,_,rfl⟩:=j;rfl
 case pc e d=>obtain⟨_,a,rfl⟩:=j;rfl
 case ip t d=>obtain⟨ad,cs,rfl,_⟩:=j;rfl
 case bp n q off=>obtain⟨_,b,_,rfl⟩:=j;rfl
 case fn f=>have j:v=_:=j;subst j;rfl
 case clo f ns=>obtain⟨rfl,_⟩:=j;rfl
 case mp n=>obtain⟨_,b,_,rfl⟩:=j;rfl
 case yl n=>obtain⟨_,b,_,rfl⟩:=j;rfl
 case top=>simp[CP]at hf
end
end
section
open Go Go.RowKit
section
variable {P:Program} {tb:Tb} {id:TypeId} {ti:TI} {w:World} {O0:Nat→Prop} {σ:St} {ρ:Nat→Value} {vc:Prop} {v:AV} {obs:List (Nat×Obj)}
theorem Th {t:Ty} {w:World} {O:Nat→Prop} {cs:List Value} {d:t.den} (h:Bo w O t cs d):(t.wrap cs).cells=cs.toArray:=by
 cases t;case agg t=>rfl
 case prod a b=>rfl
 case slice e=>obtain⟨a,c,rfl,_⟩:=h;rfl
 case int k=>obtain⟨rfl,_⟩:=h;rfl
 case bool=>have h:cs=_:=h;subst h;rfl
 case str=>obtain⟨rfl,_⟩:=h;rfl
 case ref k =>
  have h:cs=[Ki k]:=h;subst h;match k with
  | 0=>rfl
  | 1=>rfl
  | _+2=>rfl
theorem A2x {V:Vw} {x:AV} {v:Value} (j:B0 V x v) (hf:Hf x=true):NS V x v.cells.toList∧v.cells.size=x.cells:=by
 have simple:∀ {y:AV},TX V y v→v.oneCell'=true→(∀t d,y≠.p t d)→NS V y v.cells.toList:=by
  intro y r h hp;have l:v.cells=#[v]:=by cases v<;>first|rfl|simp[Value.oneCell']at h
  rw[l];cases y;case p t d=>exact absurd rfl (hp t d)
  all_goals exact⟨v,rfl,h,r⟩
 have k:v.oneCell'=true→v.cells.size=1:=by
  intro h;have l:v.cells=#[v]:=by cases v<;>first|rfl|simp[Value.oneCell']at h
  rw[l];rfl
 cases x;case p t d =>
  obtain⟨cs,o,rfl⟩:=j;rw[Th o];exact⟨o,by simpa[AV.cells] using o.length⟩
 case raw u =>
  have q:v=u:=j;have h:v.oneCell'=true:=by rw[q];exact hf
  exact⟨simple j h (fun _ _=>by simp),k h⟩
 case sr n e lo hi =>
  have h:v.oneCell'=true:=by obtain⟨_,_,_,_,_,_,_,w,z,rfl,_⟩:=j;rfl
  exact⟨simple j h (fun _ _=>by simp),k h⟩
 case ep n e i s off =>
  have h:v.oneCell'=true:=by obtain⟨_,g,m,c,_,_,rfl⟩:=j;rfl
  exact⟨simple j h (fun _ _=>by simp),k h⟩
 case nin n e i len =>
  have h:v.oneCell'=true:=by obtain⟨_,_,_,_,_,_,_,_,rfl⟩:=j;rfl
  exact⟨simple j h (fun _ _=>by simp),k h⟩
 case ip t d =>
  have h:v.oneCell'=true:=by obtain⟨ad,cs,rfl,_⟩:=j;rfl
  exact⟨simple j h (fun _ _=>by simp),k h⟩
 case bp n s off =>
  have h:v.oneCell'=true:=by obtain⟨_,b,_,rfl⟩:=j;rfl
  exact⟨simple j h (fun _ _=>by simp),k h⟩
 case pc e d =>
  have h:v.oneCell'=true:=by obtain⟨_,a,rfl⟩:=j;rfl
  exact⟨simple j h (fun _ _=>by simp),k h⟩
 case clo f ns =>
  have h:v.oneCell'=true:=by obtain⟨rfl,_⟩:=j;rfl
  exact⟨simple j h (fun _ _=>by simp),k h⟩
 case mp n =>
  have h:v.oneCell'=true:=by obtain⟨_,b,_,rfl⟩:=j;rfl
  exact⟨simple j h (fun _ _=>by simp),k h⟩
 case yl n =>
  have h:v.oneCell'=true:=by obtain⟨_,b,_,rfl⟩:=j;rfl
  exact⟨simple j h (fun _ _=>by simp),k h⟩
 case fn f =>
  have h:v.oneCell'=true:=by have j:v=_:=j;subst j;rfl
  exact⟨simple j h (fun _ _=>by simp),k h⟩
 all_goals simp[Hf]at hf
theorem A5T (hT:ED P tb id ti) {d:Nat} {x:AV} {xv:Value} (h:Qn d id (some ti) (some x)=some (vc,v,obs)) (i:B0 (vw w O0 σ ρ) x xv) (hf:Ba obs σ=true) :
    ∃u ρ' w',(Instr.box id xv).run P w=.ok u w'∧QS w O0 σ ρ v obs u ρ' w':=by
  have g:(Instr.box id xv).run P w=.ok (.pointer (some ⟨w.heap.size,0,none⟩)) (w.alloc (.cells xv.cells id)):=by
    simp[Instr.box,newVar,newRow]
  have simple:∀ty:Ty,CP ty x=true→ty.cell1=true→(∀l,x≠.ag l)→DX (vw w O0 σ ρ) [x] xv.cells.toList:=by
    intro ty f q n;obtain⟨h1,m⟩:=wK i f (Ni i f);exact⟨_,[],by simp,m n,rfl⟩
  have p:xv.cells=xv.cells.toList.toArray:=by simp
  rw[p]at g;unfold Qn at h;split at h
  · rename_i u offs el b r k c a
    cases c;cases a;split at h
    · rename_i hu
      subst hu;cases h;obtain⟨cs,j,rfl⟩:=i;have j:Bo w (own O0 σ ρ) u cs k:=j;refine⟨_,_,_,g,QS.box hf (by simp) ?_⟩;simp only[Ty.wrap,Value.cells];exact wS _ _ _ _ j
    · cases h
  · rename_i u offs el b l c a
    cases c;cases a;split at h
    · cases h
      obtain⟨cs,rfl,o⟩:=i;refine⟨_,_,_,g,QS.box hf (by simp) ?_⟩;simp only[Value.cells];exact o
    · cases h
  all_goals first
    | (cases h;done)
    | (rename_i c a
       cases c;injection a with a
       subst a;split at h
       · rename_i f
         cases h;exact⟨_,_,_,g,QS.box hf (by simp) (simple _ f rfl (fun l e=>by subst e;simp[CP]at f))⟩
       · cases h)
theorem Zu (off:Nat):∀(a:List Value) (k:Nat) (cells:Array Value),off+k+a.length≤cells.size →
  ((a.zipIdx k).foldl (fun(cs:Array Value) (p:Value×Nat)=>cs.setIfInBounds (off+p.2) p.1) cells).toList=A1 cells.toList (off+k) a
 | [],k,cells,_=>by simp[A1]
 | v :: a,k,cells,h=>by
  simp only[Of]at h;simp only[List.zipIdx_cons,Rp];rw[Zu off a (k+1) _ (by simp;omega)];simp only[A1,Array.toList_setIfInBounds,Of];apply AC1;intro j;have i:cells.toList.length=cells.size:=by simp
  simp only[oR,AAo,OS,AA5,i,oN,AAm,AAx,Of];have d:min (off+(k+1)) cells.size=off+k+1:=by omega
  have e:min (off+k) cells.size=off+k:=by omega
  rw[d,e];by_cases c1:j<off+k
  ·simp[c1,show j<off+k+1 by omega,show j<off+(k+1) by omega,show ¬off+k=j by omega]
  ·by_cases c2:j=off+k
   ·subst c2;simp[show off+k<cells.size by omega]
   ·have c:¬j<off+k+1:=by omega
    have f:j-(off+k)=(j-(off+k+1))+1:=by omega
    simp only[c1,c,AAY];rw[f];simp only[List.getElem?_cons_succ];by_cases b:j-(off+k+1)<a.length
    ·simp[b]
    ·have g:off+(k+1)+a.length=off+k+(a.length+1):=by omega
     have l:∀q,¬(off+k=off+(k+1)+a.length+q):=by omega
     simp[b,g,show ¬off+k=off+k+(a.length+1)+(j-(off+k+1)-a.length) by omega]
theorem PK {place:Nat→Option (Nat×Nat)} {cells:Array Value} {i off:Nat} {v:Value} {rest:List (Nat×Value)} (hp:place i=some (off,v.cells.size)) (a:off+v.cells.size≤cells.size) :
  Instr.fill place cells ((i,v) :: rest)=Instr.fill place (A1 cells.toList off v.cells.toList).toArray rest:=by
 have h1:¬(off+v.cells.size > cells.size):=by omega
 simp only[Instr.fill,hp];rw[As (by simp;omega)]
 congr 1
 have:=Zu off v.cells.toList 0 cells (by simpa using a);apply ACI;rw[show v.cells.zipIdx.foldl (fun cs x=>cs.setIfInBounds (off+x.2) x.1) cells=(v.cells.toList.zipIdx 0).foldl (fun cs x=>cs.setIfInBounds (off+x.2) x.1) cells from by
  rw[←Array.foldl_toList];simp]
 simpa using this
def GH (V:Vw) (σ:St) (ev:Operand→Value):Prop:=∀x v,Ah σ x=some v→B0 V v (ev x)
theorem sB {V:Vw} (e:∀n o,lk n σ.objs=some o→A3 V o (V.ρ n)) {z x:Option AV} {y:AV} {v:Value} (b:∀a,x=some a→B0 V a v) (h:K1 σ z x=some y):B0 V y v:=by
 unfold K1 at h;split at h
 ·rename_i t _ l;simp only[NO]at h;obtain⟨d,c,rfl⟩:=h;exact KA (V:=V) (O':=V.O) (fun _ h=>h) (fun h=>by cases h) e c (b _ rfl)
 ·exact b _ h
theorem OC {V:Vw} (j:∀n o,lk n σ.objs=some o→A3 V o (V.ρ n)) {ev:Operand→Value} (g:GH V σ ev) {place:Nat→Option (Nat×Nat)} {offs:List (Nat×Nat)} (l:∀i p,offs[i]?=some p→place i=some p) :
  ∀ {parts:List (Nat×Operand)} {fs b:List AV} {cells:Array Value},Dg σ offs fs parts=some b→DX V fs cells.toList →
   ∃cells':Array Value,Instr.fill place cells (parts.map fun p=>(p.1,ev p.2))=some cells'∧DX V b cells'.toList
 | [],fs,b,cells,h,c=>by
  simp only[Dg]at h;cases h;exact⟨cells,rfl,c⟩
 | (i,x) :: r,fs,b,cells,h,c=>by
  simp only[Dg]at h;cases d:K1 σ fs[i]? (Ah σ x) with
  | none=>rw[d]at h;cases h
  | some av =>
   rw[d]at h;simp only at h;split at h
   ·rename_i q;obtain⟨h0,h1,s⟩:=q;have A:=sB j (fun a ha=>g x a ha) d;obtain⟨t,e⟩:=A2x A h0;simp only[NO]at h1;obtain⟨B,k,f⟩:=h1;obtain⟨u,_⟩:=c.get k;have z:=c.set k t f.symm;have m:=l i _ s;rw[←e]at m;have y:CA fs i+(ev x).cells.size≤cells.size:=by
     rw[e,←f];simpa using u
    obtain⟨cells',v,w⟩:=OC j g l h (cells:=(A1 cells.toList (CA fs i) (ev x).cells.toList).toArray) (by simpa using z);refine⟨cells',?_,w⟩;rw[AA1,PK m y];exact v
   ·cases h
theorem Zv {α a:Type} (f:α→Sem a) (w:World):∀ {l:List α} {ys:List a},(l.map fun x=>(f x).run P w)=ys.map (fun y=>Result.ok y w)→(l.mapM f).run P w=.ok ys w
 | [],ys,h=>by
  cases ys with
  | nil=>simp
  | cons y ys=>simp at h
 | x :: l,ys,h=>by
  cases ys with
  | nil=>simp at h
  | cons y ys =>
   simp only[AA1,ABh]at h;obtain⟨h1,b⟩:=h;have c:=Zv f w b;simp[List.mapM_cons,h1,c]
theorem A2y (hT:ED P tb id ti) (m:∀n o,lk n σ.objs=some o→A3 (vw w O0 σ ρ) o (ρ n)) {ev:Operand→Value} (l:GH (vw w O0 σ ρ) σ ev) {parts:List (Nat×Operand)} (h:H5 σ parts (some ti)=some (vc,v,obs)) :
  obs=[]∧∃u,(Instr.build id (parts.map fun p=>(p.1,ev p.2)).toArray).run P w=.ok u w∧B0 (vw w O0 σ ρ) v u:=by
 obtain⟨z,q,A⟩:=Ly hT w;unfold H5 at h;split at h
 ·rename_i u offs el b s;cases s;cases hp:Dg σ offs (oK u) parts with
  | none=>rw[hp]at h;simp[GT]at h
  | some B =>
   rw[hp]at h;simp only[AAX,GT]at h;cases h;have a:=hT.2;have r:DX (vw w O0 σ ρ) (oK u) z.cells.toList:=by rw[A];exact wR _ u
   simp only at a;rcases a with ⟨fs,_,hu,g⟩|⟨n,e,i,_,hu,hi,g⟩
   ·have j:∀(i:Nat) (p:Nat×Nat),offs[i]?=some p→offs.toArray[i]?=some p:=fun i p hh=>by simpa using hh
    obtain⟨cells',c,d⟩:=OC m l (place:=fun i=>offs.toArray[i]?) j hp r;have x:(fs.mapM (fun f=>do pure (f.offset,←sizeOf f.type)):Sem (Array (Nat×Nat))).run P w=.ok offs.toArray w:=by
     rw[ABt];simp only[Sem.run_map];rw[Zv (ys:=offs) _ w ?_]
     ·simp
     ·rw [show (offs.map fun y => Result.ok y w) = (offs.map some).map (fun o => match o with | some y => Result.ok y w | none => .halt (.stuck "no such type") w) by simp [AB2, Function.comp_def], g, AB2]
      apply AA2;intro f _;simp only[Function.comp,sizeOf,typeInfo];cases hi:P.info? f.type<;>simp[hi]
    refine⟨rfl,.agg cells',?_,cells'.toList,by simp,d⟩;simp only[Instr.build,AAK,q,AAb,dO hu,x,c,AB9]
   ·have j:∀(k:Nat) (p:Nat×Nat),offs[k]?=some p→(fun k=>some (k*i.size,i.size)) k=some p:=fun k p hh=>by
     rw[g]at hh;simp only[AAl,NO]at hh;obtain⟨C,t,rfl⟩:=hh;obtain⟨h1,a⟩:=Ro.1 t;simp only[ABb]at a;subst a;rfl
    obtain⟨cells',c,d⟩:=OC m l j hp r;refine⟨rfl,.agg cells',?_,cells'.toList,by simp,d⟩;simp[Instr.build,q,dO hu,sizeOf,Lx w hi,c]
 ·cases h
end
end
section
open Go Go.RowKit
section
variable {P:Program} {tb:Tb} {id:TypeId} {ti:TI} {w:World} {O0:Nat→Prop} {σ:St} {ρ:Nat→Value} {vc:Prop} {v:AV} {obs:List (Nat×Obj)}
theorem Wb {t:Ty} {w:World} {O:Nat→Prop} {v:Value} {d:t.den} (h:BX w O t v d):v.cells.size=t.size∧Bo w O t v.cells.toList d:=by
 obtain⟨cs,a,rfl⟩:=h;rw[Th a];exact⟨by simpa using a.length,a⟩
theorem Hw (w:World) (O:Nat→Prop) (e:Ty) (cells:List Value):Dp w O e cells []:=fun i x h=>by simp at h
theorem Zw {V:Vw} (v:∀n o,lk n σ.objs=some o→A3 V o (V.ρ n)) {ev:Operand→Value} (s:GH V σ ev) {e:Ty} {N:Nat} :
  ∀ {parts:List (Nat×Operand)} {k:Nat} {xs pre:List e.den} {cells:Array Value},Eg σ e k parts=some xs→cells.size=N*e.size→k+xs.length≤N→pre.length=k →
   Dp V.w V.O e cells.toList pre →
   ∃cells':Array Value,Instr.fill (fun i=>some (i*e.size,e.size)) cells (parts.map fun p=>(p.1,ev p.2))=some cells'∧cells'.size=cells.size∧Dp V.w V.O e cells'.toList (pre++xs)
 | [],k,xs,pre,cells,h,hs,hk,hp,l=>by
  simp only[Eg]at h;cases h;exact⟨cells,rfl,rfl,by simpa using l⟩
 | (i,x) :: r,k,xs,pre,cells,h,hs,hk,hp,l=>by
  simp only[Eg]at h;split at h
  ·rename_i E;subst E;cases m:Ah σ x with
   | none=>rw[m]at h;cases h
   | some av =>
    rw[m]at h;simp only at h;split at h
    ·rename_i y ys L M;cases h;have K:=KA (O':=V.O) (fun _ h=>h) (fun h=>by cases h) v L (s x av m);obtain⟨h1,C⟩:=Wb K;simp only[Of]at hk;have d:i*e.size+(ev x).cells.size≤cells.size:=by
      rw[h1,hs,←AAT];exact AA0 _ (by omega)
     have A:(A1 cells.toList (i*e.size) (ev x).cells.toList).length=cells.size:=by
      rw[FG]
      ·simp
      ·simpa using d
     have I:Dp V.w V.O e (A1 cells.toList (i*e.size) (ev x).cells.toList) (pre++[y]):=by
      intro j z a;rw[AAo]at a;split at a
      ·rename_i F;obtain⟨B,c,f,g⟩:=l j z a;refine⟨B,c,fun q u b=>?_,g⟩;have J:q<e.size:=by rw[←c];exact(Ro.1 b).1
       have H:j*e.size+q<i*e.size:=by
        have:(j+1)*e.size≤i*e.size:=AA0 _ (by omega);rw[AAT]at this;omega
       have D:i*e.size≤cells.toList.length:=by
        have:=d;simp;omega
       simp only[A1,oR];rw[oS (by rw[OS];omega),oN,At H];exact f q u b
      ·rename_i F;have G:j=i:=by
        have:=(Ro.1 a).1;simp at this;omega
       subst G;have P:z=y:=by
        rw[hp,AB1]at a;simpa using a.symm
       subst P;refine⟨(ev x).cells.toList,by simpa using h1,fun q u b=>?_,C⟩;have J:q<(ev x).cells.toList.length:=(Ro.1 b).1;have D:j*e.size≤cells.toList.length:=by
        have:=d;simp;omega
       have t:(cells.toList.take (j*e.size)).length=j*e.size:=by rw[OS];omega
       simp only[A1,oR];rw[AA4 (by rw[t];omega),t,oS (by omega)];rw[show j*e.size+q-j*e.size=q by omega];exact b
     obtain⟨cells',c,f,g⟩:=Zw (N:=N) v s M (pre:=pre++[y]) (cells:=(A1 cells.toList (i*e.size) (ev x).cells.toList).toArray) (by simp[A,hs]) (by omega) (by simp[hp]) (by simpa using I);refine⟨cells',?_,by rw[f];simp[A],by simpa using g⟩;rw[AA1,PK (by rw[h1]) d];exact c
    ·cases h
  ·cases h
theorem Sq {w:World} {et:TypeId} {sz n:Nat} {cells:Array Value} (hs:cells.size=n*sz) (hn:n≤AO) :
  (w.alloc (.cells cells et)).ownsRow w.heap.size et sz (.slice (some ⟨w.heap.size,0,none⟩) n n) n cells.toList :=
 ⟨by simpa using hs,.inr ⟨w.heap.size,n,cells,rfl,No _,heap_alloc_new w _,No _,by have h1:AO=140737488355328:=rfl;have a:maxLen=9223372036854775807:=rfl;omega,hs,BY (by simp[hs])⟩⟩
theorem PM (hT:ED P tb id ti) (c:DF P tb) (m:∀n o,lk n σ.objs=some o→A3 (vw w O0 σ ρ) o (ρ n)) {ev:Operand→Value} (l:GH (vw w O0 σ ρ) σ ev) {d n:Nat} {parts:List (Nat×Operand)}
  (h:BP false σ d n parts (some ti)=some (vc,v,obs)) (t:vc) (hf:Ba obs σ=true) :
  ∃u ρ' w',(Instr.buildSlice id n (parts.map fun p=>(p.1,ev p.2)).toArray).run P w=.ok u w'∧QS w O0 σ ρ v obs u ρ' w':=by
 unfold BP at h;split at h
 ·rename_i e offs el b k;cases k;obtain⟨hu,hs,te,s,rfl⟩:=CD hT c;obtain⟨z,x,A⟩:=Ly (c _ _ s) w;cases hp:Eg σ te.ty 0 parts with
  | none=>rw[hp]at h;simp[BV]at h
  | some xs =>
   rw[hp]at h;simp only[BV,AAL,AAY]at h;cases h;obtain⟨hn,y⟩:=t;subst hn;have q:=te.ty.size_pos;obtain⟨cells',h1,j,a⟩:=Zw (V:=vw w O0 σ ρ) m l hp (N:=xs.length) (pre:=[]) (cells:=(Array.range (xs.length*te.ty.size)).map (fun i=>(if xs.length*te.ty.size=0 then (#[]:Array Value) else z.cells)[i % (if xs.length*te.ty.size=0 then (#[]:Array Value) else z.cells).size]!)) (by simp) (by omega) rfl (Hw _ _ _ _);have g:xs.length≤AO:=by
    have:xs.length*1≤xs.length*te.ty.size:=ABf _ q;simp only[AO];omega
   have r:cells'.size=xs.length*te.ty.size:=by rw[j];simp
   refine⟨_,_,_,?_,QS.arr hf (Fc w _) (Sq (et:=el) r g) g (by rw[AB7]at a;exact a) rfl⟩;have f:¬(xs.length*te.ty.size > 16777216):=by omega
   by_cases h0:xs.length*te.ty.size=0
   ·simp only[h0,AAH]at h1;simp[Instr.buildSlice,dO hu,hs,f,h0,newRow];simp at h1;simp[h1]
   ·simp only[h0,AAY]at h1;simp only[Instr.buildSlice,AAK,dO hu,AAb,hs,As f,As h0,x,AB9,h1,newRow];rfl
 ·cases h
theorem A4H (hT:ED P tb id ti) (J:DF P tb) (ae:∀n o,lk n σ.objs=some o→A3 (vw w O0 σ ρ) o (ρ n)) {ev:Operand→Value} (Y:GH (vw w O0 σ ρ) σ ev) {d n:Nat} {A:TypeId} {parts:List (Nat×Operand)}
  (h:H7 σ d A n parts (some ti)=some (vc,v,obs)) (D:vc) (hf:Ba obs σ=true) :
  ∃u ρ' w',(Instr.buildSlice id n (parts.map fun p=>(p.1,ev p.2)).toArray).run P w=.ok u w'∧QS w O0 σ ρ v obs u ρ' w':=by
 unfold H7 at h;split at h
 ·rename_i x t offs el b W;cases W;obtain⟨hu,hs,te,ah,rfl⟩:=CD hT J;obtain⟨z,aj,ao⟩:=Ly (J _ _ ah) w;cases I:Ah σ x with
  | none=>rw[I]at h;unfold H6 at h;split at h<;>first|(cases h;done)|(rename_i E;cases E)
  | some av =>
   rw[I]at h;unfold H6 at h;split at h
   ·rename_i k e R aq ai U;cases U;have key:∀(a0:k.den) (c1:List Value) (a:Option Addr),NS (vw w O0 σ ρ) R c1→EO false σ k R=some a0→ev x=.agg (c1++[Value.slice a 0 0]).toArray→n=1∧k.size+1≤16777216→Ba [(d,Obj.nest el A k e [(a0,[])] none)] σ=true →
      ∃u ρ' w',(Instr.buildSlice id n ([(0,x)].map fun p=>(p.1,ev p.2)).toArray).run P w=.ok u w'∧QS w O0 σ ρ (.sr d (.agg (.prod k (.slice e))) 0 1) [(d,.nest el A k e [(a0,[])] none)] u ρ' w':=by
     intro a0 c1 a h1 s B ab hf;obtain⟨rfl,am⟩:=ab;have aa:Lay (.slice none 0 0) (.slice a 0 0):=.inr ⟨rfl,a,rfl⟩;have C:=Zo (O':=own O0 σ ρ) (fun _ h=>h) (fun h=>by cases h) ae s h1;have C:Bo w (own O0 σ ρ) k c1 a0:=C;have G:=C.length;have ag:te.ty.size=k.size+1:=by rw[ai];rfl
     rw[ag]at hs;have K:(ev x).cells.toList=c1++[Value.slice a 0 0]:=by rw[B];simp[Value.cells]
     have af:Instr.fill (fun i=>some (i*(k.size+1),k.size+1)) ((Array.range (1*(k.size+1))).map (fun i=>z.cells[i % z.cells.size]!)) [(0,ev x)]=some (c1++[Value.slice a 0 0]).toArray:=by
      have L:(ev x).cells.size=k.size+1:=by rw[←ABj,K];simp[G]
      rw[PK (by rw[L]) (by rw[L];simp)];rw[K];simp only[Instr.fill,AC5,A1,AAO,AB7,AAM];rw[List.drop_of_length_le (by simp[G]),AAa]
     generalize H:(Value.tuple #[Value.slice (some ⟨w.heap.size,0,none⟩) 1 1,.slice none 0 0])=loc;have N:∀b,bk loc b→w.heap.size≤b:=by
      intro b c;rw[←H]at c;rcases (A7 (ins:=[.slice none 0 0])).1 c with c|⟨i,u,hi,c⟩
      ·simp[blk]at c;omega
      ·have:u=.slice none 0 0:=by
        rcases i with _|i
        ·simpa using hi.symm
        ·simp at hi
       subst this;simp[blk]at c
     have y:=Sq (w:=w) (et:=el) (sz:=k.size+1) (n:=1) (cells:=(c1++[Value.slice a 0 0]).toArray) (by simp[G]) (by simp[AO]);have y:(w.alloc (.cells (c1++[Value.slice a 0 0]).toArray el)).ownsRow 0 el (k.size+1) (.slice (some ⟨w.heap.size,0,none⟩) 1 1) 1 (c1++[Value.slice a 0 0]):=⟨y.1,y.2.imp (fun h=>h) fun⟨g,cap,T,e,_,r⟩=>⟨g,cap,T,e,Is _,r⟩⟩;have hk:=IE (O0:=O0) (ρ:=ρ) (ρ':=EU ρ d loc) hf (Fc w (.cells (c1++[Value.slice a 0 0]).toArray el)) (fun m q=>by
      simp only[lk]at q;split at q
      ·cases q
      ·rename_i e;simp[EU,e]) (fun m o b q c=>by
      simp only[lk]at q;split at q
      ·rename_i e;subst e;rw[Bg]at c;exact N b c
      ·cases q)
     refine⟨.slice (some ⟨w.heap.size,0,none⟩) 1 1,EU ρ d loc,w.alloc (.cells (c1++[Value.slice a 0 0]).toArray el),?_,QS.one (Fc w _) N ?_ ?_⟩
     ·have ad:¬(1*(k.size+1) > 16777216):=by omega
      have h0:¬(1*(k.size+1)=0):=by omega
      simp only[Instr.buildSlice,AAK,dO hu,AAb,hs,As ad,As h0,aj,AB9,AA1,ACp,af,newRow];rfl
     ·refine⟨⟨.nest el A k e [(a0,[])] none,by simp[ET,lk]⟩,?_⟩;show DE (plc (EU ρ d loc d)) _ 0 1 _;rw[Bg,←H];exact Fb y
     ·refine⟨_,[.slice none 0 0],c1++[Value.slice a 0 0],.inl H.symm,by simp[AO],rfl,y,fun i ap u hi hu=>?_,fun i j b u v hi M hu an=>?_,fun i b u hi c _=>?_⟩
      ·rcases i with _|i
       ·simp only[AAq,AAv]at hi hu;subst hi hu;refine⟨c1,.slice a 0 0,fun j z M=>by simpa using M,C.mono hk.O hk.heap,.inr ⟨rfl,aa,by simp[AO],[],ABz _ 0 A _,Hw _ _ _ _⟩⟩
       ·simp at hi
      ·rcases i with _|i
       ·simp only[AAq,AAv]at hi;subst hi;simp[blk]at hu
       ·simp at hi
      ·rcases i with _|i
       ·simp only[AAq,AAv]at hi;subst hi;simp[blk]at c
       ·simp at hi
    unfold Jc at h;obtain⟨cs,B,V⟩:=Y x _ I;obtain⟨c1,c2,rfl,h1,E⟩:=V;obtain⟨ak,S,rfl,f,F⟩:=E;have F:S=[]:=F;subst F;split at h
    ·rename_i a0 s;cases h;obtain⟨Q,rfl,_,f⟩:=f;have f:Q=.slice none 0 0:=f;subst f;exact key a0 c1 none h1 s (by rw[B];simp) D hf
    ·rename_i a0 al l s;split at h
     ·rename_i X;subst X;cases h;obtain⟨Q,rfl,_,_,a,f⟩:=f;obtain⟨D,Z⟩:=D;rw[Z]at f;subst f;exact key a0 c1 a h1 s (by rw[B];simp) D hf
     ·cases h
    ·cases h
   ·cases h
 ·cases h
theorem WH (z:List Value) (f:0<z.length) (n:Nat) {i j:Nat} (b:j<z.length) (hi:i*z.length+j<n) {u:Value} (hu:z[j]?=some u) :
  (madeCells z.toArray n)[i*z.length+j]?=some u:=by
 simp only[madeCells,Array.getElem?_map,List.size_toArray];have e:(Array.range n)[i*z.length+j]?=some (i*z.length+j):=by
  rw[Array.getElem?_range];simp[hi]
 rw[e];have d:(i*z.length+j) % z.length=j:=by
  rw[Nat.mul_comm,Nat.mul_add_mod];exact Nat.mod_eq_of_lt b
 simp only[AAX,d];have c:=(Ro.1 hu);obtain⟨h1,a⟩:=c;simp[h1,a]
theorem A2z (hT:ED P tb id ti) (g:DF P tb) {e:Ty} {offs:List (Nat×Nat)} {el:TypeId} {b:Nat} (C:ti=⟨.slice e,offs,el,b⟩) {te:TI} (o:lk el tb.ty=some te) {n:Int} {d:Nat}
  (h0:0≤n) (hn:n.toNat*te.bytes≤AO) (hf:Ba [(d,.arr el e (List.replicate n.toNat e.dflt))] σ=true) :
  ∃u ρ' w',(Instr.makeSlice id (.int .i64 n) (.int .i64 n)).run P w=.ok u w'∧QS w O0 σ ρ (.sr d e 0 n.toNat) [(d,.arr el e (List.replicate n.toNat e.dflt))] u ρ' w':=by
 subst C;obtain⟨hu,hs,H,p,rfl⟩:=CD hT g;rw[o]at p;cases p;obtain⟨⟨⟨_,t,_⟩,i,z,hi,m,v,E,F⟩,_⟩:=g _ _ o;have G:=te.ty.size_pos;have c:n.toNat≤AO:=by
  have:n.toNat*1≤n.toNat*te.bytes:=ABf _ t;omega
 have s:(i.bytes:Int)*n≤281474976710656:=by
  have h1:((i.bytes*n.toNat:Nat):Int)≤140737488355328:=by
   rw[v,Nat.mul_comm];simp only[AO]at hn;omega
  rw[Int.natCast_mul]at h1;have r:((n.toNat:Nat):Int)=n:=by omega
  rw[r]at h1;omega
 have B:=run_make (P:=P) w id el i z hu hi E .i64 .i64 n n h0 (ACi _) s (by simp only[AO]at c;omega);have f:te.ty.zero.length=te.ty.size:=(Bo.zero w (fun _=>False) te.ty).length;refine⟨_,_,_,B,QS.arr hf (Fc w _) (Sq (et:=el) (sz:=te.ty.size) (n:=n.toNat) (cells:=madeCells z.cells (n.toNat*i.size)) (by rw[size_madeCells,m]) c |> fun h=>by simpa using h) (by simpa using c) ?_ (by simp)⟩;intro j x a;have k:=(Ro.1 a).1;simp only[ABH]at k;have D:x=te.ty.dflt:=by
  rw[AAF]at a;simp[k]at a;exact a.symm
 subst D;refine⟨te.ty.zero,f,fun q u l=>?_,Bo.zero _ _ _⟩;have A:=(Ro.1 l).1;have y:j*te.ty.zero.length+q<n.toNat*i.size:=by
  rw[m,f];have:(j+1)*te.ty.size≤n.toNat*te.ty.size:=AA0 _ (by omega);rw[AAT]at this;omega
 have:=WH te.ty.zero (by omega) (n.toNat*i.size) A y l;rw[f]at this;rw[F];simpa using this
theorem A4I (hT:ED P tb id ti) (i:DF P tb) {d:Nat} {x y:AV} {xv c:Value} (h:H8 tb d (some ti) (some x) (some y)=some (vc,v,obs)) (o:vc)
  (p:B0 (vw w O0 σ ρ) x xv) (q:B0 (vw w O0 σ ρ) y c) (hf:Ba obs σ=true) :
  ∃u ρ' w',(Instr.makeSlice id xv c).run P w=.ok u w'∧QS w O0 σ ρ v obs u ρ' w':=by
 unfold H8 at h;split at h
 ·rename_i e offs el b n m j k l;cases j;cases k;cases l;cases a:lk el tb.ty with
  | none=>rw[a]at h;simp[Kl]at h
  | some te =>
   rw[a]at h;simp only[Kl]at h;cases h;obtain⟨rfl,_⟩:=BQ p;obtain⟨rfl,_⟩:=BQ q;obtain⟨h1,f,g⟩:=o;have h1:n=m:=h1;subst h1;exact A2z hT i rfl a f g hf
 ·cases h
end
end
section
open Go Go.RowKit
theorem Wc {w:World} {O:Nat→Prop} {e:Ty}:∀ {l:List e.den} {ad:Addr},
  (∀(i:Nat) (x:e.den),l[i]?=some x→∃b:List Value,b.length=e.size∧(∀(j:Nat) (v:Value),b[j]?=some v→w.cell? (ad.add (i*e.size+j))=some v)∧Bo w O e b x) →
  ∃c:List Value,c.length=l.length*e.size∧Dp w O e c l∧(∀u∈c,u.oneCell'=true)∧(∀(j:Nat) (u:Value),c[j]?=some u→w.cell? (ad.add j)=some u)
 | [],ad,h=>⟨[],by simp,Hw _ _ _ _,by simp,by simp⟩
 | x :: l,ad,h=>by
  obtain⟨b,h1,n,m⟩:=h 0 x rfl;obtain⟨c,o,p,q,r⟩:=Wc (w:=w) (O:=O) (e:=e) (l:=l) (ad:=ad.add e.size) (fun i y hi=>by
   obtain⟨d,f,g,k⟩:=h (i+1) y (by simpa using hi);refine⟨d,f,fun j v a=>?_,k⟩;rw[DW,show e.size+(i*e.size+j)=(i+1)*e.size+j by rw[AAT];omega];exact g j v a)
  refine⟨b++c,by simp[h1,o,AAT];omega,fun i y hi=>?_,fun u hu=>?_,fun j u a=>?_⟩
  ·cases i with
   | zero =>
    simp at hi;subst hi;refine⟨b,h1,fun j u a=>?_,m⟩;rw[AC5,AAM,oS (Ro.1 a).1];exact a
   | succ i =>
    obtain⟨d,f,g,k⟩:=p i y (by simpa using hi);refine⟨d,f,fun j u a=>?_,k⟩;rw[AA4 (by rw[h1,AAT];omega),h1,show (i+1)*e.size+j-e.size=i*e.size+j by rw[AAT];omega];exact g j u a
  ·rcases OF.1 hu with hu|hu
   ·exact m.one u hu
   ·exact q u hu
  ·rw[AAo]at a;split at a
   ·have:=n j u a
    rwa [AC5,AAM]at this
   ·rename_i s;have:=r _ u a;rw[DW]at this
    rwa [show e.size+(j-b.length)=j by omega]at this
section
variable {P:Program} {tb:Tb} {id:TypeId} {ti:TI} {w:World} {O0:Nat→Prop} {σ:St} {ρ:Nat→Value} {vc:Prop} {v:AV} {obs:List (Nat×Obj)}
structure Src (w:World) (O:Nat→Prop) (e:Ty) (xv:Value) (ys:List e.den) (news:List Value):Prop where
 form:∃(a:Option Addr) (c:Nat),xv=.slice a ys.length c∧(ys=[]∨∃ad,a=some ad∧∀(j:Nat) (u:Value),news[j]?=some u→w.cell? (ad.add j)=some u)
 len:news.length=ys.length*e.size
 elems:Dp w O e news ys
 one:∀u∈news,u.oneCell'=true
 max:ys.length≤AO
theorem Sr (w:World) (O:Nat→Prop) (e:Ty) (a:Option Addr) (c:Nat):Src w O e (.slice a 0 c) [] [] :=
 ⟨⟨a,c,rfl,.inl rfl⟩,by simp,Hw _ _ _ _,by simp,by simp[AO]⟩
theorem Wd {V:Vw} {et:TypeId} {e:Ty} {xs:List e.den} {loc:Value} {cells:List Value} (k:V.w.ownsRow 0 et e.size loc xs.length cells) (g:Dp V.w V.O e cells xs):∀u∈cells,u.oneCell'=true:=by
 intro u hu;obtain⟨j,h,i⟩:=AAg.1 hu;have l:=k.1;have c:=e.size_pos;have hi:j / e.size<xs.length:=by
  rw[Nat.div_lt_iff_lt_mul c];omega
 obtain⟨a,h1,d,f⟩:=g (j / e.size) (xs[j / e.size]) (An hi);have b:j % e.size<a.length:=by rw[h1];exact ACH _ c
 have:=d (j % e.size) (a[j % e.size]) (An b);rw[show j / e.size*e.size+j % e.size=j by rw[Nat.mul_comm];exact Nat.div_add_mod j e.size]at this;rw[An h]at this;injection this with this
 rw[←i,this];exact f.one _ (AAh b)
def noN (σ:St):AV→Bool
 | .sr n _ _ _=>Cb (lk n σ.objs)
 | _=>false
theorem oT {w:World} {O:Nat→Prop} {et:TypeId} {b:Ty} {xs:List b.den} {loc xv:Value} {cells:List Value} {lo hi:Nat} (Q:xs.length≤AO) (h:w.ownsRow 0 et b.size loc xs.length cells) (o:Dp w O b cells xs) (H:DE loc b.size lo hi xv) :
  ∃J,Src w O b xv (sub xs lo hi) J:=by
 have G:=Wd (V:=⟨w,O,fun _=>False,fun _=>undef⟩) h o;obtain⟨a,m,c,k,N,p,l,n,rfl,K,h0,h1⟩:=H;have E:m=xs.length:=by
  rcases h.2 with ⟨d,F⟩|⟨g,cap,s,d,_⟩
  ·rw[k]at d;injection d;omega
  ·rw[k]at d;injection d
 subst E;have f:=N0 xs (lo:=lo) p;by_cases C:lo<hi
 ·rcases h.2 with ⟨d,F⟩|⟨g,cap,s,d,r⟩
  ·omega
  ·have A:=World.ownsRow.cells h (g:=g) (by rw[d];rfl);have ha:a=some ⟨g,0,none⟩:=by rw[k]at d;injection d
   subst ha;have L:=h.1;have R:hi*b.size≤xs.length*b.size:=AA0 _ p;have S:lo*b.size≤hi*b.size:=AA0 _ (by omega);refine⟨(cells.drop (lo*b.size)).take ((hi-lo)*b.size),⟨l,n,by rw[f],.inr ⟨_,h1 C,fun j u e=>?_⟩⟩,?_,?_,?_,?_⟩
   ·rw[oN,AAm]at e;split at e
    ·have:=A _ u e;rw[DW];exact this
    ·cases e
   ·rw[f,OS,AA7,Nat.sub_mul];omega
   ·intro i x B;obtain⟨I,P⟩:=YN xs lo hi i B;obtain⟨t,v,y,z⟩:=o (lo+i) x I;refine⟨t,v,fun j u e=>?_,z⟩;have M:=(Ro.1 e).1;have D:i*b.size+j<(hi-lo)*b.size:=by
     have:(i+1)*b.size≤(hi-lo)*b.size:=AA0 _ (by omega);rw[AAT]at this;omega
    rw[oN,At D,AAm];have:=y j u e
    rwa [ABA,ABI]at this
   ·intro u hu;exact G u (AAJ (AA9 hu))
   ·rw[f];omega
 ·have q:sub xs lo hi=[]:=So (by rw[f];omega);refine⟨[],⟨l,n,by rw[f],.inl q⟩,by rw[f,show hi-lo=0 by omega];simp,?_,by simp,by rw[f];omega⟩;rw[q];exact Hw _ _ _ _
theorem YT (q:∀n o,lk n σ.objs=some o→A3 (vw w O0 σ ρ) o (ρ n)) {e:Ty} {x:AV} {xv:Value} {ys:List e.den} (h:Kk true σ (.slice e) x=some ys) (F:noN σ x=false) (s:B0 (vw w O0 σ ρ) x xv) :
  ∃C,Src w (own O0 σ ρ) e xv ys C:=by
 replace h:EO true σ (.slice e) x=some ys:=by
  unfold Kk at h;exact h
 cases x;case p u I =>
  have h:BO (.slice e) ⟨u,I⟩=some ys:=by simpa only[EO] using h
  have:=BA h;injection this with h1 D
  subst h1;cases D;obtain⟨cs,⟨a,c,rfl,m,N,y⟩,rfl⟩:=s;by_cases hn:ys=[]
  ·subst hn;exact⟨[],Sr _ _ _ _ _⟩
  ·rcases y with y|⟨ad,rfl,W,g⟩
   ·exact absurd y hn
   ·obtain⟨C,d,f,K,M⟩:=Wc g;exact⟨C,⟨some ad,c,rfl,.inr ⟨ad,rfl,M⟩⟩,d,f,K,N⟩
 case sr n J lo hi =>
  simp only[EO]at h;split at h
  ·rename_i A;obtain⟨_,rfl⟩:=A;obtain⟨O,b⟩:=s;cases hn:lk n σ.objs with
   | none=>rw[hn]at h;simp[Oz]at h
   | some o =>
    rw[hn]at h;cases o with
    | box et st fs=>simp[Oz]at h
    | mapo k v l=>simp[Oz]at h
    | frame ag fs=>simp[Oz]at h
    | loop L=>simp[Oz]at h
    | itr aa af ab ae Z=>simp[Oz]at h
    | dfr=>simp[Oz]at h
    | nest et V k t xs E=>rw[noN,hn]at F;cases F
    | arr et t xs =>
     simp only[Oz]at h;obtain⟨d,f⟩:=Bi h;subst d;cases f;have b:DE (plc (ρ n)) t.size lo hi xv:=b;rw[O9 (q n _ hn)]at b;obtain⟨B,cells,j,g⟩:=q n _ hn;exact oT B j g b
  ·cases h
 case nin n J i len =>
  simp only[EO]at h;split at h
  ·rename_i A;obtain⟨_,rfl⟩:=A;obtain⟨O,ai,a,c,H,G,r,R,X⟩:=s;cases hn:lk n σ.objs with
   | none=>rw[hn]at h;simp[O2]at h
   | some o =>
    rw[hn]at h;unfold O2 at h;split at h
    ·rename_i et V k t xs T;cases T;obtain⟨d,f⟩:=Bi h;subst d;cases f;have Q:=Sp (z:=(k.dflt,[])) (q n _ hn) G r;obtain⟨o,ins,cells,E,P⟩:=q n _ hn;obtain rfl:=E.tup G;have r:ins[i]?=some H:=by simpa using r
     obtain⟨c1,ah,h1,D,m⟩:=P.row i _ H Q r;rcases m with ⟨m,_⟩|⟨_,_,B,Y,j,g⟩
     ·cases m
     ·rcases R with rfl|⟨rfl,a0,rfl⟩
      ·have:=oT B j g (Fb j)
       rwa [He]at this
      ·have S:=Kt j;have U:(xs.getD i (k.dflt,[])).2=[]:=So S.symm;rw[U];exact⟨[],Sr _ _ _ _ _⟩
    ·cases h
  ·cases h
 case raw u =>
  have b:xv=u:=s;subst b;cases xv with
  | slice a n c =>
   cases a with
   | some a=>simp[EO]at h
   | none =>
    cases n with
    | succ n=>simp[EO]at h
    | zero =>
     cases c with
     | succ c=>simp[EO]at h
     | zero =>
      simp only[EO]at h;cases h;exact⟨[],Sr _ _ _ _ _⟩
  | _=>simp[EO]at h
 all_goals simp[EO]at h
theorem Ss (a:∀n o,lk n σ.objs=some o→A3 (vw w O0 σ ρ) o (ρ n)) {e:Ty} {x:AV} {xv:Value} {ys:List e.den} (h:Ov σ e x=some ys) (b:B0 (vw w O0 σ ρ) x xv) :
  ∃f,Src w (own O0 σ ρ) e xv ys f:=by
 unfold Ov at h;split at h
 ·split at h
  ·cases h
  ·rename_i c;exact YT a h (by simpa[noN] using c) b
 ·rename_i d;refine YT a h ?_ b;cases x<;>first|rfl|exact absurd rfl (d _ _ _ _)
theorem Rv {el:TypeId} (hu:P.underlying id=some (.slice el)) {sz:Nat} (hs:(sizeOf el).run P w=.ok sz w) {base et ty:Nat} {s:Value} {n:Nat} {xs:List Value} (b:w.ownsRow base et sz s n xs) (c:Nat) :
  (Builtin.append_ #[id,id] ty #[s,.slice none 0 c]).run P w=.ok s w:=by
 rcases b.2 with ⟨rfl,rfl⟩|⟨g,cap,d,rfl,_,_,a,_⟩
 ·simp[Builtin.append_,dO hu,hs,Builtin.lenOf,Builtin.firstCells]
 ·simp[Builtin.append_,dO hu,hs,Builtin.lenOf,Builtin.firstCells,a,storeCells]
theorem GX (k:DF P tb) {el:TypeId} {e:Ty} (hu:P.underlying id=some (.slice el)) {te:TI} (q:lk el tb.ty=some te) (A:te.ty=e) {base ty:Nat} {s xv:Value} {n:Nat} {xs h:List Value}
    (g:w.ownsRow base el e.size s n xs) {O:Nat→Prop} {ys:List e.den} (D:Src w O e xv ys h) (r:(n+ys.length)*te.bytes≤AO) (l:base≤w.heap.size) :
    ∃b w',(Builtin.append_ #[id,id] ty #[s,xv]).run P w=.ok b w'∧w'.ownsRow base el e.size b (n+ys.length) (xs++h)∧w.grownBy w' s.ownBlock∧n+ys.length≤AO:=by
  subst A;obtain⟨⟨⟨_,x,_⟩,i,z,hi,p,m,t,u⟩,_⟩:=k _ _ q;have f:n+ys.length≤AO:=by
    have:(n+ys.length)*1≤(n+ys.length)*te.bytes:=ABf _ x;omega
  obtain⟨⟨a,c,rfl,v⟩,o,E,C,F⟩:=D;have hs:(sizeOf el).run P w=.ok te.ty.size w:=IG w (k _ _ q);rcases v with rfl|⟨ad,rfl,y⟩
  · have B:h=[]:=So (by simpa using o)
    subst B;cases a with
    | none =>
      refine⟨s,w,Rv hu hs g c,by simpa using g,⟨rfl,rfl,rfl,No _,fun _ _ _=>rfl⟩,f⟩
    | some ad =>
      obtain⟨b,w',h1,d,j,_⟩:=run_append_own (P:=P) w base id ty el i z te.ty.size te.bytes hu hi t p m (by rw[u];simpa using (Bo.zero w (fun _=>False) te.ty).length) te.ty.size_pos s n xs g ad 0 c [] (by simp) (by simp) (by simp)
        (by have h1:AO=140737488355328:=rfl;have d:maxLen=9223372036854775807:=rfl;simp at f;omega) (by simpa[AO] using r) l
      exact⟨b,w',h1,by simpa using d,j,f⟩
  · obtain ⟨b, w', h1, d, j, _⟩ := run_append_own (P := P) w base id ty el i z te.ty.size te.bytes hu hi t p m (by rw [u]; simpa using (Bo.zero w (fun _ => False) te.ty).length) te.ty.size_pos s n xs g ad ys.length c h o y C
        (by have h1:AO=140737488355328:=rfl;have d:maxLen=9223372036854775807:=rfl;omega) (by simpa[AO] using r) l
    exact⟨b,w',h1,d,j,f⟩
theorem Kv {w:World} {O:Nat→Prop} {e:Ty} {c1 c2:List Value} {xs ys:List e.den} (h1:Dp w O e c1 xs) (g:Dp w O e c2 ys) (h:c1.length=xs.length*e.size):Dp w O e (c1++c2) (xs++ys):=by
 intro i x hi;rw[AAo]at hi;split at hi
 ·obtain⟨a,b,c,d⟩:=h1 i x hi;refine⟨a,b,fun j u f=>?_,d⟩;have:=c j u f;rw[oS (Ro.1 this).1];exact this
 ·rename_i k;obtain⟨a,b,c,d⟩:=g _ x hi;refine⟨a,b,fun j u f=>?_,d⟩;have l:xs.length*e.size≤i*e.size:=AA0 _ (by omega);rw[AA4 (by omega),h];have:=c j u f;rw[Nat.sub_mul]at this;rw[←this]
  congr 1
  omega
theorem Rw (k:DF P tb) {el:TypeId} {e:Ty} (hu:P.underlying id=some (.slice el)) {te:TI} (m:lk el tb.ty=some te) (x:te.ty=e) {ty:Nat} {xv:Value} {O:Nat→Prop} {xs:List e.den} {a:Option Addr} {c:List Value}
  (hs:Src w O e (.slice a xs.length xs.length) xs c) {ys:List e.den} {d:List Value} (l:Src w O e xv ys d) (h0:0<ys.length) (n:(xs.length+ys.length)*te.bytes≤AO) :
  ∃b w',(Builtin.append_ #[id,id] ty #[.slice a xs.length xs.length,xv]).run P w=.ok b w'∧w'.ownsRow w.heap.size el e.size b (xs.length+ys.length) (c++d)∧w.grownBy w' none:=by
 subst x;have o:∀ad:Addr,a=some ad→(∀(j:Nat) (u:Value),c[j]?=some u→w.cell? (ad.add j)=some u)→∃b w',(Builtin.append_ #[id,id] ty #[.slice a xs.length xs.length,xv]).run P w=.ok b w'∧w'.ownsRow w.heap.size el te.ty.size b (xs.length+ys.length) (c++d)∧w.grownBy w' none:=by
  intro ad ha D;subst ha;obtain⟨⟨⟨_,s,_⟩,i,z,hi,E,t,F,G⟩,_⟩:=k _ _ m;obtain⟨⟨I,c2,rfl,f⟩,A,M,T,Q⟩:=l;have S:xs.length+ys.length≤AO:=by
   have:(xs.length+ys.length)*1≤(xs.length+ys.length)*te.bytes:=ABf _ s;omega
  rcases f with rfl|⟨p,rfl,g⟩
  ·simp at h0
  ·exact run_append_arg_grows (P:=P) w id ty el i z te.ty.size te.bytes hu hi F E t (by rw[G];simpa using (Bo.zero w (fun _=>False) te.ty).length) te.ty.size_pos ad xs.length xs.length c hs.len D p ys.length c2 d A g (by omega)
    (by have h1:AO=140737488355328:=rfl;have h:maxLen=9223372036854775807:=rfl;omega) (by simpa[AO] using n)
 obtain⟨⟨H,c1,v,f⟩,B,N,U,R⟩:=hs;injection v with q J K
 subst q;rcases f with rfl|⟨ad,ha,g⟩
 ·have C:c=[]:=So (by simpa using B);subst C;cases a with
  | some ad=>exact o ad rfl fun j u y=>by simp at y
  | none =>
   obtain⟨b,w',h1,h,r,L⟩:=GX (ty:=ty) k hu m rfl (ABz w w.heap.size el te.ty.size) l (by simpa using n) (No _);exact⟨b,w',h1,by simpa using h,r⟩
 ·exact o ad ha g
theorem Rx {w w':World} (h:w.grownBy w' none):Below w.heap.size w w':=⟨h.os,h.tape,h.output,h.size,fun k hk=>h.block k hk (by simp)⟩
theorem wT (a:DF P tb) (E:∀n o,lk n σ.objs=some o→A3 (vw w O0 σ ρ) o (ρ n)) {d:Nat} {t u:TypeId} {x y:AV} {xv J:Value} {ty:TypeId}
  (h:CX tb σ d t u (some x) (some y)=some (vc,v,obs)) (m:vc) (q:B0 (vw w O0 σ ρ) x xv) (H:B0 (vw w O0 σ ρ) y J) (hf:Ba obs σ=true) :
  ∃z ρ' w',(Builtin.append_ #[t,u] ty #[xv,J]).run P w=.ok z w'∧QS w O0 σ ρ v obs z ρ' w':=by
 unfold CX at h;split at h
 ·rename_i C D;cases C;cases D;have q:xv=_:=q;subst q;split at h
  ·rename_i G;subst G;cases c:lk t tb.ty with
   | none=>rw[c]at h;simp[EA]at h
   | some ti =>
    rw[c]at h;unfold EA at h;split at h
    ·rename_i e offs el b B;cases B;obtain⟨hu,hs,te,i,k⟩:=CD (a _ _ c) a;rw[i]at h;cases f:Ov σ e y with
     | none=>rw[f]at h;simp[Eh]at h
     | some ys =>
      rw[f]at h;simp only[Eh]at h;cases h;obtain⟨I,g⟩:=Ss E f H;obtain⟨r,w',h1,j,A,O⟩:=GX (ty:=ty) a hu i k (ABz w w.heap.size el e.size) g (by simpa using m) (No _);have j:w'.ownsRow w.heap.size el e.size r ys.length I:=by simpa using j
      exact⟨r,_,w',h1,QS.arr hf (Rx A) j g.max g.elems rfl⟩
    ·cases h
  ·cases h
 ·rename_i e l v1 C D;cases C;cases D;split at h
  ·rename_i G;subst G;obtain⟨M,a0,rfl⟩:=q;cases c:lk t tb.ty with
   | none=>rw[c]at h;simp[H9]at h
   | some ti =>
    rw[c]at h;unfold H9 at h;split at h
    ·rename_i s offs el b B;cases B;split at h
     ·rename_i k;subst k;obtain⟨hu,hs,te,i,k⟩:=CD (a _ _ c) a;rw[i]at h;cases f:Ov σ s y with
      | none=>rw[f]at h;simp[Jd]at h
      | some ys =>
       rw[f]at h;simp only[Jd]at h;cases h;obtain⟨N,m⟩:=m;obtain⟨I,g⟩:=Ss E f H;obtain⟨Q,F⟩:=YT (e:=s) (ys:=l) (x:=.p (.slice s) l) E (by simp[Kk,EO,Ef]) rfl M;obtain⟨r,w',h1,j,A⟩:=Rw (ty:=ty) a hu i k F g N m;have L:(l++ys).length≤AO:=by
        obtain⟨⟨⟨_,K,_⟩,_⟩,_⟩:=a _ _ i;have:(l.length+ys.length)*1≤(l.length+ys.length)*te.bytes:=ABf _ K;rw[IN];omega
       exact⟨r,_,w',h1,QS.arr hf (Rx A) (by rw[IN];exact j) L (Kv F.elems g.elems F.len) (by rw[IN])⟩
     ·cases h
    ·cases h
  ·cases h
 ·cases h
end
end
section
open Go Go.RowKit
def Ti:Ty→Option TypeDesc
 | .int k=>some (.int k)
 | .bool=>some .bool
 | .str=>some .string
 | .prod _ _=>none
 | .agg _=>none
 | .slice _=>none
 | .ref _=>none
section
variable {w:World} {O:Nat→Prop}
theorem Ms {a:Ty} {d:TypeDesc} (b:Ti a=some d) {k:a.den} {c:Value} (h:BX w O a c k):MapKept.IsKey d c:=by
 cases a<;>simp only[Ti]at b<;>try(cases b;done)
 all_goals cases b
 ·obtain⟨rfl,_⟩:=BQ h;trivial
 ·have:=EK h;subst this;trivial
 ·obtain⟨rfl,_⟩:=Gv h;trivial
theorem Zx {a:Ty} {d:TypeDesc} (c:Ti a=some d) {k e:a.den} {f g:Value} (h:BX w O a f k) (b:BX w O a g e):Instr.sameNow d f g=some (Ja a k e):=by
 cases a<;>simp only[Ti]at c<;>try(cases c;done)
 all_goals cases c
 ·obtain⟨rfl,_⟩:=BQ h;obtain⟨rfl,_⟩:=BQ b;simp[Instr.sameNow,Ja]
 ·have:=EK h;subst this;have:=EK b;subst this;simp[Instr.sameNow,Ja]
 ·obtain⟨rfl,_⟩:=Gv h;obtain⟨rfl,_⟩:=Gv b;simp[Instr.sameNow,Ja]
theorem A4J {a:Ty} {d:TypeDesc} (c:Ti a=some d) {k f:a.den} {g i:Value} (h:BX w O a g k) (e:BX w O a i f) (l:Ja a k f=true):i=g:=by
 have h1:=Zx c h e;obtain⟨r,b,j⟩:=MapKept.sameNow_of_keys (Ms c h) (Ms c e);rw[h1]at b;injection b with b
 exact(j.1 (b▸l)).symm
def HW (a b:Ty) (k:a.den):List MapEntry→List (a.den×b.den)→Nat→Option (Nat×Value)
 | e :: c,x :: l,i=>if Ja a k x.1=true then some (i,e.val) else HW a b k c l (i+1)
 | _,_,_=>none
end
structure Tj (P:Program) (kid:TypeId) (kt:Ty):Prop where
 check:∀ {w:World} {O:Nat→Prop} {kv:Value} {k:kt.den} (em:Bool),BX w O kt kv k→(Instr.checkKey em 10000 kid kv).run P w=.ok () w
 find:∀ {w:World} {O:Nat→Prop} {vt:Ty} {es:List MapEntry} {l:List (kt.den×vt.den)} {kv:Value} {k:kt.den},BX w O kt kv k→J8 w O kt vt es l→(Instr.findKey kid kv es).run P w=.ok (HW kt vt k es l 0) w
 stays:∀ {w:World} {O:Nat→Prop} {kv:Value} {k:kt.den},BX w O kt kv k→(Instr.keyThatStays kv kv).run P w=.ok kv w
 same:∀ {w:World} {O:Nat→Prop} {kv kv':Value} {k k':kt.den},BX w O kt kv k→BX w O kt kv' k'→Ja kt k k'=true→kv'=kv
theorem We {w:World} {O:Nat→Prop} {a c:Ty} {d:TypeDesc} (g:Ti a=some d) {k:a.den} {j:Value} (hk:BX w O a j k):∀ {b:List MapEntry} {l:List (a.den×c.den)},J8 w O a c b l→∀i,Instr.findNow d j b i=some (HW a c k b l i)
 | [],[],_,i=>rfl
 | [],_ :: _,h,_=>h.elim
 | _ :: _,[],h,_=>h.elim
 | e :: b,x :: l,⟨h1,o,m⟩,i=>by
  have hs:=Zx g hk h1;have n:=We g hk m (i+1);cases f:Ja a k x.1<;>rw[f]at hs<;>simp[Instr.findNow,HW,hs,f,n]
theorem Gp {P:Program} {kid:TypeId} {kt:Ty} {d:TypeDesc} (hd:Ti kt=some d) (hu:P.underlying kid=some d):Tj P kid kt where
 check:=fun em h=>MapKept.run_checkKey hu (Ms hd h) em 9999
 find:=fun hk he=>MapKept.run_findKey hu (We hd hk he 0)
 stays:=fun h=>MapKept.run_keyThatStays (Ms hd h)
 same:=fun h h' he=>A4J hd h h' he
theorem Fd {w:World} {O:Nat→Prop} {a b:IntKind} {v:Value} {d:(Ty.agg (.prod (.int a) (.int b))).den} (h:BX w O (.agg (.prod (.int a) (.int b))) v d):v=.agg #[.int a d.1,.int b d.2]:=by
 obtain⟨cs,⟨c1,c2,rfl,⟨rfl,_⟩,⟨rfl,_⟩⟩,rfl⟩:=h;rfl
theorem Ry {P:Program} {w:World} {t:TypeId} {a:IntKind} (h:P.underlying t=some (.int a)) (d:Nat) (x y:Int):(Op.equalIn (d+1) t (.int a x) (.int a y)).run P w=.ok (x==y) w:=by simp[Op.equalIn,dO h]
theorem PN {P:Program} {w:World} {t:TypeId} {a:IntKind} (h:P.underlying t=some (.int a)) (em:Bool) (d:Nat) (x:Int):(Instr.checkKey em (d+1) t (.int a x)).run P w=.ok () w:=by simp[Instr.checkKey,dO h]
theorem WI {P:Program} {w:World} {h:TypeId} {a b:IntKind} (hp:Mq P h a b) (em:Bool) (d:Nat) (x y:Int):(Instr.checkKey em (d+2) h (.agg #[.int a x,.int b y])).run P w=.ok () w:=by
 obtain⟨c,e,hu,⟨h1,j⟩,⟨l,m⟩,⟨f,g⟩,s⟩:=hp;have i : c.name ≠ "_" := by simpa using h1
 have k : e.name ≠ "_" := by simpa using j
 have n:P.plainKey c.type=true:=by simp[Program.plainKey,f]
 have o:P.plainKey e.type=true:=by simp[Program.plainKey,g]
 have p0:=fun(u v:Value)=>ACu (P:=P) w n (xs:=#[u,v]) (off:=c.offset) (v:=u) (by rw[l];rfl);have p:=fun(u v:Value)=>ACu (P:=P) w o (xs:=#[u,v]) (off:=e.offset) (v:=v) (by rw[m];rfl);have q:=fun x:Int=>PN (w:=w) f em d x;have r:=fun x:Int=>PN (w:=w) g em d x;rw[Instr.checkKey];simp[dO hu,i,k,p0,p,q,r]
theorem Tk {P:Program} {g:TypeId} {a b:IntKind} (hp:Mq P g a b) (w:World) (h i j k:Int):(Op.equal g (.agg #[.int a h,.int b i]) (.agg #[.int a j,.int b k])).run P w=.ok ((h==j)&&(i==k)) w:=by
 obtain⟨d,f,hu,⟨h1,l⟩,⟨r,s⟩,⟨m,n⟩,t⟩:=hp;have o:P.fieldsOf g=#[d,f]:=by simp[Program.fieldsOf,hu]
 have z:P.plainKey d.type=true:=by simp[Program.plainKey,m]
 have A:P.plainKey f.type=true:=by simp[Program.plainKey,n]
 have h1 : d.name ≠ "_" := by simpa using h1
 have l : f.name ≠ "_" := by simpa using l
 have B:∀x y:Int,(Op.equalIn 9999 d.type (.int a x) (.int a y)).run P w=.ok (x==y) w:=fun x y=>Ry m 9998 x y;have p:∀x y:Int,(Op.equalIn 9999 f.type (.int b x) (.int b y)).run P w=.ok (x==y) w:=fun x y=>Ry n 9998 x y;have e:(Op.equal g (.agg #[.int a h,.int b i]) (.agg #[.int a j,.int b k])).run P w=_:=run_equalIn_struct (P:=P) w 9999 g _ _ (by rw[o];exact hu) t;rw[e,o];have p0:=fun(u v:Value)=>ACu (P:=P) w z (xs:=#[u,v]) (off:=d.offset) (v:=u) (by rw[r];rfl);have q:=fun(u v:Value)=>ACu (P:=P) w A (xs:=#[u,v]) (off:=f.offset) (v:=v) (by rw[s];rfl);simp only[Op.eqFields,h1,l,ne_eq,not_false_eq_true,AAH,AAK,p0,q,AAb,B,p];by_cases c:h=j
 ·by_cases c2:i=k<;>simp[c,c2,Sem.run_ite,AAK,q,p,Op.eqFields]
 ·simp[c,Sem.run_ite]
theorem Wf {P:Program} {g:TypeId} {a b:IntKind} (hp:Mq P g a b) {w:World} {O:Nat→Prop} {d:Ty} {k:(Ty.agg (.prod (.int a) (.int b))).den} {j:Value} (hk:BX w O (.agg (.prod (.int a) (.int b))) j k) :
  ∀ {c:List MapEntry} {l:List ((Ty.agg (.prod (.int a) (.int b))).den×d.den)},J8 w O (.agg (.prod (.int a) (.int b))) d c l→∀i,(Instr.findAsking g j c i).run P w=.ok (HW (.agg (.prod (.int a) (.int b))) d k c l i) w
 | [],[],_,i=>rfl
 | [],_ :: _,h,_=>h.elim
 | _ :: _,[],h,_=>h.elim
 | e :: c,x :: l,⟨h1,p,m⟩,i=>by
  have o:=Wf hp hk m (i+1);have f:=Tk hp w k.1 k.2 x.1.1 x.1.2;rw[←Fd hk,←Fd h1]at f;have n:Ja (.agg (.prod (.int a) (.int b))) k x.1=((k.1==x.1.1)&&(k.2==x.1.2)):=rfl;simp only[Instr.findAsking,AAK,f,AAb,HW,n,Sem.run_ite];split
  ·rfl
  ·exact o
theorem Zy {P:Program} {kid:TypeId} {a b:IntKind} (hp:Mq P kid a b):Tj P kid (.agg (.prod (.int a) (.int b))) where
 check:=fun em h=>by
  rw[Fd h];exact WI hp em 9998 _ _
 find:=fun hk he=>by
  have hp2:=hp;obtain⟨f0,f1,hu,_⟩:=hp2;rw[run_findKey_eq _ (by rw[hu])];exact Wf hp hk he 0
 stays:=fun h=>by
  rw[Fd h];simp[Instr.keyThatStays,Instr.sameBits]
 same:=fun h h' he=>by
  rw[Fd h,Fd h'];have he:((_==_)&&(_==_))=true:=he;simp only[AT,tO]at he;rw[he.1,he.2]
theorem Qt {P:Program} {B:TypeId} {w:World} {O:Nat→Prop} {c a:Ty} (t:Tj P B c) {k:c.den} {n:Value} (hk:BX w O c n k):∀ {g:List MapEntry} {l:List (c.den×a.den)},J8 w O c a g l→∀i,
  (A6 c a k l=none∧HW c a k g l i=none∧∀(v:a.den) (d:Value) (b:Nat),BX w O a d v→J8 w O c a (g++[⟨n,d,b⟩]) (H3 c a k v l)) ∨
  ∃(j:Nat) (e:MapEntry) (v0:a.den),A6 c a k l=some v0∧HW c a k g l i=some (i+j,e.val)∧g[j]?=some e∧BX w O a e.val v0∧e.key=n ∧
   ∀(v:a.den) (d:Value),BX w O a d v→J8 w O c a (g.modify j fun e=>{ e with key:=n,val:=d }) (H3 c a k v l)
 | [],[],_,i=>.inl ⟨rfl,rfl,fun v d b m=>⟨hk,m,trivial⟩⟩
 | [],_ :: _,h,_=>h.elim
 | _ :: _,[],h,_=>h.elim
 | e :: g,x :: l,⟨h1,r,s⟩,i=>by
  cases f:Ja c k x.1 with
  | true =>
   refine .inr ⟨0,e,x.2,by simp[A6,f],by simp[HW,f],rfl,r,t.same hk h1 f,fun v d m=>?_⟩;simp only[H3,f,AAH];exact⟨hk,m,s⟩
  | false =>
   rcases Qt t hk s (i+1) with ⟨o,p,q⟩|⟨j,u,v0,o,p,q,y,z,A⟩
   ·refine .inl ⟨by simp[A6,f,o],by simp[HW,f,p],fun v d b m=>?_⟩;simp only[H3,f,AAL,AAY];exact⟨h1,r,q v d b m⟩
   ·refine .inr ⟨j+1,u,v0,by simp[A6,f,o],?_,by simpa using q,y,z,fun v d m=>?_⟩
    ·simp only[HW,f,p,AAL,AAY]
     congr 2
     omega
    ·simp only[H3,f,AAL,AAY,List.modify_succ_cons];exact⟨h1,r,A v d m⟩
theorem Zz {P:Program} {tb:Tb} {id:TypeId} {ti:TI} (hT:ED P tb id ti) (c:ti.el=0) (hk:TV ti.ty=true):Tj P id ti.ty:=by
 have a:=hT.2;obtain⟨⟨⟨_,_,b⟩,_⟩,_⟩:=hT;rw[c]at b;cases d:ti.ty<;>rw[d]at a hk b<;>simp only[TV]at hk<;>try(cases hk;done)
 ·exact Gp rfl a
 ·exact Gp rfl a
 ·exact Gp rfl a
 ·unfold Zl at hk;split at hk
  ·exact Zy b
  ·cases hk
theorem sC {t:Ty} {z:Value} (c:z.cells=t.zero.toArray) (hf:YQ t z=true):z=t.wrap t.zero:=by
 cases t with
 | agg t =>
  cases z<;>simp only[YQ]at hf<;>try(cases hf;done)
  simp only[Value.cells]at c;rw[c];rfl
 | prod a b=>cases z<;>simp[YQ]at hf
 | _=>cases z<;>simp only[YQ]at hf<;>(try(cases hf;done))<;>(simp only[Value.cells,Ty.zero]at c;simp[Ty.wrap,Ty.zero]at c ⊢<;>exact c)
section
variable {P:Program} {tb:Tb} {w:World} {O0:Nat→Prop} {σ:St} {ρ:Nat→Value} {vc:Prop} {v:AV} {obs:List (Nat×Obj)} {id:TypeId} {ti:TI}
theorem sD {P:Program} {tb:Tb} {e:TypeId} {te:TI} {z:Value} {i:TypeInfo} (hi:P.info? e=some i) (b:i.zero=some z) (a:z.cells=te.ty.zero.toArray) (hf:YQ te.ty z=true) (w:World) (O:Nat→Prop) :
  (zeroValue e).run P w=.ok z w∧BX w O te.ty z te.ty.dflt:=by
 refine⟨by simp[zeroValue,typeInfo,hi,b],te.ty.zero,Bo.zero w O te.ty,sC a hf⟩
theorem A5U {a:Act} (o:GH (vw w O0 σ ρ) σ a.eval) {fn:Fn} {first d:List Operand} (h:WF σ fn first d=some (vc,v,obs)):obs=[]∧∃u,(Instr.makeFunc fn (first.map a.eval).toArray (d.map a.eval).toArray).run P w=.ok u w∧B0 (vw w O0 σ ρ) v u:=by
 unfold WF at h;split at h
 ·rename_i f;cases j:HV σ d with
  | none=>rw[j]at h;simp[NZ]at h
  | some ns =>
   rw[j]at h;simp only[NZ]at h;cases h;have key:∀ {l:List Operand} {ns:List Nat},HV σ l=some ns→l.map a.eval=ns.map ρ∧∀n∈ns,Gn σ n∧∃b:Nat,ρ n=.pointer (some ⟨b,0,none⟩):=by
    intro l;induction l with
    | nil=>intro ns h;simp only[HV]at h;cases h;exact⟨rfl,fun _ h=>by cases h⟩
    | cons x r p =>
     intro ns h;simp only[HV]at h;split at h
     ·rename_i n t h1 k;cases h;obtain⟨e,g⟩:=p k;obtain⟨q,b,c,s⟩:=o x _ h1;have c:ρ n=_:=c;refine⟨by simp only[AA1,e,s,c],fun m i=>?_⟩;rcases By.1 i with rfl|i
      ·exact⟨q,b,c⟩
      ·exact g m i
     ·cases h
   obtain⟨e,g⟩:=key j;refine⟨rfl,_,rfl,?_,g⟩;rw[e];rfl
 ·cases h
theorem sE {d:Array MapEntry} {cl:Nat} (h:Qq d cl) (x y:Value):Qq (d.push ⟨x,y,cl⟩) (cl+1):=by
 unfold Qq;rw[Array.toList_push,AAA];refine⟨?_,fun b c=>?_⟩
 ·rw[AAI];refine⟨h.1,by simp,fun a ha b c e=>?_⟩;have c:b=cl:=by simpa using c
  have:=h.2 a ha;omega
 ·rcases OF.1 c with c|c
  ·have:=h.2 b c;omega
  ·have c:b=cl:=by simpa using c
   omega
theorem Z0 {a:Array MapEntry} {cl:Nat} (h:Qq a cl) (j:Nat) (x y:Value):Qq (a.modify j fun e=>{ e with key:=x,val:=y }) cl:=by
 have e:((a.modify j fun e=>{ e with key:=x,val:=y }).toList.map (·.born))=a.toList.map (·.born):=by
  rw[Array.toList_modify];apply AA8
  ·simp
  ·intro i h1 b;simp only[ABd,List.getElem_modify];split<;>rfl
 unfold Qq;rw[e];exact h
theorem A4K (G:DF P tb) (hT:ED P tb id ti) {n:Nat} {k e:Nat} (Q:ti.ty=.ref 2) (N:ti.offs=[(k,e)]) {a:TI} (R:lk k tb.ty=some a) {c:Ty} {l:List (a.ty.den×c.den)} {V:Vw} (H:V.w=w)
  (M:A3 V (.mapo a.ty c l) (V.ρ n)) {x y:Value} {kd:a.ty.den} {h:c.den} (I:a.el=0) (K:TV a.ty=true) (g:BX w V.O a.ty x kd) (B:BX w V.O c y h) :
  ∃b p s,V.ρ n=.map (some b)∧(Instr.mapUpdate id (.map (some b)) x y).run P w=.ok () { w with heap:=w.heap.setIfInBounds b (.map p s) }∧(∃o,w.heap[b]?=some o)∧J8 w V.O a.ty c p.toList (H3 a.ty c kd h l)∧Qq p s:=by
 obtain⟨d,hu,_,L⟩:∃d,P.underlying id=some d∧(match d with|.struct _=>False|.array _ _=>False|_=>True) ∧
   ∀k e,(2:Nat)=2→ti.offs=[(k,e)]→d=.map k e∧∃(a te:TI) (z:Value),lk k tb.ty=some a∧lk e tb.ty=some te∧(∃i,P.info? e=some i∧i.zero=some z)∧z.cells=te.ty.zero.toArray∧YQ te.ty z=true:=by
  have:=hT.2;rw[Q]at this;exact this
 obtain⟨rfl,_⟩:=L k e rfl N;obtain⟨b,m,cl,A,hh,u,t⟩:=M;subst H;have f:=Zz (G _ _ R) I K;have v:=f.find g u;refine⟨b,?_⟩;rcases Qt f g u 0 with ⟨D,q,r⟩|⟨j,C,v0,D,q,r,S,E,F⟩
 ·refine⟨m.push ⟨x,y,cl⟩,cl+1,A,?_,⟨_,hh⟩,by simpa using r h y cl B,sE t x y⟩;simp[Instr.mapUpdate,dO hu,AAW hh,f.check _ g,v,q,ABD _ hh]
 ·have J:m[j]?=some C:=by simpa using r
  refine⟨m.modify j fun e=>{ e with key:=x,val:=y },cl,A,?_,⟨_,hh⟩,by rw[Array.toList_modify];exact F h y B,Z0 t j x y⟩;simp[Instr.mapUpdate,dO hu,AAW hh,f.check _ g,v,q,J,E,f.stays g,ABD _ hh]
theorem sF (hT:ED P tb id ti) {d:Nat} (h:FD tb d (some ti)=some (vc,v,obs)) (hf:Ba obs σ=true) :
  ∃u ρ' w',(Instr.makeMap id none).run P w=.ok u w'∧QS w O0 σ ρ v obs u ρ' w':=by
 unfold FD at h;split at h
 ·rename_i offs _ _ c;cases c;unfold Fa at h;split at h
  ·rename_i k e;unfold FZ at h;split at h
   ·cases h;have f:(Instr.makeMap id none).run P w=.ok (.map (some w.heap.size)) (w.alloc (.map #[] 0)):=by
     simp[Instr.makeMap,Result.andThen]
    refine⟨_,_,_,f,QS.one (loc:=.map (some w.heap.size)) ((Below.refl _ w).alloc (No _) _) ?_ ?_ ?_⟩
    ·intro b a;simp[bk,blk]at a;omega
    ·refine⟨⟨_,by simp only[ET,ABm,lk,AAH];rfl⟩,w.heap.size,?_,rfl⟩;show EU ρ d _ d=_;rw[Bg]
    ·exact⟨w.heap.size,#[],0,rfl,(MapKept.heap_alloc w _).1,trivial,List.Pairwise.nil,fun b a=>by cases a⟩
   ·cases h
  ·cases h
 ·cases h
theorem A4L (hT:ED P tb id ti) (M:DF P tb) (H:∀n o,lk n σ.objs=some o→A3 (vw w O0 σ ρ) o (ρ n)) {ok:Bool} {x y:AV} {xv D:Value} (h:IC tb σ ok (some ti) (some x) (some y)=some (vc,v,obs))
  (Y:B0 (vw w O0 σ ρ) x xv) (Z:B0 (vw w O0 σ ρ) y D):obs=[]∧∃u,(Instr.lookup id xv D ok).run P w=.ok u w∧B0 (vw w O0 σ ρ) v u:=by
 unfold IC at h;split at h
 ·rename_i k e _ _ n z Q R S;cases Q;cases R;cases S;obtain⟨d,hu,_,W⟩:=hT.2;obtain⟨rfl,C,te,ag,J,X,⟨i,hi,aa⟩,ae,af⟩:=W k e rfl rfl;cases hn:lk n σ.objs with
  | none=>rw[hn]at h;simp[HG]at h
  | some o =>
   rw[hn]at h;cases o with
   | mapo ai aj l =>
    simp only[HG,J,X,AAX,AAv]at h;split at h
    ·rename_i O;obtain⟨rfl,T,rfl⟩:=O;cases hk:Kk false σ C.ty y with
     | none=>rw[hk]at h;simp[Jf]at h
     | some kd =>
      rw[hk]at h;simp only[Jf]at h;split at h
      ·rename_i U;have a:=KA (V:=vw w O0 σ ρ) (O':=own O0 σ ρ) (fun _ h=>h) (fun h=>by cases h) H hk Z;have a:BX w (own O0 σ ρ) C.ty D kd:=a;obtain⟨ah,b,B,rfl⟩:=Y;have B:ρ n=_:=B;obtain⟨b',E,cl,c,hh,m,-⟩:=H n _ hn;rw[B]at c;injection c with c
       injection c with c
       subst c;have hh:w.heap[b]?=some (.map E cl):=hh;have m:J8 w (own O0 σ ρ) C.ty te.ty E.toList l:=m;have p:=Zz (M _ _ J) T U;have G:=p.find a m;obtain⟨ab,ad⟩:=sD (te:=te) (P:=P) (tb:=tb) hi aa ae af w (own O0 σ ρ);have F:∀(f:Value) (q:Bool) (r:Option te.ty.den),BX w (own O0 σ ρ) te.ty f (r.getD te.ty.dflt)→q=r.isSome→Km te.ty ok r=some (vc,v,obs)→obs=[]∧∃u,u=(if ok=true then Value.tuple #[f,.bool q] else f)∧B0 (vw w O0 σ ρ) v u:=by
        intro f q r I N g;unfold Km at g;subst N;cases ok with
        | true =>
         simp only[AAH]at g ⊢;cases g;exact⟨rfl,_,rfl,[f,.bool r.isSome],rfl,f,_,rfl,I,_,[],rfl,Be _,rfl⟩
        | false =>
         simp only[AAL,AAY]at g ⊢;cases g;exact⟨rfl,_,rfl,I⟩
       rcases Qt p a m 0 with ⟨s,t,_⟩|⟨j,K,v0,s,t,_,L,_,_⟩
       ·rw[s]at h;obtain⟨h1,u,rfl,A⟩:=F ag false none ad rfl h;refine⟨h1,_,?_,A⟩;simp[Instr.lookup,dO hu,AAW hh,p.check _ a,G,t,ab]
       ·rw[s]at h;obtain⟨h1,u,rfl,A⟩:=F K.val true (some v0) L rfl h;refine⟨h1,_,?_,A⟩;simp[Instr.lookup,dO hu,AAW hh,p.check _ a,G,t]
      ·cases h
    ·cases h
   | _=>simp[HG]at h
 ·cases h
end
end
end Go.Proofs.YtdapahgnpbehbaaGreat.Fw
