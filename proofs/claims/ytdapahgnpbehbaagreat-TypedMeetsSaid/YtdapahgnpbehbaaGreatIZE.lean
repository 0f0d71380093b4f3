/- One operation, a sequence, loops, the entry and the end of a function: the rules. -/
import Derived.Test.YtdapahgnpbehbaaGreatIZD
import Derived.Deep.LoopGhost
import Derived.ControlIn
set_option linter.unusedVariables false
set_option linter.unusedSimpArgs false
namespace Go.Proofs.YtdapahgnpbehbaaGreat.Fw
section
open Go Go.RowKit
abbrev AC9:=@Go.wpIn_region_list
abbrev ACx:=@Go.wpIn_mono
structure Cx where
 P:Program
 tb:Tb
 w0:World
 K:Nat→Prop
 O0:Nat→Prop
 nt:Nat
 
 ds:Fp:={}
 
 r:Option Nat:=none
structure Cx.Ok (c:Cx):Prop where
 K:∀b,c.K b→b<c.w0.heap.size
 O:∀b,c.O0 b→b<c.w0.heap.size
 T:DF c.P c.tb
 F:I8 c.P c.tb
def Cx.sat (c:Cx) (σ:St) (a:Act) (w:World):Prop:=∃ρ,Bm c.w0 c.K c.O0 c.nt c.ds σ ρ a w
section
variable {c:Cx}
theorem A2P (hc:c.Ok) {σ:St} {ρ:Nat→Value} {a:Act} {w:World} (h:Bm c.w0 c.K c.O0 c.nt c.ds σ ρ a w):A5V c.P c.tb w c.O0 σ ρ a where
 hT:=hc.T
 hF:=hc.F
 obj:=h.objs
 own:=by
  intro b hb;rcases hb with h0|⟨n,⟨o,ho⟩,hb⟩
  ·exact AAy (hc.O b h0) h.frm.size
  ·exact(h.objs n o ho).block_lt hb
 ev:=Du h.env
theorem w5 (e:c.Ok) {σ σ':St} {ρ:Nat→Value} {a:Act} {w:World} (hs:Bm c.w0 c.K c.O0 c.nt c.ds σ ρ a w) {o:Oper} {vc:Prop} (h:FF c.tb σ o.dst o.op=some (vc,σ')) (k:vc) (j:∀d,o.dst=some d→d<c.nt)
  {next:Act→World→Prop} {Q:Exit→Act→World→Prop} (hn:∀i w',c.sat σ' i w'→next i w'):o.wpIn (FR c.r) 0 c.P a w next Q:=by
 obtain⟨dst,op,type,pos,after,guard⟩:=o;simp only at h j;cases op<;>simp only[FF]at h<;>try(cases h;done)
 case store t x y =>
  cases dst with
  | some d=>simp[Di]at h
  | none =>
   simp only[Di]at h;obtain⟨w',ρ',h1,f⟩:=kE (P:=c.P) hs e.K e.O e.T h k;exact oX (w':=w') (by simp[execOp,h1]) (hn _ _ ⟨ρ',f⟩)
 case mapUpdate t m x y =>
  cases dst with
  | some d=>simp[Di]at h
  | none =>
   simp only[Di]at h;obtain⟨w',h1,f⟩:=sI (P:=c.P) hs e.K e.T h;exact oX (w':=w') (by simp[execOp,h1]) (hn _ _ ⟨ρ,f⟩)
 case call cl =>
  obtain⟨callee,args,argTypes⟩:=cl;cases callee with
  | value g=>simp[C0]at h
  | invoke r m=>simp[C0]at h
  | builtin b =>
   simp only[C0]at h;obtain⟨args⟩:=args;obtain⟨argTypes⟩:=argTypes;simp only at h;unfold DN at h;split at h
   ·rename_i x y t u;obtain⟨z,w',ρ',h1,f⟩:=kD (P:=c.P) (ty:=type) hs e.K e.O e.T j h k;exact Aq (u:=z) (w':=w') (by simp[execOp,resolve,invoke,builtin,h1]) (hn _ _ ⟨ρ',f⟩)
   ·cases h
theorem PX (b:c.Ok) {σ σ':St} {a:Act} {w:World} (hs:c.sat σ a w) {o:Oper} {vc:Prop} (h:F1 c.tb o σ=some (vc,σ')) (i:vc) (g:∀d,o.dst=some d→d<c.nt)
  {next:Act→World→Prop} {Q:Exit→Act→World→Prop} (hn:∀f w',c.sat σ' f w'→next f w'):o.wpIn (FR c.r) 0 c.P a w next Q:=by
 obtain⟨ρ,hs⟩:=hs;have hs:=Kx (l:=CC σ o.op) hs;unfold F1 Ng at h;generalize Ce (CC σ o.op) σ=k at h hs;cases e:aq c.tb k (o.dst.getD 0) o.op with
 | some r =>
  obtain⟨m,v,obs⟩:=r;rw[e]at h;simp only[J6]at h;split at h
  ·rename_i hf;cases h;exact oU (A2P b hs) e i hf fun u ρ' w' j=>hn _ _ ⟨ρ',hs.add b.K b.O g hf j⟩
  ·cases h
 | none =>
  rw[e]at h;exact w5 b hs h i g hn
theorem Hm {ops:Array Oper} {σ:St} {a:Act} {w:World} (hs:c.sat σ a w) {o:Oper} {b:Bool} (h:EX ops.toList σ o.guard=some b):Region.wanted o (yielded ops a.tmps)=b:=by
 obtain⟨ρ,hs⟩:=hs;unfold EX at h;split at h
 ·rename_i e;cases h;simp[Region.wanted,e]
 ·rename_i j q e;cases f:(ops.toList[j]?).bind (·.dst) with
  | none=>rw[f]at h;simp[Jk]at h
  | some g =>
   rw[f]at h;simp only[Jk]at h;cases i:lk g σ.env with
   | none=>rw[i]at h;simp[Qp]at h
   | some v =>
    rw[i]at h;unfold Qp at h;split at h
    ·rename_i l m;cases m;cases h;have d:=hs.env g _ i;have d:=EK d;have p:(ops[j]?).bind (·.dst)=some g:=by simpa using f
     have n:a.tmps[g]?=some (.bool l):=by
      by_cases k:g<a.tmps.size
      ·have:a.tmps.getD g undef=a.tmps[g]:=by simp[Array.getD,k]
       rw[this]at d;rw[AAc k,d]
      ·have:a.tmps.getD g undef=undef:=by simp[Array.getD,k]
       rw[this]at d;cases d
     simp only[Region.wanted,e,yielded,p,Option.bind_some,n];cases l<;>cases q<;>rfl
    ·cases h
theorem Mu {σ:St} {a:Act} {w:World} (b:c.Ok) (hs:c.sat σ a w) {dst:Option Nat} (e:∀d,dst=some d→d<c.nt):c.sat (σ.add (.raw undef) [] dst) (a.put dst undef) w:=by
 obtain⟨ρ,hs⟩:=hs;exact⟨ρ,hs.add b.K b.O e (by simp[Ba]) (QS.still rfl)⟩
def HX (nt:Nat) (o:Oper):Bool :=
 match o.dst with
 | some d=>decide (d<nt)
 | none=>true
theorem Bb {nt:Nat} {o:Oper} (h:HX nt o=true):∀d,o.dst=some d→d<nt:=by
 intro d a;simpa[HX,a] using h
theorem Qw (e:c.Ok) {ops:Array Oper} {Q:Exit→Act→World→Prop} {r:List Oper}:∀(l:List Oper) {σ σ':St} {vc:Prop} {a:Act} {w:World},c.sat σ a w→(∀o∈l,HX c.nt o=true)→Bp c.tb ops.toList l σ=some (vc,σ')→vc →
  (∀i w',c.sat σ' i w'→wpListIn (FR c.r) 0 c.P ops Q r i w')→wpListIn (FR c.r) 0 c.P ops Q (l++r) a w
 | [],σ,σ',vc,a,w,hs,f,h,g,d=>by
  simp only[Bp]at h;cases h;exact d _ _ hs
 | o :: l,σ,σ',vc,a,w,hs,f,h,g,d=>by
  simp only[Bp]at h;cases j:EX ops.toList σ o.guard with
  | none=>rw[j]at h;simp[evG]at h
  | some b =>
   rw[j]at h;have s:=Hm hs j;have q:=Bb (f o (by simp));rw[ABm];unfold wpListIn;cases b with
   | true =>
    simp only[evG]at h;rw[At s];cases n:F1 c.tb o σ with
    | none=>rw[n]at h;simp[evK]at h
    | some r =>
     obtain⟨x,v⟩:=r;rw[n]at h;simp only[evK]at h;cases m:Bp c.tb ops.toList l v with
     | none=>rw[m]at h;simp[TW]at h
     | some u =>
      obtain⟨y,σ2⟩:=u;rw[m]at h;simp only[TW]at h;cases h;exact PX e hs n g.1 q fun i w' t=>Qw e l t (fun p k=>f p (by simp[k])) m g.2 d
   | false =>
    simp only[evG]at h;rw[As (by simp[s])];refine⟨fun _ _=>trivial,?_⟩;exact Qw e l (Mu e hs q) (fun p k=>f p (by simp[k])) h g d
theorem PY (e:c.Ok) {ops:Array Oper} {Q:Exit→Act→World→Prop}:∀(l:List Oper) {σ σ':St} {vc:Prop} {a:Act} {w:World},c.sat σ a w→(∀o∈l,HX c.nt o=true)→Bp c.tb ops.toList l σ=some (vc,σ')→vc →
  (∀i w',c.sat σ' i w'→Q .normal i w')→wpListIn (FR c.r) 0 c.P ops Q l a w
 | [],σ,σ',vc,a,w,hs,f,h,g,d=>by
  simp only[Bp]at h;cases h;exact d _ _ hs
 | o :: l,σ,σ',vc,a,w,hs,f,h,g,d=>by
  simp only[Bp]at h;cases j:EX ops.toList σ o.guard with
  | none=>rw[j]at h;simp[evG]at h
  | some b =>
   rw[j]at h;have s:=Hm hs j;have q:=Bb (f o (by simp));unfold wpListIn;cases b with
   | true =>
    simp only[evG]at h;rw[At s];cases n:F1 c.tb o σ with
    | none=>rw[n]at h;simp[evK]at h
    | some r =>
     obtain⟨x,v⟩:=r;rw[n]at h;simp only[evK]at h;cases m:Bp c.tb ops.toList l v with
     | none=>rw[m]at h;simp[TW]at h
     | some u =>
      obtain⟨y,σ2⟩:=u;rw[m]at h;simp only[TW]at h;cases h;exact PX e hs n g.1 q fun i w' t=>PY e l t (fun p k=>f p (by simp[k])) m g.2 d
   | false =>
    simp only[evG]at h;rw[As (by simp[s])];refine⟨fun _ _=>trivial,?_⟩;exact PY e l (Mu e hs q) (fun p k=>f p (by simp[k])) h g d
end
end
section
open Go Go.RowKit
inductive Df where
 | seq (c:Code)
 | blk (id:Nat)
 
 | inv (post:St→Prop)
def Bh (nt:Nat):Code→Bool
 | .region _ ops _=>ops.toList.all (HX nt)
 | .seq a b=>Bh nt a&&Bh nt b
 | .cond _ a b=>Bh nt a&&Bh nt b
 | .block _ b=>Bh nt b
 | .loop b=>Bh nt b
 | .scope b=>Bh nt b
 | _=>true
def DA (nt:Nat):List Df→Bool
 | []=>true
 | .seq c :: k=>Bh nt c&&DA nt k
 | _ :: k=>DA nt k
def Sw (c:Cx) (R:Exit→Act→World→Prop):List Df→Exit→Act→World→Prop
 | [],e,a,w=>R e a w
 | .seq y :: k,.normal,a,w=>y.wpIn (FR c.r) 0 c.P (Sw c R k) a w
 | .seq _ :: k,e,a,w=>Sw c R k e a w
 | .blk id :: k,.exit b,a,w=>if b=id then Sw c R k .normal a w else Sw c R k (.exit b) a w
 | .blk _ :: k,e,a,w=>Sw c R k e a w
 | .inv post :: _,.normal,a,w=>∃σ,c.sat σ a w∧post σ
 | .inv _ :: k,e,a,w=>Sw c R k e a w
inductive o0 where
 | run (cd:Code)
 | out (e:Exit)
def nwp (c:Cx) (R:Exit→Act→World→Prop) (k:List Df):o0→Act→World→Prop
 | .run cd,a,w=>cd.wpIn (FR c.r) 0 c.P (Sw c R k) a w
 | .out e,a,w=>Sw c R k e a w
def II (nt:Nat):o0→Bool
 | .run cd=>Bh nt cd
 | .out _=>true
def Ev (c:Cx) (R:Exit→Act→World→Prop) (n:o0) (k:List Df) (σ:St):Prop :=
 II c.nt n=true→DA c.nt k=true→∀a w,c.sat σ a w→nwp c R k n a w
theorem Sg {F:Fence} {j:Nat} {P:Program} {Q:Exit→Act→World→Prop} {a:Act} {w:World} {c:Code} (b:Nat→Act→World→Prop) (i:Nat) (o:b i a w)
  (round:∀n a w,b n a w→c.wpIn F j P (Exit.then (fun g w'=>∃f,f<n∧b f g w') Q) a w):(Code.loop c).wpIn F j P Q a w:=by
 refine wpIn_loop (fun a w=>∃n,b n a w) (fun a w=>leastOf (fun n=>b n a w)) ⟨i,o⟩ ?_;intro a w k;refine ACx (round _ a w (leastOf_spec k).1) ?_;intro e g w' d;cases e with
 | normal =>
  obtain⟨f,m,h⟩:=d;exact show (∃n,b n g w')∧leastOf (fun n=>b n g w')<leastOf (fun n=>b n a w) from ⟨⟨f,h⟩,ACl ((leastOf_spec ⟨f,h⟩).2 f h) m⟩
 | exit id=>exact d
 | goto l=>exact d
 | ret=>exact d
 | panic ch=>exact d
 | outgrown=>exact d
def Ent (c:Cx) (σ σ':St):Prop:=∀a w,c.sat σ a w→c.sat σ' a w
section
variable {c:Cx} {R:Exit→Act→World→Prop} {k:List Df} {σ σ':St}
theorem Ev.ent {n:o0} (h:Ev c R n k σ') (d:Ent c σ σ'):Ev c R n k σ:=fun h1 b a w hs=>h h1 b a w (d a w hs)
theorem A4O {x y:Code} (h:Ev c R (.run x) (.seq y :: k) σ):Ev c R (.run (.seq x y)) k σ:=by
 intro h1 b a w hs;simp only[II,Bh,AT]at h1;refine wpIn_seq (ACx (h h1.1 (by simp[DA,h1.2,b]) a w hs) ?_);intro e f w' d;cases e<;>exact d
theorem o4 (h:Ev c R (.out .normal) k σ):Ev c R (.run .skip) k σ:=fun _ b a w hs=>wpIn_skip (h rfl b a w hs)
theorem A4P (h:Ev c R (.out .ret) k σ):Ev c R (.run .ret) k σ:=fun _ b a w hs=>wpIn_ret (h rfl b a w hs)
theorem A2Q {id:Nat} (h:Ev c R (.out (.exit id)) k σ):Ev c R (.run (.exit id)) k σ:=fun _ b a w hs=>wpIn_exit (h rfl b a w hs)
theorem w6 {id:Nat} {b:Code} (h:Ev c R (.run b) (.blk id :: k) σ):Ev c R (.run (.block id b)) k σ:=by
 intro h1 d a w hs;refine wpIn_block (ACx (h (by simpa[II,Bh] using h1) (by simpa[DA] using d) a w hs) ?_);intro e g w' f;cases e<;>exact f
def EvR (c:Cx) (R:Exit→Act→World→Prop) (k:List Df):DC→Prop
 | some (vc,σ)=>vc∧Ev c R (.out .normal) k σ
 | none=>False
theorem sJ (f:c.Ok) {id:Nat} {ops:Array Oper} (h:EvR c R k (Bp c.tb ops.toList ops.toList σ)):Ev c R (.run (.region id ops false)) k σ:=by
 intro h1 e a w hs;cases b:Bp c.tb ops.toList ops.toList σ with
 | none=>rw[b]at h;exact h.elim
 | some r =>
  obtain⟨vc,σ'⟩:=r;rw[b]at h;simp only[II,Bh,GO]at h1;exact AC9 (PY f ops.toList hs h1 b h.1 fun d w' g=>h.2 rfl e d w' g)
def EvC (c:Cx) (R:Exit→Act→World→Prop) (x y:Code) (k:List Df) (σ:St):Option AV→Prop
 | some (.p .bool b)=>(b=true→Ev c R (.run x) k σ)∧(b=false→Ev c R (.run y) k σ)
 | _=>False
theorem A2R {o:Operand} {x y:Code} (h:EvC c R x y k σ (Ah σ o)):Ev c R (.run (.cond o x y)) k σ:=by
 intro h1 g a w hs;simp only[II,Bh,AT]at h1;obtain⟨ρ,f⟩:=hs;have j:=Du f.env;cases e:Ah σ o with
 | none=>rw[e]at h;exact h.elim
 | some v =>
  have l:=j o v e;rw[e]at h;unfold EvC at h;split at h
  ·rename_i b i;cases i;have d:=EK l;exact wpIn_cond_split d (fun d=>h.1 d h1.1 g a w ⟨ρ,f⟩) (fun d=>h.2 d h1.2 g a w ⟨ρ,f⟩)
  ·exact h.elim
theorem IJ {y:Code} (h:Ev c R (.run y) k σ):Ev c R (.out .normal) (.seq y :: k) σ:=by
 intro _ b a w hs;simp only[DA,AT]at b;exact h b.1 b.2 a w hs
theorem Z7 {id:Nat} {y:Code} (h:Ev c R (.out (.exit id)) k σ):Ev c R (.out (.exit id)) (.seq y :: k) σ:=by
 intro _ b a w hs;simp only[DA,AT]at b;exact h rfl b.2 a w hs
theorem kF {y:Code} (h:Ev c R (.out .ret) k σ):Ev c R (.out .ret) (.seq y :: k) σ:=by
 intro _ b a w hs;simp only[DA,AT]at b;exact h rfl b.2 a w hs
theorem kG {id:Nat} (h:Ev c R (.out .normal) k σ):Ev c R (.out .normal) (.blk id :: k) σ:=fun _ b a w hs=>h rfl (by simpa[DA] using b) a w hs
theorem R6 {id b:Nat} (h:if b=id then Ev c R (.out .normal) k σ else Ev c R (.out (.exit b)) k σ):Ev c R (.out (.exit b)) (.blk id :: k) σ:=by
 intro _ d a w hs;have d:DA c.nt k=true:=by simpa[DA] using d
 show (if b=id then Sw c R k .normal a w else Sw c R k (.exit b) a w);split at h
 ·rename_i e;rw[At e];exact h rfl d a w hs
 ·rename_i e;rw[As e];exact h rfl d a w hs
theorem kH {id:Nat} (h:Ev c R (.out .ret) k σ):Ev c R (.out .ret) (.blk id :: k) σ:=fun _ b a w hs=>h rfl (by simpa[DA] using b) a w hs
theorem AB {post:St→Prop} (h:post σ):Ev c R (.out .normal) (.inv post :: k) σ:=fun _ _ _ _ hs=>⟨σ,hs,h⟩
theorem Z8 {id:Nat} {post:St→Prop} (h:Ev c R (.out (.exit id)) k σ):Ev c R (.out (.exit id)) (.inv post :: k) σ:=fun _ b a w hs=>h rfl (by simpa[DA] using b) a w hs
theorem kI {post:St→Prop} (h:Ev c R (.out .ret) k σ):Ev c R (.out .ret) (.inv post :: k) σ:=fun _ b a w hs=>h rfl (by simpa[DA] using b) a w hs
def A5W (c:Cx) {ι:Type} (I:ι→St) (μ:ι→Nat) (i:ι) (σ:St):Prop:=∃j,μ j<μ i∧Ent c σ (I j)
theorem AJ {ι:Type} (d:ι→St) (f:ι→Nat) (g:ι) {b:Code} (h0:Ent c σ (d g)) (o:∀i,Ev c R (.run b) (.inv (A5W c d f i) :: k) (d i)):Ev c R (.run (.loop b)) k σ:=by
 intro h1 m a w hs;have h1:Bh c.nt b=true:=by simpa[II,Bh] using h1
 refine Sg (fun n a w=>∃i,f i=n∧c.sat (d i) a w) (f g) ⟨g,rfl,h0 a w hs⟩ ?_;rintro n a w ⟨i,rfl,hs⟩;refine ACx (o i h1 (by simpa[DA] using m) a w hs) ?_;intro e l w' h;cases e with
 | normal =>
  obtain⟨σ',r,j,q,p⟩:=h;exact⟨f j,q,j,rfl,p l w' r⟩
 | _=>exact h
theorem PZ {ι:Type} (b:ι→St) {x y:Code} (h:Ev c R (.run x) (.inv (fun σ'=>∃i,Ent c σ' (b i)) :: .seq y :: k) σ) (m:∀i,Ev c R (.run y) k (b i)):Ev c R (.run (.seq x y)) k σ:=by
 intro h1 f a w hs;simp only[II,Bh,AT]at h1;refine wpIn_seq (ACx (h h1.1 (by simp[DA,h1.2,f]) a w hs) ?_);intro e d w' g;cases e with
 | normal =>
  obtain⟨σ',l,i,j⟩:=g;exact m i h1.2 f d w' (j d w' l)
 | _=>exact g
end
end
section
open Go Go.RowKit
def AM:Nat→(ts:List Ty)→Kj ts→List (Nat×AV)
 | _,[],_=>[]
 | s,t :: ts,d=>(s,.p t d.1) :: AM (s+1) ts d.2
def Ky (σ:St) (ty:Ty):Option AV→Option AV
 | some (.bp n a off)=>match EP ty a off (lk n σ.objs) with
  | some (_,v,_)=>some v
  | none=>none
 | _=>none
def IK (tb:Tb) (σ:St):ResultVar→Option AV
 | .tmp t=>lk t σ.env
 | .cell a t=>match lk t tb.ty with
  | some ti=>Ky σ ti.ty (lk a σ.env)
  | none=>none
def Mv:Option AV→List Nat
 | some v=>v.names
 | none=>[]
def Jn (σ:St) (t:Ty):Option AV→Option t.den
 | some v=>Kk false σ t v
 | none=>none
def Gw (σ:St) (et:TypeId) (e:Ty):Option Obj→Option (List e.den)
 | some (.arr b a xs)=>if b=et then BO (.slice e) ⟨.slice a,xs⟩ else none
 | _=>none
def JB (tb:Tb) (σ:St) (rv:ResultVar):RV→Prop
 | .p t d=>Jn (Ce (Mv (IK tb σ rv)) σ) t (IK tb (Ce (Mv (IK tb σ rv)) σ) rv)=some d
 | .own et e xs=>match IK tb σ rv with
  | some (.sr n a 0 hi)=>a=e∧Gw σ et e (lk n σ.objs)=some xs∧hi=xs.length
  | _=>False
def Nj (tb:Tb) (σ:St):List ResultVar→List RV→Prop
 | [],[]=>True
 | [rv],[r]=>JB tb σ rv r
 | rv :: b,.p t d :: a=>JB tb σ rv (.p t d)∧Nj tb σ b a
 | _,_=>False
section
variable {P:Program} {tb:Tb} {w0:World} {O0:Nat→Prop} {nt:Nat} {ds:Fp}
def cx (P:Program) (tb:Tb) (w0:World) (O0:Nat→Prop) (nt:Nat):Cx:={ P:=P,tb:=tb,w0:=w0,K:=fun b=>b<w0.heap.size,O0:=O0,nt:=nt }
theorem Wj:∀(ts:List Ty) (a:List Value) (ds:Kj ts) (k:Nat) (w:World) (O:Nat→Prop),Rz w O ts a ds→∀s v,lk s (AM k ts ds)=some v→k≤s∧∃u,a[s-k]?=some u∧∃t d,v=.p t d∧BX w O t u d
 | [],a,ds,k,w,O,h,s,v,hs=>by simp[AM,lk]at hs
 | t :: ts,a,ds,k,w,O,h,s,v,hs=>by
  obtain⟨u,r,rfl,h1,b⟩:=h;simp only[AM,lk]at hs;split at hs
  ·rename_i e;cases hs;subst e;exact⟨No _,u,by simp,t,ds.1,rfl,h1⟩
  ·obtain⟨i,g,c,f⟩:=Wj ts r ds.2 (k+1) w O b s v hs;refine⟨by omega,g,?_,f⟩;rw[show s-k=(s-(k+1))+1 by omega];simpa using c
theorem R7:∀ {ts:List Ty} {a:List Value} {ds:Kj ts} {w:World} {O:Nat→Prop},Rz w O ts a ds→a.length=ts.length
 | [],a,ds,w,O,h=>by have h:a=[]:=h;subst h;rfl
 | t :: ts,a,ds,w,O,h=>by
  obtain⟨u,r,rfl,h1,b⟩:=h;simp[R7 b]
theorem sK {ts:List Ty} {a:List Value} {ds:Kj ts} (h:Rz w0 O0 ts a ds) (k:a.length≤nt) :
  (cx P tb w0 O0 nt).sat ⟨AM 0 ts ds,[]⟩ { tmps:=a.toArray++Array.replicate (nt-a.toArray.size) undef,defers:=[] } w0:=by
 refine⟨fun _=>undef,⟨rfl,rfl,rfl,No _,fun _ _=>rfl⟩,by simp[cx];omega,rfl,(fun p hp=>by simp[cx]at hp),fun n o h=>by simp[lk]at h,fun n b ⟨o,h⟩=>by simp[lk]at h,fun n m b ⟨o,h⟩=>by simp[lk]at h,fun s v hs=>?_⟩;obtain⟨_,u,h1,t,d,rfl,e⟩:=Wj ts a ds 0 w0 O0 h s v hs;have c:s<a.length:=by
  have:=(Ro.1 h1).1;simpa using this
 have i:(a.toArray++Array.replicate (nt-a.toArray.size) undef).getD s undef=u:=by
  have h1:a[s]?=some u:=by simpa using h1
  have:a[s]=u:=by rw[An c]at h1;injection h1
  simp[Array.getElem?_append,c,this]
 rw[i];refine BX.mono (fun b _ f g=>?_) (fun _ _ _=>rfl) e;rcases g with h0|⟨n,⟨o,j⟩,_⟩
 ·exact f h0
 ·simp[lk]at j
def KD (tmps:Array Value):ResultVar→Sem Value
 | .tmp t=>pure (tmps.getD t undef)
 | .cell a t=>do loadVar t (←asAddr (tmps.getD a undef))
theorem OD (fn:Func) (tmps:Array Value):results fn tmps=(do let a ←fn.results.mapM (KD tmps);pure (if h:a.size=1 then a[0] else .tuple a)):=by
 unfold results
 congr 1
theorem Sx (hT:DF P tb) {K:Nat→Prop} {σ:St} {ρ:Nat→Value} {a:Act} {w:World} (hs:Bm w0 K O0 nt ds σ ρ a w) {rv:ResultVar} {v:AV} (h:IK tb σ rv=some v) :
  ∃u,(KD a.tmps rv).run P w=.ok u w∧B0 (vw w O0 σ ρ) v u:=by
 cases rv with
 | tmp t =>
  simp only[IK]at h;exact⟨_,by simp[KD],hs.env t v h⟩
 | cell x t =>
  simp only[IK]at h;cases d:lk t tb.ty with
  | none=>rw[d]at h;simp at h
  | some ti =>
   rw[d]at h;simp only at h;cases e:lk x σ.env with
   | none=>rw[e]at h;simp[Ky]at h
   | some xv =>
    rw[e]at h;unfold Ky at h;split at h
    ·rename_i n l off i;cases i;have f:=hs.env x _ e;split at h
     ·rename_i vc o obs j;cases h;have k:I5 σ (some ti) (some (.bp n l off))=some (vc,v,obs):=j;obtain⟨_,u,h1,g⟩:=wL (hT _ _ d) hs.objs k f;obtain⟨m,b,_,c⟩:=f;rw[c]at h1;have c:a.tmps.getD x undef=.pointer (some ⟨b,off,none⟩):=c;refine⟨u,?_,g⟩;simp only[Instr.loadAt,Instr.sureAddr,AAK,AB9,AAb]at h1;simp only[KD,c,asAddr,AAK,AB9,AAb,h1]
     ·cases h
    ·cases h
theorem A2S (hT:DF P tb) {K:Nat→Prop} {σ:St} {ρ:Nat→Value} {a:Act} {w:World} (hs:Bm w0 K O0 nt ds σ ρ a w) {rv:ResultVar} {t:Ty} {d:t.den} (h:JB tb σ rv (.p t d)) :
  ∃u,(KD a.tmps rv).run P w=.ok u w∧BX w O0 t u d:=by
 unfold JB at h;have e:=Kx (l:=Mv (IK tb σ rv)) hs;generalize Ce (Mv (IK tb σ rv)) σ=f at h e;cases c:IK tb f rv with
 | none=>rw[c]at h;simp[Jn]at h
 | some v =>
  rw[c]at h;simp only[Jn]at h;obtain⟨u,h1,g⟩:=Sx hT e c;have i:=KA (V:=vw w O0 f ρ) (O':=O0) (fun b j k=>j (.inl k)) (fun h=>by cases h) e.objs h g;exact⟨u,h1,i⟩
theorem w7 (hT:DF P tb) {K:Nat→Prop} {σ:St} {ρ:Nat→Value} {a:Act} {w:World} (hs:Bm w0 K O0 nt ds σ ρ a w):∀ {f:List ResultVar} {c:List RV},(∀r∈c,∃t d,r=.p t d)→Nj tb σ f c →
  ∃e:List Value,(f.mapM (KD a.tmps)).run P w=.ok e w∧e.length=c.length ∧
   ∀nm V,V.w=w→(∀b,V.O b→O0 b)→J7 V (Ls nm c) e
 | [],[],_,_=>⟨[],by simp,rfl,fun _ _ _ _=>rfl⟩
 | [],_ :: _,_,h=>by simp[Nj]at h
 | _ :: _,[],_,h=>by simp[Nj]at h
 | rv :: f,r :: c,hp,h=>by
  obtain⟨t,d,rfl⟩:=hp r (by simp);have g:JB tb σ rv (.p t d)∧Nj tb σ f c:=by
   cases f with
   | nil =>
    cases c with
    | nil=>exact⟨h,trivial⟩
    | cons v x=>exact⟨h.1,h.2⟩
   | cons y z=>exact⟨h.1,h.2⟩
  obtain⟨u,h1,k⟩:=A2S hT hs g.1;obtain⟨e,l,m,n⟩:=w7 hT hs (fun r s=>hp r (by simp[s])) g.2;refine⟨u :: e,?_,by simp[m],fun nm V j i=>⟨u,e,rfl,?_,n _ V j i⟩⟩
  ·rw[List.mapM_cons];simp only[AAK,h1,AAb,l,AB9]
  ·show BX V.w V.O t u d;rw[j];exact BX.mono (fun b _ o q=>o (i b q)) (fun _ _ _=>rfl) k
def R8 (P:Program) (fn:Func) (w0:World) (O0:Nat→Prop) (a:List RV):Exit→Act→World→Prop :=
 bodyPost P fn fun e w'=>∃u,e=.returned u∧wU w0 O0 a u w'
theorem w8 (x:(cx P tb w0 O0 nt).Ok) {fn:Func} {g:List RV} {σ:St} {e:Exit} (y:e=.ret∨e=.normal) (hp:∀r∈g,∃t d,r=.p t d) (h:Nj tb σ fn.results.toList g) :
  Ev (cx P tb w0 O0 nt) (R8 P fn w0 O0 g) (.out e) [] σ:=by
 intro _ _ a w hs;obtain⟨ρ,hs⟩:=hs;obtain⟨f,h1,i,m⟩:=w7 x.T hs hp h;have h1:(fn.results.toList.mapM (KD a.tmps)).run P w=.ok f w:=h1;have s:Below w0.heap.size w0 w:=⟨hs.frm.os,hs.frm.tape,hs.frm.output,hs.frm.size,hs.frm.block⟩;have D:∃v,(results fn a.tmps).run P w=.ok v w∧wU w0 O0 g v w:=by
  have A:(fn.results.mapM (KD a.tmps)).run P w=.ok f.toArray w:=by
   rw[ABt];simp only[Sem.run_map,h1,AAb]
  refine⟨if h:f.toArray.size=1 then f.toArray[0] else .tuple f.toArray,?_,fun nm=>⟨fun _=>undef,?_⟩⟩
  ·rw[OD];simp only[AAK,A,AAb,AB9]
  ·have z:Cm nm g=[]:=by
    clear h h1 i m;induction g generalizing nm with
    | nil=>rfl
    | cons r F E =>
     obtain⟨t,d,rfl⟩:=hp r (by simp);simp only[Cm,O3,AB7];exact E (fun r C=>hp r (by simp[C])) (nm+10000)
   rw[z];refine⟨s,fun _ _=>rfl,?_,(fun _ _ h=>by cases h),(fun _ _ _ h=>by cases h),(fun _ _ _ _ _ h=>by cases h)⟩;have c:=m nm (vw w O0 (ET ⟨[],[]⟩ []) (fun _=>undef)) rfl (fun b q=>by
    rcases q with h0|⟨n,⟨o,B⟩,_⟩
    ·exact h0
    ·simp[ET,lk]at B)
   match g,hp,f,i,c with
   | [],_,f,i,c =>
    have c:f=[]:=c;subst c;exact(rfl:_=_)
   | [r],hp,f,i,c =>
    obtain⟨u,l,rfl,j,k⟩:=c;have k:l=[]:=k;subst k;simp only[I4];exact wD j
   | G :: H :: F,hp,f,i,c =>
    have:¬f.toArray.size=1:=by simp at i ⊢;omega
    rw[dif_neg this];exact⟨f,rfl,c⟩
 obtain⟨v,c,j⟩:=D;rcases y with rfl|rfl
 ·exact⟨hs.defers,v,c,v,rfl,j⟩
 ·exact⟨hs.defers,v,c,v,rfl,j⟩
end
end
section
open Go Go.RowKit
def Ty.ok:(t:Ty)→t.den→Prop
 | .int k,d=>LU k d
 | .bool,_=>True
 | .str,d=>ByteArray.size d≤AO
 | .slice e,d=>List.length d≤AO∧∀x∈(d:List e.den),e.ok x
 | .prod a b,d=>a.ok d.1∧b.ok d.2
 | .agg t,d=>t.ok d
 | .ref _,_=>True
theorem IL {w:World} {O:Nat→Prop}:∀ {t:Ty} {cs:List Value} {d:t.den},Bo w O t cs d→t.ok d
 | .int _,_,_,h=>h.2
 | .bool,_,_,_=>trivial
 | .str,_,_,h=>h.2
 | .ref _,_,_,_=>trivial
 | .slice e,_,d,h=>by
  obtain⟨a,c,_,_,f,g⟩:=h;refine⟨f,fun x j=>?_⟩;rcases g with g|⟨ad,_,_,k⟩
  ·subst g;simp at j
  ·obtain⟨i,hi,rfl⟩:=AAg.1 j;obtain⟨m,_,_,l⟩:=k i _ (An hi);exact IL l
 | .prod a b,_,_,h=>by
  obtain⟨c1,c2,_,h1,f⟩:=h;exact⟨IL h1,IL f⟩
 | .agg t,cs,d,h=>by
  have h:Bo w O t cs d:=h;exact(IL h:t.ok d)
def oks:(ts:List Ty)→Kj ts→Prop
 | [],_=>True
 | t :: ts,d=>t.ok d.1∧oks ts d.2
theorem o5 {w:World} {O:Nat→Prop}:∀ {ts:List Ty} {a:List Value} {ds:Kj ts},Rz w O ts a ds→oks ts ds
 | [],_,_,_=>trivial
 | t :: ts,a,ds,h=>by
  obtain⟨v,r,rfl,⟨cs,h1,_⟩,b⟩:=h;exact⟨IL h1,o5 b⟩
section
variable {P:Program} {tb:Tb} {w0:World} {O0:Nat→Prop} {nt:Nat}
theorem A4b {f : FuncId} {fn : Func} {cd : Code} {sp : Ae} (d : P.funcs[f]? = some fn) (j : (fn.name == "runtime.NumGoroutine") = false) (c : fn.body = some cd) (k : fn.ntmps = nt) (m : sp.ins.length ≤ nt)
  (i:Bh nt cd=true) (hT:DF P tb) (hF:I8 P tb)
  (h:∀(w0:World) (O0:Nat→Prop) (ds:Kj sp.ins),(cx P tb w0 O0 nt).Ok→oks sp.ins ds→sp.pre ds→Ev (cx P tb w0 O0 nt) (R8 P fn w0 O0 (sp.out ds)) (.run cd) [] ⟨AM 0 sp.ins ds,[]⟩):Ao P f sp:=by
 refine⟨⟨fn,d,j,by simp[c]⟩,fun w O p ds e a l=>?_⟩;refine calls_of_wp d c ((wpIn_wide (n:=0)).1 ?_);have o:=R7 a;rw[k];exact h w O ds ⟨fun b g=>g,e,hT,hF⟩ (o5 a) l i rfl _ _ (sK a (by omega))
theorem IM (O:(cx P tb w0 O0 nt).Ok) {fn:Func} {et:TypeId} {e:Ty} {xs:List e.den} {σ:St} {ex:Exit} (p:ex=.ret∨ex=.normal) {rv:ResultVar} (S:fn.results=#[rv]) (h:JB tb σ rv (.own et e xs)) :
  Ev (cx P tb w0 O0 nt) (R8 P fn w0 O0 [.own et e xs]) (.out ex) [] σ:=by
 intro _ _ a w hs;obtain⟨ρ,hs⟩:=hs;have N:Below w0.heap.size w0 w:=⟨hs.frm.os,hs.frm.tape,hs.frm.output,hs.frm.size,hs.frm.block⟩;unfold JB at h;simp only at h;split at h
 ·rename_i n Y hi U;obtain⟨rfl,c,rfl⟩:=h;cases hn:lk n σ.objs with
  | none=>rw[hn]at c;simp[Gw]at c
  | some o =>
   rw[hn]at c;cases o with
   | box f st fs=>simp[Gw]at c
   | mapo k v l=>simp[Gw]at c
   | frame ak fs=>simp[Gw]at c
   | loop L=>simp[Gw]at c
   | itr ag aj ah ai ae=>simp[Gw]at c
   | dfr=>simp[Gw]at c
   | nest Z af k d ys A=>simp[Gw]at c
   | arr f d ys =>
    simp only[Gw]at c;split at c
    ·rename_i R;subst R;obtain⟨rfl,I⟩:=Bi c;cases I;obtain⟨u,hu,K⟩:=Sx (P:=P) O.T hs U;obtain⟨aa,y⟩:=K;have C:=hs.objs n _ hn;have q:u=ρ n:=by
      obtain⟨a0,m,c0,t,_,ab,V,W,rfl,_,h0,_⟩:=y;have t:plc (ρ n)=_:=t;obtain⟨rfl,rfl⟩:=h0 rfl;obtain⟨_,cells,s,_⟩:=C;have s:w.ownsRow 0 f d.size (ρ n) ys.length cells:=s;rw[Hk s]at t;have r:m=ys.length:=by
       rcases s.2 with ⟨p,ad⟩|⟨g,cap,X,p,_⟩
       ·rw[t]at p;injection p;omega
       ·rw[t]at p;injection p
      rw[t,r,ACk]
     have D:(results fn a.tmps).run P w=.ok u w:=by
      rw[OD,S];have:((#[rv]:Array ResultVar).mapM (KD a.tmps)).run P w=.ok #[u] w:=by
       rw[ABt];simp[hu]
      simp only[AAK,this,AAb,AB9];rfl
     have z:wU w0 O0 [.own f d ys] u w:=by
      intro nm;have B:∀m,Gn (ET ⟨[],[]⟩ [(nm,.arr f d ys)]) m↔m=nm:=by
       intro m;simp[Gn,ET,lk]
      have hk:∀b,¬own O0 σ ρ b→¬own O0 (ET ⟨[],[]⟩ [(nm,.arr f d ys)]) (EU (fun _=>undef) nm u) b:=by
       intro b j M;rcases M with h0|⟨m,A,r⟩
       ·exact j (.inl h0)
       ·rw[(B m).1 A,Bg,q]at r;exact j (.inr ⟨n,⟨_,hn⟩,r⟩)
      have J:Cm nm [RV.own f d ys]=[(nm,.arr f d ys)]:=rfl;rw[J];refine⟨EU (fun _=>undef) nm u,QS.one (loc:=u) N (fun b j=>?_) ?_ ?_⟩
      ·rw[q]at j;have:=(hs.free n b ⟨_,hn⟩ j).1;simp only[cx]at this;omega
      ·refine⟨(B nm).2 rfl,?_⟩;show DE (plc (EU (fun _=>undef) nm u nm)) _ _ _ u;rw[Bg,q];rw[q]at y;exact y
      ·rw[q];obtain⟨r,cells,s,Q⟩:=C;refine⟨r,cells,s,fun i x hi=>?_⟩;obtain⟨E,F,G,H⟩:=Q i x hi;rw[q]at hk;exact⟨E,F,G,H.mono (fun b _ j=>hk b j) (fun _ _ _=>rfl)⟩
     rcases p with rfl|rfl
     ·exact⟨hs.defers,u,D,u,rfl,z⟩
     ·exact⟨hs.defers,u,D,u,rfl,z⟩
    ·cases c
 ·exact h.elim
end
end
section
open Go Go.RowKit
section
variable {P:Program} {tb:Tb} {w0:World} {O0:Nat→Prop} {nt:Nat} {R:Exit→Act→World→Prop} {k:List Df} {σ σ':St}
theorem Wk:(cx P tb w0 O0 nt).tb=tb:=rfl
theorem kJ {c:Cx} (a:c.Ok) {id:Nat} {l:List Oper} {vc:Prop} (h:Bp c.tb l l σ=some (vc,σ')) (b:vc) (hk:Ev c R (.out .normal) k σ') :
  Ev c R (.run (.region id l.toArray false)) k σ:=sJ a (by
 show EvR _ _ _ (Bp c.tb l l σ);rw[h];exact⟨b,hk⟩)
theorem Dl {c:Cx} {o:Operand} {x y:Code} {b:Bool} (h:Ah σ o=some (.p .bool b)) (a:b=true→Ev c R (.run x) k σ) (hf:b=false→Ev c R (.run y) k σ):Ev c R (.run (.cond o x y)) k σ :=
 A2R (by rw[h];exact⟨a,hf⟩)
theorem kK {c:Cx} {id:Nat} (h:Ev c R (.out .normal) k σ):Ev c R (.out (.exit id)) (.blk id :: k) σ:=R6 (by rw[At rfl];exact h)
theorem kL {c:Cx} {id a:Nat} (b:a≠id) (h:Ev c R (.out (.exit a)) k σ):Ev c R (.out (.exit a)) (.blk id :: k) σ:=R6 (by rw[As b];exact h)
end
inductive Bw where
 | nm (n:Nat)
 | nil
def Dj (ren:List (Nat×Bw)):AV→AV→Prop
 | .p t d,.p u a=>BO u ⟨t,d⟩=some a
 | .raw (.slice none 0 0),.p (.slice e) a=>(a:List e.den)=[]
 | .raw v,.raw u=>v=u
 | .raw (.slice none 0 0),.sr m _ lo hi=>lk m ren=some .nil∧lo=0∧hi=0
 | .sr n e lo hi,.sr m b h c=>lk m ren=some (.nm n)∧e=b∧lo=h∧hi=c
 | .ip t d,.ip u a=>BO u ⟨t,d⟩=some a
 | .bp n p o,.bp m k j=>lk m ren=some (.nm n)∧p=k∧o=j
 | .fn f,.fn g=>f=g
 | .clo f ns,.clo g i=>f=g∧i.map (fun m=>lk m ren)=ns.map fun n=>some (.nm n)
 | .mp n,.mp m=>lk m ren=some (.nm n)
 | .yl n,.yl m=>lk m ren=some (.nm n)
 | _,.top=>True
 | _,_=>False
def Em (ren:List (Nat×Bw)):List AV→List AV→Prop
 | [],[]=>True
 | x :: l,y :: r=>(x.cells=y.cells∧Dj ren x y)∧Em ren l r
 | _,_=>False
def HI (ren:List (Nat×Bw)):AV→AV→Prop
 | .ag l,.ag r=>Em ren l r
 | x,y=>Dj ren x y
def Hn (ren:List (Nat×Bw)):List AV→List AV→Prop
 | [],[]=>True
 | x :: l,y :: r=>HI ren x y∧Hn ren l r
 | _,_=>False
def Bc (ren:List (Nat×Bw)):AV→AV→Prop
 | .tup l,.tup r=>Hn ren l r
 | x,y=>HI ren x y
def Jo (ren:List (Nat×Bw)):Option AV→AV→Prop
 | some x,y=>Bc ren x y
 | none,.top=>True
 | none,_=>False
def FH (env:List (Nat×AV)) (ren:List (Nat×Bw)):List (Nat×AV)→Prop
 | []=>True
 | (s,y) :: r=>Jo ren (lk s env) y∧FH env ren r
def HJ (ren:List (Nat×Bw)):Option Obj→Obj→Prop
 | some (.arr et e xs),.arr a c ys=>et=a∧BO (.slice c) ⟨.slice e,xs⟩=some ys
 | some (.box et st fs),.box a r d=>et=a∧st=r∧Em ren fs d
 | some (.nest et n k e xs h),.nest a o b c ys m=>(et=a∧n=o∧h=m)∧BO (.slice (.prod b (.slice c))) ⟨.slice (.prod k (.slice e)),xs⟩=some ys
 | some (.mapo k v l),.mapo b f l'=>BO (.slice (.prod b f)) ⟨.slice (.prod k v),l⟩=some l'
 | some (.frame s fs),.frame t d=>s=t∧FH fs ren d
 | some (.itr k v l p i),.itr b f l' q j=>BO (.slice (.prod b f)) ⟨.slice (.prod k v),l⟩=some l'∧p=q∧i=j
 | some (.loop L),.loop g=>L=g
 | some .dfr,.dfr=>True
 | _,_=>False
def F4 (objs:List (Nat×Obj)) (ren:List (Nat×Bw)) (o:Obj):Option Bw→Prop
 | some (.nm n)=>HJ ren (lk n objs) o
 | some .nil=>match o with
  | .arr _ e ys=>(ys:List e.den)=[]
  | .box _ _ _=>False
  | .nest _ _ k e ys _=>(ys:List (k.den×List e.den))=[]
  | .mapo _ _ _=>False
  | .frame _ _=>False
  | .itr _ _ _ _ _=>False
  | .loop _=>False
  | .dfr=>False
 | none=>False
def Ab (objs:List (Nat×Obj)) (ren:List (Nat×Bw)):List (Nat×Obj)→Prop
 | []=>True
 | (m,o) :: r=>F4 objs ren o (lk m ren)∧Ab objs ren r
def B8:List (Nat×Bw)→Bool
 | []=>true
 | (_,.nm n) :: r=>(r.all fun p=>match p.2 with|.nm a=>a != n|.nil=>true)&&B8 r
 | (_,.nil) :: r=>B8 r
def L1 {α:Type}:List (Nat×α)→Bool
 | []=>true
 | (n,_) :: r=>(r.all fun p=>p.1 != n)&&L1 r
section
variable {ren:List (Nat×Bw)} {V V':Vw}
structure L2 (ren:List (Nat×Bw)) (V V':Vw):Prop where
 w:V'.w=V.w
 O:∀b,¬V.O b→¬V'.O b
 ρ:∀m n,lk m ren=some (.nm n)→V'.ρ m=V.ρ n
 nil:∀m,lk m ren=some .nil→V'.ρ m=.slice none 0 0
 L:∀m f,lk m ren=some f→V'.L m
theorem L2.vrep (h:L2 ren V V') {t:Ty} {v:Value} {d:t.den} (c:BX V.w V.O t v d):BX V'.w V'.O t v d :=
 BX.mono (fun b _ a=>h.O b a) (fun b _ _=>by rw[h.w]) c
theorem L2.rep (h:L2 ren V V') {t:Ty} {cs:List Value} {d:t.den} (c:Bo V.w V.O t cs d):Bo V'.w V'.O t cs d :=
 c.mono (fun b _ a=>h.O b a) (fun b _ _=>by rw[h.w])
theorem L2.map (h:L2 ren V V'):∀ {b ns:List Nat},b.map (fun m=>lk m ren)=ns.map (fun n=>some (Bw.nm n))→b.map V'.ρ=ns.map V.ρ∧∀m∈b,∃n∈ns,lk m ren=some (.nm n)
 | [],[],_=>⟨rfl,fun _ h=>by cases h⟩
 | [],_ :: _,a=>by simp at a
 | _ :: _,[],a=>by simp at a
 | m :: b,n :: ns,a=>by
  simp only[AA1,ABh]at a;obtain⟨h1,d⟩:=h.map a.2;refine⟨by simp only[AA1,h1,h.ρ _ _ a.1],fun x c=>?_⟩;rcases By.1 c with rfl|c
  ·exact⟨n,by simp,a.1⟩
  ·obtain⟨y,f,e⟩:=d x c;exact⟨y,by simp[f],e⟩
theorem Wl (h:L2 ren V V') {x y:AV} {v:Value} (b:Dj ren x y) (c:TX V x v):TX V' y v∧(∀t d,y=.p t d→(∀u i,x≠.p u i)→v.oneCell'=true→Bo V'.w V'.O t [v] d):=by
 unfold Dj at b;split at b
 ·have:=BA b;injection this with h1 f
  subst h1;cases f;exact⟨h.vrep c,fun _ _ _ z=>absurd rfl (z _ _)⟩
 ·have c:v=_:=c;subst c;have k:=b;have g:∀(O:Nat→Prop) (e:Ty),Bo V'.w O (.slice e) [.slice none 0 0] ([]:List e.den):=fun O e=>⟨none,0,rfl,by simp,by simp[AO],.inl rfl⟩;rename_i e i;have k:i=([]:List e.den):=k;subst k;refine⟨⟨_,g _ _,rfl⟩,fun t d a _ _=>?_⟩;injection a with h1 f
  subst h1;cases f;exact g _ _
 ·subst b;exact⟨c,fun t d a=>by cases a⟩
 ·rename_i m e lo hi;obtain⟨h1,rfl,rfl⟩:=b;have c:v=_:=c;subst c;refine⟨⟨h.L _ _ h1,?_⟩,fun t d a=>by cases a⟩;rw[h.nil _ h1];exact⟨none,0,0,rfl,by omega,by omega,none,0,rfl,by omega,fun _=>⟨rfl,rfl⟩,fun h=>by omega⟩
 ·obtain⟨h1,rfl,rfl,rfl⟩:=b;refine⟨⟨h.L _ _ h1,?_⟩,fun t d a=>by cases a⟩;rw[h.ρ _ _ h1];exact c.2
 ·have:=BA b;injection this with h1 f
  subst h1;cases f;obtain⟨ad,cs,a,o,q,g⟩:=c;exact⟨⟨ad,cs,a,h.O _ o,fun j u r=>by rw[h.w];exact q j u r,h.rep g⟩,fun t d a=>by cases a⟩
 ·obtain⟨h1,rfl,rfl⟩:=b;refine⟨⟨h.L _ _ h1,?_⟩,fun t d a=>by cases a⟩;rw[h.ρ _ _ h1];exact c.2
 ·subst b;exact⟨c,fun t d a=>by cases a⟩
 ·obtain⟨rfl,s⟩:=b;obtain⟨h1,f⟩:=h.map s;refine⟨⟨?_,fun m b=>?_⟩,fun t d a=>by cases a⟩
  ·rw[h1];exact c.1
  ·obtain⟨n,hn,l⟩:=f m b;refine⟨h.L _ _ l,?_⟩;rw[h.ρ _ _ l];exact(c.2 n hn).2
 ·refine⟨⟨h.L _ _ b,?_⟩,fun t d a=>by cases a⟩;rw[h.ρ _ _ b];exact c.2
 ·refine⟨⟨h.L _ _ b,?_⟩,fun t d a=>by cases a⟩;rw[h.ρ _ _ b];exact c.2
 ·exact⟨trivial,fun t d a=>by cases a⟩
 ·exact b.elim
theorem sL (h:L2 ren V V') {x y:AV} {cs:List Value} (f:x.cells=y.cells) (b:Dj ren x y) (a:NS V x cs):NS V' y cs:=by
 by_cases hp:∃t d,x=.p t d
 ·obtain⟨t,d,rfl⟩:=hp;have a:Bo V.w V.O t cs d:=a;cases y<;>simp only[Dj]at b<;>try exact b.elim
  ·have:=BA b;injection this with h1 c
   subst h1;cases c;exact h.rep a
  ·have g:=a.length;simp only[AV.cells]at f;rw[f]at g;obtain⟨v,rfl⟩:=AAV.1 g;exact⟨v,rfl,a.one v (by simp),trivial⟩
 ·have l:∃v,cs=[v]∧v.oneCell'=true∧TX V x v:=by
   cases x;case p t d=>exact absurd ⟨t,d,rfl⟩ hp
   all_goals exact a
  obtain⟨v,rfl,h1,c⟩:=l;obtain⟨j,k⟩:=Wl h b c;cases y;case p t d=>exact k t d rfl (fun u i e=>hp ⟨u,i,e⟩) h1
  all_goals exact⟨v,rfl,h1,j⟩
theorem OE (h:L2 ren V V'):∀ {l r:List AV} {cs:List Value},Em ren l r→DX V l cs→DX V' r cs
 | [],[],cs,_,b=>b
 | [],_ :: _,cs,a,_=>a.elim
 | _ :: _,[],cs,a,_=>a.elim
 | x :: l,y :: r,cs,a,b=>by
  obtain⟨c1,c2,rfl,h1,c⟩:=b;exact⟨c1,c2,rfl,sL h a.1.1 a.1.2 h1,OE h a.2 c⟩
theorem La:∀ {l r:List AV},Em ren l r→l.length=r.length
 | [],[],_=>rfl
 | [],_ :: _,a=>a.elim
 | _ :: _,[],a=>a.elim
 | _ :: _,_ :: _,a=>by simp[La a.2]
theorem Wm (h:L2 ren V V') {x y:AV} {v:Value} (a:HI ren x y) (b:Rr V x v):Rr V' y v:=by
 cases x;case ag l =>
  cases y;case ag r =>
   obtain⟨cs,e,h1⟩:=b;exact⟨cs,e,OE h a h1⟩
  all_goals simp only[HI,Dj]at a
  all_goals first|exact a.elim|exact trivial
 all_goals
  simp only[Rr]at b;have a:Dj ren _ y:=a;exact Rr.of1 (Wl h a b).1
theorem Z9 (h:L2 ren V V'):∀ {l r:List AV} {b:List Value},Hn ren l r→J7 V l b→J7 V' r b
 | [],[],b,_,c=>c
 | [],_ :: _,b,a,_=>a.elim
 | _ :: _,[],b,a,_=>a.elim
 | x :: l,y :: r,b,a,c=>by
  obtain⟨v,e,rfl,h1,d⟩:=c;exact⟨v,e,rfl,Wm h a.1 h1,Z9 h a.2 d⟩
theorem Mw (h:L2 ren V V') {x y:AV} {v:Value} (a:Bc ren x y) (b:B0 V x v):B0 V' y v:=by
 cases x;case tup l =>
  cases y;case tup r =>
   obtain⟨c,e,h1⟩:=b;exact⟨c,e,Z9 h a h1⟩
  all_goals simp only[Bc,HI,Dj]at a
  all_goals first|exact a.elim|exact trivial
 all_goals
  simp only[Bc]at a;exact wD (Wm h a b)
theorem DP {objs:List (Nat×Obj)} {m:Nat} {o:Obj}:∀ {l:List (Nat×Obj)},Ab objs ren l→lk m l=some o→F4 objs ren o (lk m ren)
 | (j,x) :: l,h,a=>by
  simp only[lk]at a;split at a
  ·rename_i e;cases a;subst e;exact h.1
  ·exact DP h.2 a
theorem L3 {env:List (Nat×AV)} {s:Nat} {y:AV}:∀ {l:List (Nat×AV)},FH env ren l→lk s l=some y→Jo ren (lk s env) y
 | (j,x) :: l,h,a=>by
  simp only[lk]at a;split at a
  ·rename_i e;cases a;subst e;exact h.1
  ·exact L3 h.2 a
theorem Sy:∀ {l:List (Nat×Bw)} {m c n:Nat},B8 l=true→lk m l=some (.nm n)→lk c l=some (.nm n)→m=c
 | (j,f) :: l,m,c,n,b,h1,a=>by
  simp only[lk]at h1 a;have i:B8 l=true:=by
   cases f<;>simp only[B8,AT]at b
   ·exact b.2
   ·exact b
  have d:∀q,f=.nm n→lk q l=some (.nm n)→False:=by
   intro q hf h;subst hf;simp only[B8,AT,GO]at b;have:=b.1 _ (F2 h);simp at this
  split at h1
  ·rename_i e;cases h1;split at a
   ·rename_i g;rw[e,g]
   ·exact(d _ rfl a).elim
  ·split at a
   ·cases a;exact(d _ rfl h1).elim
   ·exact Sy i h1 a
def A5Y (n:Nat):Option Bw→Bool
 | some (.nm m)=>m==n
 | _=>false
def A5Z (pin:List (Nat×Value)) (ren:List (Nat×Bw)):Bool:=pin.all fun p=>A5Y p.1 (lk p.1 ren)
theorem Qx {V V':Vw} (a:L2 ren V V') {P:List (Nat×Obj)} (ag:∀n x,lk n P=some x→A3 V x (V.ρ n)) {o:Obj} {m:Nat} (hf:F4 P ren o (lk m ren)):A3 V' o (V'.ρ m):=by
 cases J:lk m ren with
 | none=>rw[J]at hf;exact hf.elim
 | some f =>
  rw[J]at hf;cases f with
  | nil =>
   rw[a.nil m J];cases o with
   | box et st fs=>exact hf.elim
   | mapo k v l=>exact hf.elim
   | frame t fs=>exact hf.elim
   | loop L=>exact hf.elim
   | itr B E C D A=>exact hf.elim
   | dfr=>exact hf.elim
   | nest et aj k e ys H =>
    have hf:ys=([]:List (k.den×List e.den)):=hf;subst hf;exact⟨_,[],[],.inr ⟨rfl,rfl,rfl⟩,by simp[AO],rfl,ABz _ 0 et _,fun i x u h=>by simp at h,fun i j b u v h=>by simp at h,fun i b u h=>by simp at h⟩
   | arr et e ys =>
    have hf:ys=([]:List e.den):=hf;subst hf;exact⟨by simp[AO],[],ABz _ 0 et e.size,Hw _ _ _ _⟩
  | nm n =>
   rw[a.ρ m n J];simp only[F4]at hf;cases hn:lk n P with
   | none=>rw[hn]at hf;simp only[HJ]at hf
   | some x =>
    rw[hn]at hf;have q:=ag n x hn;cases x with
    | arr et e xs =>
     cases o with
     | box c st fs=>exact hf.elim
     | mapo k v l=>exact hf.elim
     | frame t fs=>exact hf.elim
     | loop L=>exact hf.elim
     | itr B E C D A=>exact hf.elim
     | dfr=>exact hf.elim
     | nest _ _ _ _ _ _=>exact hf.elim
     | arr c p ys =>
      obtain⟨rfl,g⟩:=hf;obtain⟨rfl,d⟩:=Bi g;cases d;obtain⟨ae,cells,af,ab⟩:=q;refine⟨ae,cells,by rw[a.w];exact af,fun i z hi=>?_⟩;obtain⟨K,S,T,U⟩:=ab i z hi;exact⟨K,S,T,a.rep U⟩
    | box et st fs =>
     cases o with
     | arr c p ys=>exact hf.elim
     | mapo k v l=>exact hf.elim
     | frame t fs=>exact hf.elim
     | loop L=>exact hf.elim
     | itr B E C D A=>exact hf.elim
     | dfr=>exact hf.elim
     | nest _ _ _ _ _ _=>exact hf.elim
     | box c aw W =>
      obtain⟨rfl,rfl,G⟩:=hf;obtain⟨h0,b,cs,F,hh,aa⟩:=q;exact⟨fun ah=>by rw[←La G];exact h0 ah,b,cs,F,by rw[a.w];exact hh,OE a G aa⟩
    | nest et aj k e xs h =>
     cases o with
     | nest c ar Q p ys aq =>
      obtain⟨⟨rfl,rfl,rfl⟩,g⟩:=hf;have g:=BA g;injection g with h1 y
      injection h1 with h1
      injection h1 with h1 d
      injection d with d
      subst h1;subst d;cases y;exact r9 a.w a.O q
     | mapo k v l=>exact hf.elim
     | box c st fs=>exact hf.elim
     | arr c p ys=>exact hf.elim
     | frame t fs=>exact hf.elim
     | loop L=>exact hf.elim
     | itr B E C D A=>exact hf.elim
     | dfr=>exact hf.elim
    | mapo k v l =>
     cases o with
     | mapo Q an l' =>
      have g:=BA hf;injection g with h1 y
      injection h1 with h1
      injection h1 with h1 d
      subst h1;subst d;cases y;obtain⟨b,K,cl,F,hh,ad,Z⟩:=q;exact⟨b,K,cl,F,by rw[a.w];exact hh,ad.mono (fun b _ M=>a.O b M) (fun b _ _=>by rw[a.w]),Z⟩
     | box c st fs=>exact hf.elim
     | arr c p ys=>exact hf.elim
     | frame t fs=>exact hf.elim
     | loop L=>exact hf.elim
     | itr B E C D A=>exact hf.elim
     | dfr=>exact hf.elim
     | nest _ _ _ _ _ _=>exact hf.elim
    | frame t fs =>
     cases o with
     | frame ax W =>
      obtain⟨rfl,G⟩:=hf;obtain⟨h0,h1⟩:=q;refine⟨h0,fun s v ai=>?_⟩;have I:=L3 G ai;cases N:lk s fs with
      | none =>
       rw[N]at I;cases v<;>simp only[Jo]at I;exact trivial
      | some x =>
       rw[N]at I;exact Mw a I (h1 s x N)
     | mapo k v l=>exact hf.elim
     | box c st fs=>exact hf.elim
     | arr c p ys=>exact hf.elim
     | loop L=>exact hf.elim
     | itr B E C D A=>exact hf.elim
     | dfr=>exact hf.elim
     | nest _ _ _ _ _ _=>exact hf.elim
    | itr k v l au ao =>
     cases o with
     | itr Q an l' av ap =>
      obtain⟨hf,rfl,rfl⟩:=hf;have g:=BA hf;injection g with h1 y
      injection h1 with h1
      injection h1 with h1 d
      subst h1;subst d;cases y;obtain⟨r,F,b,ak,cl,am,al,h1,y,d,X,Y⟩:=q;exact⟨r,F,b,ak,cl,am,al,by rw[a.w];exact h1,a.O b y,by rw[a.w];exact d,X.mono (fun b _ M=>a.O b M) (fun b _ _=>by rw[a.w]),Y⟩
     | mapo k v l=>exact hf.elim
     | box c st fs=>exact hf.elim
     | arr c p ys=>exact hf.elim
     | frame t fs=>exact hf.elim
     | loop L=>exact hf.elim
     | dfr=>exact hf.elim
     | nest _ _ _ _ _ _=>exact hf.elim
    | loop L =>
     cases o with
     | loop R =>
      have hf:L=R:=hf;subst hf;obtain⟨b,H,hh⟩:=q;exact⟨b,H,by rw[a.w];exact hh⟩
     | itr B E C D A=>exact hf.elim
     | mapo k v l=>exact hf.elim
     | box c st fs=>exact hf.elim
     | arr c p ys=>exact hf.elim
     | frame t fs=>exact hf.elim
     | dfr=>exact hf.elim
     | nest _ _ _ _ _ _=>exact hf.elim
    | dfr =>
     cases o with
     | dfr =>
      obtain⟨b,H,hh⟩:=q;exact⟨b,H,by rw[a.w];exact hh⟩
     | nest _ _ _ _ _ _=>exact hf.elim
     | mapo k v l=>exact hf.elim
     | box c st fs=>exact hf.elim
     | arr c p ys=>exact hf.elim
     | frame t fs=>exact hf.elim
     | loop L=>exact hf.elim
     | itr B E C D A=>exact hf.elim
def CS (objs:List (Nat×Obj)) (ren:List (Nat×Bw)):Bool:=ren.all fun p=>(lk p.1 objs).isSome
theorem AC {c:Cx} {σ σ':St} (ren:List (Nat×Bw)) (h1:B8 ren=true) (t:CS σ'.objs ren=true) (A:Ab σ.objs ren σ'.objs) (H:FH σ.env ren σ'.env) (hp:A5Z c.ds.pin ren=true:=by rfl):Ent c σ σ':=by
 rintro a w ⟨ρ,hs⟩
 let ρ':Nat→Value:=fun m=>match lk m ren with|some (.nm n)=>ρ n|_=>.slice none 0 0
 have q:∀m n,lk m ren=some (.nm n)→ρ' m=ρ n:=fun m n d=>by simp[ρ',d]
 have z:∀m,lk m ren=some .nil→ρ' m=.slice none 0 0:=fun m d=>by simp[ρ',d]
 have u:∀m f,lk m ren=some f→Gn σ' m:=fun m f d=>by
  simp only[CS,GO]at t;have:=t _ (F2 d);exact ABa.1 this
 have k:∀m b,Gn σ' m→bk (ρ' m) b→∃n,lk m ren=some (.nm n)∧Gn σ n∧bk (ρ n) b:=by
  rintro m b ⟨o,d⟩ e;have hf:=DP A d;cases j:lk m ren with
  | none=>rw[j]at hf;exact hf.elim
  | some f =>
   cases f with
   | nil=>rw[z m j]at e;simp[bk,blk]at e
   | nm n =>
    rw[j]at hf;rw[q m n j]at e;refine⟨n,rfl,?_,e⟩;cases hn:lk n σ.objs with
    | none=>simp only[F4,hn,HJ]at hf
    | some x=>exact⟨x,hn⟩
 have y:L2 ren (vw w c.O0 σ ρ) (vw w c.O0 σ' ρ'):=by
  refine⟨rfl,fun b e l=>?_,q,z,u⟩;rcases l with h0|⟨m,h,d⟩
  ·exact e (.inl h0)
  ·obtain⟨n,_,hn,g⟩:=k m b h d;exact e (.inr ⟨n,hn,g⟩)
 refine⟨ρ',hs.frm,hs.nt,hs.defers,fun p B=>?_,fun m o d=>?_,fun m b h e=>?_,fun m L b h I e l=>?_,fun s v K=>?_⟩
 ·obtain⟨N,C,D⟩:=hs.pin p B;simp only[A5Z,GO]at hp;have i:=hp p B;unfold A5Y at i;split at i
  ·rename_i n hn;have:n=p.1:=by simpa using i
   subst this;exact⟨u _ _ hn,(q _ _ hn).trans C,D⟩
  ·cases i
 ·exact Qx y hs.objs (DP A d)
 ·obtain⟨n,_,hn,g⟩:=k m b h e;exact hs.free n b hn g
 ·obtain⟨n,E,hn,g⟩:=k m b h e;obtain⟨M,F,J,G⟩:=k L b I l;have:=hs.dist n M b hn J g G;subst this;exact Sy h1 E F
 ·have d:=L3 H K;cases r:lk s σ.env with
  | none =>
   rw[r]at d;cases v<;>simp only[Jo]at d;exact trivial
  | some x =>
   rw[r]at d;exact Mw y d (hs.env s x r)
end
end
section
open Go
theorem Fg (b:Bool):Qp true (some (.p .bool b))=some b:=by cases b<;>rfl
theorem Ex (b:Bool):Qp false (some (.p .bool b))=some (!b):=by cases b<;>rfl
theorem Kz:IntKind.i64.min=-9223372036854775808:=by decide
theorem K0:IntKind.i64.max=9223372036854775807:=by decide
theorem K2:IntKind.u64.min=0:=by decide
theorem K3:IntKind.u64.max=18446744073709551615:=by decide
theorem OG:IntKind.u8.min=0:=by decide
theorem OH:IntKind.u8.max=255:=by decide
theorem JC (n:Int):LU .i64 n↔-9223372036854775808≤n∧n≤9223372036854775807:=by unfold LU;rw[Kz,K0]
theorem Ho (n:Int):LU .u64 n↔0≤n∧n≤18446744073709551615:=by unfold LU;rw[K2,K3]
theorem Qy (n:Int):LU .u8 n↔0≤n∧n≤255:=by unfold LU;rw[OG,OH]
theorem Mx {α:Type} (x:α):sub [x] 0 1=[x]:=rfl
theorem Gx {α:Type} (xs:List α) (n:Nat):sub xs 0 n=xs.take n:=by simp[sub]
theorem sM (n:Nat):((n:Int)).toNat=n:=bY n
theorem Ey (n:Nat):(0≤(n:Int))=True:=eq_true (AA3 n)
end
section
open Go Go.RowKit
section
variable {tb:Tb} {σ σ':St}
def Ya (σ σ':St):Prop:=∀n o,lk n σ.objs=some o→lk n σ'.objs=some o
theorem w9 (h:Ya σ σ') {e:Ty} {lo hi n:Nat} {d:List e.den} (hs:Oz e lo hi (lk n σ.objs)=some d):Oz e lo hi (lk n σ'.objs)=some d:=by
 cases hn:lk n σ.objs with
 | none=>rw[hn]at hs;simp[Oz]at hs
 | some o=>rw[h n o hn,←hn];exact hs
theorem sN (h:Ya σ σ') {e:Ty} {i n:Nat} {d:List e.den} (hs:O2 e i (lk n σ.objs)=some d):O2 e i (lk n σ'.objs)=some d:=by
 cases hn:lk n σ.objs with
 | none=>rw[hn]at hs;simp[O2]at hs
 | some o=>rw[h n o hn,←hn];exact hs
theorem Hx (h:Ya σ σ') {l:Bool} {t:Ty} {x:AV} {d:t.den} (hs:EO l σ t x=some d):EO l σ' t x=some d:=by
 unfold EO at hs ⊢;split at hs
 ·exact hs
 ·split at hs
  ·rename_i a;rw[At a];exact w9 h hs
  ·cases hs
 ·split at hs
  ·rename_i a;rw[At a];exact sN h hs
  ·cases hs
 ·exact hs
 ·cases hs
theorem Wn (h:Ya σ σ') {l:Bool}:∀ {fs:List AV} {t:Ty} {d:t.den},J4 l σ fs t=some d→J4 l σ' fs t=some d
 | [],t,d,hs=>by simp[J4]at hs
 | [x],t,d,hs=>by
  simp only[J4]at hs ⊢;exact Hx h hs
 | x :: y :: r,t,d,hs=>by
  cases t<;>simp only[J4]at hs ⊢<;>try(cases hs;done)
  rename_i a b;cases h1:EO l σ a x with
  | none=>rw[h1]at hs;simp[LV]at hs
  | some e =>
   cases c:J4 l σ (y :: r) b with
   | none=>rw[h1,c]at hs;simp[LV]at hs
   | some f =>
    rw[Hx h h1,Wn h c];rw[h1,c]at hs;exact hs
theorem FI (h:Ya σ σ') {l:Bool} {t:Ty} {x:AV} {d:t.den} (hs:Kk l σ t x=some d):Kk l σ' t x=some d:=by
 unfold Kk at hs ⊢;split at hs
 ·exact Wn h hs
 ·exact Hx h hs
def Ops (σ σ':St) (xs:List Operand):Prop:=∀x∈xs,∀v,Ah σ x=some v→Ah σ' x=some v
theorem L4 (h:Ya σ σ') {e:Ty} {x:AV} {d:List e.den} (hs:Ov σ e x=some d):Ov σ' e x=some d:=by
 unfold Ov at hs ⊢;split at hs
 ·rename_i n a lo hi;cases hn:lk n σ.objs with
  | none =>
   rw[hn]at hs;have hs:EO true σ (.slice e) (.sr n a lo hi)=some d:=by simpa[Cb,Kk] using hs
   simp only[EO,hn]at hs;split at hs<;>simp[Oz]at hs
  | some o =>
   rw[h n o hn];rw[hn]at hs;split at hs
   ·cases hs
   ·rename_i b;rw[As b];exact FI h hs
 ·exact FI h hs
theorem Tl (h:Ya σ σ') {l:Bool}:∀ {ts:List Ty} {xs:List Operand} {ds:Kj ts},Ops σ σ' xs→Fy l σ ts xs=some ds→Fy l σ' ts xs=some ds
 | [],[],ds,_,hs=>hs
 | [],_ :: _,ds,_,hs=>by simp[Fy]at hs
 | _ :: _,[],ds,_,hs=>by simp[Fy]at hs
 | t :: ts,x :: xs,ds,b,hs=>by
  simp only[Fy]at hs ⊢;cases a:Ah σ x with
  | none=>rw[a]at hs;cases hs
  | some v =>
   rw[b x (by simp) v a];rw[a]at hs;simp only at hs ⊢;split at hs
   ·rename_i y ys c d;rw[FI h c,Tl h (fun z e=>b z (by simp[e])) d];exact hs
   ·cases hs
theorem R9 (h:Ya σ σ') {e:Ty}:∀ {parts:List (Nat×Operand)} {k:Nat} {xs:List e.den},Ops σ σ' (parts.map (·.2))→Eg σ e k parts=some xs→Eg σ' e k parts=some xs
 | [],k,xs,_,hs=>hs
 | (i,x) :: r,k,xs,b,hs=>by
  simp only[Eg]at hs ⊢;split at hs
  ·rename_i d;rw[At d];cases a:Ah σ x with
   | none=>rw[a]at hs;cases hs
   | some v =>
    rw[b x (by simp) v a];rw[a]at hs;simp only at hs ⊢;split at hs
    ·rename_i y ys f g;rw[FI h f,R9 h (fun z c=>b z (by simp at c ⊢;exact .inr c)) g];exact hs
    ·cases hs
  ·cases hs
theorem aA (h:Ya σ σ') {z:Option AV} {x:Operand} {v:AV} (f:∀v,Ah σ x=some v→Ah σ' x=some v) (hs:K1 σ z (Ah σ x)=some v):K1 σ' z (Ah σ' x)=some v:=by
 cases b:Ah σ x with
 | none=>rw[b]at hs;unfold K1 at hs;split at hs<;>simp at *
 | some a =>
  rw[f a b];rw[b]at hs;unfold K1 at hs ⊢;split at hs
  ·rename_i t _ l e;cases e;simp only[NO]at hs ⊢;obtain⟨d,c,rfl⟩:=hs;exact⟨d,FI h c,rfl⟩
  ·exact hs
theorem Pa (h:Ya σ σ') {offs:List (Nat×Nat)}:∀ {parts:List (Nat×Operand)} {fs a:List AV},Ops σ σ' (parts.map (·.2))→Dg σ offs fs parts=some a→Dg σ' offs fs parts=some a
 | [],fs,a,_,hs=>hs
 | (i,x) :: r,fs,a,c,hs=>by
  simp only[Dg]at hs ⊢;cases b:K1 σ fs[i]? (Ah σ x) with
  | none=>rw[b]at hs;cases hs
  | some v =>
   rw[aA h (c x (by simp)) b];rw[b]at hs;simp only at hs ⊢;split at hs
   ·rename_i e;rw[At e];exact Pa h (fun z d=>c z (by simp at d ⊢;exact .inr d)) hs
   ·cases hs
theorem Tm:∀ {xs:List Operand} {ns:List Nat},Ops σ σ' xs→HV σ xs=some ns→HV σ' xs=some ns
 | [],ns,_,hs=>hs
 | x :: r,ns,a,hs=>by
  simp only[HV]at hs ⊢;split at hs
  ·rename_i n d h1 b;rw[a x (by simp) _ h1,Tm (fun z c=>a z (by simp[c])) b];exact hs
  ·cases hs
theorem Sz (h:Ya σ σ') {d:Nat} {op:Op} {r:Prop×AV×List (Nat×Obj)} (p:Ops σ σ' op.operands.toList) (hs:aq tb σ d op=some r):aq tb σ' d op=some r:=by
 have one:∀ {x:Operand} {f:Option AV→BZ},x∈op.operands.toList→f none=none→f (Ah σ x)=some r→f (Ah σ' x)=some r:=by
  intro x f j hn hf;cases q:Ah σ x with
  | none=>rw[q,hn]at hf;cases hf
  | some v=>rw[p x j v q,←q];exact hf
 have J:∀ {x y:Operand} {f:Option AV→Option AV→BZ},x∈op.operands.toList→y∈op.operands.toList→(∀b,f none b=none)→(∀a,f a none=none)→f (Ah σ x) (Ah σ y)=some r→f (Ah σ' x) (Ah σ' y)=some r:=by
  intro x y f j C h1 F hf;cases q:Ah σ x with
  | none=>rw[q,h1]at hf;cases hf
  | some v =>
   cases H:Ah σ y with
   | none=>rw[H,F]at hf;cases hf
   | some w=>rw[p x j v q,p y C w H,←q,←H];exact hf
 cases op<;>simp only[aq]at hs ⊢<;>try(cases hs;done)
 case move x=>exact one (f:=GT) (by simp[Op.operands]) rfl hs
 case assign x=>exact one (f:=GT) (by simp[Op.operands]) rfl hs
 case pick c x y =>
  cases D:Ah σ c with
  | none=>rw[D]at hs;simp[J5]at hs
  | some Y =>
   have Z:=p c (by simp[Op.operands]) Y D;rw[D]at hs;rw[Z];unfold J5 at hs ⊢;split at hs
   ·rename_i E;cases E;exact one (f:=GT) (by simp[Op.operands]) rfl hs
   ·rename_i E;cases E;exact one (f:=GT) (by simp[Op.operands]) rfl hs
   ·cases hs
 case alloc t=>exact hs
 case box t x=>exact one (f:=Qn d t (lk t tb.ty)) (by simp[Op.operands]) (by cases lk t tb.ty<;>simp[Qn]) hs
 case build t parts =>
  unfold H5 at hs ⊢;split at hs
  ·rename_i u offs el b E;cases hp:Dg σ offs (oK u) parts.toList with
   | none=>rw[hp]at hs;simp[GT]at hs
   | some fs =>
    rw[Pa h (by simpa[Op.operands] using p) hp];rw[hp]at hs;exact hs
  ·cases hs
 case buildSlice t n parts =>
  cases T:lk d tb.nests with
  | some ak =>
   rw[T]at hs;simp only[Fz]at hs ⊢;unfold H7 at hs ⊢;split at hs
   ·rename_i x am offs el b hp E;cases j:Ah σ x with
    | none=>rw[j]at hs;unfold H6 at hs;split at hs<;>first|(cases hs;done)|(rename_i F;cases F)
    | some av =>
     rw[p x (by simp[Op.operands,hp]) av j];rw[j]at hs;unfold H6 at hs ⊢;split at hs
     ·rename_i k e ap ar aj;unfold Jc at hs;split at hs
      ·rename_i a0 N;rw[Hx h N];exact hs
      ·rename_i a0 ai l N;split at hs
       ·rename_i P;rw[Hx h N];simp only[Jc,P,AAH];exact hs
       ·cases hs
      ·cases hs
     ·cases hs
   ·cases hs
  | none =>
  rw[T]at hs;simp only[Fz]at hs ⊢;unfold BP at hs ⊢;split at hs
  ·rename_i e offs el b E;cases hp:Eg σ e 0 parts.toList with
   | none=>rw[hp]at hs;simp[BV]at hs
   | some xs =>
    rw[R9 h (by simpa[Op.operands] using p) hp];rw[hp]at hs;exact hs
  ·cases hs
 case load t x =>
  cases j:Ah σ x with
  | none=>rw[j]at hs;simp[I5]at hs
  | some v =>
   rw[p x (by simp[Op.operands]) v j];rw[j]at hs;unfold I5 at hs ⊢;split at hs
   ·rename_i ti n ag off M G;cases hn:lk n σ.objs with
    | none=>rw[hn]at hs;simp[EP]at hs
    | some o=>rw[h n o hn,←hn];exact hs
   ·rename_i ti n e i ag off M G;cases hn:lk n σ.objs with
    | none=>rw[hn]at hs;simp[ER]at hs
    | some o=>rw[h n o hn,←hn];exact hs
   ·exact hs
   ·cases hs
 case nilCheck x=>exact one (f:=Se) (by simp[Op.operands]) (by simp[Se]) hs
 case binOp op t x y al=>exact J (f:=O5 op (lk t tb.ty)) (by simp[Op.operands]) (by simp[Op.operands]) (fun b=>by simp[O5]) (fun a=>by cases a<;>simp[O5]) hs
 case unOp op t x=>exact one (f:=v4 op) (by simp[Op.operands]) (by cases op<;>simp[v4]) hs
 case convert s t x=>exact one (f:=I7 (lk s tb.ty) (lk t tb.ty)) (by simp[Op.operands]) (by cases lk s tb.ty<;>cases lk t tb.ty<;>simp[I7]) hs
 case makeSlice t l c=>exact J (f:=H8 tb d (lk t tb.ty)) (by simp[Op.operands]) (by simp[Op.operands]) (fun b=>by cases lk t tb.ty<;>simp[H8]) (fun a=>by cases lk t tb.ty<;>simp[H8]) hs
 case slice t x lo hi af =>
  cases af with
  | some m =>
   cases lo with
   | some _=>cases hi<;>simp[aq]at hs
   | none =>
    cases hi with
    | none=>simp[aq]at hs
    | some h1 =>
     simp only[aq]at hs ⊢;cases j:Ah σ x with
     | none=>rw[j]at hs;cases A:lk t tb.ty<;>rw[A]at hs<;>simp[Dh]at hs
     | some v =>
      cases hh:Ah σ h1 with
      | none=>rw[j,hh]at hs;cases A:lk t tb.ty<;>rw[A]at hs<;>simp[Dh]at hs
      | some q =>
       cases S:Ah σ m with
       | none=>rw[j,hh,S]at hs;cases A:lk t tb.ty<;>rw[A]at hs<;>simp[Dh]at hs
       | some ae =>
        rw[p x (by simp[Op.operands]) v j,p h1 (by simp[Op.operands]) q hh,p m (by simp[Op.operands]) ae S];rw[j,hh,S]at hs;exact hs
  | none =>
   simp only[aq]at hs ⊢;have W:∀ {y:Option Operand},(∀z,y=some z→z∈(Op.slice t x lo hi none).operands.toList)→∀w,GJ σ y=some w→GJ σ' y=some w:=by
    intro y C w H;cases y with
    | none=>exact H
    | some z =>
     simp only[GJ,NO]at H ⊢;obtain⟨v,q,rfl⟩:=H;exact⟨v,p z (C z rfl) v q,rfl⟩
   cases j:Ah σ x with
   | none=>rw[j]at hs;cases A:lk t tb.ty<;>rw[A]at hs<;>simp[E9]at hs
   | some v =>
    cases h1:GJ σ lo with
    | none=>rw[h1]at hs;cases A:lk t tb.ty<;>rw[A]at hs<;>simp[E9]at hs
    | some a =>
     cases F:GJ σ hi with
     | none=>rw[F]at hs;cases A:lk t tb.ty<;>rw[A]at hs<;>simp[E9]at hs
     | some b =>
      rw[p x (by simp[Op.operands]) v j,W (by rintro z rfl;simp[Op.operands]) a h1,W (by rintro z rfl;simp[Op.operands]) b F];rw[j,h1,F]at hs;exact hs
 case fieldAddr s x f=>exact one (f:=GU f (lk s tb.ty)) (by simp[Op.operands]) (by cases lk s tb.ty<;>simp[GU]) hs
 case indexAddr t x i=>exact J (f:=FT (lk t tb.ty)) (by simp[Op.operands]) (by simp[Op.operands]) (fun b=>by cases lk t tb.ty<;>simp[FT]) (fun a=>by cases lk t tb.ty<;>simp[FT]) hs
 case index t x i=>exact J (f:=Ds (lk t tb.ty)) (by simp[Op.operands]) (by simp[Op.operands]) (fun b=>by cases lk t tb.ty<;>simp[Ds]) (fun a=>by cases lk t tb.ty<;>simp[Ds]) hs
 case extract x i=>exact one (f:=D9 i) (by simp[Op.operands]) (by simp[D9]) hs
 case makeFunc fn first X =>
  unfold WF at hs ⊢;split at hs
  ·rename_i f hf;cases D:HV σ X.toList with
   | none=>rw[D]at hs;simp[NZ]at hs
   | some ns =>
    rw[Tm (fun z I=>p z (by simp[Op.operands]at I ⊢;exact .inr I)) D];rw[D]at hs;exact hs
  ·cases hs
 case makeMap t res =>
  cases res with
  | some z=>simp[aq]at hs
  | none=>simp only[aq]at hs ⊢;exact hs
 case lookup t x i ok =>
  cases j:Ah σ x with
  | none=>rw[j]at hs;simp[IC]at hs
  | some xv =>
   cases hi:Ah σ i with
   | none=>rw[j,hi]at hs;simp[IC]at hs
   | some V =>
    rw[p x (by simp[Op.operands]) xv j,p i (by simp[Op.operands]) V hi];rw[j,hi]at hs;unfold IC at hs ⊢;split at hs
    ·rename_i k e _ _ n z M G ab;cases G;cases ab;cases hn:lk n σ.objs with
     | none=>rw[hn]at hs;simp[HG]at hs
     | some o =>
      rw[hn]at hs;rw[h n o hn];unfold HG at hs ⊢;split at hs
      ·rename_i ad ao l p;cases p;split at hs
       ·rename_i D;rw[At D];cases hk:Kk false σ ad V with
        | none=>rw[hk]at hs;simp[Jf]at hs
        | some kd=>rw[FI h hk];rw[hk]at hs;exact hs
       ·cases hs
      ·cases hs
    ·cases hs
 case call c =>
  obtain⟨callee,args,argTypes⟩:=c;have B:∀x∈args.toList,x∈(Op.call ⟨callee,args,argTypes⟩).operands.toList:=fun x j=>by
   have:x∈args:=by simpa using j
   cases callee<;>simp[Op.operands,Call.operands,this]
  cases callee with
  | invoke r m=>simp[Cc]at hs
  | value g =>
   simp only[Cc]at hs ⊢;cases Q:Ah σ g with
   | none=>rw[Q]at hs;simp[LW]at hs
   | some aa =>
    rw[p g (by simp[Op.operands,Call.operands]) aa Q];rw[Q]at hs;unfold LW at hs ⊢;split at hs
    ·rename_i f E;cases U:lk f tb.fns with
     | none=>rw[U]at hs;simp[IB]at hs
     | some sp =>
      rw[U]at hs;simp only[IB]at hs ⊢;cases O:Fy sp.lend σ sp.ins args.toList with
      | none=>rw[O]at hs;simp[Je]at hs
      | some ds =>
       rw[Tl h (fun x j=>p x (B x j)) O];rw[O]at hs;exact hs
    ·cases hs
  | builtin b =>
   simp only[Cc]at hs ⊢;obtain⟨args⟩:=args;obtain⟨argTypes⟩:=argTypes;simp only at hs B ⊢;unfold Cn at hs ⊢;split at hs
   ·exact one (f:=Qo (lk _ tb.ty)) (B _ (by simp)) (by cases lk _ tb.ty<;>simp[Qo]) hs
   ·rename_i x y t u;cases j:Ah σ x with
    | none=>rw[j]at hs;simp[CX]at hs
    | some xv =>
     cases C:Ah σ y with
     | none=>rw[j,C]at hs;simp[CX]at hs
     | some L =>
      rw[p x (B _ (by simp)) xv j,p y (B _ (by simp)) L C];rw[j,C]at hs;unfold CX at hs ⊢;split at hs
      ·split at hs
       ·rename_i K;simp only[K,AAH];rename_i M G;cases G;rw[K]at hs;cases A:lk u tb.ty with
        | none=>rw[A]at hs;simp[EA]at hs
        | some ti =>
         rw[A]at hs;unfold EA at hs ⊢;split at hs
         ·rename_i e offs el b E;cases q:Ov σ e L with
          | none=>rw[q]at hs;cases R:lk el tb.ty<;>rw[R]at hs<;>simp[Eh]at hs
          | some ys =>
           rw[q]at hs;rw[L4 h q];exact hs
         ·cases hs
       ·cases hs
      ·split at hs
       ·rename_i K;simp only[K,AAH];rename_i M G;cases G;rw[K]at hs;cases A:lk u tb.ty with
        | none=>rw[A]at hs;simp[H9]at hs
        | some ti =>
         rw[A]at hs;unfold H9 at hs ⊢;split at hs
         ·rename_i e offs el b E;split at hs
          ·rename_i P;simp only[P,AAH];cases q:Ov σ _ L with
           | none=>rw[q]at hs;cases R:lk el tb.ty<;>rw[R]at hs<;>simp[Jd]at hs
           | some ys =>
            rw[q]at hs;rw[L4 h q];exact hs
          ·cases hs
         ·cases hs
       ·cases hs
      ·cases hs
   ·exact J (f:=O6) (B _ (by simp)) (B _ (by simp)) (fun b=>by simp[O6]) (fun a=>by cases a<;>simp[O6]) hs
   ·exact J (f:=O7) (B _ (by simp)) (B _ (by simp)) (fun b=>by simp[O7]) (fun a=>by cases a<;>simp[O7]) hs
   ·rename_i x y z t u an;cases j:Ah σ x with
    | none=>rw[j]at hs;simp[IA]at hs
    | some xv =>
     cases C:Ah σ y with
     | none=>rw[j,C]at hs;simp[IA]at hs
     | some L =>
      cases I:Ah σ z with
      | none=>rw[j,C,I]at hs;simp[IA]at hs
      | some ah =>
       rw[p x (B _ (by simp)) xv j,p y (B _ (by simp)) L C,p z (B _ (by simp)) ah I,←j,←C,←I];exact hs
   ·cases hs
end
end
end Go.Proofs.YtdapahgnpbehbaaGreat.Fw
