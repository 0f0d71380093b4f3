/- One operation, a sequence, loops, the entry and the end of a function: the rules. -/
import Derived.Test.YtdapahgnpbehbaaGreatLZD
import Derived.Deep.LoopGhost
import Derived.ControlIn
set_option linter.unusedVariables false
set_option linter.unusedSimpArgs false
namespace Go.Proofs.YtdapahgnpbehbaaGreat.Fw
section
open Go Go.RowKit
abbrev ACm:=@Go.wpIn_region_list
abbrev ACV:=@Go.wpIn_mono
structure Cx where
 P:Program
 tb:Tb
 w0:World
 K:Nat→Prop
 O0:Nat→Prop
 nt:Nat
 
 ds:Fp:={}
 
 r:Option Nat:=none
structure Cx.Ok (c:Cx):Prop where
 K:∀b,c.K b→b<c.w0.heap.size
 O:∀b,c.O0 b→b<c.w0.heap.size
 T:DL c.P c.tb
 F:JM c.P c.tb
def Cx.sat (c:Cx) (σ:St) (a:Act) (w:World):Prop:=∃ρ,Bn c.w0 c.K c.O0 c.nt c.ds σ ρ a w
section
variable {c:Cx}
theorem A4f (hc:c.Ok) {σ:St} {ρ:Nat→Value} {a:Act} {w:World} (h:Bn c.w0 c.K c.O0 c.nt c.ds σ ρ a w):A7q c.P c.tb w c.O0 σ ρ a where
 hT:=hc.T
 hF:=hc.F
 obj:=h.objs
 own:=by
  intro b hb;rcases hb with h0|⟨n,⟨o,ho⟩,hb⟩
  ·exact AAJ (hc.O b h0) h.frm.size
  ·exact(h.objs n o ho).block_lt hb
 ev:=D5 h.env
theorem y5 (e:c.Ok) {σ σ':St} {ρ:Nat→Value} {a:Act} {w:World} (hs:Bn c.w0 c.K c.O0 c.nt c.ds σ ρ a w) {o:Oper} {vc:Prop} (h:FK c.tb σ o.dst o.op=some (vc,σ')) (k:vc) (j:∀d,o.dst=some d→d<c.nt)
  {next:Act→World→Prop} {Q:Exit→Act→World→Prop} (hn:∀i w',c.sat σ' i w'→next i w'):o.wpIn (FR c.r) 0 c.P a w next Q:=by
 obtain⟨dst,op,type,pos,after,guard⟩:=o;simp only at h j;cases op<;>simp only[FK]at h<;>try(cases h;done)
 case store t x y =>
  cases dst with
  | some d=>simp[Dl]at h
  | none =>
   simp only[Dl]at h;obtain⟨w',ρ',h1,f⟩:=lM (P:=c.P) hs e.K e.O e.T h k;exact qD (w':=w') (by simp[execOp,h1]) (hn _ _ ⟨ρ',f⟩)
 case mapUpdate t m x y =>
  cases dst with
  | some d=>simp[Dl]at h
  | none =>
   simp only[Dl]at h;obtain⟨w',h1,f⟩:=uA (P:=c.P) hs e.K e.T h;exact qD (w':=w') (by simp[execOp,h1]) (hn _ _ ⟨ρ,f⟩)
 case call cl =>
  obtain⟨callee,args,argTypes⟩:=cl;cases callee with
  | value g=>simp[DF]at h
  | invoke r m=>simp[DF]at h
  | builtin b =>
   simp only[DF]at h;obtain⟨args⟩:=args;obtain⟨argTypes⟩:=argTypes;simp only at h;unfold DT at h;split at h
   ·rename_i x y t u;obtain⟨z,w',ρ',h1,f⟩:=lL (P:=c.P) (ty:=type) hs e.K e.O e.T j h k;exact Aq (u:=z) (w':=w') (by simp[execOp,resolve,invoke,builtin,h1]) (hn _ _ ⟨ρ',f⟩)
   ·cases h
theorem Pd (b:c.Ok) {σ σ':St} {a:Act} {w:World} (hs:c.sat σ a w) {o:Oper} {vc:Prop} (h:F7 c.tb o σ=some (vc,σ')) (i:vc) (g:∀d,o.dst=some d→d<c.nt)
  {next:Act→World→Prop} {Q:Exit→Act→World→Prop} (hn:∀f w',c.sat σ' f w'→next f w'):o.wpIn (FR c.r) 0 c.P a w next Q:=by
 obtain⟨ρ,hs⟩:=hs;have hs:=K9 (l:=CG σ o.op) hs;unfold F7 Nl at h;generalize Ck (CG σ o.op) σ=k at h hs;cases e:aq c.tb k (o.dst.getD 0) o.op with
 | some r =>
  obtain⟨m,v,obs⟩:=r;rw[e]at h;simp only[KI]at h;split at h
  ·rename_i hf;cases h;exact qA (A4f b hs) e i hf fun u ρ' w' j=>hn _ _ ⟨ρ',hs.add b.K b.O g hf j⟩
  ·cases h
 | none =>
  rw[e]at h;exact y5 b hs h i g hn
theorem Hu {ops:Array Oper} {σ:St} {a:Act} {w:World} (hs:c.sat σ a w) {o:Oper} {b:Bool} (h:Ef ops.toList σ o.guard=some b):Region.wanted o (yielded ops a.tmps)=b:=by
 obtain⟨ρ,hs⟩:=hs;unfold Ef at h;split at h
 ·rename_i e;cases h;simp[Region.wanted,e]
 ·rename_i j q e;cases f:(ops.toList[j]?).bind (·.dst) with
  | none=>rw[f]at h;simp[Ju]at h
  | some g =>
   rw[f]at h;simp only[Ju]at h;cases i:lk g σ.env with
   | none=>rw[i]at h;simp[Qs]at h
   | some v =>
    rw[i]at h;unfold Qs at h;split at h
    ·rename_i l m;cases m;cases h;have d:=hs.env g _ i;have d:=EW d;have p:(ops[j]?).bind (·.dst)=some g:=by simpa using f
     have n:a.tmps[g]?=some (.bool l):=by
      by_cases k:g<a.tmps.size
      ·have:a.tmps.getD g undef=a.tmps[g]:=by simp[Array.getD,k]
       rw[this]at d;rw[AAD k,d]
      ·have:a.tmps.getD g undef=undef:=by simp[Array.getD,k]
       rw[this]at d;cases d
     simp only[Region.wanted,e,yielded,p,Option.bind_some,n];cases l<;>cases q<;>rfl
    ·cases h
theorem M4 {σ:St} {a:Act} {w:World} (b:c.Ok) (hs:c.sat σ a w) {dst:Option Nat} (e:∀d,dst=some d→d<c.nt):c.sat (σ.add (.raw undef) [] dst) (a.put dst undef) w:=by
 obtain⟨ρ,hs⟩:=hs;exact⟨ρ,hs.add b.K b.O e (by simp[Bd]) (QS.still rfl)⟩
def Hg (nt:Nat) (o:Oper):Bool :=
 match o.dst with
 | some d=>decide (d<nt)
 | none=>true
theorem Be {nt:Nat} {o:Oper} (h:Hg nt o=true):∀d,o.dst=some d→d<nt:=by grind [Hg]
theorem Qz (d:c.Ok) {ops:Array Oper} {Q:Exit→Act→World→Prop} {r:List Oper}:∀(l:List Oper) {σ σ':St} {vc:Prop} {a:Act} {w:World},c.sat σ a w→(∀o∈l,Hg c.nt o=true)→Br c.tb ops.toList l σ=some (vc,σ')→vc →
  (∀g w',c.sat σ' g w'→wpListIn (FR c.r) 0 c.P ops Q r g w')→wpListIn (FR c.r) 0 c.P ops Q (l++r) a w
 | [],σ,σ',vc,a,w,hs,e,h,f,i=>by grind [Br]
 | o :: l,σ,σ',vc,a,w,hs,e,h,f,i=>by
  simp only[Br]at h;cases j:Ef ops.toList σ o.guard with
  | none=>rw[j]at h;simp[evG]at h
  | some b =>
   rw[j]at h;have s:=Hu hs j;have q:=Be (e o (by simp));rw[ABz];unfold wpListIn;cases b with
   | true =>
    simp only[evG]at h;rw[BY s];cases n:F7 c.tb o σ with
    | none=>rw[n]at h;simp[evK]at h
    | some r =>
     obtain⟨x,v⟩:=r;rw[n]at h;simp only[evK]at h;cases m:Br c.tb ops.toList l v with
     | none=>rw[m]at h;simp[Te]at h
     | some u =>
      obtain⟨y,σ2⟩:=u;rw[m]at h;simp only[Te]at h;cases h;exact Pd d hs n f.1 q fun g w' t=>Qz d l t (fun p k=>e p (by simp[k])) m f.2 i
   | false =>
    simp only[evG]at h;rw[At (by simp[s])];refine⟨fun _ _=>trivial,?_⟩;exact Qz d l (M4 d hs q) (fun p k=>e p (by simp[k])) h f i
theorem Pe (e:c.Ok) {ops:Array Oper} {Q:Exit→Act→World→Prop}:∀(l:List Oper) {σ σ':St} {vc:Prop} {a:Act} {w:World},c.sat σ a w→(∀o∈l,Hg c.nt o=true)→Br c.tb ops.toList l σ=some (vc,σ')→vc →
  (∀i w',c.sat σ' i w'→Q .normal i w')→wpListIn (FR c.r) 0 c.P ops Q l a w
 | [],σ,σ',vc,a,w,hs,f,h,g,d=>by
  simp only[Br]at h;cases h;exact d _ _ hs
 | o :: l,σ,σ',vc,a,w,hs,f,h,g,d=>by
  simp only[Br]at h;cases j:Ef ops.toList σ o.guard with
  | none=>rw[j]at h;simp[evG]at h
  | some b =>
   rw[j]at h;have s:=Hu hs j;have q:=Be (f o (by simp));unfold wpListIn;cases b with
   | true =>
    simp only[evG]at h;rw[BY s];cases n:F7 c.tb o σ with
    | none=>rw[n]at h;simp[evK]at h
    | some r =>
     obtain⟨x,v⟩:=r;rw[n]at h;simp only[evK]at h;cases m:Br c.tb ops.toList l v with
     | none=>rw[m]at h;simp[Te]at h
     | some u =>
      obtain⟨y,σ2⟩:=u;rw[m]at h;simp only[Te]at h;cases h;exact Pd e hs n g.1 q fun i w' t=>Pe e l t (fun p k=>f p (by simp[k])) m g.2 d
   | false =>
    simp only[evG]at h;rw[At (by simp[s])];refine⟨fun _ _=>trivial,?_⟩;exact Pe e l (M4 e hs q) (fun p k=>f p (by simp[k])) h g d
end
end
section
open Go Go.RowKit
inductive Dp where
 | seq (c:Code)
 | blk (id:Nat)
 
 | inv (post:St→Prop)
def Bv (nt:Nat):Code→Bool
 | .region _ ops _=>ops.toList.all (Hg nt)
 | .seq a b=>Bv nt a&&Bv nt b
 | .cond _ a b=>Bv nt a&&Bv nt b
 | .block _ b=>Bv nt b
 | .loop b=>Bv nt b
 | .scope b=>Bv nt b
 | _=>true
def DG (nt:Nat):List Dp→Bool
 | []=>true
 | .seq c :: k=>Bv nt c&&DG nt k
 | _ :: k=>DG nt k
def Tt (c:Cx) (R:Exit→Act→World→Prop):List Dp→Exit→Act→World→Prop
 | [],e,a,w=>R e a w
 | .seq y :: k,.normal,a,w=>y.wpIn (FR c.r) 0 c.P (Tt c R k) a w
 | .seq _ :: k,e,a,w=>Tt c R k e a w
 | .blk id :: k,.exit b,a,w=>if b=id then Tt c R k .normal a w else Tt c R k (.exit b) a w
 | .blk _ :: k,e,a,w=>Tt c R k e a w
 | .inv post :: _,.normal,a,w=>∃σ,c.sat σ a w∧post σ
 | .inv _ :: k,e,a,w=>Tt c R k e a w
inductive qG where
 | run (cd:Code)
 | out (e:Exit)
def nwp (c:Cx) (R:Exit→Act→World→Prop) (k:List Dp):qG→Act→World→Prop
 | .run cd,a,w=>cd.wpIn (FR c.r) 0 c.P (Tt c R k) a w
 | .out e,a,w=>Tt c R k e a w
def JP (nt:Nat):qG→Bool
 | .run cd=>Bv nt cd
 | .out _=>true
def Ev (c:Cx) (R:Exit→Act→World→Prop) (n:qG) (k:List Dp) (σ:St):Prop :=
 JP c.nt n=true→DG c.nt k=true→∀a w,c.sat σ a w→nwp c R k n a w
theorem Sl {F:Fence} {j:Nat} {P:Program} {Q:Exit→Act→World→Prop} {a:Act} {w:World} {c:Code} (b:Nat→Act→World→Prop) (i:Nat) (o:b i a w)
  (round:∀n a w,b n a w→c.wpIn F j P (Exit.then (fun g w'=>∃f,f<n∧b f g w') Q) a w):(Code.loop c).wpIn F j P Q a w:=by
 refine wpIn_loop (fun a w=>∃n,b n a w) (fun a w=>leastOf (fun n=>b n a w)) ⟨i,o⟩ ?_;intro a w k;refine ACV (round _ a w (leastOf_spec k).1) ?_;intro e g w' d;cases e with
 | normal =>
  obtain⟨f,m,h⟩:=d;exact show (∃n,b n g w')∧leastOf (fun n=>b n g w')<leastOf (fun n=>b n a w) from ⟨⟨f,h⟩,ACx ((leastOf_spec ⟨f,h⟩).2 f h) m⟩
 | exit id=>exact d
 | goto l=>exact d
 | ret=>exact d
 | panic ch=>exact d
 | outgrown=>exact d
def y6 (c:Cx) (σ σ':St):Prop:=∀a w,c.sat σ a w→c.sat σ' a w
section
variable {c:Cx} {R:Exit→Act→World→Prop} {k:List Dp} {σ σ':St}
theorem Ev.ent {n:qG} (h:Ev c R n k σ') (d:y6 c σ σ'):Ev c R n k σ:=fun h1 b a w hs=>h h1 b a w (d a w hs)
theorem A6o {x y:Code} (h:Ev c R (.run x) (.seq y :: k) σ):Ev c R (.run (.seq x y)) k σ:=by
 intro h1 b a w hs;simp only[JP,Bv,As]at h1;refine wpIn_seq (ACV (h h1.1 (by simp[DG,h1.2,b]) a w hs) ?_);intro e f w' d;cases e<;>exact d
theorem qH (h:Ev c R (.out .normal) k σ):Ev c R (.run .skip) k σ:=fun _ b a w hs=>wpIn_skip (h rfl b a w hs)
theorem A6p (h:Ev c R (.out .ret) k σ):Ev c R (.run .ret) k σ:=fun _ b a w hs=>wpIn_ret (h rfl b a w hs)
theorem A4g {id:Nat} (h:Ev c R (.out (.exit id)) k σ):Ev c R (.run (.exit id)) k σ:=fun _ b a w hs=>wpIn_exit (h rfl b a w hs)
theorem y7 {id:Nat} {b:Code} (h:Ev c R (.run b) (.blk id :: k) σ):Ev c R (.run (.block id b)) k σ:=by
 intro h1 d a w hs;refine wpIn_block (ACV (h (by simpa[JP,Bv] using h1) (by simpa[DG] using d) a w hs) ?_);intro e g w' f;cases e<;>exact f
def EvR (c:Cx) (R:Exit→Act→World→Prop) (k:List Dp):DI→Prop
 | some (vc,σ)=>vc∧Ev c R (.out .normal) k σ
 | none=>False
theorem uB (f:c.Ok) {id:Nat} {ops:Array Oper} (h:EvR c R k (Br c.tb ops.toList ops.toList σ)):Ev c R (.run (.region id ops false)) k σ:=by
 intro h1 e a w hs;cases b:Br c.tb ops.toList ops.toList σ with
 | none=>rw[b]at h;exact h.elim
 | some r =>
  obtain⟨vc,σ'⟩:=r;rw[b]at h;simp only[JP,Bv,IN]at h1;exact ACm (Pe f ops.toList hs h1 b h.1 fun d w' g=>h.2 rfl e d w' g)
def EvC (c:Cx) (R:Exit→Act→World→Prop) (x y:Code) (k:List Dp) (σ:St):Option AV→Prop
 | some (.p .bool b)=>(b=true→Ev c R (.run x) k σ)∧(b=false→Ev c R (.run y) k σ)
 | _=>False
theorem A4h {o:Operand} {x y:Code} (h:EvC c R x y k σ (Aj σ o)):Ev c R (.run (.cond o x y)) k σ:=by
 intro h1 g a w hs;simp only[JP,Bv,As]at h1;obtain⟨ρ,f⟩:=hs;have j:=D5 f.env;cases e:Aj σ o with
 | none=>rw[e]at h;exact h.elim
 | some v =>
  have l:=j o v e;rw[e]at h;unfold EvC at h;split at h
  ·rename_i b i;cases i;have d:=EW l;exact wpIn_cond_split d (fun d=>h.1 d h1.1 g a w ⟨ρ,f⟩) (fun d=>h.2 d h1.2 g a w ⟨ρ,f⟩)
  ·exact h.elim
theorem IR {y:Code} (h:Ev c R (.run y) k σ):Ev c R (.out .normal) (.seq y :: k) σ:=by
 intro _ b a w hs;simp only[DG,As]at b;exact h b.1 b.2 a w hs
theorem bB {id:Nat} {y:Code} (h:Ev c R (.out (.exit id)) k σ):Ev c R (.out (.exit id)) (.seq y :: k) σ:=by
 intro _ b a w hs;simp only[DG,As]at b;exact h rfl b.2 a w hs
theorem lN {y:Code} (h:Ev c R (.out .ret) k σ):Ev c R (.out .ret) (.seq y :: k) σ:=by
 intro _ b a w hs;simp only[DG,As]at b;exact h rfl b.2 a w hs
theorem lO {id:Nat} (h:Ev c R (.out .normal) k σ):Ev c R (.out .normal) (.blk id :: k) σ:=fun _ b a w hs=>h rfl (by simpa[DG] using b) a w hs
theorem SB {id b:Nat} (h:if b=id then Ev c R (.out .normal) k σ else Ev c R (.out (.exit b)) k σ):Ev c R (.out (.exit b)) (.blk id :: k) σ:=by
 intro _ d a w hs;have d:DG c.nt k=true:=by simpa[DG] using d
 show (if b=id then Tt c R k .normal a w else Tt c R k (.exit b) a w);split at h
 ·rename_i e;rw[BY e];exact h rfl d a w hs
 ·rename_i e;rw[At e];exact h rfl d a w hs
theorem lQ {id:Nat} (h:Ev c R (.out .ret) k σ):Ev c R (.out .ret) (.blk id :: k) σ:=fun _ b a w hs=>h rfl (by simpa[DG] using b) a w hs
theorem AB {post:St→Prop} (h:post σ):Ev c R (.out .normal) (.inv post :: k) σ:=fun _ _ _ _ hs=>⟨σ,hs,h⟩
theorem bC {id:Nat} {post:St→Prop} (h:Ev c R (.out (.exit id)) k σ):Ev c R (.out (.exit id)) (.inv post :: k) σ:=fun _ b a w hs=>h rfl (by simpa[DG] using b) a w hs
theorem lR {post:St→Prop} (h:Ev c R (.out .ret) k σ):Ev c R (.out .ret) (.inv post :: k) σ:=fun _ b a w hs=>h rfl (by simpa[DG] using b) a w hs
def A7r (c:Cx) {ι:Type} (I:ι→St) (μ:ι→Nat) (i:ι) (σ:St):Prop:=∃j,μ j<μ i∧y6 c σ (I j)
theorem AH {ι:Type} (d:ι→St) (f:ι→Nat) (g:ι) {b:Code} (h0:y6 c σ (d g)) (o:∀i,Ev c R (.run b) (.inv (A7r c d f i) :: k) (d i)):Ev c R (.run (.loop b)) k σ:=by
 intro h1 m a w hs;have h1:Bv c.nt b=true:=by simpa[JP,Bv] using h1
 refine Sl (fun n a w=>∃i,f i=n∧c.sat (d i) a w) (f g) ⟨g,rfl,h0 a w hs⟩ ?_;rintro n a w ⟨i,rfl,hs⟩;refine ACV (o i h1 (by simpa[DG] using m) a w hs) ?_;intro e l w' h;cases e with
 | normal =>
  obtain⟨σ',r,j,q,p⟩:=h;exact⟨f j,q,j,rfl,p l w' r⟩
 | _=>exact h
theorem Pf {ι:Type} (b:ι→St) {x y:Code} (h:Ev c R (.run x) (.inv (fun σ'=>∃i,y6 c σ' (b i)) :: .seq y :: k) σ) (m:∀i,Ev c R (.run y) k (b i)):Ev c R (.run (.seq x y)) k σ:=by
 intro h1 f a w hs;simp only[JP,Bv,As]at h1;refine wpIn_seq (ACV (h h1.1 (by simp[DG,h1.2,f]) a w hs) ?_);intro e d w' g;cases e with
 | normal =>
  obtain⟨σ',l,i,j⟩:=g;exact m i h1.2 f d w' (j d w' l)
 | _=>exact g
end
end
section
open Go Go.RowKit
def AM:Nat→(ts:List Ty)→Ku ts→List (Nat×AV)
 | _,[],_=>[]
 | s,t :: ts,d=>(s,.p t d.1) :: AM (s+1) ts d.2
def LA (σ:St) (ty:Ty):Option AV→Option AV
 | some (.bp n a off)=>match Ea ty a off (lk n σ.objs) with
  | some (_,v,_)=>some v
  | none=>none
 | _=>none
def Hv (tb:Tb) (σ:St):ResultVar→Option AV
 | .tmp t=>lk t σ.env
 | .cell a t=>match lk t tb.ty with
  | some ti=>LA σ ti.ty (lk a σ.env)
  | none=>none
def M5:Option AV→List Nat
 | some v=>v.names
 | none=>[]
def Jx (σ:St) (t:Ty):Option AV→Option t.den
 | some v=>Kv false σ t v
 | none=>none
def GQ (σ:St) (et:TypeId) (e:Ty):Option Obj→Option (List e.den)
 | some (.arr b a xs)=>if b=et then BP (.slice e) ⟨.slice a,xs⟩ else none
 | _=>none
def IT (tb:Tb) (σ:St) (rv:ResultVar):RV→Prop
 | .p t d=>Jx (Ck (M5 (Hv tb σ rv)) σ) t (Hv tb (Ck (M5 (Hv tb σ rv)) σ) rv)=some d
 | .own et e xs=>match Hv tb σ rv with
  | some (.sr n a 0 hi)=>a=e∧GQ σ et e (lk n σ.objs)=some xs∧hi=xs.length
  | _=>False
def Np (tb:Tb) (σ:St):List ResultVar→List RV→Prop
 | [],[]=>True
 | [rv],[r]=>IT tb σ rv r
 | rv :: b,.p t d :: a=>IT tb σ rv (.p t d)∧Np tb σ b a
 | _,_=>False
section
variable {P:Program} {tb:Tb} {w0:World} {O0:Nat→Prop} {nt:Nat} {ds:Fp}
def cx (P:Program) (tb:Tb) (w0:World) (O0:Nat→Prop) (nt:Nat):Cx:={ P:=P,tb:=tb,w0:=w0,K:=fun b=>b<w0.heap.size,O0:=O0,nt:=nt }
theorem XA:∀(ts:List Ty) (a:List Value) (ds:Ku ts) (k:Nat) (w:World) (O:Nat→Prop),R4 w O ts a ds→∀s v,lk s (AM k ts ds)=some v→k≤s∧∃u,a[s-k]?=some u∧∃t d,v=.p t d∧Bb w O t u d
 | [],a,ds,k,w,O,h,s,v,hs=>by simp[AM,lk]at hs
 | t :: ts,a,ds,k,w,O,h,s,v,hs=>by
  obtain⟨u,r,rfl,h1,b⟩:=h;simp only[AM,lk]at hs;split at hs
  ·grind
  ·obtain⟨c,g,e,f⟩:=XA ts r ds.2 (k+1) w O b s v hs;grind
theorem SC:∀ {ts:List Ty} {a:List Value} {ds:Ku ts} {w:World} {O:Nat→Prop},R4 w O ts a ds→a.length=ts.length
 | [],a,ds,w,O,h=>by have h:a=[]:=h;subst h;rfl
 | t :: ts,a,ds,w,O,h=>by
  obtain⟨u,r,rfl,h1,b⟩:=h;simp[SC b]
theorem uC {ts:List Ty} {a:List Value} {ds:Ku ts} (h:R4 w0 O0 ts a ds) (k:a.length≤nt) :
  (cx P tb w0 O0 nt).sat ⟨AM 0 ts ds,[]⟩ { tmps:=a.toArray++Array.replicate (nt-a.toArray.size) undef,defers:=[] } w0:=by
 refine⟨fun _=>undef,⟨rfl,rfl,rfl,Is _,fun _ _=>rfl⟩,by simp[cx];omega,rfl,(fun p hp=>by simp[cx]at hp),fun n o h=>by simp[lk]at h,fun n b ⟨o,h⟩=>by simp[lk]at h,fun n m b ⟨o,h⟩=>by simp[lk]at h,fun s v hs=>?_⟩;obtain⟨_,u,h1,t,d,rfl,e⟩:=XA ts a ds 0 w0 O0 h s v hs;have c:s<a.length:=by grind
 have i:(a.toArray++Array.replicate (nt-a.toArray.size) undef).getD s undef=u:=by
  have h1:a[s]?=some u:=by simpa using h1
  have:a[s]=u:=by rw[AT c]at h1;injection h1
  simp[Array.getElem?_append,c,this]
 rw[i];refine Bb.mono (fun b _ f g=>?_) (fun _ _ _=>rfl) e;rcases g with h0|⟨n,⟨o,j⟩,_⟩
 ·exact f h0
 ·simp[lk]at j
def KP (tmps:Array Value):ResultVar→Sem Value
 | .tmp t=>pure (tmps.getD t undef)
 | .cell a t=>do loadVar t (←asAddr (tmps.getD a undef))
theorem OJ (fn:Func) (tmps:Array Value):results fn tmps=(do let a ←fn.results.mapM (KP tmps);pure (if h:a.size=1 then a[0] else .tuple a)):=by
 unfold results
 congr 1
theorem S1 (hT:DL P tb) {K:Nat→Prop} {σ:St} {ρ:Nat→Value} {a:Act} {w:World} (hs:Bn w0 K O0 nt ds σ ρ a w) {rv:ResultVar} {v:AV} (h:Hv tb σ rv=some v) :
  ∃u,(KP a.tmps rv).run P w=.ok u w∧B1 (vw w O0 σ ρ) v u:=by
 cases rv with
 | tmp t =>
  simp only[Hv]at h;exact⟨_,by simp[KP],hs.env t v h⟩
 | cell x t =>
  simp only[Hv]at h;cases d:lk t tb.ty with
  | none=>rw[d]at h;simp at h
  | some ti =>
   rw[d]at h;simp only at h;cases e:lk x σ.env with
   | none=>rw[e]at h;simp[LA]at h
   | some xv =>
    rw[e]at h;unfold LA at h;split at h
    ·rename_i n l off i;cases i;have f:=hs.env x _ e;split at h
     ·rename_i vc o obs j;cases h;have k:JJ σ (some ti) (some (.bp n l off))=some (vc,v,obs):=j;obtain⟨_,u,h1,g⟩:=yL (hT _ _ d) hs.objs k f;obtain⟨m,b,_,c⟩:=f;rw[c]at h1;have c:a.tmps.getD x undef=.pointer (some ⟨b,off,none⟩):=c;refine⟨u,?_,g⟩;simp only[Instr.loadAt,Instr.sureAddr,AB2,ABC,AAA]at h1;simp only[KP,c,asAddr,AB2,ABC,AAA,h1]
     ·cases h
    ·cases h
theorem A4i (hT:DL P tb) {K:Nat→Prop} {σ:St} {ρ:Nat→Value} {a:Act} {w:World} (hs:Bn w0 K O0 nt ds σ ρ a w) {rv:ResultVar} {t:Ty} {d:t.den} (h:IT tb σ rv (.p t d)) :
  ∃u,(KP a.tmps rv).run P w=.ok u w∧Bb w O0 t u d:=by
 unfold IT at h;have e:=K9 (l:=M5 (Hv tb σ rv)) hs;generalize Ck (M5 (Hv tb σ rv)) σ=f at h e;cases c:Hv tb f rv with
 | none=>rw[c]at h;simp[Jx]at h
 | some v =>
  rw[c]at h;simp only[Jx]at h;obtain⟨u,h1,g⟩:=S1 hT e c;have i:=KM (V:=vw w O0 f ρ) (O':=O0) (fun b j k=>j (.inl k)) (fun h=>by cases h) e.objs h g;exact⟨u,h1,i⟩
theorem y8 (hT:DL P tb) {K:Nat→Prop} {σ:St} {ρ:Nat→Value} {a:Act} {w:World} (hs:Bn w0 K O0 nt ds σ ρ a w):∀ {f:List ResultVar} {c:List RV},(∀r∈c,∃t d,r=.p t d)→Np tb σ f c →
  ∃e:List Value,(f.mapM (KP a.tmps)).run P w=.ok e w∧e.length=c.length ∧
   ∀nm V,V.w=w→(∀b,V.O b→O0 b)→KJ V (MA nm c) e
 | [],[],_,_=>⟨[],by simp,rfl,fun _ _ _ _=>rfl⟩
 | [],_ :: _,_,h=>by simp[Np]at h
 | _ :: _,[],_,h=>by simp[Np]at h
 | rv :: f,r :: c,hp,h=>by
  obtain⟨t,d,rfl⟩:=hp r (by simp);have g:IT tb σ rv (.p t d)∧Np tb σ f c:=by
   cases f with
   | nil =>
    cases c with
    | nil=>exact⟨h,trivial⟩
    | cons q s=>exact⟨h.1,h.2⟩
   | cons v x=>exact⟨h.1,h.2⟩
  obtain⟨u,h1,n⟩:=A4i hT hs g.1;obtain⟨e,o,i,j⟩:=y8 hT hs (fun r l=>hp r (by simp[l])) g.2;refine⟨u :: e,?_,by simp[i],fun nm V m k=>⟨u,e,rfl,?_,j _ V m k⟩⟩
  ·simp_all
  ·show Bb V.w V.O t u d;grind [Bb.mono]
def Tu (P:Program) (fn:Func) (w0:World) (O0:Nat→Prop) (a:List RV):Exit→Act→World→Prop :=
 bodyPost P fn fun e w'=>∃u,e=.returned u∧yU w0 O0 a u w'
theorem y9 (x:(cx P tb w0 O0 nt).Ok) {fn:Func} {g:List RV} {σ:St} {e:Exit} (y:e=.ret∨e=.normal) (hp:∀r∈g,∃t d,r=.p t d) (h:Np tb σ fn.results.toList g) :
  Ev (cx P tb w0 O0 nt) (Tu P fn w0 O0 g) (.out e) [] σ:=by
 intro _ _ a w hs;obtain⟨ρ,hs⟩:=hs;obtain⟨f,h1,i,m⟩:=y8 x.T hs hp h;have h1:(fn.results.toList.mapM (KP a.tmps)).run P w=.ok f w:=h1;have s:Below w0.heap.size w0 w:=⟨hs.frm.os,hs.frm.tape,hs.frm.output,hs.frm.size,hs.frm.block⟩;have D:∃v,(results fn a.tmps).run P w=.ok v w∧yU w0 O0 g v w:=by
  have A:(fn.results.mapM (KP a.tmps)).run P w=.ok f.toArray w:=by
   rw[ABG]
   simp_all
  refine⟨if h:f.toArray.size=1 then f.toArray[0] else .tuple f.toArray,?_,fun nm=>⟨fun _=>undef,?_⟩⟩
  ·rw[OJ];simp only[AB2,A,AAA,ABC]
  ·have z:Cr nm g=[]:=by
    clear h h1 i m;induction g generalizing nm with
    | nil=>rfl
    | cons r F E =>
     obtain⟨t,d,rfl⟩:=hp r (by simp);simp only[Cr,O9,ABo];exact E (fun r C=>hp r (by simp[C])) (nm+10000)
   rw[z];refine⟨s,fun _ _=>rfl,?_,(fun _ _ h=>by cases h),(fun _ _ _ h=>by cases h),(fun _ _ _ _ _ h=>by cases h)⟩;have c:=m nm (vw w O0 (Ec ⟨[],[]⟩ []) (fun _=>undef)) rfl (fun b q=>by
    rcases q with h0|⟨n,⟨o,B⟩,_⟩
    ·exact h0
    ·simp[Ec,lk]at B)
   match g,hp,f,i,c with
   | [],_,f,i,c =>
    have c:f=[]:=c;subst c;exact(rfl:_=_)
   | [r],hp,f,i,c =>
    obtain⟨u,l,rfl,j,k⟩:=c;have k:l=[]:=k;subst k;simp only[JH];exact yD j
   | G :: H :: F,hp,f,i,c =>
    have:¬f.toArray.size=1:=by simp at i ⊢;omega
    rw[dif_neg this];exact⟨f,rfl,c⟩
 obtain⟨v,c,j⟩:=D;rcases y with rfl|rfl
 ·exact⟨hs.defers,v,c,v,rfl,j⟩
 ·exact⟨hs.defers,v,c,v,rfl,j⟩
end
end
section
open Go Go.RowKit
def Ty.ok:(t:Ty)→t.den→Prop
 | .int k,d=>Li k d
 | .bool,_=>True
 | .str,d=>ByteArray.size d≤AO
 | .slice e,d=>List.length d≤AO∧∀x∈(d:List e.den),e.ok x
 | .prod a b,d=>a.ok d.1∧b.ok d.2
 | .agg t,d=>t.ok d
 | .ref _,_=>True
theorem IU {w:World} {O:Nat→Prop}:∀ {t:Ty} {cs:List Value} {d:t.den},Bq w O t cs d→t.ok d
 | .int _,_,_,h=>h.2
 | .bool,_,_,_=>trivial
 | .str,_,_,h=>h.2
 | .ref _,_,_,_=>trivial
 | .slice e,_,d,h=>by
  obtain⟨a,c,_,_,f,g⟩:=h;refine⟨f,fun x j=>?_⟩;rcases g with g|⟨ad,_,_,k⟩
  ·subst g;simp at j
  ·obtain⟨i,hi,rfl⟩:=AA6.1 j;obtain⟨m,_,_,l⟩:=k i _ (AT hi);exact IU l
 | .prod a b,_,_,h=>by
  obtain⟨c1,c2,_,h1,f⟩:=h;exact⟨IU h1,IU f⟩
 | .agg t,cs,d,h=>by
  have h:Bq w O t cs d:=h;exact(IU h:t.ok d)
def oks:(ts:List Ty)→Ku ts→Prop
 | [],_=>True
 | t :: ts,d=>t.ok d.1∧oks ts d.2
theorem qI {w:World} {O:Nat→Prop}:∀ {ts:List Ty} {a:List Value} {ds:Ku ts},R4 w O ts a ds→oks ts ds
 | [],_,_,_=>trivial
 | t :: ts,a,ds,h=>by
  obtain⟨v,r,rfl,⟨cs,h1,_⟩,b⟩:=h;exact⟨IU h1,qI b⟩
section
variable {P:Program} {tb:Tb} {w0:World} {O0:Nat→Prop} {nt:Nat}
theorem A5N {f : FuncId} {fn : Func} {cd : Code} {sp : Ad} (d : P.funcs[f]? = some fn) (j : (fn.name == "runtime.NumGoroutine") = false) (c : fn.body = some cd) (k : fn.ntmps = nt) (m : sp.ins.length ≤ nt)
  (i:Bv nt cd=true) (hT:DL P tb) (hF:JM P tb)
  (h:∀(w0:World) (O0:Nat→Prop) (ds:Ku sp.ins),(cx P tb w0 O0 nt).Ok→oks sp.ins ds→sp.pre ds→Ev (cx P tb w0 O0 nt) (Tu P fn w0 O0 (sp.out ds)) (.run cd) [] ⟨AM 0 sp.ins ds,[]⟩):Ag P f sp:=by
 refine⟨⟨fn,d,j,by simp[c]⟩,fun w O p ds e a l=>?_⟩;refine calls_of_wp d c ((wpIn_wide (n:=0)).1 ?_);have o:=SC a;rw[k];exact h w O ds ⟨fun b g=>g,e,hT,hF⟩ (qI a) l i rfl _ _ (uC a (by omega))
theorem Gd (O:(cx P tb w0 O0 nt).Ok) {fn:Func} {et:TypeId} {e:Ty} {xs:List e.den} {σ:St} {ex:Exit} (p:ex=.ret∨ex=.normal) {rv:ResultVar} (S:fn.results=#[rv]) (h:IT tb σ rv (.own et e xs)) :
  Ev (cx P tb w0 O0 nt) (Tu P fn w0 O0 [.own et e xs]) (.out ex) [] σ:=by
 intro _ _ a w hs;obtain⟨ρ,hs⟩:=hs;have N:Below w0.heap.size w0 w:=⟨hs.frm.os,hs.frm.tape,hs.frm.output,hs.frm.size,hs.frm.block⟩;unfold IT at h;simp only at h;split at h
 ·rename_i n Y hi U;obtain⟨rfl,c,rfl⟩:=h;cases hn:lk n σ.objs with
  | none=>rw[hn]at c;simp[GQ]at c
  | some o =>
   rw[hn]at c;cases o with
   | box f st fs=>simp[GQ]at c
   | mapo k v l=>simp[GQ]at c
   | frame ak fs=>simp[GQ]at c
   | loop L=>simp[GQ]at c
   | itr ag aj ah ai ae=>simp[GQ]at c
   | dfr=>simp[GQ]at c
   | nest Z af k d ys A=>simp[GQ]at c
   | arr f d ys =>
    simp only[GQ]at c;split at c
    ·rename_i R;subst R;obtain⟨rfl,I⟩:=Bk c;cases I;obtain⟨u,hu,K⟩:=S1 (P:=P) O.T hs U;obtain⟨aa,y⟩:=K;have C:=hs.objs n _ hn;have q:u=ρ n:=by
      obtain⟨a0,m,c0,t,_,ab,V,W,rfl,_,h0,_⟩:=y;have t:plc (ρ n)=_:=t;obtain⟨rfl,rfl⟩:=h0 rfl;obtain⟨_,cells,s,_⟩:=C;have s:w.ownsRow 0 f d.size (ρ n) ys.length cells:=s;rw[Hs s]at t;have r:m=ys.length:=by
       rcases s.2 with ⟨p,ad⟩|⟨g,cap,X,p,_⟩
       ·rw[t]at p;injection p;omega
       ·rw[t]at p;injection p
      rw[t,r,Nat.sub_zero]
     have D:(results fn a.tmps).run P w=.ok u w:=by
      rw[OJ,S];have:((#[rv]:Array ResultVar).mapM (KP a.tmps)).run P w=.ok #[u] w:=by
       rw[ABG];simp[hu]
      simp only[AB2,this,AAA,ABC];rfl
     have z:yU w0 O0 [.own f d ys] u w:=by
      intro nm;have B:∀m,Gt (Ec ⟨[],[]⟩ [(nm,.arr f d ys)]) m↔m=nm:=by
       intro m;simp[Gt,Ec,lk]
      have hk:∀b,¬own O0 σ ρ b→¬own O0 (Ec ⟨[],[]⟩ [(nm,.arr f d ys)]) (Ek (fun _=>undef) nm u) b:=by
       intro b j M;rcases M with h0|⟨m,A,r⟩
       ·exact j (.inl h0)
       ·rw[(B m).1 A,Bj,q]at r;exact j (.inr ⟨n,⟨_,hn⟩,r⟩)
      have J:Cr nm [RV.own f d ys]=[(nm,.arr f d ys)]:=rfl;rw[J];refine⟨Ek (fun _=>undef) nm u,QS.one (loc:=u) N (fun b j=>?_) ?_ ?_⟩
      ·rw[q]at j;have:=(hs.free n b ⟨_,hn⟩ j).1;simp only[cx]at this;omega
      ·refine⟨(B nm).2 rfl,?_⟩;show DK (plc (Ek (fun _=>undef) nm u nm)) _ _ _ u;rw[Bj,q];rw[q]at y;exact y
      ·rw[q];obtain⟨r,cells,s,Q⟩:=C;refine⟨r,cells,s,fun i x hi=>?_⟩;obtain⟨E,F,G,H⟩:=Q i x hi;rw[q]at hk;exact⟨E,F,G,H.mono (fun b _ j=>hk b j) (fun _ _ _=>rfl)⟩
     rcases p with rfl|rfl
     ·exact⟨hs.defers,u,D,u,rfl,z⟩
     ·exact⟨hs.defers,u,D,u,rfl,z⟩
    ·cases c
 ·exact h.elim
end
end
section
open Go Go.RowKit
section
variable {P:Program} {tb:Tb} {w0:World} {O0:Nat→Prop} {nt:Nat} {R:Exit→Act→World→Prop} {k:List Dp} {σ σ':St}
theorem XB:(cx P tb w0 O0 nt).tb=tb:=rfl
theorem lS {c:Cx} (a:c.Ok) {id:Nat} {l:List Oper} {vc:Prop} (h:Br c.tb l l σ=some (vc,σ')) (b:vc) (hk:Ev c R (.out .normal) k σ') :
  Ev c R (.run (.region id l.toArray false)) k σ:=uB a (by
 show EvR _ _ _ (Br c.tb l l σ);rw[h];exact⟨b,hk⟩)
theorem Dq {c:Cx} {o:Operand} {x y:Code} {b:Bool} (h:Aj σ o=some (.p .bool b)) (a:b=true→Ev c R (.run x) k σ) (hf:b=false→Ev c R (.run y) k σ):Ev c R (.run (.cond o x y)) k σ :=
 A4h (by rw[h];exact⟨a,hf⟩)
theorem lU {c:Cx} {id:Nat} (h:Ev c R (.out .normal) k σ):Ev c R (.out (.exit id)) (.blk id :: k) σ:=SB (by rw[BY rfl];exact h)
theorem lV {c:Cx} {id a:Nat} (b:a≠id) (h:Ev c R (.out (.exit a)) k σ):Ev c R (.out (.exit a)) (.blk id :: k) σ:=SB (by rw[At b];exact h)
end
inductive Bw where
 | nm (n:Nat)
 | nil
def Dm (ren:List (Nat×Bw)):AV→AV→Prop
 | .p t d,.p u a=>BP u ⟨t,d⟩=some a
 | .raw (.slice none 0 0),.p (.slice e) a=>(a:List e.den)=[]
 | .raw v,.raw u=>v=u
 | .raw (.slice none 0 0),.sr m _ lo hi=>lk m ren=some .nil∧lo=0∧hi=0
 | .sr n e lo hi,.sr m b h c=>lk m ren=some (.nm n)∧e=b∧lo=h∧hi=c
 | .ip t d,.ip u a=>BP u ⟨t,d⟩=some a
 | .bp n p o,.bp m k j=>lk m ren=some (.nm n)∧p=k∧o=j
 | .fn f,.fn g=>f=g
 | .clo f ns,.clo g i=>f=g∧i.map (fun m=>lk m ren)=ns.map fun n=>some (.nm n)
 | .mp n,.mp m=>lk m ren=some (.nm n)
 | .yl n,.yl m=>lk m ren=some (.nm n)
 | _,.top=>True
 | _,_=>False
def Ew (ren:List (Nat×Bw)):List AV→List AV→Prop
 | [],[]=>True
 | x :: l,y :: r=>(x.cells=y.cells∧Dm ren x y)∧Ew ren l r
 | _,_=>False
def HN (ren:List (Nat×Bw)):AV→AV→Prop
 | .ag l,.ag r=>Ew ren l r
 | x,y=>Dm ren x y
def Hw (ren:List (Nat×Bw)):List AV→List AV→Prop
 | [],[]=>True
 | x :: l,y :: r=>HN ren x y∧Hw ren l r
 | _,_=>False
def Bg (ren:List (Nat×Bw)):AV→AV→Prop
 | .tup l,.tup r=>Hw ren l r
 | x,y=>HN ren x y
def Jy (ren:List (Nat×Bw)):Option AV→AV→Prop
 | some x,y=>Bg ren x y
 | none,.top=>True
 | none,_=>False
def Ex (env:List (Nat×AV)) (ren:List (Nat×Bw)):List (Nat×AV)→Prop
 | []=>True
 | (s,y) :: r=>Jy ren (lk s env) y∧Ex env ren r
def HO (ren:List (Nat×Bw)):Option Obj→Obj→Prop
 | some (.arr et e xs),.arr a c ys=>et=a∧BP (.slice c) ⟨.slice e,xs⟩=some ys
 | some (.box et st fs),.box a r d=>et=a∧st=r∧Ew ren fs d
 | some (.nest et n k e xs h),.nest a o b c ys m=>(et=a∧n=o∧h=m)∧BP (.slice (.prod b (.slice c))) ⟨.slice (.prod k (.slice e)),xs⟩=some ys
 | some (.mapo k v l),.mapo b f l'=>BP (.slice (.prod b f)) ⟨.slice (.prod k v),l⟩=some l'
 | some (.frame s fs),.frame t d=>s=t∧Ex fs ren d
 | some (.itr k v l p i),.itr b f l' q j=>BP (.slice (.prod b f)) ⟨.slice (.prod k v),l⟩=some l'∧p=q∧i=j
 | some (.loop L),.loop g=>L=g
 | some .dfr,.dfr=>True
 | _,_=>False
def GA (objs:List (Nat×Obj)) (ren:List (Nat×Bw)) (o:Obj):Option Bw→Prop
 | some (.nm n)=>HO ren (lk n objs) o
 | some .nil=>match o with
  | .arr _ e ys=>(ys:List e.den)=[]
  | .box _ _ _=>False
  | .nest _ _ k e ys _=>(ys:List (k.den×List e.den))=[]
  | .mapo _ _ _=>False
  | .frame _ _=>False
  | .itr _ _ _ _ _=>False
  | .loop _=>False
  | .dfr=>False
 | none=>False
def Aa (objs:List (Nat×Obj)) (ren:List (Nat×Bw)):List (Nat×Obj)→Prop
 | []=>True
 | (m,o) :: r=>GA objs ren o (lk m ren)∧Aa objs ren r
def B2:List (Nat×Bw)→Bool
 | []=>true
 | (_,.nm n) :: r=>(r.all fun p=>match p.2 with|.nm a=>a != n|.nil=>true)&&B2 r
 | (_,.nil) :: r=>B2 r
def MJ {α:Type}:List (Nat×α)→Bool
 | []=>true
 | (n,_) :: r=>(r.all fun p=>p.1 != n)&&MJ r
section
variable {ren:List (Nat×Bw)} {V V':Vw}
structure MK (ren:List (Nat×Bw)) (V V':Vw):Prop where
 w:V'.w=V.w
 O:∀b,¬V.O b→¬V'.O b
 ρ:∀m n,lk m ren=some (.nm n)→V'.ρ m=V.ρ n
 nil:∀m,lk m ren=some .nil→V'.ρ m=.slice none 0 0
 L:∀m f,lk m ren=some f→V'.L m
theorem MK.vrep (h:MK ren V V') {t:Ty} {v:Value} {d:t.den} (c:Bb V.w V.O t v d):Bb V'.w V'.O t v d :=
 Bb.mono (fun b _ a=>h.O b a) (fun b _ _=>by rw[h.w]) c
theorem MK.rep (h:MK ren V V') {t:Ty} {cs:List Value} {d:t.den} (c:Bq V.w V.O t cs d):Bq V'.w V'.O t cs d :=
 c.mono (fun b _ a=>h.O b a) (fun b _ _=>by rw[h.w])
theorem MK.map (h:MK ren V V'):∀ {b ns:List Nat},b.map (fun m=>lk m ren)=ns.map (fun n=>some (Bw.nm n))→b.map V'.ρ=ns.map V.ρ∧∀m∈b,∃n∈ns,lk m ren=some (.nm n)
 | [],[],_=>⟨rfl,fun _ h=>by cases h⟩
 | [],_ :: _,a=>by simp at a
 | _ :: _,[],a=>by simp at a
 | m :: b,n :: ns,a=>by
  simp only[AA4,ABw]at a;obtain⟨h1,c⟩:=h.map a.2;refine⟨by simp only[AA4,h1,h.ρ _ _ a.1],fun x d=>?_⟩;grind
theorem XC (h:MK ren V V') {x y:AV} {v:Value} (b:Dm ren x y) (c:Tf V x v):Tf V' y v∧(∀t d,y=.p t d→(∀u g,x≠.p u g)→v.oneCell'=true→Bq V'.w V'.O t [v] d):=by
 unfold Dm at b;split at b
 ·have:=BD b;injection this with h1 f
  subst h1;cases f;exact⟨h.vrep c,fun _ _ _ z=>absurd rfl (z _ _)⟩
 ·have c:v=_:=c;subst c;have i:=b;have k:∀(O:Nat→Prop) (e:Ty),Bq V'.w O (.slice e) [.slice none 0 0] ([]:List e.den):=fun O e=>⟨none,0,rfl,by simp,by simp[AO],.inl rfl⟩;rename_i e g;have i:g=([]:List e.den):=i;subst i;refine⟨⟨_,k _ _,rfl⟩,fun t d a _ _=>?_⟩;grind
 ·subst b;exact⟨c,fun t d a=>by cases a⟩
 ·rename_i m e lo hi;obtain⟨h1,rfl,rfl⟩:=b;have c:v=_:=c;subst c;refine⟨⟨h.L _ _ h1,?_⟩,fun t d a=>by cases a⟩;rw[h.nil _ h1];exact⟨none,0,0,rfl,by omega,by omega,none,0,rfl,by omega,fun _=>⟨rfl,rfl⟩,fun h=>by omega⟩
 ·obtain⟨h1,rfl,rfl,rfl⟩:=b;refine⟨⟨h.L _ _ h1,?_⟩,fun t d a=>by cases a⟩;rw[h.ρ _ _ h1];exact c.2
 ·have:=BD b;injection this with h1 f
  subst h1;cases f;obtain⟨ad,cs,a,o,q,k⟩:=c;exact⟨⟨ad,cs,a,h.O _ o,fun j u r=>by rw[h.w];exact q j u r,h.rep k⟩,fun t d a=>by cases a⟩
 ·obtain⟨h1,rfl,rfl⟩:=b;refine⟨⟨h.L _ _ h1,?_⟩,fun t d a=>by cases a⟩;rw[h.ρ _ _ h1];exact c.2
 ·subst b;exact⟨c,fun t d a=>by cases a⟩
 ·obtain⟨rfl,s⟩:=b;obtain⟨h1,f⟩:=h.map s;refine⟨⟨?_,fun m b=>?_⟩,fun t d a=>by cases a⟩
  ·rw[h1];exact c.1
  ·obtain⟨n,hn,l⟩:=f m b;refine⟨h.L _ _ l,?_⟩;rw[h.ρ _ _ l];exact(c.2 n hn).2
 ·refine⟨⟨h.L _ _ b,?_⟩,fun t d a=>by cases a⟩;rw[h.ρ _ _ b];exact c.2
 ·refine⟨⟨h.L _ _ b,?_⟩,fun t d a=>by cases a⟩;rw[h.ρ _ _ b];exact c.2
 ·exact⟨trivial,fun t d a=>by cases a⟩
 ·exact b.elim
theorem uD (h:MK ren V V') {x y:AV} {cs:List Value} (f:x.cells=y.cells) (b:Dm ren x y) (a:NZ V x cs):NZ V' y cs:=by
 by_cases hp:∃t d,x=.p t d
 ·obtain⟨t,d,rfl⟩:=hp;have a:Bq V.w V.O t cs d:=a;cases y<;>simp only[Dm]at b<;>try exact b.elim
  ·have:=BD b;injection this with h1 c
   subst h1;cases c;exact h.rep a
  ·have g:=a.length;simp only[AV.cells]at f;rw[f]at g;obtain⟨v,rfl⟩:=AB4.1 g;exact⟨v,rfl,a.one v (by simp),trivial⟩
 ·have l:∃v,cs=[v]∧v.oneCell'=true∧Tf V x v:=by
   cases x;case p t d=>exact absurd ⟨t,d,rfl⟩ hp
   all_goals exact a
  obtain⟨v,rfl,h1,c⟩:=l;obtain⟨j,k⟩:=XC h b c;cases y;case p t d=>exact k t d rfl (fun u i e=>hp ⟨u,i,e⟩) h1
  all_goals exact⟨v,rfl,h1,j⟩
theorem OK (h:MK ren V V'):∀ {l r:List AV} {cs:List Value},Ew ren l r→Db V l cs→Db V' r cs
 | [],[],cs,_,b=>b
 | [],_ :: _,cs,a,_=>a.elim
 | _ :: _,[],cs,a,_=>a.elim
 | x :: l,y :: r,cs,a,b=>by
  obtain⟨c1,c2,rfl,h1,c⟩:=b;exact⟨c1,c2,rfl,uD h a.1.1 a.1.2 h1,OK h a.2 c⟩
theorem Lo:∀ {l r:List AV},Ew ren l r→l.length=r.length
 | [],[],_=>rfl
 | [],_ :: _,a=>a.elim
 | _ :: _,[],a=>a.elim
 | _ :: _,_ :: _,a=>by simp[Lo a.2]
theorem XD (h:MK ren V V') {x y:AV} {v:Value} (a:HN ren x y) (b:Rx V x v):Rx V' y v:=by
 cases x;case ag l =>
  cases y;case ag r =>
   obtain⟨cs,e,h1⟩:=b;exact⟨cs,e,OK h a h1⟩
  all_goals simp only[HN,Dm]at a
  all_goals first|exact a.elim|exact trivial
 all_goals
  simp only[Rx]at b;have a:Dm ren _ y:=a;exact Rx.of1 (XC h a b).1
theorem bD (h:MK ren V V'):∀ {l r:List AV} {b:List Value},Hw ren l r→KJ V l b→KJ V' r b
 | [],[],b,_,c=>c
 | [],_ :: _,b,a,_=>a.elim
 | _ :: _,[],b,a,_=>a.elim
 | x :: l,y :: r,b,a,c=>by
  obtain⟨v,e,rfl,h1,d⟩:=c;exact⟨v,e,rfl,XD h a.1 h1,bD h a.2 d⟩
theorem M6 (h:MK ren V V') {x y:AV} {v:Value} (a:Bg ren x y) (b:B1 V x v):B1 V' y v:=by
 cases x;case tup l =>
  cases y;case tup r =>
   obtain⟨c,e,h1⟩:=b;exact⟨c,e,bD h a h1⟩
  all_goals simp only[Bg,HN,Dm]at a
  all_goals first|exact a.elim|exact trivial
 all_goals
  simp only[Bg]at a;exact yD (XD h a b)
theorem DU {objs:List (Nat×Obj)} {m:Nat} {o:Obj}:∀ {l:List (Nat×Obj)},Aa objs ren l→lk m l=some o→GA objs ren o (lk m ren)
 | (j,x) :: l,h,a=>by
  simp only[lk]at a;split at a
  ·rename_i e;cases a;subst e;exact h.1
  ·exact DU h.2 a
theorem ML {env:List (Nat×AV)} {s:Nat} {y:AV}:∀ {l:List (Nat×AV)},Ex env ren l→lk s l=some y→Jy ren (lk s env) y
 | (j,x) :: l,h,a=>by
  simp only[lk]at a;split at a
  ·rename_i e;cases a;subst e;exact h.1
  ·exact ML h.2 a
theorem S2:∀ {l:List (Nat×Bw)} {m c n:Nat},B2 l=true→lk m l=some (.nm n)→lk c l=some (.nm n)→m=c
 | (j,f) :: l,m,c,n,a,h1,b=>by
  simp only[lk]at h1 b;have e:B2 l=true:=by
   cases f<;>simp only[B2,As]at a
   ·exact a.2
   ·exact a
  have g:∀q,f=.nm n→lk q l=some (.nm n)→False:=by
   intro q hf d;subst hf;simp only[B2,As,IN]at a;have:=a.1 _ (F8 d);simp at this
  split at h1
  ·grind
  ·split at b
   ·grind
   ·exact S2 e h1 b
def A7t (n:Nat):Option Bw→Bool
 | some (.nm m)=>m==n
 | _=>false
def A6q (pin:List (Nat×Value)) (ren:List (Nat×Bw)):Bool:=pin.all fun p=>A7t p.1 (lk p.1 ren)
theorem Q0 {V V':Vw} (a:MK ren V V') {P:List (Nat×Obj)} (ag:∀n x,lk n P=some x→A2 V x (V.ρ n)) {o:Obj} {m:Nat} (hf:GA P ren o (lk m ren)):A2 V' o (V'.ρ m):=by
 cases J:lk m ren with
 | none=>rw[J]at hf;exact hf.elim
 | some f =>
  rw[J]at hf;cases f with
  | nil =>
   rw[a.nil m J];cases o with
   | box et st fs=>exact hf.elim
   | mapo k v l=>exact hf.elim
   | frame t fs=>exact hf.elim
   | loop L=>exact hf.elim
   | itr B E C D A=>exact hf.elim
   | dfr=>exact hf.elim
   | nest et aj k e ys H =>
    have hf:ys=([]:List (k.den×List e.den)):=hf;subst hf;exact⟨_,[],[],.inr ⟨rfl,rfl,rfl⟩,by simp[AO],rfl,ABL _ 0 et _,fun i x u h=>by simp at h,fun i j b u v h=>by simp at h,fun i b u h=>by simp at h⟩
   | arr et e ys =>
    have hf:ys=([]:List e.den):=hf;subst hf;exact⟨by simp[AO],[],ABL _ 0 et e.size,H6 _ _ _ _⟩
  | nm n =>
   rw[a.ρ m n J];simp only[GA]at hf;cases hn:lk n P with
   | none=>rw[hn]at hf;simp only[HO]at hf
   | some x =>
    rw[hn]at hf;have q:=ag n x hn;cases x with
    | arr et e xs =>
     cases o with
     | box c st fs=>exact hf.elim
     | mapo k v l=>exact hf.elim
     | frame t fs=>exact hf.elim
     | loop L=>exact hf.elim
     | itr B E C D A=>exact hf.elim
     | dfr=>exact hf.elim
     | nest _ _ _ _ _ _=>exact hf.elim
     | arr c p ys =>
      obtain⟨rfl,g⟩:=hf;obtain⟨rfl,d⟩:=Bk g;cases d;obtain⟨ae,cells,af,ab⟩:=q;refine⟨ae,cells,by rw[a.w];exact af,fun i z hi=>?_⟩;obtain⟨K,S,T,U⟩:=ab i z hi;exact⟨K,S,T,a.rep U⟩
    | box et st fs =>
     cases o with
     | arr c p ys=>exact hf.elim
     | mapo k v l=>exact hf.elim
     | frame t fs=>exact hf.elim
     | loop L=>exact hf.elim
     | itr B E C D A=>exact hf.elim
     | dfr=>exact hf.elim
     | nest _ _ _ _ _ _=>exact hf.elim
     | box c aw W =>
      obtain⟨rfl,rfl,G⟩:=hf;obtain⟨h0,b,cs,F,hh,aa⟩:=q;exact⟨fun ah=>by rw[←Lo G];exact h0 ah,b,cs,F,by rw[a.w];exact hh,OK a G aa⟩
    | nest et aj k e xs h =>
     cases o with
     | nest c ar Q p ys aq =>
      obtain⟨⟨rfl,rfl,rfl⟩,g⟩:=hf;have g:=BD g;injection g with h1 y
      injection h1 with h1
      injection h1 with h1 d
      injection d with d
      subst h1;subst d;cases y;exact tV a.w a.O q
     | mapo k v l=>exact hf.elim
     | box c st fs=>exact hf.elim
     | arr c p ys=>exact hf.elim
     | frame t fs=>exact hf.elim
     | loop L=>exact hf.elim
     | itr B E C D A=>exact hf.elim
     | dfr=>exact hf.elim
    | mapo k v l =>
     cases o with
     | mapo Q an l' =>
      have g:=BD hf;injection g with h1 y
      injection h1 with h1
      injection h1 with h1 d
      subst h1;subst d;cases y;obtain⟨b,K,cl,F,hh,ad,Z⟩:=q;exact⟨b,K,cl,F,by rw[a.w];exact hh,ad.mono (fun b _ M=>a.O b M) (fun b _ _=>by rw[a.w]),Z⟩
     | box c st fs=>exact hf.elim
     | arr c p ys=>exact hf.elim
     | frame t fs=>exact hf.elim
     | loop L=>exact hf.elim
     | itr B E C D A=>exact hf.elim
     | dfr=>exact hf.elim
     | nest _ _ _ _ _ _=>exact hf.elim
    | frame t fs =>
     cases o with
     | frame ax W =>
      obtain⟨rfl,G⟩:=hf;obtain⟨h0,h1⟩:=q;refine⟨h0,fun s v ai=>?_⟩;have I:=ML G ai;cases N:lk s fs with
      | none =>
       rw[N]at I;cases v<;>simp only[Jy]at I;exact trivial
      | some x =>
       rw[N]at I;exact M6 a I (h1 s x N)
     | mapo k v l=>exact hf.elim
     | box c st fs=>exact hf.elim
     | arr c p ys=>exact hf.elim
     | loop L=>exact hf.elim
     | itr B E C D A=>exact hf.elim
     | dfr=>exact hf.elim
     | nest _ _ _ _ _ _=>exact hf.elim
    | itr k v l au ao =>
     cases o with
     | itr Q an l' av ap =>
      obtain⟨hf,rfl,rfl⟩:=hf;have g:=BD hf;injection g with h1 y
      injection h1 with h1
      injection h1 with h1 d
      subst h1;subst d;cases y;obtain⟨r,F,b,ak,cl,am,al,h1,y,d,X,Y⟩:=q;exact⟨r,F,b,ak,cl,am,al,by rw[a.w];exact h1,a.O b y,by rw[a.w];exact d,X.mono (fun b _ M=>a.O b M) (fun b _ _=>by rw[a.w]),Y⟩
     | mapo k v l=>exact hf.elim
     | box c st fs=>exact hf.elim
     | arr c p ys=>exact hf.elim
     | frame t fs=>exact hf.elim
     | loop L=>exact hf.elim
     | dfr=>exact hf.elim
     | nest _ _ _ _ _ _=>exact hf.elim
    | loop L =>
     cases o with
     | loop R =>
      have hf:L=R:=hf;subst hf;obtain⟨b,H,hh⟩:=q;exact⟨b,H,by rw[a.w];exact hh⟩
     | itr B E C D A=>exact hf.elim
     | mapo k v l=>exact hf.elim
     | box c st fs=>exact hf.elim
     | arr c p ys=>exact hf.elim
     | frame t fs=>exact hf.elim
     | dfr=>exact hf.elim
     | nest _ _ _ _ _ _=>exact hf.elim
    | dfr =>
     cases o with
     | dfr =>
      obtain⟨b,H,hh⟩:=q;exact⟨b,H,by rw[a.w];exact hh⟩
     | nest _ _ _ _ _ _=>exact hf.elim
     | mapo k v l=>exact hf.elim
     | box c st fs=>exact hf.elim
     | arr c p ys=>exact hf.elim
     | frame t fs=>exact hf.elim
     | loop L=>exact hf.elim
     | itr B E C D A=>exact hf.elim
def CO (objs:List (Nat×Obj)) (ren:List (Nat×Bw)):Bool:=ren.all fun p=>(lk p.1 objs).isSome
theorem AC {c:Cx} {σ σ':St} (ren:List (Nat×Bw)) (h1:B2 ren=true) (r:CO σ'.objs ren=true) (z:Aa σ.objs ren σ'.objs) (F:Ex σ.env ren σ'.env) (hp:A6q c.ds.pin ren=true:=by rfl):y6 c σ σ':=by
 rintro a w ⟨ρ,hs⟩
 let ρ':Nat→Value:=fun m=>match lk m ren with|some (.nm n)=>ρ n|_=>.slice none 0 0
 have y:∀m n,lk m ren=some (.nm n)→ρ' m=ρ n:=fun m n d=>by simp[ρ',d]
 have u:∀m,lk m ren=some .nil→ρ' m=.slice none 0 0:=fun m d=>by simp[ρ',d]
 have D:∀m f,lk m ren=some f→Gt σ' m:=fun m f d=>by
  simp only[CO,IN]at r;have:=r _ (F8 d);exact ABp.1 this
 have j:∀m b,Gt σ' m→bk (ρ' m) b→∃n,lk m ren=some (.nm n)∧Gt σ n∧bk (ρ n) b:=by
  rintro m b ⟨o,d⟩ e;have hf:=DU z d;cases i:lk m ren with
  | none=>rw[i]at hf;exact hf.elim
  | some f =>
   cases f with
   | nil=>rw[u m i]at e;simp[bk,blk]at e
   | nm n =>
    rw[i]at hf;rw[y m n i]at e;refine⟨n,rfl,?_,e⟩;cases hn:lk n σ.objs with
    | none=>simp only[GA,hn,HO]at hf
    | some x=>exact⟨x,hn⟩
 have t:MK ren (vw w c.O0 σ ρ) (vw w c.O0 σ' ρ'):=by
  refine⟨rfl,fun b e k=>?_,y,u,D⟩;rcases k with h0|⟨m,h,d⟩
  ·exact e (.inl h0)
  ·obtain⟨n,_,hn,g⟩:=j m b h d;exact e (.inr ⟨n,hn,g⟩)
 refine⟨ρ',hs.frm,hs.nt,hs.defers,fun p A=>?_,fun m o d=>?_,fun m b h e=>?_,fun m J b h G e k=>?_,fun s v I=>?_⟩
 ·obtain⟨L,M,N⟩:=hs.pin p A;simp only[A6q,IN]at hp;have l:=hp p A;unfold A7t at l;split at l
  ·grind
  ·cases l
 ·exact Q0 t hs.objs (DU z d)
 ·obtain⟨n,_,hn,g⟩:=j m b h e;exact hs.free n b hn g
 ·obtain⟨n,B,hn,g⟩:=j m b h e;obtain⟨K,C,H,E⟩:=j J b G k;have:=hs.dist n K b hn H g E;subst this;exact S2 h1 B C
 ·have d:=ML F I;cases q:lk s σ.env with
  | none =>
   rw[q]at d;cases v<;>simp only[Jy]at d;exact trivial
  | some x =>
   rw[q]at d;exact M6 t d (hs.env s x q)
end
end
section
open Go
theorem Fm (b:Bool):Qs true (some (.p .bool b))=some b:=by cases b<;>rfl
theorem E6 (b:Bool):Qs false (some (.p .bool b))=some (!b):=by cases b<;>rfl
theorem LB:IntKind.i64.min=-9223372036854775808:=by decide
theorem LC:IntKind.i64.max=9223372036854775807:=by decide
theorem LD:IntKind.u64.min=0:=by decide
theorem LE:IntKind.u64.max=18446744073709551615:=by decide
theorem OL:IntKind.u8.min=0:=by decide
theorem OM:IntKind.u8.max=255:=by decide
theorem JQ (n:Int):Li .i64 n↔-9223372036854775808≤n∧n≤9223372036854775807:=by unfold Li;rw[LB,LC]
theorem Hx (n:Int):Li .u64 n↔0≤n∧n≤18446744073709551615:=by unfold Li;rw[LD,LE]
theorem Q1 (n:Int):Li .u8 n↔0≤n∧n≤255:=by unfold Li;rw[OL,OM]
theorem M7 {α:Type} (x:α):sub [x] 0 1=[x]:=rfl
theorem G0 {α:Type} (xs:List α) (n:Nat):sub xs 0 n=xs.take n:=by simp[sub]
theorem uE (n:Nat):((n:Int)).toNat=n:=iN n
theorem E7 (n:Nat):(0≤(n:Int))=True:=eq_true (AA1 n)
end
section
open Go Go.RowKit
section
variable {tb:Tb} {σ σ':St}
def Yz (σ σ':St):Prop:=∀n o,lk n σ.objs=some o→lk n σ'.objs=some o
theorem zA (h:Yz σ σ') {e:Ty} {lo hi n:Nat} {d:List e.den} (hs:O7 e lo hi (lk n σ.objs)=some d):O7 e lo hi (lk n σ'.objs)=some d:=by
 cases hn:lk n σ.objs with
 | none=>rw[hn]at hs;simp[O7]at hs
 | some o=>rw[h n o hn,←hn];exact hs
theorem uF (h:Yz σ σ') {e:Ty} {i n:Nat} {d:List e.den} (hs:O8 e i (lk n σ.objs)=some d):O8 e i (lk n σ'.objs)=some d:=by
 cases hn:lk n σ.objs with
 | none=>rw[hn]at hs;simp[O8]at hs
 | some o=>rw[h n o hn,←hn];exact hs
theorem H7 (h:Yz σ σ') {l:Bool} {t:Ty} {x:AV} {d:t.den} (hs:EZ l σ t x=some d):EZ l σ' t x=some d:=by
 unfold EZ at hs ⊢;split at hs
 ·exact hs
 ·grind [zA]
 ·grind [uF]
 ·exact hs
 ·cases hs
theorem XE (h:Yz σ σ') {l:Bool}:∀ {fs:List AV} {t:Ty} {d:t.den},KG l σ fs t=some d→KG l σ' fs t=some d
 | [],t,d,hs=>by simp[KG]at hs
 | [x],t,d,hs=>by grind [KG,H7]
 | x :: y :: r,t,d,hs=>by
  cases t<;>simp only[KG]at hs ⊢<;>try(cases hs;done)
  rename_i a b;cases h1:EZ l σ a x with
  | none=>rw[h1]at hs;simp[Lj]at hs
  | some e =>
   cases c:KG l σ (y :: r) b with
   | none=>rw[h1,c]at hs;simp[Lj]at hs
   | some f =>
    rw[H7 h h1,XE h c];rw[h1,c]at hs;exact hs
theorem FM (h:Yz σ σ') {l:Bool} {t:Ty} {x:AV} {d:t.den} (hs:Kv l σ t x=some d):Kv l σ' t x=some d:=by
 unfold Kv at hs ⊢;split at hs
 ·exact XE h hs
 ·exact H7 h hs
def Ops (σ σ':St) (xs:List Operand):Prop:=∀x∈xs,∀v,Aj σ x=some v→Aj σ' x=some v
theorem MM (h:Yz σ σ') {e:Ty} {x:AV} {d:List e.den} (hs:O6 σ e x=some d):O6 σ' e x=some d:=by
 unfold O6 at hs ⊢;split at hs
 ·rename_i n a lo hi;cases hn:lk n σ.objs with
  | none =>
   rw[hn]at hs;have hs:EZ true σ (.slice e) (.sr n a lo hi)=some d:=by simpa[Ci,Kv] using hs
   simp only[EZ,hn]at hs;split at hs<;>simp[O7]at hs
  | some o =>
   rw[h n o hn];rw[hn]at hs;split at hs
   ·cases hs
   ·grind [FM]
 ·exact FM h hs
theorem Tv (h:Yz σ σ') {l:Bool}:∀ {ts:List Ty} {xs:List Operand} {ds:Ku ts},Ops σ σ' xs→F4 l σ ts xs=some ds→F4 l σ' ts xs=some ds
 | [],[],ds,_,hs=>hs
 | [],_ :: _,ds,_,hs=>by simp[F4]at hs
 | _ :: _,[],ds,_,hs=>by simp[F4]at hs
 | t :: ts,x :: xs,ds,b,hs=>by
  simp only[F4]at hs ⊢;cases a:Aj σ x with
  | none=>rw[a]at hs;cases hs
  | some v =>
   rw[b x (by simp) v a];rw[a]at hs;simp only at hs ⊢;split at hs
   ·rename_i y ys c d;rw[FM h c,Tv h (fun z e=>b z (by simp[e])) d];exact hs
   ·cases hs
theorem SD (h:Yz σ σ') {e:Ty}:∀ {parts:List (Nat×Operand)} {k:Nat} {xs:List e.den},Ops σ σ' (parts.map (·.2))→Ep σ e k parts=some xs→Ep σ' e k parts=some xs
 | [],k,xs,_,hs=>hs
 | (i,x) :: r,k,xs,b,hs=>by
  simp only[Ep]at hs ⊢;split at hs
  ·rename_i d;rw[BY d];cases a:Aj σ x with
   | none=>rw[a]at hs;cases hs
   | some v =>
    rw[b x (by simp) v a];rw[a]at hs;simp only at hs ⊢;split at hs
    ·rename_i y ys f g;rw[FM h f,SD h (fun z c=>b z (by simp at c ⊢;exact .inr c)) g];exact hs
    ·cases hs
  ·cases hs
theorem bE (h:Yz σ σ') {z:Option AV} {x:Operand} {v:AV} (d:∀v,Aj σ x=some v→Aj σ' x=some v) (hs:FZ σ z (Aj σ x)=some v):FZ σ' z (Aj σ' x)=some v:=by
 cases b:Aj σ x with
 | none=>rw[b]at hs;unfold FZ at hs;split at hs<;>simp at *
 | some a =>
  rw[d a b];rw[b]at hs;unfold FZ at hs ⊢;split at hs
  ·rename_i t _ l c;cases c;simp only[No]at hs ⊢;grind [FM]
  ·exact hs
theorem Pg (h:Yz σ σ') {offs:List (Nat×Nat)}:∀ {parts:List (Nat×Operand)} {fs a:List AV},Ops σ σ' (parts.map (·.2))→Dj σ offs fs parts=some a→Dj σ' offs fs parts=some a
 | [],fs,a,_,hs=>hs
 | (i,x) :: r,fs,a,c,hs=>by
  simp only[Dj]at hs ⊢;cases b:FZ σ fs[i]? (Aj σ x) with
  | none=>rw[b]at hs;cases hs
  | some v =>
   rw[bE h (c x (by simp)) b];rw[b]at hs;simp only at hs ⊢;split at hs
   ·rename_i e;rw[BY e];exact Pg h (fun z d=>c z (by simp at d ⊢;exact .inr d)) hs
   ·cases hs
theorem Tw:∀ {xs:List Operand} {ns:List Nat},Ops σ σ' xs→He σ xs=some ns→He σ' xs=some ns
 | [],ns,_,hs=>hs
 | x :: r,ns,a,hs=>by
  simp only[He]at hs ⊢;split at hs
  ·rename_i n d h1 b;rw[a x (by simp) _ h1,Tw (fun z c=>a z (by simp[c])) b];exact hs
  ·cases hs
theorem S3 (h:Yz σ σ') {d:Nat} {op:Op} {r:Prop×AV×List (Nat×Obj)} (p:Ops σ σ' op.operands.toList) (hs:aq tb σ d op=some r):aq tb σ' d op=some r:=by
 have one:∀ {x:Operand} {f:Option AV→Bc},x∈op.operands.toList→f none=none→f (Aj σ x)=some r→f (Aj σ' x)=some r:=by
  intro x f j hn hf;cases q:Aj σ x with
  | none=>rw[q,hn]at hf;cases hf
  | some v=>rw[p x j v q,←q];exact hf
 have J:∀ {x y:Operand} {f:Option AV→Option AV→Bc},x∈op.operands.toList→y∈op.operands.toList→(∀b,f none b=none)→(∀a,f a none=none)→f (Aj σ x) (Aj σ y)=some r→f (Aj σ' x) (Aj σ' y)=some r:=by
  intro x y f j C h1 F hf;cases q:Aj σ x with
  | none=>rw[q,h1]at hf;cases hf
  | some v =>
   cases H:Aj σ y with
   | none=>rw[H,F]at hf;cases hf
   | some w=>rw[p x j v q,p y C w H,←q,←H];exact hf
 cases op<;>simp only[aq]at hs ⊢<;>try(cases hs;done)
 case move x=>exact one (f:=GY) (by simp[Op.operands]) rfl hs
 case assign x=>exact one (f:=GY) (by simp[Op.operands]) rfl hs
 case pick c x y =>
  cases D:Aj σ c with
  | none=>rw[D]at hs;simp[KH]at hs
  | some Y =>
   have Z:=p c (by simp[Op.operands]) Y D;rw[D]at hs;rw[Z];unfold KH at hs ⊢;split at hs
   ·rename_i E;cases E;exact one (f:=GY) (by simp[Op.operands]) rfl hs
   ·rename_i E;cases E;exact one (f:=GY) (by simp[Op.operands]) rfl hs
   ·cases hs
 case alloc t=>exact hs
 case box t x=>exact one (f:=Qq d t (lk t tb.ty)) (by simp[Op.operands]) (by cases lk t tb.ty<;>simp[Qq]) hs
 case build t parts =>
  unfold ID at hs ⊢;split at hs
  ·rename_i u offs el b E;cases hp:Dj σ offs (pZ u) parts.toList with
   | none=>rw[hp]at hs;simp[GY]at hs
   | some fs =>
    rw[Pg h (by simpa[Op.operands] using p) hp];rw[hp]at hs;exact hs
  ·cases hs
 case buildSlice t n parts =>
  cases T:lk d tb.nests with
  | some ak =>
   rw[T]at hs;simp only[F5]at hs ⊢;unfold IG at hs ⊢;split at hs
   ·rename_i x am offs el b hp E;cases j:Aj σ x with
    | none=>rw[j]at hs;unfold IE at hs;split at hs<;>first|(cases hs;done)|(rename_i F;cases F)
    | some av =>
     rw[p x (by simp[Op.operands,hp]) av j];rw[j]at hs;unfold IE at hs ⊢;split at hs
     ·rename_i k e ap ar aj;unfold Jm at hs;split at hs
      ·rename_i a0 N;rw[H7 h N];exact hs
      ·rename_i a0 ai l N;split at hs
       ·rename_i P;rw[H7 h N];simp only[Jm,P,AAQ];exact hs
       ·cases hs
      ·cases hs
     ·cases hs
   ·cases hs
  | none =>
  rw[T]at hs;simp only[F5]at hs ⊢;unfold BQ at hs ⊢;split at hs
  ·rename_i e offs el b E;cases hp:Ep σ e 0 parts.toList with
   | none=>rw[hp]at hs;simp[BX]at hs
   | some xs =>
    rw[SD h (by simpa[Op.operands] using p) hp];rw[hp]at hs;exact hs
  ·cases hs
 case load t x =>
  cases j:Aj σ x with
  | none=>rw[j]at hs;simp[JJ]at hs
  | some v =>
   rw[p x (by simp[Op.operands]) v j];rw[j]at hs;unfold JJ at hs ⊢;split at hs
   ·rename_i ti n ag off M G;cases hn:lk n σ.objs with
    | none=>rw[hn]at hs;simp[Ea]at hs
    | some o=>rw[h n o hn,←hn];exact hs
   ·rename_i ti n e i ag off M G;cases hn:lk n σ.objs with
    | none=>rw[hn]at hs;simp[Eb]at hs
    | some o=>rw[h n o hn,←hn];exact hs
   ·exact hs
   ·cases hs
 case nilCheck x=>exact one (f:=Sj) (by simp[Op.operands]) (by simp[Sj]) hs
 case binOp op t x y al=>exact J (f:=PJ op (lk t tb.ty)) (by simp[Op.operands]) (by simp[Op.operands]) (fun b=>by simp[PJ]) (fun a=>by cases a<;>simp[PJ]) hs
 case unOp op t x=>exact one (f:=xZ op) (by simp[Op.operands]) (by cases op<;>simp[xZ]) hs
 case convert s t x=>exact one (f:=JL (lk s tb.ty) (lk t tb.ty)) (by simp[Op.operands]) (by cases lk s tb.ty<;>cases lk t tb.ty<;>simp[JL]) hs
 case makeSlice t l c=>exact J (f:=II tb d (lk t tb.ty)) (by simp[Op.operands]) (by simp[Op.operands]) (fun b=>by cases lk t tb.ty<;>simp[II]) (fun a=>by cases lk t tb.ty<;>simp[II]) hs
 case slice t x lo hi af =>
  cases af with
  | some m =>
   cases lo with
   | some _=>cases hi<;>simp[aq]at hs
   | none =>
    cases hi with
    | none=>simp[aq]at hs
    | some h1 =>
     simp only[aq]at hs ⊢;cases j:Aj σ x with
     | none=>rw[j]at hs;cases A:lk t tb.ty<;>rw[A]at hs<;>simp[Dk]at hs
     | some v =>
      cases hh:Aj σ h1 with
      | none=>rw[j,hh]at hs;cases A:lk t tb.ty<;>rw[A]at hs<;>simp[Dk]at hs
      | some q =>
       cases S:Aj σ m with
       | none=>rw[j,hh,S]at hs;cases A:lk t tb.ty<;>rw[A]at hs<;>simp[Dk]at hs
       | some ae =>
        rw[p x (by simp[Op.operands]) v j,p h1 (by simp[Op.operands]) q hh,p m (by simp[Op.operands]) ae S];rw[j,hh,S]at hs;exact hs
  | none =>
   simp only[aq]at hs ⊢;have W:∀ {y:Option Operand},(∀z,y=some z→z∈(Op.slice t x lo hi none).operands.toList)→∀w,GP σ y=some w→GP σ' y=some w:=by
    intro y C w H;cases y with
    | none=>exact H
    | some z =>
     simp only[GP,No]at H ⊢;obtain⟨v,q,rfl⟩:=H;exact⟨v,p z (C z rfl) v q,rfl⟩
   cases j:Aj σ x with
   | none=>rw[j]at hs;cases A:lk t tb.ty<;>rw[A]at hs<;>simp[FE]at hs
   | some v =>
    cases h1:GP σ lo with
    | none=>rw[h1]at hs;cases A:lk t tb.ty<;>rw[A]at hs<;>simp[FE]at hs
    | some a =>
     cases F:GP σ hi with
     | none=>rw[F]at hs;cases A:lk t tb.ty<;>rw[A]at hs<;>simp[FE]at hs
     | some b =>
      rw[p x (by simp[Op.operands]) v j,W (by rintro z rfl;simp[Op.operands]) a h1,W (by rintro z rfl;simp[Op.operands]) b F];rw[j,h1,F]at hs;exact hs
 case fieldAddr s x f=>exact one (f:=GZ f (lk s tb.ty)) (by simp[Op.operands]) (by cases lk s tb.ty<;>simp[GZ]) hs
 case indexAddr t x i=>exact J (f:=Fa (lk t tb.ty)) (by simp[Op.operands]) (by simp[Op.operands]) (fun b=>by cases lk t tb.ty<;>simp[Fa]) (fun a=>by cases lk t tb.ty<;>simp[Fa]) hs
 case index t x i=>exact J (f:=Dz (lk t tb.ty)) (by simp[Op.operands]) (by simp[Op.operands]) (fun b=>by cases lk t tb.ty<;>simp[Dz]) (fun a=>by cases lk t tb.ty<;>simp[Dz]) hs
 case extract x i=>exact one (f:=EE i) (by simp[Op.operands]) (by simp[EE]) hs
 case makeFunc fn first X =>
  unfold WZ at hs ⊢;split at hs
  ·rename_i f hf;cases D:He σ X.toList with
   | none=>rw[D]at hs;simp[Ng]at hs
   | some ns =>
    rw[Tw (fun z I=>p z (by simp[Op.operands]at I ⊢;exact .inr I)) D];rw[D]at hs;exact hs
  ·cases hs
 case makeMap t res =>
  cases res with
  | some z=>simp[aq]at hs
  | none=>simp only[aq]at hs ⊢;exact hs
 case lookup t x i ok =>
  cases j:Aj σ x with
  | none=>rw[j]at hs;simp[IM]at hs
  | some xv =>
   cases hi:Aj σ i with
   | none=>rw[j,hi]at hs;simp[IM]at hs
   | some V =>
    rw[p x (by simp[Op.operands]) xv j,p i (by simp[Op.operands]) V hi];rw[j,hi]at hs;unfold IM at hs ⊢;split at hs
    ·rename_i k e _ _ n z M G ab;cases G;cases ab;cases hn:lk n σ.objs with
     | none=>rw[hn]at hs;simp[HK]at hs
     | some o =>
      rw[hn]at hs;rw[h n o hn];unfold HK at hs ⊢;split at hs
      ·rename_i ad ao l p;cases p;split at hs
       ·rename_i D;rw[BY D];cases hk:Kv false σ ad V with
        | none=>rw[hk]at hs;simp[Jp]at hs
        | some kd=>rw[FM h hk];rw[hk]at hs;exact hs
       ·cases hs
      ·cases hs
    ·cases hs
 case call c =>
  obtain⟨callee,args,argTypes⟩:=c;have B:∀x∈args.toList,x∈(Op.call ⟨callee,args,argTypes⟩).operands.toList:=fun x j=>by
   have:x∈args:=by simpa using j
   cases callee<;>simp[Op.operands,Call.operands,this]
  cases callee with
  | invoke r m=>simp[Cj]at hs
  | value g =>
   simp only[Cj]at hs ⊢;cases Q:Aj σ g with
   | none=>rw[Q]at hs;simp[Lk]at hs
   | some aa =>
    rw[p g (by simp[Op.operands,Call.operands]) aa Q];rw[Q]at hs;unfold Lk at hs ⊢;split at hs
    ·rename_i f E;cases U:lk f tb.fns with
     | none=>rw[U]at hs;simp[IL]at hs
     | some sp =>
      rw[U]at hs;simp only[IL]at hs ⊢;cases O:F4 sp.lend σ sp.ins args.toList with
      | none=>rw[O]at hs;simp[Jo]at hs
      | some ds =>
       rw[Tv h (fun x j=>p x (B x j)) O];rw[O]at hs;exact hs
    ·cases hs
  | builtin b =>
   simp only[Cj]at hs ⊢;obtain⟨args⟩:=args;obtain⟨argTypes⟩:=argTypes;simp only at hs B ⊢;unfold Cs at hs ⊢;split at hs
   ·exact one (f:=Qr (lk _ tb.ty)) (B _ (by simp)) (by cases lk _ tb.ty<;>simp[Qr]) hs
   ·rename_i x y t u;cases j:Aj σ x with
    | none=>rw[j]at hs;simp[Ca]at hs
    | some xv =>
     cases C:Aj σ y with
     | none=>rw[j,C]at hs;simp[Ca]at hs
     | some L =>
      rw[p x (B _ (by simp)) xv j,p y (B _ (by simp)) L C];rw[j,C]at hs;unfold Ca at hs ⊢;split at hs
      ·split at hs
       ·rename_i K;simp only[K,AAQ];rename_i M G;cases G;rw[K]at hs;cases A:lk u tb.ty with
        | none=>rw[A]at hs;simp[EF]at hs
        | some ti =>
         rw[A]at hs;unfold EF at hs ⊢;split at hs
         ·rename_i e offs el b E;cases q:O6 σ e L with
          | none=>rw[q]at hs;cases R:lk el tb.ty<;>rw[R]at hs<;>simp[Eq]at hs
          | some ys =>
           rw[q]at hs;rw[MM h q];exact hs
         ·cases hs
       ·cases hs
      ·split at hs
       ·rename_i K;simp only[K,AAQ];rename_i M G;cases G;rw[K]at hs;cases A:lk u tb.ty with
        | none=>rw[A]at hs;simp[IJ]at hs
        | some ti =>
         rw[A]at hs;unfold IJ at hs ⊢;split at hs
         ·rename_i e offs el b E;split at hs
          ·rename_i P;simp only[P,AAQ];cases q:O6 σ _ L with
           | none=>rw[q]at hs;cases R:lk el tb.ty<;>rw[R]at hs<;>simp[Jn]at hs
           | some ys =>
            rw[q]at hs;rw[MM h q];exact hs
          ·cases hs
         ·cases hs
       ·cases hs
      ·cases hs
   ·exact J (f:=PK) (B _ (by simp)) (B _ (by simp)) (fun b=>by simp[PK]) (fun a=>by cases a<;>simp[PK]) hs
   ·exact J (f:=PM) (B _ (by simp)) (B _ (by simp)) (fun b=>by simp[PM]) (fun a=>by cases a<;>simp[PM]) hs
   ·rename_i x y z t u an;cases j:Aj σ x with
    | none=>rw[j]at hs;simp[IK]at hs
    | some xv =>
     cases C:Aj σ y with
     | none=>rw[j,C]at hs;simp[IK]at hs
     | some L =>
      cases I:Aj σ z with
      | none=>rw[j,C,I]at hs;simp[IK]at hs
      | some ah =>
       rw[p x (B _ (by simp)) xv j,p y (B _ (by simp)) L C,p z (B _ (by simp)) ah I,←j,←C,←I];exact hs
   ·cases hs
end
end
end Go.Proofs.YtdapahgnpbehbaaGreat.Fw
