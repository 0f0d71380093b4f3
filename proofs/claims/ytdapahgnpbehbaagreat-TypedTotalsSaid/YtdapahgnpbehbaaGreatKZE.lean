/- One operation, a sequence, loops, the entry and the end of a function: the rules. -/
import Derived.Test.YtdapahgnpbehbaaGreatKZD
import Derived.Deep.LoopGhost
import Derived.ControlIn
set_option linter.unusedVariables false
set_option linter.unusedSimpArgs false
namespace Go.Proofs.YtdapahgnpbehbaaGreat.Fw
section
open Go Go.RowKit
abbrev AC6:=@Go.wpIn_region_list
abbrev ACt:=@Go.wpIn_mono
structure Cx where
 P:Program
 tb:Tb
 w0:World
 K:Nat→Prop
 O0:Nat→Prop
 nt:Nat
 
 ds:Fp:={}
 
 r:Option Nat:=none
structure Cx.Ok (c:Cx):Prop where
 K:∀b,c.K b→b<c.w0.heap.size
 O:∀b,c.O0 b→b<c.w0.heap.size
 T:DB c.P c.tb
 F:Iq c.P c.tb
def Cx.sat (c:Cx) (σ:St) (a:Act) (w:World):Prop:=∃ρ,Bo c.w0 c.K c.O0 c.nt c.ds σ ρ a w
section
variable {c:Cx}
theorem A1A (hc:c.Ok) {σ:St} {ρ:Nat→Value} {a:Act} {w:World} (h:Bo c.w0 c.K c.O0 c.nt c.ds σ ρ a w):A4q c.P c.tb w c.O0 σ ρ a where
 hT:=hc.T
 hF:=hc.F
 obj:=h.objs
 own:=by
  intro b hb;rcases hb with h0|⟨n,⟨o,ho⟩,hb⟩
  ·exact AAu (hc.O b h0) h.frm.size
  ·exact(h.objs n o ho).block_lt hb
 ev:=Dn h.env
theorem uV (e:c.Ok) {σ σ':St} {ρ:Nat→Value} {a:Act} {w:World} (hs:Bo c.w0 c.K c.O0 c.nt c.ds σ ρ a w) {o:Oper} {vc:Prop} (h:E2 c.tb σ o.dst o.op=some (vc,σ')) (k:vc) (j:∀d,o.dst=some d→d<c.nt)
  {next:Act→World→Prop} {Q:Exit→Act→World→Prop} (hn:∀i w',c.sat σ' i w'→next i w'):o.wpIn (FR c.r) 0 c.P a w next Q:=by
 obtain⟨dst,op,type,pos,after,guard⟩:=o;simp only at h j;cases op<;>simp only[E2]at h<;>try(cases h;done)
 case store t x y =>
  cases dst with
  | some d=>simp[Da]at h
  | none =>
   simp only[Da]at h;obtain⟨w',ρ',h1,f⟩:=iU (P:=c.P) hs e.K e.O e.T h k;exact mT (w':=w') (by simp[execOp,h1]) (hn _ _ ⟨ρ',f⟩)
 case mapUpdate t m x y =>
  cases dst with
  | some d=>simp[Da]at h
  | none =>
   simp only[Da]at h;obtain⟨w',h1,f⟩:=pU (P:=c.P) hs e.K e.T h;exact mT (w':=w') (by simp[execOp,h1]) (hn _ _ ⟨ρ,f⟩)
 case call cl =>
  obtain⟨callee,args,argTypes⟩:=cl;cases callee with
  | value g=>simp[Cv]at h
  | invoke r m=>simp[Cv]at h
  | builtin b =>
   simp only[Cv]at h;obtain⟨args⟩:=args;obtain⟨argTypes⟩:=argTypes;simp only at h;unfold DH at h;split at h
   ·rename_i x y t u;obtain⟨z,w',ρ',h1,f⟩:=iT (P:=c.P) (ty:=type) hs e.K e.O e.T j h k;exact Al (u:=z) (w':=w') (by simp[execOp,resolve,invoke,builtin,h1]) (hn _ _ ⟨ρ',f⟩)
   ·cases h
theorem Ol (b:c.Ok) {σ σ':St} {a:Act} {w:World} (hs:c.sat σ a w) {o:Oper} {vc:Prop} (h:Fk c.tb o σ=some (vc,σ')) (i:vc) (g:∀d,o.dst=some d→d<c.nt)
  {next:Act→World→Prop} {Q:Exit→Act→World→Prop} (hn:∀f w',c.sat σ' f w'→next f w'):o.wpIn (FR c.r) 0 c.P a w next Q:=by
 obtain⟨ρ,hs⟩:=hs;have hs:=KW (l:=CB σ o.op) hs;unfold Fk NI at h;generalize Ca (CB σ o.op) σ=k at h hs;cases e:aq c.tb k (o.dst.getD 0) o.op with
 | some r =>
  obtain⟨m,v,obs⟩:=r;rw[e]at h;simp only[Jk]at h;split at h
  ·rename_i hf;cases h;exact mQ (A1A b hs) e i hf fun u ρ' w' j=>hn _ _ ⟨ρ',hs.add b.K b.O g hf j⟩
  ·cases h
 | none =>
  rw[e]at h;exact uV b hs h i g hn
theorem HZ {ops:Array Oper} {σ:St} {a:Act} {w:World} (hs:c.sat σ a w) {o:Oper} {b:Bool} (h:ER ops.toList σ o.guard=some b):Region.wanted o (yielded ops a.tmps)=b:=by
 obtain⟨ρ,hs⟩:=hs;unfold ER at h;split at h
 ·rename_i e;cases h;simp[Region.wanted,e]
 ·rename_i j q e;cases f:(ops.toList[j]?).bind (·.dst) with
  | none=>rw[f]at h;simp[JR]at h
  | some g =>
   rw[f]at h;simp only[JR]at h;cases i:lk g σ.env with
   | none=>rw[i]at h;simp[QG]at h
   | some v =>
    rw[i]at h;unfold QG at h;split at h
    ·rename_i l m;cases m;cases h;have d:=hs.env g _ i;have d:=EC d;have p:(ops[j]?).bind (·.dst)=some g:=by simpa using f
     have n:a.tmps[g]?=some (.bool l):=by
      by_cases k:g<a.tmps.size
      ·have:a.tmps.getD g undef=a.tmps[g]:=by simp[Array.getD,k]
       rw[this]at d;rw[AA9 k,d]
      ·have:a.tmps.getD g undef=undef:=by simp[Array.getD,k]
       rw[this]at d;cases d
     simp only[Region.wanted,e,yielded,p,Option.bind_some,n];cases l<;>cases q<;>rfl
    ·cases h
theorem MY {σ:St} {a:Act} {w:World} (b:c.Ok) (hs:c.sat σ a w) {dst:Option Nat} (e:∀d,dst=some d→d<c.nt):c.sat (σ.add (.raw undef) [] dst) (a.put dst undef) w:=by
 obtain⟨ρ,hs⟩:=hs;exact⟨ρ,hs.add b.K b.O e (by simp[BZ]) (QS.still rfl)⟩
def Iu (nt:Nat) (o:Oper):Bool :=
 match o.dst with
 | some d=>decide (d<nt)
 | none=>true
theorem Bq {nt:Nat} {o:Oper} (h:Iu nt o=true):∀d,o.dst=some d→d<nt:=by
 intro d a;simpa[Iu,a] using h
theorem QN (e:c.Ok) {ops:Array Oper} {Q:Exit→Act→World→Prop} {r:List Oper}:∀(l:List Oper) {σ σ':St} {vc:Prop} {a:Act} {w:World},c.sat σ a w→(∀o∈l,Iu c.nt o=true)→Bt c.tb ops.toList l σ=some (vc,σ')→vc →
  (∀i w',c.sat σ' i w'→wpListIn (FR c.r) 0 c.P ops Q r i w')→wpListIn (FR c.r) 0 c.P ops Q (l++r) a w
 | [],σ,σ',vc,a,w,hs,f,h,g,d=>by
  simp only[Bt]at h;cases h;exact d _ _ hs
 | o :: l,σ,σ',vc,a,w,hs,f,h,g,d=>by
  simp only[Bt]at h;cases j:ER ops.toList σ o.guard with
  | none=>rw[j]at h;simp[evG]at h
  | some b =>
   rw[j]at h;have q:=HZ hs j;have p:=Bq (f o (by simp));rw[AB3];unfold wpListIn;cases b with
   | true =>
    simp only[evG]at h;rw[BY q];cases m:Fk c.tb o σ with
    | none=>rw[m]at h;simp[evK]at h
    | some r =>
     obtain⟨v,u⟩:=r;rw[m]at h;simp only[evK]at h;cases hr:Bt c.tb ops.toList l u with
     | none=>rw[hr]at h;simp[Sw]at h
     | some t =>
      obtain⟨x,σ2⟩:=t;rw[hr]at h;simp only[Sw]at h;cases h;exact Ol e hs m g.1 p fun i w' s=>QN e l s (fun n k=>f n (by simp[k])) hr g.2 d
   | false =>
    simp only[evG]at h;rw[At (by simp[q])];refine⟨fun _ _=>trivial,?_⟩;exact QN e l (MY e hs p) (fun n k=>f n (by simp[k])) h g d
theorem Om (e:c.Ok) {ops:Array Oper} {Q:Exit→Act→World→Prop}:∀(l:List Oper) {σ σ':St} {vc:Prop} {a:Act} {w:World},c.sat σ a w→(∀o∈l,Iu c.nt o=true)→Bt c.tb ops.toList l σ=some (vc,σ')→vc →
  (∀i w',c.sat σ' i w'→Q .normal i w')→wpListIn (FR c.r) 0 c.P ops Q l a w
 | [],σ,σ',vc,a,w,hs,f,h,g,d=>by
  simp only[Bt]at h;cases h;exact d _ _ hs
 | o :: l,σ,σ',vc,a,w,hs,f,h,g,d=>by
  simp only[Bt]at h;cases j:ER ops.toList σ o.guard with
  | none=>rw[j]at h;simp[evG]at h
  | some b =>
   rw[j]at h;have q:=HZ hs j;have p:=Bq (f o (by simp));unfold wpListIn;cases b with
   | true =>
    simp only[evG]at h;rw[BY q];cases m:Fk c.tb o σ with
    | none=>rw[m]at h;simp[evK]at h
    | some r =>
     obtain⟨v,u⟩:=r;rw[m]at h;simp only[evK]at h;cases hr:Bt c.tb ops.toList l u with
     | none=>rw[hr]at h;simp[Sw]at h
     | some t =>
      obtain⟨x,σ2⟩:=t;rw[hr]at h;simp only[Sw]at h;cases h;exact Ol e hs m g.1 p fun i w' s=>Om e l s (fun n k=>f n (by simp[k])) hr g.2 d
   | false =>
    simp only[evG]at h;rw[At (by simp[q])];refine⟨fun _ _=>trivial,?_⟩;exact Om e l (MY e hs p) (fun n k=>f n (by simp[k])) h g d
end
end
section
open Go Go.RowKit
inductive DX where
 | seq (c:Code)
 | blk (id:Nat)
 
 | inv (post:St→Prop)
def Bk (nt:Nat):Code→Bool
 | .region _ ops _=>ops.toList.all (Iu nt)
 | .seq a b=>Bk nt a&&Bk nt b
 | .cond _ a b=>Bk nt a&&Bk nt b
 | .block _ b=>Bk nt b
 | .loop b=>Bk nt b
 | .scope b=>Bk nt b
 | _=>true
def Cw (nt:Nat):List DX→Bool
 | []=>true
 | .seq c :: k=>Bk nt c&&Cw nt k
 | _ :: k=>Cw nt k
def SQ (c:Cx) (R:Exit→Act→World→Prop):List DX→Exit→Act→World→Prop
 | [],e,a,w=>R e a w
 | .seq y :: k,.normal,a,w=>y.wpIn (FR c.r) 0 c.P (SQ c R k) a w
 | .seq _ :: k,e,a,w=>SQ c R k e a w
 | .blk id :: k,.exit b,a,w=>if b=id then SQ c R k .normal a w else SQ c R k (.exit b) a w
 | .blk _ :: k,e,a,w=>SQ c R k e a w
 | .inv post :: _,.normal,a,w=>∃σ,c.sat σ a w∧post σ
 | .inv _ :: k,e,a,w=>SQ c R k e a w
inductive mW where
 | run (cd:Code)
 | out (e:Exit)
def nwp (c:Cx) (R:Exit→Act→World→Prop) (k:List DX):mW→Act→World→Prop
 | .run cd,a,w=>cd.wpIn (FR c.r) 0 c.P (SQ c R k) a w
 | .out e,a,w=>SQ c R k e a w
def H2 (nt:Nat):mW→Bool
 | .run cd=>Bk nt cd
 | .out _=>true
def Ev (c:Cx) (R:Exit→Act→World→Prop) (n:mW) (k:List DX) (σ:St):Prop :=
 H2 c.nt n=true→Cw c.nt k=true→∀a w,c.sat σ a w→nwp c R k n a w
theorem SB {F:Fence} {j:Nat} {P:Program} {Q:Exit→Act→World→Prop} {a:Act} {w:World} {c:Code} (b:Nat→Act→World→Prop) (i:Nat) (o:b i a w)
  (round:∀n a w,b n a w→c.wpIn F j P (Exit.then (fun g w'=>∃f,f<n∧b f g w') Q) a w):(Code.loop c).wpIn F j P Q a w:=by
 refine wpIn_loop (fun a w=>∃n,b n a w) (fun a w=>leastOf (fun n=>b n a w)) ⟨i,o⟩ ?_;intro a w k;refine ACt (round _ a w (leastOf_spec k).1) ?_;intro e g w' d;cases e with
 | normal =>
  obtain⟨f,m,h⟩:=d;exact show (∃n,b n g w')∧leastOf (fun n=>b n g w')<leastOf (fun n=>b n a w) from ⟨⟨f,h⟩,ACh ((leastOf_spec ⟨f,h⟩).2 f h) m⟩
 | exit id=>exact d
 | goto l=>exact d
 | ret=>exact d
 | panic ch=>exact d
 | outgrown=>exact d
def Ent (c:Cx) (σ σ':St):Prop:=∀a w,c.sat σ a w→c.sat σ' a w
section
variable {c:Cx} {R:Exit→Act→World→Prop} {k:List DX} {σ σ':St}
theorem Ev.ent {n:mW} (h:Ev c R n k σ') (d:Ent c σ σ'):Ev c R n k σ:=fun h1 b a w hs=>h h1 b a w (d a w hs)
theorem A3o {x y:Code} (h:Ev c R (.run x) (.seq y :: k) σ):Ev c R (.run (.seq x y)) k σ:=by
 intro h1 b a w hs;simp only[H2,Bk,An]at h1;refine wpIn_seq (ACt (h h1.1 (by simp[Cw,h1.2,b]) a w hs) ?_);intro e f w' d;cases e<;>exact d
theorem mX (h:Ev c R (.out .normal) k σ):Ev c R (.run .skip) k σ:=fun _ b a w hs=>wpIn_skip (h rfl b a w hs)
theorem A3p (h:Ev c R (.out .ret) k σ):Ev c R (.run .ret) k σ:=fun _ b a w hs=>wpIn_ret (h rfl b a w hs)
theorem A1B {id:Nat} (h:Ev c R (.out (.exit id)) k σ):Ev c R (.run (.exit id)) k σ:=fun _ b a w hs=>wpIn_exit (h rfl b a w hs)
theorem uW {id:Nat} {b:Code} (h:Ev c R (.run b) (.blk id :: k) σ):Ev c R (.run (.block id b)) k σ:=by
 intro h1 d a w hs;refine wpIn_block (ACt (h (by simpa[H2,Bk] using h1) (by simpa[Cw] using d) a w hs) ?_);intro e g w' f;cases e<;>exact f
def EvR (c:Cx) (R:Exit→Act→World→Prop) (k:List DX):Cz→Prop
 | some (vc,σ)=>vc∧Ev c R (.out .normal) k σ
 | none=>False
theorem pV (e:c.Ok) {id:Nat} {ops:Array Oper} (h:EvR c R k (Bt c.tb ops.toList ops.toList σ)):Ev c R (.run (.region id ops false)) k σ:=by
 intro h1 d a w hs;cases hr:Bt c.tb ops.toList ops.toList σ with
 | none=>rw[hr]at h;exact h.elim
 | some r =>
  obtain⟨vc,σ'⟩:=r;rw[hr]at h;simp only[H2,Bk,Do]at h1;exact AC6 (Om e ops.toList hs h1 hr h.1 fun b w' f=>h.2 rfl d b w' f)
def EvC (c:Cx) (R:Exit→Act→World→Prop) (x y:Code) (k:List DX) (σ:St):Option AV→Prop
 | some (.p .bool b)=>(b=true→Ev c R (.run x) k σ)∧(b=false→Ev c R (.run y) k σ)
 | _=>False
theorem A1C {o:Operand} {x y:Code} (h:EvC c R x y k σ (Ae σ o)):Ev c R (.run (.cond o x y)) k σ:=by
 intro h1 g a w hs;simp only[H2,Bk,An]at h1;obtain⟨ρ,f⟩:=hs;have j:=Dn f.env;cases e:Ae σ o with
 | none=>rw[e]at h;exact h.elim
 | some v =>
  have l:=j o v e;rw[e]at h;unfold EvC at h;split at h
  ·rename_i b i;cases i;have d:=EC l;exact wpIn_cond_split d (fun d=>h.1 d h1.1 g a w ⟨ρ,f⟩) (fun d=>h.2 d h1.2 g a w ⟨ρ,f⟩)
  ·exact h.elim
theorem H3 {y:Code} (h:Ev c R (.run y) k σ):Ev c R (.out .normal) (.seq y :: k) σ:=by
 intro _ b a w hs;simp only[Cw,An]at b;exact h b.1 b.2 a w hs
theorem ZW {id:Nat} {y:Code} (h:Ev c R (.out (.exit id)) k σ):Ev c R (.out (.exit id)) (.seq y :: k) σ:=by
 intro _ b a w hs;simp only[Cw,An]at b;exact h rfl b.2 a w hs
theorem iV {y:Code} (h:Ev c R (.out .ret) k σ):Ev c R (.out .ret) (.seq y :: k) σ:=by
 intro _ b a w hs;simp only[Cw,An]at b;exact h rfl b.2 a w hs
theorem iW {id:Nat} (h:Ev c R (.out .normal) k σ):Ev c R (.out .normal) (.blk id :: k) σ:=fun _ b a w hs=>h rfl (by simpa[Cw] using b) a w hs
theorem RZ {id b:Nat} (h:if b=id then Ev c R (.out .normal) k σ else Ev c R (.out (.exit b)) k σ):Ev c R (.out (.exit b)) (.blk id :: k) σ:=by
 intro _ d a w hs;have d:Cw c.nt k=true:=by simpa[Cw] using d
 show (if b=id then SQ c R k .normal a w else SQ c R k (.exit b) a w);split at h
 ·rename_i e;rw[BY e];exact h rfl d a w hs
 ·rename_i e;rw[At e];exact h rfl d a w hs
theorem iX {id:Nat} (h:Ev c R (.out .ret) k σ):Ev c R (.out .ret) (.blk id :: k) σ:=fun _ b a w hs=>h rfl (by simpa[Cw] using b) a w hs
theorem AB {post:St→Prop} (h:post σ):Ev c R (.out .normal) (.inv post :: k) σ:=fun _ _ _ _ hs=>⟨σ,hs,h⟩
theorem ZX {id:Nat} {post:St→Prop} (h:Ev c R (.out (.exit id)) k σ):Ev c R (.out (.exit id)) (.inv post :: k) σ:=fun _ b a w hs=>h rfl (by simpa[Cw] using b) a w hs
theorem iY {post:St→Prop} (h:Ev c R (.out .ret) k σ):Ev c R (.out .ret) (.inv post :: k) σ:=fun _ b a w hs=>h rfl (by simpa[Cw] using b) a w hs
def A4r (c:Cx) {ι:Type} (I:ι→St) (μ:ι→Nat) (i:ι) (σ:St):Prop:=∃j,μ j<μ i∧Ent c σ (I j)
theorem AI {ι:Type} (d:ι→St) (f:ι→Nat) (g:ι) {b:Code} (h0:Ent c σ (d g)) (o:∀i,Ev c R (.run b) (.inv (A4r c d f i) :: k) (d i)):Ev c R (.run (.loop b)) k σ:=by
 intro h1 m a w hs;have h1:Bk c.nt b=true:=by simpa[H2,Bk] using h1
 refine SB (fun n a w=>∃i,f i=n∧c.sat (d i) a w) (f g) ⟨g,rfl,h0 a w hs⟩ ?_;rintro n a w ⟨i,rfl,hs⟩;refine ACt (o i h1 (by simpa[Cw] using m) a w hs) ?_;intro e l w' h;cases e with
 | normal =>
  obtain⟨σ',r,j,q,p⟩:=h;exact⟨f j,q,j,rfl,p l w' r⟩
 | _=>exact h
theorem Oo {ι:Type} (b:ι→St) {x y:Code} (h:Ev c R (.run x) (.inv (fun σ'=>∃i,Ent c σ' (b i)) :: .seq y :: k) σ) (m:∀i,Ev c R (.run y) k (b i)):Ev c R (.run (.seq x y)) k σ:=by
 intro h1 f a w hs;simp only[H2,Bk,An]at h1;refine wpIn_seq (ACt (h h1.1 (by simp[Cw,h1.2,f]) a w hs) ?_);intro e d w' g;cases e with
 | normal =>
  obtain⟨σ',l,i,j⟩:=g;exact m i h1.2 f d w' (j d w' l)
 | _=>exact g
end
end
section
open Go Go.RowKit
def AM:Nat→(ts:List Ty)→KI ts→List (Nat×AV)
 | _,[],_=>[]
 | s,t :: ts,d=>(s,.p t d.1) :: AM (s+1) ts d.2
def KX (σ:St) (ty:Ty):Option AV→Option AV
 | some (.bp n a off)=>match EJ ty a off (lk n σ.objs) with
  | some (_,v,_)=>some v
  | none=>none
 | _=>none
def H5 (tb:Tb) (σ:St):ResultVar→Option AV
 | .tmp t=>lk t σ.env
 | .cell a t=>match lk t tb.ty with
  | some ti=>KX σ ti.ty (lk a σ.env)
  | none=>none
def MZ:Option AV→List Nat
 | some v=>v.names
 | none=>[]
def JU (σ:St) (t:Ty):Option AV→Option t.den
 | some v=>KJ false σ t v
 | none=>none
def Gj (σ:St) (et:TypeId) (e:Ty):Option Obj→Option (List e.den)
 | some (.arr b a xs)=>if b=et then BO (.slice e) ⟨.slice a,xs⟩ else none
 | _=>none
def Iv (tb:Tb) (σ:St) (rv:ResultVar):RV→Prop
 | .p t d=>JU (Ca (MZ (H5 tb σ rv)) σ) t (H5 tb (Ca (MZ (H5 tb σ rv)) σ) rv)=some d
 | .own et e xs=>match H5 tb σ rv with
  | some (.sr n a 0 hi)=>a=e∧Gj σ et e (lk n σ.objs)=some xs∧hi=xs.length
  | _=>False
def NL (tb:Tb) (σ:St):List ResultVar→List RV→Prop
 | [],[]=>True
 | [rv],[r]=>Iv tb σ rv r
 | rv :: b,.p t d :: a=>Iv tb σ rv (.p t d)∧NL tb σ b a
 | _,_=>False
section
variable {P:Program} {tb:Tb} {w0:World} {O0:Nat→Prop} {nt:Nat} {ds:Fp}
def cx (P:Program) (tb:Tb) (w0:World) (O0:Nat→Prop) (nt:Nat):Cx:={ P:=P,tb:=tb,w0:=w0,K:=fun b=>b<w0.heap.size,O0:=O0,nt:=nt }
theorem WE:∀(ts:List Ty) (a:List Value) (ds:KI ts) (k:Nat) (w:World) (O:Nat→Prop),RQ w O ts a ds→∀s v,lk s (AM k ts ds)=some v→k≤s∧∃u,a[s-k]?=some u∧∃t d,v=.p t d∧BW w O t u d
 | [],a,ds,k,w,O,h,s,v,hs=>by simp[AM,lk]at hs
 | t :: ts,a,ds,k,w,O,h,s,v,hs=>by
  obtain⟨u,r,rfl,h1,b⟩:=h;simp only[AM,lk]at hs;split at hs
  ·rename_i e;cases hs;subst e;exact⟨NO _,u,by simp,t,ds.1,rfl,h1⟩
  ·obtain⟨i,g,c,f⟩:=WE ts r ds.2 (k+1) w O b s v hs;refine⟨by omega,g,?_,f⟩;rw[show s-k=(s-(k+1))+1 by omega];simpa using c
theorem Ra:∀ {ts:List Ty} {a:List Value} {ds:KI ts} {w:World} {O:Nat→Prop},RQ w O ts a ds→a.length=ts.length
 | [],a,ds,w,O,h=>by have h:a=[]:=h;subst h;rfl
 | t :: ts,a,ds,w,O,h=>by
  obtain⟨u,r,rfl,h1,b⟩:=h;simp[Ra b]
theorem pW {ts:List Ty} {a:List Value} {ds:KI ts} (h:RQ w0 O0 ts a ds) (k:a.length≤nt) :
  (cx P tb w0 O0 nt).sat ⟨AM 0 ts ds,[]⟩ { tmps:=a.toArray++Array.replicate (nt-a.toArray.size) undef,defers:=[] } w0:=by
 refine⟨fun _=>undef,⟨rfl,rfl,rfl,NO _,fun _ _=>rfl⟩,by simp[cx];omega,rfl,(fun p hp=>by simp[cx]at hp),fun n o h=>by simp[lk]at h,fun n b ⟨o,h⟩=>by simp[lk]at h,fun n m b ⟨o,h⟩=>by simp[lk]at h,fun s v hs=>?_⟩;obtain⟨_,u,h1,t,d,rfl,e⟩:=WE ts a ds 0 w0 O0 h s v hs;have c:s<a.length:=by
  have:=(QB.1 h1).1;simpa using this
 have i:(a.toArray++Array.replicate (nt-a.toArray.size) undef).getD s undef=u:=by
  have h1:a[s]?=some u:=by simpa using h1
  have:a[s]=u:=by rw[AT c]at h1;injection h1
  simp[Array.getElem?_append,c,this]
 rw[i];refine BW.mono (fun b _ f g=>?_) (fun _ _ _=>rfl) e;rcases g with h0|⟨n,⟨o,j⟩,_⟩
 ·exact f h0
 ·simp[lk]at j
def Jr (tmps:Array Value):ResultVar→Sem Value
 | .tmp t=>pure (tmps.getD t undef)
 | .cell a t=>do loadVar t (←asAddr (tmps.getD a undef))
theorem Nf (fn:Func) (tmps:Array Value):results fn tmps=(do let a ←fn.results.mapM (Jr tmps);pure (if h:a.size=1 then a[0] else .tuple a)):=by
 unfold results
 congr 1
theorem SR (hT:DB P tb) {K:Nat→Prop} {σ:St} {ρ:Nat→Value} {a:Act} {w:World} (hs:Bo w0 K O0 nt ds σ ρ a w) {rv:ResultVar} {v:AV} (h:H5 tb σ rv=some v) :
  ∃u,(Jr a.tmps rv).run P w=.ok u w∧B2 (vw w O0 σ ρ) v u:=by
 cases rv with
 | tmp t =>
  simp only[H5]at h;exact⟨_,by simp[Jr],hs.env t v h⟩
 | cell x t =>
  simp only[H5]at h;cases d:lk t tb.ty with
  | none=>rw[d]at h;simp at h
  | some ti =>
   rw[d]at h;simp only at h;cases e:lk x σ.env with
   | none=>rw[e]at h;simp[KX]at h
   | some xv =>
    rw[e]at h;unfold KX at h;split at h
    ·rename_i n l off i;cases i;have f:=hs.env x _ e;split at h
     ·rename_i vc o obs j;cases h;have k:Im σ (some ti) (some (.bp n l off))=some (vc,v,obs):=j;obtain⟨_,u,h1,g⟩:=uE (hT _ _ d) hs.objs k f;obtain⟨m,b,_,c⟩:=f;rw[c]at h1;have c:a.tmps.getD x undef=.pointer (some ⟨b,off,none⟩):=c;refine⟨u,?_,g⟩;simp only[Instr.loadAt,Instr.sureAddr,AAH,AB6,AA6]at h1;simp only[Jr,c,asAddr,AAH,AB6,AA6,h1]
     ·cases h
    ·cases h
theorem A1D (hT:DB P tb) {K:Nat→Prop} {σ:St} {ρ:Nat→Value} {a:Act} {w:World} (hs:Bo w0 K O0 nt ds σ ρ a w) {rv:ResultVar} {t:Ty} {d:t.den} (h:Iv tb σ rv (.p t d)) :
  ∃u,(Jr a.tmps rv).run P w=.ok u w∧BW w O0 t u d:=by
 unfold Iv at h;have c:=KW (l:=MZ (H5 tb σ rv)) hs;generalize Ca (MZ (H5 tb σ rv)) σ=e at h c;cases hr:H5 tb e rv with
 | none=>rw[hr]at h;simp[JU]at h
 | some v =>
  rw[hr]at h;simp only[JU]at h;obtain⟨u,h1,f⟩:=SR hT c hr;have g:=Jo (V:=vw w O0 e ρ) (O':=O0) (fun b i j=>i (.inl j)) (fun h=>by cases h) c.objs h f;exact⟨u,h1,g⟩
theorem uX (hT:DB P tb) {K:Nat→Prop} {σ:St} {ρ:Nat→Value} {a:Act} {w:World} (hs:Bo w0 K O0 nt ds σ ρ a w):∀ {f:List ResultVar} {c:List RV},(∀r∈c,∃t d,r=.p t d)→NL tb σ f c →
  ∃e:List Value,(f.mapM (Jr a.tmps)).run P w=.ok e w∧e.length=c.length ∧
   ∀nm V,V.w=w→(∀b,V.O b→O0 b)→Jl V (Lf nm c) e
 | [],[],_,_=>⟨[],by simp,rfl,fun _ _ _ _=>rfl⟩
 | [],_ :: _,_,h=>by simp[NL]at h
 | _ :: _,[],_,h=>by simp[NL]at h
 | rv :: f,r :: c,hp,h=>by
  obtain⟨t,d,rfl⟩:=hp r (by simp);have g:Iv tb σ rv (.p t d)∧NL tb σ f c:=by
   cases f with
   | nil =>
    cases c with
    | nil=>exact⟨h,trivial⟩
    | cons s v=>exact⟨h.1,h.2⟩
   | cons x y=>exact⟨h.1,h.2⟩
  obtain⟨u,h1,k⟩:=A1D hT hs g.1;obtain⟨e,l,m,n⟩:=uX hT hs (fun r hr=>hp r (by simp[hr])) g.2;refine⟨u :: e,?_,by simp[m],fun nm V j i=>⟨u,e,rfl,?_,n _ V j i⟩⟩
  ·rw[List.mapM_cons];simp only[AAH,h1,AA6,l,AB6]
  ·show BW V.w V.O t u d;rw[j];exact BW.mono (fun b _ o q=>o (i b q)) (fun _ _ _=>rfl) k
def Rb (P:Program) (fn:Func) (w0:World) (O0:Nat→Prop) (a:List RV):Exit→Act→World→Prop :=
 bodyPost P fn fun e w'=>∃u,e=.returned u∧uN w0 O0 a u w'
theorem uY (x:(cx P tb w0 O0 nt).Ok) {fn:Func} {g:List RV} {σ:St} {e:Exit} (y:e=.ret∨e=.normal) (hp:∀r∈g,∃t d,r=.p t d) (h:NL tb σ fn.results.toList g) :
  Ev (cx P tb w0 O0 nt) (Rb P fn w0 O0 g) (.out e) [] σ:=by
 intro _ _ a w hs;obtain⟨ρ,hs⟩:=hs;obtain⟨f,h1,i,m⟩:=uX x.T hs hp h;have h1:(fn.results.toList.mapM (Jr a.tmps)).run P w=.ok f w:=h1;have s:Below w0.heap.size w0 w:=⟨hs.frm.os,hs.frm.tape,hs.frm.output,hs.frm.size,hs.frm.block⟩;have C:∃v,(results fn a.tmps).run P w=.ok v w∧uN w0 O0 g v w:=by
  have A:(fn.results.mapM (Jr a.tmps)).run P w=.ok f.toArray w:=by
   rw[ABs];simp only[Sem.run_map,h1,AA6]
  refine⟨if h:f.toArray.size=1 then f.toArray[0] else .tuple f.toArray,?_,fun nm=>⟨fun _=>undef,?_⟩⟩
  ·rw[Nf];simp only[AAH,A,AA6,AB6]
  ·have z:Cj nm g=[]:=by
    clear h h1 i m;induction g generalizing nm with
    | nil=>rfl
    | cons r E D =>
     obtain⟨t,d,rfl⟩:=hp r (by simp);simp only[Cj,OO,ABf];exact D (fun r hr=>hp r (by simp[hr])) (nm+10000)
   rw[z];refine⟨s,fun _ _=>rfl,?_,(fun _ _ h=>by cases h),(fun _ _ _ h=>by cases h),(fun _ _ _ _ _ h=>by cases h)⟩;have c:=m nm (vw w O0 (EL ⟨[],[]⟩ []) (fun _=>undef)) rfl (fun b q=>by
    rcases q with h0|⟨n,⟨o,B⟩,_⟩
    ·exact h0
    ·simp[EL,lk]at B)
   match g,hp,f,i,c with
   | [],_,f,i,c =>
    have c:f=[]:=c;subst c;exact(rfl:_=_)
   | [r],hp,f,i,c =>
    obtain⟨u,l,rfl,j,k⟩:=c;have k:l=[]:=k;subst k;simp only[Il];exact t5 j
   | F :: G :: E,hp,f,i,c =>
    have:¬f.toArray.size=1:=by simp at i ⊢;omega
    rw[dif_neg this];exact⟨f,rfl,c⟩
 obtain⟨v,c,j⟩:=C;rcases y with rfl|rfl
 ·exact⟨hs.defers,v,c,v,rfl,j⟩
 ·exact⟨hs.defers,v,c,v,rfl,j⟩
end
end
section
open Go Go.RowKit
def Ty.ok:(t:Ty)→t.den→Prop
 | .int k,d=>K9 k d
 | .bool,_=>True
 | .str,d=>ByteArray.size d≤AO
 | .slice e,d=>List.length d≤AO∧∀x∈(d:List e.den),e.ok x
 | .prod a b,d=>a.ok d.1∧b.ok d.2
 | .agg t,d=>t.ok d
 | .ref _,_=>True
theorem H6 {w:World} {O:Nat→Prop}:∀ {t:Ty} {cs:List Value} {d:t.den},Br w O t cs d→t.ok d
 | .int _,_,_,h=>h.2
 | .bool,_,_,_=>trivial
 | .str,_,_,h=>h.2
 | .ref _,_,_,_=>trivial
 | .slice e,_,d,h=>by
  obtain⟨a,c,_,_,f,g⟩:=h;refine⟨f,fun x j=>?_⟩;rcases g with g|⟨ad,_,_,k⟩
  ·subst g;simp at j
  ·obtain⟨i,hi,rfl⟩:=AAf.1 j;obtain⟨l,_,_,hr⟩:=k i _ (AT hi);exact H6 hr
 | .prod a b,_,_,h=>by
  obtain⟨c1,c2,_,h1,f⟩:=h;exact⟨H6 h1,H6 f⟩
 | .agg t,cs,d,h=>by
  have h:Br w O t cs d:=h;exact(H6 h:t.ok d)
def oks:(ts:List Ty)→KI ts→Prop
 | [],_=>True
 | t :: ts,d=>t.ok d.1∧oks ts d.2
theorem mY {w:World} {O:Nat→Prop}:∀ {ts:List Ty} {a:List Value} {ds:KI ts},RQ w O ts a ds→oks ts ds
 | [],_,_,_=>trivial
 | t :: ts,a,ds,h=>by
  obtain⟨v,r,rfl,⟨cs,h1,_⟩,b⟩:=h;exact⟨H6 h1,mY b⟩
section
variable {P:Program} {tb:Tb} {w0:World} {O0:Nat→Prop} {nt:Nat}
theorem A2Q {f : FuncId} {fn : Func} {cd : Code} {a : Ac} (e : P.funcs[f]? = some fn) (k : (fn.name == "runtime.NumGoroutine") = false) (d : fn.body = some cd) (l : fn.ntmps = nt) (o : a.ins.length ≤ nt)
  (j:Bk nt cd=true) (hT:DB P tb) (hF:Iq P tb)
  (h:∀(w0:World) (O0:Nat→Prop) (ds:KI a.ins),(cx P tb w0 O0 nt).Ok→oks a.ins ds→a.pre ds→Ev (cx P tb w0 O0 nt) (Rb P fn w0 O0 (a.out ds)) (.run cd) [] ⟨AM 0 a.ins ds,[]⟩):Ah P f a:=by
 refine⟨⟨fn,e,k,by simp[d]⟩,fun w O q ds g c m=>?_⟩;refine calls_of_wp e d ((wpIn_wide (n:=0)).1 ?_);have p:=Ra c;rw[l];exact h w O ds ⟨fun b i=>i,g,hT,hF⟩ (mY c) m j rfl _ _ (pW c (by omega))
theorem H7 (O:(cx P tb w0 O0 nt).Ok) {fn:Func} {et:TypeId} {e:Ty} {xs:List e.den} {σ:St} {ex:Exit} (p:ex=.ret∨ex=.normal) {rv:ResultVar} (hr:fn.results=#[rv]) (h:Iv tb σ rv (.own et e xs)) :
  Ev (cx P tb w0 O0 nt) (Rb P fn w0 O0 [.own et e xs]) (.out ex) [] σ:=by
 intro _ _ a w hs;obtain⟨ρ,hs⟩:=hs;have N:Below w0.heap.size w0 w:=⟨hs.frm.os,hs.frm.tape,hs.frm.output,hs.frm.size,hs.frm.block⟩;unfold Iv at h;simp only at h;split at h
 ·rename_i n X hi S;obtain⟨rfl,c,rfl⟩:=h;cases hn:lk n σ.objs with
  | none=>rw[hn]at c;simp[Gj]at c
  | some o =>
   rw[hn]at c;cases o with
   | box f aj fs=>simp[Gj]at c
   | mapo k v l=>simp[Gj]at c
   | frame ak fs=>simp[Gj]at c
   | loop L=>simp[Gj]at c
   | itr af ai ag ah ad=>simp[Gj]at c
   | dfr=>simp[Gj]at c
   | nest Y ae k d ys A=>simp[Gj]at c
   | arr f d ys =>
    simp only[Gj]at c;split at c
    ·rename_i R;subst R;obtain⟨rfl,I⟩:=Bm c;cases I;obtain⟨u,hu,K⟩:=SR (P:=P) O.T hs S;obtain⟨Z,y⟩:=K;have C:=hs.objs n _ hn;have q:u=ρ n:=by
      obtain⟨a0,m,c0,t,_,aa,U,V,rfl,_,h0,_⟩:=y;have t:plc (ρ n)=_:=t;obtain⟨rfl,rfl⟩:=h0 rfl;obtain⟨_,cells,s,_⟩:=C;have s:w.ownsRow 0 f d.size (ρ n) ys.length cells:=s;rw[HX s]at t;have r:m=ys.length:=by
       rcases s.2 with ⟨p,ab⟩|⟨g,cap,W,p,_⟩
       ·rw[t]at p;injection p;omega
       ·rw[t]at p;injection p
      rw[t,r,ACf]
     have D:(results fn a.tmps).run P w=.ok u w:=by
      rw[Nf,hr];have:((#[rv]:Array ResultVar).mapM (Jr a.tmps)).run P w=.ok #[u] w:=by
       rw[ABs];simp[hu]
      simp only[AAH,this,AA6,AB6];rfl
     have z:uN w0 O0 [.own f d ys] u w:=by
      intro nm;have B:∀m,Gb (EL ⟨[],[]⟩ [(nm,.arr f d ys)]) m↔m=nm:=by
       intro m;simp[Gb,EL,lk]
      have hk:∀b,¬own O0 σ ρ b→¬own O0 (EL ⟨[],[]⟩ [(nm,.arr f d ys)]) (EM (fun _=>undef) nm u) b:=by
       intro b j M;rcases M with h0|⟨m,A,r⟩
       ·exact j (.inl h0)
       ·rw[(B m).1 A,Bj,q]at r;exact j (.inr ⟨n,⟨_,hn⟩,r⟩)
      have J:Cj nm [RV.own f d ys]=[(nm,.arr f d ys)]:=rfl;rw[J];refine⟨EM (fun _=>undef) nm u,QS.one (loc:=u) N (fun b j=>?_) ?_ ?_⟩
      ·rw[q]at j;have:=(hs.free n b ⟨_,hn⟩ j).1;simp only[cx]at this;omega
      ·refine⟨(B nm).2 rfl,?_⟩;show DA (plc (EM (fun _=>undef) nm u nm)) _ _ _ u;rw[Bj,q];rw[q]at y;exact y
      ·rw[q];obtain⟨r,cells,s,Q⟩:=C;refine⟨r,cells,s,fun i x hi=>?_⟩;obtain⟨E,F,G,H⟩:=Q i x hi;rw[q]at hk;exact⟨E,F,G,H.mono (fun b _ j=>hk b j) (fun _ _ _=>rfl)⟩
     rcases p with rfl|rfl
     ·exact⟨hs.defers,u,D,u,rfl,z⟩
     ·exact⟨hs.defers,u,D,u,rfl,z⟩
    ·cases c
 ·exact h.elim
end
end
section
open Go Go.RowKit
section
variable {P:Program} {tb:Tb} {w0:World} {O0:Nat→Prop} {nt:Nat} {R:Exit→Act→World→Prop} {k:List DX} {σ σ':St}
theorem WF:(cx P tb w0 O0 nt).tb=tb:=rfl
theorem iZ {c:Cx} (a:c.Ok) {id:Nat} {l:List Oper} {vc:Prop} (h:Bt c.tb l l σ=some (vc,σ')) (b:vc) (hk:Ev c R (.out .normal) k σ') :
  Ev c R (.run (.region id l.toArray false)) k σ:=pV a (by
 show EvR _ _ _ (Bt c.tb l l σ);rw[h];exact⟨b,hk⟩)
theorem De {c:Cx} {o:Operand} {x y:Code} {b:Bool} (h:Ae σ o=some (.p .bool b)) (a:b=true→Ev c R (.run x) k σ) (hf:b=false→Ev c R (.run y) k σ):Ev c R (.run (.cond o x y)) k σ :=
 A1C (by rw[h];exact⟨a,hf⟩)
theorem i3 {c:Cx} {id:Nat} (h:Ev c R (.out .normal) k σ):Ev c R (.out (.exit id)) (.blk id :: k) σ:=RZ (by rw[BY rfl];exact h)
theorem i4 {c:Cx} {id a:Nat} (b:a≠id) (h:Ev c R (.out (.exit a)) k σ):Ev c R (.out (.exit a)) (.blk id :: k) σ:=RZ (by rw[At b];exact h)
end
inductive CO where
 | nm (n:Nat)
 | nil
def Db (ren:List (Nat×CO)):AV→AV→Prop
 | .p t d,.p u a=>BO u ⟨t,d⟩=some a
 | .raw (.slice none 0 0),.p (.slice e) a=>(a:List e.den)=[]
 | .raw v,.raw u=>v=u
 | .raw (.slice none 0 0),.sr m _ lo hi=>lk m ren=some .nil∧lo=0∧hi=0
 | .sr n e lo hi,.sr m b h c=>lk m ren=some (.nm n)∧e=b∧lo=h∧hi=c
 | .ip t d,.ip u a=>BO u ⟨t,d⟩=some a
 | .bp n p o,.bp m k j=>lk m ren=some (.nm n)∧p=k∧o=j
 | .fn f,.fn g=>f=g
 | .clo f ns,.clo g i=>f=g∧i.map (fun m=>lk m ren)=ns.map fun n=>some (.nm n)
 | .mp n,.mp m=>lk m ren=some (.nm n)
 | .yl n,.yl m=>lk m ren=some (.nm n)
 | _,.top=>True
 | _,_=>False
def Ed (ren:List (Nat×CO)):List AV→List AV→Prop
 | [],[]=>True
 | x :: l,y :: r=>(x.cells=y.cells∧Db ren x y)∧Ed ren l r
 | _,_=>False
def HA (ren:List (Nat×CO)):AV→AV→Prop
 | .ag l,.ag r=>Ed ren l r
 | x,y=>Db ren x y
def Ha (ren:List (Nat×CO)):List AV→List AV→Prop
 | [],[]=>True
 | x :: l,y :: r=>HA ren x y∧Ha ren l r
 | _,_=>False
def Bx (ren:List (Nat×CO)):AV→AV→Prop
 | .tup l,.tup r=>Ha ren l r
 | x,y=>HA ren x y
def JV (ren:List (Nat×CO)):Option AV→AV→Prop
 | some x,y=>Bx ren x y
 | none,.top=>True
 | none,_=>False
def E4 (env:List (Nat×AV)) (ren:List (Nat×CO)):List (Nat×AV)→Prop
 | []=>True
 | (s,y) :: r=>JV ren (lk s env) y∧E4 env ren r
def H8 (ren:List (Nat×CO)):Option Obj→Obj→Prop
 | some (.arr et e xs),.arr a c ys=>et=a∧BO (.slice c) ⟨.slice e,xs⟩=some ys
 | some (.box et r fs),.box a s d=>et=a∧r=s∧Ed ren fs d
 | some (.nest et n k e xs h),.nest a o b c ys m=>(et=a∧n=o∧h=m)∧BO (.slice (.prod b (.slice c))) ⟨.slice (.prod k (.slice e)),xs⟩=some ys
 | some (.mapo k v l),.mapo b f l'=>BO (.slice (.prod b f)) ⟨.slice (.prod k v),l⟩=some l'
 | some (.frame t fs),.frame u d=>t=u∧E4 fs ren d
 | some (.itr k v l p i),.itr b f l' q j=>BO (.slice (.prod b f)) ⟨.slice (.prod k v),l⟩=some l'∧p=q∧i=j
 | some (.loop L),.loop g=>L=g
 | some .dfr,.dfr=>True
 | _,_=>False
def GK (objs:List (Nat×Obj)) (ren:List (Nat×CO)) (o:Obj):Option CO→Prop
 | some (.nm n)=>H8 ren (lk n objs) o
 | some .nil=>match o with
  | .arr _ e ys=>(ys:List e.den)=[]
  | .box _ _ _=>False
  | .nest _ _ k e ys _=>(ys:List (k.den×List e.den))=[]
  | .mapo _ _ _=>False
  | .frame _ _=>False
  | .itr _ _ _ _ _=>False
  | .loop _=>False
  | .dfr=>False
 | none=>False
def Ak (objs:List (Nat×Obj)) (ren:List (Nat×CO)):List (Nat×Obj)→Prop
 | []=>True
 | (m,o) :: r=>GK objs ren o (lk m ren)∧Ak objs ren r
def CT:List (Nat×CO)→Bool
 | []=>true
 | (_,.nm n) :: r=>(r.all fun p=>match p.2 with|.nm a=>a != n|.nil=>true)&&CT r
 | (_,.nil) :: r=>CT r
def Ln {α:Type}:List (Nat×α)→Bool
 | []=>true
 | (n,_) :: r=>(r.all fun p=>p.1 != n)&&Ln r
section
variable {ren:List (Nat×CO)} {V V':Vw}
structure Lo (ren:List (Nat×CO)) (V V':Vw):Prop where
 w:V'.w=V.w
 O:∀b,¬V.O b→¬V'.O b
 ρ:∀m n,lk m ren=some (.nm n)→V'.ρ m=V.ρ n
 nil:∀m,lk m ren=some .nil→V'.ρ m=.slice none 0 0
 L:∀m f,lk m ren=some f→V'.L m
theorem Lo.vrep (h:Lo ren V V') {t:Ty} {v:Value} {d:t.den} (hr:BW V.w V.O t v d):BW V'.w V'.O t v d :=
 BW.mono (fun b _ a=>h.O b a) (fun b _ _=>by rw[h.w]) hr
theorem Lo.rep (h:Lo ren V V') {t:Ty} {cs:List Value} {d:t.den} (hr:Br V.w V.O t cs d):Br V'.w V'.O t cs d :=
 hr.mono (fun b _ a=>h.O b a) (fun b _ _=>by rw[h.w])
theorem Lo.map (h:Lo ren V V'):∀ {b ns:List Nat},b.map (fun m=>lk m ren)=ns.map (fun n=>some (CO.nm n))→b.map V'.ρ=ns.map V.ρ∧∀m∈b,∃n∈ns,lk m ren=some (.nm n)
 | [],[],_=>⟨rfl,fun _ h=>by cases h⟩
 | [],_ :: _,a=>by simp at a
 | _ :: _,[],a=>by simp at a
 | m :: b,n :: ns,a=>by
  simp only[tO,ABg]at a;obtain⟨h1,d⟩:=h.map a.2;refine⟨by simp only[tO,h1,h.ρ _ _ a.1],fun x c=>?_⟩;rcases GO.1 c with rfl|c
  ·exact⟨n,by simp,a.1⟩
  ·obtain⟨y,f,e⟩:=d x c;exact⟨y,by simp[f],e⟩
theorem WG (h:Lo ren V V') {x y:AV} {v:Value} (b:Db ren x y) (c:Sx V x v):Sx V' y v∧(∀t d,y=.p t d→(∀u g,x≠.p u g)→v.oneCell'=true→Br V'.w V'.O t [v] d):=by
 unfold Db at b;split at b
 ·have:=BB b;injection this with h1 f
  subst h1;cases f;exact⟨h.vrep c,fun _ _ _ s=>absurd rfl (s _ _)⟩
 ·have c:v=_:=c;subst c;have i:=b;have hr:∀(O:Nat→Prop) (e:Ty),Br V'.w O (.slice e) [.slice none 0 0] ([]:List e.den):=fun O e=>⟨none,0,rfl,by simp,by simp[AO],.inl rfl⟩;rename_i e g;have i:g=([]:List e.den):=i;subst i;refine⟨⟨_,hr _ _,rfl⟩,fun t d a _ _=>?_⟩;injection a with h1 f
  subst h1;cases f;exact hr _ _
 ·subst b;exact⟨c,fun t d a=>by cases a⟩
 ·rename_i m e lo hi;obtain⟨h1,rfl,rfl⟩:=b;have c:v=_:=c;subst c;refine⟨⟨h.L _ _ h1,?_⟩,fun t d a=>by cases a⟩;rw[h.nil _ h1];exact⟨none,0,0,rfl,by omega,by omega,none,0,rfl,by omega,fun _=>⟨rfl,rfl⟩,fun h=>by omega⟩
 ·obtain⟨h1,rfl,rfl,rfl⟩:=b;refine⟨⟨h.L _ _ h1,?_⟩,fun t d a=>by cases a⟩;rw[h.ρ _ _ h1];exact c.2
 ·have:=BB b;injection this with h1 f
  subst h1;cases f;obtain⟨ad,cs,a,l,o,hr⟩:=c;exact⟨⟨ad,cs,a,h.O _ l,fun j u q=>by rw[h.w];exact o j u q,h.rep hr⟩,fun t d a=>by cases a⟩
 ·obtain⟨h1,rfl,rfl⟩:=b;refine⟨⟨h.L _ _ h1,?_⟩,fun t d a=>by cases a⟩;rw[h.ρ _ _ h1];exact c.2
 ·subst b;exact⟨c,fun t d a=>by cases a⟩
 ·obtain⟨rfl,r⟩:=b;obtain⟨h1,f⟩:=h.map r;refine⟨⟨?_,fun m b=>?_⟩,fun t d a=>by cases a⟩
  ·rw[h1];exact c.1
  ·obtain⟨n,hn,k⟩:=f m b;refine⟨h.L _ _ k,?_⟩;rw[h.ρ _ _ k];exact(c.2 n hn).2
 ·refine⟨⟨h.L _ _ b,?_⟩,fun t d a=>by cases a⟩;rw[h.ρ _ _ b];exact c.2
 ·refine⟨⟨h.L _ _ b,?_⟩,fun t d a=>by cases a⟩;rw[h.ρ _ _ b];exact c.2
 ·exact⟨trivial,fun t d a=>by cases a⟩
 ·exact b.elim
theorem pX (h:Lo ren V V') {x y:AV} {cs:List Value} (f:x.cells=y.cells) (b:Db ren x y) (a:M2 V x cs):M2 V' y cs:=by
 by_cases hp:∃t d,x=.p t d
 ·obtain⟨t,d,rfl⟩:=hp;have a:Br V.w V.O t cs d:=a;cases y<;>simp only[Db]at b<;>try exact b.elim
  ·have:=BB b;injection this with h1 c
   subst h1;cases c;exact h.rep a
  ·have g:=a.length;simp only[AV.cells]at f;rw[f]at g;obtain⟨v,rfl⟩:=AAQ.1 g;exact⟨v,rfl,a.one v (by simp),trivial⟩
 ·have l:∃v,cs=[v]∧v.oneCell'=true∧Sx V x v:=by
   cases x;case p t d=>exact absurd ⟨t,d,rfl⟩ hp
   all_goals exact a
  obtain⟨v,rfl,h1,c⟩:=l;obtain⟨j,k⟩:=WG h b c;cases y;case p t d=>exact k t d rfl (fun u i e=>hp ⟨u,i,e⟩) h1
  all_goals exact⟨v,rfl,h1,j⟩
theorem Ng (h:Lo ren V V'):∀ {l r:List AV} {cs:List Value},Ed ren l r→DQ V l cs→DQ V' r cs
 | [],[],cs,_,b=>b
 | [],_ :: _,cs,a,_=>a.elim
 | _ :: _,[],cs,a,_=>a.elim
 | x :: l,y :: r,cs,a,b=>by
  obtain⟨c1,c2,rfl,h1,c⟩:=b;exact⟨c1,c2,rfl,pX h a.1.1 a.1.2 h1,Ng h a.2 c⟩
theorem LF:∀ {l r:List AV},Ed ren l r→l.length=r.length
 | [],[],_=>rfl
 | [],_ :: _,a=>a.elim
 | _ :: _,[],a=>a.elim
 | _ :: _,_ :: _,a=>by simp[LF a.2]
theorem WH (h:Lo ren V V') {x y:AV} {v:Value} (a:HA ren x y) (b:RI V x v):RI V' y v:=by
 cases x;case ag l =>
  cases y;case ag r =>
   obtain⟨cs,e,h1⟩:=b;exact⟨cs,e,Ng h a h1⟩
  all_goals simp only[HA,Db]at a
  all_goals first|exact a.elim|exact trivial
 all_goals
  simp only[RI]at b;have a:Db ren _ y:=a;exact RI.of1 (WG h a b).1
theorem ZY (h:Lo ren V V'):∀ {l r:List AV} {b:List Value},Ha ren l r→Jl V l b→Jl V' r b
 | [],[],b,_,c=>c
 | [],_ :: _,b,a,_=>a.elim
 | _ :: _,[],b,a,_=>a.elim
 | x :: l,y :: r,b,a,c=>by
  obtain⟨v,e,rfl,h1,d⟩:=c;exact⟨v,e,rfl,WH h a.1 h1,ZY h a.2 d⟩
theorem Ma (h:Lo ren V V') {x y:AV} {v:Value} (a:Bx ren x y) (b:B2 V x v):B2 V' y v:=by
 cases x;case tup l =>
  cases y;case tup r =>
   obtain⟨c,e,h1⟩:=b;exact⟨c,e,ZY h a h1⟩
  all_goals simp only[Bx,HA,Db]at a
  all_goals first|exact a.elim|exact trivial
 all_goals
  simp only[Bx]at a;exact t5 (WH h a b)
theorem DI {objs:List (Nat×Obj)} {m:Nat} {o:Obj}:∀ {l:List (Nat×Obj)},Ak objs ren l→lk m l=some o→GK objs ren o (lk m ren)
 | (j,x) :: l,h,a=>by
  simp only[lk]at a;split at a
  ·rename_i e;cases a;subst e;exact h.1
  ·exact DI h.2 a
theorem Lp {env:List (Nat×AV)} {s:Nat} {y:AV}:∀ {l:List (Nat×AV)},E4 env ren l→lk s l=some y→JV ren (lk s env) y
 | (j,x) :: l,h,a=>by
  simp only[lk]at a;split at a
  ·rename_i e;cases a;subst e;exact h.1
  ·exact Lp h.2 a
theorem SS:∀ {l:List (Nat×CO)} {m b n:Nat},CT l=true→lk m l=some (.nm n)→lk b l=some (.nm n)→m=b
 | (j,f) :: l,m,b,n,hr,h1,a=>by
  simp only[lk]at h1 a;have h:CT l=true:=by
   cases f<;>simp only[CT,An]at hr
   ·exact hr.2
   ·exact hr
  have c:∀q,f=.nm n→lk q l=some (.nm n)→False:=by
   intro q hf g;subst hf;simp only[CT,An,Do]at hr;have:=hr.1 _ (Fl g);simp at this
  split at h1
  ·rename_i d;cases h1;split at a
   ·rename_i e;rw[d,e]
   ·exact(c _ rfl a).elim
  ·split at a
   ·cases a;exact(c _ rfl h1).elim
   ·exact SS h h1 a
def A4t (n:Nat):Option CO→Bool
 | some (.nm m)=>m==n
 | _=>false
def A4u (pin:List (Nat×Value)) (ren:List (Nat×CO)):Bool:=pin.all fun p=>A4t p.1 (lk p.1 ren)
theorem QO {V V':Vw} (a:Lo ren V V') {P:List (Nat×Obj)} (ag:∀n x,lk n P=some x→A1 V x (V.ρ n)) {o:Obj} {m:Nat} (hf:GK P ren o (lk m ren)):A1 V' o (V'.ρ m):=by
 cases hr:lk m ren with
 | none=>rw[hr]at hf;exact hf.elim
 | some f =>
  rw[hr]at hf;cases f with
  | nil =>
   rw[a.nil m hr];cases o with
   | box et t fs=>exact hf.elim
   | mapo k v l=>exact hf.elim
   | frame y fs=>exact hf.elim
   | loop L=>exact hf.elim
   | itr C F D E B=>exact hf.elim
   | dfr=>exact hf.elim
   | nest et aj k e ys I =>
    have hf:ys=([]:List (k.den×List e.den)):=hf;subst hf;exact⟨_,[],[],.inr ⟨rfl,rfl,rfl⟩,by simp[AO],rfl,ABz _ 0 et _,fun i x u h=>by simp at h,fun i j b u v h=>by simp at h,fun i b u h=>by simp at h⟩
   | arr et e ys =>
    have hf:ys=([]:List e.den):=hf;subst hf;exact⟨by simp[AO],[],ABz _ 0 et e.size,Hh _ _ _ _⟩
  | nm n =>
   rw[a.ρ m n hr];simp only[GK]at hf;cases hn:lk n P with
   | none=>rw[hn]at hf;simp only[H8]at hf
   | some x =>
    rw[hn]at hf;have q:=ag n x hn;cases x with
    | arr et e xs =>
     cases o with
     | box c t fs=>exact hf.elim
     | mapo k v l=>exact hf.elim
     | frame y fs=>exact hf.elim
     | loop L=>exact hf.elim
     | itr C F D E B=>exact hf.elim
     | dfr=>exact hf.elim
     | nest _ _ _ _ _ _=>exact hf.elim
     | arr c p ys =>
      obtain⟨rfl,g⟩:=hf;obtain⟨rfl,d⟩:=Bm g;cases d;obtain⟨ae,cells,af,ab⟩:=q;refine⟨ae,cells,by rw[a.w];exact af,fun i z hi=>?_⟩;obtain⟨K,S,T,U⟩:=ab i z hi;exact⟨K,S,T,a.rep U⟩
    | box et t fs =>
     cases o with
     | arr c p ys=>exact hf.elim
     | mapo k v l=>exact hf.elim
     | frame y fs=>exact hf.elim
     | loop L=>exact hf.elim
     | itr C F D E B=>exact hf.elim
     | dfr=>exact hf.elim
     | nest _ _ _ _ _ _=>exact hf.elim
     | box c aw W =>
      obtain⟨rfl,rfl,H⟩:=hf;obtain⟨h0,b,cs,G,hh,aa⟩:=q;exact⟨fun ah=>by rw[←LF H];exact h0 ah,b,cs,G,by rw[a.w];exact hh,Ng a H aa⟩
    | nest et aj k e xs h =>
     cases o with
     | nest c ar Q p ys aq =>
      obtain⟨⟨rfl,rfl,rfl⟩,g⟩:=hf;have g:=BB g;injection g with h1 A
      injection h1 with h1
      injection h1 with h1 d
      injection d with d
      subst h1;subst d;cases A;exact pL a.w a.O q
     | mapo k v l=>exact hf.elim
     | box c t fs=>exact hf.elim
     | arr c p ys=>exact hf.elim
     | frame y fs=>exact hf.elim
     | loop L=>exact hf.elim
     | itr C F D E B=>exact hf.elim
     | dfr=>exact hf.elim
    | mapo k v l =>
     cases o with
     | mapo Q an l' =>
      have g:=BB hf;injection g with h1 A
      injection h1 with h1
      injection h1 with h1 d
      subst h1;subst d;cases A;obtain⟨b,K,cl,G,hh,ad,Z⟩:=q;exact⟨b,K,cl,G,by rw[a.w];exact hh,ad.mono (fun b _ M=>a.O b M) (fun b _ _=>by rw[a.w]),Z⟩
     | box c t fs=>exact hf.elim
     | arr c p ys=>exact hf.elim
     | frame y fs=>exact hf.elim
     | loop L=>exact hf.elim
     | itr C F D E B=>exact hf.elim
     | dfr=>exact hf.elim
     | nest _ _ _ _ _ _=>exact hf.elim
    | frame y fs =>
     cases o with
     | frame ax W =>
      obtain⟨rfl,H⟩:=hf;obtain⟨h0,h1⟩:=q;refine⟨h0,fun s v ai=>?_⟩;have J:=Lp H ai;cases N:lk s fs with
      | none =>
       rw[N]at J;cases v<;>simp only[JV]at J;exact trivial
      | some x =>
       rw[N]at J;exact Ma a J (h1 s x N)
     | mapo k v l=>exact hf.elim
     | box c t fs=>exact hf.elim
     | arr c p ys=>exact hf.elim
     | loop L=>exact hf.elim
     | itr C F D E B=>exact hf.elim
     | dfr=>exact hf.elim
     | nest _ _ _ _ _ _=>exact hf.elim
    | itr k v l au ao =>
     cases o with
     | itr Q an l' av ap =>
      obtain⟨hf,rfl,rfl⟩:=hf;have g:=BB hf;injection g with h1 A
      injection h1 with h1
      injection h1 with h1 d
      subst h1;subst d;cases A;obtain⟨r,G,b,ak,cl,am,al,h1,A,d,X,Y⟩:=q;exact⟨r,G,b,ak,cl,am,al,by rw[a.w];exact h1,a.O b A,by rw[a.w];exact d,X.mono (fun b _ M=>a.O b M) (fun b _ _=>by rw[a.w]),Y⟩
     | mapo k v l=>exact hf.elim
     | box c t fs=>exact hf.elim
     | arr c p ys=>exact hf.elim
     | frame y fs=>exact hf.elim
     | loop L=>exact hf.elim
     | dfr=>exact hf.elim
     | nest _ _ _ _ _ _=>exact hf.elim
    | loop L =>
     cases o with
     | loop R =>
      have hf:L=R:=hf;subst hf;obtain⟨b,I,hh⟩:=q;exact⟨b,I,by rw[a.w];exact hh⟩
     | itr C F D E B=>exact hf.elim
     | mapo k v l=>exact hf.elim
     | box c t fs=>exact hf.elim
     | arr c p ys=>exact hf.elim
     | frame y fs=>exact hf.elim
     | dfr=>exact hf.elim
     | nest _ _ _ _ _ _=>exact hf.elim
    | dfr =>
     cases o with
     | dfr =>
      obtain⟨b,I,hh⟩:=q;exact⟨b,I,by rw[a.w];exact hh⟩
     | nest _ _ _ _ _ _=>exact hf.elim
     | mapo k v l=>exact hf.elim
     | box c t fs=>exact hf.elim
     | arr c p ys=>exact hf.elim
     | frame y fs=>exact hf.elim
     | loop L=>exact hf.elim
     | itr C F D E B=>exact hf.elim
def Cm (objs:List (Nat×Obj)) (ren:List (Nat×CO)):Bool:=ren.all fun p=>(lk p.1 objs).isSome
theorem AC {c:Cx} {σ σ':St} (ren:List (Nat×CO)) (h1:CT ren=true) (r:Cm σ'.objs ren=true) (z:Ak σ.objs ren σ'.objs) (G:E4 σ.env ren σ'.env) (hp:A4u c.ds.pin ren=true:=by rfl):Ent c σ σ':=by
 rintro a w ⟨ρ,hs⟩
 let ρ':Nat→Value:=fun m=>match lk m ren with|some (.nm n)=>ρ n|_=>.slice none 0 0
 have l:∀m n,lk m ren=some (.nm n)→ρ' m=ρ n:=fun m n d=>by simp[ρ',d]
 have y:∀m,lk m ren=some .nil→ρ' m=.slice none 0 0:=fun m d=>by simp[ρ',d]
 have t:∀m f,lk m ren=some f→Gb σ' m:=fun m f d=>by
  simp only[Cm,Do]at r;have:=r _ (Fl d);exact AB8.1 this
 have j:∀m b,Gb σ' m→bk (ρ' m) b→∃n,lk m ren=some (.nm n)∧Gb σ n∧bk (ρ n) b:=by
  rintro m b ⟨o,d⟩ e;have hf:=DI z d;cases hr:lk m ren with
  | none=>rw[hr]at hf;exact hf.elim
  | some f =>
   cases f with
   | nil=>rw[y m hr]at e;simp[bk,blk]at e
   | nm n =>
    rw[hr]at hf;rw[l m n hr]at e;refine⟨n,rfl,?_,e⟩;cases hn:lk n σ.objs with
    | none=>simp only[GK,hn,H8]at hf
    | some x=>exact⟨x,hn⟩
 have u:Lo ren (vw w c.O0 σ ρ) (vw w c.O0 σ' ρ'):=by
  refine⟨rfl,fun b e k=>?_,l,y,t⟩;rcases k with h0|⟨m,h,d⟩
  ·exact e (.inl h0)
  ·obtain⟨n,_,hn,g⟩:=j m b h d;exact e (.inr ⟨n,hn,g⟩)
 refine⟨ρ',hs.frm,hs.nt,hs.defers,fun p A=>?_,fun m o d=>?_,fun m b h e=>?_,fun m K b h H e k=>?_,fun s v J=>?_⟩
 ·obtain⟨M,B,C⟩:=hs.pin p A;simp only[A4u,Do]at hp;have i:=hp p A;unfold A4t at i;split at i
  ·rename_i n hn;have:n=p.1:=by simpa using i
   subst this;exact⟨t _ _ hn,(l _ _ hn).trans B,C⟩
  ·cases i
 ·exact QO u hs.objs (DI z d)
 ·obtain⟨n,_,hn,g⟩:=j m b h e;exact hs.free n b hn g
 ·obtain⟨n,D,hn,g⟩:=j m b h e;obtain⟨L,E,I,F⟩:=j K b H k;have:=hs.dist n L b hn I g F;subst this;exact SS h1 D E
 ·have d:=Lp G J;cases q:lk s σ.env with
  | none =>
   rw[q]at d;cases v<;>simp only[JV]at d;exact trivial
  | some x =>
   rw[q]at d;exact Ma u d (hs.env s x q)
end
end
section
open Go
theorem FT (b:Bool):QG true (some (.p .bool b))=some b:=by cases b<;>rfl
theorem Ek (b:Bool):QG false (some (.p .bool b))=some (!b):=by cases b<;>rfl
theorem KY:IntKind.i64.min=-9223372036854775808:=by decide
theorem KZ:IntKind.i64.max=9223372036854775807:=by decide
theorem Ka:IntKind.u64.min=0:=by decide
theorem Kb:IntKind.u64.max=18446744073709551615:=by decide
theorem Nh:IntKind.u8.min=0:=by decide
theorem Ni:IntKind.u8.max=255:=by decide
theorem Iw (n:Int):K9 .i64 n↔-9223372036854775808≤n∧n≤9223372036854775807:=by unfold K9;rw[KY,KZ]
theorem Hb (n:Int):K9 .u64 n↔0≤n∧n≤18446744073709551615:=by unfold K9;rw[Ka,Kb]
theorem QP (n:Int):K9 .u8 n↔0≤n∧n≤255:=by unfold K9;rw[Nh,Ni]
theorem Mb {α:Type} (x:α):sub [x] 0 1=[x]:=rfl
theorem Gk {α:Type} (xs:List α) (n:Nat):sub xs 0 n=xs.take n:=by simp[sub]
theorem pY (n:Nat):((n:Int)).toNat=n:=f7 n
theorem El (n:Nat):(0≤(n:Int))=True:=eq_true (oN n)
end
section
open Go Go.RowKit
section
variable {tb:Tb} {σ σ':St}
def iI (σ σ':St):Prop:=∀n o,lk n σ.objs=some o→lk n σ'.objs=some o
theorem uZ (h:iI σ σ') {e:Ty} {lo hi n:Nat} {d:List e.den} (hs:OL e lo hi (lk n σ.objs)=some d):OL e lo hi (lk n σ'.objs)=some d:=by
 cases hn:lk n σ.objs with
 | none=>rw[hn]at hs;simp[OL]at hs
 | some o=>rw[h n o hn,←hn];exact hs
theorem pZ (h:iI σ σ') {e:Ty} {i n:Nat} {d:List e.den} (hs:OM e i (lk n σ.objs)=some d):OM e i (lk n σ'.objs)=some d:=by
 cases hn:lk n σ.objs with
 | none=>rw[hn]at hs;simp[OM]at hs
 | some o=>rw[h n o hn,←hn];exact hs
theorem Hi (h:iI σ σ') {l:Bool} {t:Ty} {x:AV} {d:t.den} (hs:EI l σ t x=some d):EI l σ' t x=some d:=by
 unfold EI at hs ⊢;split at hs
 ·exact hs
 ·split at hs
  ·rename_i a;rw[BY a];exact uZ h hs
  ·cases hs
 ·split at hs
  ·rename_i a;rw[BY a];exact pZ h hs
  ·cases hs
 ·exact hs
 ·cases hs
theorem WI (h:iI σ σ') {l:Bool}:∀ {fs:List AV} {t:Ty} {d:t.den},Ji l σ fs t=some d→Ji l σ' fs t=some d
 | [],t,d,hs=>by simp[Ji]at hs
 | [x],t,d,hs=>by
  simp only[Ji]at hs ⊢;exact Hi h hs
 | x :: y :: r,t,d,hs=>by
  cases t<;>simp only[Ji]at hs ⊢<;>try(cases hs;done)
  rename_i a b;cases h1:EI l σ a x with
  | none=>rw[h1]at hs;simp[LA]at hs
  | some e =>
   cases c:Ji l σ (y :: r) b with
   | none=>rw[h1,c]at hs;simp[LA]at hs
   | some f =>
    rw[Hi h h1,WI h c];rw[h1,c]at hs;exact hs
theorem Fq (h:iI σ σ') {l:Bool} {t:Ty} {x:AV} {d:t.den} (hs:KJ l σ t x=some d):KJ l σ' t x=some d:=by
 unfold KJ at hs ⊢;split at hs
 ·exact WI h hs
 ·exact Hi h hs
def Ops (σ σ':St) (xs:List Operand):Prop:=∀x∈xs,∀v,Ae σ x=some v→Ae σ' x=some v
theorem Lq (h:iI σ σ') {e:Ty} {x:AV} {d:List e.den} (hs:OK σ e x=some d):OK σ' e x=some d:=by
 unfold OK at hs ⊢;split at hs
 ·rename_i n a lo hi;cases hn:lk n σ.objs with
  | none =>
   rw[hn]at hs;have hs:EI true σ (.slice e) (.sr n a lo hi)=some d:=by simpa[CY,KJ] using hs
   simp only[EI,hn]at hs;split at hs<;>simp[OL]at hs
  | some o =>
   rw[h n o hn];rw[hn]at hs;split at hs
   ·cases hs
   ·rename_i b;rw[At b];exact Fq h hs
 ·exact Fq h hs
theorem TA (h:iI σ σ') {l:Bool}:∀ {ts:List Ty} {xs:List Operand} {ds:KI ts},Ops σ σ' xs→Fh l σ ts xs=some ds→Fh l σ' ts xs=some ds
 | [],[],ds,_,hs=>hs
 | [],_ :: _,ds,_,hs=>by simp[Fh]at hs
 | _ :: _,[],ds,_,hs=>by simp[Fh]at hs
 | t :: ts,x :: xs,ds,b,hs=>by
  simp only[Fh]at hs ⊢;cases a:Ae σ x with
  | none=>rw[a]at hs;cases hs
  | some v =>
   rw[b x (by simp) v a];rw[a]at hs;simp only at hs ⊢;split at hs
   ·rename_i y ys c d;rw[Fq h c,TA h (fun z e=>b z (by simp[e])) d];exact hs
   ·cases hs
theorem Rc (h:iI σ σ') {e:Ty}:∀ {parts:List (Nat×Operand)} {k:Nat} {xs:List e.den},Ops σ σ' (parts.map (·.2))→EX σ e k parts=some xs→EX σ' e k parts=some xs
 | [],k,xs,_,hs=>hs
 | (i,x) :: r,k,xs,b,hs=>by
  simp only[EX]at hs ⊢;split at hs
  ·rename_i d;rw[BY d];cases a:Ae σ x with
   | none=>rw[a]at hs;cases hs
   | some v =>
    rw[b x (by simp) v a];rw[a]at hs;simp only at hs ⊢;split at hs
    ·rename_i y ys f g;rw[Fq h f,Rc h (fun z c=>b z (by simp at c ⊢;exact .inr c)) g];exact hs
    ·cases hs
  ·cases hs
theorem ZZ (h:iI σ σ') {z:Option AV} {x:Operand} {v:AV} (f:∀v,Ae σ x=some v→Ae σ' x=some v) (hs:FD σ z (Ae σ x)=some v):FD σ' z (Ae σ' x)=some v:=by
 cases b:Ae σ x with
 | none=>rw[b]at hs;unfold FD at hs;split at hs<;>simp at *
 | some a =>
  rw[f a b];rw[b]at hs;unfold FD at hs ⊢;split at hs
  ·rename_i t _ l e;cases e;simp only[Is]at hs ⊢;obtain⟨d,c,rfl⟩:=hs;exact⟨d,Fq h c,rfl⟩
  ·exact hs
theorem Oq (h:iI σ σ') {offs:List (Nat×Nat)}:∀ {parts:List (Nat×Operand)} {fs a:List AV},Ops σ σ' (parts.map (·.2))→DY σ offs fs parts=some a→DY σ' offs fs parts=some a
 | [],fs,a,_,hs=>hs
 | (i,x) :: r,fs,a,c,hs=>by
  simp only[DY]at hs ⊢;cases b:FD σ fs[i]? (Ae σ x) with
  | none=>rw[b]at hs;cases hs
  | some v =>
   rw[ZZ h (c x (by simp)) b];rw[b]at hs;simp only at hs ⊢;split at hs
   ·rename_i e;rw[BY e];exact Oq h (fun z d=>c z (by simp at d ⊢;exact .inr d)) hs
   ·cases hs
theorem TB:∀ {xs:List Operand} {ns:List Nat},Ops σ σ' xs→HK σ xs=some ns→HK σ' xs=some ns
 | [],ns,_,hs=>hs
 | x :: r,ns,a,hs=>by
  simp only[HK]at hs ⊢;split at hs
  ·rename_i n d h1 b;rw[a x (by simp) _ h1,TB (fun z c=>a z (by simp[c])) b];exact hs
  ·cases hs
theorem ST (h:iI σ σ') {d:Nat} {op:Op} {r:Prop×AV×List (Nat×Obj)} (p:Ops σ σ' op.operands.toList) (hs:aq tb σ d op=some r):aq tb σ' d op=some r:=by
 have one:∀ {x:Operand} {f:Option AV→BX},x∈op.operands.toList→f none=none→f (Ae σ x)=some r→f (Ae σ' x)=some r:=by
  intro x f j hn hf;cases q:Ae σ x with
  | none=>rw[q,hn]at hf;cases hf
  | some v=>rw[p x j v q,←q];exact hf
 have J:∀ {x y:Operand} {f:Option AV→Option AV→BX},x∈op.operands.toList→y∈op.operands.toList→(∀b,f none b=none)→(∀a,f a none=none)→f (Ae σ x) (Ae σ y)=some r→f (Ae σ' x) (Ae σ' y)=some r:=by
  intro x y f j C h1 F hf;cases q:Ae σ x with
  | none=>rw[q,h1]at hf;cases hf
  | some v =>
   cases H:Ae σ y with
   | none=>rw[H,F]at hf;cases hf
   | some w=>rw[p x j v q,p y C w H,←q,←H];exact hf
 cases op<;>simp only[aq]at hs ⊢<;>try(cases hs;done)
 case move x=>exact one (f:=GF) (by simp[Op.operands]) rfl hs
 case assign x=>exact one (f:=GF) (by simp[Op.operands]) rfl hs
 case pick c x y =>
  cases D:Ae σ c with
  | none=>rw[D]at hs;simp[Jj]at hs
  | some Z =>
   have aa:=p c (by simp[Op.operands]) Z D;rw[D]at hs;rw[aa];unfold Jj at hs ⊢;split at hs
   ·rename_i E;cases E;exact one (f:=GF) (by simp[Op.operands]) rfl hs
   ·rename_i E;cases E;exact one (f:=GF) (by simp[Op.operands]) rfl hs
   ·cases hs
 case alloc t=>exact hs
 case box t x=>exact one (f:=QE d t (lk t tb.ty)) (by simp[Op.operands]) (by cases lk t tb.ty<;>simp[QE]) hs
 case build t parts =>
  unfold Hq at hs ⊢;split at hs
  ·rename_i u offs el b E;cases hp:DY σ offs (mJ u) parts.toList with
   | none=>rw[hp]at hs;simp[GF]at hs
   | some fs =>
    rw[Oq h (by simpa[Op.operands] using p) hp];rw[hp]at hs;exact hs
  ·cases hs
 case buildSlice t n parts =>
  cases T:lk d tb.nests with
  | some al =>
   rw[T]at hs;simp only[Fi]at hs ⊢;unfold Hs at hs ⊢;split at hs
   ·rename_i x an offs el b hp E;cases j:Ae σ x with
    | none=>rw[j]at hs;unfold Hr at hs;split at hs<;>first|(cases hs;done)|(rename_i F;cases F)
    | some av =>
     rw[p x (by simp[Op.operands,hp]) av j];rw[j]at hs;unfold Hr at hs ⊢;split at hs
     ·rename_i k e ar au ak;unfold JJ at hs;split at hs
      ·rename_i a0 N;rw[Hi h N];exact hs
      ·rename_i a0 aj l N;split at hs
       ·rename_i P;rw[Hi h N];simp only[JJ,P,AAC];exact hs
       ·cases hs
      ·cases hs
     ·cases hs
   ·cases hs
  | none =>
  rw[T]at hs;simp only[Fi]at hs ⊢;unfold BQ at hs ⊢;split at hs
  ·rename_i e offs el b E;cases hp:EX σ e 0 parts.toList with
   | none=>rw[hp]at hs;simp[BU]at hs
   | some xs =>
    rw[Rc h (by simpa[Op.operands] using p) hp];rw[hp]at hs;exact hs
  ·cases hs
 case load t x =>
  cases j:Ae σ x with
  | none=>rw[j]at hs;simp[Im]at hs
  | some v =>
   rw[p x (by simp[Op.operands]) v j];rw[j]at hs;unfold Im at hs ⊢;split at hs
   ·rename_i ti n ah off M G;cases hn:lk n σ.objs with
    | none=>rw[hn]at hs;simp[EJ]at hs
    | some o=>rw[h n o hn,←hn];exact hs
   ·rename_i ti n e i ah off M G;cases hn:lk n σ.objs with
    | none=>rw[hn]at hs;simp[EK]at hs
    | some o=>rw[h n o hn,←hn];exact hs
   ·exact hs
   ·cases hs
 case nilCheck x=>exact one (f:=R9) (by simp[Op.operands]) (by simp[R9]) hs
 case binOp op t x y am=>exact J (f:=OQ op (lk t tb.ty)) (by simp[Op.operands]) (by simp[Op.operands]) (fun b=>by simp[OQ]) (fun a=>by cases a<;>simp[OQ]) hs
 case unOp op t x=>exact one (f:=tQ op) (by simp[Op.operands]) (by cases op<;>simp[tQ]) hs
 case convert s t x=>exact one (f:=Ip (lk s tb.ty) (lk t tb.ty)) (by simp[Op.operands]) (by cases lk s tb.ty<;>cases lk t tb.ty<;>simp[Ip]) hs
 case makeSlice t l c=>exact J (f:=Ht tb d (lk t tb.ty)) (by simp[Op.operands]) (by simp[Op.operands]) (fun b=>by cases lk t tb.ty<;>simp[Ht]) (fun a=>by cases lk t tb.ty<;>simp[Ht]) hs
 case slice t x lo hi ag =>
  cases ag with
  | some m =>
   cases lo with
   | some _=>cases hi<;>simp[aq]at hs
   | none =>
    cases hi with
    | none=>simp[aq]at hs
    | some h1 =>
     simp only[aq]at hs ⊢;cases j:Ae σ x with
     | none=>rw[j]at hs;cases A:lk t tb.ty<;>rw[A]at hs<;>simp[DZ]at hs
     | some v =>
      cases hh:Ae σ h1 with
      | none=>rw[j,hh]at hs;cases A:lk t tb.ty<;>rw[A]at hs<;>simp[DZ]at hs
      | some q =>
       cases S:Ae σ m with
       | none=>rw[j,hh,S]at hs;cases A:lk t tb.ty<;>rw[A]at hs<;>simp[DZ]at hs
       | some af =>
        rw[p x (by simp[Op.operands]) v j,p h1 (by simp[Op.operands]) q hh,p m (by simp[Op.operands]) af S];rw[j,hh,S]at hs;exact hs
  | none =>
   simp only[aq]at hs ⊢;have W:∀ {y:Option Operand},(∀z,y=some z→z∈(Op.slice t x lo hi none).operands.toList)→∀w,F6 σ y=some w→F6 σ' y=some w:=by
    intro y C w H;cases y with
    | none=>exact H
    | some z =>
     simp only[F6,Is]at H ⊢;obtain⟨v,q,rfl⟩:=H;exact⟨v,p z (C z rfl) v q,rfl⟩
   cases j:Ae σ x with
   | none=>rw[j]at hs;cases A:lk t tb.ty<;>rw[A]at hs<;>simp[Ex]at hs
   | some v =>
    cases h1:F6 σ lo with
    | none=>rw[h1]at hs;cases A:lk t tb.ty<;>rw[A]at hs<;>simp[Ex]at hs
    | some a =>
     cases F:F6 σ hi with
     | none=>rw[F]at hs;cases A:lk t tb.ty<;>rw[A]at hs<;>simp[Ex]at hs
     | some b =>
      rw[p x (by simp[Op.operands]) v j,W (by rintro z rfl;simp[Op.operands]) a h1,W (by rintro z rfl;simp[Op.operands]) b F];rw[j,h1,F]at hs;exact hs
 case fieldAddr s x f=>exact one (f:=GG f (lk s tb.ty)) (by simp[Op.operands]) (by cases lk s tb.ty<;>simp[GG]) hs
 case indexAddr t x i=>exact J (f:=FE (lk t tb.ty)) (by simp[Op.operands]) (by simp[Op.operands]) (fun b=>by cases lk t tb.ty<;>simp[FE]) (fun a=>by cases lk t tb.ty<;>simp[FE]) hs
 case index t x i=>exact J (f:=Dl (lk t tb.ty)) (by simp[Op.operands]) (by simp[Op.operands]) (fun b=>by cases lk t tb.ty<;>simp[Dl]) (fun a=>by cases lk t tb.ty<;>simp[Dl]) hs
 case extract x i=>exact one (f:=Dw i) (by simp[Op.operands]) (by simp[Dw]) hs
 case makeFunc fn first Y =>
  unfold VZ at hs ⊢;split at hs
  ·rename_i f hf;cases D:HK σ Y.toList with
   | none=>rw[D]at hs;simp[NC]at hs
   | some ns =>
    rw[TB (fun z I=>p z (by simp[Op.operands]at I ⊢;exact .inr I)) D];rw[D]at hs;exact hs
  ·cases hs
 case makeMap t res =>
  cases res with
  | some z=>simp[aq]at hs
  | none=>simp only[aq]at hs ⊢;exact hs
 case lookup t x i ok =>
  cases j:Ae σ x with
  | none=>rw[j]at hs;simp[Hx]at hs
  | some xv =>
   cases hi:Ae σ i with
   | none=>rw[j,hi]at hs;simp[Hx]at hs
   | some V =>
    rw[p x (by simp[Op.operands]) xv j,p i (by simp[Op.operands]) V hi];rw[j,hi]at hs;unfold Hx at hs ⊢;split at hs
    ·rename_i k e _ _ n z M G ad;cases G;cases ad;cases hn:lk n σ.objs with
     | none=>rw[hn]at hs;simp[G8]at hs
     | some o =>
      rw[hn]at hs;rw[h n o hn];unfold G8 at hs ⊢;split at hs
      ·rename_i ae ap l p;cases p;split at hs
       ·rename_i D;rw[BY D];cases hk:KJ false σ ae V with
        | none=>rw[hk]at hs;simp[JM]at hs
        | some kd=>rw[Fq h hk];rw[hk]at hs;exact hs
       ·cases hs
      ·cases hs
    ·cases hs
 case call c =>
  obtain⟨callee,args,argTypes⟩:=c;have B:∀x∈args.toList,x∈(Op.call ⟨callee,args,argTypes⟩).operands.toList:=fun x j=>by
   have:x∈args:=by simpa using j
   cases callee<;>simp[Op.operands,Call.operands,this]
  cases callee with
  | invoke r m=>simp[CZ]at hs
  | value g =>
   simp only[CZ]at hs ⊢;cases Q:Ae σ g with
   | none=>rw[Q]at hs;simp[LB]at hs
   | some ab =>
    rw[p g (by simp[Op.operands,Call.operands]) ab Q];rw[Q]at hs;unfold LB at hs ⊢;split at hs
    ·rename_i f E;cases U:lk f tb.fns with
     | none=>rw[U]at hs;simp[Hw]at hs
     | some X =>
      rw[U]at hs;simp only[Hw]at hs ⊢;cases O:Fh X.lend σ X.ins args.toList with
      | none=>rw[O]at hs;simp[JL]at hs
      | some ds =>
       rw[TA h (fun x j=>p x (B x j)) O];rw[O]at hs;exact hs
    ·cases hs
  | builtin b =>
   simp only[CZ]at hs ⊢;obtain⟨args⟩:=args;obtain⟨argTypes⟩:=argTypes;simp only at hs B ⊢;unfold Ck at hs ⊢;split at hs
   ·exact one (f:=QF (lk _ tb.ty)) (B _ (by simp)) (by cases lk _ tb.ty<;>simp[QF]) hs
   ·rename_i x y t u;cases j:Ae σ x with
    | none=>rw[j]at hs;simp[CS]at hs
    | some xv =>
     cases C:Ae σ y with
     | none=>rw[j,C]at hs;simp[CS]at hs
     | some L =>
      rw[p x (B _ (by simp)) xv j,p y (B _ (by simp)) L C];rw[j,C]at hs;unfold CS at hs ⊢;split at hs
      ·split at hs
       ·rename_i K;simp only[K,AAC];rename_i M G;cases G;rw[K]at hs;cases A:lk u tb.ty with
        | none=>rw[A]at hs;simp[Dx]at hs
        | some ti =>
         rw[A]at hs;unfold Dx at hs ⊢;split at hs
         ·rename_i e offs el b E;cases q:OK σ e L with
          | none=>rw[q]at hs;cases R:lk el tb.ty<;>rw[R]at hs<;>simp[EY]at hs
          | some ys =>
           rw[q]at hs;rw[Lq h q];exact hs
         ·cases hs
       ·cases hs
      ·split at hs
       ·rename_i K;simp only[K,AAC];rename_i M G;cases G;rw[K]at hs;cases A:lk u tb.ty with
        | none=>rw[A]at hs;simp[Hu]at hs
        | some ti =>
         rw[A]at hs;unfold Hu at hs ⊢;split at hs
         ·rename_i e offs el b E;split at hs
          ·rename_i P;simp only[P,AAC];cases q:OK σ _ L with
           | none=>rw[q]at hs;cases R:lk el tb.ty<;>rw[R]at hs<;>simp[JK]at hs
           | some ys =>
            rw[q]at hs;rw[Lq h q];exact hs
          ·cases hs
         ·cases hs
       ·cases hs
      ·cases hs
   ·exact J (f:=OT) (B _ (by simp)) (B _ (by simp)) (fun b=>by simp[OT]) (fun a=>by cases a<;>simp[OT]) hs
   ·exact J (f:=OU) (B _ (by simp)) (B _ (by simp)) (fun b=>by simp[OU]) (fun a=>by cases a<;>simp[OU]) hs
   ·rename_i x y z t u ao;cases j:Ae σ x with
    | none=>rw[j]at hs;simp[Hv]at hs
    | some xv =>
     cases C:Ae σ y with
     | none=>rw[j,C]at hs;simp[Hv]at hs
     | some L =>
      cases I:Ae σ z with
      | none=>rw[j,C,I]at hs;simp[Hv]at hs
      | some ai =>
       rw[p x (B _ (by simp)) xv j,p y (B _ (by simp)) L C,p z (B _ (by simp)) ai I,←j,←C,←I];exact hs
   ·cases hs
end
end
end Go.Proofs.YtdapahgnpbehbaaGreat.Fw
