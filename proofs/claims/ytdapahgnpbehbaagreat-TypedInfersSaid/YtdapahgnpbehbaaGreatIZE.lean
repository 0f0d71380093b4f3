/- One operation, a sequence, loops, the entry and the end of a function: the rules. -/
import Derived.Test.YtdapahgnpbehbaaGreatIZD
import Derived.Deep.LoopGhost
import Derived.ControlIn
set_option linter.unusedVariables false
set_option linter.unusedSimpArgs false
namespace Go.Proofs.YtdapahgnpbehbaaGreat.Fw
section
open Go Go.RowKit
abbrev ABZ:=@Go.wpIn_region_list
abbrev ACB:=@Go.wpIn_mono
structure Cx where
 P:Program
 tb:Tb
 w0:World
 K:Nat→Prop
 O0:Nat→Prop
 nt:Nat
 
 ds:Fp:={}
 
 r:Option Nat:=none
structure Cx.Ok (c:Cx):Prop where
 K:∀b,c.K b→b<c.w0.heap.size
 O:∀b,c.O0 b→b<c.w0.heap.size
 T:Cg c.P c.tb
 F:Hl c.P c.tb
def Cx.sat (c:Cx) (σ:St) (a:Act) (w:World):Prop:=∃ρ,Bb c.w0 c.K c.O0 c.nt c.ds σ ρ a w
section
variable {c:Cx}
theorem vB (hc:c.Ok) {σ:St} {ρ:Nat→Value} {a:Act} {w:World} (h:Bb c.w0 c.K c.O0 c.nt c.ds σ ρ a w):A1d c.P c.tb w c.O0 σ ρ a where
 hT:=hc.T
 hF:=hc.F
 obj:=h.objs
 own:=by
  intro b hb;rcases hb with h0|⟨n,⟨o,ho⟩,hb⟩
  ·exact AAq (hc.O b h0) h.frm.size
  ·exact(h.objs n o ho).block_lt hb
 ev:=DU h.env
theorem oW (e:c.Ok) {σ σ':St} {ρ:Nat→Value} {a:Act} {w:World} (hs:Bb c.w0 c.K c.O0 c.nt c.ds σ ρ a w) {o:Oper} {vc:Prop} (h:Em c.tb σ o.dst o.op=some (vc,σ')) (k:vc) (j:∀d,o.dst=some d→d<c.nt)
  {next:Act→World→Prop} {Q:Exit→Act→World→Prop} (hn:∀i w',c.sat σ' i w'→next i w'):o.wpIn (FR c.r) 0 c.P a w next Q:=by
 obtain⟨dst,op,type,pos,after,guard⟩:=o;simp only at h j;cases op<;>simp only[Em]at h<;>try(cases h;done)
 case store t x y =>
  cases dst with
  | some d=>simp[DS]at h
  | none =>
   simp only[DS]at h;obtain⟨w',ρ',h1,f⟩:=ZR (P:=c.P) hs e.K e.O e.T h k;exact cI (w':=w') (by simp[execOp,h1]) (hn _ _ ⟨ρ',f⟩)
 case mapUpdate t m x y =>
  cases dst with
  | some d=>simp[DS]at h
  | none =>
   simp only[DS]at h;obtain⟨w',h1,f⟩:=kN (P:=c.P) hs e.K e.T h;exact cI (w':=w') (by simp[execOp,h1]) (hn _ _ ⟨ρ,f⟩)
 case call cl =>
  obtain⟨callee,args,argTypes⟩:=cl;cases callee with
  | value g=>simp[Cp]at h
  | invoke r m=>simp[Cp]at h
  | builtin b =>
   simp only[Cp]at h;obtain⟨args⟩:=args;obtain⟨argTypes⟩:=argTypes;simp only at h;unfold DF at h;split at h
   ·rename_i x y t u;obtain⟨z,w',ρ',h1,f⟩:=ZQ (P:=c.P) (ty:=type) hs e.K e.O e.T j h k;exact Ag (u:=z) (w':=w') (by simp[execOp,resolve,invoke,builtin,h1]) (hn _ _ ⟨ρ',f⟩)
   ·cases h
theorem M6 (b:c.Ok) {σ σ':St} {a:Act} {w:World} (hs:c.sat σ a w) {o:Oper} {vc:Prop} (h:FM c.tb o σ=some (vc,σ')) (i:vc) (g:∀d,o.dst=some d→d<c.nt)
  {next:Act→World→Prop} {Q:Exit→Act→World→Prop} (hn:∀f w',c.sat σ' f w'→next f w'):o.wpIn (FR c.r) 0 c.P a w next Q:=by
 obtain⟨ρ,hs⟩:=hs;have hs:=JY (l:=B4 σ o.op) hs;unfold FM Mr at h;generalize CS (B4 σ o.op) σ=k at h hs;cases e:aq c.tb k (o.dst.getD 0) o.op with
 | some r =>
  obtain⟨m,v,obs⟩:=r;rw[e]at h;simp only[J2]at h;split at h
  ·rename_i hf;cases h;exact cF (vB b hs) e i hf fun u ρ' w' j=>hn _ _ ⟨ρ',hs.add b.K b.O g hf j⟩
  ·cases h
 | none =>
  rw[e]at h;exact oW b hs h i g hn
theorem GV {ops:Array Oper} {σ:St} {a:Act} {w:World} (hs:c.sat σ a w) {o:Oper} {b:Bool} (h:EH ops.toList σ o.guard=some b):Region.wanted o (yielded ops a.tmps)=b:=by
 obtain⟨ρ,hs⟩:=hs;unfold EH at h;split at h
 ·rename_i e;cases h;simp[Region.wanted,e]
 ·rename_i j q e;cases f:(ops.toList[j]?).bind (·.dst) with
  | none=>rw[f]at h;simp[JS]at h
  | some g =>
   rw[f]at h;simp only[JS]at h;cases i:lk g σ.env with
   | none=>rw[i]at h;simp[OV]at h
   | some v =>
    rw[i]at h;unfold OV at h;split at h
    ·rename_i l m;cases m;cases h;have d:=hs.env g _ i;have d:=Dk d;have p:(ops[j]?).bind (·.dst)=some g:=by simpa using f
     have n:a.tmps[g]?=some (.bool l):=by
      by_cases k:g<a.tmps.size
      ·have:a.tmps.getD g undef=a.tmps[g]:=by simp[Array.getD,k]
       rw[this]at d;rw[AA7 k,d]
      ·have:a.tmps.getD g undef=undef:=by simp[Array.getD,k]
       rw[this]at d;cases d
     simp only[Region.wanted,e,yielded,p,Option.bind_some,n];cases l<;>cases q<;>rfl
    ·cases h
theorem LQ {σ:St} {a:Act} {w:World} (b:c.Ok) (hs:c.sat σ a w) {dst:Option Nat} (e:∀d,dst=some d→d<c.nt):c.sat (σ.add (.raw undef) [] dst) (a.put dst undef) w:=by
 obtain⟨ρ,hs⟩:=hs;exact⟨ρ,hs.add b.K b.O e (by simp[BQ]) (QS.still rfl)⟩
def Ho (nt:Nat) (o:Oper):Bool :=
 match o.dst with
 | some d=>decide (d<nt)
 | none=>true
theorem Bd {nt:Nat} {o:Oper} (h:Ho nt o=true):∀d,o.dst=some d→d<nt:=by
 intro d a;simpa[Ho,a] using h
theorem Oc (e:c.Ok) {ops:Array Oper} {Q:Exit→Act→World→Prop} {r:List Oper}:∀(l:List Oper) {σ σ':St} {vc:Prop} {a:Act} {w:World},c.sat σ a w→(∀o∈l,Ho c.nt o=true)→Bl c.tb ops.toList l σ=some (vc,σ')→vc →
  (∀i w',c.sat σ' i w'→wpListIn (FR c.r) 0 c.P ops Q r i w')→wpListIn (FR c.r) 0 c.P ops Q (l++r) a w
 | [],σ,σ',vc,a,w,hs,f,h,g,d=>by
  simp only[Bl]at h;cases h;exact d _ _ hs
 | o :: l,σ,σ',vc,a,w,hs,f,h,g,d=>by
  simp only[Bl]at h;cases j:EH ops.toList σ o.guard with
  | none=>rw[j]at h;simp[evG]at h
  | some b =>
   rw[j]at h;have s:=GV hs j;have q:=Bd (f o (by simp));rw[ABe];unfold wpListIn;cases b with
   | true =>
    simp only[evG]at h;rw[BY s];cases n:FM c.tb o σ with
    | none=>rw[n]at h;simp[evK]at h
    | some r =>
     obtain⟨x,v⟩:=r;rw[n]at h;simp only[evK]at h;cases m:Bl c.tb ops.toList l v with
     | none=>rw[m]at h;simp[TS]at h
     | some u =>
      obtain⟨y,σ2⟩:=u;rw[m]at h;simp only[TS]at h;cases h;exact M6 e hs n g.1 q fun i w' t=>Oc e l t (fun p k=>f p (by simp[k])) m g.2 d
   | false =>
    simp only[evG]at h;rw[At (by simp[s])];refine⟨fun _ _=>trivial,?_⟩;exact Oc e l (LQ e hs q) (fun p k=>f p (by simp[k])) h g d
theorem M7 (e:c.Ok) {ops:Array Oper} {Q:Exit→Act→World→Prop}:∀(l:List Oper) {σ σ':St} {vc:Prop} {a:Act} {w:World},c.sat σ a w→(∀o∈l,Ho c.nt o=true)→Bl c.tb ops.toList l σ=some (vc,σ')→vc →
  (∀i w',c.sat σ' i w'→Q .normal i w')→wpListIn (FR c.r) 0 c.P ops Q l a w
 | [],σ,σ',vc,a,w,hs,f,h,g,d=>by
  simp only[Bl]at h;cases h;exact d _ _ hs
 | o :: l,σ,σ',vc,a,w,hs,f,h,g,d=>by
  simp only[Bl]at h;cases j:EH ops.toList σ o.guard with
  | none=>rw[j]at h;simp[evG]at h
  | some b =>
   rw[j]at h;have s:=GV hs j;have q:=Bd (f o (by simp));unfold wpListIn;cases b with
   | true =>
    simp only[evG]at h;rw[BY s];cases n:FM c.tb o σ with
    | none=>rw[n]at h;simp[evK]at h
    | some r =>
     obtain⟨x,v⟩:=r;rw[n]at h;simp only[evK]at h;cases m:Bl c.tb ops.toList l v with
     | none=>rw[m]at h;simp[TS]at h
     | some u =>
      obtain⟨y,σ2⟩:=u;rw[m]at h;simp only[TS]at h;cases h;exact M6 e hs n g.1 q fun i w' t=>M7 e l t (fun p k=>f p (by simp[k])) m g.2 d
   | false =>
    simp only[evG]at h;rw[At (by simp[s])];refine⟨fun _ _=>trivial,?_⟩;exact M7 e l (LQ e hs q) (fun p k=>f p (by simp[k])) h g d
end
end
section
open Go Go.RowKit
inductive DG where
 | seq (c:Code)
 | blk (id:Nat)
 
 | inv (post:St→Prop)
def Bk (nt:Nat):Code→Bool
 | .region _ ops _=>ops.toList.all (Ho nt)
 | .seq a b=>Bk nt a&&Bk nt b
 | .cond _ a b=>Bk nt a&&Bk nt b
 | .block _ b=>Bk nt b
 | .loop b=>Bk nt b
 | .scope b=>Bk nt b
 | _=>true
def CZ (nt:Nat):List DG→Bool
 | []=>true
 | .seq c :: k=>Bk nt c&&CZ nt k
 | _ :: k=>CZ nt k
def Rb (c:Cx) (R:Exit→Act→World→Prop):List DG→Exit→Act→World→Prop
 | [],e,a,w=>R e a w
 | .seq y :: k,.normal,a,w=>y.wpIn (FR c.r) 0 c.P (Rb c R k) a w
 | .seq _ :: k,e,a,w=>Rb c R k e a w
 | .blk id :: k,.exit b,a,w=>if b=id then Rb c R k .normal a w else Rb c R k (.exit b) a w
 | .blk _ :: k,e,a,w=>Rb c R k e a w
 | .inv post :: _,.normal,a,w=>∃σ,c.sat σ a w∧post σ
 | .inv _ :: k,e,a,w=>Rb c R k e a w
inductive cL where
 | run (cd:Code)
 | out (e:Exit)
def nwp (c:Cx) (R:Exit→Act→World→Prop) (k:List DG):cL→Act→World→Prop
 | .run cd,a,w=>cd.wpIn (FR c.r) 0 c.P (Rb c R k) a w
 | .out e,a,w=>Rb c R k e a w
def Hq (nt:Nat):cL→Bool
 | .run cd=>Bk nt cd
 | .out _=>true
def Ev (c:Cx) (R:Exit→Act→World→Prop) (n:cL) (k:List DG) (σ:St):Prop :=
 Hq c.nt n=true→CZ c.nt k=true→∀a w,c.sat σ a w→nwp c R k n a w
theorem QZ {F:Fence} {j:Nat} {P:Program} {Q:Exit→Act→World→Prop} {a:Act} {w:World} {c:Code} (b:Nat→Act→World→Prop) (i:Nat) (o:b i a w)
  (round:∀n a w,b n a w→c.wpIn F j P (Exit.then (fun g w'=>∃f,f<n∧b f g w') Q) a w):(Code.loop c).wpIn F j P Q a w:=by
 refine wpIn_loop (fun a w=>∃n,b n a w) (fun a w=>leastOf (fun n=>b n a w)) ⟨i,o⟩ ?_;intro a w k;refine ACB (round _ a w (leastOf_spec k).1) ?_;intro e g w' d;cases e with
 | normal =>
  obtain⟨f,m,h⟩:=d;exact show (∃n,b n g w')∧leastOf (fun n=>b n g w')<leastOf (fun n=>b n a w) from ⟨⟨f,h⟩,AC9 ((leastOf_spec ⟨f,h⟩).2 f h) m⟩
 | exit id=>exact d
 | goto l=>exact d
 | ret=>exact d
 | panic ch=>exact d
 | outgrown=>exact d
def t9 (c:Cx) (σ σ':St):Prop:=∀a w,c.sat σ a w→c.sat σ' a w
section
variable {c:Cx} {R:Exit→Act→World→Prop} {k:List DG} {σ σ':St}
theorem Ev.ent {n:cL} (h:Ev c R n k σ') (d:t9 c σ σ'):Ev c R n k σ:=fun h1 b a w hs=>h h1 b a w (d a w hs)
theorem A0m {x y:Code} (h:Ev c R (.run x) (.seq y :: k) σ):Ev c R (.run (.seq x y)) k σ:=by
 intro h1 b a w hs;simp only[Hq,Bk,An]at h1;refine wpIn_seq (ACB (h h1.1 (by simp[CZ,h1.2,b]) a w hs) ?_);intro e f w' d;cases e<;>exact d
theorem cM (h:Ev c R (.out .normal) k σ):Ev c R (.run .skip) k σ:=fun _ b a w hs=>wpIn_skip (h rfl b a w hs)
theorem A0n (h:Ev c R (.out .ret) k σ):Ev c R (.run .ret) k σ:=fun _ b a w hs=>wpIn_ret (h rfl b a w hs)
theorem vC {id:Nat} (h:Ev c R (.out (.exit id)) k σ):Ev c R (.run (.exit id)) k σ:=fun _ b a w hs=>wpIn_exit (h rfl b a w hs)
theorem oX {id:Nat} {b:Code} (h:Ev c R (.run b) (.blk id :: k) σ):Ev c R (.run (.block id b)) k σ:=by
 intro h1 d a w hs;refine wpIn_block (ACB (h (by simpa[Hq,Bk] using h1) (by simpa[CZ] using d) a w hs) ?_);intro e g w' f;cases e<;>exact f
def EvR (c:Cx) (R:Exit→Act→World→Prop) (k:List DG):Cb→Prop
 | some (vc,σ)=>vc∧Ev c R (.out .normal) k σ
 | none=>False
theorem kO (f:c.Ok) {id:Nat} {ops:Array Oper} (h:EvR c R k (Bl c.tb ops.toList ops.toList σ)):Ev c R (.run (.region id ops false)) k σ:=by
 intro h1 e a w hs;cases b:Bl c.tb ops.toList ops.toList σ with
 | none=>rw[b]at h;exact h.elim
 | some r =>
  obtain⟨vc,σ'⟩:=r;rw[b]at h;simp only[Hq,Bk,DO]at h1;exact ABZ (M7 f ops.toList hs h1 b h.1 fun d w' g=>h.2 rfl e d w' g)
def EvC (c:Cx) (R:Exit→Act→World→Prop) (x y:Code) (k:List DG) (σ:St):Option AV→Prop
 | some (.p .bool b)=>(b=true→Ev c R (.run x) k σ)∧(b=false→Ev c R (.run y) k σ)
 | _=>False
theorem vD {o:Operand} {x y:Code} (h:EvC c R x y k σ (AZ σ o)):Ev c R (.run (.cond o x y)) k σ:=by
 intro h1 g a w hs;simp only[Hq,Bk,An]at h1;obtain⟨ρ,f⟩:=hs;have j:=DU f.env;cases e:AZ σ o with
 | none=>rw[e]at h;exact h.elim
 | some v =>
  have l:=j o v e;rw[e]at h;unfold EvC at h;split at h
  ·rename_i b i;cases i;have d:=Dk l;exact wpIn_cond_split d (fun d=>h.1 d h1.1 g a w ⟨ρ,f⟩) (fun d=>h.2 d h1.2 g a w ⟨ρ,f⟩)
  ·exact h.elim
theorem Gq {y:Code} (h:Ev c R (.run y) k σ):Ev c R (.out .normal) (.seq y :: k) σ:=by
 intro _ b a w hs;simp only[CZ,An]at b;exact h b.1 b.2 a w hs
theorem XI {id:Nat} {y:Code} (h:Ev c R (.out (.exit id)) k σ):Ev c R (.out (.exit id)) (.seq y :: k) σ:=by
 intro _ b a w hs;simp only[CZ,An]at b;exact h rfl b.2 a w hs
theorem ZS {y:Code} (h:Ev c R (.out .ret) k σ):Ev c R (.out .ret) (.seq y :: k) σ:=by
 intro _ b a w hs;simp only[CZ,An]at b;exact h rfl b.2 a w hs
theorem ZT {id:Nat} (h:Ev c R (.out .normal) k σ):Ev c R (.out .normal) (.blk id :: k) σ:=fun _ b a w hs=>h rfl (by simpa[CZ] using b) a w hs
theorem Pw {id b:Nat} (h:if b=id then Ev c R (.out .normal) k σ else Ev c R (.out (.exit b)) k σ):Ev c R (.out (.exit b)) (.blk id :: k) σ:=by
 intro _ d a w hs;have d:CZ c.nt k=true:=by simpa[CZ] using d
 show (if b=id then Rb c R k .normal a w else Rb c R k (.exit b) a w);split at h
 ·rename_i e;rw[BY e];exact h rfl d a w hs
 ·rename_i e;rw[At e];exact h rfl d a w hs
theorem ZU {id:Nat} (h:Ev c R (.out .ret) k σ):Ev c R (.out .ret) (.blk id :: k) σ:=fun _ b a w hs=>h rfl (by simpa[CZ] using b) a w hs
theorem AB {post:St→Prop} (h:post σ):Ev c R (.out .normal) (.inv post :: k) σ:=fun _ _ _ _ hs=>⟨σ,hs,h⟩
theorem XJ {id:Nat} {post:St→Prop} (h:Ev c R (.out (.exit id)) k σ):Ev c R (.out (.exit id)) (.inv post :: k) σ:=fun _ b a w hs=>h rfl (by simpa[CZ] using b) a w hs
theorem ZV {post:St→Prop} (h:Ev c R (.out .ret) k σ):Ev c R (.out .ret) (.inv post :: k) σ:=fun _ b a w hs=>h rfl (by simpa[CZ] using b) a w hs
def A1e (c:Cx) {ι:Type} (I:ι→St) (μ:ι→Nat) (i:ι) (σ:St):Prop:=∃j,μ j<μ i∧t9 c σ (I j)
theorem AH {ι:Type} (d:ι→St) (f:ι→Nat) (g:ι) {b:Code} (h0:t9 c σ (d g)) (o:∀i,Ev c R (.run b) (.inv (A1e c d f i) :: k) (d i)):Ev c R (.run (.loop b)) k σ:=by
 intro h1 m a w hs;have h1:Bk c.nt b=true:=by simpa[Hq,Bk] using h1
 refine QZ (fun n a w=>∃i,f i=n∧c.sat (d i) a w) (f g) ⟨g,rfl,h0 a w hs⟩ ?_;rintro n a w ⟨i,rfl,hs⟩;refine ACB (o i h1 (by simpa[CZ] using m) a w hs) ?_;intro e l w' h;cases e with
 | normal =>
  obtain⟨σ',r,j,q,p⟩:=h;exact⟨f j,q,j,rfl,p l w' r⟩
 | _=>exact h
theorem M8 {ι:Type} (b:ι→St) {x y:Code} (h:Ev c R (.run x) (.inv (fun σ'=>∃i,t9 c σ' (b i)) :: .seq y :: k) σ) (m:∀i,Ev c R (.run y) k (b i)):Ev c R (.run (.seq x y)) k σ:=by
 intro h1 f a w hs;simp only[Hq,Bk,An]at h1;refine wpIn_seq (ACB (h h1.1 (by simp[CZ,h1.2,f]) a w hs) ?_);intro e d w' g;cases e with
 | normal =>
  obtain⟨σ',l,i,j⟩:=g;exact m i h1.2 f d w' (j d w' l)
 | _=>exact g
end
end
section
open Go Go.RowKit
def AL:Nat→(ts:List Ty)→JG ts→List (Nat×AV)
 | _,[],_=>[]
 | s,t :: ts,d=>(s,.p t d.1) :: AL (s+1) ts d.2
def JZ (σ:St) (ty:Ty):Option AV→Option AV
 | some (.bp n a off)=>match Dz ty a off (lk n σ.objs) with
  | some (_,v,_)=>some v
  | none=>none
 | _=>none
def Gr (tb:Tb) (σ:St):ResultVar→Option AV
 | .tmp t=>lk t σ.env
 | .cell a t=>match lk t tb.ty with
  | some ti=>JZ σ ti.ty (lk a σ.env)
  | none=>none
def LR:Option AV→List Nat
 | some v=>v.names
 | none=>[]
def ID (σ:St) (t:Ty):Option AV→Option t.den
 | some v=>J0 false σ t v
 | none=>none
def F0 (σ:St) (et:TypeId) (e:Ty):Option Obj→Option (List e.den)
 | some (.arr b a xs)=>if b=et then BG (.slice e) ⟨.slice a,xs⟩ else none
 | _=>none
def Hr (tb:Tb) (σ:St) (rv:ResultVar):RV→Prop
 | .p t d=>ID (CS (LR (Gr tb σ rv)) σ) t (Gr tb (CS (LR (Gr tb σ rv)) σ) rv)=some d
 | .own et e xs=>match Gr tb σ rv with
  | some (.sr n a 0 hi)=>a=e∧F0 σ et e (lk n σ.objs)=some xs∧hi=xs.length
  | _=>False
def Lz (tb:Tb) (σ:St):List ResultVar→List RV→Prop
 | [],[]=>True
 | [rv],[r]=>Hr tb σ rv r
 | rv :: b,.p t d :: a=>Hr tb σ rv (.p t d)∧Lz tb σ b a
 | _,_=>False
section
variable {P:Program} {tb:Tb} {w0:World} {O0:Nat→Prop} {nt:Nat} {ds:Fp}
def cx (P:Program) (tb:Tb) (w0:World) (O0:Nat→Prop) (nt:Nat):Cx:={ P:=P,tb:=tb,w0:=w0,K:=fun b=>b<w0.heap.size,O0:=O0,nt:=nt }
theorem UA:∀(ts:List Ty) (a:List Value) (ds:JG ts) (k:Nat) (w:World) (O:Nat→Prop),Pp w O ts a ds→∀s v,lk s (AL k ts ds)=some v→k≤s∧∃u,a[s-k]?=some u∧∃t d,v=.p t d∧BM w O t u d
 | [],a,ds,k,w,O,h,s,v,hs=>by simp[AL,lk]at hs
 | t :: ts,a,ds,k,w,O,h,s,v,hs=>by
  obtain⟨u,r,rfl,h1,b⟩:=h;simp only[AL,lk]at hs;split at hs
  ·rename_i e;cases hs;subst e;exact⟨If _,u,by simp,t,ds.1,rfl,h1⟩
  ·obtain⟨i,g,c,f⟩:=UA ts r ds.2 (k+1) w O b s v hs;refine⟨by omega,g,?_,f⟩;rw[show s-k=(s-(k+1))+1 by omega];simpa using c
theorem Px:∀ {ts:List Ty} {a:List Value} {ds:JG ts} {w:World} {O:Nat→Prop},Pp w O ts a ds→a.length=ts.length
 | [],a,ds,w,O,h=>by have h:a=[]:=h;subst h;rfl
 | t :: ts,a,ds,w,O,h=>by
  obtain⟨u,r,rfl,h1,b⟩:=h;simp[Px b]
theorem kP {ts:List Ty} {a:List Value} {ds:JG ts} (h:Pp w0 O0 ts a ds) (k:a.length≤nt) :
  (cx P tb w0 O0 nt).sat ⟨AL 0 ts ds,[]⟩ { tmps:=a.toArray++Array.replicate (nt-a.toArray.size) undef,defers:=[] } w0:=by
 refine⟨fun _=>undef,⟨rfl,rfl,rfl,If _,fun _ _=>rfl⟩,by simp[cx];omega,rfl,(fun p hp=>by simp[cx]at hp),fun n o h=>by simp[lk]at h,fun n b ⟨o,h⟩=>by simp[lk]at h,fun n m b ⟨o,h⟩=>by simp[lk]at h,fun s v hs=>?_⟩;obtain⟨_,u,h1,t,d,rfl,e⟩:=UA ts a ds 0 w0 O0 h s v hs;have c:s<a.length:=by
  have:=(No.1 h1).1;simpa using this
 have i:(a.toArray++Array.replicate (nt-a.toArray.size) undef).getD s undef=u:=by
  have h1:a[s]?=some u:=by simpa using h1
  have:a[s]=u:=by rw[AT c]at h1;injection h1
  simp[Array.getElem?_append,c,this]
 rw[i];refine BM.mono (fun b _ f g=>?_) (fun _ _ _=>rfl) e;rcases g with h0|⟨n,⟨o,j⟩,_⟩
 ·exact f h0
 ·simp[lk]at j
def Ii (tmps:Array Value):ResultVar→Sem Value
 | .tmp t=>pure (tmps.getD t undef)
 | .cell a t=>do loadVar t (←asAddr (tmps.getD a undef))
theorem MG (fn:Func) (tmps:Array Value):results fn tmps=(do let a ←fn.results.mapM (Ii tmps);pure (if h:a.size=1 then a[0] else .tuple a)):=by
 unfold results
 congr 1
theorem Qp (hT:Cg P tb) {K:Nat→Prop} {σ:St} {ρ:Nat→Value} {a:Act} {w:World} (hs:Bb w0 K O0 nt ds σ ρ a w) {rv:ResultVar} {v:AV} (h:Gr tb σ rv=some v) :
  ∃u,(Ii a.tmps rv).run P w=.ok u w∧Bm (vw w O0 σ ρ) v u:=by
 cases rv with
 | tmp t =>
  simp only[Gr]at h;exact⟨_,by simp[Ii],hs.env t v h⟩
 | cell x t =>
  simp only[Gr]at h;cases d:lk t tb.ty with
  | none=>rw[d]at h;simp at h
  | some ti =>
   rw[d]at h;simp only at h;cases e:lk x σ.env with
   | none=>rw[e]at h;simp[JZ]at h
   | some xv =>
    rw[e]at h;unfold JZ at h;split at h
    ·rename_i n l off i;cases i;have f:=hs.env x _ e;split at h
     ·rename_i vc o obs j;cases h;have k:IY σ (some ti) (some (.bp n l off))=some (vc,v,obs):=j;obtain⟨_,u,h1,g⟩:=oB (hT _ _ d) hs.objs k f;obtain⟨m,b,_,c⟩:=f;rw[c]at h1;have c:a.tmps.getD x undef=.pointer (some ⟨b,off,none⟩):=c;refine⟨u,?_,g⟩;simp only[Instr.loadAt,Instr.sureAddr,AAA,AB1,AA6]at h1;simp only[Ii,c,asAddr,AAA,AB1,AA6,h1]
     ·cases h
    ·cases h
theorem vE (hT:Cg P tb) {K:Nat→Prop} {σ:St} {ρ:Nat→Value} {a:Act} {w:World} (hs:Bb w0 K O0 nt ds σ ρ a w) {rv:ResultVar} {t:Ty} {d:t.den} (h:Hr tb σ rv (.p t d)) :
  ∃u,(Ii a.tmps rv).run P w=.ok u w∧BM w O0 t u d:=by
 unfold Hr at h;have e:=JY (l:=LR (Gr tb σ rv)) hs;generalize CS (LR (Gr tb σ rv)) σ=f at h e;cases c:Gr tb f rv with
 | none=>rw[c]at h;simp[ID]at h
 | some v =>
  rw[c]at h;simp only[ID]at h;obtain⟨u,h1,g⟩:=Qp hT e c;have i:=Ie (V:=vw w O0 f ρ) (O':=O0) (fun b j k=>j (.inl k)) (fun h=>by cases h) e.objs h g;exact⟨u,h1,i⟩
theorem oY (hT:Cg P tb) {K:Nat→Prop} {σ:St} {ρ:Nat→Value} {a:Act} {w:World} (hs:Bb w0 K O0 nt ds σ ρ a w):∀ {f:List ResultVar} {c:List RV},(∀r∈c,∃t d,r=.p t d)→Lz tb σ f c →
  ∃e:List Value,(f.mapM (Ii a.tmps)).run P w=.ok e w∧e.length=c.length ∧
   ∀nm V,V.w=w→(∀b,V.O b→O0 b)→Ib V (Lv nm c) e
 | [],[],_,_=>⟨[],by simp,rfl,fun _ _ _ _=>rfl⟩
 | [],_ :: _,_,h=>by simp[Lz]at h
 | _ :: _,[],_,h=>by simp[Lz]at h
 | rv :: f,r :: c,hp,h=>by
  obtain⟨t,d,rfl⟩:=hp r (by simp);have g:Hr tb σ rv (.p t d)∧Lz tb σ f c:=by
   cases f with
   | nil =>
    cases c with
    | nil=>exact⟨h,trivial⟩
    | cons v x=>exact⟨h.1,h.2⟩
   | cons y z=>exact⟨h.1,h.2⟩
  obtain⟨u,h1,k⟩:=vE hT hs g.1;obtain⟨e,l,m,n⟩:=oY hT hs (fun r s=>hp r (by simp[s])) g.2;refine⟨u :: e,?_,by simp[m],fun nm V j i=>⟨u,e,rfl,?_,n _ V j i⟩⟩
  ·rw[List.mapM_cons];simp only[AAA,h1,AA6,l,AB1]
  ·show BM V.w V.O t u d;rw[j];exact BM.mono (fun b _ o q=>o (i b q)) (fun _ _ _=>rfl) k
def Rc (P:Program) (fn:Func) (w0:World) (O0:Nat→Prop) (a:List RV):Exit→Act→World→Prop :=
 bodyPost P fn fun e w'=>∃u,e=.returned u∧oL w0 O0 a u w'
theorem oZ (x:(cx P tb w0 O0 nt).Ok) {fn:Func} {g:List RV} {σ:St} {e:Exit} (y:e=.ret∨e=.normal) (hp:∀r∈g,∃t d,r=.p t d) (h:Lz tb σ fn.results.toList g) :
  Ev (cx P tb w0 O0 nt) (Rc P fn w0 O0 g) (.out e) [] σ:=by
 intro _ _ a w hs;obtain⟨ρ,hs⟩:=hs;obtain⟨f,h1,i,m⟩:=oY x.T hs hp h;have h1:(fn.results.toList.mapM (Ii a.tmps)).run P w=.ok f w:=h1;have s:Below w0.heap.size w0 w:=⟨hs.frm.os,hs.frm.tape,hs.frm.output,hs.frm.size,hs.frm.block⟩;have D:∃v,(results fn a.tmps).run P w=.ok v w∧oL w0 O0 g v w:=by
  have A:(fn.results.mapM (Ii a.tmps)).run P w=.ok f.toArray w:=by
   rw[ABl];simp only[Sem.run_map,h1,AA6]
  refine⟨if h:f.toArray.size=1 then f.toArray[0] else .tuple f.toArray,?_,fun nm=>⟨fun _=>undef,?_⟩⟩
  ·rw[MG];simp only[AAA,A,AA6,AB1]
  ·have z:Ce nm g=[]:=by
    clear h h1 i m;induction g generalizing nm with
    | nil=>rfl
    | cons r F E =>
     obtain⟨t,d,rfl⟩:=hp r (by simp);simp only[Ce,Pe,AB9];exact E (fun r C=>hp r (by simp[C])) (nm+10000)
   rw[z];refine⟨s,fun _ _=>rfl,?_,(fun _ _ h=>by cases h),(fun _ _ _ h=>by cases h),(fun _ _ _ _ _ h=>by cases h)⟩;have c:=m nm (vw w O0 (Dq ⟨[],[]⟩ []) (fun _=>undef)) rfl (fun b q=>by
    rcases q with h0|⟨n,⟨o,B⟩,_⟩
    ·exact h0
    ·simp[Dq,lk]at B)
   match g,hp,f,i,c with
   | [],_,f,i,c =>
    have c:f=[]:=c;subst c;exact(rfl:_=_)
   | [r],hp,f,i,c =>
    obtain⟨u,l,rfl,j,k⟩:=c;have k:l=[]:=k;subst k;simp only[IX];exact nZ j
   | G :: H :: F,hp,f,i,c =>
    have:¬f.toArray.size=1:=by simp at i ⊢;omega
    rw[dif_neg this];exact⟨f,rfl,c⟩
 obtain⟨v,c,j⟩:=D;rcases y with rfl|rfl
 ·exact⟨hs.defers,v,c,v,rfl,j⟩
 ·exact⟨hs.defers,v,c,v,rfl,j⟩
end
end
section
open Go Go.RowKit
def Ty.ok:(t:Ty)→t.den→Prop
 | .int k,d=>Jz k d
 | .bool,_=>True
 | .str,d=>ByteArray.size d≤AO
 | .slice e,d=>List.length d≤AO∧∀x∈(d:List e.den),e.ok x
 | .prod a b,d=>a.ok d.1∧b.ok d.2
 | .agg t,d=>t.ok d
 | .ref _,_=>True
theorem Gt {w:World} {O:Nat→Prop}:∀ {t:Ty} {cs:List Value} {d:t.den},Be w O t cs d→t.ok d
 | .int _,_,_,h=>h.2
 | .bool,_,_,_=>trivial
 | .str,_,_,h=>h.2
 | .ref _,_,_,_=>trivial
 | .slice e,_,d,h=>by
  obtain⟨a,c,_,_,f,g⟩:=h;refine⟨f,fun x j=>?_⟩;rcases g with g|⟨ad,_,_,k⟩
  ·subst g;simp at j
  ·obtain⟨i,hi,rfl⟩:=AAa.1 j;obtain⟨m,_,_,l⟩:=k i _ (AT hi);exact Gt l
 | .prod a b,_,_,h=>by
  obtain⟨c1,c2,_,h1,f⟩:=h;exact⟨Gt h1,Gt f⟩
 | .agg t,cs,d,h=>by
  have h:Be w O t cs d:=h;exact(Gt h:t.ok d)
def oks:(ts:List Ty)→JG ts→Prop
 | [],_=>True
 | t :: ts,d=>t.ok d.1∧oks ts d.2
theorem cN {w:World} {O:Nat→Prop}:∀ {ts:List Ty} {a:List Value} {ds:JG ts},Pp w O ts a ds→oks ts ds
 | [],_,_,_=>trivial
 | t :: ts,a,ds,h=>by
  obtain⟨v,r,rfl,⟨cs,h1,_⟩,b⟩:=h;exact⟨Gt h1,cN b⟩
section
variable {P:Program} {tb:Tb} {w0:World} {O0:Nat→Prop} {nt:Nat}
theorem zY {f : FuncId} {fn : Func} {cd : Code} {a : Ad} (e : P.funcs[f]? = some fn) (k : (fn.name == "runtime.NumGoroutine") = false) (d : fn.body = some cd) (l : fn.ntmps = nt) (o : a.ins.length ≤ nt)
  (j:Bk nt cd=true) (hT:Cg P tb) (hF:Hl P tb)
  (h:∀(w0:World) (O0:Nat→Prop) (ds:JG a.ins),(cx P tb w0 O0 nt).Ok→oks a.ins ds→a.pre ds→Ev (cx P tb w0 O0 nt) (Rc P fn w0 O0 (a.out ds)) (.run cd) [] ⟨AL 0 a.ins ds,[]⟩):Aj P f a:=by
 refine⟨⟨fn,e,k,by simp[d]⟩,fun w O q ds g c m=>?_⟩;refine calls_of_wp e d ((wpIn_wide (n:=0)).1 ?_);have p:=Px c;rw[l];exact h w O ds ⟨fun b i=>i,g,hT,hF⟩ (cN c) m j rfl _ _ (kP c (by omega))
theorem Gu (O:(cx P tb w0 O0 nt).Ok) {fn:Func} {et:TypeId} {e:Ty} {xs:List e.den} {σ:St} {ex:Exit} (p:ex=.ret∨ex=.normal) {rv:ResultVar} (S:fn.results=#[rv]) (h:Hr tb σ rv (.own et e xs)) :
  Ev (cx P tb w0 O0 nt) (Rc P fn w0 O0 [.own et e xs]) (.out ex) [] σ:=by
 intro _ _ a w hs;obtain⟨ρ,hs⟩:=hs;have N:Below w0.heap.size w0 w:=⟨hs.frm.os,hs.frm.tape,hs.frm.output,hs.frm.size,hs.frm.block⟩;unfold Hr at h;simp only at h;split at h
 ·rename_i n Z hi U;obtain⟨rfl,c,rfl⟩:=h;cases hn:lk n σ.objs with
  | none=>rw[hn]at c;simp[F0]at c
  | some o =>
   rw[hn]at c;cases o with
   | box f al fs=>simp[F0]at c
   | mapo k v l=>simp[F0]at c
   | frame am fs=>simp[F0]at c
   | loop L=>simp[F0]at c
   | itr ah ak ai aj af=>simp[F0]at c
   | dfr=>simp[F0]at c
   | nest aa ag k d ys A=>simp[F0]at c
   | arr f d ys =>
    simp only[F0]at c;split at c
    ·rename_i R;subst R;obtain⟨rfl,I⟩:=BX c;cases I;obtain⟨u,V,K⟩:=Qp (P:=P) O.T hs U;obtain⟨ab,y⟩:=K;have C:=hs.objs n _ hn;have q:u=ρ n:=by
      obtain⟨a0,m,c0,t,_,ad,W,X,rfl,_,h0,_⟩:=y;have t:plc (ρ n)=_:=t;obtain⟨rfl,rfl⟩:=h0 rfl;obtain⟨_,cells,s,_⟩:=C;have s:w.ownsRow 0 f d.size (ρ n) ys.length cells:=s;rw[GT s]at t;have r:m=ys.length:=by
       rcases s.2 with ⟨p,ae⟩|⟨g,cap,Y,p,_⟩
       ·rw[t]at p;injection p;omega
       ·rw[t]at p;injection p
      rw[t,r,AC8]
     have D:(results fn a.tmps).run P w=.ok u w:=by
      rw[MG,S];have:((#[rv]:Array ResultVar).mapM (Ii a.tmps)).run P w=.ok #[u] w:=by
       rw[ABl];simp[V]
      simp only[AAA,this,AA6,AB1];rfl
     have z:oL w0 O0 [.own f d ys] u w:=by
      intro nm;have B:∀m,Fl (Dq ⟨[],[]⟩ [(nm,.arr f d ys)]) m↔m=nm:=by
       intro m;simp[Fl,Dq,lk]
      have hk:∀b,¬own O0 σ ρ b→¬own O0 (Dq ⟨[],[]⟩ [(nm,.arr f d ys)]) (Dr (fun _=>undef) nm u) b:=by
       intro b j M;rcases M with h0|⟨m,A,r⟩
       ·exact j (.inl h0)
       ·rw[(B m).1 A,BU,q]at r;exact j (.inr ⟨n,⟨_,hn⟩,r⟩)
      have J:Ce nm [RV.own f d ys]=[(nm,.arr f d ys)]:=rfl;rw[J];refine⟨Dr (fun _=>undef) nm u,QS.one (loc:=u) N (fun b j=>?_) ?_ ?_⟩
      ·rw[q]at j;have:=(hs.free n b ⟨_,hn⟩ j).1;simp only[cx]at this;omega
      ·refine⟨(B nm).2 rfl,?_⟩;show Cf (plc (Dr (fun _=>undef) nm u nm)) _ _ _ u;rw[BU,q];rw[q]at y;exact y
      ·rw[q];obtain⟨r,cells,s,Q⟩:=C;refine⟨r,cells,s,fun i x hi=>?_⟩;obtain⟨E,F,G,H⟩:=Q i x hi;rw[q]at hk;exact⟨E,F,G,H.mono (fun b _ j=>hk b j) (fun _ _ _=>rfl)⟩
     rcases p with rfl|rfl
     ·exact⟨hs.defers,u,D,u,rfl,z⟩
     ·exact⟨hs.defers,u,D,u,rfl,z⟩
    ·cases c
 ·exact h.elim
end
end
section
open Go Go.RowKit
section
variable {P:Program} {tb:Tb} {w0:World} {O0:Nat→Prop} {nt:Nat} {R:Exit→Act→World→Prop} {k:List DG} {σ σ':St}
theorem XK:(cx P tb w0 O0 nt).tb=tb:=rfl
theorem ZW {c:Cx} (a:c.Ok) {id:Nat} {l:List Oper} {vc:Prop} (h:Bl c.tb l l σ=some (vc,σ')) (b:vc) (hk:Ev c R (.out .normal) k σ') :
  Ev c R (.run (.region id l.toArray false)) k σ:=kO a (by
 show EvR _ _ _ (Bl c.tb l l σ);rw[h];exact⟨b,hk⟩)
theorem DH {c:Cx} {o:Operand} {x y:Code} {b:Bool} (h:AZ σ o=some (.p .bool b)) (a:b=true→Ev c R (.run x) k σ) (hf:b=false→Ev c R (.run y) k σ):Ev c R (.run (.cond o x y)) k σ :=
 vD (by rw[h];exact⟨a,hf⟩)
theorem ZX {c:Cx} {id:Nat} (h:Ev c R (.out .normal) k σ):Ev c R (.out (.exit id)) (.blk id :: k) σ:=Pw (by rw[BY rfl];exact h)
theorem ZY {c:Cx} {id a:Nat} (b:a≠id) (h:Ev c R (.out (.exit a)) k σ):Ev c R (.out (.exit a)) (.blk id :: k) σ:=Pw (by rw[At b];exact h)
end
inductive B8 where
 | nm (n:Nat)
 | nil
def DV (ren:List (Nat×B8)):AV→AV→Prop
 | .p t d,.p u a=>BG u ⟨t,d⟩=some a
 | .raw (.slice none 0 0),.p (.slice e) a=>(a:List e.den)=[]
 | .raw v,.raw u=>v=u
 | .raw (.slice none 0 0),.sr m _ lo hi=>lk m ren=some .nil∧lo=0∧hi=0
 | .sr n e lo hi,.sr m b h c=>lk m ren=some (.nm n)∧e=b∧lo=h∧hi=c
 | .ip t d,.ip u a=>BG u ⟨t,d⟩=some a
 | .bp n p o,.bp m k j=>lk m ren=some (.nm n)∧p=k∧o=j
 | .fn f,.fn g=>f=g
 | .clo f ns,.clo g i=>f=g∧i.map (fun m=>lk m ren)=ns.map fun n=>some (.nm n)
 | .mp n,.mp m=>lk m ren=some (.nm n)
 | .yl n,.yl m=>lk m ren=some (.nm n)
 | _,.top=>True
 | _,_=>False
def EZ (ren:List (Nat×B8)):List AV→List AV→Prop
 | [],[]=>True
 | x :: l,y :: r=>(x.cells=y.cells∧DV ren x y)∧EZ ren l r
 | _,_=>False
def Gv (ren:List (Nat×B8)):AV→AV→Prop
 | .ag l,.ag r=>EZ ren l r
 | x,y=>DV ren x y
def Hs (ren:List (Nat×B8)):List AV→List AV→Prop
 | [],[]=>True
 | x :: l,y :: r=>Gv ren x y∧Hs ren l r
 | _,_=>False
def Bn (ren:List (Nat×B8)):AV→AV→Prop
 | .tup l,.tup r=>Hs ren l r
 | x,y=>Gv ren x y
def Ja (ren:List (Nat×B8)):Option AV→AV→Prop
 | some x,y=>Bn ren x y
 | none,.top=>True
 | none,_=>False
def FB (env:List (Nat×AV)) (ren:List (Nat×B8)):List (Nat×AV)→Prop
 | []=>True
 | (s,y) :: r=>Ja ren (lk s env) y∧FB env ren r
def IE (ren:List (Nat×B8)):Option Obj→Obj→Prop
 | some (.arr et e xs),.arr a c ys=>et=a∧BG (.slice c) ⟨.slice e,xs⟩=some ys
 | some (.box et r fs),.box a s d=>et=a∧r=s∧EZ ren fs d
 | some (.nest et n k e xs h),.nest a o b c ys m=>(et=a∧n=o∧h=m)∧BG (.slice (.prod b (.slice c))) ⟨.slice (.prod k (.slice e)),xs⟩=some ys
 | some (.mapo k v l),.mapo b f l'=>BG (.slice (.prod b f)) ⟨.slice (.prod k v),l⟩=some l'
 | some (.frame t fs),.frame u d=>t=u∧FB fs ren d
 | some (.itr k v l p i),.itr b f l' q j=>BG (.slice (.prod b f)) ⟨.slice (.prod k v),l⟩=some l'∧p=q∧i=j
 | some (.loop L),.loop g=>L=g
 | some .dfr,.dfr=>True
 | _,_=>False
def GH (objs:List (Nat×Obj)) (ren:List (Nat×B8)) (o:Obj):Option B8→Prop
 | some (.nm n)=>IE ren (lk n objs) o
 | some .nil=>match o with
  | .arr _ e ys=>(ys:List e.den)=[]
  | .box _ _ _=>False
  | .nest _ _ k e ys _=>(ys:List (k.den×List e.den))=[]
  | .mapo _ _ _=>False
  | .frame _ _=>False
  | .itr _ _ _ _ _=>False
  | .loop _=>False
  | .dfr=>False
 | none=>False
def Al (objs:List (Nat×Obj)) (ren:List (Nat×B8)):List (Nat×Obj)→Prop
 | []=>True
 | (m,o) :: r=>GH objs ren o (lk m ren)∧Al objs ren r
def CG:List (Nat×B8)→Bool
 | []=>true
 | (_,.nm n) :: r=>(r.all fun p=>match p.2 with|.nm a=>a != n|.nil=>true)&&CG r
 | (_,.nil) :: r=>CG r
def Ka {α:Type}:List (Nat×α)→Bool
 | []=>true
 | (n,_) :: r=>(r.all fun p=>p.1 != n)&&Ka r
section
variable {ren:List (Nat×B8)} {V V':Vw}
structure Kb (ren:List (Nat×B8)) (V V':Vw):Prop where
 w:V'.w=V.w
 O:∀b,¬V.O b→¬V'.O b
 ρ:∀m n,lk m ren=some (.nm n)→V'.ρ m=V.ρ n
 nil:∀m,lk m ren=some .nil→V'.ρ m=.slice none 0 0
 L:∀m f,lk m ren=some f→V'.L m
theorem Kb.vrep (h:Kb ren V V') {t:Ty} {v:Value} {d:t.den} (c:BM V.w V.O t v d):BM V'.w V'.O t v d :=
 BM.mono (fun b _ a=>h.O b a) (fun b _ _=>by rw[h.w]) c
theorem Kb.rep (h:Kb ren V V') {t:Ty} {cs:List Value} {d:t.den} (c:Be V.w V.O t cs d):Be V'.w V'.O t cs d :=
 c.mono (fun b _ a=>h.O b a) (fun b _ _=>by rw[h.w])
theorem Kb.map (h:Kb ren V V'):∀ {b ns:List Nat},b.map (fun m=>lk m ren)=ns.map (fun n=>some (B8.nm n))→b.map V'.ρ=ns.map V.ρ∧∀m∈b,∃n∈ns,lk m ren=some (.nm n)
 | [],[],_=>⟨rfl,fun _ h=>by cases h⟩
 | [],_ :: _,a=>by simp at a
 | _ :: _,[],a=>by simp at a
 | m :: b,n :: ns,a=>by
  simp only[tO,ABa]at a;obtain⟨h1,d⟩:=h.map a.2;refine⟨by simp only[tO,h1,h.ρ _ _ a.1],fun x c=>?_⟩;rcases Do.1 c with rfl|c
  ·exact⟨n,by simp,a.1⟩
  ·obtain⟨y,f,e⟩:=d x c;exact⟨y,by simp[f],e⟩
theorem UB (h:Kb ren V V') {x y:AV} {v:Value} (b:DV ren x y) (c:RM V x v):RM V' y v∧(∀t d,y=.p t d→(∀u i,x≠.p u i)→v.oneCell'=true→Be V'.w V'.O t [v] d):=by
 unfold DV at b;split at b
 ·have:=A5 b;injection this with h1 f
  subst h1;cases f;exact⟨h.vrep c,fun _ _ _ z=>absurd rfl (z _ _)⟩
 ·have c:v=_:=c;subst c;have k:=b;have g:∀(O:Nat→Prop) (e:Ty),Be V'.w O (.slice e) [.slice none 0 0] ([]:List e.den):=fun O e=>⟨none,0,rfl,by simp,by simp[AO],.inl rfl⟩;rename_i e i;have k:i=([]:List e.den):=k;subst k;refine⟨⟨_,g _ _,rfl⟩,fun t d a _ _=>?_⟩;injection a with h1 f
  subst h1;cases f;exact g _ _
 ·subst b;exact⟨c,fun t d a=>by cases a⟩
 ·rename_i m e lo hi;obtain⟨h1,rfl,rfl⟩:=b;have c:v=_:=c;subst c;refine⟨⟨h.L _ _ h1,?_⟩,fun t d a=>by cases a⟩;rw[h.nil _ h1];exact⟨none,0,0,rfl,by omega,by omega,none,0,rfl,by omega,fun _=>⟨rfl,rfl⟩,fun h=>by omega⟩
 ·obtain⟨h1,rfl,rfl,rfl⟩:=b;refine⟨⟨h.L _ _ h1,?_⟩,fun t d a=>by cases a⟩;rw[h.ρ _ _ h1];exact c.2
 ·have:=A5 b;injection this with h1 f
  subst h1;cases f;obtain⟨ad,cs,a,o,q,g⟩:=c;exact⟨⟨ad,cs,a,h.O _ o,fun j u r=>by rw[h.w];exact q j u r,h.rep g⟩,fun t d a=>by cases a⟩
 ·obtain⟨h1,rfl,rfl⟩:=b;refine⟨⟨h.L _ _ h1,?_⟩,fun t d a=>by cases a⟩;rw[h.ρ _ _ h1];exact c.2
 ·subst b;exact⟨c,fun t d a=>by cases a⟩
 ·obtain⟨rfl,s⟩:=b;obtain⟨h1,f⟩:=h.map s;refine⟨⟨?_,fun m b=>?_⟩,fun t d a=>by cases a⟩
  ·rw[h1];exact c.1
  ·obtain⟨n,hn,l⟩:=f m b;refine⟨h.L _ _ l,?_⟩;rw[h.ρ _ _ l];exact(c.2 n hn).2
 ·refine⟨⟨h.L _ _ b,?_⟩,fun t d a=>by cases a⟩;rw[h.ρ _ _ b];exact c.2
 ·refine⟨⟨h.L _ _ b,?_⟩,fun t d a=>by cases a⟩;rw[h.ρ _ _ b];exact c.2
 ·exact⟨trivial,fun t d a=>by cases a⟩
 ·exact b.elim
theorem kQ (h:Kb ren V V') {x y:AV} {cs:List Value} (f:x.cells=y.cells) (b:DV ren x y) (a:Lo V x cs):Lo V' y cs:=by
 by_cases hp:∃t d,x=.p t d
 ·obtain⟨t,d,rfl⟩:=hp;have a:Be V.w V.O t cs d:=a;cases y<;>simp only[DV]at b<;>try exact b.elim
  ·have:=A5 b;injection this with h1 c
   subst h1;cases c;exact h.rep a
  ·have g:=a.length;simp only[AV.cells]at f;rw[f]at g;obtain⟨v,rfl⟩:=AAJ.1 g;exact⟨v,rfl,a.one v (by simp),trivial⟩
 ·have l:∃v,cs=[v]∧v.oneCell'=true∧RM V x v:=by
   cases x;case p t d=>exact absurd ⟨t,d,rfl⟩ hp
   all_goals exact a
  obtain⟨v,rfl,h1,c⟩:=l;obtain⟨j,k⟩:=UB h b c;cases y;case p t d=>exact k t d rfl (fun u i e=>hp ⟨u,i,e⟩) h1
  all_goals exact⟨v,rfl,h1,j⟩
theorem MH (h:Kb ren V V'):∀ {l r:List AV} {cs:List Value},EZ ren l r→Cw V l cs→Cw V' r cs
 | [],[],cs,_,b=>b
 | [],_ :: _,cs,a,_=>a.elim
 | _ :: _,[],cs,a,_=>a.elim
 | x :: l,y :: r,cs,a,b=>by
  obtain⟨c1,c2,rfl,h1,c⟩:=b;exact⟨c1,c2,rfl,kQ h a.1.1 a.1.2 h1,MH h a.2 c⟩
theorem J5:∀ {l r:List AV},EZ ren l r→l.length=r.length
 | [],[],_=>rfl
 | [],_ :: _,a=>a.elim
 | _ :: _,[],a=>a.elim
 | _ :: _,_ :: _,a=>by simp[J5 a.2]
theorem UC (h:Kb ren V V') {x y:AV} {v:Value} (a:Gv ren x y) (b:Pi V x v):Pi V' y v:=by
 cases x;case ag l =>
  cases y;case ag r =>
   obtain⟨cs,e,h1⟩:=b;exact⟨cs,e,MH h a h1⟩
  all_goals simp only[Gv,DV]at a
  all_goals first|exact a.elim|exact trivial
 all_goals
  simp only[Pi]at b;have a:DV ren _ y:=a;exact Pi.of1 (UB h a b).1
theorem XL (h:Kb ren V V'):∀ {l r:List AV} {b:List Value},Hs ren l r→Ib V l b→Ib V' r b
 | [],[],b,_,c=>c
 | [],_ :: _,b,a,_=>a.elim
 | _ :: _,[],b,a,_=>a.elim
 | x :: l,y :: r,b,a,c=>by
  obtain⟨v,e,rfl,h1,d⟩:=c;exact⟨v,e,rfl,UC h a.1 h1,XL h a.2 d⟩
theorem LS (h:Kb ren V V') {x y:AV} {v:Value} (a:Bn ren x y) (b:Bm V x v):Bm V' y v:=by
 cases x;case tup l =>
  cases y;case tup r =>
   obtain⟨c,e,h1⟩:=b;exact⟨c,e,XL h a h1⟩
  all_goals simp only[Bn,Gv,DV]at a
  all_goals first|exact a.elim|exact trivial
 all_goals
  simp only[Bn]at a;exact nZ (UC h a b)
theorem Cq {objs:List (Nat×Obj)} {m:Nat} {o:Obj}:∀ {l:List (Nat×Obj)},Al objs ren l→lk m l=some o→GH objs ren o (lk m ren)
 | (j,x) :: l,h,a=>by
  simp only[lk]at a;split at a
  ·rename_i e;cases a;subst e;exact h.1
  ·exact Cq h.2 a
theorem Kd {env:List (Nat×AV)} {s:Nat} {y:AV}:∀ {l:List (Nat×AV)},FB env ren l→lk s l=some y→Ja ren (lk s env) y
 | (j,x) :: l,h,a=>by
  simp only[lk]at a;split at a
  ·rename_i e;cases a;subst e;exact h.1
  ·exact Kd h.2 a
theorem Qq:∀ {l:List (Nat×B8)} {m c n:Nat},CG l=true→lk m l=some (.nm n)→lk c l=some (.nm n)→m=c
 | (j,f) :: l,m,c,n,b,h1,a=>by
  simp only[lk]at h1 a;have i:CG l=true:=by
   cases f<;>simp only[CG,An]at b
   ·exact b.2
   ·exact b
  have d:∀q,f=.nm n→lk q l=some (.nm n)→False:=by
   intro q hf h;subst hf;simp only[CG,An,DO]at b;have:=b.1 _ (E9 h);simp at this
  split at h1
  ·rename_i e;cases h1;split at a
   ·rename_i g;rw[e,g]
   ·exact(d _ rfl a).elim
  ·split at a
   ·cases a;exact(d _ rfl h1).elim
   ·exact Qq i h1 a
def A1g (n:Nat):Option B8→Bool
 | some (.nm m)=>m==n
 | _=>false
def A1h (pin:List (Nat×Value)) (ren:List (Nat×B8)):Bool:=pin.all fun p=>A1g p.1 (lk p.1 ren)
theorem Od {V V':Vw} (a:Kb ren V V') {R:List (Nat×Obj)} (ai:∀n x,lk n R=some x→Aw V x (V.ρ n)) {o:Obj} {m:Nat} (hf:GH R ren o (lk m ren)):Aw V' o (V'.ρ m):=by
 cases M:lk m ren with
 | none=>rw[M]at hf;exact hf.elim
 | some f =>
  rw[M]at hf;cases f with
  | nil =>
   rw[a.nil m M];cases o with
   | box et t fs=>exact hf.elim
   | mapo k v l=>exact hf.elim
   | frame y fs=>exact hf.elim
   | loop L=>exact hf.elim
   | itr D G E F C=>exact hf.elim
   | dfr=>exact hf.elim
   | nest et al k e ys J =>
    have hf:ys=([]:List (k.den×List e.den)):=hf;subst hf;exact⟨_,[],[],.inr ⟨rfl,rfl,rfl⟩,by simp[AO],rfl,ABs _ 0 et _,fun i x u h=>by simp at h,fun i j b u v h=>by simp at h,fun i b u h=>by simp at h⟩
   | arr et e ys =>
    have hf:ys=([]:List e.den):=hf;subst hf;exact⟨by simp[AO],[],ABs _ 0 et e.size,Gc _ _ _ _⟩
  | nm n =>
   rw[a.ρ m n M];simp only[GH]at hf;cases hn:lk n R with
   | none=>rw[hn]at hf;simp only[IE]at hf
   | some x =>
    rw[hn]at hf;have q:=ai n x hn;cases x with
    | arr et e xs =>
     cases o with
     | box c t fs=>exact hf.elim
     | mapo k v l=>exact hf.elim
     | frame y fs=>exact hf.elim
     | loop L=>exact hf.elim
     | itr D G E F C=>exact hf.elim
     | dfr=>exact hf.elim
     | nest _ _ _ _ _ _=>exact hf.elim
     | arr c p ys =>
      obtain⟨rfl,g⟩:=hf;obtain⟨rfl,d⟩:=BX g;cases d;obtain⟨ag,cells,ah,ae⟩:=q;refine⟨ag,cells,by rw[a.w];exact ah,fun i z hi=>?_⟩;obtain⟨N,U,W,X⟩:=ae i z hi;exact⟨N,U,W,a.rep X⟩
    | box et t fs =>
     cases o with
     | arr c p ys=>exact hf.elim
     | mapo k v l=>exact hf.elim
     | frame y fs=>exact hf.elim
     | loop L=>exact hf.elim
     | itr D G E F C=>exact hf.elim
     | dfr=>exact hf.elim
     | nest _ _ _ _ _ _=>exact hf.elim
     | box c ay Y =>
      obtain⟨rfl,rfl,I⟩:=hf;obtain⟨h0,b,cs,H,B,ad⟩:=q;exact⟨fun aj=>by rw[←J5 I];exact h0 aj,b,cs,H,by rw[a.w];exact B,MH a I ad⟩
    | nest et al k e xs h =>
     cases o with
     | nest c av S p ys au =>
      obtain⟨⟨rfl,rfl,rfl⟩,g⟩:=hf;have g:=A5 g;injection g with h1 A
      injection h1 with h1
      injection h1 with h1 d
      injection d with d
      subst h1;subst d;cases A;exact kE a.w a.O q
     | mapo k v l=>exact hf.elim
     | box c t fs=>exact hf.elim
     | arr c p ys=>exact hf.elim
     | frame y fs=>exact hf.elim
     | loop L=>exact hf.elim
     | itr D G E F C=>exact hf.elim
     | dfr=>exact hf.elim
    | mapo k v l =>
     cases o with
     | mapo S ap l' =>
      have g:=A5 hf;injection g with h1 A
      injection h1 with h1
      injection h1 with h1 d
      subst h1;subst d;cases A;obtain⟨b,N,cl,H,B,af,ab⟩:=q;exact⟨b,N,cl,H,by rw[a.w];exact B,af.mono (fun b _ P=>a.O b P) (fun b _ _=>by rw[a.w]),ab⟩
     | box c t fs=>exact hf.elim
     | arr c p ys=>exact hf.elim
     | frame y fs=>exact hf.elim
     | loop L=>exact hf.elim
     | itr D G E F C=>exact hf.elim
     | dfr=>exact hf.elim
     | nest _ _ _ _ _ _=>exact hf.elim
    | frame y fs =>
     cases o with
     | frame az Y =>
      obtain⟨rfl,I⟩:=hf;obtain⟨h0,h1⟩:=q;refine⟨h0,fun s v ak=>?_⟩;have K:=Kd I ak;cases Q:lk s fs with
      | none =>
       rw[Q]at K;cases v<;>simp only[Ja]at K;exact trivial
      | some x =>
       rw[Q]at K;exact LS a K (h1 s x Q)
     | mapo k v l=>exact hf.elim
     | box c t fs=>exact hf.elim
     | arr c p ys=>exact hf.elim
     | loop L=>exact hf.elim
     | itr D G E F C=>exact hf.elim
     | dfr=>exact hf.elim
     | nest _ _ _ _ _ _=>exact hf.elim
    | itr k v l aw aq =>
     cases o with
     | itr S ap l' ax ar =>
      obtain⟨hf,rfl,rfl⟩:=hf;have g:=A5 hf;injection g with h1 A
      injection h1 with h1
      injection h1 with h1 d
      subst h1;subst d;cases A;obtain⟨r,H,b,am,cl,ao,an,h1,A,d,Z,aa⟩:=q;exact⟨r,H,b,am,cl,ao,an,by rw[a.w];exact h1,a.O b A,by rw[a.w];exact d,Z.mono (fun b _ P=>a.O b P) (fun b _ _=>by rw[a.w]),aa⟩
     | mapo k v l=>exact hf.elim
     | box c t fs=>exact hf.elim
     | arr c p ys=>exact hf.elim
     | frame y fs=>exact hf.elim
     | loop L=>exact hf.elim
     | dfr=>exact hf.elim
     | nest _ _ _ _ _ _=>exact hf.elim
    | loop L =>
     cases o with
     | loop T =>
      have hf:L=T:=hf;subst hf;obtain⟨b,J,B⟩:=q;exact⟨b,J,by rw[a.w];exact B⟩
     | itr D G E F C=>exact hf.elim
     | mapo k v l=>exact hf.elim
     | box c t fs=>exact hf.elim
     | arr c p ys=>exact hf.elim
     | frame y fs=>exact hf.elim
     | dfr=>exact hf.elim
     | nest _ _ _ _ _ _=>exact hf.elim
    | dfr =>
     cases o with
     | dfr =>
      obtain⟨b,J,B⟩:=q;exact⟨b,J,by rw[a.w];exact B⟩
     | nest _ _ _ _ _ _=>exact hf.elim
     | mapo k v l=>exact hf.elim
     | box c t fs=>exact hf.elim
     | arr c p ys=>exact hf.elim
     | frame y fs=>exact hf.elim
     | loop L=>exact hf.elim
     | itr D G E F C=>exact hf.elim
def Cc (objs:List (Nat×Obj)) (ren:List (Nat×B8)):Bool:=ren.all fun p=>(lk p.1 objs).isSome
theorem AC {c:Cx} {σ σ':St} (ren:List (Nat×B8)) (h1:CG ren=true) (t:Cc σ'.objs ren=true) (A:Al σ.objs ren σ'.objs) (H:FB σ.env ren σ'.env) (hp:A1h c.ds.pin ren=true:=by rfl):t9 c σ σ':=by
 rintro a w ⟨ρ,hs⟩
 let ρ':Nat→Value:=fun m=>match lk m ren with|some (.nm n)=>ρ n|_=>.slice none 0 0
 have q:∀m n,lk m ren=some (.nm n)→ρ' m=ρ n:=fun m n d=>by simp[ρ',d]
 have z:∀m,lk m ren=some .nil→ρ' m=.slice none 0 0:=fun m d=>by simp[ρ',d]
 have u:∀m f,lk m ren=some f→Fl σ' m:=fun m f d=>by
  simp only[Cc,DO]at t;have:=t _ (E9 d);exact AB2.1 this
 have k:∀m b,Fl σ' m→bk (ρ' m) b→∃n,lk m ren=some (.nm n)∧Fl σ n∧bk (ρ n) b:=by
  rintro m b ⟨o,d⟩ e;have hf:=Cq A d;cases j:lk m ren with
  | none=>rw[j]at hf;exact hf.elim
  | some f =>
   cases f with
   | nil=>rw[z m j]at e;simp[bk,blk]at e
   | nm n =>
    rw[j]at hf;rw[q m n j]at e;refine⟨n,rfl,?_,e⟩;cases hn:lk n σ.objs with
    | none=>simp only[GH,hn,IE]at hf
    | some x=>exact⟨x,hn⟩
 have y:Kb ren (vw w c.O0 σ ρ) (vw w c.O0 σ' ρ'):=by
  refine⟨rfl,fun b e l=>?_,q,z,u⟩;rcases l with h0|⟨m,h,d⟩
  ·exact e (.inl h0)
  ·obtain⟨n,_,hn,g⟩:=k m b h d;exact e (.inr ⟨n,hn,g⟩)
 refine⟨ρ',hs.frm,hs.nt,hs.defers,fun p B=>?_,fun m o d=>?_,fun m b h e=>?_,fun m L b h I e l=>?_,fun s v K=>?_⟩
 ·obtain⟨N,C,D⟩:=hs.pin p B;simp only[A1h,DO]at hp;have i:=hp p B;unfold A1g at i;split at i
  ·rename_i n hn;have:n=p.1:=by simpa using i
   subst this;exact⟨u _ _ hn,(q _ _ hn).trans C,D⟩
  ·cases i
 ·exact Od y hs.objs (Cq A d)
 ·obtain⟨n,_,hn,g⟩:=k m b h e;exact hs.free n b hn g
 ·obtain⟨n,E,hn,g⟩:=k m b h e;obtain⟨M,F,J,G⟩:=k L b I l;have:=hs.dist n M b hn J g G;subst this;exact Qq h1 E F
 ·have d:=Kd H K;cases r:lk s σ.env with
  | none =>
   rw[r]at d;cases v<;>simp only[Ja]at d;exact trivial
  | some x =>
   rw[r]at d;exact LS y d (hs.env s x r)
end
end
section
open Go
theorem F1 (b:Bool):OV true (some (.p .bool b))=some b:=by cases b<;>rfl
theorem FC (b:Bool):OV false (some (.p .bool b))=some (!b):=by cases b<;>rfl
theorem LT:IntKind.i64.min=-9223372036854775808:=by decide
theorem LU:IntKind.i64.max=9223372036854775807:=by decide
theorem LV:IntKind.u64.min=0:=by decide
theorem LW:IntKind.u64.max=18446744073709551615:=by decide
theorem Oe:IntKind.u8.min=0:=by decide
theorem Og:IntKind.u8.max=255:=by decide
theorem Jb (n:Int):Jz .i64 n↔-9223372036854775808≤n∧n≤9223372036854775807:=by unfold Jz;rw[LT,LU]
theorem Ht (n:Int):Jz .u64 n↔0≤n∧n≤18446744073709551615:=by unfold Jz;rw[LV,LW]
theorem Rd (n:Int):Jz .u8 n↔0≤n∧n≤255:=by unfold Jz;rw[Oe,Og]
theorem M9 {α:Type} (x:α):sub [x] 0 1=[x]:=rfl
theorem Gw {α:Type} (xs:List α) (n:Nat):sub xs 0 n=xs.take n:=by simp[sub]
theorem o0 (n:Nat):((n:Int)).toNat=n:=AA4 n
theorem FD (n:Nat):(0≤(n:Int))=True:=eq_true (oF n)
end
section
open Go Go.RowKit
section
variable {tb:Tb} {σ σ':St}
def ZE (σ σ':St):Prop:=∀n o,lk n σ.objs=some o→lk n σ'.objs=some o
theorem o4 (h:ZE σ σ') {e:Ty} {lo hi n:Nat} {d:List e.den} (hs:OO e lo hi (lk n σ.objs)=some d):OO e lo hi (lk n σ'.objs)=some d:=by
 cases hn:lk n σ.objs with
 | none=>rw[hn]at hs;simp[OO]at hs
 | some o=>rw[h n o hn,←hn];exact hs
theorem kR (h:ZE σ σ') {e:Ty} {i n:Nat} {d:List e.den} (hs:OP e i (lk n σ.objs)=some d):OP e i (lk n σ'.objs)=some d:=by
 cases hn:lk n σ.objs with
 | none=>rw[hn]at hs;simp[OP]at hs
 | some o=>rw[h n o hn,←hn];exact hs
theorem Gd (h:ZE σ σ') {l:Bool} {t:Ty} {x:AV} {d:t.den} (hs:Dy l σ t x=some d):Dy l σ' t x=some d:=by
 unfold Dy at hs ⊢;split at hs
 ·exact hs
 ·split at hs
  ·rename_i a;rw[BY a];exact o4 h hs
  ·cases hs
 ·split at hs
  ·rename_i a;rw[BY a];exact kR h hs
  ·cases hs
 ·exact hs
 ·cases hs
theorem UD (h:ZE σ σ') {l:Bool}:∀ {fs:List AV} {t:Ty} {d:t.den},JH l σ fs t=some d→JH l σ' fs t=some d
 | [],t,d,hs=>by simp[JH]at hs
 | [x],t,d,hs=>by
  simp only[JH]at hs ⊢;exact Gd h hs
 | x :: y :: r,t,d,hs=>by
  cases t<;>simp only[JH]at hs ⊢<;>try(cases hs;done)
  rename_i a b;cases h1:Dy l σ a x with
  | none=>rw[h1]at hs;simp[KN]at hs
  | some e =>
   cases c:JH l σ (y :: r) b with
   | none=>rw[h1,c]at hs;simp[KN]at hs
   | some f =>
    rw[Gd h h1,UD h c];rw[h1,c]at hs;exact hs
theorem FE (h:ZE σ σ') {l:Bool} {t:Ty} {x:AV} {d:t.den} (hs:J0 l σ t x=some d):J0 l σ' t x=some d:=by
 unfold J0 at hs ⊢;split at hs
 ·exact UD h hs
 ·exact Gd h hs
def Ops (σ σ':St) (xs:List Operand):Prop:=∀x∈xs,∀v,AZ σ x=some v→AZ σ' x=some v
theorem Ke (h:ZE σ σ') {e:Ty} {x:AV} {d:List e.den} (hs:Mj σ e x=some d):Mj σ' e x=some d:=by
 unfold Mj at hs ⊢;split at hs
 ·rename_i n a lo hi;cases hn:lk n σ.objs with
  | none =>
   rw[hn]at hs;have hs:Dy true σ (.slice e) (.sr n a lo hi)=some d:=by simpa[CR,J0] using hs
   simp only[Dy,hn]at hs;split at hs<;>simp[OO]at hs
  | some o =>
   rw[h n o hn];rw[hn]at hs;split at hs
   ·cases hs
   ·rename_i b;rw[At b];exact FE h hs
 ·exact FE h hs
theorem Re (h:ZE σ σ') {l:Bool}:∀ {ts:List Ty} {xs:List Operand} {ds:JG ts},Ops σ σ' xs→FL l σ ts xs=some ds→FL l σ' ts xs=some ds
 | [],[],ds,_,hs=>hs
 | [],_ :: _,ds,_,hs=>by simp[FL]at hs
 | _ :: _,[],ds,_,hs=>by simp[FL]at hs
 | t :: ts,x :: xs,ds,b,hs=>by
  simp only[FL]at hs ⊢;cases a:AZ σ x with
  | none=>rw[a]at hs;cases hs
  | some v =>
   rw[b x (by simp) v a];rw[a]at hs;simp only at hs ⊢;split at hs
   ·rename_i y ys c d;rw[FE h c,Re h (fun z e=>b z (by simp[e])) d];exact hs
   ·cases hs
theorem Py (h:ZE σ σ') {e:Ty}:∀ {parts:List (Nat×Operand)} {k:Nat} {xs:List e.den},Ops σ σ' (parts.map (·.2))→EP σ e k parts=some xs→EP σ' e k parts=some xs
 | [],k,xs,_,hs=>hs
 | (i,x) :: r,k,xs,b,hs=>by
  simp only[EP]at hs ⊢;split at hs
  ·rename_i d;rw[BY d];cases a:AZ σ x with
   | none=>rw[a]at hs;cases hs
   | some v =>
    rw[b x (by simp) v a];rw[a]at hs;simp only at hs ⊢;split at hs
    ·rename_i y ys f g;rw[FE h f,Py h (fun z c=>b z (by simp at c ⊢;exact .inr c)) g];exact hs
    ·cases hs
  ·cases hs
theorem XM (h:ZE σ σ') {z:Option AV} {x:Operand} {v:AV} (f:∀v,AZ σ x=some v→AZ σ' x=some v) (hs:E4 σ z (AZ σ x)=some v):E4 σ' z (AZ σ' x)=some v:=by
 cases b:AZ σ x with
 | none=>rw[b]at hs;unfold E4 at hs;split at hs<;>simp at *
 | some a =>
  rw[f a b];rw[b]at hs;unfold E4 at hs ⊢;split at hs
  ·rename_i t _ l e;cases e;simp only[IN]at hs ⊢;obtain⟨d,c,rfl⟩:=hs;exact⟨d,FE h c,rfl⟩
  ·exact hs
theorem NA (h:ZE σ σ') {offs:List (Nat×Nat)}:∀ {parts:List (Nat×Operand)} {fs a:List AV},Ops σ σ' (parts.map (·.2))→DQ σ offs fs parts=some a→DQ σ' offs fs parts=some a
 | [],fs,a,_,hs=>hs
 | (i,x) :: r,fs,a,c,hs=>by
  simp only[DQ]at hs ⊢;cases b:E4 σ fs[i]? (AZ σ x) with
  | none=>rw[b]at hs;cases hs
  | some v =>
   rw[XM h (c x (by simp)) b];rw[b]at hs;simp only at hs ⊢;split at hs
   ·rename_i e;rw[BY e];exact NA h (fun z d=>c z (by simp at d ⊢;exact .inr d)) hs
   ·cases hs
theorem Rf:∀ {xs:List Operand} {ns:List Nat},Ops σ σ' xs→Gk σ xs=some ns→Gk σ' xs=some ns
 | [],ns,_,hs=>hs
 | x :: r,ns,a,hs=>by
  simp only[Gk]at hs ⊢;split at hs
  ·rename_i n d h1 b;rw[a x (by simp) _ h1,Rf (fun z c=>a z (by simp[c])) b];exact hs
  ·cases hs
theorem Qr (h:ZE σ σ') {d:Nat} {op:Op} {r:Prop×AV×List (Nat×Obj)} (p:Ops σ σ' op.operands.toList) (hs:aq tb σ d op=some r):aq tb σ' d op=some r:=by
 have one:∀ {x:Operand} {f:Option AV→BN},x∈op.operands.toList→f none=none→f (AZ σ x)=some r→f (AZ σ' x)=some r:=by
  intro x f j hn hf;cases q:AZ σ x with
  | none=>rw[q,hn]at hf;cases hf
  | some v=>rw[p x j v q,←q];exact hf
 have J:∀ {x y:Operand} {f:Option AV→Option AV→BN},x∈op.operands.toList→y∈op.operands.toList→(∀b,f none b=none)→(∀a,f a none=none)→f (AZ σ x) (AZ σ y)=some r→f (AZ σ' x) (AZ σ' y)=some r:=by
  intro x y f j C h1 F hf;cases q:AZ σ x with
  | none=>rw[q,h1]at hf;cases hf
  | some v =>
   cases H:AZ σ y with
   | none=>rw[H,F]at hf;cases hf
   | some w=>rw[p x j v q,p y C w H,←q,←H];exact hf
 cases op<;>simp only[aq]at hs ⊢<;>try(cases hs;done)
 case move x=>exact one (f:=Fy) (by simp[Op.operands]) rfl hs
 case assign x=>exact one (f:=Fy) (by simp[Op.operands]) rfl hs
 case pick c x y =>
  cases D:AZ σ c with
  | none=>rw[D]at hs;simp[J1]at hs
  | some aa =>
   have ab:=p c (by simp[Op.operands]) aa D;rw[D]at hs;rw[ab];unfold J1 at hs ⊢;split at hs
   ·rename_i E;cases E;exact one (f:=Fy) (by simp[Op.operands]) rfl hs
   ·rename_i E;cases E;exact one (f:=Fy) (by simp[Op.operands]) rfl hs
   ·cases hs
 case alloc t=>exact hs
 case box t x=>exact one (f:=QW d t (lk t tb.ty)) (by simp[Op.operands]) (by cases lk t tb.ty<;>simp[QW]) hs
 case build t parts =>
  unfold H6 at hs ⊢;split at hs
  ·rename_i u offs el b E;cases hp:DQ σ offs (kD u) parts.toList with
   | none=>rw[hp]at hs;simp[Fy]at hs
   | some fs =>
    rw[NA h (by simpa[Op.operands] using p) hp];rw[hp]at hs;exact hs
  ·cases hs
 case buildSlice t n parts =>
  cases U:lk d tb.nests with
  | some am =>
   rw[U]at hs;simp only[Fj]at hs ⊢;unfold H8 at hs ⊢;split at hs
   ·rename_i x ao offs el b hp E;cases j:AZ σ x with
    | none=>rw[j]at hs;unfold H7 at hs;split at hs<;>first|(cases hs;done)|(rename_i F;cases F)
    | some av =>
     rw[p x (by simp[Op.operands,hp]) av j];rw[j]at hs;unfold H7 at hs ⊢;split at hs
     ·rename_i k e au aw al;unfold JJ at hs;split at hs
      ·rename_i a0 O;rw[Gd h O];exact hs
      ·rename_i a0 ak l O;split at hs
       ·rename_i Q;rw[Gd h O];simp only[JJ,Q,AAv];exact hs
       ·cases hs
      ·cases hs
     ·cases hs
   ·cases hs
  | none =>
  rw[U]at hs;simp only[Fj]at hs ⊢;unfold BP at hs ⊢;split at hs
  ·rename_i e offs el b E;cases hp:EP σ e 0 parts.toList with
   | none=>rw[hp]at hs;simp[BW]at hs
   | some xs =>
    rw[Py h (by simpa[Op.operands] using p) hp];rw[hp]at hs;exact hs
  ·cases hs
 case load t x =>
  cases j:AZ σ x with
  | none=>rw[j]at hs;simp[IY]at hs
  | some v =>
   rw[p x (by simp[Op.operands]) v j];rw[j]at hs;unfold IY at hs ⊢;split at hs
   ·rename_i ti n ai off M G;cases hn:lk n σ.objs with
    | none=>rw[hn]at hs;simp[Dz]at hs
    | some o=>rw[h n o hn,←hn];exact hs
   ·rename_i ti n e i ai off M G;cases hn:lk n σ.objs with
    | none=>rw[hn]at hs;simp[D0]at hs
    | some o=>rw[h n o hn,←hn];exact hs
   ·exact hs
   ·cases hs
 case nilCheck x=>exact one (f:=RL) (by simp[Op.operands]) (by simp[RL]) hs
 case binOp op t x y an=>exact J (f:=OQ op (lk t tb.ty)) (by simp[Op.operands]) (by simp[Op.operands]) (fun b=>by simp[OQ]) (fun a=>by cases a<;>simp[OQ]) hs
 case unOp op t x=>exact one (f:=nY op) (by simp[Op.operands]) (by cases op<;>simp[nY]) hs
 case convert s t x=>exact one (f:=IZ (lk s tb.ty) (lk t tb.ty)) (by simp[Op.operands]) (by cases lk s tb.ty<;>cases lk t tb.ty<;>simp[IZ]) hs
 case makeSlice t l c=>exact J (f:=Hi tb d (lk t tb.ty)) (by simp[Op.operands]) (by simp[Op.operands]) (fun b=>by cases lk t tb.ty<;>simp[Hi]) (fun a=>by cases lk t tb.ty<;>simp[Hi]) hs
 case slice t x lo hi ah =>
  cases ah with
  | some m =>
   cases lo with
   | some _=>cases hi<;>simp[aq]at hs
   | none =>
    cases hi with
    | none=>simp[aq]at hs
    | some h1 =>
     simp only[aq]at hs ⊢;cases j:AZ σ x with
     | none=>rw[j]at hs;cases A:lk t tb.ty<;>rw[A]at hs<;>simp[DR]at hs
     | some v =>
      cases N:AZ σ h1 with
      | none=>rw[j,N]at hs;cases A:lk t tb.ty<;>rw[A]at hs<;>simp[DR]at hs
      | some q =>
       cases T:AZ σ m with
       | none=>rw[j,N,T]at hs;cases A:lk t tb.ty<;>rw[A]at hs<;>simp[DR]at hs
       | some ag =>
        rw[p x (by simp[Op.operands]) v j,p h1 (by simp[Op.operands]) q N,p m (by simp[Op.operands]) ag T];rw[j,N,T]at hs;exact hs
  | none =>
   simp only[aq]at hs ⊢;have X:∀ {y:Option Operand},(∀z,y=some z→z∈(Op.slice t x lo hi none).operands.toList)→∀w,Fx σ y=some w→Fx σ' y=some w:=by
    intro y C w H;cases y with
    | none=>exact H
    | some z =>
     simp only[Fx,IN]at H ⊢;obtain⟨v,q,rfl⟩:=H;exact⟨v,p z (C z rfl) v q,rfl⟩
   cases j:AZ σ x with
   | none=>rw[j]at hs;cases A:lk t tb.ty<;>rw[A]at hs<;>simp[Eh]at hs
   | some v =>
    cases h1:Fx σ lo with
    | none=>rw[h1]at hs;cases A:lk t tb.ty<;>rw[A]at hs<;>simp[Eh]at hs
    | some a =>
     cases F:Fx σ hi with
     | none=>rw[F]at hs;cases A:lk t tb.ty<;>rw[A]at hs<;>simp[Eh]at hs
     | some b =>
      rw[p x (by simp[Op.operands]) v j,X (by rintro z rfl;simp[Op.operands]) a h1,X (by rintro z rfl;simp[Op.operands]) b F];rw[j,h1,F]at hs;exact hs
 case fieldAddr s x f=>exact one (f:=GG f (lk s tb.ty)) (by simp[Op.operands]) (by cases lk s tb.ty<;>simp[GG]) hs
 case indexAddr t x i=>exact J (f:=E5 (lk t tb.ty)) (by simp[Op.operands]) (by simp[Op.operands]) (fun b=>by cases lk t tb.ty<;>simp[E5]) (fun a=>by cases lk t tb.ty<;>simp[E5]) hs
 case index t x i=>exact J (f:=Du (lk t tb.ty)) (by simp[Op.operands]) (by simp[Op.operands]) (fun b=>by cases lk t tb.ty<;>simp[Du]) (fun a=>by cases lk t tb.ty<;>simp[Du]) hs
 case extract x i=>exact one (f:=D5 i) (by simp[Op.operands]) (by simp[D5]) hs
 case makeFunc fn first Z =>
  unfold VY at hs ⊢;split at hs
  ·rename_i f hf;cases D:Gk σ Z.toList with
   | none=>rw[D]at hs;simp[Mm]at hs
   | some ns =>
    rw[Rf (fun z I=>p z (by simp[Op.operands]at I ⊢;exact .inr I)) D];rw[D]at hs;exact hs
  ·cases hs
 case makeMap t res =>
  cases res with
  | some z=>simp[aq]at hs
  | none=>simp only[aq]at hs ⊢;exact hs
 case lookup t x i ok =>
  cases j:AZ σ x with
  | none=>rw[j]at hs;simp[Hk]at hs
  | some xv =>
   cases hi:AZ σ i with
   | none=>rw[j,hi]at hs;simp[Hk]at hs
   | some W =>
    rw[p x (by simp[Op.operands]) xv j,p i (by simp[Op.operands]) W hi];rw[j,hi]at hs;unfold Hk at hs ⊢;split at hs
    ·rename_i k e _ _ n z M G ae;cases G;cases ae;cases hn:lk n σ.objs with
     | none=>rw[hn]at hs;simp[Gl]at hs
     | some o =>
      rw[hn]at hs;rw[h n o hn];unfold Gl at hs ⊢;split at hs
      ·rename_i af ar l p;cases p;split at hs
       ·rename_i D;rw[BY D];cases hk:J0 false σ af W with
        | none=>rw[hk]at hs;simp[JN]at hs
        | some kd=>rw[FE h hk];rw[hk]at hs;exact hs
       ·cases hs
      ·cases hs
    ·cases hs
 case call c =>
  obtain⟨callee,args,argTypes⟩:=c;have B:∀x∈args.toList,x∈(Op.call ⟨callee,args,argTypes⟩).operands.toList:=fun x j=>by
   have:x∈args:=by simpa using j
   cases callee<;>simp[Op.operands,Call.operands,this]
  cases callee with
  | invoke r m=>simp[CY]at hs
  | value g =>
   simp only[CY]at hs ⊢;cases R:AZ σ g with
   | none=>rw[R]at hs;simp[KP]at hs
   | some ad =>
    rw[p g (by simp[Op.operands,Call.operands]) ad R];rw[R]at hs;unfold KP at hs ⊢;split at hs
    ·rename_i f E;cases V:lk f tb.fns with
     | none=>rw[V]at hs;simp[IA]at hs
     | some Y =>
      rw[V]at hs;simp only[IA]at hs ⊢;cases P:FL Y.lend σ Y.ins args.toList with
      | none=>rw[P]at hs;simp[JM]at hs
      | some ds =>
       rw[Re h (fun x j=>p x (B x j)) P];rw[P]at hs;exact hs
    ·cases hs
  | builtin b =>
   simp only[CY]at hs ⊢;obtain⟨args⟩:=args;obtain⟨argTypes⟩:=argTypes;simp only at hs B ⊢;unfold Cn at hs ⊢;split at hs
   ·exact one (f:=QX (lk _ tb.ty)) (B _ (by simp)) (by cases lk _ tb.ty<;>simp[QX]) hs
   ·rename_i x y t u;cases j:AZ σ x with
    | none=>rw[j]at hs;simp[CK]at hs
    | some xv =>
     cases C:AZ σ y with
     | none=>rw[j,C]at hs;simp[CK]at hs
     | some L =>
      rw[p x (B _ (by simp)) xv j,p y (B _ (by simp)) L C];rw[j,C]at hs;unfold CK at hs ⊢;split at hs
      ·split at hs
       ·rename_i K;simp only[K,AAv];rename_i M G;cases G;rw[K]at hs;cases A:lk u tb.ty with
        | none=>rw[A]at hs;simp[D6]at hs
        | some ti =>
         rw[A]at hs;unfold D6 at hs ⊢;split at hs
         ·rename_i e offs el b E;cases q:Mj σ e L with
          | none=>rw[q]at hs;cases S:lk el tb.ty<;>rw[S]at hs<;>simp[EU]at hs
          | some ys =>
           rw[q]at hs;rw[Ke h q];exact hs
         ·cases hs
       ·cases hs
      ·split at hs
       ·rename_i K;simp only[K,AAv];rename_i M G;cases G;rw[K]at hs;cases A:lk u tb.ty with
        | none=>rw[A]at hs;simp[H9]at hs
        | some ti =>
         rw[A]at hs;unfold H9 at hs ⊢;split at hs
         ·rename_i e offs el b E;split at hs
          ·rename_i Q;simp only[Q,AAv];cases q:Mj σ _ L with
           | none=>rw[q]at hs;cases S:lk el tb.ty<;>rw[S]at hs<;>simp[JL]at hs
           | some ys =>
            rw[q]at hs;rw[Ke h q];exact hs
          ·cases hs
         ·cases hs
       ·cases hs
      ·cases hs
   ·exact J (f:=OT) (B _ (by simp)) (B _ (by simp)) (fun b=>by simp[OT]) (fun a=>by cases a<;>simp[OT]) hs
   ·exact J (f:=OU) (B _ (by simp)) (B _ (by simp)) (fun b=>by simp[OU]) (fun a=>by cases a<;>simp[OU]) hs
   ·rename_i x y z t u ap;cases j:AZ σ x with
    | none=>rw[j]at hs;simp[Hj]at hs
    | some xv =>
     cases C:AZ σ y with
     | none=>rw[j,C]at hs;simp[Hj]at hs
     | some L =>
      cases I:AZ σ z with
      | none=>rw[j,C,I]at hs;simp[Hj]at hs
      | some aj =>
       rw[p x (B _ (by simp)) xv j,p y (B _ (by simp)) L C,p z (B _ (by simp)) aj I,←j,←C,←I];exact hs
   ·cases hs
end
end
end Go.Proofs.YtdapahgnpbehbaaGreat.Fw
