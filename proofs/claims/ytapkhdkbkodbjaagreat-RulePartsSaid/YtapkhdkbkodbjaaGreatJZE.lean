/- One operation, a sequence, loops, the entry and the end of a function: the rules. -/
import Derived.Test.YtapkhdkbkodbjaaGreatJZD
import Derived.Deep.LoopGhost
import Derived.ControlIn
set_option linter.unusedVariables false
set_option linter.unusedSimpArgs false
namespace Go.Proofs.YtapkhdkbkodbjaaGreat.Fw
section
open Go Go.RowKit
abbrev AEJ:=@Go.wpIn_region_list
abbrev AFz:=@Go.wpIn_mono
structure Cx where
 P:Program
 tb:Tb
 w0:World
 K:Nat->Prop
 O0:Nat->Prop
 nt:Nat
 
 ds:Fp:={}
 
 r:Option Nat:=none
structure Cx.Ok (c:Cx):Prop where
 K:∀b,c.K b->b<c.w0.heap.size
 O:∀b,c.O0 b->b<c.w0.heap.size
 T:DH c.P c.tb
 F:Iv c.P c.tb
def Cx.sat (c:Cx) (σ:St) (a:Act) (w:World):Prop:=∃ρ,Bv c.w0 c.K c.O0 c.nt c.ds σ ρ a w
section
variable {c:Cx}
theorem A5j (hc:c.Ok) {σ:St} {ρ:Nat->Value} {a:Act} {w:World} (h:Bv c.w0 c.K c.O0 c.nt c.ds σ ρ a w):AAo c.P c.tb w c.O0 σ ρ a where
 hT:=hc.T
 hF:=hc.F
 obj:=h.objs
 own:=by
  intro b hb;rcases hb with h0|⟨n,⟨o,ho⟩,hb⟩
  ·exact AA8 (hc.O b h0) h.frm.size
  ·exact(h.objs n o ho).block_lt hb
 ev:=Et h.env
theorem A1L (e:c.Ok) {σ σ':St} {ρ:Nat->Value} {a:Act} {w:World} (hs:Bv c.w0 c.K c.O0 c.nt c.ds σ ρ a w) {o:Oper} {vc:Prop} (h:Fh c.tb σ o.dst o.op=some (vc,σ')) (k:vc) (j:∀d,o.dst=some d->d<c.nt)
  {next:Act->World->Prop} {Q:Exit->Act->World->Prop} (hn:∀i w',c.sat σ' i w'->next i w'):o.wpIn (FR c.r) 0 c.P a w next Q:=by
 obtain⟨dst,op,type,pos,after,guard⟩:=o;simp only at h j;cases op<;>simp only[Fh]at h<;>try(cases h;done)
 case store t x y =>
  cases dst with
  | some d=>simp[D0]at h
  | none =>
   simp only[D0]at h;obtain⟨w',ρ',h1,f⟩:=lM (P:=c.P) hs e.K e.O e.T h k;exact pT (w':=w') (by simp[execOp,h1]) (hn _ _ ⟨ρ',f⟩)
 case mapUpdate t m x y =>
  cases dst with
  | some d=>simp[D0]at h
  | none =>
   simp only[D0]at h;obtain⟨w',h1,f⟩:=y4 (P:=c.P) hs e.K e.T h;exact pT (w':=w') (by simp[execOp,h1]) (hn _ _ ⟨ρ,f⟩)
 case call cl =>
  obtain⟨callee,args,argTypes⟩:=cl;cases callee with
  | value g=>simp[DP]at h
  | invoke r m=>simp[DP]at h
  | builtin b =>
   simp only[DP]at h;obtain⟨args⟩:=args;obtain⟨argTypes⟩:=argTypes;simp only at h;unfold Dm at h;split at h
   ·rename_i x y t u;obtain⟨z,w',ρ',h1,f⟩:=lL (P:=c.P) (ty:=type) hs e.K e.O e.T j h k;exact Av (u:=z) (w':=w') (by simp[execOp,resolve,invoke,builtin,h1]) (hn _ _ ⟨ρ',f⟩)
   ·cases h
theorem Px (b:c.Ok) {σ σ':St} {a:Act} {w:World} (hs:c.sat σ a w) {o:Oper} {vc:Prop} (h:GQ c.tb o σ=some (vc,σ')) (i:vc) (g:∀d,o.dst=some d->d<c.nt)
  {next:Act->World->Prop} {Q:Exit->Act->World->Prop} (hn:∀f w',c.sat σ' f w'->next f w'):o.wpIn (FR c.r) 0 c.P a w next Q:=by
 obtain⟨ρ,hs⟩:=hs;have hs:=Kk (l:=CP σ o.op) hs;unfold GQ Pi at h;generalize Ct (CP σ o.op) σ=k at h hs;cases e:aq c.tb k (o.dst.getD 0) o.op with
 | some r =>
  obtain⟨m,v,obs⟩:=r;rw[e]at h;simp only[LS]at h;split at h
  ·rename_i hf;cases h;exact pQ (A5j b hs) e i hf λu ρ' w' j=>hn _ _ ⟨ρ',hs.add b.K b.O g hf j⟩
  ·cases h
 | none =>
  rw[e]at h;exact A1L b hs h i g hn
theorem HY {ops:Array Oper} {σ:St} {a:Act} {w:World} (hs:c.sat σ a w) {o:Oper} {b:Bool} (h:E2 ops.toList σ o.guard=some b):Region.wanted o (yielded ops a.tmps)=b:=by
 obtain⟨ρ,hs⟩:=hs;unfold E2 at h;split at h
 ·rename_i e;cases h;simp[Region.wanted,e]
 ·rename_i j q e;cases f:(ops.toList[j]?).bind (·.dst) with
  | none=>rw[f]at h;simp[Ke]at h
  | some g =>
   rw[f]at h;simp only[Ke]at h;cases i:lk g σ.env with
   | none=>rw[i]at h;simp[Rd]at h
   | some v =>
    rw[i]at h;unfold Rd at h;split at h
    ·rename_i l m;cases m;cases h;have d:=hs.env g _ i;have d:=EM d;have p:(ops[j]?).bind (·.dst)=some g:=by simpa using f
     have n:a.tmps[g]?=some (.bool l):=by
      by_cases k:g<a.tmps.size
      ·have:a.tmps.getD g undef=a.tmps[g]:=by simp[Array.getD,k]
       rw[this]at d;rw[iN k,d]
      ·have:a.tmps.getD g undef=undef:=by simp[Array.getD,k]
       rw[this]at d;cases d
     simp only[Region.wanted,e,yielded,p,Option.bind_some,n];cases l<;>cases q<;>rfl
    ·cases h
theorem NC {σ:St} {a:Act} {w:World} (b:c.Ok) (hs:c.sat σ a w) {dst:Option Nat} (e:∀d,dst=some d->d<c.nt):c.sat (σ.add (.raw undef) [] dst) (a.put dst undef) w:=by
 obtain⟨ρ,hs⟩:=hs;exact⟨ρ,hs.add b.K b.O e (by simp[Bi]) (QS.still rfl)⟩
def Hs (nt:Nat) (o:Oper):Bool :=
 match o.dst with
 | some d=>decide (d<nt)
 | none=>true
theorem Bx {nt:Nat} {o:Oper} (h:Hs nt o=true):∀d,o.dst=some d->d<nt:=by grind [Hs]
theorem Rj (d:c.Ok) {ops:Array Oper} {Q:Exit->Act->World->Prop} {r:List Oper}:∀(l:List Oper) {σ σ':St} {vc:Prop} {a:Act} {w:World},c.sat σ a w->(∀o∈l,Hs c.nt o=true)->B1 c.tb ops.toList l σ=some (vc,σ')->vc ->
  (∀g w',c.sat σ' g w'->wpListIn (FR c.r) 0 c.P ops Q r g w')->wpListIn (FR c.r) 0 c.P ops Q (l++r) a w
 | [],σ,σ',vc,a,w,hs,e,h,f,i=>by grind [B1]
 | o :: l,σ,σ',vc,a,w,hs,e,h,f,i=>by
  simp only[B1]at h;cases j:E2 ops.toList σ o.guard with
  | none=>rw[j]at h;simp[evG]at h
  | some b =>
   rw[j]at h;have s:=HY hs j;have q:=Bx (e o (by simp));rw[ADF];unfold wpListIn;cases b with
   | true =>
    simp only[evG]at h;rw[BY s];cases n:GQ c.tb o σ with
    | none=>rw[n]at h;simp[evK]at h
    | some r =>
     obtain⟨x,v⟩:=r;rw[n]at h;simp only[evK]at h;cases m:B1 c.tb ops.toList l v with
     | none=>rw[m]at h;simp[YL]at h
     | some u =>
      obtain⟨y,σ2⟩:=u;rw[m]at h;simp only[YL]at h;cases h;exact Px d hs n f.1 q λg w' t=>Rj d l t (λp k=>e p (by simp[k])) m f.2 i
   | false =>
    simp only[evG]at h;rw[An (by simp[s])];refine⟨λ_ _=>trivial,?_⟩;exact Rj d l (NC d hs q) (λp k=>e p (by simp[k])) h f i
theorem Py (e:c.Ok) {ops:Array Oper} {Q:Exit->Act->World->Prop}:∀(l:List Oper) {σ σ':St} {vc:Prop} {a:Act} {w:World},c.sat σ a w->(∀o∈l,Hs c.nt o=true)->B1 c.tb ops.toList l σ=some (vc,σ')->vc ->
  (∀i w',c.sat σ' i w'->Q .normal i w')->wpListIn (FR c.r) 0 c.P ops Q l a w
 | [],σ,σ',vc,a,w,hs,f,h,g,d=>by
  simp only[B1]at h;cases h;exact d _ _ hs
 | o :: l,σ,σ',vc,a,w,hs,f,h,g,d=>by
  simp only[B1]at h;cases j:E2 ops.toList σ o.guard with
  | none=>rw[j]at h;simp[evG]at h
  | some b =>
   rw[j]at h;have s:=HY hs j;have q:=Bx (f o (by simp));unfold wpListIn;cases b with
   | true =>
    simp only[evG]at h;rw[BY s];cases n:GQ c.tb o σ with
    | none=>rw[n]at h;simp[evK]at h
    | some r =>
     obtain⟨x,v⟩:=r;rw[n]at h;simp only[evK]at h;cases m:B1 c.tb ops.toList l v with
     | none=>rw[m]at h;simp[YL]at h
     | some u =>
      obtain⟨y,σ2⟩:=u;rw[m]at h;simp only[YL]at h;cases h;exact Px e hs n g.1 q λi w' t=>Py e l t (λp k=>f p (by simp[k])) m g.2 d
   | false =>
    simp only[evG]at h;rw[An (by simp[s])];refine⟨λ_ _=>trivial,?_⟩;exact Py e l (NC e hs q) (λp k=>f p (by simp[k])) h g d
end
end
section
open Go Go.RowKit
inductive DZ where
 | seq (c:Code)
 | blk (id:Nat)
 
 | inv (post:St->Prop)
def Bz (nt:Nat):Code->Bool
 | .region _ ops _=>ops.toList.all (Hs nt)
 | .seq a b=>Bz nt a&&Bz nt b
 | .cond _ a b=>Bz nt a&&Bz nt b
 | .block _ b=>Bz nt b
 | .loop b=>Bz nt b
 | .scope b=>Bz nt b
 | _=>true
def DC (nt:Nat):List DZ->Bool
 | []=>true
 | .seq c :: k=>Bz nt c&&DC nt k
 | _ :: k=>DC nt k
def VY (c:Cx) (R:Exit->Act->World->Prop):List DZ->Exit->Act->World->Prop
 | [],e,a,w=>R e a w
 | .seq y :: k,.normal,a,w=>y.wpIn (FR c.r) 0 c.P (VY c R k) a w
 | .seq _ :: k,e,a,w=>VY c R k e a w
 | .blk id :: k,.exit b,a,w=>if b=id then VY c R k .normal a w else VY c R k (.exit b) a w
 | .blk _ :: k,e,a,w=>VY c R k e a w
 | .inv post :: _,.normal,a,w=>∃σ,c.sat σ a w/\post σ
 | .inv _ :: k,e,a,w=>VY c R k e a w
inductive pW where
 | run (cd:Code)
 | out (e:Exit)
def nwp (c:Cx) (R:Exit->Act->World->Prop) (k:List DZ):pW->Act->World->Prop
 | .run cd,a,w=>cd.wpIn (FR c.r) 0 c.P (VY c R k) a w
 | .out e,a,w=>VY c R k e a w
def Ht (nt:Nat):pW->Bool
 | .run cd=>Bz nt cd
 | .out _=>true
def Ev (c:Cx) (R:Exit->Act->World->Prop) (n:pW) (k:List DZ) (σ:St):Prop :=
 Ht c.nt n=true->DC c.nt k=true->∀a w,c.sat σ a w->nwp c R k n a w
theorem Tm {F:Fence} {j:Nat} {P:Program} {Q:Exit->Act->World->Prop} {a:Act} {w:World} {c:Code} (b:Nat->Act->World->Prop) (i:Nat) (o:b i a w)
  (round:∀n a w,b n a w->c.wpIn F j P (Exit.then (λg w'=>∃f,f<n/\b f g w') Q) a w):(Code.loop c).wpIn F j P Q a w:=by
 refine wpIn_loop (λa w=>∃n,b n a w) (λa w=>leastOf (λn=>b n a w)) ⟨i,o⟩ ?_;intro a w k;refine AFz (round _ a w (leastOf_spec k).1) ?_;intro e g w' d;cases e with
 | normal =>
  obtain⟨f,m,h⟩:=d;exact show (∃n,b n g w')/\leastOf (λn=>b n g w')<leastOf (λn=>b n a w) from ⟨⟨f,h⟩,AFc ((leastOf_spec ⟨f,h⟩).2 f h) m⟩
 | exit id=>exact d
 | goto l=>exact d
 | ret=>exact d
 | panic ch=>exact d
 | outgrown=>exact d
def Ent (c:Cx) (σ σ':St):Prop:=∀a w,c.sat σ a w->c.sat σ' a w
section
variable {c:Cx} {R:Exit->Act->World->Prop} {k:List DZ} {σ σ':St}
theorem Ev.ent {n:pW} (h:Ev c R n k σ') (d:Ent c σ σ'):Ev c R n k σ:=λh1 b a w hs=>h h1 b a w (d a w hs)
theorem A92 {x y:Code} (h:Ev c R (.run x) (.seq y :: k) σ):Ev c R (.run (.seq x y)) k σ:=by
 intro h1 b a w hs;simp only[Ht,Bz,AT]at h1;refine wpIn_seq (AFz (h h1.1 (by simp[DC,h1.2,b]) a w hs) ?_);intro e f w' d;cases e<;>exact d
theorem pX (h:Ev c R (.out .normal) k σ):Ev c R (.run .skip) k σ:=λ_ b a w hs=>wpIn_skip (h rfl b a w hs)
theorem A93 (h:Ev c R (.out .ret) k σ):Ev c R (.run .ret) k σ:=λ_ b a w hs=>wpIn_ret (h rfl b a w hs)
theorem A5k {id:Nat} (h:Ev c R (.out (.exit id)) k σ):Ev c R (.run (.exit id)) k σ:=λ_ b a w hs=>wpIn_exit (h rfl b a w hs)
theorem A1N {id:Nat} {b:Code} (h:Ev c R (.run b) (.blk id :: k) σ):Ev c R (.run (.block id b)) k σ:=by
 intro h1 d a w hs;refine wpIn_block (AFz (h (by simpa[Ht,Bz] using h1) (by simpa[DC] using d) a w hs) ?_);intro e g w' f;cases e<;>exact f
def EvR (c:Cx) (R:Exit->Act->World->Prop) (k:List DZ):DE->Prop
 | some (vc,σ)=>vc/\Ev c R (.out .normal) k σ
 | none=>False
theorem y5 (f:c.Ok) {id:Nat} {ops:Array Oper} (h:EvR c R k (B1 c.tb ops.toList ops.toList σ)):Ev c R (.run (.region id ops false)) k σ:=by
 intro h1 e a w hs;cases b:B1 c.tb ops.toList ops.toList σ with
 | none=>rw[b]at h;exact h.elim
 | some r =>
  obtain⟨vc,σ'⟩:=r;rw[b]at h;simp only[Ht,Bz,Is]at h1;exact AEJ (Py f ops.toList hs h1 b h.1 λd w' g=>h.2 rfl e d w' g)
def EvC (c:Cx) (R:Exit->Act->World->Prop) (x y:Code) (k:List DZ) (σ:St):Option AV->Prop
 | some (.p .bool b)=>(b=true->Ev c R (.run x) k σ)/\(b=false->Ev c R (.run y) k σ)
 | _=>False
theorem A5l {o:Operand} {x y:Code} (h:EvC c R x y k σ (Ak σ o)):Ev c R (.run (.cond o x y)) k σ:=by
 intro h1 g a w hs;simp only[Ht,Bz,AT]at h1;obtain⟨ρ,f⟩:=hs;have j:=Et f.env;cases e:Ak σ o with
 | none=>rw[e]at h;exact h.elim
 | some v =>
  have l:=j o v e;rw[e]at h;unfold EvC at h;split at h
  ·rename_i b i;cases i;have d:=EM l;exact wpIn_cond_split d (λd=>h.1 d h1.1 g a w ⟨ρ,f⟩) (λd=>h.2 d h1.2 g a w ⟨ρ,f⟩)
  ·exact h.elim
theorem Hu {y:Code} (h:Ev c R (.run y) k σ):Ev c R (.out .normal) (.seq y :: k) σ:=by
 intro _ b a w hs;simp only[DC,AT]at b;exact h b.1 b.2 a w hs
theorem fR {id:Nat} {y:Code} (h:Ev c R (.out (.exit id)) k σ):Ev c R (.out (.exit id)) (.seq y :: k) σ:=by
 intro _ b a w hs;simp only[DC,AT]at b;exact h rfl b.2 a w hs
theorem lN {y:Code} (h:Ev c R (.out .ret) k σ):Ev c R (.out .ret) (.seq y :: k) σ:=by
 intro _ b a w hs;simp only[DC,AT]at b;exact h rfl b.2 a w hs
theorem lO {id:Nat} (h:Ev c R (.out .normal) k σ):Ev c R (.out .normal) (.blk id :: k) σ:=λ_ b a w hs=>h rfl (by simpa[DC] using b) a w hs
theorem S1 {id b:Nat} (h:if b=id then Ev c R (.out .normal) k σ else Ev c R (.out (.exit b)) k σ):Ev c R (.out (.exit b)) (.blk id :: k) σ:=by
 intro _ d a w hs;have d:DC c.nt k=true:=by simpa[DC] using d
 show (if b=id then VY c R k .normal a w else VY c R k (.exit b) a w);split at h
 ·rename_i e;rw[BY e];exact h rfl d a w hs
 ·rename_i e;rw[An e];exact h rfl d a w hs
theorem lQ {id:Nat} (h:Ev c R (.out .ret) k σ):Ev c R (.out .ret) (.blk id :: k) σ:=λ_ b a w hs=>h rfl (by simpa[DC] using b) a w hs
theorem AB {post:St->Prop} (h:post σ):Ev c R (.out .normal) (.inv post :: k) σ:=λ_ _ _ _ hs=>⟨σ,hs,h⟩
theorem fS {id:Nat} {post:St->Prop} (h:Ev c R (.out (.exit id)) k σ):Ev c R (.out (.exit id)) (.inv post :: k) σ:=λ_ b a w hs=>h rfl (by simpa[DC] using b) a w hs
theorem lS {post:St->Prop} (h:Ev c R (.out .ret) k σ):Ev c R (.out .ret) (.inv post :: k) σ:=λ_ b a w hs=>h rfl (by simpa[DC] using b) a w hs
def AAp (c:Cx) {ι:Type} (I:ι->St) (μ:ι->Nat) (i:ι) (σ:St):Prop:=∃j,μ j<μ i/\Ent c σ (I j)
theorem AJ {ι:Type} (d:ι->St) (f:ι->Nat) (g:ι) {b:Code} (h0:Ent c σ (d g)) (o:∀i,Ev c R (.run b) (.inv (AAp c d f i) :: k) (d i)):Ev c R (.run (.loop b)) k σ:=by
 intro h1 m a w hs;have h1:Bz c.nt b=true:=by simpa[Ht,Bz] using h1
 refine Tm (λn a w=>∃i,f i=n/\c.sat (d i) a w) (f g) ⟨g,rfl,h0 a w hs⟩ ?_;rintro n a w ⟨i,rfl,hs⟩;refine AFz (o i h1 (by simpa[DC] using m) a w hs) ?_;intro e l w' h;cases e with
 | normal =>
  obtain⟨σ',r,j,q,p⟩:=h;exact⟨f j,q,j,rfl,p l w' r⟩
 | _=>exact h
theorem Pz {ι:Type} (b:ι->St) {x y:Code} (h:Ev c R (.run x) (.inv (fun σ'=>∃i,Ent c σ' (b i)) :: .seq y :: k) σ) (m:∀i,Ev c R (.run y) k (b i)):Ev c R (.run (.seq x y)) k σ:=by
 intro h1 f a w hs;simp only[Ht,Bz,AT]at h1;refine wpIn_seq (AFz (h h1.1 (by simp[DC,h1.2,f]) a w hs) ?_);intro e d w' g;cases e with
 | normal =>
  obtain⟨σ',l,i,j⟩:=g;exact m i h1.2 f d w' (j d w' l)
 | _=>exact g
end
end
section
open Go Go.RowKit
def AL:Nat->(ts:List Ty)->KR ts->List (Nat×AV)
 | _,[],_=>[]
 | s,t :: ts,d=>(s,.p t d.1) :: AL (s+1) ts d.2
def Kl (σ:St) (ty:Ty):Option AV->Option AV
 | some (.bp n a off)=>match El ty a off (lk n σ.objs) with
  | some (_,v,_)=>some v
  | none=>none
 | _=>none
def Jb (tb:Tb) (σ:St):ResultVar->Option AV
 | .tmp t=>lk t σ.env
 | .cell a t=>match lk t tb.ty with
  | some ti=>Kl σ ti.ty (lk a σ.env)
  | none=>none
def ND:Option AV->List Nat
 | some v=>v.names
 | none=>[]
def Jc (σ:St) (t:Ty):Option AV->Option t.den
 | some v=>LQ false σ t v
 | none=>none
def Hv (σ:St) (et:TypeId) (e:Ty):Option Obj->Option (List e.den)
 | some (.arr b a xs)=>if b=et then BW (.slice e) ⟨.slice a,xs⟩ else none
 | _=>none
def LV (tb:Tb) (σ:St) (rv:ResultVar):RV->Prop
 | .p t d=>Jc (Ct (ND (Jb tb σ rv)) σ) t (Jb tb (Ct (ND (Jb tb σ rv)) σ) rv)=some d
 | .own et e xs=>match Jb tb σ rv with
  | some (.sr n a 0 hi)=>a=e/\Hv σ et e (lk n σ.objs)=some xs/\hi=xs.length
  | _=>False
def Nz (tb:Tb) (σ:St):List ResultVar->List RV->Prop
 | [],[]=>True
 | [rv],[r]=>LV tb σ rv r
 | rv :: b,.p t d :: a=>LV tb σ rv (.p t d)/\Nz tb σ b a
 | _,_=>False
section
variable {P:Program} {tb:Tb} {w0:World} {O0:Nat->Prop} {nt:Nat} {ds:Fp}
def cx (P:Program) (tb:Tb) (w0:World) (O0:Nat->Prop) (nt:Nat):Cx:={ P:=P,tb:=tb,w0:=w0,K:=λb=>b<w0.heap.size,O0:=O0,nt:=nt }
theorem Yo:∀(ts:List Ty) (a:List Value) (ds:KR ts) (k:Nat) (w:World) (O:Nat->Prop),Su w O ts a ds->∀s v,lk s (AL k ts ds)=some v->k<=s/\∃u,a[s-k]?=some u/\∃t d,v=.p t d/\Bl w O t u d
 | [],a,ds,k,w,O,h,s,v,hs=>by simp[AL,lk]at hs
 | t :: ts,a,ds,k,w,O,h,s,v,hs=>by
  obtain⟨u,r,rfl,h1,b⟩:=h;simp only[AL,lk]at hs;split at hs
  ·grind
  ·obtain⟨c,g,e,f⟩:=Yo ts r ds.2 (k+1) w O b s v hs;grind
theorem S2:∀ {ts:List Ty} {a:List Value} {ds:KR ts} {w:World} {O:Nat->Prop},Su w O ts a ds->a.length=ts.length
 | [],a,ds,w,O,h=>by have h:a=[]:=h;subst h;rfl
 | t :: ts,a,ds,w,O,h=>by
  obtain⟨u,r,rfl,h1,b⟩:=h;simp[S2 b]
theorem y6 {ts:List Ty} {a:List Value} {ds:KR ts} (h:Su w0 O0 ts a ds) (k:a.length<=nt) :
  (cx P tb w0 O0 nt).sat ⟨AL 0 ts ds,[]⟩ { tmps:=a.toArray++Array.replicate (nt-a.toArray.size) undef,defers:=[] } w0:=by
 refine⟨λ_=>undef,⟨rfl,rfl,rfl,NO _,λ_ _=>rfl⟩,by simp[cx];omega,rfl,(λp hp=>by simp[cx]at hp),λn o h=>by simp[lk]at h,λn b ⟨o,h⟩=>by simp[lk]at h,λn m b ⟨o,h⟩=>by simp[lk]at h,λs v hs=>?_⟩;obtain⟨_,u,h1,t,d,rfl,e⟩:=Yo ts a ds 0 w0 O0 h s v hs;have c:s<a.length:=by grind
 have i:(a.toArray++Array.replicate (nt-a.toArray.size) undef).getD s undef=u:=by
  have h1:a[s]?=some u:=by simpa using h1
  have:a[s]=u:=by rw[At c]at h1;injection h1
  simp[Array.getElem?_append,c,this]
 rw[i];refine Bl.mono (λb _ f g=>?_) (λ_ _ _=>rfl) e;rcases g with h0|⟨n,⟨o,j⟩,_⟩
 ·exact f h0
 ·simp[lk]at j
def Ju (tmps:Array Value):ResultVar->Sem Value
 | .tmp t=>pure (tmps.getD t undef)
 | .cell a t=>do loadVar t (<-asAddr (tmps.getD a undef))
theorem Oc (fn:Func) (tmps:Array Value):results fn tmps=(do let a <-fn.results.mapM (Ju tmps);pure (if h:a.size=1 then a[0] else .tuple a)):=by
 unfold results
 congr 1
theorem Uc (hT:DH P tb) {K:Nat->Prop} {σ:St} {ρ:Nat->Value} {a:Act} {w:World} (hs:Bv w0 K O0 nt ds σ ρ a w) {rv:ResultVar} {v:AV} (h:Jb tb σ rv=some v) :
  ∃u,(Ju a.tmps rv).run P w=.ok u w/\B7 (vw w O0 σ ρ) v u:=by
 cases rv with
 | tmp t =>
  simp only[Jb]at h;exact⟨_,by simp[Ju],hs.env t v h⟩
 | cell x t =>
  simp only[Jb]at h;cases d:lk t tb.ty with
  | none=>rw[d]at h;simp at h
  | some ti =>
   rw[d]at h;simp only at h;cases e:lk x σ.env with
   | none=>rw[e]at h;simp[Kl]at h
   | some xv =>
    rw[e]at h;unfold Kl at h;split at h
    ·rename_i n l off i;cases i;have f:=hs.env x _ e;split at h
     ·rename_i vc o obs j;cases h;have k:Jp σ (some ti) (some (.bp n l off))=some (vc,v,obs):=j;obtain⟨_,u,h1,g⟩:=A1u (hT _ _ d) hs.objs k f;obtain⟨m,b,_,c⟩:=f;rw[c]at h1;have c:a.tmps.getD x undef=.pointer (some ⟨b,off,none⟩):=c;refine⟨u,?_,g⟩;simp only[Instr.loadAt,Instr.sureAddr,ADA,AEr,aS]at h1;simp only[Ju,c,asAddr,ADA,AEr,aS,h1]
     ·cases h
    ·cases h
theorem A5m (hT:DH P tb) {K:Nat->Prop} {σ:St} {ρ:Nat->Value} {a:Act} {w:World} (hs:Bv w0 K O0 nt ds σ ρ a w) {rv:ResultVar} {t:Ty} {d:t.den} (h:LV tb σ rv (.p t d)) :
  ∃u,(Ju a.tmps rv).run P w=.ok u w/\Bl w O0 t u d:=by
 unfold LV at h;have e:=Kk (l:=ND (Jb tb σ rv)) hs;generalize Ct (ND (Jb tb σ rv)) σ=f at h e;cases c:Jb tb f rv with
 | none=>rw[c]at h;simp[Jc]at h
 | some v =>
  rw[c]at h;simp only[Jc]at h;obtain⟨u,h1,g⟩:=Uc hT e c;have i:=Iu (V:=vw w O0 f ρ) (O':=O0) (λb j k=>j (.inl k)) (λh=>by cases h) e.objs h g;exact⟨u,h1,i⟩
theorem A1O (hT:DH P tb) {K:Nat->Prop} {σ:St} {ρ:Nat->Value} {a:Act} {w:World} (hs:Bv w0 K O0 nt ds σ ρ a w):∀ {f:List ResultVar} {c:List RV},(∀r∈c,∃t d,r=.p t d)->Nz tb σ f c ->
  ∃e:List Value,(f.mapM (Ju a.tmps)).run P w=.ok e w/\e.length=c.length /\
   ∀nm V,V.w=w->(∀b,V.O b->O0 b)->Js V (Nt nm c) e
 | [],[],_,_=>⟨[],by simp,rfl,λ_ _ _ _=>rfl⟩
 | [],_ :: _,_,h=>by simp[Nz]at h
 | _ :: _,[],_,h=>by simp[Nz]at h
 | rv :: f,r :: c,hp,h=>by
  obtain⟨t,d,rfl⟩:=hp r (by simp);have g:LV tb σ rv (.p t d)/\Nz tb σ f c:=by
   cases f with
   | nil =>
    cases c with
    | nil=>exact⟨h,trivial⟩
    | cons q s=>exact⟨h.1,h.2⟩
   | cons v x=>exact⟨h.1,h.2⟩
  obtain⟨u,h1,n⟩:=A5m hT hs g.1;obtain⟨e,o,i,j⟩:=A1O hT hs (λr l=>hp r (by simp[l])) g.2;refine⟨u :: e,?_,by simp[i],λnm V m k=>⟨u,e,rfl,?_,j _ V m k⟩⟩
  ·simp_all
  ·show Bl V.w V.O t u d;grind [Bl.mono]
def VZ (P:Program) (fn:Func) (w0:World) (O0:Nat->Prop) (a:List RV):Exit->Act->World->Prop :=
 bodyPost P fn λe w'=>∃u,e=.returned u/\A1D w0 O0 a u w'
theorem A1P (x:(cx P tb w0 O0 nt).Ok) {fn:Func} {g:List RV} {σ:St} {e:Exit} (y:e=.ret\/e=.normal) (hp:∀r∈g,∃t d,r=.p t d) (h:Nz tb σ fn.results.toList g) :
  Ev (cx P tb w0 O0 nt) (VZ P fn w0 O0 g) (.out e) [] σ:=by
 intro _ _ a w hs;obtain⟨ρ,hs⟩:=hs;obtain⟨f,h1,i,m⟩:=A1O x.T hs hp h;have h1:(fn.results.toList.mapM (Ju a.tmps)).run P w=.ok f w:=h1;have s:Below w0.heap.size w0 w:=⟨hs.frm.os,hs.frm.tape,hs.frm.output,hs.frm.size,hs.frm.block⟩;have D:∃v,(results fn a.tmps).run P w=.ok v w/\A1D w0 O0 g v w:=by
  have A:(fn.results.mapM (Ju a.tmps)).run P w=.ok f.toArray w:=by
   rw[AEv]
   simp_all
  refine⟨if h:f.toArray.size=1 then f.toArray[0] else .tuple f.toArray,?_,λnm=>⟨λ_=>undef,?_⟩⟩
  ·rw[Oc];simp only[ADA,A,aS,AEr]
  ·have z:DF nm g=[]:=by
    clear h h1 i m;induction g generalizing nm with
    | nil=>rfl
    | cons r F E =>
     obtain⟨t,d,rfl⟩:=hp r (by simp);simp only[DF,Sj,AE0];exact E (λr C=>hp r (by simp[C])) (nm+10000)
   rw[z];refine⟨s,λ_ _=>rfl,?_,(λ_ _ h=>by cases h),(λ_ _ _ h=>by cases h),(λ_ _ _ _ _ h=>by cases h)⟩;have c:=m nm (vw w O0 (EZ ⟨[],[]⟩ []) (λ_=>undef)) rfl (λb q=>by
    rcases q with h0|⟨n,⟨o,B⟩,_⟩
    ·exact h0
    ·simp[EZ,lk]at B)
   match g,hp,f,i,c with
   | [],_,f,i,c =>
    have c:f=[]:=c;subst c;exact(rfl:_=_)
   | [r],hp,f,i,c =>
    obtain⟨u,l,rfl,j,k⟩:=c;have k:l=[]:=k;subst k;simp only[Jo];exact A1m j
   | G :: H :: F,hp,f,i,c =>
    have:¬f.toArray.size=1:=by simp at i ⊢;omega
    rw[dif_neg this];exact⟨f,rfl,c⟩
 obtain⟨v,c,j⟩:=D;rcases y with rfl|rfl
 ·exact⟨hs.defers,v,c,v,rfl,j⟩
 ·exact⟨hs.defers,v,c,v,rfl,j⟩
end
end
section
open Go Go.RowKit
def Ty.ok:(t:Ty)->t.den->Prop
 | .int k,d=>KO k d
 | .bool,_=>True
 | .str,d=>ByteArray.size d<=AP
 | .slice e,d=>List.length d<=AP/\∀x∈(d:List e.den),e.ok x
 | .prod a b,d=>a.ok d.1/\b.ok d.2
 | .agg t,d=>t.ok d
 | .ref _,_=>True
theorem Hw {w:World} {O:Nat->Prop}:∀ {t:Ty} {cs:List Value} {d:t.den},B0 w O t cs d->t.ok d
 | .int _,_,_,h=>h.2
 | .bool,_,_,_=>trivial
 | .str,_,_,h=>h.2
 | .ref _,_,_,_=>trivial
 | .slice e,_,d,h=>by
  obtain⟨a,c,_,_,f,g⟩:=h;refine⟨f,λx j=>?_⟩;rcases g with g|⟨ad,_,_,k⟩
  ·subst g;simp at j
  ·obtain⟨i,hi,rfl⟩:=AAd.1 j;obtain⟨m,_,_,l⟩:=k i _ (At hi);exact Hw l
 | .prod a b,_,_,h=>by
  obtain⟨c1,c2,_,h1,f⟩:=h;exact⟨Hw h1,Hw f⟩
 | .agg t,cs,d,h=>by
  have h:B0 w O t cs d:=h;exact(Hw h:t.ok d)
def oks:(ts:List Ty)->KR ts->Prop
 | [],_=>True
 | t :: ts,d=>t.ok d.1/\oks ts d.2
theorem pY {w:World} {O:Nat->Prop}:∀ {ts:List Ty} {a:List Value} {ds:KR ts},Su w O ts a ds->oks ts ds
 | [],_,_,_=>trivial
 | t :: ts,a,ds,h=>by
  obtain⟨v,r,rfl,⟨cs,h1,_⟩,b⟩:=h;exact⟨Hw h1,pY b⟩
section
variable {P:Program} {tb:Tb} {w0:World} {O0:Nat->Prop} {nt:Nat}
theorem A8p {f : FuncId} {fn : Func} {cd : Code} {sp : Aa} (d : P.funcs[f]? = some fn) (j : (fn.name == "runtime.NumGoroutine") = false) (c : fn.body = some cd) (k : fn.ntmps = nt) (m : sp.ins.length <= nt)
  (i:Bz nt cd=true) (hT:DH P tb) (hF:Iv P tb)
  (h:∀(w0:World) (O0:Nat->Prop) (ds:KR sp.ins),(cx P tb w0 O0 nt).Ok->oks sp.ins ds->sp.pre ds->Ev (cx P tb w0 O0 nt) (VZ P fn w0 O0 (sp.out ds)) (.run cd) [] ⟨AL 0 sp.ins ds,[]⟩):Ab P f sp:=by
 refine⟨⟨fn,d,j,by simp[c]⟩,λw O p ds e a l=>?_⟩;refine calls_of_wp d c ((wpIn_wide (n:=0)).1 ?_);have o:=S2 a;rw[k];exact h w O ds ⟨λb g=>g,e,hT,hF⟩ (pY a) l i rfl _ _ (y6 a (by omega))
theorem Od (O:(cx P tb w0 O0 nt).Ok) {fn:Func} {et:TypeId} {e:Ty} {xs:List e.den} {σ:St} {ex:Exit} (p:ex=.ret\/ex=.normal) {rv:ResultVar} (S:fn.results=#[rv]) (h:LV tb σ rv (.own et e xs)) :
  Ev (cx P tb w0 O0 nt) (VZ P fn w0 O0 [.own et e xs]) (.out ex) [] σ:=by
 intro _ _ a w hs;obtain⟨ρ,hs⟩:=hs;have N:Below w0.heap.size w0 w:=⟨hs.frm.os,hs.frm.tape,hs.frm.output,hs.frm.size,hs.frm.block⟩;unfold LV at h;simp only at h;split at h
 ·rename_i n Z hi U;obtain⟨rfl,c,rfl⟩:=h;cases hn:lk n σ.objs with
  | none=>rw[hn]at c;simp[Hv]at c
  | some o =>
   rw[hn]at c;cases o with
   | box f st fs=>simp[Hv]at c
   | mapo k v l=>simp[Hv]at c
   | frame al fs=>simp[Hv]at c
   | loop L=>simp[Hv]at c
   | itr ah ak ai aj af=>simp[Hv]at c
   | dfr=>simp[Hv]at c
   | nest aa ag k d ys A=>simp[Hv]at c
   | arr f d ys =>
    simp only[Hv]at c;split at c
    ·rename_i R;subst R;obtain⟨rfl,I⟩:=Bq c;cases I;obtain⟨u,hu,K⟩:=Uc (P:=P) O.T hs U;obtain⟨ab,y⟩:=K;have C:=hs.objs n _ hn;have q:u=ρ n:=by
      obtain⟨W,m,c0,t,_,ad,V,X,rfl,_,h0,_⟩:=y;have t:plc (ρ n)=_:=t;obtain⟨rfl,rfl⟩:=h0 rfl;obtain⟨_,cells,s,_⟩:=C;have s:w.ownsRow 0 f d.size (ρ n) ys.length cells:=s;rw[HW s]at t;have r:m=ys.length:=by
       rcases s.2 with ⟨p,ae⟩|⟨g,cap,Y,p,_⟩
       ·rw[t]at p;injection p;omega
       ·rw[t]at p;injection p
      rw[t,r,Nat.sub_zero]
     have D:(results fn a.tmps).run P w=.ok u w:=by
      rw[Oc,S];have:((#[rv]:Array ResultVar).mapM (Ju a.tmps)).run P w=.ok #[u] w:=by
       rw[AEv];simp[hu]
      simp only[ADA,this,aS,AEr];rfl
     have z:A1D w0 O0 [.own f d ys] u w:=by
      intro nm;have B:∀m,HH (EZ ⟨[],[]⟩ [(nm,.arr f d ys)]) m↔m=nm:=by
       intro m;simp[HH,EZ,lk]
      have hk:∀b,¬own O0 σ ρ b->¬own O0 (EZ ⟨[],[]⟩ [(nm,.arr f d ys)]) (Ei (λ_=>undef) nm u) b:=by
       intro b j M;rcases M with h0|⟨m,A,r⟩
       ·exact j (.inl h0)
       ·rw[(B m).1 A,Bn,q]at r;exact j (.inr ⟨n,⟨_,hn⟩,r⟩)
      have J:DF nm [RV.own f d ys]=[(nm,.arr f d ys)]:=rfl;rw[J];refine⟨Ei (λ_=>undef) nm u,QS.one (loc:=u) N (λb j=>?_) ?_ ?_⟩
      ·rw[q]at j;have:=(hs.free n b ⟨_,hn⟩ j).1;simp only[cx]at this;omega
      ·refine⟨(B nm).2 rfl,?_⟩;show DG (plc (Ei (λ_=>undef) nm u nm)) _ _ _ u;rw[Bn,q];rw[q]at y;exact y
      ·rw[q];obtain⟨r,cells,s,Q⟩:=C;refine⟨r,cells,s,λi x hi=>?_⟩;obtain⟨E,F,G,H⟩:=Q i x hi;rw[q]at hk;exact⟨E,F,G,H.mono (λb _ j=>hk b j) (λ_ _ _=>rfl)⟩
     rcases p with rfl|rfl
     ·exact⟨hs.defers,u,D,u,rfl,z⟩
     ·exact⟨hs.defers,u,D,u,rfl,z⟩
    ·cases c
 ·exact h.elim
end
end
section
open Go Go.RowKit
section
variable {P:Program} {tb:Tb} {w0:World} {O0:Nat->Prop} {nt:Nat} {R:Exit->Act->World->Prop} {k:List DZ} {σ σ':St}
theorem fT:(cx P tb w0 O0 nt).tb=tb:=rfl
theorem lU {c:Cx} (a:c.Ok) {id:Nat} {l:List Oper} {vc:Prop} (h:B1 c.tb l l σ=some (vc,σ')) (b:vc) (hk:Ev c R (.out .normal) k σ') :
  Ev c R (.run (.region id l.toArray false)) k σ:=y5 a (by
 show EvR _ _ _ (B1 c.tb l l σ);rw[h];exact⟨b,hk⟩)
theorem Dp {c:Cx} {o:Operand} {x y:Code} {b:Bool} (h:Ak σ o=some (.p .bool b)) (a:b=true->Ev c R (.run x) k σ) (hf:b=false->Ev c R (.run y) k σ):Ev c R (.run (.cond o x y)) k σ :=
 A5l (by rw[h];exact⟨a,hf⟩)
theorem lV {c:Cx} {id:Nat} (h:Ev c R (.out .normal) k σ):Ev c R (.out (.exit id)) (.blk id :: k) σ:=S1 (by rw[BY rfl];exact h)
theorem lW {c:Cx} {id a:Nat} (b:a≠id) (h:Ev c R (.out (.exit a)) k σ):Ev c R (.out (.exit a)) (.blk id :: k) σ:=S1 (by rw[An b];exact h)
end
inductive B5 where
 | nm (n:Nat)
 | nil
def D6 (ren:List (Nat×B5)):AV->AV->Prop
 | .p t d,.p u a=>BW u ⟨t,d⟩=some a
 | .raw (.slice none 0 0),.p (.slice e) a=>(a:List e.den)=[]
 | .raw v,.raw u=>v=u
 | .raw (.slice none 0 0),.sr m _ lo hi=>lk m ren=some .nil/\lo=0/\hi=0
 | .sr n e lo hi,.sr m b h c=>lk m ren=some (.nm n)/\e=b/\lo=h/\hi=c
 | .ip t d,.ip u a=>BW u ⟨t,d⟩=some a
 | .bp n p o,.bp m k j=>lk m ren=some (.nm n)/\p=k/\o=j
 | .fn f,.fn g=>f=g
 | .clo f ns,.clo g i=>f=g/\i.map (λm=>lk m ren)=ns.map λn=>some (.nm n)
 | .mp n,.mp m=>lk m ren=some (.nm n)
 | .yl n,.yl m=>lk m ren=some (.nm n)
 | _,.top=>True
 | _,_=>False
def FM (ren:List (Nat×B5)):List AV->List AV->Prop
 | [],[]=>True
 | x :: l,y :: r=>(x.cells=y.cells/\D6 ren x y)/\FM ren l r
 | _,_=>False
def Hx (ren:List (Nat×B5)):AV->AV->Prop
 | .ag l,.ag r=>FM ren l r
 | x,y=>D6 ren x y
def Iy (ren:List (Nat×B5)):List AV->List AV->Prop
 | [],[]=>True
 | x :: l,y :: r=>Hx ren x y/\Iy ren l r
 | _,_=>False
def Br (ren:List (Nat×B5)):AV->AV->Prop
 | .tup l,.tup r=>Iy ren l r
 | x,y=>Hx ren x y
def Km (ren:List (Nat×B5)):Option AV->AV->Prop
 | some x,y=>Br ren x y
 | none,.top=>True
 | none,_=>False
def FN (env:List (Nat×AV)) (ren:List (Nat×B5)):List (Nat×AV)->Prop
 | []=>True
 | (s,y) :: r=>Km ren (lk s env) y/\FN env ren r
def Hy (ren:List (Nat×B5)):Option Obj->Obj->Prop
 | some (.arr et e xs),.arr a c ys=>et=a/\BW (.slice c) ⟨.slice e,xs⟩=some ys
 | some (.box et st fs),.box a q d=>et=a/\st=q/\FM ren fs d
 | some (.nest et n k e xs h),.nest a o b c ys m=>(et=a/\n=o/\h=m)/\BW (.slice (.prod b (.slice c))) ⟨.slice (.prod k (.slice e)),xs⟩=some ys
 | some (.mapo k v l),.mapo b f l'=>BW (.slice (.prod b f)) ⟨.slice (.prod k v),l⟩=some l'
 | some (.frame r fs),.frame s d=>r=s/\FN fs ren d
 | some (.itr k v l lf i),.itr b f l' p j=>BW (.slice (.prod b f)) ⟨.slice (.prod k v),l⟩=some l'/\lf=p/\i=j
 | some (.loop L),.loop g=>L=g
 | some .dfr,.dfr=>True
 | _,_=>False
def Gb (objs:List (Nat×Obj)) (ren:List (Nat×B5)) (o:Obj):Option B5->Prop
 | some (.nm n)=>Hy ren (lk n objs) o
 | some .nil=>match o with
  | .arr _ e ys=>(ys:List e.den)=[]
  | .box _ _ _=>False
  | .nest _ _ k e ys _=>(ys:List (k.den×List e.den))=[]
  | .mapo _ _ _=>False
  | .frame _ _=>False
  | .itr _ _ _ _ _=>False
  | .loop _=>False
  | .dfr=>False
 | none=>False
def Ag (objs:List (Nat×Obj)) (ren:List (Nat×B5)):List (Nat×Obj)->Prop
 | []=>True
 | (m,o) :: r=>Gb objs ren o (lk m ren)/\Ag objs ren r
def CD:List (Nat×B5)->Bool
 | []=>true
 | (_,.nm n) :: r=>(r.all λp=>match p.2 with|.nm a=>a != n|.nil=>true)&&CD r
 | (_,.nil) :: r=>CD r
def MB {α:Type}:List (Nat×α)->Bool
 | []=>true
 | (n,_) :: r=>(r.all λp=>p.1 != n)&&MB r
section
variable {ren:List (Nat×B5)} {V V':Vw}
structure MC (ren:List (Nat×B5)) (V V':Vw):Prop where
 w:V'.w=V.w
 O:∀b,¬V.O b->¬V'.O b
 ρ:∀m n,lk m ren=some (.nm n)->V'.ρ m=V.ρ n
 nil:∀m,lk m ren=some .nil->V'.ρ m=.slice none 0 0
 L:∀m f,lk m ren=some f->V'.L m
theorem MC.vrep (h:MC ren V V') {t:Ty} {v:Value} {d:t.den} (c:Bl V.w V.O t v d):Bl V'.w V'.O t v d :=
 Bl.mono (λb _ a=>h.O b a) (λb _ _=>by rw[h.w]) c
theorem MC.rep (h:MC ren V V') {t:Ty} {cs:List Value} {d:t.den} (c:B0 V.w V.O t cs d):B0 V'.w V'.O t cs d :=
 c.mono (λb _ a=>h.O b a) (λb _ _=>by rw[h.w])
theorem MC.map (h:MC ren V V'):∀ {b ns:List Nat},b.map (λm=>lk m ren)=ns.map (λn=>some (B5.nm n))->b.map V'.ρ=ns.map V.ρ/\∀m∈b,∃n∈ns,lk m ren=some (.nm n)
 | [],[],_=>⟨rfl,λ_ h=>by cases h⟩
 | [],_ :: _,a=>by simp at a
 | _ :: _,[],a=>by simp at a
 | m :: b,n :: ns,a=>by
  simp only[UQ,AEj]at a;obtain⟨h1,c⟩:=h.map a.2;refine⟨by simp only[UQ,h1,h.ρ _ _ a.1],λx d=>?_⟩;grind
theorem Yp (h:MC ren V V') {x y:AV} {v:Value} (b:D6 ren x y) (c:VL V x v):VL V' y v/\(∀t d,y=.p t d->(∀u g,x≠.p u g)->v.oneCell'=true->B0 V'.w V'.O t [v] d):=by
 unfold D6 at b;split at b
 ·have:=BI b;injection this with h1 f
  subst h1;cases f;exact⟨h.vrep c,λ_ _ _ z=>absurd rfl (z _ _)⟩
 ·have c:v=_:=c;subst c;have i:=b;have k:∀(O:Nat->Prop) (e:Ty),B0 V'.w O (.slice e) [.slice none 0 0] ([]:List e.den):=λO e=>⟨none,0,rfl,by simp,by simp[AP],.inl rfl⟩;rename_i e g;have i:g=([]:List e.den):=i;subst i;refine⟨⟨_,k _ _,rfl⟩,λt d a _ _=>?_⟩;grind
 ·subst b;exact⟨c,λt d a=>by cases a⟩
 ·rename_i m e lo hi;obtain⟨h1,rfl,rfl⟩:=b;have c:v=_:=c;subst c;refine⟨⟨h.L _ _ h1,?_⟩,λt d a=>by cases a⟩;rw[h.nil _ h1];exact⟨none,0,0,rfl,by omega,by omega,none,0,rfl,by omega,λ_=>⟨rfl,rfl⟩,λh=>by omega⟩
 ·obtain⟨h1,rfl,rfl,rfl⟩:=b;refine⟨⟨h.L _ _ h1,?_⟩,λt d a=>by cases a⟩;rw[h.ρ _ _ h1];exact c.2
 ·have:=BI b;injection this with h1 f
  subst h1;cases f;obtain⟨ad,cs,a,o,q,k⟩:=c;exact⟨⟨ad,cs,a,h.O _ o,λj u r=>by rw[h.w];exact q j u r,h.rep k⟩,λt d a=>by cases a⟩
 ·obtain⟨h1,rfl,rfl⟩:=b;refine⟨⟨h.L _ _ h1,?_⟩,λt d a=>by cases a⟩;rw[h.ρ _ _ h1];exact c.2
 ·subst b;exact⟨c,λt d a=>by cases a⟩
 ·obtain⟨rfl,s⟩:=b;obtain⟨h1,f⟩:=h.map s;refine⟨⟨?_,λm b=>?_⟩,λt d a=>by cases a⟩
  ·rw[h1];exact c.1
  ·obtain⟨n,hn,l⟩:=f m b;refine⟨h.L _ _ l,?_⟩;rw[h.ρ _ _ l];exact(c.2 n hn).2
 ·refine⟨⟨h.L _ _ b,?_⟩,λt d a=>by cases a⟩;rw[h.ρ _ _ b];exact c.2
 ·refine⟨⟨h.L _ _ b,?_⟩,λt d a=>by cases a⟩;rw[h.ρ _ _ b];exact c.2
 ·exact⟨trivial,λt d a=>by cases a⟩
 ·exact b.elim
theorem y7 (h:MC ren V V') {x y:AV} {cs:List Value} (f:x.cells=y.cells) (b:D6 ren x y) (a:Nm V x cs):Nm V' y cs:=by
 by_cases hp:∃t d,x=.p t d
 ·obtain⟨t,d,rfl⟩:=hp;have a:B0 V.w V.O t cs d:=a;cases y<;>simp only[D6]at b<;>try exact b.elim
  ·have:=BI b;injection this with h1 c
   subst h1;cases c;exact h.rep a
  ·have g:=a.length;simp only[AV.cells]at f;rw[f]at g;obtain⟨v,rfl⟩:=ADS.1 g;exact⟨v,rfl,a.one v (by simp),trivial⟩
 ·have l:∃v,cs=[v]/\v.oneCell'=true/\VL V x v:=by
   cases x;case p t d=>exact absurd ⟨t,d,rfl⟩ hp
   all_goals exact a
  obtain⟨v,rfl,h1,c⟩:=l;obtain⟨j,k⟩:=Yp h b c;cases y;case p t d=>exact k t d rfl (λu i e=>hp ⟨u,i,e⟩) h1
  all_goals exact⟨v,rfl,h1,j⟩
theorem Oe (h:MC ren V V'):∀ {l r:List AV} {cs:List Value},FM ren l r->Dn V l cs->Dn V' r cs
 | [],[],cs,_,b=>b
 | [],_ :: _,cs,a,_=>a.elim
 | _ :: _,[],cs,a,_=>a.elim
 | x :: l,y :: r,cs,a,b=>by
  obtain⟨c1,c2,rfl,h1,c⟩:=b;exact⟨c1,c2,rfl,y7 h a.1.1 a.1.2 h1,Oe h a.2 c⟩
theorem LX:∀ {l r:List AV},FM ren l r->l.length=r.length
 | [],[],_=>rfl
 | [],_ :: _,a=>a.elim
 | _ :: _,[],a=>a.elim
 | _ :: _,_ :: _,a=>by simp[LX a.2]
theorem Yq (h:MC ren V V') {x y:AV} {v:Value} (a:Hx ren x y) (b:Sn V x v):Sn V' y v:=by
 cases x;case ag l =>
  cases y;case ag r =>
   obtain⟨cs,e,h1⟩:=b;exact⟨cs,e,Oe h a h1⟩
  all_goals simp only[Hx,D6]at a
  all_goals first|exact a.elim|exact trivial
 all_goals
  simp only[Sn]at b;have a:D6 ren _ y:=a;exact Sn.of1 (Yp h a b).1
theorem fU (h:MC ren V V'):∀ {l r:List AV} {b:List Value},Iy ren l r->Js V l b->Js V' r b
 | [],[],b,_,c=>c
 | [],_ :: _,b,a,_=>a.elim
 | _ :: _,[],b,a,_=>a.elim
 | x :: l,y :: r,b,a,c=>by
  obtain⟨v,e,rfl,h1,d⟩:=c;exact⟨v,e,rfl,Yq h a.1 h1,fU h a.2 d⟩
theorem NE (h:MC ren V V') {x y:AV} {v:Value} (a:Br ren x y) (b:B7 V x v):B7 V' y v:=by
 cases x;case tup l =>
  cases y;case tup r =>
   obtain⟨c,e,h1⟩:=b;exact⟨c,e,fU h a h1⟩
  all_goals simp only[Br,Hx,D6]at a
  all_goals first|exact a.elim|exact trivial
 all_goals
  simp only[Br]at a;exact A1m (Yq h a b)
theorem DQ {objs:List (Nat×Obj)} {m:Nat} {o:Obj}:∀ {l:List (Nat×Obj)},Ag objs ren l->lk m l=some o->Gb objs ren o (lk m ren)
 | (j,x) :: l,h,a=>by
  simp only[lk]at a;split at a
  ·rename_i e;cases a;subst e;exact h.1
  ·exact DQ h.2 a
theorem MD {env:List (Nat×AV)} {s:Nat} {y:AV}:∀ {l:List (Nat×AV)},FN env ren l->lk s l=some y->Km ren (lk s env) y
 | (j,x) :: l,h,a=>by
  simp only[lk]at a;split at a
  ·rename_i e;cases a;subst e;exact h.1
  ·exact MD h.2 a
theorem Ud:∀ {l:List (Nat×B5)} {m c n:Nat},CD l=true->lk m l=some (.nm n)->lk c l=some (.nm n)->m=c
 | (j,f) :: l,m,c,n,a,h1,b=>by
  simp only[lk]at h1 b;have e:CD l=true:=by
   cases f<;>simp only[CD,AT]at a
   ·exact a.2
   ·exact a
  have g:∀q,f=.nm n->lk q l=some (.nm n)->False:=by
   intro q hf d;subst hf;simp only[CD,AT,Is]at a;have:=a.1 _ (F8 d);simp at this
  split at h1
  ·grind
  ·split at b
   ·grind
   ·exact Ud e h1 b
def AAr (n:Nat):Option B5->Bool
 | some (.nm m)=>m==n
 | _=>false
def A94 (pin:List (Nat×Value)) (ren:List (Nat×B5)):Bool:=pin.all λp=>AAr p.1 (lk p.1 ren)
theorem Rk {V V':Vw} (a:MC ren V V') {P:List (Nat×Obj)} (ag:∀n x,lk n P=some x->A8 V x (V.ρ n)) {o:Obj} {m:Nat} (hf:Gb P ren o (lk m ren)):A8 V' o (V'.ρ m):=by
 cases J:lk m ren with
 | none=>rw[J]at hf;exact hf.elim
 | some f =>
  rw[J]at hf;cases f with
  | nil =>
   rw[a.nil m J];cases o with
   | box et st fs=>exact hf.elim
   | mapo k v l=>exact hf.elim
   | frame t fs=>exact hf.elim
   | loop L=>exact hf.elim
   | itr B E C D A=>exact hf.elim
   | dfr=>exact hf.elim
   | nest et aj k e ys H =>
    have hf:ys=([]:List (k.den×List e.den)):=hf;subst hf;exact⟨_,[],[],.inr ⟨rfl,rfl,rfl⟩,by simp[AP],rfl,AEy _ 0 et _,λi x u h=>by simp at h,λi j b u v h=>by simp at h,λi b u h=>by simp at h⟩
   | arr et e ys =>
    have hf:ys=([]:List e.den):=hf;subst hf;exact⟨by simp[AP],[],AEy _ 0 et e.size,He _ _ _ _⟩
  | nm n =>
   rw[a.ρ m n J];simp only[Gb]at hf;cases hn:lk n P with
   | none=>rw[hn]at hf;simp only[Hy]at hf
   | some x =>
    rw[hn]at hf;have q:=ag n x hn;cases x with
    | arr et e xs =>
     cases o with
     | box c st fs=>exact hf.elim
     | mapo k v l=>exact hf.elim
     | frame t fs=>exact hf.elim
     | loop L=>exact hf.elim
     | itr B E C D A=>exact hf.elim
     | dfr=>exact hf.elim
     | nest _ _ _ _ _ _=>exact hf.elim
     | arr c p ys =>
      obtain⟨rfl,g⟩:=hf;obtain⟨rfl,d⟩:=Bq g;cases d;obtain⟨ae,cells,af,ab⟩:=q;refine⟨ae,cells,by rw[a.w];exact af,λi z hi=>?_⟩;obtain⟨K,S,T,U⟩:=ab i z hi;exact⟨K,S,T,a.rep U⟩
    | box et st fs =>
     cases o with
     | arr c p ys=>exact hf.elim
     | mapo k v l=>exact hf.elim
     | frame t fs=>exact hf.elim
     | loop L=>exact hf.elim
     | itr B E C D A=>exact hf.elim
     | dfr=>exact hf.elim
     | nest _ _ _ _ _ _=>exact hf.elim
     | box c av W =>
      obtain⟨rfl,rfl,G⟩:=hf;obtain⟨h0,b,cs,F,hh,aa⟩:=q;exact⟨λah=>by rw[<-LX G];exact h0 ah,b,cs,F,by rw[a.w];exact hh,Oe a G aa⟩
    | nest et aj k e xs h =>
     cases o with
     | nest c ar Q p ys aq =>
      obtain⟨⟨rfl,rfl,rfl⟩,g⟩:=hf;have g:=BI g;injection g with h1 y
      injection h1 with h1
      injection h1 with h1 d
      injection d with d
      subst h1;subst d;cases y;exact yS a.w a.O q
     | mapo k v l=>exact hf.elim
     | box c st fs=>exact hf.elim
     | arr c p ys=>exact hf.elim
     | frame t fs=>exact hf.elim
     | loop L=>exact hf.elim
     | itr B E C D A=>exact hf.elim
     | dfr=>exact hf.elim
    | mapo k v l =>
     cases o with
     | mapo Q an l' =>
      have g:=BI hf;injection g with h1 y
      injection h1 with h1
      injection h1 with h1 d
      subst h1;subst d;cases y;obtain⟨b,K,cl,F,hh,ad,Z⟩:=q;exact⟨b,K,cl,F,by rw[a.w];exact hh,ad.mono (λb _ M=>a.O b M) (λb _ _=>by rw[a.w]),Z⟩
     | box c st fs=>exact hf.elim
     | arr c p ys=>exact hf.elim
     | frame t fs=>exact hf.elim
     | loop L=>exact hf.elim
     | itr B E C D A=>exact hf.elim
     | dfr=>exact hf.elim
     | nest _ _ _ _ _ _=>exact hf.elim
    | frame t fs =>
     cases o with
     | frame aw W =>
      obtain⟨rfl,G⟩:=hf;obtain⟨h0,h1⟩:=q;refine⟨h0,λs v ai=>?_⟩;have I:=MD G ai;cases N:lk s fs with
      | none =>
       rw[N]at I;cases v<;>simp only[Km]at I;exact trivial
      | some x =>
       rw[N]at I;exact NE a I (h1 s x N)
     | mapo k v l=>exact hf.elim
     | box c st fs=>exact hf.elim
     | arr c p ys=>exact hf.elim
     | loop L=>exact hf.elim
     | itr B E C D A=>exact hf.elim
     | dfr=>exact hf.elim
     | nest _ _ _ _ _ _=>exact hf.elim
    | itr k v l lf ao =>
     cases o with
     | itr Q an l' au ap =>
      obtain⟨hf,rfl,rfl⟩:=hf;have g:=BI hf;injection g with h1 y
      injection h1 with h1
      injection h1 with h1 d
      subst h1;subst d;cases y;obtain⟨r,F,b,ak,cl,am,al,h1,y,d,X,Y⟩:=q;exact⟨r,F,b,ak,cl,am,al,by rw[a.w];exact h1,a.O b y,by rw[a.w];exact d,X.mono (λb _ M=>a.O b M) (λb _ _=>by rw[a.w]),Y⟩
     | mapo k v l=>exact hf.elim
     | box c st fs=>exact hf.elim
     | arr c p ys=>exact hf.elim
     | frame t fs=>exact hf.elim
     | loop L=>exact hf.elim
     | dfr=>exact hf.elim
     | nest _ _ _ _ _ _=>exact hf.elim
    | loop L =>
     cases o with
     | loop R =>
      have hf:L=R:=hf;subst hf;obtain⟨b,H,hh⟩:=q;exact⟨b,H,by rw[a.w];exact hh⟩
     | itr B E C D A=>exact hf.elim
     | mapo k v l=>exact hf.elim
     | box c st fs=>exact hf.elim
     | arr c p ys=>exact hf.elim
     | frame t fs=>exact hf.elim
     | dfr=>exact hf.elim
     | nest _ _ _ _ _ _=>exact hf.elim
    | dfr =>
     cases o with
     | dfr =>
      obtain⟨b,H,hh⟩:=q;exact⟨b,H,by rw[a.w];exact hh⟩
     | nest _ _ _ _ _ _=>exact hf.elim
     | mapo k v l=>exact hf.elim
     | box c st fs=>exact hf.elim
     | arr c p ys=>exact hf.elim
     | frame t fs=>exact hf.elim
     | loop L=>exact hf.elim
     | itr B E C D A=>exact hf.elim
def CT (objs:List (Nat×Obj)) (ren:List (Nat×B5)):Bool:=ren.all λp=>(lk p.1 objs).isSome
theorem AC {c:Cx} {σ σ':St} (ren:List (Nat×B5)) (h1:CD ren=true) (r:CT σ'.objs ren=true) (z:Ag σ.objs ren σ'.objs) (F:FN σ.env ren σ'.env) (hp:A94 c.ds.pin ren=true:=by rfl):Ent c σ σ':=by
 rintro a w ⟨ρ,hs⟩
 let ρ':Nat->Value:=λm=>match lk m ren with|some (.nm n)=>ρ n|_=>.slice none 0 0
 have y:∀m n,lk m ren=some (.nm n)->ρ' m=ρ n:=λm n d=>by simp[ρ',d]
 have u:∀m,lk m ren=some .nil->ρ' m=.slice none 0 0:=λm d=>by simp[ρ',d]
 have D:∀m f,lk m ren=some f->HH σ' m:=λm f d=>by
  simp only[CT,Is]at r;have:=r _ (F8 d);exact AEb.1 this
 have j:∀m b,HH σ' m->bk (ρ' m) b->∃n,lk m ren=some (.nm n)/\HH σ n/\bk (ρ n) b:=by
  rintro m b ⟨o,d⟩ e;have hf:=DQ z d;cases i:lk m ren with
  | none=>rw[i]at hf;exact hf.elim
  | some f =>
   cases f with
   | nil=>rw[u m i]at e;simp[bk,blk]at e
   | nm n =>
    rw[i]at hf;rw[y m n i]at e;refine⟨n,rfl,?_,e⟩;cases hn:lk n σ.objs with
    | none=>simp only[Gb,hn,Hy]at hf
    | some x=>exact⟨x,hn⟩
 have t:MC ren (vw w c.O0 σ ρ) (vw w c.O0 σ' ρ'):=by
  refine⟨rfl,λb e k=>?_,y,u,D⟩;rcases k with h0|⟨m,h,d⟩
  ·exact e (.inl h0)
  ·obtain⟨n,_,hn,g⟩:=j m b h d;exact e (.inr ⟨n,hn,g⟩)
 refine⟨ρ',hs.frm,hs.nt,hs.defers,λp A=>?_,λm o d=>?_,λm b h e=>?_,λm J b h G e k=>?_,λs v I=>?_⟩
 ·obtain⟨L,M,N⟩:=hs.pin p A;simp only[A94,Is]at hp;have l:=hp p A;unfold AAr at l;split at l
  ·grind
  ·cases l
 ·exact Rk t hs.objs (DQ z d)
 ·obtain⟨n,_,hn,g⟩:=j m b h e;exact hs.free n b hn g
 ·obtain⟨n,B,hn,g⟩:=j m b h e;obtain⟨K,C,H,E⟩:=j J b G k;have:=hs.dist n K b hn H g E;subst this;exact Ud h1 B C
 ·have d:=MD F I;cases q:lk s σ.env with
  | none =>
   rw[q]at d;cases v<;>simp only[Km]at d;exact trivial
  | some x =>
   rw[q]at d;exact NE t d (hs.env s x q)
end
end
section
open Go
theorem Gw (b:Bool):Rd true (some (.p .bool b))=some b:=by cases b<;>rfl
theorem GA (b:Bool):Rd false (some (.p .bool b))=some (!b):=by cases b<;>rfl
theorem NF:IntKind.i64.min=-9223372036854775808:=by decide
theorem NG:IntKind.i64.max=9223372036854775807:=by decide
theorem NH:IntKind.u64.min=0:=by decide
theorem NI:IntKind.u64.max=18446744073709551615:=by decide
theorem Rl:IntKind.u8.min=0:=by decide
theorem Rm:IntKind.u8.max=255:=by decide
theorem NJ (n:Int):KO .i64 n↔-9223372036854775808<=n/\n<=9223372036854775807:=by unfold KO;rw[NF,NG]
theorem Iz (n:Int):KO .u64 n↔0<=n/\n<=18446744073709551615:=by unfold KO;rw[NH,NI]
theorem Va (n:Int):KO .u8 n↔0<=n/\n<=255:=by unfold KO;rw[Rl,Rm]
theorem P0 {α:Type} (x:α):sub [x] 0 1=[x]:=rfl
theorem Hz {α:Type} (xs:List α) (n:Nat):sub xs 0 n=xs.take n:=by simp[sub]
theorem A1Q (n:Nat):((n:Int)).toNat=n:=UG n
theorem GB (n:Nat):(0<=(n:Int))=True:=eq_true (oF n)
end
section
open Go Go.RowKit
section
variable {tb:Tb} {σ σ':St}
def eH (σ σ':St):Prop:=∀n o,lk n σ.objs=some o->lk n σ'.objs=some o
theorem A1R (h:eH σ σ') {e:Ty} {lo hi n:Nat} {d:List e.den} (hs:RW e lo hi (lk n σ.objs)=some d):RW e lo hi (lk n σ'.objs)=some d:=by
 cases hn:lk n σ.objs with
 | none=>rw[hn]at hs;simp[RW]at hs
 | some o=>rw[h n o hn,<-hn];exact hs
theorem y8 (h:eH σ σ') {e:Ty} {i n:Nat} {d:List e.den} (hs:RZ e i (lk n σ.objs)=some d):RZ e i (lk n σ'.objs)=some d:=by
 cases hn:lk n σ.objs with
 | none=>rw[hn]at hs;simp[RZ]at hs
 | some o=>rw[h n o hn,<-hn];exact hs
theorem Jv (h:eH σ σ') {l:Bool} {t:Ty} {x:AV} {d:t.den} (hs:Eh l σ t x=some d):Eh l σ' t x=some d:=by
 unfold Eh at hs ⊢;split at hs
 ·exact hs
 ·grind [A1R]
 ·grind [y8]
 ·exact hs
 ·cases hs
theorem Yr (h:eH σ σ') {l:Bool}:∀ {fs:List AV} {t:Ty} {d:t.den},KS l σ fs t=some d->KS l σ' fs t=some d
 | [],t,d,hs=>by simp[KS]at hs
 | [x],t,d,hs=>by grind [KS,Jv]
 | x :: y :: r,t,d,hs=>by
  cases t<;>simp only[KS]at hs ⊢<;>try(cases hs;done)
  rename_i a b;cases h1:Eh l σ a x with
  | none=>rw[h1]at hs;simp[Lu]at hs
  | some e =>
   cases c:KS l σ (y :: r) b with
   | none=>rw[h1,c]at hs;simp[Lu]at hs
   | some f =>
    rw[Jv h h1,Yr h c];rw[h1,c]at hs;exact hs
theorem FO (h:eH σ σ') {l:Bool} {t:Ty} {x:AV} {d:t.den} (hs:LQ l σ t x=some d):LQ l σ' t x=some d:=by
 unfold LQ at hs ⊢;split at hs
 ·exact Yr h hs
 ·exact Jv h hs
def Ops (σ σ':St) (xs:List Operand):Prop:=∀x∈xs,∀v,Ak σ x=some v->Ak σ' x=some v
theorem ME (h:eH σ σ') {e:Ty} {x:AV} {d:List e.den} (hs:PZ σ e x=some d):PZ σ' e x=some d:=by
 unfold PZ at hs ⊢;split at hs
 ·rename_i n a lo hi;cases hn:lk n σ.objs with
  | none =>
   rw[hn]at hs;have hs:Eh true σ (.slice e) (.sr n a lo hi)=some d:=by simpa[Cs,LQ] using hs
   simp only[Eh,hn]at hs;split at hs<;>simp[RW]at hs
  | some o =>
   rw[h n o hn];rw[hn]at hs;split at hs
   ·cases hs
   ·grind [FO]
 ·exact FO h hs
theorem Vb (h:eH σ σ') {l:Bool}:∀ {ts:List Ty} {xs:List Operand} {ds:KR ts},Ops σ σ' xs->GP l σ ts xs=some ds->GP l σ' ts xs=some ds
 | [],[],ds,_,hs=>hs
 | [],_ :: _,ds,_,hs=>by simp[GP]at hs
 | _ :: _,[],ds,_,hs=>by simp[GP]at hs
 | t :: ts,x :: xs,ds,b,hs=>by
  simp only[GP]at hs ⊢;cases a:Ak σ x with
  | none=>rw[a]at hs;cases hs
  | some v =>
   rw[b x (by simp) v a];rw[a]at hs;simp only at hs ⊢;split at hs
   ·rename_i y ys c d;rw[FO h c,Vb h (λz e=>b z (by simp[e])) d];exact hs
   ·cases hs
theorem S3 (h:eH σ σ') {e:Ty}:∀ {parts:List (Nat×Operand)} {k:Nat} {xs:List e.den},Ops σ σ' (parts.map (·.2))->FD σ e k parts=some xs->FD σ' e k parts=some xs
 | [],k,xs,_,hs=>hs
 | (i,x) :: r,k,xs,b,hs=>by
  simp only[FD]at hs ⊢;split at hs
  ·rename_i d;rw[BY d];cases a:Ak σ x with
   | none=>rw[a]at hs;cases hs
   | some v =>
    rw[b x (by simp) v a];rw[a]at hs;simp only at hs ⊢;split at hs
    ·rename_i y ys f g;rw[FO h f,S3 h (λz c=>b z (by simp at c ⊢;exact .inr c)) g];exact hs
    ·cases hs
  ·cases hs
theorem fV (h:eH σ σ') {z:Option AV} {x:Operand} {v:AV} (d:∀v,Ak σ x=some v->Ak σ' x=some v) (hs:F3 σ z (Ak σ x)=some v):F3 σ' z (Ak σ' x)=some v:=by
 cases b:Ak σ x with
 | none=>rw[b]at hs;unfold F3 at hs;split at hs<;>simp at *
 | some a =>
  rw[d a b];rw[b]at hs;unfold F3 at hs ⊢;split at hs
  ·rename_i t _ l c;cases c;simp only[If]at hs ⊢;grind [FO]
  ·exact hs
theorem P6 (h:eH σ σ') {offs:List (Nat×Nat)}:∀ {parts:List (Nat×Operand)} {fs a:List AV},Ops σ σ' (parts.map (·.2))->Dy σ offs fs parts=some a->Dy σ' offs fs parts=some a
 | [],fs,a,_,hs=>hs
 | (i,x) :: r,fs,a,c,hs=>by
  simp only[Dy]at hs ⊢;cases b:F3 σ fs[i]? (Ak σ x) with
  | none=>rw[b]at hs;cases hs
  | some v =>
   rw[fV h (c x (by simp)) b];rw[b]at hs;simp only at hs ⊢;split at hs
   ·rename_i e;rw[BY e];exact P6 h (λz d=>c z (by simp at d ⊢;exact .inr d)) hs
   ·cases hs
theorem Vc:∀ {xs:List Operand} {ns:List Nat},Ops σ σ' xs->Hl σ xs=some ns->Hl σ' xs=some ns
 | [],ns,_,hs=>hs
 | x :: r,ns,a,hs=>by
  simp only[Hl]at hs ⊢;split at hs
  ·rename_i n d h1 b;rw[a x (by simp) _ h1,Vc (λz c=>a z (by simp[c])) b];exact hs
  ·cases hs
theorem Ue (h:eH σ σ') {d:Nat} {op:Op} {r:Prop×AV×List (Nat×Obj)} (A:Ops σ σ' op.operands.toList) (hs:aq tb σ d op=some r):aq tb σ' d op=some r:=by
 have one:∀ {x:Operand} {f:Option AV->Ba},x∈op.operands.toList->f none=none->f (Ak σ x)=some r->f (Ak σ' x)=some r:=by
  intro x f j hn hf;cases B:Ak σ x with
  | none=>rw[B,hn]at hf;cases hf
  | some v=>rw[A x j v B,<-B];exact hf
 have M:∀ {x y:Operand} {f:Option AV->Option AV->Ba},x∈op.operands.toList->y∈op.operands.toList->(∀b,f none b=none)->(∀a,f a none=none)->f (Ak σ x) (Ak σ y)=some r->f (Ak σ' x) (Ak σ' y)=some r:=by
  intro x y f j E h1 H hf;cases B:Ak σ x with
  | none=>rw[B,h1]at hf;cases hf
  | some v =>
   cases K:Ak σ y with
   | none=>rw[K,H]at hf;cases hf
   | some w=>rw[A x j v B,A y E w K,<-B,<-K];exact hf
 cases op<;>simp only[aq]at hs ⊢<;>try(cases hs;done)
 case move x=>exact one (f:=Gt) (by simp[Op.operands]) rfl hs
 case assign x=>exact one (f:=Gt) (by simp[Op.operands]) rfl hs
 case pick c x y =>
  cases G:Ak σ c with
  | none=>rw[G]at hs;simp[LR]at hs
  | some ad =>
   have ae:=A c (by simp[Op.operands]) ad G;rw[G]at hs;rw[ae];unfold LR at hs ⊢;split at hs
   ·rename_i F;cases F;exact one (f:=Gt) (by simp[Op.operands]) rfl hs
   ·rename_i F;cases F;exact one (f:=Gt) (by simp[Op.operands]) rfl hs
   ·cases hs
 case alloc t=>exact hs
 case box t x=>exact one (f:=Tj d t (lk t tb.ty)) (by simp[Op.operands]) (by cases lk t tb.ty<;>simp[Tj]) hs
 case build t parts =>
  unfold JS at hs ⊢;split at hs
  ·rename_i u offs el b F;cases hp:Dy σ offs (yR u) parts.toList with
   | none=>rw[hp]at hs;simp[Gt]at hs
   | some fs =>
    rw[P6 h (by simpa[Op.operands] using A) hp];rw[hp]at hs;exact hs
  ·cases hs
 case buildSlice t n parts =>
  cases W:lk d tb.nests with
  | some ap =>
   rw[W]at hs;simp only[Gm]at hs ⊢;unfold JU at hs ⊢;split at hs
   ·rename_i x au offs el b hp F;cases j:Ak σ x with
    | none=>rw[j]at hs;unfold JT at hs;split at hs<;>first|(cases hs;done)|(rename_i H;cases H)
    | some av =>
     rw[A x (by simp[Op.operands,hp]) av j];rw[j]at hs;unfold JT at hs ⊢;split at hs
     ·rename_i k e ay az ao;unfold KU at hs;split at hs
      ·rename_i aa S;rw[Jv h S];exact hs
      ·rename_i aa an l S;split at hs
       ·rename_i U;rw[Jv h S];simp only[KU,U,AD1];exact hs
       ·cases hs
      ·cases hs
     ·cases hs
   ·cases hs
  | none =>
  rw[W]at hs;simp only[Gm]at hs ⊢;unfold Bh at hs ⊢;split at hs
  ·rename_i e offs el b F;cases hp:FD σ e 0 parts.toList with
   | none=>rw[hp]at hs;simp[Bp]at hs
   | some xs =>
    rw[S3 h (by simpa[Op.operands] using A) hp];rw[hp]at hs;exact hs
  ·cases hs
 case load t x =>
  cases j:Ak σ x with
  | none=>rw[j]at hs;simp[Jp]at hs
  | some v =>
   rw[A x (by simp[Op.operands]) v j];rw[j]at hs;unfold Jp at hs ⊢;split at hs
   ·rename_i ti n al off Q I;cases hn:lk n σ.objs with
    | none=>rw[hn]at hs;simp[El]at hs
    | some o=>rw[h n o hn,<-hn];exact hs
   ·rename_i ti n e i al off Q I;cases hn:lk n σ.objs with
    | none=>rw[hn]at hs;simp[Em]at hs
    | some o=>rw[h n o hn,<-hn];exact hs
   ·exact hs
   ·cases hs
 case nilCheck x=>exact one (f:=VK) (by simp[Op.operands]) (by simp[VK]) hs
 case binOp op t x y ar=>exact M (f:=Ra op (lk t tb.ty)) (by simp[Op.operands]) (by simp[Op.operands]) (λb=>by simp[Ra]) (λa=>by cases a<;>simp[Ra]) hs
 case unOp op t x=>exact one (f:=qUn op) (by simp[Op.operands]) (by cases op<;>simp[qUn]) hs
 case convert s t x=>exact one (f:=Jq (lk s tb.ty) (lk t tb.ty)) (by simp[Op.operands]) (by cases lk s tb.ty<;>cases lk t tb.ty<;>simp[Jq]) hs
 case makeSlice t l c=>exact M (f:=Iq tb d (lk t tb.ty)) (by simp[Op.operands]) (by simp[Op.operands]) (λb=>by cases lk t tb.ty<;>simp[Iq]) (λa=>by cases lk t tb.ty<;>simp[Iq]) hs
 case slice t x lo hi ak =>
  cases ak with
  | some m =>
   cases lo with
   | some _=>cases hi<;>simp[aq]at hs
   | none =>
    cases hi with
    | none=>simp[aq]at hs
    | some h1 =>
     simp only[aq]at hs ⊢;cases j:Ak σ x with
     | none=>rw[j]at hs;cases C:lk t tb.ty<;>rw[C]at hs<;>simp[Dz]at hs
     | some v =>
      cases hh:Ak σ h1 with
      | none=>rw[j,hh]at hs;cases C:lk t tb.ty<;>rw[C]at hs<;>simp[Dz]at hs
      | some B =>
       cases J:Ak σ m with
       | none=>rw[j,hh,J]at hs;cases C:lk t tb.ty<;>rw[C]at hs<;>simp[Dz]at hs
       | some aj =>
        rw[A x (by simp[Op.operands]) v j,A h1 (by simp[Op.operands]) B hh,A m (by simp[Op.operands]) aj J];rw[j,hh,J]at hs;exact hs
  | none =>
   simp only[aq]at hs ⊢;have Z:∀ {y:Option Operand},(∀z,y=some z->z∈(Op.slice t x lo hi none).operands.toList)->∀w,Gr σ y=some w->Gr σ' y=some w:=by
    intro y E w K;cases y with
    | none=>exact K
    | some z =>
     simp only[Gr,If]at K ⊢;obtain⟨v,B,rfl⟩:=K;exact⟨v,A z (E z rfl) v B,rfl⟩
   cases j:Ak σ x with
   | none=>rw[j]at hs;cases C:lk t tb.ty<;>rw[C]at hs<;>simp[FX]at hs
   | some v =>
    cases h1:Gr σ lo with
    | none=>rw[h1]at hs;cases C:lk t tb.ty<;>rw[C]at hs<;>simp[FX]at hs
    | some a =>
     cases H:Gr σ hi with
     | none=>rw[H]at hs;cases C:lk t tb.ty<;>rw[C]at hs<;>simp[FX]at hs
     | some b =>
      rw[A x (by simp[Op.operands]) v j,Z (by rintro z rfl;simp[Op.operands]) a h1,Z (by rintro z rfl;simp[Op.operands]) b H];rw[j,h1,H]at hs;exact hs
 case fieldAddr s x f=>exact one (f:=HJ f (lk s tb.ty)) (by simp[Op.operands]) (by cases lk s tb.ty<;>simp[HJ]) hs
 case indexAddr t x i=>exact M (f:=F4 (lk t tb.ty)) (by simp[Op.operands]) (by simp[Op.operands]) (λb=>by cases lk t tb.ty<;>simp[F4]) (λa=>by cases lk t tb.ty<;>simp[F4]) hs
 case index t x i=>exact M (f:=Ed (lk t tb.ty)) (by simp[Op.operands]) (by simp[Op.operands]) (λb=>by cases lk t tb.ty<;>simp[Ed]) (λa=>by cases lk t tb.ty<;>simp[Ed]) hs
 case extract x i=>exact one (f:=Eo i) (by simp[Op.operands]) (by simp[Eo]) hs
 case makeFunc fn first ab =>
  unfold aQ at hs ⊢;split at hs
  ·rename_i f hf;cases G:Hl σ ab.toList with
   | none=>rw[G]at hs;simp[Pd]at hs
   | some ns =>
    rw[Vc (λz L=>A z (by simp[Op.operands]at L ⊢;exact .inr L)) G];rw[G]at hs;exact hs
  ·cases hs
 case makeMap t res =>
  cases res with
  | some z=>simp[aq]at hs
  | none=>simp only[aq]at hs ⊢;exact hs
 case lookup t x i ok =>
  cases j:Ak σ x with
  | none=>rw[j]at hs;simp[It]at hs
  | some xv =>
   cases hi:Ak σ i with
   | none=>rw[j,hi]at hs;simp[It]at hs
   | some Y =>
    rw[A x (by simp[Op.operands]) xv j,A i (by simp[Op.operands]) Y hi];rw[j,hi]at hs;unfold It at hs ⊢;split at hs
    ·rename_i k e _ _ n z Q I ag;cases I;cases ag;cases hn:lk n σ.objs with
     | none=>rw[hn]at hs;simp[Hm]at hs
     | some o =>
      rw[hn]at hs;rw[h n o hn];unfold Hm at hs ⊢;split at hs
      ·rename_i ai ax l A;cases A;split at hs
       ·rename_i G;rw[BY G];cases hk:LQ false σ ai Y with
        | none=>rw[hk]at hs;simp[KY]at hs
        | some kd=>rw[FO h hk];rw[hk]at hs;exact hs
       ·cases hs
      ·cases hs
    ·cases hs
 case call c =>
  obtain⟨callee,args,argTypes⟩:=c;have D:∀x∈args.toList,x∈(Op.call ⟨callee,args,argTypes⟩).operands.toList:=λx j=>by
   have:x∈args:=by simpa using j
   cases callee<;>simp[Op.operands,Call.operands,this]
  cases callee with
  | invoke r m=>simp[DB]at hs
  | value g =>
   simp only[DB]at hs ⊢;cases N:Ak σ g with
   | none=>rw[N]at hs;simp[Lw]at hs
   | some af =>
    rw[A g (by simp[Op.operands,Call.operands]) af N];rw[N]at hs;unfold Lw at hs ⊢;split at hs
    ·rename_i f F;cases X:lk f tb.fns with
     | none=>rw[X]at hs;simp[JW]at hs
     | some sp =>
      rw[X]at hs;simp only[JW]at hs ⊢;cases T:GP sp.lend σ sp.ins args.toList with
      | none=>rw[T]at hs;simp[KX]at hs
      | some ds =>
       rw[Vb h (λx j=>A x (D x j)) T];rw[T]at hs;exact hs
    ·cases hs
  | builtin b =>
   simp only[DB]at hs ⊢;obtain⟨args⟩:=args;obtain⟨argTypes⟩:=argTypes;simp only at hs D ⊢;unfold DM at hs ⊢;split at hs
   ·exact one (f:=Tk (lk _ tb.ty)) (D _ (by simp)) (by cases lk _ tb.ty<;>simp[Tk]) hs
   ·rename_i x y t u;cases j:Ak σ x with
    | none=>rw[j]at hs;simp[Cl]at hs
    | some xv =>
     cases E:Ak σ y with
     | none=>rw[j,E]at hs;simp[Cl]at hs
     | some P =>
      rw[A x (D _ (by simp)) xv j,A y (D _ (by simp)) P E];rw[j,E]at hs;unfold Cl at hs ⊢;split at hs
      ·split at hs
       ·rename_i O;simp only[O,AD1];rename_i Q I;cases I;rw[O]at hs;cases C:lk u tb.ty with
        | none=>rw[C]at hs;simp[Ep]at hs
        | some ti =>
         rw[C]at hs;unfold Ep at hs ⊢;split at hs
         ·rename_i e offs el b F;cases B:PZ σ e P with
          | none=>rw[B]at hs;cases V:lk el tb.ty<;>rw[V]at hs<;>simp[FH]at hs
          | some ys =>
           rw[B]at hs;rw[ME h B];exact hs
         ·cases hs
       ·cases hs
      ·split at hs
       ·rename_i O;simp only[O,AD1];rename_i Q I;cases I;rw[O]at hs;cases C:lk u tb.ty with
        | none=>rw[C]at hs;simp[JV]at hs
        | some ti =>
         rw[C]at hs;unfold JV at hs ⊢;split at hs
         ·rename_i e offs el b F;split at hs
          ·rename_i U;simp only[U,AD1];cases B:PZ σ _ P with
           | none=>rw[B]at hs;cases V:lk el tb.ty<;>rw[V]at hs<;>simp[KW]at hs
           | some ys =>
            rw[B]at hs;rw[ME h B];exact hs
          ·cases hs
         ·cases hs
       ·cases hs
      ·cases hs
   ·exact M (f:=Rb) (D _ (by simp)) (D _ (by simp)) (λb=>by simp[Rb]) (λa=>by cases a<;>simp[Rb]) hs
   ·exact M (f:=Rc) (D _ (by simp)) (D _ (by simp)) (λb=>by simp[Rc]) (λa=>by cases a<;>simp[Rc]) hs
   ·rename_i x y z t u aw;cases j:Ak σ x with
    | none=>rw[j]at hs;simp[Ir]at hs
    | some xv =>
     cases E:Ak σ y with
     | none=>rw[j,E]at hs;simp[Ir]at hs
     | some P =>
      cases L:Ak σ z with
      | none=>rw[j,E,L]at hs;simp[Ir]at hs
      | some am =>
       rw[A x (D _ (by simp)) xv j,A y (D _ (by simp)) P E,A z (D _ (by simp)) am L,<-j,<-E,<-L];exact hs
   ·rename_i ts x y z u r;have N:∀(r:List Operand) (k:IntKind) (o:Option Int) (m:Int),(∀q∈r,∀v,Ak σ q=some v->Ak σ' q=some v)->Fg σ k o r=some m->Fg σ' k o r=some m:=by
     intro r;induction r with
     | nil=>intro k o m _ h;cases o<;>(simp[Fg]at h;try exact ADx some h)
     | cons q r ah =>
      intro k o m R h;cases o with
      | none=>simp[Fg]at h
      | some a =>
       simp only[Fg]at h ⊢;cases B:Ak σ q with
       | none=>rw[B]at h;cases r<;>simp[Nu,Fg]at h
       | some v =>
        rw[B]at h;rw[R q (by simp) v B];exact ah k _ m (λp hp=>R p (by simp[hp])) h
    cases j:Ak σ x with
    | none=>rw[j]at hs;simp[Nv]at hs
    | some xv =>
     rw[j]at hs;rw[A x (D _ (by simp)) xv j];unfold Nv at hs ⊢;split at hs
     ·rename_i k a F;cases F;cases J:Fg σ k (some a) (y :: z :: u :: r) with
      | none=>rw[J]at hs;simp[Pc]at hs
      | some m =>
       rw[J]at hs;rw[N _ _ _ _ (λq R=>A q (D _ (OF _ R))) J];exact hs
     ·cases hs
   ·cases hs
end
end
end Go.Proofs.YtapkhdkbkodbjaaGreat.Fw
