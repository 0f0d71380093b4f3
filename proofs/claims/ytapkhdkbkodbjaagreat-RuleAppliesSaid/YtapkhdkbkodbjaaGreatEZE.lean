/- One operation, a sequence, loops, the entry and the end of a function: the rules. -/
import Derived.Test.YtapkhdkbkodbjaaGreatEZD
import Derived.Deep.LoopGhost
import Derived.ControlIn
set_option linter.unusedVariables false
set_option linter.unusedSimpArgs false
namespace Go.Proofs.YtapkhdkbkodbjaaGreat.Fw
section
open Go Go.RowKit
abbrev ADc:=@Go.wpIn_region_list
abbrev AE3:=@Go.wpIn_mono
structure Cx where
 P:Program
 tb:Tb
 w0:World
 K:Nat->Prop
 O0:Nat->Prop
 nt:Nat
 
 ds:Fp:={}
 
 r:Option Nat:=none
structure Cx.Ok (c:Cx):Prop where
 K:∀b,c.K b->b<c.w0.heap.size
 O:∀b,c.O0 b->b<c.w0.heap.size
 T:DQ c.P c.tb
 F:JQ c.P c.tb
def Cx.sat (c:Cx) (σ:St) (a:Act) (w:World):Prop:=∃ρ,B0 c.w0 c.K c.O0 c.nt c.ds σ ρ a w
section
variable {c:Cx}
theorem A6l (hc:c.Ok) {σ:St} {ρ:Nat->Value} {a:Act} {w:World} (h:B0 c.w0 c.K c.O0 c.nt c.ds σ ρ a w):AAL c.P c.tb w c.O0 σ ρ a where
 hT:=hc.T
 hF:=hc.F
 obj:=h.objs
 own:=by
  intro b hb;rcases hb with h0|⟨n,⟨o,ho⟩,hb⟩
  .exact AAv (hc.O b h0) h.frm.size
  exact(h.objs n o ho).block_lt hb
 ev:=E0 h.env
theorem A1J (e:c.Ok) {σ σ':St} {ρ:Nat->Value} {a:Act} {w:World} (hs:B0 c.w0 c.K c.O0 c.nt c.ds σ ρ a w) {o:Oper} {vc:Prop} (h:GQ c.tb σ o.dst o.op=some (vc,σ')) (k:vc) (j:∀d,o.dst=some d->d<c.nt)
  {next:Act->World->Prop} {Q:Exit->Act->World->Prop} (hn:∀i w',c.sat σ' i w'->next i w'):o.wpIn (FR c.r) 0 c.P a w next Q:=by
 obtain⟨dst,op,type,pos,after,guard⟩:=o;simp only at h j;cases op<;>simp only[GQ]at h<;>try(cases h;done)
 case store t x y =>
  cases dst with
  | some d=>simp[Eo]at h
  | none =>
   simp only[Eo]at h;obtain⟨w',ρ',h1,f⟩:=pC (P:=c.P) hs e.K e.O e.T h k;exact uR (w':=w') (by simp[execOp,h1]) (hn _ _ ⟨ρ',f⟩)
 case mapUpdate t m x y =>
  cases dst with
  | some d=>simp[Eo]at h
  | none =>
   simp only[Eo]at h;obtain⟨w',h1,f⟩:=yN (P:=c.P) hs e.K e.T h;exact uR (w':=w') (by simp[execOp,h1]) (hn _ _ ⟨ρ,f⟩)
 case call cl =>
  obtain⟨callee,args,argTypes⟩:=cl;cases callee with
  | value g=>simp[Ds]at h
  | invoke r m=>simp[Ds]at h
  | builtin b =>
   simp only[Ds]at h;obtain⟨args⟩:=args;obtain⟨argTypes⟩:=argTypes;simp only at h;unfold ER at h;split at h
   .rename_i x y t u;obtain⟨z,w',ρ',h1,f⟩:=pB (P:=c.P) (ty:=type) hs e.K e.O e.T j h k;exact Ay (u:=z) (w':=w') (by simp[execOp,resolve,invoke,builtin,h1]) (hn _ _ ⟨ρ',f⟩)
   cases h
theorem Qd (b:c.Ok) {σ σ':St} {a:Act} {w:World} (hs:c.sat σ a w) {o:Oper} {vc:Prop} (h:HX c.tb o σ=some (vc,σ')) (i:vc) (g:∀d,o.dst=some d->d<c.nt)
  {next:Act->World->Prop} {Q:Exit->Act->World->Prop} (hn:∀f w',c.sat σ' f w'->next f w'):o.wpIn (FR c.r) 0 c.P a w next Q:=by
 obtain⟨ρ,hs⟩:=hs;have hs:=LJ (l:=Ca σ o.op) hs;unfold HX UJ at h;generalize DN (Ca σ o.op) σ=k at h hs;cases e:aq c.tb k (o.dst.getD 0) o.op with
 | some r =>
  obtain⟨m,v,obs⟩:=r;rw[e]at h;simp only[Mh]at h;split at h
  .rename_i hf;cases h;exact uN (A6l b hs) e i hf λu ρ' w' j=>hn _ _ ⟨ρ',hs.add b.K b.O g hf j⟩
  cases h
 | none =>
  rw[e]at h;exact A1J b hs h i g hn
theorem IA {ops:Array Oper} {σ:St} {a:Act} {w:World} (hs:c.sat σ a w) {o:Oper} {b:Bool} (h:Fq ops.toList σ o.guard=some b):Region.wanted o (yielded ops a.tmps)=b:=by
 obtain⟨ρ,hs⟩:=hs;unfold Fq at h;split at h
 .rename_i e;cases h;simp[Region.wanted,e]
 rename_i j q e;cases f:(ops.toList[j]?).bind (·.dst) with
 | none=>rw[f]at h;simp[Mi]at h
 | some g =>
  rw[f]at h;simp only[Mi]at h;cases i:lk g σ.env with
  | none=>rw[i]at h;simp[SX]at h
  | some v =>
   rw[i]at h;unfold SX at h;split at h
   .rename_i l m;cases m;cases h;have d:=hs.env g _ i;have d:=Eb d;have p:(ops[j]?).bind (·.dst)=some g:=by simpa using f
    have n:a.tmps[g]?=some (.bool l):=by
     by_cases k:g<a.tmps.size
     .have:a.tmps.getD g undef=a.tmps[g]:=by simp[Array.getD,k]
      rw[this]at d;rw[AAh k,d]
     have:a.tmps.getD g undef=undef:=by simp[Array.getD,k]
     rw[this]at d;cases d
    simp only[Region.wanted,e,yielded,p,Option.bind_some,n];cases l<;>cases q<;>rfl
   cases h
theorem Nz {σ:St} {a:Act} {w:World} (b:c.Ok) (hs:c.sat σ a w) {dst:Option Nat} (e:∀d,dst=some d->d<c.nt):c.sat (σ.add (.raw undef) [] dst) (a.put dst undef) w:=by
 obtain⟨ρ,hs⟩:=hs;exact⟨ρ,hs.add b.K b.O e (by simp[Br]) (QS.still rfl)⟩
def IV (nt:Nat) (o:Oper):Bool :=
 match o.dst with
 | some d=>decide (d<nt)
 | none=>true
theorem B2 {nt:Nat} {o:Oper} (h:IV nt o=true):∀d,o.dst=some d->d<nt:=by grind [IV]
theorem Sd (d:c.Ok) {ops:Array Oper} {Q:Exit->Act->World->Prop} {r:List Oper}:∀(l:List Oper) {σ σ':St} {vc:Prop} {a:Act} {w:World},c.sat σ a w->(∀o∈l,IV c.nt o=true)->CC c.tb ops.toList l σ=some (vc,σ')->vc ->
  (∀g w',c.sat σ' g w'->wpListIn (FR c.r) 0 c.P ops Q r g w')->wpListIn (FR c.r) 0 c.P ops Q (l++r) a w
 | [],σ,σ',vc,a,w,hs,e,h,f,i=>by grind [CC]
 | o :: l,σ,σ',vc,a,w,hs,e,h,f,i=>by
  simp only[CC]at h;cases j:Fq ops.toList σ o.guard with
  | none=>rw[j]at h;simp[evG]at h
  | some b =>
   rw[j]at h;have s:=IA hs j;have q:=B2 (e o sc);rw[ACf];unfold wpListIn;cases b with
   | true =>
    simp only[evG]at h;rw[BY s];cases n:HX c.tb o σ with
    | none=>rw[n]at h;simp[evK]at h
    | some r =>
     obtain⟨x,v⟩:=r;rw[n]at h;simp only[evK]at h;cases m:CC c.tb ops.toList l v with
     | none=>rw[m]at h;simp[Za]at h
     | some u =>
      obtain⟨y,σ2⟩:=u;rw[m]at h;simp only[Za]at h;cases h;exact Qd d hs n f.1 q λg w' t=>Sd d l t (λp k=>e p (by simp[k])) m f.2 i
   | false =>
    simp only[evG]at h;rw[At (by simp[s])];refine⟨λ_ _=>trivial,?_⟩;exact Sd d l (Nz d hs q) (λp k=>e p (by simp[k])) h f i
theorem Qf (e:c.Ok) {ops:Array Oper} {Q:Exit->Act->World->Prop}:∀(l:List Oper) {σ σ':St} {vc:Prop} {a:Act} {w:World},c.sat σ a w->(∀o∈l,IV c.nt o=true)->CC c.tb ops.toList l σ=some (vc,σ')->vc ->
  (∀i w',c.sat σ' i w'->Q .normal i w')->wpListIn (FR c.r) 0 c.P ops Q l a w
 | [],σ,σ',vc,a,w,hs,f,h,g,d=>by
  simp only[CC]at h;cases h;exact d _ _ hs
 | o :: l,σ,σ',vc,a,w,hs,f,h,g,d=>by
  simp only[CC]at h;cases j:Fq ops.toList σ o.guard with
  | none=>rw[j]at h;simp[evG]at h
  | some b =>
   rw[j]at h;have s:=IA hs j;have q:=B2 (f o sc);unfold wpListIn;cases b with
   | true =>
    simp only[evG]at h;rw[BY s];cases n:HX c.tb o σ with
    | none=>rw[n]at h;simp[evK]at h
    | some r =>
     obtain⟨x,v⟩:=r;rw[n]at h;simp only[evK]at h;cases m:CC c.tb ops.toList l v with
     | none=>rw[m]at h;simp[Za]at h
     | some u =>
      obtain⟨y,σ2⟩:=u;rw[m]at h;simp only[Za]at h;cases h;exact Qd e hs n g.1 q λi w' t=>Qf e l t (λp k=>f p (by simp[k])) m g.2 d
   | false =>
    simp only[evG]at h;rw[At (by simp[s])];refine⟨λ_ _=>trivial,?_⟩;exact Qf e l (Nz e hs q) (λp k=>f p (by simp[k])) h g d
end
end
section
open Go Go.RowKit
inductive Dg where
 | seq (c:Code)
 | blk (id:Nat)
 
 | inv (post:St->Prop)
def B3 (nt:Nat):Code->Bool
 | .region _ ops _=>ops.toList.all (IV nt)
 | .seq a b=>B3 nt a&&B3 nt b
 | .cond _ a b=>B3 nt a&&B3 nt b
 | .block _ b=>B3 nt b
 | .loop b=>B3 nt b
 | .scope b=>B3 nt b
 | _=>true
def DH (nt:Nat):List Dg->Bool
 | []=>true
 | .seq c :: k=>B3 nt c&&DH nt k
 | _ :: k=>DH nt k
def Ws (c:Cx) (R:Exit->Act->World->Prop):List Dg->Exit->Act->World->Prop
 | [],e,a,w=>R e a w
 | .seq y :: k,.normal,a,w=>y.wpIn (FR c.r) 0 c.P (Ws c R k) a w
 | .seq _ :: k,e,a,w=>Ws c R k e a w
 | .blk id :: k,.exit b,a,w=>if b=id then Ws c R k .normal a w else Ws c R k (.exit b) a w
 | .blk _ :: k,e,a,w=>Ws c R k e a w
 | .inv post :: _,.normal,a,w=>∃σ,c.sat σ a w/\post σ
 | .inv _ :: k,e,a,w=>Ws c R k e a w
inductive uU where
 | run (cd:Code)
 | out (e:Exit)
def nwp (c:Cx) (R:Exit->Act->World->Prop) (k:List Dg):uU->Act->World->Prop
 | .run cd,a,w=>cd.wpIn (FR c.r) 0 c.P (Ws c R k) a w
 | .out e,a,w=>Ws c R k e a w
def IW (nt:Nat):uU->Bool
 | .run cd=>B3 nt cd
 | .out _=>true
def Ev (c:Cx) (R:Exit->Act->World->Prop) (n:uU) (k:List Dg) (σ:St):Prop :=
 IW c.nt n=true->DH c.nt k=true->∀a w,c.sat σ a w->nwp c R k n a w
theorem VQ {F:Fence} {j:Nat} {P:Program} {Q:Exit->Act->World->Prop} {a:Act} {w:World} {c:Code} (b:Nat->Act->World->Prop) (i:Nat) (o:b i a w)
  (round:∀n a w,b n a w->c.wpIn F j P (Exit.then (λg w'=>∃f,f<n/\b f g w') Q) a w):(Code.loop c).wpIn F j P Q a w:=by
 refine wpIn_loop (λa w=>∃n,b n a w) (λa w=>leastOf (λn=>b n a w)) ⟨i,o⟩ ?_;intro a w k;refine AE3 (round _ a w (leastOf_spec k).1) ?_;intro e g w' d;cases e with
 | normal =>
  obtain⟨f,m,h⟩:=d;exact show (∃n,b n g w')/\leastOf (λn=>b n g w')<leastOf (λn=>b n a w) from ⟨⟨f,h⟩,ADE ((leastOf_spec ⟨f,h⟩).2 f h) m⟩
 | exit id=>exact d
 | goto l=>exact d
 | ret=>exact d
 | panic ch=>exact d
 | outgrown=>exact d
def Ent (c:Cx) (σ σ':St):Prop:=∀a w,c.sat σ a w->c.sat σ' a w
section
variable {c:Cx} {R:Exit->Act->World->Prop} {k:List Dg} {σ σ':St}
theorem Ev.ent {n:uU} (h:Ev c R n k σ') (d:Ent c σ σ'):Ev c R n k σ:=λh1 b a w hs=>h h1 b a w (d a w hs)
theorem A8W {x y:Code} (h:Ev c R (.run x) (.seq y :: k) σ):Ev c R (.run (.seq x y)) k σ:=by
 intro h1 b a w hs;simp only[IW,B3,As]at h1;refine wpIn_seq (AE3 (h h1.1 (by simp[DH,h1.2,b]) a w hs) ?_);intro e f w' d;cases e<;>exact d
theorem A6m (h:Ev c R (.out .normal) k σ):Ev c R (.run .skip) k σ:=λ_ b a w hs=>wpIn_skip (h rfl b a w hs)
theorem A8X (h:Ev c R (.out .ret) k σ):Ev c R (.run .ret) k σ:=λ_ b a w hs=>wpIn_ret (h rfl b a w hs)
theorem A6n {id:Nat} (h:Ev c R (.out (.exit id)) k σ):Ev c R (.run (.exit id)) k σ:=λ_ b a w hs=>wpIn_exit (h rfl b a w hs)
theorem A1L {id:Nat} {b:Code} (h:Ev c R (.run b) (.blk id :: k) σ):Ev c R (.run (.block id b)) k σ:=by
 intro h1 d a w hs;refine wpIn_block (AE3 (h (by simpa[IW,B3] using h1) (by simpa[DH] using d) a w hs) ?_);intro e g w' f;cases e<;>exact f
def EvR (c:Cx) (R:Exit->Act->World->Prop) (k:List Dg):DJ->Prop
 | some (vc,σ)=>vc/\Ev c R (.out .normal) k σ
 | none=>False
theorem yO (f:c.Ok) {id:Nat} {ops:Array Oper} (h:EvR c R k (CC c.tb ops.toList ops.toList σ)):Ev c R (.run (.region id ops false)) k σ:=by
 intro h1 e a w hs;cases b:CC c.tb ops.toList ops.toList σ with
 | none=>rw[b]at h;exact h.elim
 | some r =>
  obtain⟨vc,σ'⟩:=r;rw[b]at h;simp only[IW,B3,No]at h1;exact ADc (Qf f ops.toList hs h1 b h.1 λd w' g=>h.2 rfl e d w' g)
def EvC (c:Cx) (R:Exit->Act->World->Prop) (x y:Code) (k:List Dg) (σ:St):Option AV->Prop
 | some (.p .bool b)=>(b=true->Ev c R (.run x) k σ)/\(b=false->Ev c R (.run y) k σ)
 | _=>False
theorem A6o {o:Operand} {x y:Code} (h:EvC c R x y k σ (Am σ o)):Ev c R (.run (.cond o x y)) k σ:=by
 intro h1 g a w hs;simp only[IW,B3,As]at h1;obtain⟨ρ,f⟩:=hs;have j:=E0 f.env;cases e:Am σ o with
 | none=>rw[e]at h;exact h.elim
 | some v =>
  have l:=j o v e;rw[e]at h;unfold EvC at h;split at h
  .rename_i b i;cases i;have d:=Eb l;exact wpIn_cond_split d (λd=>h.1 d h1.1 g a w ⟨ρ,f⟩) (λd=>h.2 d h1.2 g a w ⟨ρ,f⟩)
  exact h.elim
theorem Wu {y:Code} (h:Ev c R (.run y) k σ):Ev c R (.out .normal) (.seq y :: k) σ:=by
 intro _ b a w hs;simp only[DH,As]at b;exact h b.1 b.2 a w hs
theorem jO {id:Nat} {y:Code} (h:Ev c R (.out (.exit id)) k σ):Ev c R (.out (.exit id)) (.seq y :: k) σ:=by
 intro _ b a w hs;simp only[DH,As]at b;exact h rfl b.2 a w hs
theorem pD {y:Code} (h:Ev c R (.out .ret) k σ):Ev c R (.out .ret) (.seq y :: k) σ:=by
 intro _ b a w hs;simp only[DH,As]at b;exact h rfl b.2 a w hs
theorem pE {id:Nat} (h:Ev c R (.out .normal) k σ):Ev c R (.out .normal) (.blk id :: k) σ:=λ_ b a w hs=>h rfl (by simpa[DH] using b) a w hs
theorem UX {id b:Nat} (h:if b=id then Ev c R (.out .normal) k σ else Ev c R (.out (.exit b)) k σ):Ev c R (.out (.exit b)) (.blk id :: k) σ:=by
 intro _ d a w hs;have d:DH c.nt k=true:=by simpa[DH] using d
 show (if b=id then Ws c R k .normal a w else Ws c R k (.exit b) a w);split at h
 .rename_i e;rw[BY e];exact h rfl d a w hs
 rename_i e;rw[At e];exact h rfl d a w hs
theorem pF {id:Nat} (h:Ev c R (.out .ret) k σ):Ev c R (.out .ret) (.blk id :: k) σ:=λ_ b a w hs=>h rfl (by simpa[DH] using b) a w hs
theorem AB {post:St->Prop} (h:post σ):Ev c R (.out .normal) (.inv post :: k) σ:=λ_ _ _ _ hs=>⟨σ,hs,h⟩
theorem jP {id:Nat} {post:St->Prop} (h:Ev c R (.out (.exit id)) k σ):Ev c R (.out (.exit id)) (.inv post :: k) σ:=λ_ b a w hs=>h rfl (by simpa[DH] using b) a w hs
theorem pG {post:St->Prop} (h:Ev c R (.out .ret) k σ):Ev c R (.out .ret) (.inv post :: k) σ:=λ_ b a w hs=>h rfl (by simpa[DH] using b) a w hs
def AAM (c:Cx) {ι:Type} (I:ι->St) (μ:ι->Nat) (i:ι) (σ:St):Prop:=∃j,μ j<μ i/\Ent c σ (I j)
theorem AI {ι:Type} (d:ι->St) (f:ι->Nat) (g:ι) {b:Code} (h0:Ent c σ (d g)) (o:∀i,Ev c R (.run b) (.inv (AAM c d f i) :: k) (d i)):Ev c R (.run (.loop b)) k σ:=by
 intro h1 m a w hs;have h1:B3 c.nt b=true:=by simpa[IW,B3] using h1
 refine VQ (λn a w=>∃i,f i=n/\c.sat (d i) a w) (f g) ⟨g,rfl,h0 a w hs⟩ ?_;rintro n a w ⟨i,rfl,hs⟩;refine AE3 (o i h1 (by simpa[DH] using m) a w hs) ?_;intro e l w' h;cases e with
 | normal =>
  obtain⟨σ',r,j,q,p⟩:=h;exact⟨f j,q,j,rfl,p l w' r⟩
 | _=>exact h
theorem A6p {ι:Type} (b:ι->St) {x y:Code} (h:Ev c R (.run x) (.inv (fun σ'=>∃i,Ent c σ' (b i)) :: .seq y :: k) σ) (m:∀i,Ev c R (.run y) k (b i)):Ev c R (.run (.seq x y)) k σ:=by
 intro h1 f a w hs;simp only[IW,B3,As]at h1;refine wpIn_seq (AE3 (h h1.1 (by simp[DH,h1.2,f]) a w hs) ?_);intro e d w' g;cases e with
 | normal =>
  obtain⟨σ',l,i,j⟩:=g;exact m i h1.2 f d w' (j d w' l)
 | _=>exact g
end
end
section
open Go Go.RowKit
def AL:Nat->(ts:List Ty)->Ku ts->List (Nat×AV)
 | _,[],_=>[]
 | s,t :: ts,d=>(s,.p t d.1) :: AL (s+1) ts d.2
def LK (σ:St) (ty:Ty):Option AV->Option AV
 | some (.bp n a off)=>match FO ty a off (lk n σ.objs) with
  | some (_,v,_)=>some v
  | none=>none
 | _=>none
def JJ (tb:Tb) (σ:St):ResultVar->Option AV
 | .tmp t=>lk t σ.env
 | .cell a t=>match lk t tb.ty with
  | some ti=>LK σ ti.ty (lk a σ.env)
  | none=>none
def N0:Option AV->List Nat
 | some v=>v.names
 | none=>[]
def Ju (σ:St) (t:Ty):Option AV->Option t.den
 | some v=>MQ false σ t v
 | none=>none
def Hz (σ:St) (et:TypeId) (e:Ty):Option Obj->Option (List e.den)
 | some (.arr b a xs)=>if b=et then Ba (.slice e) ⟨.slice a,xs⟩ else none
 | _=>none
def KM (tb:Tb) (σ:St) (rv:ResultVar):RV->Prop
 | .p t d=>Ju (DN (N0 (JJ tb σ rv)) σ) t (JJ tb (DN (N0 (JJ tb σ rv)) σ) rv)=some d
 | .own et e xs=>match JJ tb σ rv with
  | some (.sr n a 0 hi)=>a=e/\Hz σ et e (lk n σ.objs)=some xs/\hi=xs.length
  | _=>False
def Ow (tb:Tb) (σ:St):List ResultVar->List RV->Prop
 | [],[]=>True
 | [rv],[r]=>KM tb σ rv r
 | rv :: b,.p t d :: a=>KM tb σ rv (.p t d)/\Ow tb σ b a
 | _,_=>False
section
variable {P:Program} {tb:Tb} {w0:World} {O0:Nat->Prop} {nt:Nat} {ds:Fp}
def cx (P:Program) (tb:Tb) (w0:World) (O0:Nat->Prop) (nt:Nat):Cx:={ P:=P,tb:=tb,w0:=w0,K:=λb=>b<w0.heap.size,O0:=O0,nt:=nt }
theorem Zx:∀(ts:List Ty) (a:List Value) (ds:Ku ts) (k:Nat) (w:World) (O:Nat->Prop),UQ w O ts a ds->∀s v,lk s (AL k ts ds)=some v->k<=s/\∃u,a[s-k]?=some u/\∃t d,v=.p t d/\Bp w O t u d
 | [],a,ds,k,w,O,h,s,v,hs=>by simp[AL,lk]at hs
 | t :: ts,a,ds,k,w,O,h,s,v,hs=>by
  obtain⟨u,r,rfl,h1,b⟩:=h;simp only[AL,lk]at hs;split at hs
  .grind
  obtain⟨c,g,e,f⟩:=Zx ts r ds.2 (k+1) w O b s v hs;grind
theorem UY:∀ {ts:List Ty} {a:List Value} {ds:Ku ts} {w:World} {O:Nat->Prop},UQ w O ts a ds->a.length=ts.length
 | [],a,ds,w,O,h=>by have h:a=[]:=h;subst h;rfl
 | t :: ts,a,ds,w,O,h=>by
  obtain⟨u,r,rfl,h1,b⟩:=h;simp[UY b]
theorem yP {ts:List Ty} {a:List Value} {ds:Ku ts} (h:UQ w0 O0 ts a ds) (l:a.length<=nt) :
  (cx P tb w0 O0 nt).sat ⟨AL 0 ts ds,[]⟩ { tmps:=a.toArray++Array.replicate (nt-a.toArray.size) undef,defers:=[] } w0:=by
 refine⟨λ_=>undef,⟨rfl,rfl,rfl,OR _,λ_ _=>rfl⟩,by simp[cx];omega,rfl,(λp k=>by simp[cx]at k),λn o h=>by simp[lk]at h,λn b ⟨o,h⟩=>by simp[lk]at h,λn m b ⟨o,h⟩=>by simp[lk]at h,λs v hs=>?_⟩;obtain⟨_,u,h1,t,d,rfl,e⟩:=Zx ts a ds 0 w0 O0 h s v hs;have c:s<a.length:=by grind
 have i:(a.toArray++Array.replicate (nt-a.toArray.size) undef).getD s undef=u:=by
  have h1:a[s]?=some u:=by simpa using h1
  have:a[s]=u:=by rw[AT c]at h1;injection h1
  simp[Array.getElem?_append,c,this]
 rw[i];refine Bp.mono (λb _ f g=>?_) (λ_ _ _=>rfl) e;rcases g with h0|⟨n,⟨o,j⟩,_⟩
 .exact f h0
 simp[lk]at j
def KN (tmps:Array Value):ResultVar->Sem Value
 | .tmp t=>pure (tmps.getD t undef)
 | .cell a t=>do loadVar t (<-asAddr (tmps.getD a undef))
theorem PY (fn:Func) (tmps:Array Value):results fn tmps=(do let a <-fn.results.mapM (KN tmps);pure (if h:a.size=1 then a[0] else .tuple a)):=by
 unfold results
 congr 1
theorem Vh (hT:DQ P tb) {K:Nat->Prop} {σ:St} {ρ:Nat->Value} {a:Act} {w:World} (hs:B0 w0 K O0 nt ds σ ρ a w) {rv:ResultVar} {v:AV} (h:JJ tb σ rv=some v) :
  ∃u,(KN a.tmps rv).run P w=.ok u w/\CE (vw w O0 σ ρ) v u:=by
 cases rv with
 | tmp t =>
  simp only[JJ]at h;exact⟨_,by simp[KN],hs.env t v h⟩
 | cell x t =>
  simp only[JJ]at h;cases d:lk t tb.ty with
  | none=>rw[d]at h;simp at h
  | some ti =>
   rw[d]at h;simp only at h;cases e:lk x σ.env with
   | none=>rw[e]at h;simp[LK]at h
   | some xv =>
    rw[e]at h;unfold LK at h;split at h
    .rename_i n l off i;cases i;have f:=hs.env x _ e;split at h
     .rename_i vc o obs j;cases h;have k:Lx σ (some ti) (some (.bp n l off))=some (vc,v,obs):=j;obtain⟨_,u,h1,g⟩:=A1s (hT _ _ d) hs.objs k f;obtain⟨m,b,_,c⟩:=f;rw[c]at h1;have c:a.tmps.getD x undef=.pointer (some ⟨b,off,none⟩):=c;refine⟨u,?_,g⟩;simp only[Instr.loadAt,Instr.sureAddr,AC9,ACQ,iN]at h1;simp only[KN,c,asAddr,AC9,ACQ,iN,h1]
     cases h
    cases h
theorem A6q (hT:DQ P tb) {K:Nat->Prop} {σ:St} {ρ:Nat->Value} {a:Act} {w:World} (hs:B0 w0 K O0 nt ds σ ρ a w) {rv:ResultVar} {t:Ty} {d:t.den} (h:KM tb σ rv (.p t d)) :
  ∃u,(KN a.tmps rv).run P w=.ok u w/\Bp w O0 t u d:=by
 unfold KM at h;have e:=LJ (l:=N0 (JJ tb σ rv)) hs;generalize DN (N0 (JJ tb σ rv)) σ=f at h e;cases c:JJ tb f rv with
 | none=>rw[c]at h;simp[Ju]at h
 | some v =>
  rw[c]at h;simp only[Ju]at h;obtain⟨u,h1,g⟩:=Vh hT e c;have i:=JP (V:=vw w O0 f ρ) (O':=O0) (λb j k=>j (.inl k)) (λh=>by cases h) e.objs h g;exact⟨u,h1,i⟩
theorem A1M (hT:DQ P tb) {K:Nat->Prop} {σ:St} {ρ:Nat->Value} {a:Act} {w:World} (hs:B0 w0 K O0 nt ds σ ρ a w):∀ {f:List ResultVar} {c:List RV},(∀r∈c,∃t d,r=.p t d)->Ow tb σ f c ->
  ∃e:List Value,(f.mapM (KN a.tmps)).run P w=.ok e w/\e.length=c.length /\
   ∀nm V,V.w=w->(∀b,V.O b->O0 b)->KK V (QI nm c) e
 | [],[],_,_=>⟨[],by simp,rfl,λ_ _ _ _=>rfl⟩
 | [],_ :: _,_,h=>by simp[Ow]at h
 | _ :: _,[],_,h=>by simp[Ow]at h
 | rv :: f,r :: c,i,h=>by
  obtain⟨t,d,rfl⟩:=i r sc;have g:KM tb σ rv (.p t d)/\Ow tb σ f c:=by
   cases f with
   | nil =>
    cases c with
    | nil=>exact⟨h,trivial⟩
    | cons s v=>exact⟨h.1,h.2⟩
   | cons x y=>exact⟨h.1,h.2⟩
  obtain⟨u,h1,o⟩:=A6q hT hs g.1;obtain⟨e,q,j,k⟩:=A1M hT hs (λr m=>i r (by simp[m])) g.2;refine⟨u :: e,?_,by simp[j],λnm V n l=>⟨u,e,rfl,?_,k _ V n l⟩⟩
  .simp_all
  show Bp V.w V.O t u d;grind [Bp.mono]
def Wv (P:Program) (fn:Func) (w0:World) (O0:Nat->Prop) (a:List RV):Exit->Act->World->Prop :=
 bodyPost P fn λe w'=>∃u,e=.returned u/\A1B w0 O0 a u w'
theorem A1N (y:(cx P tb w0 O0 nt).Ok) {fn:Func} {g:List RV} {σ:St} {e:Exit} (z:e=.ret\/e=.normal) (j:∀r∈g,∃t d,r=.p t d) (h:Ow tb σ fn.results.toList g) :
  Ev (cx P tb w0 O0 nt) (Wv P fn w0 O0 g) (.out e) [] σ:=by
 intro _ _ a w hs;obtain⟨ρ,hs⟩:=hs;obtain⟨f,h1,i,q⟩:=A1M y.T hs j h;have h1:(fn.results.toList.mapM (KN a.tmps)).run P w=.ok f w:=h1;have x:Below w0.heap.size w0 w:=⟨hs.frm.os,hs.frm.tape,hs.frm.output,hs.frm.size,hs.frm.block⟩;have E:∃v,(results fn a.tmps).run P w=.ok v w/\A1B w0 O0 g v w:=by
  have B:(fn.results.mapM (KN a.tmps)).run P w=.ok f.toArray w:=by
   rw[ACU]
   simp_all
  refine⟨if h:f.toArray.size=1 then f.toArray[0] else .tuple f.toArray,?_,λnm=>⟨λ_=>undef,?_⟩⟩
  .rw[PY];simp only[AC9,B,iN,ACQ]
  have A:Dd nm g=[]:=by
   clear h h1 i q;induction g generalizing nm with
   | nil=>rfl
   | cons r G F =>
    obtain⟨t,d,rfl⟩:=j r sc;simp only[Dd,Wa,ACp];exact F (λr D=>j r (by simp[D])) (nm+10000)
  rw[A];refine⟨x,λ_ _=>rfl,?_,(λ_ _ h=>by cases h),(λ_ _ _ h=>by cases h),(λ_ _ _ _ _ h=>by cases h)⟩;have c:=q nm (vw w O0 (Eg ⟨[],[]⟩ []) (λ_=>undef)) rfl (λb s=>by
   rcases s with h0|⟨n,⟨o,C⟩,_⟩
   .exact h0
   simp[Eg,lk]at C)
  match g,j,f,i,c with
  | [],_,f,i,c =>
   have c:f=[]:=c;subst c;exact(rfl:_=_)
  | [r],j,f,i,c =>
   obtain⟨u,l,rfl,k,m⟩:=c;have m:l=[]:=m;subst m;simp only[Lw];exact A1k k
  | H :: I :: G,j,f,i,c =>
   have:¬f.toArray.size=1:=by simp at i ⊢;omega
   rw[dif_neg this];exact⟨f,rfl,c⟩
 obtain⟨v,c,k⟩:=E;rcases z with rfl|rfl
 .exact⟨hs.defers,v,c,v,rfl,k⟩
 exact⟨hs.defers,v,c,v,rfl,k⟩
end
end
section
open Go Go.RowKit
def Ty.ok:(t:Ty)->t.den->Prop
 | .int k,d=>Kr k d
 | .bool,_=>True
 | .str,d=>ByteArray.size d<=AN
 | .slice e,d=>List.length d<=AN/\∀x∈(d:List e.den),e.ok x
 | .prod a b,d=>a.ok d.1/\b.ok d.2
 | .agg t,d=>t.ok d
 | .ref _,_=>True
theorem IX {w:World} {O:Nat->Prop}:∀ {t:Ty} {cs:List Value} {d:t.den},B5 w O t cs d->t.ok d
 | .int _,_,_,h=>h.2
 | .bool,_,_,_=>trivial
 | .str,_,_,h=>h.2
 | .ref _,_,_,_=>trivial
 | .slice e,_,d,h=>by
  obtain⟨a,c,_,_,f,g⟩:=h;refine⟨f,λx j=>?_⟩;rcases g with g|⟨ad,_,_,k⟩
  .subst g;simp at j
  obtain⟨i,hi,rfl⟩:=aT.1 j;obtain⟨m,_,_,l⟩:=k i _ (AT hi);exact IX l
 | .prod a b,_,_,h=>by
  obtain⟨c1,c2,_,h1,f⟩:=h;exact⟨IX h1,IX f⟩
 | .agg t,cs,d,h=>by
  have h:B5 w O t cs d:=h;exact(IX h:t.ok d)
def oks:(ts:List Ty)->Ku ts->Prop
 | [],_=>True
 | t :: ts,d=>t.ok d.1/\oks ts d.2
theorem uV {w:World} {O:Nat->Prop}:∀ {ts:List Ty} {a:List Value} {ds:Ku ts},UQ w O ts a ds->oks ts ds
 | [],_,_,_=>trivial
 | t :: ts,a,ds,h=>by
  obtain⟨v,r,rfl,⟨cs,h1,_⟩,b⟩:=h;exact⟨IX h1,uV b⟩
section
variable {P:Program} {tb:Tb} {w0:World} {O0:Nat->Prop} {nt:Nat}
theorem A8j {f : FuncId} {fn : Func} {cd : Code} {sp : AZ} (d : P.funcs[f]? = some fn) (j : (fn.name == "runtime.NumGoroutine") = false) (c : fn.body = some cd) (k : fn.ntmps = nt) (m : sp.ins.length <= nt)
  (i:B3 nt cd=true) (hT:DQ P tb) (hF:JQ P tb)
  (h:∀(w0:World) (O0:Nat->Prop) (ds:Ku sp.ins),(cx P tb w0 O0 nt).Ok->oks sp.ins ds->sp.pre ds->Ev (cx P tb w0 O0 nt) (Wv P fn w0 O0 (sp.out ds)) (.run cd) [] ⟨AL 0 sp.ins ds,[]⟩):Aa P f sp:=by
 refine⟨⟨fn,d,j,by simp[c]⟩,λw O p ds e a l=>?_⟩;refine calls_of_wp d c ((wpIn_wide (n:=0)).1 ?_);have o:=UY a;rw[k];exact h w O ds ⟨λb g=>g,e,hT,hF⟩ (uV a) l i rfl _ _ (yP a O1)
theorem LL (O:(cx P tb w0 O0 nt).Ok) {fn:Func} {et:TypeId} {e:Ty} {xs:List e.den} {σ:St} {ex:Exit} (p:ex=.ret\/ex=.normal) {rv:ResultVar} (S:fn.results=#[rv]) (h:KM tb σ rv (.own et e xs)) :
  Ev (cx P tb w0 O0 nt) (Wv P fn w0 O0 [.own et e xs]) (.out ex) [] σ:=by
 intro _ _ a w hs;obtain⟨ρ,hs⟩:=hs;have N:Below w0.heap.size w0 w:=⟨hs.frm.os,hs.frm.tape,hs.frm.output,hs.frm.size,hs.frm.block⟩;unfold KM at h;simp only at h;split at h
 .rename_i n Z hi U;obtain⟨rfl,c,rfl⟩:=h;cases hn:lk n σ.objs with
  | none=>rw[hn]at c;simp[Hz]at c
  | some o =>
   rw[hn]at c;cases o with
   | box f st fs=>simp[Hz]at c
   | mapo k v l=>simp[Hz]at c
   | frame al fs=>simp[Hz]at c
   | loop L=>simp[Hz]at c
   | itr ah ak ai aj af=>simp[Hz]at c
   | dfr=>simp[Hz]at c
   | nest aa ag k d ys A=>simp[Hz]at c
   | arr f d ys =>
    simp only[Hz]at c;split at c
    .rename_i R;subst R;obtain⟨rfl,I⟩:=Bx c;cases I;obtain⟨u,hu,K⟩:=Vh (P:=P) O.T hs U;obtain⟨ab,y⟩:=K;have C:=hs.objs n _ hn;have q:u=ρ n:=by
      obtain⟨W,m,c0,t,_,ad,V,X,rfl,_,h0,_⟩:=y;have t:plc (ρ n)=_:=t;obtain⟨rfl,rfl⟩:=h0 rfl;obtain⟨_,cells,s,_⟩:=C;have s:w.ownsRow 0 f d.size (ρ n) ys.length cells:=s;rw[H8 s]at t;have r:m=ys.length:=by
       rcases s.2 with ⟨p,ae⟩|⟨g,cap,Y,p,_⟩
       .rw[t]at p;injection p;omega
       rw[t]at p;injection p
      rw[t,r,Nat.sub_zero]
     have D:(results fn a.tmps).run P w=.ok u w:=by
      rw[PY,S];have:((#[rv]:Array ResultVar).mapM (KN a.tmps)).run P w=.ok #[u] w:=by
       rw[ACU];simp[hu]
      simp only[AC9,this,iN,ACQ];rfl
     have z:A1B w0 O0 [.own f d ys] u w:=by
      intro nm;have B:∀m,Hm (Eg ⟨[],[]⟩ [(nm,.arr f d ys)]) m↔m=nm:=by
       intro m;simp[Hm,Eg,lk]
      have hk:∀b,¬own O0 σ ρ b->¬own O0 (Eg ⟨[],[]⟩ [(nm,.arr f d ys)]) (Eu (λ_=>undef) nm u) b:=by
       intro b j M;rcases M with h0|⟨m,A,r⟩
       .exact j (.inl h0)
       rw[(B m).1 A,Bt,q]at r;exact j (.inr ⟨n,⟨_,hn⟩,r⟩)
      have J:Dd nm [RV.own f d ys]=[(nm,.arr f d ys)]:=rfl;rw[J];refine⟨Eu (λ_=>undef) nm u,QS.one (loc:=u) N (λb j=>?_) ?_ ?_⟩
      .rw[q]at j;have:=(hs.free n b ⟨_,hn⟩ j).1;simp only[cx]at this;omega
      .refine⟨(B nm).2 rfl,?_⟩;show DP (plc (Eu (λ_=>undef) nm u nm)) _ _ _ u;rw[Bt,q];rw[q]at y;exact y
      rw[q];obtain⟨r,cells,s,Q⟩:=C;refine⟨r,cells,s,λi x hi=>?_⟩;obtain⟨E,F,G,H⟩:=Q i x hi;rw[q]at hk;exact⟨E,F,G,H.mono (λb _ j=>hk b j) (λ_ _ _=>rfl)⟩
     rcases p with rfl|rfl
     .exact⟨hs.defers,u,D,u,rfl,z⟩
     exact⟨hs.defers,u,D,u,rfl,z⟩
    cases c
 exact h.elim
end
end
section
open Go Go.RowKit
section
variable {P:Program} {tb:Tb} {w0:World} {O0:Nat->Prop} {nt:Nat} {R:Exit->Act->World->Prop} {k:List Dg} {σ σ':St}
theorem uW:(cx P tb w0 O0 nt).tb=tb:=rfl
theorem pH {c:Cx} (a:c.Ok) {id:Nat} {l:List Oper} {vc:Prop} (h:CC c.tb l l σ=some (vc,σ')) (b:vc) (hk:Ev c R (.out .normal) k σ') :
  Ev c R (.run (.region id l.toArray false)) k σ:=yO a (by
 show EvR _ _ _ (CC c.tb l l σ);rw[h];exact⟨b,hk⟩)
theorem Ww {c:Cx} {o:Operand} {x y:Code} {b:Bool} (h:Am σ o=some (.p .bool b)) (a:b=true->Ev c R (.run x) k σ) (hf:b=false->Ev c R (.run y) k σ):Ev c R (.run (.cond o x y)) k σ :=
 A6o (by rw[h];exact⟨a,hf⟩)
theorem pI {c:Cx} {id:Nat} (h:Ev c R (.out .normal) k σ):Ev c R (.out (.exit id)) (.blk id :: k) σ:=UX (by rw[BY rfl];exact h)
theorem pJ {c:Cx} {id a:Nat} (b:a≠id) (h:Ev c R (.out (.exit a)) k σ):Ev c R (.out (.exit a)) (.blk id :: k) σ:=UX (by rw[At b];exact h)
end
inductive CB where
 | nm (n:Nat)
 | nil
def Ep (ren:List (Nat×CB)):AV->AV->Prop
 | .p t d,.p u a=>Ba u ⟨t,d⟩=some a
 | .raw (.slice none 0 0),.p (.slice e) a=>(a:List e.den)=[]
 | .raw v,.raw u=>v=u
 | .raw (.slice none 0 0),.sr m _ lo hi=>lk m ren=some .nil/\lo=0/\hi=0
 | .sr n e lo hi,.sr m b h c=>lk m ren=some (.nm n)/\e=b/\lo=h/\hi=c
 | .ip t d,.ip u a=>Ba u ⟨t,d⟩=some a
 | .bp n p o,.bp m k j=>lk m ren=some (.nm n)/\p=k/\o=j
 | .fn f,.fn g=>f=g
 | .clo f ns,.clo g i=>f=g/\i.map (λm=>lk m ren)=ns.map λn=>some (.nm n)
 | .mp n,.mp m=>lk m ren=some (.nm n)
 | .yl n,.yl m=>lk m ren=some (.nm n)
 | _,.top=>True
 | _,_=>False
def GU (ren:List (Nat×CB)):List AV->List AV->Prop
 | [],[]=>True
 | x :: l,y :: r=>(x.cells=y.cells/\Ep ren x y)/\GU ren l r
 | _,_=>False
def Jv (ren:List (Nat×CB)):AV->AV->Prop
 | .ag l,.ag r=>GU ren l r
 | x,y=>Ep ren x y
def LM (ren:List (Nat×CB)):List AV->List AV->Prop
 | [],[]=>True
 | x :: l,y :: r=>Jv ren x y/\LM ren l r
 | _,_=>False
def B9 (ren:List (Nat×CB)):AV->AV->Prop
 | .tup l,.tup r=>LM ren l r
 | x,y=>Jv ren x y
def Mr (ren:List (Nat×CB)):Option AV->AV->Prop
 | some x,y=>B9 ren x y
 | none,.top=>True
 | none,_=>False
def GV (env:List (Nat×AV)) (ren:List (Nat×CB)):List (Nat×AV)->Prop
 | []=>True
 | (s,y) :: r=>Mr ren (lk s env) y/\GV env ren r
def Jw (ren:List (Nat×CB)):Option Obj->Obj->Prop
 | some (.arr et e xs),.arr a c ys=>et=a/\Ba (.slice c) ⟨.slice e,xs⟩=some ys
 | some (.box et st fs),.box a q d=>et=a/\st=q/\GU ren fs d
 | some (.nest et n k e xs h),.nest a o b c ys m=>(et=a/\n=o/\h=m)/\Ba (.slice (.prod b (.slice c))) ⟨.slice (.prod k (.slice e)),xs⟩=some ys
 | some (.mapo k v l),.mapo b f l'=>Ba (.slice (.prod b f)) ⟨.slice (.prod k v),l⟩=some l'
 | some (.frame r fs),.frame s d=>r=s/\GV fs ren d
 | some (.itr k v l lf i),.itr b f l' p j=>Ba (.slice (.prod b f)) ⟨.slice (.prod k v),l⟩=some l'/\lf=p/\i=j
 | some (.loop L),.loop g=>L=g
 | some .dfr,.dfr=>True
 | _,_=>False
def Hq (objs:List (Nat×Obj)) (ren:List (Nat×CB)) (o:Obj):Option CB->Prop
 | some (.nm n)=>Jw ren (lk n objs) o
 | some .nil=>match o with
  | .arr _ e ys=>(ys:List e.den)=[]
  | .box _ _ _=>False
  | .nest _ _ k e ys _=>(ys:List (k.den×List e.den))=[]
  | .mapo _ _ _=>False
  | .frame _ _=>False
  | .itr _ _ _ _ _=>False
  | .loop _=>False
  | .dfr=>False
 | none=>False
def Ai (objs:List (Nat×Obj)) (ren:List (Nat×CB)):List (Nat×Obj)->Prop
 | []=>True
 | (m,o) :: r=>Hq objs ren o (lk m ren)/\Ai objs ren r
def CM:List (Nat×CB)->Bool
 | []=>true
 | (_,.nm n) :: r=>(r.all λp=>match p.2 with|.nm a=>a != n|.nil=>true)&&CM r
 | (_,.nil) :: r=>CM r
def Ms {α:Type}:List (Nat×α)->Bool
 | []=>true
 | (n,_) :: r=>(r.all λp=>p.1 != n)&&Ms r
section
variable {ren:List (Nat×CB)} {V V':Vw}
structure Mt (ren:List (Nat×CB)) (V V':Vw):Prop where
 w:V'.w=V.w
 O:∀b,¬V.O b->¬V'.O b
 ρ:∀m n,lk m ren=some (.nm n)->V'.ρ m=V.ρ n
 nil:∀m,lk m ren=some .nil->V'.ρ m=.slice none 0 0
 L:∀m f,lk m ren=some f->V'.L m
theorem Mt.vrep (h:Mt ren V V') {t:Ty} {v:Value} {d:t.den} (c:Bp V.w V.O t v d):Bp V'.w V'.O t v d :=
 Bp.mono (λb _ a=>h.O b a) (λb _ _=>by rw[h.w]) c
theorem Mt.rep (h:Mt ren V V') {t:Ty} {cs:List Value} {d:t.den} (c:B5 V.w V.O t cs d):B5 V'.w V'.O t cs d :=
 c.mono (λb _ a=>h.O b a) (λb _ _=>by rw[h.w])
theorem Mt.map (h:Mt ren V V'):∀ {b ns:List Nat},b.map (λm=>lk m ren)=ns.map (λn=>some (CB.nm n))->b.map V'.ρ=ns.map V.ρ/\∀m∈b,∃n∈ns,lk m ren=some (.nm n)
 | [],[],_=>⟨rfl,λ_ h=>by cases h⟩
 | [],_ :: _,a=>by simp at a
 | _ :: _,[],a=>by simp at a
 | m :: b,n :: ns,a=>by
  simp only[SK,ACJ]at a;obtain⟨h1,c⟩:=h.map a.2;refine⟨by simp only[SK,h1,h.ρ _ _ a.1],λx d=>?_⟩;grind
theorem Zy (h:Mt ren V V') {x y:AV} {v:Value} (b:Ep ren x y) (c:Wf V x v):Wf V' y v/\(∀t d,y=.p t d->(∀u g,x≠.p u g)->v.oneCell'=true->B5 V'.w V'.O t [v] d):=by
 unfold Ep at b;split at b
 .have:=BL b;injection this with h1 f
  subst h1;cases f;exact⟨h.vrep c,λ_ _ _ z=>absurd rfl (z _ _)⟩
 .have c:v=_:=c;subst c;have i:=b;have k:∀(O:Nat->Prop) (e:Ty),B5 V'.w O (.slice e) [.slice none 0 0] ([]:List e.den):=λO e=>⟨none,0,rfl,by simp,by simp[AN],.inl rfl⟩;rename_i e g;have i:g=([]:List e.den):=i;subst i;refine⟨⟨_,k _ _,rfl⟩,λt d a _ _=>?_⟩;grind
 .subst b;exact⟨c,λt d a=>by cases a⟩
 .rename_i m e lo hi;obtain⟨h1,rfl,rfl⟩:=b;have c:v=_:=c;subst c;refine⟨⟨h.L _ _ h1,?_⟩,λt d a=>by cases a⟩;rw[h.nil _ h1];exact⟨none,0,0,rfl,by omega,by omega,none,0,rfl,by omega,λ_=>⟨rfl,rfl⟩,λh=>by omega⟩
 .obtain⟨h1,rfl,rfl,rfl⟩:=b;refine⟨⟨h.L _ _ h1,?_⟩,λt d a=>by cases a⟩;rw[h.ρ _ _ h1];exact c.2
 .have:=BL b;injection this with h1 f
  subst h1;cases f;obtain⟨ad,cs,a,o,q,k⟩:=c;exact⟨⟨ad,cs,a,h.O _ o,λj u r=>by rw[h.w];exact q j u r,h.rep k⟩,λt d a=>by cases a⟩
 .obtain⟨h1,rfl,rfl⟩:=b;refine⟨⟨h.L _ _ h1,?_⟩,λt d a=>by cases a⟩;rw[h.ρ _ _ h1];exact c.2
 .subst b;exact⟨c,λt d a=>by cases a⟩
 .obtain⟨rfl,s⟩:=b;obtain⟨h1,f⟩:=h.map s;refine⟨⟨?_,λm b=>?_⟩,λt d a=>by cases a⟩
  .rw[h1];exact c.1
  obtain⟨n,hn,l⟩:=f m b;refine⟨h.L _ _ l,?_⟩;rw[h.ρ _ _ l];exact(c.2 n hn).2
 .refine⟨⟨h.L _ _ b,?_⟩,λt d a=>by cases a⟩;rw[h.ρ _ _ b];exact c.2
 .refine⟨⟨h.L _ _ b,?_⟩,λt d a=>by cases a⟩;rw[h.ρ _ _ b];exact c.2
 .exact⟨trivial,λt d a=>by cases a⟩
 exact b.elim
theorem yQ (h:Mt ren V V') {x y:AV} {cs:List Value} (g:x.cells=y.cells) (b:Ep ren x y) (a:Oh V x cs):Oh V' y cs:=by
 by_cases f:∃t d,x=.p t d
 .obtain⟨t,d,rfl⟩:=f;have a:B5 V.w V.O t cs d:=a;cases y<;>simp only[Ep]at b<;>try exact b.elim
  .have:=BL b;injection this with h1 c
   subst h1;cases c;exact h.rep a
  have i:=a.length;simp only[AV.cells]at g;rw[g]at i;obtain⟨v,rfl⟩:=ACi.1 i;exact⟨v,rfl,a.one v sc,trivial⟩
 have m:∃v,cs=[v]/\v.oneCell'=true/\Wf V x v:=by
  cases x;case p t d=>exact absurd ⟨t,d,rfl⟩ f
  all_goals exact a
 obtain⟨v,rfl,h1,c⟩:=m;obtain⟨k,l⟩:=Zy h b c;cases y;case p t d=>exact l t d rfl (λu j e=>f ⟨u,j,e⟩) h1
 all_goals exact⟨v,rfl,h1,k⟩
theorem PZ (h:Mt ren V V'):∀ {l r:List AV} {cs:List Value},GU ren l r->Dw V l cs->Dw V' r cs
 | [],[],cs,_,b=>b
 | [],_ :: _,cs,a,_=>a.elim
 | _ :: _,[],cs,a,_=>a.elim
 | x :: l,y :: r,cs,a,b=>by
  obtain⟨c1,c2,rfl,h1,c⟩:=b;exact⟨c1,c2,rfl,yQ h a.1.1 a.1.2 h1,PZ h a.2 c⟩
theorem L2:∀ {l r:List AV},GU ren l r->l.length=r.length
 | [],[],_=>rfl
 | [],_ :: _,a=>a.elim
 | _ :: _,[],a=>a.elim
 | _ :: _,_ :: _,a=>by simp[L2 a.2]
theorem Zz (h:Mt ren V V') {x y:AV} {v:Value} (a:Jv ren x y) (b:UK V x v):UK V' y v:=by
 cases x;case ag l =>
  cases y;case ag r =>
   obtain⟨cs,e,h1⟩:=b;exact⟨cs,e,PZ h a h1⟩
  all_goals simp only[Jv,Ep]at a
  all_goals first|exact a.elim|exact trivial
 all_goals
  simp only[UK]at b;have a:Ep ren _ y:=a;exact UK.of1 (Zy h a b).1
theorem jQ (h:Mt ren V V'):∀ {l r:List AV} {b:List Value},LM ren l r->KK V l b->KK V' r b
 | [],[],b,_,c=>c
 | [],_ :: _,b,a,_=>a.elim
 | _ :: _,[],b,a,_=>a.elim
 | x :: l,y :: r,b,a,c=>by
  obtain⟨v,e,rfl,h1,d⟩:=c;exact⟨v,e,rfl,Zz h a.1 h1,jQ h a.2 d⟩
theorem OA (h:Mt ren V V') {x y:AV} {v:Value} (a:B9 ren x y) (b:CE V x v):CE V' y v:=by
 cases x;case tup l =>
  cases y;case tup r =>
   obtain⟨c,e,h1⟩:=b;exact⟨c,e,jQ h a h1⟩
  all_goals simp only[B9,Jv,Ep]at a
  all_goals first|exact a.elim|exact trivial
 all_goals
  simp only[B9]at a;exact A1k (Zz h a b)
theorem DX {objs:List (Nat×Obj)} {m:Nat} {o:Obj}:∀ {l:List (Nat×Obj)},Ai objs ren l->lk m l=some o->Hq objs ren o (lk m ren)
 | (j,x) :: l,h,a=>by
  simp only[lk]at a;split at a
  .rename_i e;cases a;subst e;exact h.1
  exact DX h.2 a
theorem Mu {env:List (Nat×AV)} {s:Nat} {y:AV}:∀ {l:List (Nat×AV)},GV env ren l->lk s l=some y->Mr ren (lk s env) y
 | (j,x) :: l,h,a=>by
  simp only[lk]at a;split at a
  .rename_i e;cases a;subst e;exact h.1
  exact Mu h.2 a
theorem Vi:∀ {l:List (Nat×CB)} {m c n:Nat},CM l=true->lk m l=some (.nm n)->lk c l=some (.nm n)->m=c
 | (j,f) :: l,m,c,n,a,h1,b=>by
  simp only[lk]at h1 b;have e:CM l=true:=by
   cases f<;>simp only[CM,As]at a
   .exact a.2
   exact a
  have g:∀q,f=.nm n->lk q l=some (.nm n)->False:=by
   intro q hf d;subst hf;simp only[CM,As,No]at a;have:=a.1 _ (GS d);simp at this
  split at h1
  .grind
  split at b
  .grind
  exact Vi e h1 b
def AAO (n:Nat):Option CB->Bool
 | some (.nm m)=>m==n
 | _=>false
def A8Y (pin:List (Nat×Value)) (ren:List (Nat×CB)):Bool:=pin.all λp=>AAO p.1 (lk p.1 ren)
theorem Se {V V':Vw} (a:Mt ren V V') {P:List (Nat×Obj)} (ag:∀n x,lk n P=some x->BD V x (V.ρ n)) {o:Obj} {m:Nat} (hf:Hq P ren o (lk m ren)):BD V' o (V'.ρ m):=by
 cases J:lk m ren with
 | none=>rw[J]at hf;exact hf.elim
 | some f =>
  rw[J]at hf;cases f with
  | nil =>
   rw[a.nil m J];cases o with
   | box et st fs=>exact hf.elim
   | mapo k v l=>exact hf.elim
   | frame t fs=>exact hf.elim
   | loop L=>exact hf.elim
   | itr B E C D A=>exact hf.elim
   | dfr=>exact hf.elim
   | nest et aj k e ys H =>
    have hf:ys=([]:List (k.den×List e.den)):=hf;subst hf;exact⟨_,[],[],.inr ⟨rfl,rfl,rfl⟩,by simp[AN],rfl,ACY _ 0 et _,λi x u h=>by simp at h,λi j b u v h=>by simp at h,λi b u h=>by simp at h⟩
   | arr et e ys =>
    have hf:ys=([]:List e.den):=hf;subst hf;exact⟨by simp[AN],[],ACY _ 0 et e.size,IM _ _ _ _⟩
  | nm n =>
   rw[a.ρ m n J];simp only[Hq]at hf;cases hn:lk n P with
   | none=>rw[hn]at hf;simp only[Jw]at hf
   | some x =>
    rw[hn]at hf;have q:=ag n x hn;cases x with
    | arr et e xs =>
     cases o with
     | box c st fs=>exact hf.elim
     | mapo k v l=>exact hf.elim
     | frame t fs=>exact hf.elim
     | loop L=>exact hf.elim
     | itr B E C D A=>exact hf.elim
     | dfr=>exact hf.elim
     | nest _ _ _ _ _ _=>exact hf.elim
     | arr c p ys =>
      obtain⟨rfl,g⟩:=hf;obtain⟨rfl,d⟩:=Bx g;cases d;obtain⟨ae,cells,af,ab⟩:=q;refine⟨ae,cells,by rw[a.w];exact af,λi z hi=>?_⟩;obtain⟨K,S,T,U⟩:=ab i z hi;exact⟨K,S,T,a.rep U⟩
    | box et st fs =>
     cases o with
     | arr c p ys=>exact hf.elim
     | mapo k v l=>exact hf.elim
     | frame t fs=>exact hf.elim
     | loop L=>exact hf.elim
     | itr B E C D A=>exact hf.elim
     | dfr=>exact hf.elim
     | nest _ _ _ _ _ _=>exact hf.elim
     | box c av W =>
      obtain⟨rfl,rfl,G⟩:=hf;obtain⟨h0,b,cs,F,hh,aa⟩:=q;exact⟨λah=>by rw[<-L2 G];exact h0 ah,b,cs,F,by rw[a.w];exact hh,PZ a G aa⟩
    | nest et aj k e xs h =>
     cases o with
     | nest c ar Q p ys aq =>
      obtain⟨⟨rfl,rfl,rfl⟩,g⟩:=hf;have g:=BL g;injection g with h1 y
      injection h1 with h1
      injection h1 with h1 d
      injection d with d
      subst h1;subst d;cases y;exact yE a.w a.O q
     | mapo k v l=>exact hf.elim
     | box c st fs=>exact hf.elim
     | arr c p ys=>exact hf.elim
     | frame t fs=>exact hf.elim
     | loop L=>exact hf.elim
     | itr B E C D A=>exact hf.elim
     | dfr=>exact hf.elim
    | mapo k v l =>
     cases o with
     | mapo Q an l' =>
      have g:=BL hf;injection g with h1 y
      injection h1 with h1
      injection h1 with h1 d
      subst h1;subst d;cases y;obtain⟨b,K,cl,F,hh,ad,Z⟩:=q;exact⟨b,K,cl,F,by rw[a.w];exact hh,ad.mono (λb _ M=>a.O b M) (λb _ _=>by rw[a.w]),Z⟩
     | box c st fs=>exact hf.elim
     | arr c p ys=>exact hf.elim
     | frame t fs=>exact hf.elim
     | loop L=>exact hf.elim
     | itr B E C D A=>exact hf.elim
     | dfr=>exact hf.elim
     | nest _ _ _ _ _ _=>exact hf.elim
    | frame t fs =>
     cases o with
     | frame aw W =>
      obtain⟨rfl,G⟩:=hf;obtain⟨h0,h1⟩:=q;refine⟨h0,λs v ai=>?_⟩;have I:=Mu G ai;cases N:lk s fs with
      | none =>
       rw[N]at I;cases v<;>simp only[Mr]at I;exact trivial
      | some x =>
       rw[N]at I;exact OA a I (h1 s x N)
     | mapo k v l=>exact hf.elim
     | box c st fs=>exact hf.elim
     | arr c p ys=>exact hf.elim
     | loop L=>exact hf.elim
     | itr B E C D A=>exact hf.elim
     | dfr=>exact hf.elim
     | nest _ _ _ _ _ _=>exact hf.elim
    | itr k v l lf ao =>
     cases o with
     | itr Q an l' au ap =>
      obtain⟨hf,rfl,rfl⟩:=hf;have g:=BL hf;injection g with h1 y
      injection h1 with h1
      injection h1 with h1 d
      subst h1;subst d;cases y;obtain⟨r,F,b,ak,cl,am,al,h1,y,d,X,Y⟩:=q;exact⟨r,F,b,ak,cl,am,al,by rw[a.w];exact h1,a.O b y,by rw[a.w];exact d,X.mono (λb _ M=>a.O b M) (λb _ _=>by rw[a.w]),Y⟩
     | mapo k v l=>exact hf.elim
     | box c st fs=>exact hf.elim
     | arr c p ys=>exact hf.elim
     | frame t fs=>exact hf.elim
     | loop L=>exact hf.elim
     | dfr=>exact hf.elim
     | nest _ _ _ _ _ _=>exact hf.elim
    | loop L =>
     cases o with
     | loop R =>
      have hf:L=R:=hf;subst hf;obtain⟨b,H,hh⟩:=q;exact⟨b,H,by rw[a.w];exact hh⟩
     | itr B E C D A=>exact hf.elim
     | mapo k v l=>exact hf.elim
     | box c st fs=>exact hf.elim
     | arr c p ys=>exact hf.elim
     | frame t fs=>exact hf.elim
     | dfr=>exact hf.elim
     | nest _ _ _ _ _ _=>exact hf.elim
    | dfr =>
     cases o with
     | dfr =>
      obtain⟨b,H,hh⟩:=q;exact⟨b,H,by rw[a.w];exact hh⟩
     | nest _ _ _ _ _ _=>exact hf.elim
     | mapo k v l=>exact hf.elim
     | box c st fs=>exact hf.elim
     | arr c p ys=>exact hf.elim
     | frame t fs=>exact hf.elim
     | loop L=>exact hf.elim
     | itr B E C D A=>exact hf.elim
def Cc (objs:List (Nat×Obj)) (ren:List (Nat×CB)):Bool:=ren.all λp=>(lk p.1 objs).isSome
theorem AC {c:Cx} {σ σ':St} (ren:List (Nat×CB)) (h1:CM ren=true) (r:Cc σ'.objs ren=true) (z:Ai σ.objs ren σ'.objs) (G:GV σ.env ren σ'.env) (A:A8Y c.ds.pin ren=true:=by rfl):Ent c σ σ':=by
 rintro a w ⟨ρ,hs⟩
 let ρ':Nat->Value:=λm=>match lk m ren with|some (.nm n)=>ρ n|_=>.slice none 0 0
 have y:∀m n,lk m ren=some (.nm n)->ρ' m=ρ n:=λm n d=>by simp[ρ',d]
 have u:∀m,lk m ren=some .nil->ρ' m=.slice none 0 0:=λm d=>by simp[ρ',d]
 have E:∀m f,lk m ren=some f->Hm σ' m:=λm f d=>by
  simp only[Cc,No]at r;have:=r _ (GS d);exact ACC.1 this
 have j:∀m b,Hm σ' m->bk (ρ' m) b->∃n,lk m ren=some (.nm n)/\Hm σ n/\bk (ρ n) b:=by
  rintro m b ⟨o,d⟩ e;have hf:=DX z d;cases i:lk m ren with
  | none=>rw[i]at hf;exact hf.elim
  | some f =>
   cases f with
   | nil=>rw[u m i]at e;simp[bk,blk]at e
   | nm n =>
    rw[i]at hf;rw[y m n i]at e;refine⟨n,rfl,?_,e⟩;cases hn:lk n σ.objs with
    | none=>simp only[Hq,hn,Jw]at hf
    | some x=>exact⟨x,hn⟩
 have t:Mt ren (vw w c.O0 σ ρ) (vw w c.O0 σ' ρ'):=by
  refine⟨rfl,λb e k=>?_,y,u,E⟩;rcases k with h0|⟨m,h,d⟩
  .exact e (.inl h0)
  obtain⟨n,_,hn,g⟩:=j m b h d;exact e (.inr ⟨n,hn,g⟩)
 refine⟨ρ',hs.frm,hs.nt,hs.defers,λp B=>?_,λm o d=>?_,λm b h e=>?_,λm K b h H e k=>?_,λs v J=>?_⟩
 .obtain⟨M,N,O⟩:=hs.pin p B;simp only[A8Y,No]at A;have l:=A p B;unfold AAO at l;split at l
  .grind
  cases l
 .exact Se t hs.objs (DX z d)
 .obtain⟨n,_,hn,g⟩:=j m b h e;exact hs.free n b hn g
 .obtain⟨n,C,hn,g⟩:=j m b h e;obtain⟨L,D,I,F⟩:=j K b H k;have:=hs.dist n L b hn I g F;subst this;exact Vi h1 C D
 have d:=Mu G J;cases q:lk s σ.env with
 | none =>
  rw[q]at d;cases v<;>simp only[Mr]at d;exact trivial
 | some x =>
  rw[q]at d;exact OA t d (hs.env s x q)
end
end
section
open Go
theorem JT (b:Bool):SX true (some (.p .bool b))=some b:=by cases b<;>rfl
theorem IB (b:Bool):SX false (some (.p .bool b))=some (!b):=by cases b<;>rfl
theorem Qg:IntKind.i64.min=-9223372036854775808:=by decide
theorem Qh:IntKind.i64.max=9223372036854775807:=by decide
theorem Qi:IntKind.u64.min=0:=by decide
theorem Qj:IntKind.u64.max=18446744073709551615:=by decide
theorem Wx:IntKind.u8.min=0:=by decide
theorem Wy:IntKind.u8.max=255:=by decide
theorem Qk (n:Int):Kr .i64 n↔-9223372036854775808<=n/\n<=9223372036854775807:=by unfold Kr;rw[Qg,Qh]
theorem LN (n:Int):Kr .u64 n↔0<=n/\n<=18446744073709551615:=by unfold Kr;rw[Qi,Qj]
theorem eI (n:Int):Kr .u8 n↔0<=n/\n<=255:=by unfold Kr;rw[Wx,Wy]
theorem Vj {α:Type} (x:α):sub [x] 0 1=[x]:=rfl
theorem KO {α:Type} (xs:List α) (n:Nat):sub xs 0 n=xs.take n:=by simp[sub]
theorem A6r (n:Nat):((n:Int)).toNat=n:=R3 n
theorem IC (n:Nat):(0<=(n:Int))=True:=eq_true (Tw n)
end
section
open Go Go.RowKit
section
variable {tb:Tb} {σ σ':St}
def iU (σ σ':St):Prop:=∀n o,lk n σ.objs=some o->lk n σ'.objs=some o
theorem A1O (h:iU σ σ') {e:Ty} {lo hi n:Nat} {d:List e.den} (hs:SU e lo hi (lk n σ.objs)=some d):SU e lo hi (lk n σ'.objs)=some d:=by
 cases hn:lk n σ.objs with
 | none=>rw[hn]at hs;simp[SU]at hs
 | some o=>rw[h n o hn,<-hn];exact hs
theorem yR (h:iU σ σ') {e:Ty} {i n:Nat} {d:List e.den} (hs:VL e i (lk n σ.objs)=some d):VL e i (lk n σ'.objs)=some d:=by
 cases hn:lk n σ.objs with
 | none=>rw[hn]at hs;simp[VL]at hs
 | some o=>rw[h n o hn,<-hn];exact hs
theorem KP (h:iU σ σ') {l:Bool} {t:Ty} {x:AV} {d:t.den} (hs:Ex l σ t x=some d):Ex l σ' t x=some d:=by
 unfold Ex at hs ⊢;split at hs
 .exact hs
 .grind [A1O]
 .grind [yR]
 .exact hs
 cases hs
theorem Z0 (h:iU σ σ') {l:Bool}:∀ {fs:List AV} {t:Ty} {d:t.den},MP l σ fs t=some d->MP l σ' fs t=some d
 | [],t,d,hs=>by simp[MP]at hs
 | [x],t,d,hs=>by grind [MP,KP]
 | x :: y :: r,t,d,hs=>by
  cases t<;>simp only[MP]at hs ⊢<;>try(cases hs;done)
  rename_i a b;cases h1:Ex l σ a x with
  | none=>rw[h1]at hs;simp[Oo]at hs
  | some e =>
   cases c:MP l σ (y :: r) b with
   | none=>rw[h1,c]at hs;simp[Oo]at hs
   | some f =>
    rw[KP h h1,Z0 h c];rw[h1,c]at hs;exact hs
theorem Fb (h:iU σ σ') {l:Bool} {t:Ty} {x:AV} {d:t.den} (hs:MQ l σ t x=some d):MQ l σ' t x=some d:=by
 unfold MQ at hs ⊢;split at hs
 .exact Z0 h hs
 exact KP h hs
def Ops (σ σ':St) (xs:List Operand):Prop:=∀x∈xs,∀v,Am σ x=some v->Am σ' x=some v
theorem Mv (h:iU σ σ') {e:Ty} {x:AV} {d:List e.den} (hs:ST σ e x=some d):ST σ' e x=some d:=by
 unfold ST at hs ⊢;split at hs
 .rename_i n a lo hi;cases hn:lk n σ.objs with
  | none =>
   rw[hn]at hs;have hs:Ex true σ (.slice e) (.sr n a lo hi)=some d:=by simpa[DM,MQ] using hs
   simp only[Ex,hn]at hs;split at hs<;>simp[SU]at hs
  | some o =>
   rw[h n o hn];rw[hn]at hs;split at hs
   .cases hs
   grind [Fb]
 exact Fb h hs
theorem Wz (h:iU σ σ') {l:Bool}:∀ {ts:List Ty} {xs:List Operand} {ds:Ku ts},Ops σ σ' xs->HT l σ ts xs=some ds->HT l σ' ts xs=some ds
 | [],[],ds,_,hs=>hs
 | [],_ :: _,ds,_,hs=>by simp[HT]at hs
 | _ :: _,[],ds,_,hs=>by simp[HT]at hs
 | t :: ts,x :: xs,ds,b,hs=>by
  simp only[HT]at hs ⊢;cases a:Am σ x with
  | none=>rw[a]at hs;cases hs
  | some v =>
   rw[b x sc v a];rw[a]at hs;simp only at hs ⊢;split at hs
   .rename_i y ys c d;rw[Fb h c,Wz h (λz e=>b z (by simp[e])) d];exact hs
   cases hs
theorem UZ (h:iU σ σ') {e:Ty}:∀ {parts:List (Nat×Operand)} {k:Nat} {xs:List e.den},Ops σ σ' (parts.map (·.2))->Ft σ e k parts=some xs->Ft σ' e k parts=some xs
 | [],k,xs,_,hs=>hs
 | (i,x) :: r,k,xs,b,hs=>by
  simp only[Ft]at hs ⊢;split at hs
  .rename_i d;rw[BY d];cases a:Am σ x with
   | none=>rw[a]at hs;cases hs
   | some v =>
    rw[b x sc v a];rw[a]at hs;simp only at hs ⊢;split at hs
    .rename_i y ys f g;rw[Fb h f,UZ h (λz c=>b z (by simp at c ⊢;exact .inr c)) g];exact hs
    cases hs
  cases hs
theorem jR (h:iU σ σ') {z:Option AV} {x:Operand} {v:AV} (d:∀v,Am σ x=some v->Am σ' x=some v) (hs:G2 σ z (Am σ x)=some v):G2 σ' z (Am σ' x)=some v:=by
 cases b:Am σ x with
 | none=>rw[b]at hs;unfold G2 at hs;split at hs<;>simp at *
 | some a =>
  rw[d a b];rw[b]at hs;unfold G2 at hs ⊢;split at hs
  .rename_i t _ l c;cases c;simp only[OS]at hs ⊢;grind [Fb]
  exact hs
theorem Ql (h:iU σ σ') {offs:List (Nat×Nat)}:∀ {parts:List (Nat×Operand)} {fs a:List AV},Ops σ σ' (parts.map (·.2))->El σ offs fs parts=some a->El σ' offs fs parts=some a
 | [],fs,a,_,hs=>hs
 | (i,x) :: r,fs,a,c,hs=>by
  simp only[El]at hs ⊢;cases b:G2 σ fs[i]? (Am σ x) with
  | none=>rw[b]at hs;cases hs
  | some v =>
   rw[jR h (c x sc) b];rw[b]at hs;simp only at hs ⊢;split at hs
   .rename_i e;rw[BY e];exact Ql h (λz d=>c z (by simp at d ⊢;exact .inr d)) hs
   cases hs
theorem W8:∀ {xs:List Operand} {ns:List Nat},Ops σ σ' xs->JO σ xs=some ns->JO σ' xs=some ns
 | [],ns,_,hs=>hs
 | x :: r,ns,a,hs=>by
  simp only[JO]at hs ⊢;split at hs
  .rename_i n d h1 b;rw[a x sc _ h1,W8 (λz c=>a z (by simp[c])) b];exact hs
  cases hs
theorem Vk (h:iU σ σ') {d:Nat} {op:Op} {r:Prop×AV×List (Nat×Obj)} (A:Ops σ σ' op.operands.toList) (hs:aq tb σ d op=some r):aq tb σ' d op=some r:=by
 have one:∀ {x:Operand} {f:Option AV->Bh},x∈op.operands.toList->f none=none->f (Am σ x)=some r->f (Am σ' x)=some r:=by
  intro x f j hn hf;cases B:Am σ x with
  | none=>rw[B,hn]at hf;cases hf
  | some v=>rw[A x j v B,<-B];exact hf
 have N:∀ {x y:Operand} {f:Option AV->Option AV->Bh},x∈op.operands.toList->y∈op.operands.toList->(∀b,f none b=none)->(∀a,f a none=none)->f (Am σ x) (Am σ y)=some r->f (Am σ' x) (Am σ' y)=some r:=by
  intro x y f j E h1 I hf;cases B:Am σ x with
  | none=>rw[B,h1]at hf;cases hf
  | some v =>
   cases L:Am σ y with
   | none=>rw[L,I]at hf;cases hf
   | some w=>rw[A x j v B,A y E w L,<-B,<-L];exact hf
 cases op<;>simp only[aq]at hs ⊢<;>try(cases hs;done)
 case move x=>exact one (f:=Hp) (by simp[Op.operands]) rfl hs
 case assign x=>exact one (f:=Hp) (by simp[Op.operands]) rfl hs
 case pick c x y =>
  cases H:Am σ c with
  | none=>rw[H]at hs;simp[MW]at hs
  | some ae =>
   have af:=A c (by simp[Op.operands]) ae H;rw[H]at hs;rw[af];unfold MW at hs ⊢;split at hs
   .rename_i F;cases F;exact one (f:=Hp) (by simp[Op.operands]) rfl hs
   .rename_i F;cases F;exact one (f:=Hp) (by simp[Op.operands]) rfl hs
   cases hs
 case alloc t=>exact hs
 case box t x=>exact one (f:=Wb d t (lk t tb.ty)) (by simp[Op.operands]) (by cases lk t tb.ty<;>simp[Wb]) hs
 case build t parts =>
  unfold Kw at hs ⊢;split at hs
  .rename_i u offs el b F;cases G:El σ offs (zfs u) parts.toList with
   | none=>rw[G]at hs;simp[Hp]at hs
   | some fs =>
    rw[Ql h (by simpa[Op.operands] using A) G];rw[G]at hs;exact hs
  cases hs
 case buildSlice t n parts =>
  cases X:lk d tb.nests with
  | some ar =>
   rw[X]at hs;simp only[H6]at hs ⊢;unfold Ky at hs ⊢;split at hs
   .rename_i x aw offs el b G F;cases j:Am σ x with
    | none=>rw[j]at hs;unfold Kx at hs;split at hs<;>first|(cases hs;done)|(rename_i I;cases I)
    | some av =>
     rw[A x (by simp[Op.operands,G]) av j];rw[j]at hs;unfold Kx at hs ⊢;split at hs
     .rename_i k e az ba ap;unfold MY at hs;split at hs
      .rename_i ab T;rw[KP h T];exact hs
      .rename_i ab ao l T;split at hs
       .rename_i V;rw[KP h T];simp only[MY,V,AAt];exact hs
       cases hs
      cases hs
     cases hs
   cases hs
  | none =>
  rw[X]at hs;simp only[H6]at hs ⊢;unfold B6 at hs ⊢;split at hs
  .rename_i e offs el b F;cases G:Ft σ e 0 parts.toList with
   | none=>rw[G]at hs;simp[CD]at hs
   | some xs =>
    rw[UZ h (by simpa[Op.operands] using A) G];rw[G]at hs;exact hs
  cases hs
 case load t x =>
  cases j:Am σ x with
  | none=>rw[j]at hs;simp[Lx]at hs
  | some v =>
   rw[A x (by simp[Op.operands]) v j];rw[j]at hs;unfold Lx at hs ⊢;split at hs
   .rename_i ti n am off R J;cases hn:lk n σ.objs with
    | none=>rw[hn]at hs;simp[FO]at hs
    | some o=>rw[h n o hn,<-hn];exact hs
   .rename_i ti n e i am off R J;cases hn:lk n σ.objs with
    | none=>rw[hn]at hs;simp[FP]at hs
    | some o=>rw[h n o hn,<-hn];exact hs
   .exact hs
   cases hs
 case nilCheck x=>exact one (f:=ZZ) (by simp[Op.operands]) (by simp[ZZ]) hs
 case binOp op t x y au=>exact N (f:=VM op (lk t tb.ty)) (by simp[Op.operands]) (by simp[Op.operands]) (λb=>by simp[VM]) (λa=>by cases a<;>simp[VM]) hs
 case unOp op t x=>exact one (f:=qUn op) (by simp[Op.operands]) (by cases op<;>simp[qUn]) hs
 case convert s t x=>exact one (f:=Ly (lk s tb.ty) (lk t tb.ty)) (by simp[Op.operands]) (by cases lk s tb.ty<;>cases lk t tb.ty<;>simp[Ly]) hs
 case makeSlice t l c=>exact N (f:=KH tb d (lk t tb.ty)) (by simp[Op.operands]) (by simp[Op.operands]) (λb=>by cases lk t tb.ty<;>simp[KH]) (λa=>by cases lk t tb.ty<;>simp[KH]) hs
 case slice t x lo hi al =>
  cases al with
  | some m =>
   cases lo with
   | some _=>cases hi<;>simp[aq]at hs
   | none =>
    cases hi with
    | none=>simp[aq]at hs
    | some h1 =>
     simp only[aq]at hs ⊢;cases j:Am σ x with
     | none=>rw[j]at hs;cases C:lk t tb.ty<;>rw[C]at hs<;>simp[Em]at hs
     | some v =>
      cases hh:Am σ h1 with
      | none=>rw[j,hh]at hs;cases C:lk t tb.ty<;>rw[C]at hs<;>simp[Em]at hs
      | some B =>
       cases K:Am σ m with
       | none=>rw[j,hh,K]at hs;cases C:lk t tb.ty<;>rw[C]at hs<;>simp[Em]at hs
       | some ak =>
        rw[A x (by simp[Op.operands]) v j,A h1 (by simp[Op.operands]) B hh,A m (by simp[Op.operands]) ak K];rw[j,hh,K]at hs;exact hs
  | none =>
   simp only[aq]at hs ⊢;have aa:∀ {y:Option Operand},(∀z,y=some z->z∈(Op.slice t x lo hi none).operands.toList)->∀w,Hy σ y=some w->Hy σ' y=some w:=by
    intro y E w L;cases y with
    | none=>exact L
    | some z =>
     simp only[Hy,OS]at L ⊢;obtain⟨v,B,rfl⟩:=L;exact⟨v,A z (E z rfl) v B,rfl⟩
   cases j:Am σ x with
   | none=>rw[j]at hs;cases C:lk t tb.ty<;>rw[C]at hs<;>simp[GK]at hs
   | some v =>
    cases h1:Hy σ lo with
    | none=>rw[h1]at hs;cases C:lk t tb.ty<;>rw[C]at hs<;>simp[GK]at hs
    | some a =>
     cases I:Hy σ hi with
     | none=>rw[I]at hs;cases C:lk t tb.ty<;>rw[C]at hs<;>simp[GK]at hs
     | some b =>
      rw[A x (by simp[Op.operands]) v j,aa (by rintro z rfl;simp[Op.operands]) a h1,aa (by rintro z rfl;simp[Op.operands]) b I];rw[j,h1,I]at hs;exact hs
 case fieldAddr s x f=>exact one (f:=IQ f (lk s tb.ty)) (by simp[Op.operands]) (by cases lk s tb.ty<;>simp[IQ]) hs
 case indexAddr t x i=>exact N (f:=G7 (lk t tb.ty)) (by simp[Op.operands]) (by simp[Op.operands]) (λb=>by cases lk t tb.ty<;>simp[G7]) (λa=>by cases lk t tb.ty<;>simp[G7]) hs
 case index t x i=>exact N (f:=FF (lk t tb.ty)) (by simp[Op.operands]) (by simp[Op.operands]) (λb=>by cases lk t tb.ty<;>simp[FF]) (λa=>by cases lk t tb.ty<;>simp[FF]) hs
 case extract x i=>exact one (f:=FW i) (by simp[Op.operands]) (by simp[FW]) hs
 case makeFunc fn first ad =>
  unfold iY at hs ⊢;split at hs
  .rename_i f hf;cases H:JO σ ad.toList with
   | none=>rw[H]at hs;simp[UE]at hs
   | some ns =>
    rw[W8 (λz M=>A z (by simp[Op.operands]at M ⊢;exact .inr M)) H];rw[H]at hs;exact hs
  cases hs
 case makeMap t res =>
  cases res with
  | some z=>simp[aq]at hs
  | none=>simp only[aq]at hs ⊢;exact hs
 case lookup t x i ok =>
  cases j:Am σ x with
  | none=>rw[j]at hs;simp[KJ]at hs
  | some xv =>
   cases hi:Am σ i with
   | none=>rw[j,hi]at hs;simp[KJ]at hs
   | some Z =>
    rw[A x (by simp[Op.operands]) xv j,A i (by simp[Op.operands]) Z hi];rw[j,hi]at hs;unfold KJ at hs ⊢;split at hs
    .rename_i k e _ _ n z R J ah;cases J;cases ah;cases hn:lk n σ.objs with
     | none=>rw[hn]at hs;simp[Jp]at hs
     | some o =>
      rw[hn]at hs;rw[h n o hn];unfold Jp at hs ⊢;split at hs
      .rename_i aj ay l A;cases A;split at hs
       .rename_i H;rw[BY H];cases hk:MQ false σ aj Z with
        | none=>rw[hk]at hs;simp[Mb]at hs
        | some kd=>rw[Fb h hk];rw[hk]at hs;exact hs
       cases hs
      cases hs
    cases hs
 case call c =>
  obtain⟨callee,args,argTypes⟩:=c;have D:∀x∈args.toList,x∈(Op.call ⟨callee,args,argTypes⟩).operands.toList:=λx j=>by
   have:x∈args:=by simpa using j
   cases callee<;>simp[Op.operands,Call.operands,this]
  cases callee with
  | invoke r m=>simp[DW]at hs
  | value g =>
   simp only[DW]at hs ⊢;cases O:Am σ g with
   | none=>rw[O]at hs;simp[Oq]at hs
   | some ag =>
    rw[A g (by simp[Op.operands,Call.operands]) ag O];rw[O]at hs;unfold Oq at hs ⊢;split at hs
    .rename_i f F;cases Y:lk f tb.fns with
     | none=>rw[Y]at hs;simp[LD]at hs
     | some sp =>
      rw[Y]at hs;simp only[LD]at hs ⊢;cases U:HT sp.lend σ sp.ins args.toList with
      | none=>rw[U]at hs;simp[Ma]at hs
      | some ds =>
       rw[Wz h (λx j=>A x (D x j)) U];rw[U]at hs;exact hs
    cases hs
  | builtin b =>
   simp only[DW]at hs ⊢;obtain⟨args⟩:=args;obtain⟨argTypes⟩:=argTypes;simp only at hs D ⊢;unfold Dv at hs ⊢;split at hs
   .exact one (f:=Wd (lk _ tb.ty)) (D _ sc) (by cases lk _ tb.ty<;>simp[Wd]) hs
   .rename_i x y t u;cases j:Am σ x with
    | none=>rw[j]at hs;simp[DG]at hs
    | some xv =>
     cases E:Am σ y with
     | none=>rw[j,E]at hs;simp[DG]at hs
     | some Q =>
      rw[A x (D _ sc) xv j,A y (D _ sc) Q E];rw[j,E]at hs;unfold DG at hs ⊢;split at hs
      .split at hs
       .rename_i P;simp only[P,AAt];rename_i R J;cases J;rw[P]at hs;cases C:lk u tb.ty with
        | none=>rw[C]at hs;simp[FX]at hs
        | some ti =>
         rw[C]at hs;unfold FX at hs ⊢;split at hs
         .rename_i e offs el b F;cases B:ST σ e Q with
          | none=>rw[B]at hs;cases W:lk el tb.ty<;>rw[W]at hs<;>simp[GL]at hs
          | some ys =>
           rw[B]at hs;rw[Mv h B];exact hs
         cases hs
       cases hs
      .split at hs
       .rename_i P;simp only[P,AAt];rename_i R J;cases J;rw[P]at hs;cases C:lk u tb.ty with
        | none=>rw[C]at hs;simp[LC]at hs
        | some ti =>
         rw[C]at hs;unfold LC at hs ⊢;split at hs
         .rename_i e offs el b F;split at hs
          .rename_i V;simp only[V,AAt];cases B:ST σ _ Q with
           | none=>rw[B]at hs;cases W:lk el tb.ty<;>rw[W]at hs<;>simp[MZ]at hs
           | some ys =>
            rw[B]at hs;rw[Mv h B];exact hs
          cases hs
         cases hs
       cases hs
      cases hs
   .exact N (f:=VN) (D _ sc) (D _ sc) (λb=>by simp[VN]) (λa=>by cases a<;>simp[VN]) hs
   .exact N (f:=VO) (D _ sc) (D _ sc) (λb=>by simp[VO]) (λa=>by cases a<;>simp[VO]) hs
   .rename_i x y z t u ax;cases j:Am σ x with
    | none=>rw[j]at hs;simp[KI]at hs
    | some xv =>
     cases E:Am σ y with
     | none=>rw[j,E]at hs;simp[KI]at hs
     | some Q =>
      cases M:Am σ z with
      | none=>rw[j,E,M]at hs;simp[KI]at hs
      | some an =>
       rw[A x (D _ sc) xv j,A y (D _ sc) Q E,A z (D _ sc) an M,<-j,<-E,<-M];exact hs
   .rename_i ts x y z u r;have O:∀(r:List Operand) (k:IntKind) (o:Option Int) (m:Int),(∀q∈r,∀v,Am σ q=some v->Am σ' q=some v)->GM σ k o r=some m->GM σ' k o r=some m:=by
     intro r;induction r with
     | nil=>intro k o m _ h;cases o<;>(simp[GM]at h;try exact ACb some h)
     | cons q r ai =>
      intro k o m S h;cases o with
      | none=>simp[GM]at h
      | some a =>
       simp only[GM]at h ⊢;cases B:Am σ q with
       | none=>rw[B]at h;cases r<;>simp[QJ,GM]at h
       | some v =>
        rw[B]at h;rw[S q sc v B];exact ai k _ m (λp G=>S p (by simp[G])) h
    cases j:Am σ x with
    | none=>rw[j]at hs;simp[QK]at hs
    | some xv =>
     rw[j]at hs;rw[A x (D _ sc) xv j];unfold QK at hs ⊢;split at hs
     .rename_i k a F;cases F;cases K:GM σ k (some a) (y :: z :: u :: r) with
      | none=>rw[K]at hs;simp[UD]at hs
      | some m =>
       rw[K]at hs;rw[O _ _ _ _ (λq S=>A q (D _ (IN _ S))) K];exact hs
     cases hs
   cases hs
end
end
end Go.Proofs.YtapkhdkbkodbjaaGreat.Fw
