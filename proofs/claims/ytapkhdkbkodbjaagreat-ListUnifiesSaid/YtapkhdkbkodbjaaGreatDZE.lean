/- One operation, a sequence, loops, the entry and the end of a function: the rules. -/
import Derived.Test.YtapkhdkbkodbjaaGreatDZD
import Derived.Deep.LoopGhost
import Derived.ControlIn
set_option linter.unusedVariables false
set_option linter.unusedSimpArgs false
namespace Go.Proofs.YtapkhdkbkodbjaaGreat.Fw
section
open Go Go.RowKit
abbrev AET:=@Go.wpIn_region_list
abbrev AFE:=@Go.wpIn_mono
structure Cx where
 P:Program
 tb:Tb
 w0:World
 K:Nat->Prop
 O0:Nat->Prop
 nt:Nat
 
 ds:Fp:={}
 
 r:Option Nat:=none
structure Cx.Ok (c:Cx):Prop where
 K:∀b,c.K b->b<c.w0.heap.size
 O:∀b,c.O0 b->b<c.w0.heap.size
 T:DH c.P c.tb
 F:Iz c.P c.tb
def Cx.sat (c:Cx) (σ:St) (a:Act) (w:World):Prop:=∃ρ,B9 c.w0 c.K c.O0 c.nt c.ds σ ρ a w
section
variable {c:Cx}
theorem A5P (hc:c.Ok) {σ:St} {ρ:Nat->Value} {a:Act} {w:World} (h:B9 c.w0 c.K c.O0 c.nt c.ds σ ρ a w):AAu c.P c.tb w c.O0 σ ρ a where
 hT:=hc.T
 hF:=hc.F
 obj:=h.objs
 own:=by
  intro b hb;rcases hb with h0|⟨n,⟨o,ho⟩,hb⟩
  .exact bY (hc.O b h0) h.frm.size
  exact(h.objs n o ho).block_lt hb
 ev:=Fv h.env
theorem A2c (e:c.Ok) {σ σ':St} {ρ:Nat->Value} {a:Act} {w:World} (hs:B9 c.w0 c.K c.O0 c.nt c.ds σ ρ a w) {o:Oper} {vc:Prop} (h:HT c.tb σ o.dst o.op=some (vc,σ')) (k:vc) (j:∀d,o.dst=some d->d<c.nt)
  {next:Act->World->Prop} {Q:Exit->Act->World->Prop} (hn:∀i w',c.sat σ' i w'->next i w'):o.wpIn (FR c.r) 0 c.P a w next Q:=by
 obtain⟨dst,op,type,pos,after,guard⟩:=o;simp only at h j;cases op<;>simp only[HT]at h<;>try(cases h;done)
 case store t x y =>
  cases dst with
  | some d=>simp[Du]at h
  | none =>
   simp only[Du]at h;obtain⟨w',ρ',h1,f⟩:=lX (P:=c.P) hs e.K e.O e.T h k;exact qE (w':=w') (by simp[execOp,h1]) (hn _ _ ⟨ρ',f⟩)
 case mapUpdate t m x y =>
  cases dst with
  | some d=>simp[Du]at h
  | none =>
   simp only[Du]at h;obtain⟨w',h1,f⟩:=z0 (P:=c.P) hs e.K e.T h;exact qE (w':=w') (by simp[execOp,h1]) (hn _ _ ⟨ρ,f⟩)
 case call cl =>
  obtain⟨callee,args,argTypes⟩:=cl;cases callee with
  | value g=>simp[Dt]at h
  | invoke r m=>simp[Dt]at h
  | builtin b =>
   simp only[Dt]at h;obtain⟨args⟩:=args;obtain⟨argTypes⟩:=argTypes;simp only at h;unfold Ei at h;split at h
   .rename_i x y t u;obtain⟨z,w',ρ',h1,f⟩:=lW (P:=c.P) (ty:=type) hs e.K e.O e.T j h k;exact Aw (u:=z) (w':=w') (by simp[execOp,resolve,invoke,builtin,h1]) (hn _ _ ⟨ρ',f⟩)
   cases h
theorem VY (b:c.Ok) {σ σ':St} {a:Act} {w:World} (hs:c.sat σ a w) {o:Oper} {vc:Prop} (h:Hw c.tb o σ=some (vc,σ')) (i:vc) (g:∀d,o.dst=some d->d<c.nt)
  {next:Act->World->Prop} {Q:Exit->Act->World->Prop} (hn:∀f w',c.sat σ' f w'->next f w'):o.wpIn (FR c.r) 0 c.P a w next Q:=by
 obtain⟨ρ,hs⟩:=hs;have hs:=Kt (l:=DJ σ o.op) hs;unfold Hw TB at h;generalize DG (DJ σ o.op) σ=k at h hs;cases e:aq c.tb k (o.dst.getD 0) o.op with
 | some r =>
  obtain⟨m,v,obs⟩:=r;rw[e]at h;simp only[Ns]at h;split at h
  .rename_i hf;cases h;exact qB (A5P b hs) e i hf λu ρ' w' j=>hn _ _ ⟨ρ',hs.add b.K b.O g hf j⟩
  cases h
 | none =>
  rw[e]at h;exact A2c b hs h i g hn
theorem Hc {ops:Array Oper} {σ:St} {a:Act} {w:World} (hs:c.sat σ a w) {o:Oper} {b:Bool} (h:Er ops.toList σ o.guard=some b):Region.wanted o (yielded ops a.tmps)=b:=by
 obtain⟨ρ,hs⟩:=hs;unfold Er at h;split at h
 .rename_i e;cases h;simp[Region.wanted,e]
 rename_i j p e;cases f:(ops.toList[j]?).bind (·.dst) with
 | none=>rw[f]at h;simp[Ko]at h
 | some g =>
  rw[f]at h;simp only[Ko]at h;cases hl:lk g σ.env with
  | none=>rw[hl]at h;simp[Rl]at h
  | some v =>
   rw[hl]at h;unfold Rl at h;split at h
   .rename_i k l;cases l;cases h;have d:=hs.env g _ hl;have d:=EL d;have n:(ops[j]?).bind (·.dst)=some g:=by simpa using f
    have m:a.tmps[g]?=some (.bool k):=by
     by_cases i:g<a.tmps.size
     .have:a.tmps.getD g undef=a.tmps[g]:=by simp[Array.getD,i]
      rw[this]at d;rw[oR i,d]
     have:a.tmps.getD g undef=undef:=by simp[Array.getD,i]
     rw[this]at d;cases d
    simp only[Region.wanted,e,yielded,n,Option.bind_some,m];cases k<;>cases p<;>rfl
   cases h
theorem M6 {σ:St} {a:Act} {w:World} (b:c.Ok) (hs:c.sat σ a w) {dst:Option Nat} (e:∀d,dst=some d->d<c.nt):c.sat (σ.add (.raw undef) [] dst) (a.put dst undef) w:=by
 obtain⟨ρ,hs⟩:=hs;exact⟨ρ,hs.add b.K b.O e (by simp[Bd]) (QS.still rfl)⟩
def I8 (nt:Nat) (o:Oper):Bool :=
 match o.dst with
 | some d=>decide (d<nt)
 | none=>true
theorem Cr {nt:Nat} {o:Oper} (h:I8 nt o=true):∀d,o.dst=some d->d<nt:=by grind [I8]
theorem Rs (d:c.Ok) {ops:Array Oper} {Q:Exit->Act->World->Prop} {r:List Oper}:∀(l:List Oper) {σ σ':St} {vc:Prop} {a:Act} {w:World},c.sat σ a w->(∀o∈l,I8 c.nt o=true)->Bn c.tb ops.toList l σ=some (vc,σ')->vc ->
  (∀g w',c.sat σ' g w'->wpListIn (FR c.r) 0 c.P ops Q r g w')->wpListIn (FR c.r) 0 c.P ops Q (l++r) a w
 | [],σ,σ',vc,a,w,hs,e,h,f,i=>by grind [Bn]
 | o :: l,σ,σ',vc,a,w,hs,e,h,f,i=>by
  simp only[Bn]at h;cases j:Er ops.toList σ o.guard with
  | none=>rw[j]at h;simp[evG]at h
  | some b =>
   rw[j]at h;have s:=Hc hs j;have q:=Cr (e o (by simp));rw[AE6];unfold wpListIn;cases b with
   | true =>
    simp only[evG]at h;rw[BY s];cases n:Hw c.tb o σ with
    | none=>rw[n]at h;simp[evK]at h
    | some r =>
     obtain⟨x,v⟩:=r;rw[n]at h;simp only[evK]at h;cases m:Bn c.tb ops.toList l v with
     | none=>rw[m]at h;simp[YA]at h
     | some u =>
      obtain⟨y,σ2⟩:=u;rw[m]at h;simp only[YA]at h;cases h;exact VY d hs n f.1 q λg w' t=>Rs d l t (λp k=>e p (by simp[k])) m f.2 i
   | false =>
    simp only[evG]at h;rw[As (by simp[s])];refine⟨λ_ _=>trivial,?_⟩;exact Rs d l (M6 d hs q) (λp k=>e p (by simp[k])) h f i
theorem QB (e:c.Ok) {ops:Array Oper} {Q:Exit->Act->World->Prop}:∀(l:List Oper) {σ σ':St} {vc:Prop} {a:Act} {w:World},c.sat σ a w->(∀o∈l,I8 c.nt o=true)->Bn c.tb ops.toList l σ=some (vc,σ')->vc ->
  (∀i w',c.sat σ' i w'->Q .normal i w')->wpListIn (FR c.r) 0 c.P ops Q l a w
 | [],σ,σ',vc,a,w,hs,f,h,g,d=>by
  simp only[Bn]at h;cases h;exact d _ _ hs
 | o :: l,σ,σ',vc,a,w,hs,f,h,g,d=>by
  simp only[Bn]at h;cases j:Er ops.toList σ o.guard with
  | none=>rw[j]at h;simp[evG]at h
  | some b =>
   rw[j]at h;have s:=Hc hs j;have q:=Cr (f o (by simp));unfold wpListIn;cases b with
   | true =>
    simp only[evG]at h;rw[BY s];cases n:Hw c.tb o σ with
    | none=>rw[n]at h;simp[evK]at h
    | some r =>
     obtain⟨x,v⟩:=r;rw[n]at h;simp only[evK]at h;cases m:Bn c.tb ops.toList l v with
     | none=>rw[m]at h;simp[YA]at h
     | some u =>
      obtain⟨y,σ2⟩:=u;rw[m]at h;simp only[YA]at h;cases h;exact VY e hs n g.1 q λi w' t=>QB e l t (λp k=>f p (by simp[k])) m g.2 d
   | false =>
    simp only[evG]at h;rw[As (by simp[s])];refine⟨λ_ _=>trivial,?_⟩;exact QB e l (M6 e hs q) (λp k=>f p (by simp[k])) h g d
end
end
section
open Go Go.RowKit
inductive DU where
 | seq (c:Code)
 | blk (id:Nat)
 
 | inv (post:St->Prop)
def Bl (nt:Nat):Code->Bool
 | .region _ ops _=>ops.toList.all (I8 nt)
 | .seq a b=>Bl nt a&&Bl nt b
 | .cond _ a b=>Bl nt a&&Bl nt b
 | .block _ b=>Bl nt b
 | .loop b=>Bl nt b
 | .scope b=>Bl nt b
 | _=>true
def DB (nt:Nat):List DU->Bool
 | []=>true
 | .seq c :: k=>Bl nt c&&DB nt k
 | _ :: k=>DB nt k
def VZ (c:Cx) (R:Exit->Act->World->Prop):List DU->Exit->Act->World->Prop
 | [],e,a,w=>R e a w
 | .seq y :: k,.normal,a,w=>y.wpIn (FR c.r) 0 c.P (VZ c R k) a w
 | .seq _ :: k,e,a,w=>VZ c R k e a w
 | .blk id :: k,.exit b,a,w=>if b=id then VZ c R k .normal a w else VZ c R k (.exit b) a w
 | .blk _ :: k,e,a,w=>VZ c R k e a w
 | .inv post :: _,.normal,a,w=>∃σ,c.sat σ a w/\post σ
 | .inv _ :: k,e,a,w=>VZ c R k e a w
inductive qI where
 | run (cd:Code)
 | out (e:Exit)
def nwp (c:Cx) (R:Exit->Act->World->Prop) (k:List DU):qI->Act->World->Prop
 | .run cd,a,w=>cd.wpIn (FR c.r) 0 c.P (VZ c R k) a w
 | .out e,a,w=>VZ c R k e a w
def H0 (nt:Nat):qI->Bool
 | .run cd=>Bl nt cd
 | .out _=>true
def Ev (c:Cx) (R:Exit->Act->World->Prop) (n:qI) (k:List DU) (σ:St):Prop :=
 H0 c.nt n=true->DB c.nt k=true->∀a w,c.sat σ a w->nwp c R k n a w
theorem UN {F:Fence} {j:Nat} {P:Program} {Q:Exit->Act->World->Prop} {a:Act} {w:World} {c:Code} (b:Nat->Act->World->Prop) (i:Nat) (o:b i a w)
  (round:∀n a w,b n a w->c.wpIn F j P (Exit.then (λg w'=>∃f,f<n/\b f g w') Q) a w):(Code.loop c).wpIn F j P Q a w:=by
 refine wpIn_loop (λa w=>∃n,b n a w) (λa w=>leastOf (λn=>b n a w)) ⟨i,o⟩ ?_;intro a w k;refine AFE (round _ a w (leastOf_spec k).1) ?_;intro e g w' d;cases e with
 | normal =>
  obtain⟨f,m,h⟩:=d;exact show (∃n,b n g w')/\leastOf (λn=>b n g w')<leastOf (λn=>b n a w) from ⟨⟨f,h⟩,AFd ((leastOf_spec ⟨f,h⟩).2 f h) m⟩
 | exit id=>exact d
 | goto l=>exact d
 | ret=>exact d
 | panic ch=>exact d
 | outgrown=>exact d
def Ent (c:Cx) (σ σ':St):Prop:=∀a w,c.sat σ a w->c.sat σ' a w
section
variable {c:Cx} {R:Exit->Act->World->Prop} {k:List DU} {σ σ':St}
theorem Ev.ent {n:qI} (h:Ev c R n k σ') (d:Ent c σ σ'):Ev c R n k σ:=λh1 b a w hs=>h h1 b a w (d a w hs)
theorem A9m {x y:Code} (h:Ev c R (.run x) (.seq y :: k) σ):Ev c R (.run (.seq x y)) k σ:=by
 intro h1 b a w hs;simp only[H0,Bl,An]at h1;refine wpIn_seq (AFE (h h1.1 (by simp[DB,h1.2,b]) a w hs) ?_);intro e f w' d;cases e<;>exact d
theorem qJ (h:Ev c R (.out .normal) k σ):Ev c R (.run .skip) k σ:=λ_ b a w hs=>wpIn_skip (h rfl b a w hs)
theorem A9n (h:Ev c R (.out .ret) k σ):Ev c R (.run .ret) k σ:=λ_ b a w hs=>wpIn_ret (h rfl b a w hs)
theorem A5Q {id:Nat} (h:Ev c R (.out (.exit id)) k σ):Ev c R (.run (.exit id)) k σ:=λ_ b a w hs=>wpIn_exit (h rfl b a w hs)
theorem A2e {id:Nat} {b:Code} (h:Ev c R (.run b) (.blk id :: k) σ):Ev c R (.run (.block id b)) k σ:=by
 intro h1 d a w hs;refine wpIn_block (AFE (h (by simpa[H0,Bl] using h1) (by simpa[DB] using d) a w hs) ?_);intro e g w' f;cases e<;>exact f
def EvR (c:Cx) (R:Exit->Act->World->Prop) (k:List DU):DD->Prop
 | some (vc,σ)=>vc/\Ev c R (.out .normal) k σ
 | none=>False
theorem z4 (f:c.Ok) {id:Nat} {ops:Array Oper} (h:EvR c R k (Bn c.tb ops.toList ops.toList σ)):Ev c R (.run (.region id ops false)) k σ:=by
 intro h1 e a w hs;cases b:Bn c.tb ops.toList ops.toList σ with
 | none=>rw[b]at h;exact h.elim
 | some r =>
  obtain⟨vc,σ'⟩:=r;rw[b]at h;simp only[H0,Bl,ON]at h1;exact AET (QB f ops.toList hs h1 b h.1 λd w' g=>h.2 rfl e d w' g)
def EvC (c:Cx) (R:Exit->Act->World->Prop) (x y:Code) (k:List DU) (σ:St):Option AV->Prop
 | some (.p .bool b)=>(b=true->Ev c R (.run x) k σ)/\(b=false->Ev c R (.run y) k σ)
 | _=>False
theorem A5R {o:Operand} {x y:Code} (h:EvC c R x y k σ (Ap σ o)):Ev c R (.run (.cond o x y)) k σ:=by
 intro h1 g a w hs;simp only[H0,Bl,An]at h1;obtain⟨ρ,f⟩:=hs;have j:=Fv f.env;cases e:Ap σ o with
 | none=>rw[e]at h;exact h.elim
 | some v =>
  have l:=j o v e;rw[e]at h;unfold EvC at h;split at h
  .rename_i b i;cases i;have d:=EL l;exact wpIn_cond_split d (λd=>h.1 d h1.1 g a w ⟨ρ,f⟩) (λd=>h.2 d h1.2 g a w ⟨ρ,f⟩)
  exact h.elim
theorem H5 {y:Code} (h:Ev c R (.run y) k σ):Ev c R (.out .normal) (.seq y :: k) σ:=by
 intro _ b a w hs;simp only[DB,An]at b;exact h b.1 b.2 a w hs
theorem eX {id:Nat} {y:Code} (h:Ev c R (.out (.exit id)) k σ):Ev c R (.out (.exit id)) (.seq y :: k) σ:=by
 intro _ b a w hs;simp only[DB,An]at b;exact h rfl b.2 a w hs
theorem lY {y:Code} (h:Ev c R (.out .ret) k σ):Ev c R (.out .ret) (.seq y :: k) σ:=by
 intro _ b a w hs;simp only[DB,An]at b;exact h rfl b.2 a w hs
theorem lZ {id:Nat} (h:Ev c R (.out .normal) k σ):Ev c R (.out .normal) (.blk id :: k) σ:=λ_ b a w hs=>h rfl (by simpa[DB] using b) a w hs
theorem TQ {id b:Nat} (h:if b=id then Ev c R (.out .normal) k σ else Ev c R (.out (.exit b)) k σ):Ev c R (.out (.exit b)) (.blk id :: k) σ:=by
 intro _ d a w hs;have d:DB c.nt k=true:=by simpa[DB] using d
 show (if b=id then VZ c R k .normal a w else VZ c R k (.exit b) a w);split at h
 .rename_i e;rw[BY e];exact h rfl d a w hs
 rename_i e;rw[As e];exact h rfl d a w hs
theorem l0 {id:Nat} (h:Ev c R (.out .ret) k σ):Ev c R (.out .ret) (.blk id :: k) σ:=λ_ b a w hs=>h rfl (by simpa[DB] using b) a w hs
theorem AB {post:St->Prop} (h:post σ):Ev c R (.out .normal) (.inv post :: k) σ:=λ_ _ _ _ hs=>⟨σ,hs,h⟩
theorem eY {id:Nat} {post:St->Prop} (h:Ev c R (.out (.exit id)) k σ):Ev c R (.out (.exit id)) (.inv post :: k) σ:=λ_ b a w hs=>h rfl (by simpa[DB] using b) a w hs
theorem l9 {post:St->Prop} (h:Ev c R (.out .ret) k σ):Ev c R (.out .ret) (.inv post :: k) σ:=λ_ b a w hs=>h rfl (by simpa[DB] using b) a w hs
def AAv (c:Cx) {ι:Type} (I:ι->St) (μ:ι->Nat) (i:ι) (σ:St):Prop:=∃j,μ j<μ i/\Ent c σ (I j)
theorem AK {ι:Type} (d:ι->St) (f:ι->Nat) (g:ι) {b:Code} (h0:Ent c σ (d g)) (o:∀i,Ev c R (.run b) (.inv (AAv c d f i) :: k) (d i)):Ev c R (.run (.loop b)) k σ:=by
 intro h1 m a w hs;have h1:Bl c.nt b=true:=by simpa[H0,Bl] using h1
 refine UN (λn a w=>∃i,f i=n/\c.sat (d i) a w) (f g) ⟨g,rfl,h0 a w hs⟩ ?_;rintro n a w ⟨i,rfl,hs⟩;refine AFE (o i h1 (by simpa[DB] using m) a w hs) ?_;intro e l w' h;cases e with
 | normal =>
  obtain⟨σ',r,j,q,p⟩:=h;exact⟨f j,q,j,rfl,p l w' r⟩
 | _=>exact h
theorem QC {ι:Type} (b:ι->St) {x y:Code} (h:Ev c R (.run x) (.inv (fun σ'=>∃i,Ent c σ' (b i)) :: .seq y :: k) σ) (m:∀i,Ev c R (.run y) k (b i)):Ev c R (.run (.seq x y)) k σ:=by
 intro h1 f a w hs;simp only[H0,Bl,An]at h1;refine wpIn_seq (AFE (h h1.1 (by simp[DB,h1.2,f]) a w hs) ?_);intro e d w' g;cases e with
 | normal =>
  obtain⟨σ',l,i,j⟩:=g;exact m i h1.2 f d w' (j d w' l)
 | _=>exact g
end
end
section
open Go Go.RowKit
def AM:Nat->(ts:List Ty)->Ka ts->List (Nat×AV)
 | _,[],_=>[]
 | s,t :: ts,d=>(s,.p t d.1) :: AM (s+1) ts d.2
def Ku (σ:St) (ty:Ty):Option AV->Option AV
 | some (.bp n a off)=>match Eb ty a off (lk n σ.objs) with
  | some (_,v,_)=>some v
  | none=>none
 | _=>none
def Kv (tb:Tb) (σ:St):ResultVar->Option AV
 | .tmp t=>lk t σ.env
 | .cell a t=>match lk t tb.ty with
  | some ti=>Ku σ ti.ty (lk a σ.env)
  | none=>none
def M7:Option AV->List Nat
 | some v=>v.names
 | none=>[]
def Ja (σ:St) (t:Ty):Option AV->Option t.den
 | some v=>Mx false σ t v
 | none=>none
def Jv (σ:St) (et:TypeId) (e:Ty):Option Obj->Option (List e.den)
 | some (.arr b a xs)=>if b=et then BO (.slice e) ⟨.slice a,xs⟩ else none
 | _=>none
def Nv (tb:Tb) (σ:St) (rv:ResultVar):RV->Prop
 | .p t d=>Ja (DG (M7 (Kv tb σ rv)) σ) t (Kv tb (DG (M7 (Kv tb σ rv)) σ) rv)=some d
 | .own et e xs=>match Kv tb σ rv with
  | some (.sr n a 0 hi)=>a=e/\Jv σ et e (lk n σ.objs)=some xs/\hi=xs.length
  | _=>False
def Nw (tb:Tb) (σ:St):List ResultVar->List RV->Prop
 | [],[]=>True
 | [rv],[r]=>Nv tb σ rv r
 | rv :: b,.p t d :: a=>Nv tb σ rv (.p t d)/\Nw tb σ b a
 | _,_=>False
section
variable {P:Program} {tb:Tb} {w0:World} {O0:Nat->Prop} {nt:Nat} {ds:Fp}
def cx (P:Program) (tb:Tb) (w0:World) (O0:Nat->Prop) (nt:Nat):Cx:={ P:=P,tb:=tb,w0:=w0,K:=λb=>b<w0.heap.size,O0:=O0,nt:=nt }
theorem Yf:∀(ts:List Ty) (a:List Value) (ds:Ka ts) (k:Nat) (w:World) (O:Nat->Prop),Pv w O ts a ds->∀s v,lk s (AM k ts ds)=some v->k<=s/\∃u,a[s-k]?=some u/\∃t d,v=.p t d/\BR w O t u d
 | [],a,ds,k,w,O,h,s,v,hs=>by simp[AM,lk]at hs
 | t :: ts,a,ds,k,w,O,h,s,v,hs=>by
  obtain⟨u,r,rfl,h1,b⟩:=h;simp only[AM,lk]at hs;split at hs
  .grind
  obtain⟨c,g,e,f⟩:=Yf ts r ds.2 (k+1) w O b s v hs;grind
theorem TR:∀ {ts:List Ty} {a:List Value} {ds:Ka ts} {w:World} {O:Nat->Prop},Pv w O ts a ds->a.length=ts.length
 | [],a,ds,w,O,h=>by have h:a=[]:=h;subst h;rfl
 | t :: ts,a,ds,w,O,h=>by
  obtain⟨u,r,rfl,h1,b⟩:=h;simp[TR b]
theorem z5 {ts:List Ty} {a:List Value} {ds:Ka ts} (h:Pv w0 O0 ts a ds) (k:a.length<=nt) :
  (cx P tb w0 O0 nt).sat ⟨AM 0 ts ds,[]⟩ { tmps:=a.toArray++Array.replicate (nt-a.toArray.size) undef,defers:=[] } w0:=by
 refine⟨λ_=>undef,⟨rfl,rfl,rfl,If _,λ_ _=>rfl⟩,by simp[cx];omega,rfl,(λp hp=>by simp[cx]at hp),λn o h=>by simp[lk]at h,λn b ⟨o,h⟩=>by simp[lk]at h,λn m b ⟨o,h⟩=>by simp[lk]at h,λs v hs=>?_⟩;obtain⟨_,u,h1,t,d,rfl,e⟩:=Yf ts a ds 0 w0 O0 h s v hs;have c:s<a.length:=by grind
 have i:(a.toArray++Array.replicate (nt-a.toArray.size) undef).getD s undef=u:=by
  have h1:a[s]?=some u:=by simpa using h1
  have:a[s]=u:=by rw[AT c]at h1;injection h1
  simp[Array.getElem?_append,c,this]
 rw[i];refine BR.mono (λb _ f g=>?_) (λ_ _ _=>rfl) e;rcases g with h0|⟨n,⟨o,j⟩,_⟩
 .exact f h0
 simp[lk]at j
def Jw (tmps:Array Value):ResultVar->Sem Value
 | .tmp t=>pure (tmps.getD t undef)
 | .cell a t=>do loadVar t (<-asAddr (tmps.getD a undef))
theorem OY (fn:Func) (tmps:Array Value):results fn tmps=(do let a <-fn.results.mapM (Jw tmps);pure (if h:a.size=1 then a[0] else .tuple a)):=by
 unfold results
 congr 1
theorem Uc (hT:DH P tb) {K:Nat->Prop} {σ:St} {ρ:Nat->Value} {a:Act} {w:World} (hs:B9 w0 K O0 nt ds σ ρ a w) {rv:ResultVar} {v:AV} (h:Kv tb σ rv=some v) :
  ∃u,(Jw a.tmps rv).run P w=.ok u w/\B3 (vw w O0 σ ρ) v u:=by
 cases rv with
 | tmp t =>
  simp only[Kv]at h;exact⟨_,by simp[Jw],hs.env t v h⟩
 | cell x t =>
  simp only[Kv]at h;cases d:lk t tb.ty with
  | none=>rw[d]at h;simp at h
  | some ti =>
   rw[d]at h;simp only at h;cases hx:lk x σ.env with
   | none=>rw[hx]at h;simp[Ku]at h
   | some xv =>
    rw[hx]at h;unfold Ku at h;split at h
    .rename_i n k off g;cases g;have e:=hs.env x _ hx;split at h
     .rename_i vc m obs i;cases h;have j:Jr σ (some ti) (some (.bp n k off))=some (vc,v,obs):=i;obtain⟨_,u,h1,f⟩:=A1V (hT _ _ d) hs.objs j e;obtain⟨l,b,_,c⟩:=e;rw[c]at h1;have c:a.tmps.getD x undef=.pointer (some ⟨b,off,none⟩):=c;refine⟨u,?_,f⟩;simp only[Instr.loadAt,Instr.sureAddr,ADx,AED,iF]at h1;simp only[Jw,c,asAddr,ADx,AED,iF,h1]
     cases h
    cases h
theorem A5S (hT:DH P tb) {K:Nat->Prop} {σ:St} {ρ:Nat->Value} {a:Act} {w:World} (hs:B9 w0 K O0 nt ds σ ρ a w) {rv:ResultVar} {t:Ty} {d:t.den} (h:Nv tb σ rv (.p t d)) :
  ∃u,(Jw a.tmps rv).run P w=.ok u w/\BR w O0 t u d:=by
 unfold Nv at h;have e:=Kt (l:=M7 (Kv tb σ rv)) hs;generalize DG (M7 (Kv tb σ rv)) σ=f at h e;cases c:Kv tb f rv with
 | none=>rw[c]at h;simp[Ja]at h
 | some v =>
  rw[c]at h;simp only[Ja]at h;obtain⟨u,h1,g⟩:=Uc hT e c;have i:=LU (V:=vw w O0 f ρ) (O':=O0) (λb j k=>j (.inl k)) (λh=>by cases h) e.objs h g;exact⟨u,h1,i⟩
theorem A2f (hT:DH P tb) {K:Nat->Prop} {σ:St} {ρ:Nat->Value} {a:Act} {w:World} (hs:B9 w0 K O0 nt ds σ ρ a w):∀ {f:List ResultVar} {c:List RV},(∀r∈c,∃t d,r=.p t d)->Nw tb σ f c ->
  ∃e:List Value,(f.mapM (Jw a.tmps)).run P w=.ok e w/\e.length=c.length /\
   ∀nm V,V.w=w->(∀b,V.O b->O0 b)->Hx V (Hr nm c) e
 | [],[],_,_=>⟨[],by simp,rfl,λ_ _ _ _=>rfl⟩
 | [],_ :: _,_,h=>by simp[Nw]at h
 | _ :: _,[],_,h=>by simp[Nw]at h
 | rv :: f,r :: c,hp,h=>by
  obtain⟨t,d,rfl⟩:=hp r (by simp);have g:Nv tb σ rv (.p t d)/\Nw tb σ f c:=by
   cases f with
   | nil =>
    cases c with
    | nil=>exact⟨h,trivial⟩
    | cons q s=>exact⟨h.1,h.2⟩
   | cons v x=>exact⟨h.1,h.2⟩
  obtain⟨u,h1,n⟩:=A5S hT hs g.1;obtain⟨e,o,i,j⟩:=A2f hT hs (λr l=>hp r (by simp[l])) g.2;refine⟨u :: e,?_,by simp[i],λnm V m k=>⟨u,e,rfl,?_,j _ V m k⟩⟩
  .simp_all
  show BR V.w V.O t u d;grind [BR.mono]
def Va (P:Program) (fn:Func) (w0:World) (O0:Nat->Prop) (outs:List RV):Exit->Act->World->Prop :=
 bodyPost P fn λe w'=>∃u,e=.returned u/\A24 w0 O0 outs u w'
theorem A2g (s:(cx P tb w0 O0 nt).Ok) {fn:Func} {outs:List RV} {σ:St} {e:Exit} (x:e=.ret\/e=.normal) (hp:∀r∈outs,∃t d,r=.p t d) (h:Nw tb σ fn.results.toList outs) :
  Ev (cx P tb w0 O0 nt) (Va P fn w0 O0 outs) (.out e) [] σ:=by
 intro _ _ a w hs;obtain⟨ρ,hs⟩:=hs;obtain⟨f,h1,g,k⟩:=A2f s.T hs hp h;have h1:(fn.results.toList.mapM (Jw a.tmps)).run P w=.ok f w:=h1;have q:Below w0.heap.size w0 w:=⟨hs.frm.os,hs.frm.tape,hs.frm.output,hs.frm.size,hs.frm.block⟩;have C:∃v,(results fn a.tmps).run P w=.ok v w/\A24 w0 O0 outs v w:=by
  have z:(fn.results.mapM (Jw a.tmps)).run P w=.ok f.toArray w:=by
   rw[AEw]
   simp_all
  refine⟨if h:f.toArray.size=1 then f.toArray[0] else .tuple f.toArray,?_,λnm=>⟨λ_=>undef,?_⟩⟩
  .rw[OY];simp only[ADx,z,iF,AED]
  have y:Cp nm outs=[]:=by
   clear h h1 g k;induction outs generalizing nm with
   | nil=>rfl
   | cons r E D =>
    obtain⟨t,d,rfl⟩:=hp r (by simp);simp only[Cp,S6,ADP];exact D (λr B=>hp r (by simp[B])) (nm+10000)
  rw[y];refine⟨q,λ_ _=>rfl,?_,(λ_ _ h=>by cases h),(λ_ _ _ h=>by cases h),(λ_ _ _ _ _ h=>by cases h)⟩;have c:=k nm (vw w O0 (ET ⟨[],[]⟩ []) (λ_=>undef)) rfl (λb m=>by
   rcases m with h0|⟨n,⟨o,A⟩,_⟩
   .exact h0
   simp[ET,lk]at A)
  match outs,hp,f,g,c with
  | [],_,f,g,c =>
   have c:f=[]:=c;subst c;exact(rfl:_=_)
  | [r],hp,f,g,c =>
   obtain⟨u,l,rfl,i,j⟩:=c;have j:l=[]:=j;subst j;simp only[HS];exact A1N i
  | F :: G :: E,hp,f,g,c =>
   have:¬f.toArray.size=1:=by simp at g ⊢;omega
   rw[dif_neg this];exact⟨f,rfl,c⟩
 obtain⟨v,c,i⟩:=C;rcases x with rfl|rfl
 .exact⟨hs.defers,v,c,v,rfl,i⟩
 exact⟨hs.defers,v,c,v,rfl,i⟩
end
end
section
open Go Go.RowKit
def Ty.ok:(t:Ty)->t.den->Prop
 | .int k,d=>KW k d
 | .bool,_=>True
 | .str,d=>ByteArray.size d<=AO
 | .slice e,d=>List.length d<=AO/\∀x∈(d:List e.den),e.ok x
 | .prod a b,d=>a.ok d.1/\b.ok d.2
 | .agg t,d=>t.ok d
 | .ref _,_=>True
theorem H6 {w:World} {O:Nat->Prop}:∀ {t:Ty} {cs:List Value} {d:t.den},B0 w O t cs d->t.ok d
 | .int _,_,_,h=>h.2
 | .bool,_,_,_=>trivial
 | .str,_,_,h=>h.2
 | .ref _,_,_,_=>trivial
 | .slice e,_,d,h=>by
  obtain⟨a,c,_,_,f,g⟩:=h;refine⟨f,λx hx=>?_⟩;rcases g with g|⟨ad,_,_,j⟩
  .subst g;simp at hx
  obtain⟨i,hi,rfl⟩:=ADu.1 hx;obtain⟨l,_,_,k⟩:=j i _ (AT hi);exact H6 k
 | .prod a b,_,_,h=>by
  obtain⟨c1,c2,_,h1,f⟩:=h;exact⟨H6 h1,H6 f⟩
 | .agg t,cs,d,h=>by
  have h:B0 w O t cs d:=h;exact(H6 h:t.ok d)
def oks:(ts:List Ty)->Ka ts->Prop
 | [],_=>True
 | t :: ts,d=>t.ok d.1/\oks ts d.2
theorem qK {w:World} {O:Nat->Prop}:∀ {ts:List Ty} {a:List Value} {ds:Ka ts},Pv w O ts a ds->oks ts ds
 | [],_,_,_=>trivial
 | t :: ts,a,ds,h=>by
  obtain⟨v,r,rfl,⟨cs,h1,_⟩,b⟩:=h;exact⟨H6 h1,qK b⟩
section
variable {P:Program} {tb:Tb} {w0:World} {O0:Nat->Prop} {nt:Nat}
theorem A8J {f : FuncId} {fn : Func} {cd : Code} {sp : AZ} (d : P.funcs[f]? = some fn) (j : (fn.name == "runtime.NumGoroutine") = false) (c : fn.body = some cd) (k : fn.ntmps = nt) (m : sp.ins.length <= nt)
  (i:Bl nt cd=true) (hT:DH P tb) (hF:Iz P tb)
  (h:∀(w0:World) (O0:Nat->Prop) (ds:Ka sp.ins),(cx P tb w0 O0 nt).Ok->oks sp.ins ds->sp.pre ds->Ev (cx P tb w0 O0 nt) (Va P fn w0 O0 (sp.out ds)) (.run cd) [] ⟨AM 0 sp.ins ds,[]⟩):Af P f sp:=by
 refine⟨⟨fn,d,j,by simp[c]⟩,λw O p ds e a l=>?_⟩;refine calls_of_wp d c ((wpIn_wide (n:=0)).1 ?_);have o:=TR a;rw[k];exact h w O ds ⟨λb g=>g,e,hT,hF⟩ (qK a) l i rfl _ _ (z5 a (by omega))
theorem mA (M:(cx P tb w0 O0 nt).Ok) {fn:Func} {et:TypeId} {e:Ty} {xs:List e.den} {σ:St} {ex:Exit} (j:ex=.ret\/ex=.normal) {rv:ResultVar} (Q:fn.results=#[rv]) (h:Nv tb σ rv (.own et e xs)) :
  Ev (cx P tb w0 O0 nt) (Va P fn w0 O0 [.own et e xs]) (.out ex) [] σ:=by
 intro _ _ a w hs;obtain⟨ρ,hs⟩:=hs;have K:Below w0.heap.size w0 w:=⟨hs.frm.os,hs.frm.tape,hs.frm.output,hs.frm.size,hs.frm.block⟩;unfold Nv at h;simp only at h;split at h
 .rename_i n X hi R;obtain⟨rfl,c,rfl⟩:=h;cases hn:lk n σ.objs with
  | none=>rw[hn]at c;simp[Jv]at c
  | some o =>
   rw[hn]at c;cases o with
   | box d st fs=>simp[Jv]at c
   | mapo k v l=>simp[Jv]at c
   | frame aj fs=>simp[Jv]at c
   | loop L=>simp[Jv]at c
   | itr af ai ag ah ad=>simp[Jv]at c
   | dfr=>simp[Jv]at c
   | nest Y ae k e2 ys hl=>simp[Jv]at c
   | arr d e2 ys =>
    simp only[Jv]at c;split at c
    .rename_i O;subst O;obtain⟨rfl,G⟩:=Bh c;cases G;obtain⟨u,hu,I⟩:=Uc (P:=P) M.T hs R;obtain⟨Z,t⟩:=I;have A:=hs.objs n _ hn;have p:u=ρ n:=by
      obtain⟨U,m,c0,s,_,aa,S,V,rfl,_,h0,_⟩:=t;have s:plc (ρ n)=_:=s;obtain⟨rfl,rfl⟩:=h0 rfl;obtain⟨_,cells,r,_⟩:=A;have r:w.ownsRow 0 d e2.size (ρ n) ys.length cells:=r;rw[HZ r]at s;have q:m=ys.length:=by
       rcases r.2 with ⟨j,ab⟩|⟨g,cap,W,j,_⟩
       .rw[s]at j;injection j;omega
       rw[s]at j;injection j
      rw[s,q,Nat.sub_zero]
     have B:(results fn a.tmps).run P w=.ok u w:=by
      rw[OY,Q];have:((#[rv]:Array ResultVar).mapM (Jw a.tmps)).run P w=.ok #[u] w:=by
       rw[AEw];simp[hu]
      simp only[ADx,this,iF,AED];rfl
     have y:A24 w0 O0 [.own d e2 ys] u w:=by
      intro nm;have z:∀m,HG (ET ⟨[],[]⟩ [(nm,.arr d e2 ys)]) m↔m=nm:=by
       intro m;simp[HG,ET,lk]
      have hk:∀b,¬own O0 σ ρ b->¬own O0 (ET ⟨[],[]⟩ [(nm,.arr d e2 ys)]) (E5 (λ_=>undef) nm u) b:=by
       intro b f J;rcases J with h0|⟨m,hl,q⟩
       .exact f (.inl h0)
       rw[(z m).1 hl,Bo,p]at q;exact f (.inr ⟨n,⟨_,hn⟩,q⟩)
      have H:Cp nm [RV.own d e2 ys]=[(nm,.arr d e2 ys)]:=rfl;rw[H];refine⟨E5 (λ_=>undef) nm u,QS.one (loc:=u) K (λb f=>?_) ?_ ?_⟩
      .rw[p]at f;have:=(hs.free n b ⟨_,hn⟩ f).1;simp only[cx]at this;omega
      .refine⟨(z nm).2 rfl,?_⟩;show DT (plc (E5 (λ_=>undef) nm u nm)) _ _ _ u;rw[Bo,p];rw[p]at t;exact t
      rw[p];obtain⟨q,cells,r,N⟩:=A;refine⟨q,cells,r,λi x hi=>?_⟩;obtain⟨C,D,E,F⟩:=N i x hi;rw[p]at hk;exact⟨C,D,E,F.mono (λb _ f=>hk b f) (λ_ _ _=>rfl)⟩
     rcases j with rfl|rfl
     .exact⟨hs.defers,u,B,u,rfl,y⟩
     exact⟨hs.defers,u,B,u,rfl,y⟩
    cases c
 exact h.elim
end
end
section
open Go Go.RowKit
section
variable {P:Program} {tb:Tb} {w0:World} {O0:Nat->Prop} {nt:Nat} {R:Exit->Act->World->Prop} {k:List DU} {σ σ':St}
theorem eZ:(cx P tb w0 O0 nt).tb=tb:=rfl
theorem mB {c:Cx} (a:c.Ok) {id:Nat} {l:List Oper} {vc:Prop} (h:Bn c.tb l l σ=some (vc,σ')) (b:vc) (hk:Ev c R (.out .normal) k σ') :
  Ev c R (.run (.region id l.toArray false)) k σ:=z4 a (by
 show EvR _ _ _ (Bn c.tb l l σ);rw[h];exact⟨b,hk⟩)
theorem Dd {c:Cx} {o:Operand} {x y:Code} {b:Bool} (h:Ap σ o=some (.p .bool b)) (a:b=true->Ev c R (.run x) k σ) (hf:b=false->Ev c R (.run y) k σ):Ev c R (.run (.cond o x y)) k σ :=
 A5R (by rw[h];exact⟨a,hf⟩)
theorem mC {c:Cx} {id:Nat} (h:Ev c R (.out .normal) k σ):Ev c R (.out (.exit id)) (.blk id :: k) σ:=TQ (by rw[BY rfl];exact h)
theorem mD {c:Cx} {id a:Nat} (b:a≠id) (h:Ev c R (.out (.exit a)) k σ):Ev c R (.out (.exit a)) (.blk id :: k) σ:=TQ (by rw[As b];exact h)
end
inductive B1 where
 | nm (n:Nat)
 | nil
def Dw (ren:List (Nat×B1)):AV->AV->Prop
 | .p t d,.p u a=>BO u ⟨t,d⟩=some a
 | .raw (.slice none 0 0),.p (.slice e) a=>(a:List e.den)=[]
 | .raw v,.raw u=>v=u
 | .raw (.slice none 0 0),.sr m _ lo hi=>lk m ren=some .nil/\lo=0/\hi=0
 | .sr n e lo hi,.sr m b h c=>lk m ren=some (.nm n)/\e=b/\lo=h/\hi=c
 | .ip t d,.ip u a=>BO u ⟨t,d⟩=some a
 | .bp n p o,.bp m k j=>lk m ren=some (.nm n)/\p=k/\o=j
 | .fn f,.fn g=>f=g
 | .clo f ns,.clo g i=>f=g/\i.map (λm=>lk m ren)=ns.map λn=>some (.nm n)
 | .mp n,.mp m=>lk m ren=some (.nm n)
 | .yl n,.yl m=>lk m ren=some (.nm n)
 | _,.top=>True
 | _,_=>False
def FE (ren:List (Nat×B1)):List AV->List AV->Prop
 | [],[]=>True
 | x :: l,y :: r=>(x.cells=y.cells/\Dw ren x y)/\FE ren l r
 | _,_=>False
def H7 (ren:List (Nat×B1)):AV->AV->Prop
 | .ag l,.ag r=>FE ren l r
 | x,y=>Dw ren x y
def I9 (ren:List (Nat×B1)):List AV->List AV->Prop
 | [],[]=>True
 | x :: l,y :: r=>H7 ren x y/\I9 ren l r
 | _,_=>False
def Bi (ren:List (Nat×B1)):AV->AV->Prop
 | .tup l,.tup r=>I9 ren l r
 | x,y=>H7 ren x y
def Kw (ren:List (Nat×B1)):Option AV->AV->Prop
 | some x,y=>Bi ren x y
 | none,.top=>True
 | none,_=>False
def FF (env:List (Nat×AV)) (ren:List (Nat×B1)):List (Nat×AV)->Prop
 | []=>True
 | (s,y) :: r=>Kw ren (lk s env) y/\FF env ren r
def H8 (ren:List (Nat×B1)):Option Obj->Obj->Prop
 | some (.arr et e xs),.arr a c ys=>et=a/\BO (.slice c) ⟨.slice e,xs⟩=some ys
 | some (.box et st fs),.box a q d=>et=a/\st=q/\FE ren fs d
 | some (.nest et n k e xs h),.nest a o b c ys m=>(et=a/\n=o/\h=m)/\BO (.slice (.prod b (.slice c))) ⟨.slice (.prod k (.slice e)),xs⟩=some ys
 | some (.mapo k v l),.mapo b f l'=>BO (.slice (.prod b f)) ⟨.slice (.prod k v),l⟩=some l'
 | some (.frame r fs),.frame s d=>r=s/\FF fs ren d
 | some (.itr k v l lf i),.itr b f l' p j=>BO (.slice (.prod b f)) ⟨.slice (.prod k v),l⟩=some l'/\lf=p/\i=j
 | some (.loop L),.loop g=>L=g
 | some .dfr,.dfr=>True
 | _,_=>False
def GY (objs:List (Nat×Obj)) (ren:List (Nat×B1)) (o:Obj):Option B1->Prop
 | some (.nm n)=>H8 ren (lk n objs) o
 | some .nil=>match o with
  | .arr _ e ys=>(ys:List e.den)=[]
  | .box _ _ _=>False
  | .nest _ _ k e ys _=>(ys:List (k.den×List e.den))=[]
  | .mapo _ _ _=>False
  | .frame _ _=>False
  | .itr _ _ _ _ _=>False
  | .loop _=>False
  | .dfr=>False
 | none=>False
def Ad (objs:List (Nat×Obj)) (ren:List (Nat×B1)):List (Nat×Obj)->Prop
 | []=>True
 | (m,o) :: r=>GY objs ren o (lk m ren)/\Ad objs ren r
def B8:List (Nat×B1)->Bool
 | []=>true
 | (_,.nm n) :: r=>(r.all λp=>match p.2 with|.nm a=>a != n|.nil=>true)&&B8 r
 | (_,.nil) :: r=>B8 r
def Ly {α:Type}:List (Nat×α)->Bool
 | []=>true
 | (n,_) :: r=>(r.all λp=>p.1 != n)&&Ly r
section
variable {ren:List (Nat×B1)} {V V':Vw}
structure Lz (ren:List (Nat×B1)) (V V':Vw):Prop where
 w:V'.w=V.w
 O:∀b,¬V.O b->¬V'.O b
 ρ:∀m n,lk m ren=some (.nm n)->V'.ρ m=V.ρ n
 nil:∀m,lk m ren=some .nil->V'.ρ m=.slice none 0 0
 L:∀m f,lk m ren=some f->V'.L m
theorem Lz.vrep (h:Lz ren V V') {t:Ty} {v:Value} {d:t.den} (c:BR V.w V.O t v d):BR V'.w V'.O t v d :=
 BR.mono (λb _ a=>h.O b a) (λb _ _=>by rw[h.w]) c
theorem Lz.rep (h:Lz ren V V') {t:Ty} {cs:List Value} {d:t.den} (c:B0 V.w V.O t cs d):B0 V'.w V'.O t cs d :=
 c.mono (λb _ a=>h.O b a) (λb _ _=>by rw[h.w])
theorem Lz.map (h:Lz ren V V'):∀ {b ns:List Nat},b.map (λm=>lk m ren)=ns.map (λn=>some (B1.nm n))->b.map V'.ρ=ns.map V.ρ/\∀m∈b,∃n∈ns,lk m ren=some (.nm n)
 | [],[],_=>⟨rfl,λ_ h=>by cases h⟩
 | [],_ :: _,a=>by simp at a
 | _ :: _,[],a=>by simp at a
 | m :: b,n :: ns,a=>by
  simp only[RS,AEy]at a;obtain⟨h1,c⟩:=h.map a.2;refine⟨by simp only[RS,h1,h.ρ _ _ a.1],λx hx=>?_⟩;grind
theorem Yg (h:Lz ren V V') {x y:AV} {v:Value} (b:Dw ren x y) (hx:VL V x v):VL V' y v/\(∀t d,y=.p t d->(∀u f,x≠.p u f)->v.oneCell'=true->B0 V'.w V'.O t [v] d):=by
 unfold Dw at b;split at b
 .have:=A8 b;injection this with h1 c
  subst h1;cases c;exact⟨h.vrep hx,λ_ _ _ r=>absurd rfl (r _ _)⟩
 .have hx:v=_:=hx;subst hx;have g:=b;have i:∀(O:Nat->Prop) (e:Ty),B0 V'.w O (.slice e) [.slice none 0 0] ([]:List e.den):=λO e=>⟨none,0,rfl,by simp,by simp[AO],.inl rfl⟩;rename_i e f;have g:f=([]:List e.den):=g;subst g;refine⟨⟨_,i _ _,rfl⟩,λt d a _ _=>?_⟩;grind
 .subst b;exact⟨hx,λt d a=>by cases a⟩
 .rename_i m e lo hi;obtain⟨h1,rfl,rfl⟩:=b;have hx:v=_:=hx;subst hx;refine⟨⟨h.L _ _ h1,?_⟩,λt d a=>by cases a⟩;rw[h.nil _ h1];exact⟨none,0,0,rfl,by omega,by omega,none,0,rfl,by omega,λ_=>⟨rfl,rfl⟩,λh=>by omega⟩
 .obtain⟨h1,rfl,rfl,rfl⟩:=b;refine⟨⟨h.L _ _ h1,?_⟩,λt d a=>by cases a⟩;rw[h.ρ _ _ h1];exact hx.2
 .have:=A8 b;injection this with h1 c
  subst h1;cases c;obtain⟨ad,cs,a,l,o,i⟩:=hx;exact⟨⟨ad,cs,a,h.O _ l,λj u q=>by rw[h.w];exact o j u q,h.rep i⟩,λt d a=>by cases a⟩
 .obtain⟨h1,rfl,rfl⟩:=b;refine⟨⟨h.L _ _ h1,?_⟩,λt d a=>by cases a⟩;rw[h.ρ _ _ h1];exact hx.2
 .subst b;exact⟨hx,λt d a=>by cases a⟩
 .obtain⟨rfl,hl⟩:=b;obtain⟨h1,c⟩:=h.map hl;refine⟨⟨?_,λm b=>?_⟩,λt d a=>by cases a⟩
  .rw[h1];exact hx.1
  obtain⟨n,hn,k⟩:=c m b;refine⟨h.L _ _ k,?_⟩;rw[h.ρ _ _ k];exact(hx.2 n hn).2
 .refine⟨⟨h.L _ _ b,?_⟩,λt d a=>by cases a⟩;rw[h.ρ _ _ b];exact hx.2
 .refine⟨⟨h.L _ _ b,?_⟩,λt d a=>by cases a⟩;rw[h.ρ _ _ b];exact hx.2
 .exact⟨trivial,λt d a=>by cases a⟩
 exact b.elim
theorem z6 (h:Lz ren V V') {x y:AV} {cs:List Value} (c:x.cells=y.cells) (a:Dw ren x y) (hx:Ng V x cs):Ng V' y cs:=by
 by_cases hp:∃t d,x=.p t d
 .obtain⟨t,d,rfl⟩:=hp;have hx:B0 V.w V.O t cs d:=hx;cases y<;>simp only[Dw]at a<;>try exact a.elim
  .have:=A8 a;injection this with h1 b
   subst h1;cases b;exact h.rep hx
  have hl:=hx.length;simp only[AV.cells]at c;rw[c]at hl;obtain⟨v,rfl⟩:=AEo.1 hl;exact⟨v,rfl,hx.one v (by simp),trivial⟩
 have j:∃v,cs=[v]/\v.oneCell'=true/\VL V x v:=by
  cases x;case p t d=>exact absurd ⟨t,d,rfl⟩ hp
  all_goals exact hx
 obtain⟨v,rfl,h1,b⟩:=j;obtain⟨g,i⟩:=Yg h a b;cases y;case p t d=>exact i t d rfl (λu f e=>hp ⟨u,f,e⟩) h1
 all_goals exact⟨v,rfl,h1,g⟩
theorem OZ (h:Lz ren V V'):∀ {l r:List AV} {cs:List Value},FE ren l r->Dc V l cs->Dc V' r cs
 | [],[],cs,_,hx=>hx
 | [],_ :: _,cs,a,_=>a.elim
 | _ :: _,[],cs,a,_=>a.elim
 | x :: l,y :: r,cs,a,hx=>by
  obtain⟨c1,c2,rfl,h1,b⟩:=hx;exact⟨c1,c2,rfl,z6 h a.1.1 a.1.2 h1,OZ h a.2 b⟩
theorem LX:∀ {l r:List AV},FE ren l r->l.length=r.length
 | [],[],_=>rfl
 | [],_ :: _,a=>a.elim
 | _ :: _,[],a=>a.elim
 | _ :: _,_ :: _,a=>by simp[LX a.2]
theorem Yh (h:Lz ren V V') {x y:AV} {v:Value} (a:H7 ren x y) (hx:TC V x v):TC V' y v:=by
 cases x;case ag l =>
  cases y;case ag r =>
   obtain⟨cs,e,h1⟩:=hx;exact⟨cs,e,OZ h a h1⟩
  all_goals simp only[H7,Dw]at a
  all_goals first|exact a.elim|exact trivial
 all_goals
  simp only[TC]at hx;have a:Dw ren _ y:=a;exact TC.of1 (Yg h a hx).1
theorem e9 (h:Lz ren V V'):∀ {l r:List AV} {b:List Value},I9 ren l r->Hx V l b->Hx V' r b
 | [],[],b,_,hx=>hx
 | [],_ :: _,b,a,_=>a.elim
 | _ :: _,[],b,a,_=>a.elim
 | x :: l,y :: r,b,a,hx=>by
  obtain⟨v,d,rfl,h1,c⟩:=hx;exact⟨v,d,rfl,Yh h a.1 h1,e9 h a.2 c⟩
theorem M8 (h:Lz ren V V') {x y:AV} {v:Value} (a:Bi ren x y) (hx:B3 V x v):B3 V' y v:=by
 cases x;case tup l =>
  cases y;case tup r =>
   obtain⟨b,e,h1⟩:=hx;exact⟨b,e,e9 h a h1⟩
  all_goals simp only[Bi,H7,Dw]at a
  all_goals first|exact a.elim|exact trivial
 all_goals
  simp only[Bi]at a;exact A1N (Yh h a hx)
theorem DK {objs:List (Nat×Obj)} {m:Nat} {o:Obj}:∀ {l:List (Nat×Obj)},Ad objs ren l->lk m l=some o->GY objs ren o (lk m ren)
 | (j,x) :: l,h,hl=>by
  simp only[lk]at hl;split at hl
  .rename_i e;cases hl;subst e;exact h.1
  exact DK h.2 hl
theorem L1 {env:List (Nat×AV)} {s:Nat} {y:AV}:∀ {l:List (Nat×AV)},FF env ren l->lk s l=some y->Kw ren (lk s env) y
 | (j,x) :: l,h,hl=>by
  simp only[lk]at hl;split at hl
  .rename_i e;cases hl;subst e;exact h.1
  exact L1 h.2 hl
theorem Ud:∀ {l:List (Nat×B1)} {m c n:Nat},B8 l=true->lk m l=some (.nm n)->lk c l=some (.nm n)->m=c
 | (j,f) :: l,m,c,n,a,h1,b=>by
  simp only[lk]at h1 b;have e:B8 l=true:=by
   cases f<;>simp only[B8,An]at a
   .exact a.2
   exact a
  have g:∀q,f=.nm n->lk q l=some (.nm n)->False:=by
   intro q hf d;subst hf;simp only[B8,An,ON]at a;have:=a.1 _ (Fu d);simp at this
  split at h1
  .grind
  split at b
  .grind
  exact Ud e h1 b
def AAx (n:Nat):Option B1->Bool
 | some (.nm m)=>m==n
 | _=>false
def A9o (pin:List (Nat×Value)) (ren:List (Nat×B1)):Bool:=pin.all λp=>AAx p.1 (lk p.1 ren)
theorem Ru {V V':Vw} (a:Lz ren V V') {M:List (Nat×Obj)} (ae:∀n x,lk n M=some x->A3 V x (V.ρ n)) {o:Obj} {m:Nat} (hf:GY M ren o (lk m ren)):A3 V' o (V'.ρ m):=by
 cases I:lk m ren with
 | none=>rw[I]at hf;exact hf.elim
 | some f =>
  rw[I]at hf;cases f with
  | nil =>
   rw[a.nil m I];cases o with
   | box et st fs=>exact hf.elim
   | mapo k v l=>exact hf.elim
   | frame t fs=>exact hf.elim
   | loop L=>exact hf.elim
   | itr B E C D A=>exact hf.elim
   | dfr=>exact hf.elim
   | nest et ah k e ys hl =>
    have hf:ys=([]:List (k.den×List e.den)):=hf;subst hf;exact⟨_,[],[],.inr ⟨rfl,rfl,rfl⟩,by simp[AO],rfl,AEC _ 0 et _,λi x u h=>by simp at h,λi j b u v h=>by simp at h,λi b u h=>by simp at h⟩
   | arr et e ys =>
    have hf:ys=([]:List e.den):=hf;subst hf;exact⟨by simp[AO],[],AEC _ 0 et e.size,Hj _ _ _ _⟩
  | nm n =>
   rw[a.ρ m n I];simp only[GY]at hf;cases hn:lk n M with
   | none=>rw[hn]at hf;simp only[H8]at hf
   | some x =>
    rw[hn]at hf;have q:=ae n x hn;cases x with
    | arr et e xs =>
     cases o with
     | box c st fs=>exact hf.elim
     | mapo k v l=>exact hf.elim
     | frame t fs=>exact hf.elim
     | loop L=>exact hf.elim
     | itr B E C D A=>exact hf.elim
     | dfr=>exact hf.elim
     | nest _ _ _ _ _ _=>exact hf.elim
     | arr c p ys =>
      obtain⟨rfl,g⟩:=hf;obtain⟨rfl,d⟩:=Bh g;cases d;obtain⟨ab,cells,ad,Z⟩:=q;refine⟨ab,cells,by rw[a.w];exact ad,λi z hi=>?_⟩;obtain⟨J,Q,R,S⟩:=Z i z hi;exact⟨J,Q,R,a.rep S⟩
    | box et st fs =>
     cases o with
     | arr c p ys=>exact hf.elim
     | mapo k v l=>exact hf.elim
     | frame t fs=>exact hf.elim
     | loop L=>exact hf.elim
     | itr B E C D A=>exact hf.elim
     | dfr=>exact hf.elim
     | nest _ _ _ _ _ _=>exact hf.elim
     | box c ar T =>
      obtain⟨rfl,rfl,G⟩:=hf;obtain⟨h0,b,cs,F,hh,Y⟩:=q;exact⟨λaf=>by rw[<-LX G];exact h0 af,b,cs,F,by rw[a.w];exact hh,OZ a G Y⟩
    | nest et ah k e xs h =>
     cases o with
     | nest c ap N p ys ao =>
      obtain⟨⟨rfl,rfl,rfl⟩,g⟩:=hf;have g:=A8 g;injection g with h1 y
      injection h1 with h1
      injection h1 with h1 d
      injection d with d
      subst h1;subst d;cases y;exact zR a.w a.O q
     | mapo k v l=>exact hf.elim
     | box c st fs=>exact hf.elim
     | arr c p ys=>exact hf.elim
     | frame t fs=>exact hf.elim
     | loop L=>exact hf.elim
     | itr B E C D A=>exact hf.elim
     | dfr=>exact hf.elim
    | mapo k v l =>
     cases o with
     | mapo N al l' =>
      have g:=A8 hf;injection g with h1 y
      injection h1 with h1
      injection h1 with h1 d
      subst h1;subst d;cases y;obtain⟨b,J,cl,F,hh,aa,X⟩:=q;exact⟨b,J,cl,F,by rw[a.w];exact hh,aa.mono (λb _ K=>a.O b K) (λb _ _=>by rw[a.w]),X⟩
     | box c st fs=>exact hf.elim
     | arr c p ys=>exact hf.elim
     | frame t fs=>exact hf.elim
     | loop L=>exact hf.elim
     | itr B E C D A=>exact hf.elim
     | dfr=>exact hf.elim
     | nest _ _ _ _ _ _=>exact hf.elim
    | frame t fs =>
     cases o with
     | frame au T =>
      obtain⟨rfl,G⟩:=hf;obtain⟨h0,h1⟩:=q;refine⟨h0,λs v ag=>?_⟩;have H:=L1 G ag;cases hx:lk s fs with
      | none =>
       rw[hx]at H;cases v<;>simp only[Kw]at H;exact trivial
      | some x =>
       rw[hx]at H;exact M8 a H (h1 s x hx)
     | mapo k v l=>exact hf.elim
     | box c st fs=>exact hf.elim
     | arr c p ys=>exact hf.elim
     | loop L=>exact hf.elim
     | itr B E C D A=>exact hf.elim
     | dfr=>exact hf.elim
     | nest _ _ _ _ _ _=>exact hf.elim
    | itr k v l lf am =>
     cases o with
     | itr N al l' aq an =>
      obtain⟨hf,rfl,rfl⟩:=hf;have g:=A8 hf;injection g with h1 y
      injection h1 with h1
      injection h1 with h1 d
      subst h1;subst d;cases y;obtain⟨r,F,b,ai,cl,ak,aj,h1,y,d,U,W⟩:=q;exact⟨r,F,b,ai,cl,ak,aj,by rw[a.w];exact h1,a.O b y,by rw[a.w];exact d,U.mono (λb _ K=>a.O b K) (λb _ _=>by rw[a.w]),W⟩
     | mapo k v l=>exact hf.elim
     | box c st fs=>exact hf.elim
     | arr c p ys=>exact hf.elim
     | frame t fs=>exact hf.elim
     | loop L=>exact hf.elim
     | dfr=>exact hf.elim
     | nest _ _ _ _ _ _=>exact hf.elim
    | loop L =>
     cases o with
     | loop P =>
      have hf:L=P:=hf;subst hf;obtain⟨b,hl,hh⟩:=q;exact⟨b,hl,by rw[a.w];exact hh⟩
     | itr B E C D A=>exact hf.elim
     | mapo k v l=>exact hf.elim
     | box c st fs=>exact hf.elim
     | arr c p ys=>exact hf.elim
     | frame t fs=>exact hf.elim
     | dfr=>exact hf.elim
     | nest _ _ _ _ _ _=>exact hf.elim
    | dfr =>
     cases o with
     | dfr =>
      obtain⟨b,hl,hh⟩:=q;exact⟨b,hl,by rw[a.w];exact hh⟩
     | nest _ _ _ _ _ _=>exact hf.elim
     | mapo k v l=>exact hf.elim
     | box c st fs=>exact hf.elim
     | arr c p ys=>exact hf.elim
     | frame t fs=>exact hf.elim
     | loop L=>exact hf.elim
     | itr B E C D A=>exact hf.elim
def CO (objs:List (Nat×Obj)) (ren:List (Nat×B1)):Bool:=ren.all λp=>(lk p.1 objs).isSome
theorem AC {c:Cx} {σ σ':St} (ren:List (Nat×B1)) (h1:B8 ren=true) (l:CO σ'.objs ren=true) (u:Ad σ.objs ren σ'.objs) (D:FF σ.env ren σ'.env) (hp:A9o c.ds.pin ren=true:=by rfl):Ent c σ σ':=by
 rintro a w ⟨ρ,hs⟩
 let ρ':Nat->Value:=λm=>match lk m ren with|some (.nm n)=>ρ n|_=>.slice none 0 0
 have t:∀m n,lk m ren=some (.nm n)->ρ' m=ρ n:=λm n d=>by simp[ρ',d]
 have r:∀m,lk m ren=some .nil->ρ' m=.slice none 0 0:=λm d=>by simp[ρ',d]
 have B:∀m f,lk m ren=some f->HG σ' m:=λm f d=>by
  simp only[CO,ON]at l;have:=l _ (Fu d);exact AEg.1 this
 have i:∀m b,HG σ' m->bk (ρ' m) b->∃n,lk m ren=some (.nm n)/\HG σ n/\bk (ρ n) b:=by
  rintro m b ⟨o,d⟩ e;have hf:=DK u d;cases h:lk m ren with
  | none=>rw[h]at hf;exact hf.elim
  | some f =>
   cases f with
   | nil=>rw[r m h]at e;simp[bk,blk]at e
   | nm n =>
    rw[h]at hf;rw[t m n h]at e;refine⟨n,rfl,?_,e⟩;cases hn:lk n σ.objs with
    | none=>simp only[GY,hn,H8]at hf
    | some x=>exact⟨x,hn⟩
 have q:Lz ren (vw w c.O0 σ ρ) (vw w c.O0 σ' ρ'):=by
  refine⟨rfl,λb e j=>?_,t,r,B⟩;rcases j with h0|⟨m,hl,d⟩
  .exact e (.inl h0)
  obtain⟨n,_,hn,g⟩:=i m b hl d;exact e (.inr ⟨n,hn,g⟩)
 refine⟨ρ',hs.frm,hs.nt,hs.defers,λp y=>?_,λm o d=>?_,λm b hl e=>?_,λm H b hl E e j=>?_,λs v G=>?_⟩
 .obtain⟨J,K,L⟩:=hs.pin p y;simp only[A9o,ON]at hp;have k:=hp p y;unfold AAx at k;split at k
  .grind
  cases k
 .exact Ru q hs.objs (DK u d)
 .obtain⟨n,_,hn,g⟩:=i m b hl e;exact hs.free n b hn g
 .obtain⟨n,z,hn,g⟩:=i m b hl e;obtain⟨I,A,F,C⟩:=i H b E j;have:=hs.dist n I b hn F g C;subst this;exact Ud h1 z A
 have d:=L1 D G;cases hx:lk s σ.env with
 | none =>
  rw[hx]at d;cases v<;>simp only[Kw]at d;exact trivial
 | some x =>
  rw[hx]at d;exact M8 q d (hs.env s x hx)
end
end
section
open Go
theorem Gx (b:Bool):Rl true (some (.p .bool b))=some b:=by cases b<;>rfl
theorem Fy (b:Bool):Rl false (some (.p .bool b))=some (!b):=by cases b<;>rfl
theorem M9:IntKind.i64.min=-9223372036854775808:=by decide
theorem NA:IntKind.i64.max=9223372036854775807:=by decide
theorem NB:IntKind.u64.min=0:=by decide
theorem NC:IntKind.u64.max=18446744073709551615:=by decide
theorem Rv:IntKind.u8.min=0:=by decide
theorem Rw:IntKind.u8.max=255:=by decide
theorem ND (n:Int):KW .i64 n↔-9223372036854775808<=n/\n<=9223372036854775807:=by unfold KW;rw[M9,NA]
theorem JA (n:Int):KW .u64 n↔0<=n/\n<=18446744073709551615:=by unfold KW;rw[NB,NC]
theorem Vb (n:Int):KW .u8 n↔0<=n/\n<=255:=by unfold KW;rw[Rv,Rw]
theorem QD {α:Type} (x:α):sub [x] 0 1=[x]:=rfl
theorem H9 {α:Type} (xs:List α) (n:Nat):sub xs 0 n=xs.take n:=by simp[sub]
theorem A2h (n:Nat):((n:Int)).toNat=n:=RK n
theorem Fz (n:Nat):(0<=(n:Int))=True:=eq_true (ADD n)
end
section
open Go Go.RowKit
section
variable {tb:Tb} {σ σ':St}
def dU (σ σ':St):Prop:=∀n o,lk n σ.objs=some o->lk n σ'.objs=some o
theorem A2i (h:dU σ σ') {e:Ty} {lo hi n:Nat} {d:List e.den} (hs:Rc e lo hi (lk n σ.objs)=some d):Rc e lo hi (lk n σ'.objs)=some d:=by
 cases hn:lk n σ.objs with
 | none=>rw[hn]at hs;simp[Rc]at hs
 | some o=>rw[h n o hn,<-hn];exact hs
theorem z7 (h:dU σ σ') {e:Ty} {i n:Nat} {d:List e.den} (hs:Rh e i (lk n σ.objs)=some d):Rh e i (lk n σ'.objs)=some d:=by
 cases hn:lk n σ.objs with
 | none=>rw[hn]at hs;simp[Rh]at hs
 | some o=>rw[h n o hn,<-hn];exact hs
theorem Jx (h:dU σ σ') {l:Bool} {t:Ty} {x:AV} {d:t.den} (hs:E2 l σ t x=some d):E2 l σ' t x=some d:=by
 unfold E2 at hs ⊢;split at hs
 .exact hs
 .grind [A2i]
 .grind [z7]
 .exact hs
 cases hs
theorem Yi (h:dU σ σ') {l:Bool}:∀ {fs:List AV} {t:Ty} {d:t.den},Kb l σ fs t=some d->Kb l σ' fs t=some d
 | [],t,d,hs=>by simp[Kb]at hs
 | [x],t,d,hs=>by grind [Kb,Jx]
 | x :: y :: r,t,d,hs=>by
  cases t<;>simp only[Kb]at hs ⊢<;>try(cases hs;done)
  rename_i a b;cases h1:E2 l σ a x with
  | none=>rw[h1]at hs;simp[Lk]at hs
  | some e =>
   cases c:Kb l σ (y :: r) b with
   | none=>rw[h1,c]at hs;simp[Lk]at hs
   | some f =>
    rw[Jx h h1,Yi h c];rw[h1,c]at hs;exact hs
theorem FG (h:dU σ σ') {l:Bool} {t:Ty} {x:AV} {d:t.den} (hs:Mx l σ t x=some d):Mx l σ' t x=some d:=by
 unfold Mx at hs ⊢;split at hs
 .exact Yi h hs
 exact Jx h hs
def Ops (σ σ':St) (xs:List Operand):Prop:=∀x∈xs,∀v,Ap σ x=some v->Ap σ' x=some v
theorem QE (h:dU σ σ') {e:Ty} {x:AV} {d:List e.den} (hs:Pf σ e x=some d):Pf σ' e x=some d:=by
 unfold Pf at hs ⊢;split at hs
 .rename_i n a lo hi;cases hn:lk n σ.objs with
  | none =>
   rw[hn]at hs;have hs:E2 true σ (.slice e) (.sr n a lo hi)=some d:=by simpa[Co,Mx] using hs
   simp only[E2,hn]at hs;split at hs<;>simp[Rc]at hs
  | some o =>
   rw[h n o hn];rw[hn]at hs;split at hs
   .cases hs
   grind [FG]
 exact FG h hs
theorem Vc (h:dU σ σ') {l:Bool}:∀ {ts:List Ty} {xs:List Operand} {ds:Ka ts},Ops σ σ' xs->GK l σ ts xs=some ds->GK l σ' ts xs=some ds
 | [],[],ds,_,hs=>hs
 | [],_ :: _,ds,_,hs=>by simp[GK]at hs
 | _ :: _,[],ds,_,hs=>by simp[GK]at hs
 | t :: ts,x :: xs,ds,a,hs=>by
  simp only[GK]at hs ⊢;cases hx:Ap σ x with
  | none=>rw[hx]at hs;cases hs
  | some v =>
   rw[a x (by simp) v hx];rw[hx]at hs;simp only at hs ⊢;split at hs
   .rename_i y ys b c;rw[FG h b,Vc h (λz d=>a z (by simp[d])) c];exact hs
   cases hs
theorem TS (h:dU σ σ') {e:Ty}:∀ {parts:List (Nat×Operand)} {k:Nat} {xs:List e.den},Ops σ σ' (parts.map (·.2))->E4 σ e k parts=some xs->E4 σ' e k parts=some xs
 | [],k,xs,_,hs=>hs
 | (i,x) :: r,k,xs,a,hs=>by
  simp only[E4]at hs ⊢;split at hs
  .rename_i c;rw[BY c];cases hx:Ap σ x with
   | none=>rw[hx]at hs;cases hs
   | some v =>
    rw[a x (by simp) v hx];rw[hx]at hs;simp only at hs ⊢;split at hs
    .rename_i y ys d f;rw[FG h d,TS h (λz b=>a z (by simp at b ⊢;exact .inr b)) f];exact hs
    cases hs
  cases hs
theorem fA (h:dU σ σ') {z:Option AV} {x:Operand} {v:AV} (c:∀v,Ap σ x=some v->Ap σ' x=some v) (hs:Fk σ z (Ap σ x)=some v):Fk σ' z (Ap σ' x)=some v:=by
 cases hx:Ap σ x with
 | none=>rw[hx]at hs;unfold Fk at hs;split at hs<;>simp at *
 | some a =>
  rw[c a hx];rw[hx]at hs;unfold Fk at hs ⊢;split at hs
  .rename_i t _ l b;cases b;simp only[OF]at hs ⊢;grind [FG]
  exact hs
theorem QF (h:dU σ σ') {offs:List (Nat×Nat)}:∀ {parts:List (Nat×Operand)} {fs a:List AV},Ops σ σ' (parts.map (·.2))->Dq σ offs fs parts=some a->Dq σ' offs fs parts=some a
 | [],fs,a,_,hs=>hs
 | (i,x) :: r,fs,a,b,hs=>by
  simp only[Dq]at hs ⊢;cases hx:Fk σ fs[i]? (Ap σ x) with
  | none=>rw[hx]at hs;cases hs
  | some v =>
   rw[fA h (b x (by simp)) hx];rw[hx]at hs;simp only at hs ⊢;split at hs
   .rename_i d;rw[BY d];exact QF h (λz c=>b z (by simp at c ⊢;exact .inr c)) hs
   cases hs
theorem Vd:∀ {xs:List Operand} {ns:List Nat},Ops σ σ' xs->Ht σ xs=some ns->Ht σ' xs=some ns
 | [],ns,_,hs=>hs
 | x :: r,ns,a,hs=>by
  simp only[Ht]at hs ⊢;split at hs
  .rename_i n d h1 b;rw[a x (by simp) _ h1,Vd (λz c=>a z (by simp[c])) b];exact hs
  cases hs
theorem Ue (h:dU σ σ') {d:Nat} {op:Op} {r:Prop×AV×List (Nat×Obj)} (j:Ops σ σ' op.operands.toList) (hs:aq tb σ d op=some r):aq tb σ' d op=some r:=by
 have one:∀ {x:Operand} {f:Option AV->BU},x∈op.operands.toList->f none=none->f (Ap σ x)=some r->f (Ap σ' x)=some r:=by
  intro x f hx hn hf;cases A:Ap σ x with
  | none=>rw[A,hn]at hf;cases hf
  | some v=>rw[j x hx v A,<-A];exact hf
 have K:∀ {x y:Operand} {f:Option AV->Option AV->BU},x∈op.operands.toList->y∈op.operands.toList->(∀b,f none b=none)->(∀a,f a none=none)->f (Ap σ x) (Ap σ y)=some r->f (Ap σ' x) (Ap σ' y)=some r:=by
  intro x y f hx C h1 F hf;cases A:Ap σ x with
  | none=>rw[A,h1]at hf;cases hf
  | some v =>
   cases I:Ap σ y with
   | none=>rw[I,F]at hf;cases hf
   | some w=>rw[j x hx v A,j y C w I,<-A,<-I];exact hf
 cases op<;>simp only[aq]at hs ⊢<;>try(cases hs;done)
 case move x=>exact one (f:=Gu) (by simp[Op.operands]) rfl hs
 case assign x=>exact one (f:=Gu) (by simp[Op.operands]) rfl hs
 case pick c x y =>
  cases E:Ap σ c with
  | none=>rw[E]at hs;simp[LS]at hs
  | some aa =>
   have e1:=j c (by simp[Op.operands]) aa E;rw[E]at hs;rw[e1];unfold LS at hs ⊢;split at hs
   .rename_i D;cases D;exact one (f:=Gu) (by simp[Op.operands]) rfl hs
   .rename_i D;cases D;exact one (f:=Gu) (by simp[Op.operands]) rfl hs
   cases hs
 case alloc t=>exact hs
 case box t x=>exact one (f:=UK d t (lk t tb.ty)) (by simp[Op.operands]) (by cases lk t tb.ty<;>simp[UK]) hs
 case build t parts =>
  unfold JR at hs ⊢;split at hs
  .rename_i u offs el b D;cases hp:Dq σ offs (zQ u) parts.toList with
   | none=>rw[hp]at hs;simp[Gu]at hs
   | some fs =>
    rw[QF h (by simpa[Op.operands] using j) hp];rw[hp]at hs;exact hs
  cases hs
 case buildSlice t n parts =>
  cases U:lk d tb.nests with
  | some am =>
   rw[U]at hs;simp only[Gp]at hs ⊢;unfold JT at hs ⊢;split at hs
   .rename_i x ao offs el b hp D;cases hx:Ap σ x with
    | none=>rw[hx]at hs;unfold JS at hs;split at hs<;>first|(cases hs;done)|(rename_i F;cases F)
    | some av =>
     rw[j x (by simp[Op.operands,hp]) av hx];rw[hx]at hs;unfold JS at hs ⊢;split at hs
     .rename_i k e au aw al;unfold Ke at hs;split at hs
      .rename_i Y Q;rw[Jx h Q];exact hs
      .rename_i Y ak l Q;split at hs
       .rename_i S;rw[Jx h Q];simp only[Ke,S,ADv];exact hs
       cases hs
      cases hs
     cases hs
   cases hs
  | none =>
  rw[U]at hs;simp only[Gp]at hs ⊢;unfold Bc at hs ⊢;split at hs
  .rename_i e offs el b D;cases hp:E4 σ e 0 parts.toList with
   | none=>rw[hp]at hs;simp[Bg]at hs
   | some xs =>
    rw[TS h (by simpa[Op.operands] using j) hp];rw[hp]at hs;exact hs
  cases hs
 case load t x =>
  cases hx:Ap σ x with
  | none=>rw[hx]at hs;simp[Jr]at hs
  | some v =>
   rw[j x (by simp[Op.operands]) v hx];rw[hx]at hs;unfold Jr at hs ⊢;split at hs
   .rename_i ti n ai off O G;cases hn:lk n σ.objs with
    | none=>rw[hn]at hs;simp[Eb]at hs
    | some o=>rw[h n o hn,<-hn];exact hs
   .rename_i ti n e i ai off O G;cases hn:lk n σ.objs with
    | none=>rw[hn]at hs;simp[Ec]at hs
    | some o=>rw[h n o hn,<-hn];exact hs
   .exact hs
   cases hs
 case nilCheck x=>exact one (f:=VK) (by simp[Op.operands]) (by simp[VK]) hs
 case binOp op t x y an=>exact K (f:=Ri op (lk t tb.ty)) (by simp[Op.operands]) (by simp[Op.operands]) (λb=>by simp[Ri]) (λa=>by cases a<;>simp[Ri]) hs
 case unOp op t x=>exact one (f:=qUn op) (by simp[Op.operands]) (by cases op<;>simp[qUn]) hs
 case convert s t x=>exact one (f:=Js (lk s tb.ty) (lk t tb.ty)) (by simp[Op.operands]) (by cases lk s tb.ty<;>cases lk t tb.ty<;>simp[Js]) hs
 case makeSlice t l c=>exact K (f:=Iw tb d (lk t tb.ty)) (by simp[Op.operands]) (by simp[Op.operands]) (λb=>by cases lk t tb.ty<;>simp[Iw]) (λa=>by cases lk t tb.ty<;>simp[Iw]) hs
 case slice t x lo hi ah =>
  cases ah with
  | some m =>
   cases lo with
   | some _=>cases hi<;>simp[aq]at hs
   | none =>
    cases hi with
    | none=>simp[aq]at hs
    | some h1 =>
     simp only[aq]at hs ⊢;cases hx:Ap σ x with
     | none=>rw[hx]at hs;cases hl:lk t tb.ty<;>rw[hl]at hs<;>simp[Dr]at hs
     | some v =>
      cases hh:Ap σ h1 with
      | none=>rw[hx,hh]at hs;cases hl:lk t tb.ty<;>rw[hl]at hs<;>simp[Dr]at hs
      | some A =>
       cases H:Ap σ m with
       | none=>rw[hx,hh,H]at hs;cases hl:lk t tb.ty<;>rw[hl]at hs<;>simp[Dr]at hs
       | some ag =>
        rw[j x (by simp[Op.operands]) v hx,j h1 (by simp[Op.operands]) A hh,j m (by simp[Op.operands]) ag H];rw[hx,hh,H]at hs;exact hs
  | none =>
   simp only[aq]at hs ⊢;have X:∀ {y:Option Operand},(∀z,y=some z->z∈(Op.slice t x lo hi none).operands.toList)->∀w,Gt σ y=some w->Gt σ' y=some w:=by
    intro y C w I;cases y with
    | none=>exact I
    | some z =>
     simp only[Gt,OF]at I ⊢;obtain⟨v,A,rfl⟩:=I;exact⟨v,j z (C z rfl) v A,rfl⟩
   cases hx:Ap σ x with
   | none=>rw[hx]at hs;cases hl:lk t tb.ty<;>rw[hl]at hs<;>simp[FJ]at hs
   | some v =>
    cases h1:Gt σ lo with
    | none=>rw[h1]at hs;cases hl:lk t tb.ty<;>rw[hl]at hs<;>simp[FJ]at hs
    | some a =>
     cases F:Gt σ hi with
     | none=>rw[F]at hs;cases hl:lk t tb.ty<;>rw[hl]at hs<;>simp[FJ]at hs
     | some b =>
      rw[j x (by simp[Op.operands]) v hx,X (by rintro z rfl;simp[Op.operands]) a h1,X (by rintro z rfl;simp[Op.operands]) b F];rw[hx,h1,F]at hs;exact hs
 case fieldAddr s x f=>exact one (f:=HJ f (lk s tb.ty)) (by simp[Op.operands]) (by cases lk s tb.ty<;>simp[HJ]) hs
 case indexAddr t x i=>exact K (f:=Fm (lk t tb.ty)) (by simp[Op.operands]) (by simp[Op.operands]) (λb=>by cases lk t tb.ty<;>simp[Fm]) (λa=>by cases lk t tb.ty<;>simp[Fm]) hs
 case index t x i=>exact K (f:=EW (lk t tb.ty)) (by simp[Op.operands]) (by simp[Op.operands]) (λb=>by cases lk t tb.ty<;>simp[EW]) (λa=>by cases lk t tb.ty<;>simp[EW]) hs
 case extract x i=>exact one (f:=Ed i) (by simp[Op.operands]) (by simp[Ed]) hs
 case makeFunc fn first Z =>
  unfold Z6 at hs ⊢;split at hs
  .rename_i f hf;cases E:Ht σ Z.toList with
   | none=>rw[E]at hs;simp[Pj]at hs
   | some ns =>
    rw[Vd (λz J=>j z (by simp[Op.operands]at J ⊢;exact .inr J)) E];rw[E]at hs;exact hs
  cases hs
 case makeMap t res =>
  cases res with
  | some z=>simp[aq]at hs
  | none=>simp only[aq]at hs ⊢;exact hs
 case lookup t x i ok =>
  cases hx:Ap σ x with
  | none=>rw[hx]at hs;simp[Iy]at hs
  | some xv =>
   cases hi:Ap σ i with
   | none=>rw[hx,hi]at hs;simp[Iy]at hs
   | some W =>
    rw[j x (by simp[Op.operands]) xv hx,j i (by simp[Op.operands]) W hi];rw[hx,hi]at hs;unfold Iy at hs ⊢;split at hs
    .rename_i k e _ _ n z O G ad;cases G;cases ad;cases hn:lk n σ.objs with
     | none=>rw[hn]at hs;simp[Hu]at hs
     | some o =>
      rw[hn]at hs;rw[h n o hn];unfold Hu at hs ⊢;split at hs
      .rename_i af ar l j;cases j;split at hs
       .rename_i E;rw[BY E];cases hk:Mx false σ af W with
        | none=>rw[hk]at hs;simp[Kj]at hs
        | some kd=>rw[FG h hk];rw[hk]at hs;exact hs
       cases hs
      cases hs
    cases hs
 case call c =>
  obtain⟨callee,args,argTypes⟩:=c;have B:∀x∈args.toList,x∈(Op.call ⟨callee,args,argTypes⟩).operands.toList:=λx hx=>by
   have:x∈args:=by simpa using hx
   cases callee<;>simp[Op.operands,Call.operands,this]
  cases callee with
  | invoke r m=>simp[Ds]at hs
  | value g =>
   simp only[Ds]at hs ⊢;cases L:Ap σ g with
   | none=>rw[L]at hs;simp[Lm]at hs
   | some ab =>
    rw[j g (by simp[Op.operands,Call.operands]) ab L];rw[L]at hs;unfold Lm at hs ⊢;split at hs
    .rename_i f D;cases V:lk f tb.fns with
     | none=>rw[V]at hs;simp[JV]at hs
     | some sp =>
      rw[V]at hs;simp only[JV]at hs ⊢;cases R:GK sp.lend σ sp.ins args.toList with
      | none=>rw[R]at hs;simp[Ki]at hs
      | some ds =>
       rw[Vc h (λx hx=>j x (B x hx)) R];rw[R]at hs;exact hs
    cases hs
  | builtin b =>
   simp only[Ds]at hs ⊢;obtain⟨args⟩:=args;obtain⟨argTypes⟩:=argTypes;simp only at hs B ⊢;unfold Ef at hs ⊢;split at hs
   .exact one (f:=UL (lk _ tb.ty)) (B _ (by simp)) (by cases lk _ tb.ty<;>simp[UL]) hs
   .rename_i x y t u;cases hx:Ap σ x with
    | none=>rw[hx]at hs;simp[DX]at hs
    | some xv =>
     cases C:Ap σ y with
     | none=>rw[hx,C]at hs;simp[DX]at hs
     | some N =>
      rw[j x (B _ (by simp)) xv hx,j y (B _ (by simp)) N C];rw[hx,C]at hs;unfold DX at hs ⊢;split at hs
      .split at hs
       .rename_i M;simp only[M,ADv];rename_i O G;cases G;rw[M]at hs;cases hl:lk u tb.ty with
        | none=>rw[hl]at hs;simp[Ee]at hs
        | some ti =>
         rw[hl]at hs;unfold Ee at hs ⊢;split at hs
         .rename_i e offs el b D;cases A:Pf σ e N with
          | none=>rw[A]at hs;cases T:lk el tb.ty<;>rw[T]at hs<;>simp[E9]at hs
          | some ys =>
           rw[A]at hs;rw[QE h A];exact hs
         cases hs
       cases hs
      .split at hs
       .rename_i M;simp only[M,ADv];rename_i O G;cases G;rw[M]at hs;cases hl:lk u tb.ty with
        | none=>rw[hl]at hs;simp[JU]at hs
        | some ti =>
         rw[hl]at hs;unfold JU at hs ⊢;split at hs
         .rename_i e offs el b D;split at hs
          .rename_i S;simp only[S,ADv];cases A:Pf σ _ N with
           | none=>rw[A]at hs;cases T:lk el tb.ty<;>rw[T]at hs<;>simp[Kh]at hs
           | some ys =>
            rw[A]at hs;rw[QE h A];exact hs
          cases hs
         cases hs
       cases hs
      cases hs
   .exact K (f:=Rj) (B _ (by simp)) (B _ (by simp)) (λb=>by simp[Rj]) (λa=>by cases a<;>simp[Rj]) hs
   .exact K (f:=Rk) (B _ (by simp)) (B _ (by simp)) (λb=>by simp[Rk]) (λa=>by cases a<;>simp[Rk]) hs
   .rename_i x y z t u ap;cases hx:Ap σ x with
    | none=>rw[hx]at hs;simp[Ix]at hs
    | some xv =>
     cases C:Ap σ y with
     | none=>rw[hx,C]at hs;simp[Ix]at hs
     | some N =>
      cases J:Ap σ z with
      | none=>rw[hx,C,J]at hs;simp[Ix]at hs
      | some aj =>
       rw[j x (B _ (by simp)) xv hx,j y (B _ (by simp)) N C,j z (B _ (by simp)) aj J,<-hx,<-C,<-J];exact hs
   .rename_i ts x y z u r;have L:∀(r:List Operand) (k:IntKind) (o:Option Int) (m:Int),(∀q∈r,∀v,Ap σ q=some v->Ap σ' q=some v)->FW σ k o r=some m->FW σ' k o r=some m:=by
     intro r;induction r with
     | nil=>intro k o m _ h;cases o<;>(simp[FW]at h;try exact AAc some h)
     | cons q r ae =>
      intro k o m P h;cases o with
      | none=>simp[FW]at h
      | some a =>
       simp only[FW]at h ⊢;cases A:Ap σ q with
       | none=>rw[A]at h;cases r<;>simp[Np,FW]at h
       | some v =>
        rw[A]at h;rw[P q (by simp) v A];exact ae k _ m (λp hp=>P p (by simp[hp])) h
    cases hx:Ap σ x with
    | none=>rw[hx]at hs;simp[Nq]at hs
    | some xv =>
     rw[hx]at hs;rw[j x (B _ (by simp)) xv hx];unfold Nq at hs ⊢;split at hs
     .rename_i k a D;cases D;cases H:FW σ k (some a) (y :: z :: u :: r) with
      | none=>rw[H]at hs;simp[Pi]at hs
      | some m =>
       rw[H]at hs;rw[L _ _ _ _ (λq P=>j q (B _ (IF _ P))) H];exact hs
     cases hs
   cases hs
end
end
end Go.Proofs.YtapkhdkbkodbjaaGreat.Fw
