/- One operation, a sequence, loops, the entry and the end of a function: the rules. -/
import Derived.Test.YtapkhdkbkodbjaaGreatHZD
import Derived.Deep.LoopGhost
import Derived.ControlIn
set_option linter.unusedVariables false
set_option linter.unusedSimpArgs false
namespace Go.Proofs.YtapkhdkbkodbjaaGreat.Fw
section
open Go Go.RowKit
abbrev AEa:=@Go.wpIn_region_list
abbrev AEZ:=@Go.wpIn_mono
structure Cx where
 P:Program
 tb:Tb
 w0:World
 K:Nat->Prop
 O0:Nat->Prop
 nt:Nat
 
 ds:Fp:={}
 
 r:Option Nat:=none
structure Cx.Ok (c:Cx):Prop where
 K:∀b,c.K b->b<c.w0.heap.size
 O:∀b,c.O0 b->b<c.w0.heap.size
 T:DF c.P c.tb
 F:JA c.P c.tb
def Cx.sat (c:Cx) (σ:St) (a:Act) (w:World):Prop:=∃ρ,CE c.w0 c.K c.O0 c.nt c.ds σ ρ a w
section
variable {c:Cx}
theorem A60 (hc:c.Ok) {σ:St} {ρ:Nat->Value} {a:Act} {w:World} (h:CE c.w0 c.K c.O0 c.nt c.ds σ ρ a w):A9I c.P c.tb w c.O0 σ ρ a where
 hT:=hc.T
 hF:=hc.F
 obj:=h.objs
 own:=by
  intro b hb;rcases hb with h0|⟨n,⟨o,ho⟩,hb⟩
  ·exact ACq (hc.O b h0) h.frm.size
  ·exact(h.objs n o ho).block_lt hb
 ev:=FL h.env
theorem A1s (e:c.Ok) {σ σ':St} {ρ:Nat->Value} {a:Act} {w:World} (hs:CE c.w0 c.K c.O0 c.nt c.ds σ ρ a w) {o:Oper} {vc:Prop} (h:Gt c.tb σ o.dst o.op=some (vc,σ')) (k:vc) (j:∀d,o.dst=some d->d<c.nt)
  {next:Act->World->Prop} {Q:Exit->Act->World->Prop} (hn:∀i w',c.sat σ' i w'->next i w'):o.wpIn (FR c.r) 0 c.P a w next Q:=by
 obtain⟨dst,op,type,pos,after,guard⟩:=o;simp only at h j;cases op<;>simp only[Gt]at h<;>try(cases h;done)
 case store t x y =>
  cases dst with
  | some d=>simp[Di]at h
  | none =>
   simp only[Di]at h;obtain⟨w',ρ',h1,f⟩:=qC (P:=c.P) hs e.K e.O e.T h k;exact uZ (w':=w') (by simp[execOp,h1]) (hn _ _ ⟨ρ',f⟩)
 case mapUpdate t m x y =>
  cases dst with
  | some d=>simp[Di]at h
  | none =>
   simp only[Di]at h;obtain⟨w',h1,f⟩:=yB (P:=c.P) hs e.K e.T h;exact uZ (w':=w') (by simp[execOp,h1]) (hn _ _ ⟨ρ,f⟩)
 case call cl =>
  obtain⟨callee,args,argTypes⟩:=cl;cases callee with
  | value g=>simp[Dh]at h
  | invoke r m=>simp[Dh]at h
  | builtin b =>
   simp only[Dh]at h;obtain⟨args⟩:=args;obtain⟨argTypes⟩:=argTypes;simp only at h;unfold EK at h;split at h
   ·rename_i x y t u;obtain⟨z,w',ρ',h1,f⟩:=qB (P:=c.P) (ty:=type) hs e.K e.O e.T j h k;exact Aw (u:=z) (w':=w') (by simp[execOp,resolve,invoke,builtin,h1]) (hn _ _ ⟨ρ',f⟩)
   ·cases h
theorem VQ (b:c.Ok) {σ σ':St} {a:Act} {w:World} (hs:c.sat σ a w) {o:Oper} {vc:Prop} (h:II c.tb o σ=some (vc,σ')) (i:vc) (g:∀d,o.dst=some d->d<c.nt)
  {next:Act->World->Prop} {Q:Exit->Act->World->Prop} (hn:∀f w',c.sat σ' f w'->next f w'):o.wpIn (FR c.r) 0 c.P a w next Q:=by
 obtain⟨ρ,hs⟩:=hs;have hs:=Kp (l:=DA σ o.op) hs;unfold II Pi at h;generalize Cq (DA σ o.op) σ=k at h hs;cases e:aq c.tb k (o.dst.getD 0) o.op with
 | some r =>
  obtain⟨m,v,obs⟩:=r;rw[e]at h;simp only[L2]at h;split at h
  ·rename_i hf;cases h;exact uW (A60 b hs) e i hf λu ρ' w' j=>hn _ _ ⟨ρ',hs.add b.K b.O g hf j⟩
  ·cases h
 | none =>
  rw[e]at h;exact A1s b hs h i g hn
theorem Hl {ops:Array Oper} {σ:St} {a:Act} {w:World} (hs:c.sat σ a w) {o:Oper} {b:Bool} (h:Ef ops.toList σ o.guard=some b):Region.wanted o (yielded ops a.tmps)=b:=by
 obtain⟨ρ,hs⟩:=hs;unfold Ef at h;split at h
 ·rename_i e;cases h;simp[Region.wanted,e]
 ·rename_i j q e;cases f:(ops.toList[j]?).bind (·.dst) with
  | none=>rw[f]at h;simp[Jj]at h
  | some g =>
   rw[f]at h;simp only[Jj]at h;cases i:lk g σ.env with
   | none=>rw[i]at h;simp[RR]at h
   | some v =>
    rw[i]at h;unfold RR at h;split at h
    ·rename_i l m;cases m;cases h;have d:=hs.env g _ i;have d:=ET d;have p:(ops[j]?).bind (·.dst)=some g:=by simpa using f
     have n:a.tmps[g]?=some (.bool l):=by
      by_cases k:g<a.tmps.size
      ·have:a.tmps.getD g undef=a.tmps[g]:=by simp[Array.getD,k]
       rw[this]at d;rw[iN k,d]
      ·have:a.tmps.getD g undef=undef:=by simp[Array.getD,k]
       rw[this]at d;cases d
     simp only[Region.wanted,e,yielded,p,Option.bind_some,n];cases l<;>cases q<;>rfl
    ·cases h
theorem NB {σ:St} {a:Act} {w:World} (b:c.Ok) (hs:c.sat σ a w) {dst:Option Nat} (e:∀d,dst=some d->d<c.nt):c.sat (σ.add (.raw undef) [] dst) (a.put dst undef) w:=by
 obtain⟨ρ,hs⟩:=hs;exact⟨ρ,hs.add b.K b.O e (by simp[Bj]) (QS.still rfl)⟩
def J7 (nt:Nat) (o:Oper):Bool :=
 match o.dst with
 | some d=>decide (d<nt)
 | none=>true
theorem CK {nt:Nat} {o:Oper} (h:J7 nt o=true):∀d,o.dst=some d->d<nt:=by grind [J7]
theorem Ra (d:c.Ok) {ops:Array Oper} {Q:Exit->Act->World->Prop} {r:List Oper}:∀(l:List Oper) {σ σ':St} {vc:Prop} {a:Act} {w:World},c.sat σ a w->(∀o∈l,J7 c.nt o=true)->Bq c.tb ops.toList l σ=some (vc,σ')->vc ->
  (∀g w',c.sat σ' g w'->wpListIn (FR c.r) 0 c.P ops Q r g w')->wpListIn (FR c.r) 0 c.P ops Q (l++r) a w
 | [],σ,σ',vc,a,w,hs,e,h,f,i=>by grind [Bq]
 | o :: l,σ,σ',vc,a,w,hs,e,h,f,i=>by
  simp only[Bq]at h;cases j:Ef ops.toList σ o.guard with
  | none=>rw[j]at h;simp[evG]at h
  | some b =>
   rw[j]at h;have s:=Hl hs j;have q:=CK (e o (by simp));rw[ADh];unfold wpListIn;cases b with
   | true =>
    simp only[evG]at h;rw[BY s];cases n:II c.tb o σ with
    | none=>rw[n]at h;simp[evK]at h
    | some r =>
     obtain⟨x,v⟩:=r;rw[n]at h;simp only[evK]at h;cases m:Bq c.tb ops.toList l v with
     | none=>rw[m]at h;simp[VA]at h
     | some u =>
      obtain⟨y,σ2⟩:=u;rw[m]at h;simp only[VA]at h;cases h;exact VQ d hs n f.1 q λg w' t=>Ra d l t (λp k=>e p (by simp[k])) m f.2 i
   | false =>
    simp only[evG]at h;rw[An (by simp[s])];refine⟨λ_ _=>trivial,?_⟩;exact Ra d l (NB d hs q) (λp k=>e p (by simp[k])) h f i
theorem Pw (e:c.Ok) {ops:Array Oper} {Q:Exit->Act->World->Prop}:∀(l:List Oper) {σ σ':St} {vc:Prop} {a:Act} {w:World},c.sat σ a w->(∀o∈l,J7 c.nt o=true)->Bq c.tb ops.toList l σ=some (vc,σ')->vc ->
  (∀i w',c.sat σ' i w'->Q .normal i w')->wpListIn (FR c.r) 0 c.P ops Q l a w
 | [],σ,σ',vc,a,w,hs,f,h,g,d=>by
  simp only[Bq]at h;cases h;exact d _ _ hs
 | o :: l,σ,σ',vc,a,w,hs,f,h,g,d=>by
  simp only[Bq]at h;cases j:Ef ops.toList σ o.guard with
  | none=>rw[j]at h;simp[evG]at h
  | some b =>
   rw[j]at h;have s:=Hl hs j;have q:=CK (f o (by simp));unfold wpListIn;cases b with
   | true =>
    simp only[evG]at h;rw[BY s];cases n:II c.tb o σ with
    | none=>rw[n]at h;simp[evK]at h
    | some r =>
     obtain⟨x,v⟩:=r;rw[n]at h;simp only[evK]at h;cases m:Bq c.tb ops.toList l v with
     | none=>rw[m]at h;simp[VA]at h
     | some u =>
      obtain⟨y,σ2⟩:=u;rw[m]at h;simp only[VA]at h;cases h;exact VQ e hs n g.1 q λi w' t=>Pw e l t (λp k=>f p (by simp[k])) m g.2 d
   | false =>
    simp only[evG]at h;rw[An (by simp[s])];refine⟨λ_ _=>trivial,?_⟩;exact Pw e l (NB e hs q) (λp k=>f p (by simp[k])) h g d
end
end
section
open Go Go.RowKit
inductive DT where
 | seq (c:Code)
 | blk (id:Nat)
 
 | inv (post:St->Prop)
def Bu (nt:Nat):Code->Bool
 | .region _ ops _=>ops.toList.all (J7 nt)
 | .seq a b=>Bu nt a&&Bu nt b
 | .cond _ a b=>Bu nt a&&Bu nt b
 | .block _ b=>Bu nt b
 | .loop b=>Bu nt b
 | .scope b=>Bu nt b
 | _=>true
def DB (nt:Nat):List DT->Bool
 | []=>true
 | .seq c :: k=>Bu nt c&&DB nt k
 | _ :: k=>DB nt k
def VR (c:Cx) (R:Exit->Act->World->Prop):List DT->Exit->Act->World->Prop
 | [],e,a,w=>R e a w
 | .seq y :: k,.normal,a,w=>y.wpIn (FR c.r) 0 c.P (VR c R k) a w
 | .seq _ :: k,e,a,w=>VR c R k e a w
 | .blk id :: k,.exit b,a,w=>if b=id then VR c R k .normal a w else VR c R k (.exit b) a w
 | .blk _ :: k,e,a,w=>VR c R k e a w
 | .inv post :: _,.normal,a,w=>∃σ,c.sat σ a w/\post σ
 | .inv _ :: k,e,a,w=>VR c R k e a w
inductive u5 where
 | run (cd:Code)
 | out (e:Exit)
def nwp (c:Cx) (R:Exit->Act->World->Prop) (k:List DT):u5->Act->World->Prop
 | .run cd,a,w=>cd.wpIn (FR c.r) 0 c.P (VR c R k) a w
 | .out e,a,w=>VR c R k e a w
def IL (nt:Nat):u5->Bool
 | .run cd=>Bu nt cd
 | .out _=>true
def Ev (c:Cx) (R:Exit->Act->World->Prop) (n:u5) (k:List DT) (σ:St):Prop :=
 IL c.nt n=true->DB c.nt k=true->∀a w,c.sat σ a w->nwp c R k n a w
theorem Tu {F:Fence} {j:Nat} {P:Program} {Q:Exit->Act->World->Prop} {a:Act} {w:World} {c:Code} (b:Nat->Act->World->Prop) (i:Nat) (o:b i a w)
  (round:∀n a w,b n a w->c.wpIn F j P (Exit.then (λg w'=>∃f,f<n/\b f g w') Q) a w):(Code.loop c).wpIn F j P Q a w:=by
 refine wpIn_loop (λa w=>∃n,b n a w) (λa w=>leastOf (λn=>b n a w)) ⟨i,o⟩ ?_;intro a w k;refine AEZ (round _ a w (leastOf_spec k).1) ?_;intro e g w' d;cases e with
 | normal =>
  obtain⟨f,m,h⟩:=d;exact show (∃n,b n g w')/\leastOf (λn=>b n g w')<leastOf (λn=>b n a w) from ⟨⟨f,h⟩,AEB ((leastOf_spec ⟨f,h⟩).2 f h) m⟩
 | exit id=>exact d
 | goto l=>exact d
 | ret=>exact d
 | panic ch=>exact d
 | outgrown=>exact d
def Ent (c:Cx) (σ σ':St):Prop:=∀a w,c.sat σ a w->c.sat σ' a w
section
variable {c:Cx} {R:Exit->Act->World->Prop} {k:List DT} {σ σ':St}
theorem Ev.ent {n:u5} (h:Ev c R n k σ') (d:Ent c σ σ'):Ev c R n k σ:=λh1 b a w hs=>h h1 b a w (d a w hs)
theorem A8r {x y:Code} (h:Ev c R (.run x) (.seq y :: k) σ):Ev c R (.run (.seq x y)) k σ:=by
 intro h1 b a w hs;simp only[IL,Bu,AT]at h1;refine wpIn_seq (AEZ (h h1.1 (by simp[DB,h1.2,b]) a w hs) ?_);intro e f w' d;cases e<;>exact d
theorem u6 (h:Ev c R (.out .normal) k σ):Ev c R (.run .skip) k σ:=λ_ b a w hs=>wpIn_skip (h rfl b a w hs)
theorem A8s (h:Ev c R (.out .ret) k σ):Ev c R (.run .ret) k σ:=λ_ b a w hs=>wpIn_ret (h rfl b a w hs)
theorem A61 {id:Nat} (h:Ev c R (.out (.exit id)) k σ):Ev c R (.run (.exit id)) k σ:=λ_ b a w hs=>wpIn_exit (h rfl b a w hs)
theorem A1u {id:Nat} {b:Code} (h:Ev c R (.run b) (.blk id :: k) σ):Ev c R (.run (.block id b)) k σ:=by
 intro h1 d a w hs;refine wpIn_block (AEZ (h (by simpa[IL,Bu] using h1) (by simpa[DB] using d) a w hs) ?_);intro e g w' f;cases e<;>exact f
def EvR (c:Cx) (R:Exit->Act->World->Prop) (k:List DT):DD->Prop
 | some (vc,σ)=>vc/\Ev c R (.out .normal) k σ
 | none=>False
theorem yC (f:c.Ok) {id:Nat} {ops:Array Oper} (h:EvR c R k (Bq c.tb ops.toList ops.toList σ)):Ev c R (.run (.region id ops false)) k σ:=by
 intro h1 e a w hs;cases b:Bq c.tb ops.toList ops.toList σ with
 | none=>rw[b]at h;exact h.elim
 | some r =>
  obtain⟨vc,σ'⟩:=r;rw[b]at h;simp only[IL,Bu,IS]at h1;exact AEa (Pw f ops.toList hs h1 b h.1 λd w' g=>h.2 rfl e d w' g)
def EvC (c:Cx) (R:Exit->Act->World->Prop) (x y:Code) (k:List DT) (σ:St):Option AV->Prop
 | some (.p .bool b)=>(b=true->Ev c R (.run x) k σ)/\(b=false->Ev c R (.run y) k σ)
 | _=>False
theorem A62 {o:Operand} {x y:Code} (h:EvC c R x y k σ (Ao σ o)):Ev c R (.run (.cond o x y)) k σ:=by
 intro h1 g a w hs;simp only[IL,Bu,AT]at h1;obtain⟨ρ,f⟩:=hs;have j:=FL f.env;cases e:Ao σ o with
 | none=>rw[e]at h;exact h.elim
 | some v =>
  have l:=j o v e;rw[e]at h;unfold EvC at h;split at h
  ·rename_i b i;cases i;have d:=ET l;exact wpIn_cond_split d (λd=>h.1 d h1.1 g a w ⟨ρ,f⟩) (λd=>h.2 d h1.2 g a w ⟨ρ,f⟩)
  ·exact h.elim
theorem IM {y:Code} (h:Ev c R (.run y) k σ):Ev c R (.out .normal) (.seq y :: k) σ:=by
 intro _ b a w hs;simp only[DB,AT]at b;exact h b.1 b.2 a w hs
theorem fC {id:Nat} {y:Code} (h:Ev c R (.out (.exit id)) k σ):Ev c R (.out (.exit id)) (.seq y :: k) σ:=by
 intro _ b a w hs;simp only[DB,AT]at b;exact h rfl b.2 a w hs
theorem qD {y:Code} (h:Ev c R (.out .ret) k σ):Ev c R (.out .ret) (.seq y :: k) σ:=by
 intro _ b a w hs;simp only[DB,AT]at b;exact h rfl b.2 a w hs
theorem qE {id:Nat} (h:Ev c R (.out .normal) k σ):Ev c R (.out .normal) (.blk id :: k) σ:=λ_ b a w hs=>h rfl (by simpa[DB] using b) a w hs
theorem S9 {id b:Nat} (h:if b=id then Ev c R (.out .normal) k σ else Ev c R (.out (.exit b)) k σ):Ev c R (.out (.exit b)) (.blk id :: k) σ:=by
 intro _ d a w hs;have d:DB c.nt k=true:=by simpa[DB] using d
 show (if b=id then VR c R k .normal a w else VR c R k (.exit b) a w);split at h
 ·rename_i e;rw[BY e];exact h rfl d a w hs
 ·rename_i e;rw[An e];exact h rfl d a w hs
theorem qF {id:Nat} (h:Ev c R (.out .ret) k σ):Ev c R (.out .ret) (.blk id :: k) σ:=λ_ b a w hs=>h rfl (by simpa[DB] using b) a w hs
theorem AB {post:St->Prop} (h:post σ):Ev c R (.out .normal) (.inv post :: k) σ:=λ_ _ _ _ hs=>⟨σ,hs,h⟩
theorem fD {id:Nat} {post:St->Prop} (h:Ev c R (.out (.exit id)) k σ):Ev c R (.out (.exit id)) (.inv post :: k) σ:=λ_ b a w hs=>h rfl (by simpa[DB] using b) a w hs
theorem qG {post:St->Prop} (h:Ev c R (.out .ret) k σ):Ev c R (.out .ret) (.inv post :: k) σ:=λ_ b a w hs=>h rfl (by simpa[DB] using b) a w hs
def A9J (c:Cx) {ι:Type} (I:ι->St) (μ:ι->Nat) (i:ι) (σ:St):Prop:=∃j,μ j<μ i/\Ent c σ (I j)
theorem AK {ι:Type} (d:ι->St) (f:ι->Nat) (g:ι) {b:Code} (h0:Ent c σ (d g)) (o:∀i,Ev c R (.run b) (.inv (A9J c d f i) :: k) (d i)):Ev c R (.run (.loop b)) k σ:=by
 intro h1 m a w hs;have h1:Bu c.nt b=true:=by simpa[IL,Bu] using h1
 refine Tu (λn a w=>∃i,f i=n/\c.sat (d i) a w) (f g) ⟨g,rfl,h0 a w hs⟩ ?_;rintro n a w ⟨i,rfl,hs⟩;refine AEZ (o i h1 (by simpa[DB] using m) a w hs) ?_;intro e l w' h;cases e with
 | normal =>
  obtain⟨σ',r,j,q,p⟩:=h;exact⟨f j,q,j,rfl,p l w' r⟩
 | _=>exact h
theorem Px {ι:Type} (b:ι->St) {x y:Code} (h:Ev c R (.run x) (.inv (fun σ'=>∃i,Ent c σ' (b i)) :: .seq y :: k) σ) (m:∀i,Ev c R (.run y) k (b i)):Ev c R (.run (.seq x y)) k σ:=by
 intro h1 f a w hs;simp only[IL,Bu,AT]at h1;refine wpIn_seq (AEZ (h h1.1 (by simp[DB,h1.2,f]) a w hs) ?_);intro e d w' g;cases e with
 | normal =>
  obtain⟨σ',l,i,j⟩:=g;exact m i h1.2 f d w' (j d w' l)
 | _=>exact g
end
end
section
open Go Go.RowKit
def AM:Nat->(ts:List Ty)->Ka ts->List (Nat×AV)
 | _,[],_=>[]
 | s,t :: ts,d=>(s,.p t d.1) :: AM (s+1) ts d.2
def Kq (σ:St) (ty:Ty):Option AV->Option AV
 | some (.bp n a off)=>match EZ ty a off (lk n σ.objs) with
  | some (_,v,_)=>some v
  | none=>none
 | _=>none
def Jn (tb:Tb) (σ:St):ResultVar->Option AV
 | .tmp t=>lk t σ.env
 | .cell a t=>match lk t tb.ty with
  | some ti=>Kq σ ti.ty (lk a σ.env)
  | none=>none
def NC:Option AV->List Nat
 | some v=>v.names
 | none=>[]
def Jo (σ:St) (t:Ty):Option AV->Option t.den
 | some v=>Kb false σ t v
 | none=>none
def X1 (σ:St) (et:TypeId) (e:Ty):Option Obj->Option (List e.den)
 | some (.arr b a xs)=>if b=et then BW (.slice e) ⟨.slice a,xs⟩ else none
 | _=>none
def LV (tb:Tb) (σ:St) (rv:ResultVar):RV->Prop
 | .p t d=>Jo (Cq (NC (Jn tb σ rv)) σ) t (Jn tb (Cq (NC (Jn tb σ rv)) σ) rv)=some d
 | .own et e xs=>match Jn tb σ rv with
  | some (.sr n a 0 hi)=>a=e/\X1 σ et e (lk n σ.objs)=some xs/\hi=xs.length
  | _=>False
def Ny (tb:Tb) (σ:St):List ResultVar->List RV->Prop
 | [],[]=>True
 | [rv],[r]=>LV tb σ rv r
 | rv :: b,.p t d :: a=>LV tb σ rv (.p t d)/\Ny tb σ b a
 | _,_=>False
section
variable {P:Program} {tb:Tb} {w0:World} {O0:Nat->Prop} {nt:Nat} {ds:Fp}
def cx (P:Program) (tb:Tb) (w0:World) (O0:Nat->Prop) (nt:Nat):Cx:={ P:=P,tb:=tb,w0:=w0,K:=λb=>b<w0.heap.size,O0:=O0,nt:=nt }
theorem YX:∀(ts:List Ty) (a:List Value) (ds:Ka ts) (k:Nat) (w:World) (O:Nat->Prop),S2 w O ts a ds->∀s v,lk s (AM k ts ds)=some v->k<=s/\∃u,a[s-k]?=some u/\∃t d,v=.p t d/\Bm w O t u d
 | [],a,ds,k,w,O,h,s,v,hs=>by simp[AM,lk]at hs
 | t :: ts,a,ds,k,w,O,h,s,v,hs=>by
  obtain⟨u,r,rfl,h1,b⟩:=h;simp only[AM,lk]at hs;split at hs
  ·grind
  ·obtain⟨c,g,e,f⟩:=YX ts r ds.2 (k+1) w O b s v hs;grind
theorem TA:∀ {ts:List Ty} {a:List Value} {ds:Ka ts} {w:World} {O:Nat->Prop},S2 w O ts a ds->a.length=ts.length
 | [],a,ds,w,O,h=>by have h:a=[]:=h;subst h;rfl
 | t :: ts,a,ds,w,O,h=>by
  obtain⟨u,r,rfl,h1,b⟩:=h;simp[TA b]
theorem yD {ts:List Ty} {a:List Value} {ds:Ka ts} (h:S2 w0 O0 ts a ds) (k:a.length<=nt) :
  (cx P tb w0 O0 nt).sat ⟨AM 0 ts ds,[]⟩ { tmps:=a.toArray++Array.replicate (nt-a.toArray.size) undef,defers:=[] } w0:=by
 refine⟨λ_=>undef,⟨rfl,rfl,rfl,NO _,λ_ _=>rfl⟩,by simp[cx];omega,rfl,(λp hp=>by simp[cx]at hp),λn o h=>by simp[lk]at h,λn b ⟨o,h⟩=>by simp[lk]at h,λn m b ⟨o,h⟩=>by simp[lk]at h,λs v hs=>?_⟩;obtain⟨_,u,h1,t,d,rfl,e⟩:=YX ts a ds 0 w0 O0 h s v hs;have c:s<a.length:=by grind
 have i:(a.toArray++Array.replicate (nt-a.toArray.size) undef).getD s undef=u:=by
  have h1:a[s]?=some u:=by simpa using h1
  have:a[s]=u:=by rw[As c]at h1;injection h1
  simp[Array.getElem?_append,c,this]
 rw[i];refine Bm.mono (λb _ f g=>?_) (λ_ _ _=>rfl) e;rcases g with h0|⟨n,⟨o,j⟩,_⟩
 ·exact f h0
 ·simp[lk]at j
def J8 (tmps:Array Value):ResultVar->Sem Value
 | .tmp t=>pure (tmps.getD t undef)
 | .cell a t=>do loadVar t (<-asAddr (tmps.getD a undef))
theorem Oa (fn:Func) (tmps:Array Value):results fn tmps=(do let a <-fn.results.mapM (J8 tmps);pure (if h:a.size=1 then a[0] else .tuple a)):=by
 unfold results
 congr 1
theorem UU (hT:DF P tb) {K:Nat->Prop} {σ:St} {ρ:Nat->Value} {a:Act} {w:World} (hs:CE w0 K O0 nt ds σ ρ a w) {rv:ResultVar} {v:AV} (h:Jn tb σ rv=some v) :
  ∃u,(J8 a.tmps rv).run P w=.ok u w/\B9 (vw w O0 σ ρ) v u:=by
 cases rv with
 | tmp t =>
  simp only[Jn]at h;exact⟨_,by simp[J8],hs.env t v h⟩
 | cell x t =>
  simp only[Jn]at h;cases d:lk t tb.ty with
  | none=>rw[d]at h;simp at h
  | some ti =>
   rw[d]at h;simp only at h;cases e:lk x σ.env with
   | none=>rw[e]at h;simp[Kq]at h
   | some xv =>
    rw[e]at h;unfold Kq at h;split at h
    ·rename_i n l off i;cases i;have f:=hs.env x _ e;split at h
     ·rename_i vc o obs j;cases h;have k:Iz σ (some ti) (some (.bp n l off))=some (vc,v,obs):=j;obtain⟨_,u,h1,g⟩:=A1b (hT _ _ d) hs.objs k f;obtain⟨m,b,_,c⟩:=f;rw[c]at h1;have c:a.tmps.getD x undef=.pointer (some ⟨b,off,none⟩):=c;refine⟨u,?_,g⟩;simp only[Instr.loadAt,Instr.sureAddr,ADb,ADX,aT]at h1;simp only[J8,c,asAddr,ADb,ADX,aT,h1]
     ·cases h
    ·cases h
theorem A63 (hT:DF P tb) {K:Nat->Prop} {σ:St} {ρ:Nat->Value} {a:Act} {w:World} (hs:CE w0 K O0 nt ds σ ρ a w) {rv:ResultVar} {t:Ty} {d:t.den} (h:LV tb σ rv (.p t d)) :
  ∃u,(J8 a.tmps rv).run P w=.ok u w/\Bm w O0 t u d:=by
 unfold LV at h;have e:=Kp (l:=NC (Jn tb σ rv)) hs;generalize Cq (NC (Jn tb σ rv)) σ=f at h e;cases c:Jn tb f rv with
 | none=>rw[c]at h;simp[Jo]at h
 | some v =>
  rw[c]at h;simp only[Jo]at h;obtain⟨u,h1,g⟩:=UU hT e c;have i:=I9 (V:=vw w O0 f ρ) (O':=O0) (λb j k=>j (.inl k)) (λh=>by cases h) e.objs h g;exact⟨u,h1,i⟩
theorem A1v (hT:DF P tb) {K:Nat->Prop} {σ:St} {ρ:Nat->Value} {a:Act} {w:World} (hs:CE w0 K O0 nt ds σ ρ a w):∀ {f:List ResultVar} {c:List RV},(∀r∈c,∃t d,r=.p t d)->Ny tb σ f c ->
  ∃e:List Value,(f.mapM (J8 a.tmps)).run P w=.ok e w/\e.length=c.length /\
   ∀nm V,V.w=w->(∀b,V.O b->O0 b)->J5 V (Lw nm c) e
 | [],[],_,_=>⟨[],by simp,rfl,λ_ _ _ _=>rfl⟩
 | [],_ :: _,_,h=>by simp[Ny]at h
 | _ :: _,[],_,h=>by simp[Ny]at h
 | rv :: f,r :: c,hp,h=>by
  obtain⟨t,d,rfl⟩:=hp r (by simp);have g:LV tb σ rv (.p t d)/\Ny tb σ f c:=by
   cases f with
   | nil =>
    cases c with
    | nil=>exact⟨h,trivial⟩
    | cons q s=>exact⟨h.1,h.2⟩
   | cons v x=>exact⟨h.1,h.2⟩
  obtain⟨u,h1,n⟩:=A63 hT hs g.1;obtain⟨e,o,i,j⟩:=A1v hT hs (λr l=>hp r (by simp[l])) g.2;refine⟨u :: e,?_,by simp[i],λnm V m k=>⟨u,e,rfl,?_,j _ V m k⟩⟩
  ·simp_all
  ·show Bm V.w V.O t u d;grind [Bm.mono]
def VS (P:Program) (fn:Func) (w0:World) (O0:Nat->Prop) (a:List RV):Exit->Act->World->Prop :=
 bodyPost P fn λe w'=>∃u,e=.returned u/\A1k w0 O0 a u w'
theorem A1w (x:(cx P tb w0 O0 nt).Ok) {fn:Func} {g:List RV} {σ:St} {e:Exit} (y:e=.ret\/e=.normal) (hp:∀r∈g,∃t d,r=.p t d) (h:Ny tb σ fn.results.toList g) :
  Ev (cx P tb w0 O0 nt) (VS P fn w0 O0 g) (.out e) [] σ:=by
 intro _ _ a w hs;obtain⟨ρ,hs⟩:=hs;obtain⟨f,h1,i,m⟩:=A1v x.T hs hp h;have h1:(fn.results.toList.mapM (J8 a.tmps)).run P w=.ok f w:=h1;have s:Below w0.heap.size w0 w:=⟨hs.frm.os,hs.frm.tape,hs.frm.output,hs.frm.size,hs.frm.block⟩;have D:∃v,(results fn a.tmps).run P w=.ok v w/\A1k w0 O0 g v w:=by
  have A:(fn.results.mapM (J8 a.tmps)).run P w=.ok f.toArray w:=by
   rw[ADR]
   simp_all
  refine⟨if h:f.toArray.size=1 then f.toArray[0] else .tuple f.toArray,?_,λnm=>⟨λ_=>undef,?_⟩⟩
  ·rw[Oa];simp only[ADb,A,aT,ADX]
  ·have z:Co nm g=[]:=by
    clear h h1 i m;induction g generalizing nm with
    | nil=>rfl
    | cons r F E =>
     obtain⟨t,d,rfl⟩:=hp r (by simp);simp only[Co,Pb,ADw];exact E (λr C=>hp r (by simp[C])) (nm+10000)
   rw[z];refine⟨s,λ_ _=>rfl,?_,(λ_ _ h=>by cases h),(λ_ _ _ h=>by cases h),(λ_ _ _ _ _ h=>by cases h)⟩;have c:=m nm (vw w O0 (Eb ⟨[],[]⟩ []) (λ_=>undef)) rfl (λb q=>by
    rcases q with h0|⟨n,⟨o,B⟩,_⟩
    ·exact h0
    ·simp[Eb,lk]at B)
   match g,hp,f,i,c with
   | [],_,f,i,c =>
    have c:f=[]:=c;subst c;exact(rfl:_=_)
   | [r],hp,f,i,c =>
    obtain⟨u,l,rfl,j,k⟩:=c;have k:l=[]:=k;subst k;simp only[Iy];exact A13 j
   | G :: H :: F,hp,f,i,c =>
    have:¬f.toArray.size=1:=by simp at i ⊢;omega
    rw[dif_neg this];exact⟨f,rfl,c⟩
 obtain⟨v,c,j⟩:=D;rcases y with rfl|rfl
 ·exact⟨hs.defers,v,c,v,rfl,j⟩
 ·exact⟨hs.defers,v,c,v,rfl,j⟩
end
end
section
open Go Go.RowKit
def Ty.ok:(t:Ty)->t.den->Prop
 | .int k,d=>KX k d
 | .bool,_=>True
 | .str,d=>ByteArray.size d<=AP
 | .slice e,d=>List.length d<=AP/\∀x∈(d:List e.den),e.ok x
 | .prod a b,d=>a.ok d.1/\b.ok d.2
 | .agg t,d=>t.ok d
 | .ref _,_=>True
theorem IP {w:World} {O:Nat->Prop}:∀ {t:Ty} {cs:List Value} {d:t.den},B0 w O t cs d->t.ok d
 | .int _,_,_,h=>h.2
 | .bool,_,_,_=>trivial
 | .str,_,_,h=>h.2
 | .ref _,_,_,_=>trivial
 | .slice e,_,d,h=>by
  obtain⟨a,c,_,_,f,g⟩:=h;refine⟨f,λx j=>?_⟩;rcases g with g|⟨ad,_,_,k⟩
  ·subst g;simp at j
  ·obtain⟨i,hi,rfl⟩:=ACm.1 j;obtain⟨m,_,_,l⟩:=k i _ (As hi);exact IP l
 | .prod a b,_,_,h=>by
  obtain⟨c1,c2,_,h1,f⟩:=h;exact⟨IP h1,IP f⟩
 | .agg t,cs,d,h=>by
  have h:B0 w O t cs d:=h;exact(IP h:t.ok d)
def oks:(ts:List Ty)->Ka ts->Prop
 | [],_=>True
 | t :: ts,d=>t.ok d.1/\oks ts d.2
theorem u7 {w:World} {O:Nat->Prop}:∀ {ts:List Ty} {a:List Value} {ds:Ka ts},S2 w O ts a ds->oks ts ds
 | [],_,_,_=>trivial
 | t :: ts,a,ds,h=>by
  obtain⟨v,r,rfl,⟨cs,h1,_⟩,b⟩:=h;exact⟨IP h1,u7 b⟩
section
variable {P:Program} {tb:Tb} {w0:World} {O0:Nat->Prop} {nt:Nat}
theorem A7O {f : FuncId} {fn : Func} {cd : Code} {sp : Ac} (d : P.funcs[f]? = some fn) (j : (fn.name == "runtime.NumGoroutine") = false) (c : fn.body = some cd) (k : fn.ntmps = nt) (m : sp.ins.length <= nt)
  (i:Bu nt cd=true) (hT:DF P tb) (hF:JA P tb)
  (h:∀(w0:World) (O0:Nat->Prop) (ds:Ka sp.ins),(cx P tb w0 O0 nt).Ok->oks sp.ins ds->sp.pre ds->Ev (cx P tb w0 O0 nt) (VS P fn w0 O0 (sp.out ds)) (.run cd) [] ⟨AM 0 sp.ins ds,[]⟩):Ad P f sp:=by
 refine⟨⟨fn,d,j,by simp[c]⟩,λw O p ds e a l=>?_⟩;refine calls_of_wp d c ((wpIn_wide (n:=0)).1 ?_);have o:=TA a;rw[k];exact h w O ds ⟨λb g=>g,e,hT,hF⟩ (u7 a) l i rfl _ _ (yD a (by omega))
theorem Ob (O:(cx P tb w0 O0 nt).Ok) {fn:Func} {et:TypeId} {e:Ty} {xs:List e.den} {σ:St} {ex:Exit} (p:ex=.ret\/ex=.normal) {rv:ResultVar} (S:fn.results=#[rv]) (h:LV tb σ rv (.own et e xs)) :
  Ev (cx P tb w0 O0 nt) (VS P fn w0 O0 [.own et e xs]) (.out ex) [] σ:=by
 intro _ _ a w hs;obtain⟨ρ,hs⟩:=hs;have N:Below w0.heap.size w0 w:=⟨hs.frm.os,hs.frm.tape,hs.frm.output,hs.frm.size,hs.frm.block⟩;unfold LV at h;simp only at h;split at h
 ·rename_i n Z hi U;obtain⟨rfl,c,rfl⟩:=h;cases hn:lk n σ.objs with
  | none=>rw[hn]at c;simp[X1]at c
  | some o =>
   rw[hn]at c;cases o with
   | box f st fs=>simp[X1]at c
   | mapo k v l=>simp[X1]at c
   | frame al fs=>simp[X1]at c
   | loop L=>simp[X1]at c
   | itr ah ak ai aj af=>simp[X1]at c
   | dfr=>simp[X1]at c
   | nest aa ag k d ys A=>simp[X1]at c
   | arr f d ys =>
    simp only[X1]at c;split at c
    ·rename_i R;subst R;obtain⟨rfl,I⟩:=Bp c;cases I;obtain⟨u,hu,K⟩:=UU (P:=P) O.T hs U;obtain⟨ab,y⟩:=K;have C:=hs.objs n _ hn;have q:u=ρ n:=by
      obtain⟨W,m,c0,t,_,ad,V,X,rfl,_,h0,_⟩:=y;have t:plc (ρ n)=_:=t;obtain⟨rfl,rfl⟩:=h0 rfl;obtain⟨_,cells,s,_⟩:=C;have s:w.ownsRow 0 f d.size (ρ n) ys.length cells:=s;rw[Hj s]at t;have r:m=ys.length:=by
       rcases s.2 with ⟨p,ae⟩|⟨g,cap,Y,p,_⟩
       ·rw[t]at p;injection p;omega
       ·rw[t]at p;injection p
      rw[t,r,Nat.sub_zero]
     have D:(results fn a.tmps).run P w=.ok u w:=by
      rw[Oa,S];have:((#[rv]:Array ResultVar).mapM (J8 a.tmps)).run P w=.ok #[u] w:=by
       rw[ADR];simp[hu]
      simp only[ADb,this,aT,ADX];rfl
     have z:A1k w0 O0 [.own f d ys] u w:=by
      intro nm;have B:∀m,HJ (Eb ⟨[],[]⟩ [(nm,.arr f d ys)]) m↔m=nm:=by
       intro m;simp[HJ,Eb,lk]
      have hk:∀b,¬own O0 σ ρ b->¬own O0 (Eb ⟨[],[]⟩ [(nm,.arr f d ys)]) (FK (λ_=>undef) nm u) b:=by
       intro b j M;rcases M with h0|⟨m,A,r⟩
       ·exact j (.inl h0)
       ·rw[(B m).1 A,Bv,q]at r;exact j (.inr ⟨n,⟨_,hn⟩,r⟩)
      have J:Co nm [RV.own f d ys]=[(nm,.arr f d ys)]:=rfl;rw[J];refine⟨FK (λ_=>undef) nm u,QS.one (loc:=u) N (λb j=>?_) ?_ ?_⟩
      ·rw[q]at j;have:=(hs.free n b ⟨_,hn⟩ j).1;simp only[cx]at this;omega
      ·refine⟨(B nm).2 rfl,?_⟩;show DS (plc (FK (λ_=>undef) nm u nm)) _ _ _ u;rw[Bv,q];rw[q]at y;exact y
      ·rw[q];obtain⟨r,cells,s,Q⟩:=C;refine⟨r,cells,s,λi x hi=>?_⟩;obtain⟨E,F,G,H⟩:=Q i x hi;rw[q]at hk;exact⟨E,F,G,H.mono (λb _ j=>hk b j) (λ_ _ _=>rfl)⟩
     rcases p with rfl|rfl
     ·exact⟨hs.defers,u,D,u,rfl,z⟩
     ·exact⟨hs.defers,u,D,u,rfl,z⟩
    ·cases c
 ·exact h.elim
end
end
section
open Go Go.RowKit
section
variable {P:Program} {tb:Tb} {w0:World} {O0:Nat->Prop} {nt:Nat} {R:Exit->Act->World->Prop} {k:List DT} {σ σ':St}
theorem YY:(cx P tb w0 O0 nt).tb=tb:=rfl
theorem qH {c:Cx} (a:c.Ok) {id:Nat} {l:List Oper} {vc:Prop} (h:Bq c.tb l l σ=some (vc,σ')) (b:vc) (hk:Ev c R (.out .normal) k σ') :
  Ev c R (.run (.region id l.toArray false)) k σ:=yC a (by
 show EvR _ _ _ (Bq c.tb l l σ);rw[h];exact⟨b,hk⟩)
theorem Dm {c:Cx} {o:Operand} {x y:Code} {b:Bool} (h:Ao σ o=some (.p .bool b)) (a:b=true->Ev c R (.run x) k σ) (hf:b=false->Ev c R (.run y) k σ):Ev c R (.run (.cond o x y)) k σ :=
 A62 (by rw[h];exact⟨a,hf⟩)
theorem qI {c:Cx} {id:Nat} (h:Ev c R (.out .normal) k σ):Ev c R (.out (.exit id)) (.blk id :: k) σ:=S9 (by rw[BY rfl];exact h)
theorem qJ {c:Cx} {id a:Nat} (b:a≠id) (h:Ev c R (.out (.exit a)) k σ):Ev c R (.out (.exit a)) (.blk id :: k) σ:=S9 (by rw[An b];exact h)
end
inductive B1 where
 | nm (n:Nat)
 | nil
def Dj (ren:List (Nat×B1)):AV->AV->Prop
 | .p t d,.p u a=>BW u ⟨t,d⟩=some a
 | .raw (.slice none 0 0),.p (.slice e) a=>(a:List e.den)=[]
 | .raw v,.raw u=>v=u
 | .raw (.slice none 0 0),.sr m _ lo hi=>lk m ren=some .nil/\lo=0/\hi=0
 | .sr n e lo hi,.sr m b h c=>lk m ren=some (.nm n)/\e=b/\lo=h/\hi=c
 | .ip t d,.ip u a=>BW u ⟨t,d⟩=some a
 | .bp n p o,.bp m k j=>lk m ren=some (.nm n)/\p=k/\o=j
 | .fn f,.fn g=>f=g
 | .clo f ns,.clo g i=>f=g/\i.map (λm=>lk m ren)=ns.map λn=>some (.nm n)
 | .mp n,.mp m=>lk m ren=some (.nm n)
 | .yl n,.yl m=>lk m ren=some (.nm n)
 | _,.top=>True
 | _,_=>False
def Ex (ren:List (Nat×B1)):List AV->List AV->Prop
 | [],[]=>True
 | x :: l,y :: r=>(x.cells=y.cells/\Dj ren x y)/\Ex ren l r
 | _,_=>False
def HO (ren:List (Nat×B1)):AV->AV->Prop
 | .ag l,.ag r=>Ex ren l r
 | x,y=>Dj ren x y
def Hm (ren:List (Nat×B1)):List AV->List AV->Prop
 | [],[]=>True
 | x :: l,y :: r=>HO ren x y/\Hm ren l r
 | _,_=>False
def Bk (ren:List (Nat×B1)):AV->AV->Prop
 | .tup l,.tup r=>Hm ren l r
 | x,y=>HO ren x y
def Jp (ren:List (Nat×B1)):Option AV->AV->Prop
 | some x,y=>Bk ren x y
 | none,.top=>True
 | none,_=>False
def Ey (env:List (Nat×AV)) (ren:List (Nat×B1)):List (Nat×AV)->Prop
 | []=>True
 | (s,y) :: r=>Jp ren (lk s env) y/\Ey env ren r
def HP (ren:List (Nat×B1)):Option Obj->Obj->Prop
 | some (.arr et e xs),.arr a c ys=>et=a/\BW (.slice c) ⟨.slice e,xs⟩=some ys
 | some (.box et st fs),.box a q d=>et=a/\st=q/\Ex ren fs d
 | some (.nest et n k e xs h),.nest a o b c ys m=>(et=a/\n=o/\h=m)/\BW (.slice (.prod b (.slice c))) ⟨.slice (.prod k (.slice e)),xs⟩=some ys
 | some (.mapo k v l),.mapo b f l'=>BW (.slice (.prod b f)) ⟨.slice (.prod k v),l⟩=some l'
 | some (.frame r fs),.frame s d=>r=s/\Ey fs ren d
 | some (.itr k v l lf i),.itr b f l' p j=>BW (.slice (.prod b f)) ⟨.slice (.prod k v),l⟩=some l'/\lf=p/\i=j
 | some (.loop L),.loop g=>L=g
 | some .dfr,.dfr=>True
 | _,_=>False
def GA (objs:List (Nat×Obj)) (ren:List (Nat×B1)) (o:Obj):Option B1->Prop
 | some (.nm n)=>HP ren (lk n objs) o
 | some .nil=>match o with
  | .arr _ e ys=>(ys:List e.den)=[]
  | .box _ _ _=>False
  | .nest _ _ k e ys _=>(ys:List (k.den×List e.den))=[]
  | .mapo _ _ _=>False
  | .frame _ _=>False
  | .itr _ _ _ _ _=>False
  | .loop _=>False
  | .dfr=>False
 | none=>False
def Ae (objs:List (Nat×Obj)) (ren:List (Nat×B1)):List (Nat×Obj)->Prop
 | []=>True
 | (m,o) :: r=>GA objs ren o (lk m ren)/\Ae objs ren r
def B4:List (Nat×B1)->Bool
 | []=>true
 | (_,.nm n) :: r=>(r.all λp=>match p.2 with|.nm a=>a != n|.nil=>true)&&B4 r
 | (_,.nil) :: r=>B4 r
def MA {α:Type}:List (Nat×α)->Bool
 | []=>true
 | (n,_) :: r=>(r.all λp=>p.1 != n)&&MA r
section
variable {ren:List (Nat×B1)} {V V':Vw}
structure MB (ren:List (Nat×B1)) (V V':Vw):Prop where
 w:V'.w=V.w
 O:∀b,¬V.O b->¬V'.O b
 ρ:∀m n,lk m ren=some (.nm n)->V'.ρ m=V.ρ n
 nil:∀m,lk m ren=some .nil->V'.ρ m=.slice none 0 0
 L:∀m f,lk m ren=some f->V'.L m
theorem MB.vrep (h:MB ren V V') {t:Ty} {v:Value} {d:t.den} (c:Bm V.w V.O t v d):Bm V'.w V'.O t v d :=
 Bm.mono (λb _ a=>h.O b a) (λb _ _=>by rw[h.w]) c
theorem MB.rep (h:MB ren V V') {t:Ty} {cs:List Value} {d:t.den} (c:B0 V.w V.O t cs d):B0 V'.w V'.O t cs d :=
 c.mono (λb _ a=>h.O b a) (λb _ _=>by rw[h.w])
theorem MB.map (h:MB ren V V'):∀ {b ns:List Nat},b.map (λm=>lk m ren)=ns.map (λn=>some (B1.nm n))->b.map V'.ρ=ns.map V.ρ/\∀m∈b,∃n∈ns,lk m ren=some (.nm n)
 | [],[],_=>⟨rfl,λ_ h=>by cases h⟩
 | [],_ :: _,a=>by simp at a
 | _ :: _,[],a=>by simp at a
 | m :: b,n :: ns,a=>by
  simp only[So,ADV]at a;obtain⟨h1,c⟩:=h.map a.2;refine⟨by simp only[So,h1,h.ρ _ _ a.1],λx d=>?_⟩;grind
theorem YZ (h:MB ren V V') {x y:AV} {v:Value} (b:Dj ren x y) (c:VB V x v):VB V' y v/\(∀t d,y=.p t d->(∀u g,x≠.p u g)->v.oneCell'=true->B0 V'.w V'.O t [v] d):=by
 unfold Dj at b;split at b
 ·have:=BH b;injection this with h1 f
  subst h1;cases f;exact⟨h.vrep c,λ_ _ _ z=>absurd rfl (z _ _)⟩
 ·have c:v=_:=c;subst c;have i:=b;have k:∀(O:Nat->Prop) (e:Ty),B0 V'.w O (.slice e) [.slice none 0 0] ([]:List e.den):=λO e=>⟨none,0,rfl,by simp,by simp[AP],.inl rfl⟩;rename_i e g;have i:g=([]:List e.den):=i;subst i;refine⟨⟨_,k _ _,rfl⟩,λt d a _ _=>?_⟩;grind
 ·subst b;exact⟨c,λt d a=>by cases a⟩
 ·rename_i m e lo hi;obtain⟨h1,rfl,rfl⟩:=b;have c:v=_:=c;subst c;refine⟨⟨h.L _ _ h1,?_⟩,λt d a=>by cases a⟩;rw[h.nil _ h1];exact⟨none,0,0,rfl,by omega,by omega,none,0,rfl,by omega,λ_=>⟨rfl,rfl⟩,λh=>by omega⟩
 ·obtain⟨h1,rfl,rfl,rfl⟩:=b;refine⟨⟨h.L _ _ h1,?_⟩,λt d a=>by cases a⟩;rw[h.ρ _ _ h1];exact c.2
 ·have:=BH b;injection this with h1 f
  subst h1;cases f;obtain⟨ad,cs,a,o,q,k⟩:=c;exact⟨⟨ad,cs,a,h.O _ o,λj u r=>by rw[h.w];exact q j u r,h.rep k⟩,λt d a=>by cases a⟩
 ·obtain⟨h1,rfl,rfl⟩:=b;refine⟨⟨h.L _ _ h1,?_⟩,λt d a=>by cases a⟩;rw[h.ρ _ _ h1];exact c.2
 ·subst b;exact⟨c,λt d a=>by cases a⟩
 ·obtain⟨rfl,s⟩:=b;obtain⟨h1,f⟩:=h.map s;refine⟨⟨?_,λm b=>?_⟩,λt d a=>by cases a⟩
  ·rw[h1];exact c.1
  ·obtain⟨n,hn,l⟩:=f m b;refine⟨h.L _ _ l,?_⟩;rw[h.ρ _ _ l];exact(c.2 n hn).2
 ·refine⟨⟨h.L _ _ b,?_⟩,λt d a=>by cases a⟩;rw[h.ρ _ _ b];exact c.2
 ·refine⟨⟨h.L _ _ b,?_⟩,λt d a=>by cases a⟩;rw[h.ρ _ _ b];exact c.2
 ·exact⟨trivial,λt d a=>by cases a⟩
 ·exact b.elim
theorem yE (h:MB ren V V') {x y:AV} {cs:List Value} (f:x.cells=y.cells) (b:Dj ren x y) (a:Nj V x cs):Nj V' y cs:=by
 by_cases hp:∃t d,x=.p t d
 ·obtain⟨t,d,rfl⟩:=hp;have a:B0 V.w V.O t cs d:=a;cases y<;>simp only[Dj]at b<;>try exact b.elim
  ·have:=BH b;injection this with h1 c
   subst h1;cases c;exact h.rep a
  ·have g:=a.length;simp only[AV.cells]at f;rw[f]at g;obtain⟨v,rfl⟩:=ADg.1 g;exact⟨v,rfl,a.one v (by simp),trivial⟩
 ·have l:∃v,cs=[v]/\v.oneCell'=true/\VB V x v:=by
   cases x;case p t d=>exact absurd ⟨t,d,rfl⟩ hp
   all_goals exact a
  obtain⟨v,rfl,h1,c⟩:=l;obtain⟨j,k⟩:=YZ h b c;cases y;case p t d=>exact k t d rfl (λu i e=>hp ⟨u,i,e⟩) h1
  all_goals exact⟨v,rfl,h1,j⟩
theorem Oc (h:MB ren V V'):∀ {l r:List AV} {cs:List Value},Ex ren l r->Dl V l cs->Dl V' r cs
 | [],[],cs,_,b=>b
 | [],_ :: _,cs,a,_=>a.elim
 | _ :: _,[],cs,a,_=>a.elim
 | x :: l,y :: r,cs,a,b=>by
  obtain⟨c1,c2,rfl,h1,c⟩:=b;exact⟨c1,c2,rfl,yE h a.1.1 a.1.2 h1,Oc h a.2 c⟩
theorem LX:∀ {l r:List AV},Ex ren l r->l.length=r.length
 | [],[],_=>rfl
 | [],_ :: _,a=>a.elim
 | _ :: _,[],a=>a.elim
 | _ :: _,_ :: _,a=>by simp[LX a.2]
theorem Ya (h:MB ren V V') {x y:AV} {v:Value} (a:HO ren x y) (b:Sw V x v):Sw V' y v:=by
 cases x;case ag l =>
  cases y;case ag r =>
   obtain⟨cs,e,h1⟩:=b;exact⟨cs,e,Oc h a h1⟩
  all_goals simp only[HO,Dj]at a
  all_goals first|exact a.elim|exact trivial
 all_goals
  simp only[Sw]at b;have a:Dj ren _ y:=a;exact Sw.of1 (YZ h a b).1
theorem fE (h:MB ren V V'):∀ {l r:List AV} {b:List Value},Hm ren l r->J5 V l b->J5 V' r b
 | [],[],b,_,c=>c
 | [],_ :: _,b,a,_=>a.elim
 | _ :: _,[],b,a,_=>a.elim
 | x :: l,y :: r,b,a,c=>by
  obtain⟨v,e,rfl,h1,d⟩:=c;exact⟨v,e,rfl,Ya h a.1 h1,fE h a.2 d⟩
theorem ND (h:MB ren V V') {x y:AV} {v:Value} (a:Bk ren x y) (b:B9 V x v):B9 V' y v:=by
 cases x;case tup l =>
  cases y;case tup r =>
   obtain⟨c,e,h1⟩:=b;exact⟨c,e,fE h a h1⟩
  all_goals simp only[Bk,HO,Dj]at a
  all_goals first|exact a.elim|exact trivial
 all_goals
  simp only[Bk]at a;exact A13 (Ya h a b)
theorem DM {objs:List (Nat×Obj)} {m:Nat} {o:Obj}:∀ {l:List (Nat×Obj)},Ae objs ren l->lk m l=some o->GA objs ren o (lk m ren)
 | (j,x) :: l,h,a=>by
  simp only[lk]at a;split at a
  ·rename_i e;cases a;subst e;exact h.1
  ·exact DM h.2 a
theorem MC {env:List (Nat×AV)} {s:Nat} {y:AV}:∀ {l:List (Nat×AV)},Ey env ren l->lk s l=some y->Jp ren (lk s env) y
 | (j,x) :: l,h,a=>by
  simp only[lk]at a;split at a
  ·rename_i e;cases a;subst e;exact h.1
  ·exact MC h.2 a
theorem UV:∀ {l:List (Nat×B1)} {m c n:Nat},B4 l=true->lk m l=some (.nm n)->lk c l=some (.nm n)->m=c
 | (j,f) :: l,m,c,n,a,h1,b=>by
  simp only[lk]at h1 b;have e:B4 l=true:=by
   cases f<;>simp only[B4,AT]at a
   ·exact a.2
   ·exact a
  have g:∀q,f=.nm n->lk q l=some (.nm n)->False:=by
   intro q hf d;subst hf;simp only[B4,AT,IS]at a;have:=a.1 _ (F8 d);simp at this
  split at h1
  ·grind
  ·split at b
   ·grind
   ·exact UV e h1 b
def A9L (n:Nat):Option B1->Bool
 | some (.nm m)=>m==n
 | _=>false
def A8t (pin:List (Nat×Value)) (ren:List (Nat×B1)):Bool:=pin.all λp=>A9L p.1 (lk p.1 ren)
theorem Rb {V V':Vw} (a:MB ren V V') {P:List (Nat×Obj)} (ag:∀n x,lk n P=some x->A8 V x (V.ρ n)) {o:Obj} {m:Nat} (hf:GA P ren o (lk m ren)):A8 V' o (V'.ρ m):=by
 cases J:lk m ren with
 | none=>rw[J]at hf;exact hf.elim
 | some f =>
  rw[J]at hf;cases f with
  | nil =>
   rw[a.nil m J];cases o with
   | box et st fs=>exact hf.elim
   | mapo k v l=>exact hf.elim
   | frame t fs=>exact hf.elim
   | loop L=>exact hf.elim
   | itr B E C D A=>exact hf.elim
   | dfr=>exact hf.elim
   | nest et aj k e ys H =>
    have hf:ys=([]:List (k.den×List e.den)):=hf;subst hf;exact⟨_,[],[],.inr ⟨rfl,rfl,rfl⟩,by simp[AP],rfl,ADW _ 0 et _,λi x u h=>by simp at h,λi j b u v h=>by simp at h,λi b u h=>by simp at h⟩
   | arr et e ys =>
    have hf:ys=([]:List e.den):=hf;subst hf;exact⟨by simp[AP],[],ADW _ 0 et e.size,Hw _ _ _ _⟩
  | nm n =>
   rw[a.ρ m n J];simp only[GA]at hf;cases hn:lk n P with
   | none=>rw[hn]at hf;simp only[HP]at hf
   | some x =>
    rw[hn]at hf;have q:=ag n x hn;cases x with
    | arr et e xs =>
     cases o with
     | box c st fs=>exact hf.elim
     | mapo k v l=>exact hf.elim
     | frame t fs=>exact hf.elim
     | loop L=>exact hf.elim
     | itr B E C D A=>exact hf.elim
     | dfr=>exact hf.elim
     | nest _ _ _ _ _ _=>exact hf.elim
     | arr c p ys =>
      obtain⟨rfl,g⟩:=hf;obtain⟨rfl,d⟩:=Bp g;cases d;obtain⟨ae,cells,af,ab⟩:=q;refine⟨ae,cells,by rw[a.w];exact af,λi z hi=>?_⟩;obtain⟨K,S,T,U⟩:=ab i z hi;exact⟨K,S,T,a.rep U⟩
    | box et st fs =>
     cases o with
     | arr c p ys=>exact hf.elim
     | mapo k v l=>exact hf.elim
     | frame t fs=>exact hf.elim
     | loop L=>exact hf.elim
     | itr B E C D A=>exact hf.elim
     | dfr=>exact hf.elim
     | nest _ _ _ _ _ _=>exact hf.elim
     | box c av W =>
      obtain⟨rfl,rfl,G⟩:=hf;obtain⟨h0,b,cs,F,hh,aa⟩:=q;exact⟨λah=>by rw[<-LX G];exact h0 ah,b,cs,F,by rw[a.w];exact hh,Oc a G aa⟩
    | nest et aj k e xs h =>
     cases o with
     | nest c ar Q p ys aq =>
      obtain⟨⟨rfl,rfl,rfl⟩,g⟩:=hf;have g:=BH g;injection g with h1 y
      injection h1 with h1
      injection h1 with h1 d
      injection d with d
      subst h1;subst d;cases y;exact xX a.w a.O q
     | mapo k v l=>exact hf.elim
     | box c st fs=>exact hf.elim
     | arr c p ys=>exact hf.elim
     | frame t fs=>exact hf.elim
     | loop L=>exact hf.elim
     | itr B E C D A=>exact hf.elim
     | dfr=>exact hf.elim
    | mapo k v l =>
     cases o with
     | mapo Q an l' =>
      have g:=BH hf;injection g with h1 y
      injection h1 with h1
      injection h1 with h1 d
      subst h1;subst d;cases y;obtain⟨b,K,cl,F,hh,ad,Z⟩:=q;exact⟨b,K,cl,F,by rw[a.w];exact hh,ad.mono (λb _ M=>a.O b M) (λb _ _=>by rw[a.w]),Z⟩
     | box c st fs=>exact hf.elim
     | arr c p ys=>exact hf.elim
     | frame t fs=>exact hf.elim
     | loop L=>exact hf.elim
     | itr B E C D A=>exact hf.elim
     | dfr=>exact hf.elim
     | nest _ _ _ _ _ _=>exact hf.elim
    | frame t fs =>
     cases o with
     | frame aw W =>
      obtain⟨rfl,G⟩:=hf;obtain⟨h0,h1⟩:=q;refine⟨h0,λs v ai=>?_⟩;have I:=MC G ai;cases N:lk s fs with
      | none =>
       rw[N]at I;cases v<;>simp only[Jp]at I;exact trivial
      | some x =>
       rw[N]at I;exact ND a I (h1 s x N)
     | mapo k v l=>exact hf.elim
     | box c st fs=>exact hf.elim
     | arr c p ys=>exact hf.elim
     | loop L=>exact hf.elim
     | itr B E C D A=>exact hf.elim
     | dfr=>exact hf.elim
     | nest _ _ _ _ _ _=>exact hf.elim
    | itr k v l lf ao =>
     cases o with
     | itr Q an l' au ap =>
      obtain⟨hf,rfl,rfl⟩:=hf;have g:=BH hf;injection g with h1 y
      injection h1 with h1
      injection h1 with h1 d
      subst h1;subst d;cases y;obtain⟨r,F,b,ak,cl,am,al,h1,y,d,X,Y⟩:=q;exact⟨r,F,b,ak,cl,am,al,by rw[a.w];exact h1,a.O b y,by rw[a.w];exact d,X.mono (λb _ M=>a.O b M) (λb _ _=>by rw[a.w]),Y⟩
     | mapo k v l=>exact hf.elim
     | box c st fs=>exact hf.elim
     | arr c p ys=>exact hf.elim
     | frame t fs=>exact hf.elim
     | loop L=>exact hf.elim
     | dfr=>exact hf.elim
     | nest _ _ _ _ _ _=>exact hf.elim
    | loop L =>
     cases o with
     | loop R =>
      have hf:L=R:=hf;subst hf;obtain⟨b,H,hh⟩:=q;exact⟨b,H,by rw[a.w];exact hh⟩
     | itr B E C D A=>exact hf.elim
     | mapo k v l=>exact hf.elim
     | box c st fs=>exact hf.elim
     | arr c p ys=>exact hf.elim
     | frame t fs=>exact hf.elim
     | dfr=>exact hf.elim
     | nest _ _ _ _ _ _=>exact hf.elim
    | dfr =>
     cases o with
     | dfr =>
      obtain⟨b,H,hh⟩:=q;exact⟨b,H,by rw[a.w];exact hh⟩
     | nest _ _ _ _ _ _=>exact hf.elim
     | mapo k v l=>exact hf.elim
     | box c st fs=>exact hf.elim
     | arr c p ys=>exact hf.elim
     | frame t fs=>exact hf.elim
     | loop L=>exact hf.elim
     | itr B E C D A=>exact hf.elim
def CM (objs:List (Nat×Obj)) (ren:List (Nat×B1)):Bool:=ren.all λp=>(lk p.1 objs).isSome
theorem AC {c:Cx} {σ σ':St} (ren:List (Nat×B1)) (h1:B4 ren=true) (r:CM σ'.objs ren=true) (z:Ae σ.objs ren σ'.objs) (F:Ey σ.env ren σ'.env) (hp:A8t c.ds.pin ren=true:=by rfl):Ent c σ σ':=by
 rintro a w ⟨ρ,hs⟩
 let ρ':Nat->Value:=λm=>match lk m ren with|some (.nm n)=>ρ n|_=>.slice none 0 0
 have y:∀m n,lk m ren=some (.nm n)->ρ' m=ρ n:=λm n d=>by simp[ρ',d]
 have u:∀m,lk m ren=some .nil->ρ' m=.slice none 0 0:=λm d=>by simp[ρ',d]
 have D:∀m f,lk m ren=some f->HJ σ' m:=λm f d=>by
  simp only[CM,IS]at r;have:=r _ (F8 d);exact ADA.1 this
 have j:∀m b,HJ σ' m->bk (ρ' m) b->∃n,lk m ren=some (.nm n)/\HJ σ n/\bk (ρ n) b:=by
  rintro m b ⟨o,d⟩ e;have hf:=DM z d;cases i:lk m ren with
  | none=>rw[i]at hf;exact hf.elim
  | some f =>
   cases f with
   | nil=>rw[u m i]at e;simp[bk,blk]at e
   | nm n =>
    rw[i]at hf;rw[y m n i]at e;refine⟨n,rfl,?_,e⟩;cases hn:lk n σ.objs with
    | none=>simp only[GA,hn,HP]at hf
    | some x=>exact⟨x,hn⟩
 have t:MB ren (vw w c.O0 σ ρ) (vw w c.O0 σ' ρ'):=by
  refine⟨rfl,λb e k=>?_,y,u,D⟩;rcases k with h0|⟨m,h,d⟩
  ·exact e (.inl h0)
  ·obtain⟨n,_,hn,g⟩:=j m b h d;exact e (.inr ⟨n,hn,g⟩)
 refine⟨ρ',hs.frm,hs.nt,hs.defers,λp A=>?_,λm o d=>?_,λm b h e=>?_,λm J b h G e k=>?_,λs v I=>?_⟩
 ·obtain⟨L,M,N⟩:=hs.pin p A;simp only[A8t,IS]at hp;have l:=hp p A;unfold A9L at l;split at l
  ·grind
  ·cases l
 ·exact Rb t hs.objs (DM z d)
 ·obtain⟨n,_,hn,g⟩:=j m b h e;exact hs.free n b hn g
 ·obtain⟨n,B,hn,g⟩:=j m b h e;obtain⟨K,C,H,E⟩:=j J b G k;have:=hs.dist n K b hn H g E;subst this;exact UV h1 B C
 ·have d:=MC F I;cases q:lk s σ.env with
  | none =>
   rw[q]at d;cases v<;>simp only[Jp]at d;exact trivial
  | some x =>
   rw[q]at d;exact ND t d (hs.env s x q)
end
end
section
open Go
theorem Fs (b:Bool):RR true (some (.p .bool b))=some b:=by cases b<;>rfl
theorem E7 (b:Bool):RR false (some (.p .bool b))=some (!b):=by cases b<;>rfl
theorem Kr:IntKind.i64.min=-9223372036854775808:=by decide
theorem Ks:IntKind.i64.max=9223372036854775807:=by decide
theorem Kt:IntKind.u64.min=0:=by decide
theorem Ku:IntKind.u64.max=18446744073709551615:=by decide
theorem Od:IntKind.u8.min=0:=by decide
theorem Oe:IntKind.u8.max=255:=by decide
theorem Kv (n:Int):KX .i64 n↔-9223372036854775808<=n/\n<=9223372036854775807:=by unfold KX;rw[Kr,Ks]
theorem Hn (n:Int):KX .u64 n↔0<=n/\n<=18446744073709551615:=by unfold KX;rw[Kt,Ku]
theorem Rc (n:Int):KX .u8 n↔0<=n/\n<=255:=by unfold KX;rw[Od,Oe]
theorem NE {α:Type} (x:α):sub [x] 0 1=[x]:=rfl
theorem Gx {α:Type} (xs:List α) (n:Nat):sub xs 0 n=xs.take n:=by simp[sub]
theorem yF (n:Nat):((n:Int)).toNat=n:=Se n
theorem E8 (n:Nat):(0<=(n:Int))=True:=eq_true (oF n)
end
section
open Go Go.RowKit
section
variable {tb:Tb} {σ σ':St}
def dX (σ σ':St):Prop:=∀n o,lk n σ.objs=some o->lk n σ'.objs=some o
theorem A1x (h:dX σ σ') {e:Ty} {lo hi n:Nat} {d:List e.den} (hs:PZ e lo hi (lk n σ.objs)=some d):PZ e lo hi (lk n σ'.objs)=some d:=by
 cases hn:lk n σ.objs with
 | none=>rw[hn]at hs;simp[PZ]at hs
 | some o=>rw[h n o hn,<-hn];exact hs
theorem yG (h:dX σ σ') {e:Ty} {i n:Nat} {d:List e.den} (hs:Pa e i (lk n σ.objs)=some d):Pa e i (lk n σ'.objs)=some d:=by
 cases hn:lk n σ.objs with
 | none=>rw[hn]at hs;simp[Pa]at hs
 | some o=>rw[h n o hn,<-hn];exact hs
theorem J9 (h:dX σ σ') {l:Bool} {t:Ty} {x:AV} {d:t.den} (hs:E5 l σ t x=some d):E5 l σ' t x=some d:=by
 unfold E5 at hs ⊢;split at hs
 ·exact hs
 ·grind [A1x]
 ·grind [yG]
 ·exact hs
 ·cases hs
theorem Yb (h:dX σ σ') {l:Bool}:∀ {fs:List AV} {t:Ty} {d:t.den},J0 l σ fs t=some d->J0 l σ' fs t=some d
 | [],t,d,hs=>by simp[J0]at hs
 | [x],t,d,hs=>by grind [J0,J9]
 | x :: y :: r,t,d,hs=>by
  cases t<;>simp only[J0]at hs ⊢<;>try(cases hs;done)
  rename_i a b;cases h1:E5 l σ a x with
  | none=>rw[h1]at hs;simp[LR]at hs
  | some e =>
   cases c:J0 l σ (y :: r) b with
   | none=>rw[h1,c]at hs;simp[LR]at hs
   | some f =>
    rw[J9 h h1,Yb h c];rw[h1,c]at hs;exact hs
theorem FU (h:dX σ σ') {l:Bool} {t:Ty} {x:AV} {d:t.den} (hs:Kb l σ t x=some d):Kb l σ' t x=some d:=by
 unfold Kb at hs ⊢;split at hs
 ·exact Yb h hs
 ·exact J9 h hs
def Ops (σ σ':St) (xs:List Operand):Prop:=∀x∈xs,∀v,Ao σ x=some v->Ao σ' x=some v
theorem Py (h:dX σ σ') {e:Ty} {x:AV} {d:List e.den} (hs:PX σ e x=some d):PX σ' e x=some d:=by
 unfold PX at hs ⊢;split at hs
 ·rename_i n a lo hi;cases hn:lk n σ.objs with
  | none =>
   rw[hn]at hs;have hs:E5 true σ (.slice e) (.sr n a lo hi)=some d:=by simpa[Cg,Kb] using hs
   simp only[E5,hn]at hs;split at hs<;>simp[PZ]at hs
  | some o =>
   rw[h n o hn];rw[hn]at hs;split at hs
   ·cases hs
   ·grind [FU]
 ·exact FU h hs
theorem VT (h:dX σ σ') {l:Bool}:∀ {ts:List Ty} {xs:List Operand} {ds:Ka ts},Ops σ σ' xs->F5 l σ ts xs=some ds->F5 l σ' ts xs=some ds
 | [],[],ds,_,hs=>hs
 | [],_ :: _,ds,_,hs=>by simp[F5]at hs
 | _ :: _,[],ds,_,hs=>by simp[F5]at hs
 | t :: ts,x :: xs,ds,b,hs=>by
  simp only[F5]at hs ⊢;cases a:Ao σ x with
  | none=>rw[a]at hs;cases hs
  | some v =>
   rw[b x (by simp) v a];rw[a]at hs;simp only at hs ⊢;split at hs
   ·rename_i y ys c d;rw[FU h c,VT h (λz e=>b z (by simp[e])) d];exact hs
   ·cases hs
theorem TB (h:dX σ σ') {e:Ty}:∀ {parts:List (Nat×Operand)} {k:Nat} {xs:List e.den},Ops σ σ' (parts.map (·.2))->Ep σ e k parts=some xs->Ep σ' e k parts=some xs
 | [],k,xs,_,hs=>hs
 | (i,x) :: r,k,xs,b,hs=>by
  simp only[Ep]at hs ⊢;split at hs
  ·rename_i d;rw[BY d];cases a:Ao σ x with
   | none=>rw[a]at hs;cases hs
   | some v =>
    rw[b x (by simp) v a];rw[a]at hs;simp only at hs ⊢;split at hs
    ·rename_i y ys f g;rw[FU h f,TB h (λz c=>b z (by simp at c ⊢;exact .inr c)) g];exact hs
    ·cases hs
  ·cases hs
theorem fF (h:dX σ σ') {z:Option AV} {x:Operand} {v:AV} (d:∀v,Ao σ x=some v->Ao σ' x=some v) (hs:Fb σ z (Ao σ x)=some v):Fb σ' z (Ao σ' x)=some v:=by
 cases b:Ao σ x with
 | none=>rw[b]at hs;unfold Fb at hs;split at hs<;>simp at *
 | some a =>
  rw[d a b];rw[b]at hs;unfold Fb at hs ⊢;split at hs
  ·rename_i t _ l c;cases c;simp only[Is]at hs ⊢;grind [FU]
  ·exact hs
theorem Pz (h:dX σ σ') {offs:List (Nat×Nat)}:∀ {parts:List (Nat×Operand)} {fs a:List AV},Ops σ σ' (parts.map (·.2))->De σ offs fs parts=some a->De σ' offs fs parts=some a
 | [],fs,a,_,hs=>hs
 | (i,x) :: r,fs,a,c,hs=>by
  simp only[De]at hs ⊢;cases b:Fb σ fs[i]? (Ao σ x) with
  | none=>rw[b]at hs;cases hs
  | some v =>
   rw[fF h (c x (by simp)) b];rw[b]at hs;simp only at hs ⊢;split at hs
   ·rename_i e;rw[BY e];exact Pz h (λz d=>c z (by simp at d ⊢;exact .inr d)) hs
   ·cases hs
theorem VU:∀ {xs:List Operand} {ns:List Nat},Ops σ σ' xs->HZ σ xs=some ns->HZ σ' xs=some ns
 | [],ns,_,hs=>hs
 | x :: r,ns,a,hs=>by
  simp only[HZ]at hs ⊢;split at hs
  ·rename_i n d h1 b;rw[a x (by simp) _ h1,VU (λz c=>a z (by simp[c])) b];exact hs
  ·cases hs
theorem UW (h:dX σ σ') {d:Nat} {op:Op} {r:Prop×AV×List (Nat×Obj)} (A:Ops σ σ' op.operands.toList) (hs:aq tb σ d op=some r):aq tb σ' d op=some r:=by
 have one:∀ {x:Operand} {f:Option AV->Bb},x∈op.operands.toList->f none=none->f (Ao σ x)=some r->f (Ao σ' x)=some r:=by
  intro x f j hn hf;cases B:Ao σ x with
  | none=>rw[B,hn]at hf;cases hf
  | some v=>rw[A x j v B,<-B];exact hf
 have M:∀ {x y:Operand} {f:Option AV->Option AV->Bb},x∈op.operands.toList->y∈op.operands.toList->(∀b,f none b=none)->(∀a,f a none=none)->f (Ao σ x) (Ao σ y)=some r->f (Ao σ' x) (Ao σ' y)=some r:=by
  intro x y f j E h1 H hf;cases B:Ao σ x with
  | none=>rw[B,h1]at hf;cases hf
  | some v =>
   cases K:Ao σ y with
   | none=>rw[K,H]at hf;cases hf
   | some w=>rw[A x j v B,A y E w K,<-B,<-K];exact hf
 cases op<;>simp only[aq]at hs ⊢<;>try(cases hs;done)
 case move x=>exact one (f:=GW) (by simp[Op.operands]) rfl hs
 case assign x=>exact one (f:=GW) (by simp[Op.operands]) rfl hs
 case pick c x y =>
  cases G:Ao σ c with
  | none=>rw[G]at hs;simp[J4]at hs
  | some ad =>
   have ae:=A c (by simp[Op.operands]) ad G;rw[G]at hs;rw[ae];unfold J4 at hs ⊢;split at hs
   ·rename_i F;cases F;exact one (f:=GW) (by simp[Op.operands]) rfl hs
   ·rename_i F;cases F;exact one (f:=GW) (by simp[Op.operands]) rfl hs
   ·cases hs
 case alloc t=>exact hs
 case box t x=>exact one (f:=RP d t (lk t tb.ty)) (by simp[Op.operands]) (by cases lk t tb.ty<;>simp[RP]) hs
 case build t parts =>
  unfold H7 at hs ⊢;split at hs
  ·rename_i u offs el b F;cases hp:De σ offs (uP u) parts.toList with
   | none=>rw[hp]at hs;simp[GW]at hs
   | some fs =>
    rw[Pz h (by simpa[Op.operands] using A) hp];rw[hp]at hs;exact hs
  ·cases hs
 case buildSlice t n parts =>
  cases W:lk d tb.nests with
  | some ap =>
   rw[W]at hs;simp only[F6]at hs ⊢;unfold H9 at hs ⊢;split at hs
   ·rename_i x au offs el b hp F;cases j:Ao σ x with
    | none=>rw[j]at hs;unfold H8 at hs;split at hs<;>first|(cases hs;done)|(rename_i H;cases H)
    | some av =>
     rw[A x (by simp[Op.operands,hp]) av j];rw[j]at hs;unfold H8 at hs ⊢;split at hs
     ·rename_i k e ay az ao;unfold Jb at hs;split at hs
      ·rename_i aa S;rw[J9 h S];exact hs
      ·rename_i aa an l S;split at hs
       ·rename_i U;rw[J9 h S];simp only[Jb,U,ACF];exact hs
       ·cases hs
      ·cases hs
     ·cases hs
   ·cases hs
  | none =>
  rw[W]at hs;simp only[F6]at hs ⊢;unfold BX at hs ⊢;split at hs
  ·rename_i e offs el b F;cases hp:Ep σ e 0 parts.toList with
   | none=>rw[hp]at hs;simp[Be]at hs
   | some xs =>
    rw[TB h (by simpa[Op.operands] using A) hp];rw[hp]at hs;exact hs
  ·cases hs
 case load t x =>
  cases j:Ao σ x with
  | none=>rw[j]at hs;simp[Iz]at hs
  | some v =>
   rw[A x (by simp[Op.operands]) v j];rw[j]at hs;unfold Iz at hs ⊢;split at hs
   ·rename_i ti n al off Q I;cases hn:lk n σ.objs with
    | none=>rw[hn]at hs;simp[EZ]at hs
    | some o=>rw[h n o hn,<-hn];exact hs
   ·rename_i ti n e i al off Q I;cases hn:lk n σ.objs with
    | none=>rw[hn]at hs;simp[Ea]at hs
    | some o=>rw[h n o hn,<-hn];exact hs
   ·exact hs
   ·cases hs
 case nilCheck x=>exact one (f:=Ts) (by simp[Op.operands]) (by simp[Ts]) hs
 case binOp op t x y ar=>exact M (f:=Pd op (lk t tb.ty)) (by simp[Op.operands]) (by simp[Op.operands]) (λb=>by simp[Pd]) (λa=>by cases a<;>simp[Pd]) hs
 case unOp op t x=>exact one (f:=qUn op) (by simp[Op.operands]) (by cases op<;>simp[qUn]) hs
 case convert s t x=>exact one (f:=I8 (lk s tb.ty) (lk t tb.ty)) (by simp[Op.operands]) (by cases lk s tb.ty<;>cases lk t tb.ty<;>simp[I8]) hs
 case makeSlice t l c=>exact M (f:=IA tb d (lk t tb.ty)) (by simp[Op.operands]) (by simp[Op.operands]) (λb=>by cases lk t tb.ty<;>simp[IA]) (λa=>by cases lk t tb.ty<;>simp[IA]) hs
 case slice t x lo hi ak =>
  cases ak with
  | some m =>
   cases lo with
   | some _=>cases hi<;>simp[aq]at hs
   | none =>
    cases hi with
    | none=>simp[aq]at hs
    | some h1 =>
     simp only[aq]at hs ⊢;cases j:Ao σ x with
     | none=>rw[j]at hs;cases C:lk t tb.ty<;>rw[C]at hs<;>simp[Df]at hs
     | some v =>
      cases hh:Ao σ h1 with
      | none=>rw[j,hh]at hs;cases C:lk t tb.ty<;>rw[C]at hs<;>simp[Df]at hs
      | some B =>
       cases J:Ao σ m with
       | none=>rw[j,hh,J]at hs;cases C:lk t tb.ty<;>rw[C]at hs<;>simp[Df]at hs
       | some aj =>
        rw[A x (by simp[Op.operands]) v j,A h1 (by simp[Op.operands]) B hh,A m (by simp[Op.operands]) aj J];rw[j,hh,J]at hs;exact hs
  | none =>
   simp only[aq]at hs ⊢;have Z:∀ {y:Option Operand},(∀z,y=some z->z∈(Op.slice t x lo hi none).operands.toList)->∀w,GP σ y=some w->GP σ' y=some w:=by
    intro y E w K;cases y with
    | none=>exact K
    | some z =>
     simp only[GP,Is]at K ⊢;obtain⟨v,B,rfl⟩:=K;exact⟨v,A z (E z rfl) v B,rfl⟩
   cases j:Ao σ x with
   | none=>rw[j]at hs;cases C:lk t tb.ty<;>rw[C]at hs<;>simp[FJ]at hs
   | some v =>
    cases h1:GP σ lo with
    | none=>rw[h1]at hs;cases C:lk t tb.ty<;>rw[C]at hs<;>simp[FJ]at hs
    | some a =>
     cases H:GP σ hi with
     | none=>rw[H]at hs;cases C:lk t tb.ty<;>rw[C]at hs<;>simp[FJ]at hs
     | some b =>
      rw[A x (by simp[Op.operands]) v j,Z (by rintro z rfl;simp[Op.operands]) a h1,Z (by rintro z rfl;simp[Op.operands]) b H];rw[j,h1,H]at hs;exact hs
 case fieldAddr s x f=>exact one (f:=GX f (lk s tb.ty)) (by simp[Op.operands]) (by cases lk s tb.ty<;>simp[GX]) hs
 case indexAddr t x i=>exact M (f:=Fc (lk t tb.ty)) (by simp[Op.operands]) (by simp[Op.operands]) (λb=>by cases lk t tb.ty<;>simp[Fc]) (λa=>by cases lk t tb.ty<;>simp[Fc]) hs
 case index t x i=>exact M (f:=Dx (lk t tb.ty)) (by simp[Op.operands]) (by simp[Op.operands]) (λb=>by cases lk t tb.ty<;>simp[Dx]) (λa=>by cases lk t tb.ty<;>simp[Dx]) hs
 case extract x i=>exact one (f:=EE i) (by simp[Op.operands]) (by simp[EE]) hs
 case makeFunc fn first ab =>
  unfold X5 at hs ⊢;split at hs
  ·rename_i f hf;cases G:HZ σ ab.toList with
   | none=>rw[G]at hs;simp[Nr]at hs
   | some ns =>
    rw[VU (λz L=>A z (by simp[Op.operands]at L ⊢;exact .inr L)) G];rw[G]at hs;exact hs
  ·cases hs
 case makeMap t res =>
  cases res with
  | some z=>simp[aq]at hs
  | none=>simp only[aq]at hs ⊢;exact hs
 case lookup t x i ok =>
  cases j:Ao σ x with
  | none=>rw[j]at hs;simp[IE]at hs
  | some xv =>
   cases hi:Ao σ i with
   | none=>rw[j,hi]at hs;simp[IE]at hs
   | some Y =>
    rw[A x (by simp[Op.operands]) xv j,A i (by simp[Op.operands]) Y hi];rw[j,hi]at hs;unfold IE at hs ⊢;split at hs
    ·rename_i k e _ _ n z Q I ag;cases I;cases ag;cases hn:lk n σ.objs with
     | none=>rw[hn]at hs;simp[HL]at hs
     | some o =>
      rw[hn]at hs;rw[h n o hn];unfold HL at hs ⊢;split at hs
      ·rename_i ai ax l A;cases A;split at hs
       ·rename_i G;rw[BY G];cases hk:Kb false σ ai Y with
        | none=>rw[hk]at hs;simp[Je]at hs
        | some kd=>rw[FU h hk];rw[hk]at hs;exact hs
       ·cases hs
      ·cases hs
    ·cases hs
 case call c =>
  obtain⟨callee,args,argTypes⟩:=c;have D:∀x∈args.toList,x∈(Op.call ⟨callee,args,argTypes⟩).operands.toList:=λx j=>by
   have:x∈args:=by simpa using j
   cases callee<;>simp[Op.operands,Call.operands,this]
  cases callee with
  | invoke r m=>simp[Dg]at hs
  | value g =>
   simp only[Dg]at hs ⊢;cases N:Ao σ g with
   | none=>rw[N]at hs;simp[LS]at hs
   | some af =>
    rw[A g (by simp[Op.operands,Call.operands]) af N];rw[N]at hs;unfold LS at hs ⊢;split at hs
    ·rename_i f F;cases X:lk f tb.fns with
     | none=>rw[X]at hs;simp[ID]at hs
     | some sp =>
      rw[X]at hs;simp only[ID]at hs ⊢;cases T:F5 sp.lend σ sp.ins args.toList with
      | none=>rw[T]at hs;simp[Jd]at hs
      | some ds =>
       rw[VT h (λx j=>A x (D x j)) T];rw[T]at hs;exact hs
    ·cases hs
  | builtin b =>
   simp only[Dg]at hs ⊢;obtain⟨args⟩:=args;obtain⟨argTypes⟩:=argTypes;simp only at hs D ⊢;unfold EH at hs ⊢;split at hs
   ·exact one (f:=RQ (lk _ tb.ty)) (D _ (by simp)) (by cases lk _ tb.ty<;>simp[RQ]) hs
   ·rename_i x y t u;cases j:Ao σ x with
    | none=>rw[j]at hs;simp[DJ]at hs
    | some xv =>
     cases E:Ao σ y with
     | none=>rw[j,E]at hs;simp[DJ]at hs
     | some P =>
      rw[A x (D _ (by simp)) xv j,A y (D _ (by simp)) P E];rw[j,E]at hs;unfold DJ at hs ⊢;split at hs
      ·split at hs
       ·rename_i O;simp only[O,ACF];rename_i Q I;cases I;rw[O]at hs;cases C:lk u tb.ty with
        | none=>rw[C]at hs;simp[EF]at hs
        | some ti =>
         rw[C]at hs;unfold EF at hs ⊢;split at hs
         ·rename_i e offs el b F;cases B:PX σ e P with
          | none=>rw[B]at hs;cases V:lk el tb.ty<;>rw[V]at hs<;>simp[Eq]at hs
          | some ys =>
           rw[B]at hs;rw[Py h B];exact hs
         ·cases hs
       ·cases hs
      ·split at hs
       ·rename_i O;simp only[O,ACF];rename_i Q I;cases I;rw[O]at hs;cases C:lk u tb.ty with
        | none=>rw[C]at hs;simp[IB]at hs
        | some ti =>
         rw[C]at hs;unfold IB at hs ⊢;split at hs
         ·rename_i e offs el b F;split at hs
          ·rename_i U;simp only[U,ACF];cases B:PX σ _ P with
           | none=>rw[B]at hs;cases V:lk el tb.ty<;>rw[V]at hs<;>simp[Jc]at hs
           | some ys =>
            rw[B]at hs;rw[Py h B];exact hs
          ·cases hs
         ·cases hs
       ·cases hs
      ·cases hs
   ·exact M (f:=Pe) (D _ (by simp)) (D _ (by simp)) (λb=>by simp[Pe]) (λa=>by cases a<;>simp[Pe]) hs
   ·exact M (f:=Pf) (D _ (by simp)) (D _ (by simp)) (λb=>by simp[Pf]) (λa=>by cases a<;>simp[Pf]) hs
   ·rename_i x y z t u aw;cases j:Ao σ x with
    | none=>rw[j]at hs;simp[IC]at hs
    | some xv =>
     cases E:Ao σ y with
     | none=>rw[j,E]at hs;simp[IC]at hs
     | some P =>
      cases L:Ao σ z with
      | none=>rw[j,E,L]at hs;simp[IC]at hs
      | some am =>
       rw[A x (D _ (by simp)) xv j,A y (D _ (by simp)) P E,A z (D _ (by simp)) am L,<-j,<-E,<-L];exact hs
   ·rename_i ts x y z u r;have N:∀(r:List Operand) (k:IntKind) (o:Option Int) (m:Int),(∀q∈r,∀v,Ao σ q=some v->Ao σ' q=some v)->FP σ k o r=some m->FP σ' k o r=some m:=by
     intro r;induction r with
     | nil=>intro k o m _ h;cases o<;>(simp[FP]at h;try exact AD0 some h)
     | cons q r ah =>
      intro k o m R h;cases o with
      | none=>simp[FP]at h
      | some a =>
       simp only[FP]at h ⊢;cases B:Ao σ q with
       | none=>rw[B]at h;cases r<;>simp[Ly,FP]at h
       | some v =>
        rw[B]at h;rw[R q (by simp) v B];exact ah k _ m (λp hp=>R p (by simp[hp])) h
    cases j:Ao σ x with
    | none=>rw[j]at hs;simp[Lz]at hs
    | some xv =>
     rw[j]at hs;rw[A x (D _ (by simp)) xv j];unfold Lz at hs ⊢;split at hs
     ·rename_i k a F;cases F;cases J:FP σ k (some a) (y :: z :: u :: r) with
      | none=>rw[J]at hs;simp[Nq]at hs
      | some m =>
       rw[J]at hs;rw[N _ _ _ _ (λq R=>A q (D _ (OF _ R))) J];exact hs
     ·cases hs
   ·cases hs
end
end
end Go.Proofs.YtapkhdkbkodbjaaGreat.Fw
