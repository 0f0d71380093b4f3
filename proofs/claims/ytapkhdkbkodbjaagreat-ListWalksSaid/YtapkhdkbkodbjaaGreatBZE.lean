/- One operation, a sequence, loops, the entry and the end of a function: the rules. -/
import Derived.Test.YtapkhdkbkodbjaaGreatBZD
import Derived.Deep.LoopGhost
import Derived.ControlIn
set_option linter.unusedVariables false
set_option linter.unusedSimpArgs false
namespace Go.Proofs.YtapkhdkbkodbjaaGreat.Fw
section
open Go Go.RowKit
abbrev ADl:=@Go.wpIn_region_list
abbrev AEp:=@Go.wpIn_mono
structure Cx where
 P:Program
 tb:Tb
 w0:World
 K:Nat->Prop
 O0:Nat->Prop
 nt:Nat
 
 ds:Fp:={}
 
 r:Option Nat:=none
structure Cx.Ok (c:Cx):Prop where
 K:∀b,c.K b->b<c.w0.heap.size
 O:∀b,c.O0 b->b<c.w0.heap.size
 T:Cw c.P c.tb
 F:Ij c.P c.tb
def Cx.sat (c:Cx) (σ:St) (a:Act) (w:World):Prop:=∃ρ,B6 c.w0 c.K c.O0 c.nt c.ds σ ρ a w
section
variable {c:Cx}
theorem A5L (hc:c.Ok) {σ:St} {ρ:Nat->Value} {a:Act} {w:World} (h:B6 c.w0 c.K c.O0 c.nt c.ds σ ρ a w):AAf c.P c.tb w c.O0 σ ρ a where
 hT:=hc.T
 hF:=hc.F
 obj:=h.objs
 own:=by
  intro b hb;rcases hb with h0|⟨n,⟨o,ho⟩,hb⟩
  .exact Us (hc.O b h0) h.frm.size
  exact(h.objs n o ho).block_lt hb
 ev:=Fg h.env
theorem A2n (e:c.Ok) {σ σ':St} {ρ:Nat->Value} {a:Act} {w:World} (hs:B6 c.w0 c.K c.O0 c.nt c.ds σ ρ a w) {o:Oper} {vc:Prop} (h:HA c.tb σ o.dst o.op=some (vc,σ')) (k:vc) (j:∀d,o.dst=some d->d<c.nt)
  {next:Act->World->Prop} {Q:Exit->Act->World->Prop} (hn:∀i w',c.sat σ' i w'->next i w'):o.wpIn (FR c.r) 0 c.P a w next Q:=by
 obtain⟨dst,op,type,pos,after,guard⟩:=o;simp only at h j;cases op<;>simp only[HA]at h<;>try(cases h;done)
 case store t x y =>
  cases dst with
  | some d=>simp[De]at h
  | none =>
   simp only[De]at h;obtain⟨w',ρ',h1,f⟩:=nE (P:=c.P) hs e.K e.O e.T h k;exact rJ (w':=w') (by simp[execOp,h1]) (hn _ _ ⟨ρ',f⟩)
 case mapUpdate t m x y =>
  cases dst with
  | some d=>simp[De]at h
  | none =>
   simp only[De]at h;obtain⟨w',h1,f⟩:=A0g (P:=c.P) hs e.K e.T h;exact rJ (w':=w') (by simp[execOp,h1]) (hn _ _ ⟨ρ,f⟩)
 case call cl =>
  obtain⟨callee,args,argTypes⟩:=cl;cases callee with
  | value g=>simp[Dd]at h
  | invoke r m=>simp[Dd]at h
  | builtin b =>
   simp only[Dd]at h;obtain⟨args⟩:=args;obtain⟨argTypes⟩:=argTypes;simp only at h;unfold ER at h;split at h
   .rename_i x y t u;obtain⟨z,w',ρ',h1,f⟩:=nD (P:=c.P) (ty:=type) hs e.K e.O e.T j h k;exact Aw (u:=z) (w':=w') (by simp[execOp,resolve,invoke,builtin,h1]) (hn _ _ ⟨ρ',f⟩)
   cases h
theorem V0 (b:c.Ok) {σ σ':St} {a:Act} {w:World} (hs:c.sat σ a w) {o:Oper} {vc:Prop} (h:Hj c.tb o σ=some (vc,σ')) (i:vc) (g:∀d,o.dst=some d->d<c.nt)
  {next:Act->World->Prop} {Q:Exit->Act->World->Prop} (hn:∀f w',c.sat σ' f w'->next f w'):o.wpIn (FR c.r) 0 c.P a w next Q:=by
 obtain⟨ρ,hs⟩:=hs;have hs:=KV (l:=C0 σ o.op) hs;unfold Hj SY at h;generalize Cv (C0 σ o.op) σ=k at h hs;cases e:aq c.tb k (o.dst.getD 0) o.op with
 | some r =>
  obtain⟨m,v,obs⟩:=r;rw[e]at h;simp only[Ni]at h;split at h
  .rename_i hf;cases h;exact rG (A5L b hs) e i hf λu ρ' w' j=>hn _ _ ⟨ρ',hs.add b.K b.O g hf j⟩
  cases h
 | none =>
  rw[e]at h;exact A2n b hs h i g hn
theorem HK {ops:Array Oper} {σ:St} {a:Act} {w:World} (hs:c.sat σ a w) {o:Oper} {b:Bool} (h:Ee ops.toList σ o.guard=some b):Region.wanted o (yielded ops a.tmps)=b:=by
 obtain⟨ρ,hs⟩:=hs;unfold Ee at h;split at h
 .rename_i e;cases h;simp[Region.wanted,e]
 rename_i j q e;cases f:(ops.toList[j]?).bind (·.dst) with
 | none=>rw[f]at h;simp[KQ]at h
 | some g =>
  rw[f]at h;simp only[KQ]at h;cases i:lk g σ.env with
  | none=>rw[i]at h;simp[RL]at h
  | some v =>
   rw[i]at h;unfold RL at h;split at h
   .rename_i l m;cases m;cases h;have d:=hs.env g _ i;have d:=Dy d;have p:(ops[j]?).bind (·.dst)=some g:=by simpa using f
    have n:a.tmps[g]?=some (.bool l):=by
     by_cases k:g<a.tmps.size
     .have:a.tmps.getD g undef=a.tmps[g]:=by simp[Array.getD,k]
      rw[this]at d;rw[UY k,d]
     have:a.tmps.getD g undef=undef:=by simp[Array.getD,k]
     rw[this]at d;cases d
    simp only[Region.wanted,e,yielded,p,Option.bind_some,n];cases l<;>cases q<;>rfl
   cases h
theorem Mu {σ:St} {a:Act} {w:World} (b:c.Ok) (hs:c.sat σ a w) {dst:Option Nat} (e:∀d,dst=some d->d<c.nt):c.sat (σ.add (.raw undef) [] dst) (a.put dst undef) w:=by
 obtain⟨ρ,hs⟩:=hs;exact⟨ρ,hs.add b.K b.O e (by simp[Ba]) (QS.still rfl)⟩
def Il (nt:Nat) (o:Oper):Bool :=
 match o.dst with
 | some d=>decide (d<nt)
 | none=>true
theorem Ci {nt:Nat} {o:Oper} (h:Il nt o=true):∀d,o.dst=some d->d<nt:=by grind [Il]
theorem RT (d:c.Ok) {ops:Array Oper} {Q:Exit->Act->World->Prop} {r:List Oper}:∀(l:List Oper) {σ σ':St} {vc:Prop} {a:Act} {w:World},c.sat σ a w->(∀o∈l,Il c.nt o=true)->Bn c.tb ops.toList l σ=some (vc,σ')->vc ->
  (∀g w',c.sat σ' g w'->wpListIn (FR c.r) 0 c.P ops Q r g w')->wpListIn (FR c.r) 0 c.P ops Q (l++r) a w
 | [],σ,σ',vc,a,w,hs,e,h,f,i=>by grind [Bn]
 | o :: l,σ,σ',vc,a,w,hs,e,h,f,i=>by
  simp only[Bn]at h;cases j:Ee ops.toList σ o.guard with
  | none=>rw[j]at h;simp[evG]at h
  | some b =>
   rw[j]at h;have s:=HK hs j;have q:=Ci (e o (by simp));rw[Yk];unfold wpListIn;cases b with
   | true =>
    simp only[evG]at h;rw[BY s];cases n:Hj c.tb o σ with
    | none=>rw[n]at h;simp[evK]at h
    | some r =>
     obtain⟨x,v⟩:=r;rw[n]at h;simp only[evK]at h;cases m:Bn c.tb ops.toList l v with
     | none=>rw[m]at h;simp[Y3]at h
     | some u =>
      obtain⟨y,σ2⟩:=u;rw[m]at h;simp only[Y3]at h;cases h;exact V0 d hs n f.1 q λg w' t=>RT d l t (λp k=>e p (by simp[k])) m f.2 i
   | false =>
    simp only[evG]at h;rw[As (by simp[s])];refine⟨λ_ _=>trivial,?_⟩;exact RT d l (Mu d hs q) (λp k=>e p (by simp[k])) h f i
theorem Pw (e:c.Ok) {ops:Array Oper} {Q:Exit->Act->World->Prop}:∀(l:List Oper) {σ σ':St} {vc:Prop} {a:Act} {w:World},c.sat σ a w->(∀o∈l,Il c.nt o=true)->Bn c.tb ops.toList l σ=some (vc,σ')->vc ->
  (∀i w',c.sat σ' i w'->Q .normal i w')->wpListIn (FR c.r) 0 c.P ops Q l a w
 | [],σ,σ',vc,a,w,hs,f,h,g,d=>by
  simp only[Bn]at h;cases h;exact d _ _ hs
 | o :: l,σ,σ',vc,a,w,hs,f,h,g,d=>by
  simp only[Bn]at h;cases j:Ee ops.toList σ o.guard with
  | none=>rw[j]at h;simp[evG]at h
  | some b =>
   rw[j]at h;have s:=HK hs j;have q:=Ci (f o (by simp));unfold wpListIn;cases b with
   | true =>
    simp only[evG]at h;rw[BY s];cases n:Hj c.tb o σ with
    | none=>rw[n]at h;simp[evK]at h
    | some r =>
     obtain⟨x,v⟩:=r;rw[n]at h;simp only[evK]at h;cases m:Bn c.tb ops.toList l v with
     | none=>rw[m]at h;simp[Y3]at h
     | some u =>
      obtain⟨y,σ2⟩:=u;rw[m]at h;simp only[Y3]at h;cases h;exact V0 e hs n g.1 q λi w' t=>Pw e l t (λp k=>f p (by simp[k])) m g.2 d
   | false =>
    simp only[evG]at h;rw[As (by simp[s])];refine⟨λ_ _=>trivial,?_⟩;exact Pw e l (Mu e hs q) (λp k=>f p (by simp[k])) h g d
end
end
section
open Go Go.RowKit
inductive DJ where
 | seq (c:Code)
 | blk (id:Nat)
 
 | inv (post:St->Prop)
def Bm (nt:Nat):Code->Bool
 | .region _ ops _=>ops.toList.all (Il nt)
 | .seq a b=>Bm nt a&&Bm nt b
 | .cond _ a b=>Bm nt a&&Bm nt b
 | .block _ b=>Bm nt b
 | .loop b=>Bm nt b
 | .scope b=>Bm nt b
 | _=>true
def Cr (nt:Nat):List DJ->Bool
 | []=>true
 | .seq c :: k=>Bm nt c&&Cr nt k
 | _ :: k=>Cr nt k
def WA (c:Cx) (R:Exit->Act->World->Prop):List DJ->Exit->Act->World->Prop
 | [],e,a,w=>R e a w
 | .seq y :: k,.normal,a,w=>y.wpIn (FR c.r) 0 c.P (WA c R k) a w
 | .seq _ :: k,e,a,w=>WA c R k e a w
 | .blk id :: k,.exit b,a,w=>if b=id then WA c R k .normal a w else WA c R k (.exit b) a w
 | .blk _ :: k,e,a,w=>WA c R k e a w
 | .inv post :: _,.normal,a,w=>∃σ,c.sat σ a w/\post σ
 | .inv _ :: k,e,a,w=>WA c R k e a w
inductive rR where
 | run (cd:Code)
 | out (e:Exit)
def nwp (c:Cx) (R:Exit->Act->World->Prop) (k:List DJ):rR->Act->World->Prop
 | .run cd,a,w=>cd.wpIn (FR c.r) 0 c.P (WA c R k) a w
 | .out e,a,w=>WA c R k e a w
def Hn (nt:Nat):rR->Bool
 | .run cd=>Bm nt cd
 | .out _=>true
def Ev (c:Cx) (R:Exit->Act->World->Prop) (n:rR) (k:List DJ) (σ:St):Prop :=
 Hn c.nt n=true->Cr c.nt k=true->∀a w,c.sat σ a w->nwp c R k n a w
theorem TX {F:Fence} {j:Nat} {P:Program} {Q:Exit->Act->World->Prop} {a:Act} {w:World} {c:Code} (b:Nat->Act->World->Prop) (i:Nat) (o:b i a w)
  (round:∀n a w,b n a w->c.wpIn F j P (Exit.then (λg w'=>∃f,f<n/\b f g w') Q) a w):(Code.loop c).wpIn F j P Q a w:=by
 refine wpIn_loop (λa w=>∃n,b n a w) (λa w=>leastOf (λn=>b n a w)) ⟨i,o⟩ ?_;intro a w k;refine AEp (round _ a w (leastOf_spec k).1) ?_;intro e g w' d;cases e with
 | normal =>
  obtain⟨f,m,h⟩:=d;exact show (∃n,b n g w')/\leastOf (λn=>b n g w')<leastOf (λn=>b n a w) from ⟨⟨f,h⟩,ADY ((leastOf_spec ⟨f,h⟩).2 f h) m⟩
 | exit id=>exact d
 | goto l=>exact d
 | ret=>exact d
 | panic ch=>exact d
 | outgrown=>exact d
def Ent (c:Cx) (σ σ':St):Prop:=∀a w,c.sat σ a w->c.sat σ' a w
section
variable {c:Cx} {R:Exit->Act->World->Prop} {k:List DJ} {σ σ':St}
theorem Ev.ent {n:rR} (h:Ev c R n k σ') (d:Ent c σ σ'):Ev c R n k σ:=λh1 b a w hs=>h h1 b a w (d a w hs)
theorem A9b {x y:Code} (h:Ev c R (.run x) (.seq y :: k) σ):Ev c R (.run (.seq x y)) k σ:=by
 intro h1 b a w hs;simp only[Hn,Bm,An]at h1;refine wpIn_seq (AEp (h h1.1 (by simp[Cr,h1.2,b]) a w hs) ?_);intro e f w' d;cases e<;>exact d
theorem rS (h:Ev c R (.out .normal) k σ):Ev c R (.run .skip) k σ:=λ_ b a w hs=>wpIn_skip (h rfl b a w hs)
theorem A9c (h:Ev c R (.out .ret) k σ):Ev c R (.run .ret) k σ:=λ_ b a w hs=>wpIn_ret (h rfl b a w hs)
theorem A5M {id:Nat} (h:Ev c R (.out (.exit id)) k σ):Ev c R (.run (.exit id)) k σ:=λ_ b a w hs=>wpIn_exit (h rfl b a w hs)
theorem A2p {id:Nat} {b:Code} (h:Ev c R (.run b) (.blk id :: k) σ):Ev c R (.run (.block id b)) k σ:=by
 intro h1 d a w hs;refine wpIn_block (AEp (h (by simpa[Hn,Bm] using h1) (by simpa[Cr] using d) a w hs) ?_);intro e g w' f;cases e<;>exact f
def EvR (c:Cx) (R:Exit->Act->World->Prop) (k:List DJ):Ct->Prop
 | some (vc,σ)=>vc/\Ev c R (.out .normal) k σ
 | none=>False
theorem A0h (f:c.Ok) {id:Nat} {ops:Array Oper} (h:EvR c R k (Bn c.tb ops.toList ops.toList σ)):Ev c R (.run (.region id ops false)) k σ:=by
 intro h1 e a w hs;cases b:Bn c.tb ops.toList ops.toList σ with
 | none=>rw[b]at h;exact h.elim
 | some r =>
  obtain⟨vc,σ'⟩:=r;rw[b]at h;simp only[Hn,Bm,ON]at h1;exact ADl (Pw f ops.toList hs h1 b h.1 λd w' g=>h.2 rfl e d w' g)
def EvC (c:Cx) (R:Exit->Act->World->Prop) (x y:Code) (k:List DJ) (σ:St):Option AV->Prop
 | some (.p .bool b)=>(b=true->Ev c R (.run x) k σ)/\(b=false->Ev c R (.run y) k σ)
 | _=>False
theorem A5N {o:Operand} {x y:Code} (h:EvC c R x y k σ (Ar σ o)):Ev c R (.run (.cond o x y)) k σ:=by
 intro h1 g a w hs;simp only[Hn,Bm,An]at h1;obtain⟨ρ,f⟩:=hs;have j:=Fg f.env;cases e:Ar σ o with
 | none=>rw[e]at h;exact h.elim
 | some v =>
  have l:=j o v e;rw[e]at h;unfold EvC at h;split at h
  .rename_i b i;cases i;have d:=Dy l;exact wpIn_cond_split d (λd=>h.1 d h1.1 g a w ⟨ρ,f⟩) (λd=>h.2 d h1.2 g a w ⟨ρ,f⟩)
  exact h.elim
theorem Ho {y:Code} (h:Ev c R (.run y) k σ):Ev c R (.out .normal) (.seq y :: k) σ:=by
 intro _ b a w hs;simp only[Cr,An]at b;exact h b.1 b.2 a w hs
theorem gX {id:Nat} {y:Code} (h:Ev c R (.out (.exit id)) k σ):Ev c R (.out (.exit id)) (.seq y :: k) σ:=by
 intro _ b a w hs;simp only[Cr,An]at b;exact h rfl b.2 a w hs
theorem nF {y:Code} (h:Ev c R (.out .ret) k σ):Ev c R (.out .ret) (.seq y :: k) σ:=by
 intro _ b a w hs;simp only[Cr,An]at b;exact h rfl b.2 a w hs
theorem nG {id:Nat} (h:Ev c R (.out .normal) k σ):Ev c R (.out .normal) (.blk id :: k) σ:=λ_ b a w hs=>h rfl (by simpa[Cr] using b) a w hs
theorem Sl {id b:Nat} (h:if b=id then Ev c R (.out .normal) k σ else Ev c R (.out (.exit b)) k σ):Ev c R (.out (.exit b)) (.blk id :: k) σ:=by
 intro _ d a w hs;have d:Cr c.nt k=true:=by simpa[Cr] using d
 show (if b=id then WA c R k .normal a w else WA c R k (.exit b) a w);split at h
 .rename_i e;rw[BY e];exact h rfl d a w hs
 rename_i e;rw[As e];exact h rfl d a w hs
theorem nH {id:Nat} (h:Ev c R (.out .ret) k σ):Ev c R (.out .ret) (.blk id :: k) σ:=λ_ b a w hs=>h rfl (by simpa[Cr] using b) a w hs
theorem AB {post:St->Prop} (h:post σ):Ev c R (.out .normal) (.inv post :: k) σ:=λ_ _ _ _ hs=>⟨σ,hs,h⟩
theorem gY {id:Nat} {post:St->Prop} (h:Ev c R (.out (.exit id)) k σ):Ev c R (.out (.exit id)) (.inv post :: k) σ:=λ_ b a w hs=>h rfl (by simpa[Cr] using b) a w hs
theorem nI {post:St->Prop} (h:Ev c R (.out .ret) k σ):Ev c R (.out .ret) (.inv post :: k) σ:=λ_ b a w hs=>h rfl (by simpa[Cr] using b) a w hs
def AAg (c:Cx) {ι:Type} (I:ι->St) (μ:ι->Nat) (i:ι) (σ:St):Prop:=∃j,μ j<μ i/\Ent c σ (I j)
theorem AJ {ι:Type} (d:ι->St) (f:ι->Nat) (g:ι) {b:Code} (h0:Ent c σ (d g)) (o:∀i,Ev c R (.run b) (.inv (AAg c d f i) :: k) (d i)):Ev c R (.run (.loop b)) k σ:=by
 intro h1 m a w hs;have h1:Bm c.nt b=true:=by simpa[Hn,Bm] using h1
 refine TX (λn a w=>∃i,f i=n/\c.sat (d i) a w) (f g) ⟨g,rfl,h0 a w hs⟩ ?_;rintro n a w ⟨i,rfl,hs⟩;refine AEp (o i h1 (by simpa[Cr] using m) a w hs) ?_;intro e l w' h;cases e with
 | normal =>
  obtain⟨σ',r,j,q,p⟩:=h;exact⟨f j,q,j,rfl,p l w' r⟩
 | _=>exact h
theorem Px {ι:Type} (b:ι->St) {x y:Code} (h:Ev c R (.run x) (.inv (fun σ'=>∃i,Ent c σ' (b i)) :: .seq y :: k) σ) (m:∀i,Ev c R (.run y) k (b i)):Ev c R (.run (.seq x y)) k σ:=by
 intro h1 f a w hs;simp only[Hn,Bm,An]at h1;refine wpIn_seq (AEp (h h1.1 (by simp[Cr,h1.2,f]) a w hs) ?_);intro e d w' g;cases e with
 | normal =>
  obtain⟨σ',l,i,j⟩:=g;exact m i h1.2 f d w' (j d w' l)
 | _=>exact g
end
end
section
open Go Go.RowKit
def AM:Nat->(ts:List Ty)->KE ts->List (Nat×AV)
 | _,[],_=>[]
 | s,t :: ts,d=>(s,.p t d.1) :: AM (s+1) ts d.2
def KW (σ:St) (ty:Ty):Option AV->Option AV
 | some (.bp n a off)=>match EI ty a off (lk n σ.objs) with
  | some (_,v,_)=>some v
  | none=>none
 | _=>none
def KX (tb:Tb) (σ:St):ResultVar->Option AV
 | .tmp t=>lk t σ.env
 | .cell a t=>match lk t tb.ty with
  | some ti=>KW σ ti.ty (lk a σ.env)
  | none=>none
def Mv:Option AV->List Nat
 | some v=>v.names
 | none=>[]
def JJ (σ:St) (t:Ty):Option AV->Option t.den
 | some v=>Mm false σ t v
 | none=>none
def Jc (σ:St) (et:TypeId) (e:Ty):Option Obj->Option (List e.den)
 | some (.arr b a xs)=>if b=et then BP (.slice e) ⟨.slice a,xs⟩ else none
 | _=>none
def Nl (tb:Tb) (σ:St) (rv:ResultVar):RV->Prop
 | .p t d=>JJ (Cv (Mv (KX tb σ rv)) σ) t (KX tb (Cv (Mv (KX tb σ rv)) σ) rv)=some d
 | .own et e xs=>match KX tb σ rv with
  | some (.sr n a 0 hi)=>a=e/\Jc σ et e (lk n σ.objs)=some xs/\hi=xs.length
  | _=>False
def Nm (tb:Tb) (σ:St):List ResultVar->List RV->Prop
 | [],[]=>True
 | [rv],[r]=>Nl tb σ rv r
 | rv :: b,.p t d :: a=>Nl tb σ rv (.p t d)/\Nm tb σ b a
 | _,_=>False
section
variable {P:Program} {tb:Tb} {w0:World} {O0:Nat->Prop} {nt:Nat} {ds:Fp}
def cx (P:Program) (tb:Tb) (w0:World) (O0:Nat->Prop) (nt:Nat):Cx:={ P:=P,tb:=tb,w0:=w0,K:=λb=>b<w0.heap.size,O0:=O0,nt:=nt }
theorem ZY:∀(ts:List Ty) (a:List Value) (ds:KE ts) (k:Nat) (w:World) (O:Nat->Prop),Po w O ts a ds->∀s v,lk s (AM k ts ds)=some v->k<=s/\∃u,a[s-k]?=some u/\∃t d,v=.p t d/\BS w O t u d
 | [],a,ds,k,w,O,h,s,v,hs=>by simp[AM,lk]at hs
 | t :: ts,a,ds,k,w,O,h,s,v,hs=>by
  obtain⟨u,r,rfl,h1,b⟩:=h;simp only[AM,lk]at hs;split at hs
  .grind
  obtain⟨c,g,e,f⟩:=ZY ts r ds.2 (k+1) w O b s v hs;grind
theorem Sm:∀ {ts:List Ty} {a:List Value} {ds:KE ts} {w:World} {O:Nat->Prop},Po w O ts a ds->a.length=ts.length
 | [],a,ds,w,O,h=>by have h:a=[]:=h;subst h;rfl
 | t :: ts,a,ds,w,O,h=>by
  obtain⟨u,r,rfl,h1,b⟩:=h;simp[Sm b]
theorem A0i {ts:List Ty} {a:List Value} {ds:KE ts} (h:Po w0 O0 ts a ds) (k:a.length<=nt) :
  (cx P tb w0 O0 nt).sat ⟨AM 0 ts ds,[]⟩ { tmps:=a.toArray++Array.replicate (nt-a.toArray.size) undef,defers:=[] } w0:=by
 refine⟨λ_=>undef,⟨rfl,rfl,rfl,Is _,λ_ _=>rfl⟩,by simp[cx];omega,rfl,(λp hp=>by simp[cx]at hp),λn o h=>by simp[lk]at h,λn b ⟨o,h⟩=>by simp[lk]at h,λn m b ⟨o,h⟩=>by simp[lk]at h,λs v hs=>?_⟩;obtain⟨_,u,h1,t,d,rfl,e⟩:=ZY ts a ds 0 w0 O0 h s v hs;have c:s<a.length:=by grind
 have i:(a.toArray++Array.replicate (nt-a.toArray.size) undef).getD s undef=u:=by
  have h1:a[s]?=some u:=by simpa using h1
  have:a[s]=u:=by rw[AT c]at h1;injection h1
  simp[Array.getElem?_append,c,this]
 rw[i];refine BS.mono (λb _ f g=>?_) (λ_ _ _=>rfl) e;rcases g with h0|⟨n,⟨o,j⟩,_⟩
 .exact f h0
 simp[lk]at j
def Jd (tmps:Array Value):ResultVar->Sem Value
 | .tmp t=>pure (tmps.getD t undef)
 | .cell a t=>do loadVar t (<-asAddr (tmps.getD a undef))
theorem OL (fn:Func) (tmps:Array Value):results fn tmps=(do let a <-fn.results.mapM (Jd tmps);pure (if h:a.size=1 then a[0] else .tuple a)):=by
 unfold results
 congr 1
theorem VH (hT:Cw P tb) {K:Nat->Prop} {σ:St} {ρ:Nat->Value} {a:Act} {w:World} (hs:B6 w0 K O0 nt ds σ ρ a w) {rv:ResultVar} {v:AV} (h:KX tb σ rv=some v) :
  ∃u,(Jd a.tmps rv).run P w=.ok u w/\Bz (vw w O0 σ ρ) v u:=by
 cases rv with
 | tmp t =>
  simp only[KX]at h;exact⟨_,by simp[Jd],hs.env t v h⟩
 | cell x t =>
  simp only[KX]at h;cases d:lk t tb.ty with
  | none=>rw[d]at h;simp at h
  | some ti =>
   rw[d]at h;simp only at h;cases e:lk x σ.env with
   | none=>rw[e]at h;simp[KW]at h
   | some xv =>
    rw[e]at h;unfold KW at h;split at h
    .rename_i n l off i;cases i;have f:=hs.env x _ e;split at h
     .rename_i vc o obs j;cases h;have k:JY σ (some ti) (some (.bp n l off))=some (vc,v,obs):=j;obtain⟨_,u,h1,g⟩:=A26 (hT _ _ d) hs.objs k f;obtain⟨m,b,_,c⟩:=f;rw[c]at h1;have c:a.tmps.getD x undef=.pointer (some ⟨b,off,none⟩):=c;refine⟨u,?_,g⟩;simp only[Instr.loadAt,Instr.sureAddr,Uy,tO,UV]at h1;simp only[Jd,c,asAddr,Uy,tO,UV,h1]
     cases h
    cases h
theorem A5O (hT:Cw P tb) {K:Nat->Prop} {σ:St} {ρ:Nat->Value} {a:Act} {w:World} (hs:B6 w0 K O0 nt ds σ ρ a w) {rv:ResultVar} {t:Ty} {d:t.den} (h:Nl tb σ rv (.p t d)) :
  ∃u,(Jd a.tmps rv).run P w=.ok u w/\BS w O0 t u d:=by
 unfold Nl at h;have e:=KV (l:=Mv (KX tb σ rv)) hs;generalize Cv (Mv (KX tb σ rv)) σ=f at h e;cases c:KX tb f rv with
 | none=>rw[c]at h;simp[JJ]at h
 | some v =>
  rw[c]at h;simp only[JJ]at h;obtain⟨u,h1,g⟩:=VH hT e c;have i:=LD (V:=vw w O0 f ρ) (O':=O0) (λb j k=>j (.inl k)) (λh=>by cases h) e.objs h g;exact⟨u,h1,i⟩
theorem A2q (hT:Cw P tb) {K:Nat->Prop} {σ:St} {ρ:Nat->Value} {a:Act} {w:World} (hs:B6 w0 K O0 nt ds σ ρ a w):∀ {f:List ResultVar} {c:List RV},(∀r∈c,∃t d,r=.p t d)->Nm tb σ f c ->
  ∃e:List Value,(f.mapM (Jd a.tmps)).run P w=.ok e w/\e.length=c.length /\
   ∀nm V,V.w=w->(∀b,V.O b->O0 b)->Hk V (Hd nm c) e
 | [],[],_,_=>⟨[],by simp,rfl,λ_ _ _ _=>rfl⟩
 | [],_ :: _,_,h=>by simp[Nm]at h
 | _ :: _,[],_,h=>by simp[Nm]at h
 | rv :: f,r :: c,hp,h=>by
  obtain⟨t,d,rfl⟩:=hp r (by simp);have g:Nl tb σ rv (.p t d)/\Nm tb σ f c:=by
   cases f with
   | nil =>
    cases c with
    | nil=>exact⟨h,trivial⟩
    | cons q s=>exact⟨h.1,h.2⟩
   | cons v x=>exact⟨h.1,h.2⟩
  obtain⟨u,h1,n⟩:=A5O hT hs g.1;obtain⟨e,o,i,j⟩:=A2q hT hs (λr l=>hp r (by simp[l])) g.2;refine⟨u :: e,?_,by simp[i],λnm V m k=>⟨u,e,rfl,?_,j _ V m k⟩⟩
  .simp_all
  show BS V.w V.O t u d;grind [BS.mono]
def WB (P:Program) (fn:Func) (w0:World) (O0:Nat->Prop) (outs:List RV):Exit->Act->World->Prop :=
 bodyPost P fn λe w'=>∃u,e=.returned u/\A2f w0 O0 outs u w'
theorem A2r (s:(cx P tb w0 O0 nt).Ok) {fn:Func} {outs:List RV} {σ:St} {e:Exit} (x:e=.ret\/e=.normal) (hp:∀r∈outs,∃t d,r=.p t d) (h:Nm tb σ fn.results.toList outs) :
  Ev (cx P tb w0 O0 nt) (WB P fn w0 O0 outs) (.out e) [] σ:=by
 intro _ _ a w hs;obtain⟨ρ,hs⟩:=hs;obtain⟨f,h1,g,k⟩:=A2q s.T hs hp h;have h1:(fn.results.toList.mapM (Jd a.tmps)).run P w=.ok f w:=h1;have q:Below w0.heap.size w0 w:=⟨hs.frm.os,hs.frm.tape,hs.frm.output,hs.frm.size,hs.frm.block⟩;have C:∃v,(results fn a.tmps).run P w=.ok v w/\A2f w0 O0 outs v w:=by
  have z:(fn.results.mapM (Jd a.tmps)).run P w=.ok f.toArray w:=by
   rw[nO]
   simp_all
  refine⟨if h:f.toArray.size=1 then f.toArray[0] else .tuple f.toArray,?_,λnm=>⟨λ_=>undef,?_⟩⟩
  .rw[OL];simp only[Uy,z,UV,tO]
  have y:Cf nm outs=[]:=by
   clear h h1 g k;induction outs generalizing nm with
   | nil=>rfl
   | cons r E D =>
    obtain⟨t,d,rfl⟩:=hp r (by simp);simp only[Cf,ST,Yt];exact D (λr B=>hp r (by simp[B])) (nm+10000)
  rw[y];refine⟨q,λ_ _=>rfl,?_,(λ_ _ h=>by cases h),(λ_ _ _ h=>by cases h),(λ_ _ _ _ _ h=>by cases h)⟩;have c:=k nm (vw w O0 (D7 ⟨[],[]⟩ []) (λ_=>undef)) rfl (λb m=>by
   rcases m with h0|⟨n,⟨o,A⟩,_⟩
   .exact h0
   simp[D7,lk]at A)
  match outs,hp,f,g,c with
  | [],_,f,g,c =>
   have c:f=[]:=c;subst c;exact(rfl:_=_)
  | [r],hp,f,g,c =>
   obtain⟨u,l,rfl,i,j⟩:=c;have j:l=[]:=j;subst j;simp only[G9];exact A1Y i
  | F :: G :: E,hp,f,g,c =>
   have:¬f.toArray.size=1:=by simp at g ⊢;omega
   rw[dif_neg this];exact⟨f,rfl,c⟩
 obtain⟨v,c,i⟩:=C;rcases x with rfl|rfl
 .exact⟨hs.defers,v,c,v,rfl,i⟩
 exact⟨hs.defers,v,c,v,rfl,i⟩
end
end
section
open Go Go.RowKit
def Ty.ok:(t:Ty)->t.den->Prop
 | .int k,d=>KC k d
 | .bool,_=>True
 | .str,d=>ByteArray.size d<=AO
 | .slice e,d=>List.length d<=AO/\∀x∈(d:List e.den),e.ok x
 | .prod a b,d=>a.ok d.1/\b.ok d.2
 | .agg t,d=>t.ok d
 | .ref _,_=>True
theorem Hq {w:World} {O:Nat->Prop}:∀ {t:Ty} {cs:List Value} {d:t.den},Bv w O t cs d->t.ok d
 | .int _,_,_,h=>h.2
 | .bool,_,_,_=>trivial
 | .str,_,_,h=>h.2
 | .ref _,_,_,_=>trivial
 | .slice e,_,d,h=>by
  obtain⟨a,c,_,_,f,g⟩:=h;refine⟨f,λx j=>?_⟩;rcases g with g|⟨ad,_,_,k⟩
  .subst g;simp at j
  obtain⟨i,hi,rfl⟩:=Ur.1 j;obtain⟨m,_,_,l⟩:=k i _ (AT hi);exact Hq l
 | .prod a b,_,_,h=>by
  obtain⟨c1,c2,_,h1,f⟩:=h;exact⟨Hq h1,Hq f⟩
 | .agg t,cs,d,h=>by
  have h:Bv w O t cs d:=h;exact(Hq h:t.ok d)
def oks:(ts:List Ty)->KE ts->Prop
 | [],_=>True
 | t :: ts,d=>t.ok d.1/\oks ts d.2
theorem rT {w:World} {O:Nat->Prop}:∀ {ts:List Ty} {a:List Value} {ds:KE ts},Po w O ts a ds->oks ts ds
 | [],_,_,_=>trivial
 | t :: ts,a,ds,h=>by
  obtain⟨v,r,rfl,⟨cs,h1,_⟩,b⟩:=h;exact⟨Hq h1,rT b⟩
section
variable {P:Program} {tb:Tb} {w0:World} {O0:Nat->Prop} {nt:Nat}
theorem A8z {f : FuncId} {fn : Func} {cd : Code} {sp : AZ} (d : P.funcs[f]? = some fn) (j : (fn.name == "runtime.NumGoroutine") = false) (c : fn.body = some cd) (k : fn.ntmps = nt) (m : sp.ins.length <= nt)
  (i:Bm nt cd=true) (hT:Cw P tb) (hF:Ij P tb)
  (h:∀(w0:World) (O0:Nat->Prop) (ds:KE sp.ins),(cx P tb w0 O0 nt).Ok->oks sp.ins ds->sp.pre ds->Ev (cx P tb w0 O0 nt) (WB P fn w0 O0 (sp.out ds)) (.run cd) [] ⟨AM 0 sp.ins ds,[]⟩):Ab P f sp:=by
 refine⟨⟨fn,d,j,by simp[c]⟩,λw O p ds e a l=>?_⟩;refine calls_of_wp d c ((wpIn_wide (n:=0)).1 ?_);have o:=Sm a;rw[k];exact h w O ds ⟨λb g=>g,e,hT,hF⟩ (rT a) l i rfl _ _ (A0i a (by omega))
theorem nJ (O:(cx P tb w0 O0 nt).Ok) {fn:Func} {et:TypeId} {e:Ty} {xs:List e.den} {σ:St} {ex:Exit} (p:ex=.ret\/ex=.normal) {rv:ResultVar} (S:fn.results=#[rv]) (h:Nl tb σ rv (.own et e xs)) :
  Ev (cx P tb w0 O0 nt) (WB P fn w0 O0 [.own et e xs]) (.out ex) [] σ:=by
 intro _ _ a w hs;obtain⟨ρ,hs⟩:=hs;have N:Below w0.heap.size w0 w:=⟨hs.frm.os,hs.frm.tape,hs.frm.output,hs.frm.size,hs.frm.block⟩;unfold Nl at h;simp only at h;split at h
 .rename_i n Z hi U;obtain⟨rfl,c,rfl⟩:=h;cases hn:lk n σ.objs with
  | none=>rw[hn]at c;simp[Jc]at c
  | some o =>
   rw[hn]at c;cases o with
   | box f st fs=>simp[Jc]at c
   | mapo k v l=>simp[Jc]at c
   | frame al fs=>simp[Jc]at c
   | loop L=>simp[Jc]at c
   | itr ah ak ai aj af=>simp[Jc]at c
   | dfr=>simp[Jc]at c
   | nest aa ag k d ys A=>simp[Jc]at c
   | arr f d ys =>
    simp only[Jc]at c;split at c
    .rename_i R;subst R;obtain⟨rfl,I⟩:=Be c;cases I;obtain⟨u,hu,K⟩:=VH (P:=P) O.T hs U;obtain⟨ab,y⟩:=K;have C:=hs.objs n _ hn;have q:u=ρ n:=by
      obtain⟨W,m,c0,t,_,ad,V,X,rfl,_,h0,_⟩:=y;have t:plc (ρ n)=_:=t;obtain⟨rfl,rfl⟩:=h0 rfl;obtain⟨_,cells,s,_⟩:=C;have s:w.ownsRow 0 f d.size (ρ n) ys.length cells:=s;rw[HH s]at t;have r:m=ys.length:=by
       rcases s.2 with ⟨p,ae⟩|⟨g,cap,Y,p,_⟩
       .rw[t]at p;injection p;omega
       rw[t]at p;injection p
      rw[t,r,Nat.sub_zero]
     have D:(results fn a.tmps).run P w=.ok u w:=by
      rw[OL,S];have:((#[rv]:Array ResultVar).mapM (Jd a.tmps)).run P w=.ok #[u] w:=by
       rw[nO];simp[hu]
      simp only[Uy,this,UV,tO];rfl
     have z:A2f w0 O0 [.own f d ys] u w:=by
      intro nm;have B:∀m,Gr (D7 ⟨[],[]⟩ [(nm,.arr f d ys)]) m↔m=nm:=by
       intro m;simp[Gr,D7,lk]
      have hk:∀b,¬own O0 σ ρ b->¬own O0 (D7 ⟨[],[]⟩ [(nm,.arr f d ys)]) (Et (λ_=>undef) nm u) b:=by
       intro b j M;rcases M with h0|⟨m,A,r⟩
       .exact j (.inl h0)
       rw[(B m).1 A,Bo,q]at r;exact j (.inr ⟨n,⟨_,hn⟩,r⟩)
      have J:Cf nm [RV.own f d ys]=[(nm,.arr f d ys)]:=rfl;rw[J];refine⟨Et (λ_=>undef) nm u,QS.one (loc:=u) N (λb j=>?_) ?_ ?_⟩
      .rw[q]at j;have:=(hs.free n b ⟨_,hn⟩ j).1;simp only[cx]at this;omega
      .refine⟨(B nm).2 rfl,?_⟩;show DI (plc (Et (λ_=>undef) nm u nm)) _ _ _ u;rw[Bo,q];rw[q]at y;exact y
      rw[q];obtain⟨r,cells,s,Q⟩:=C;refine⟨r,cells,s,λi x hi=>?_⟩;obtain⟨E,F,G,H⟩:=Q i x hi;rw[q]at hk;exact⟨E,F,G,H.mono (λb _ j=>hk b j) (λ_ _ _=>rfl)⟩
     rcases p with rfl|rfl
     .exact⟨hs.defers,u,D,u,rfl,z⟩
     exact⟨hs.defers,u,D,u,rfl,z⟩
    cases c
 exact h.elim
end
end
section
open Go Go.RowKit
section
variable {P:Program} {tb:Tb} {w0:World} {O0:Nat->Prop} {nt:Nat} {R:Exit->Act->World->Prop} {k:List DJ} {σ σ':St}
theorem gZ:(cx P tb w0 O0 nt).tb=tb:=rfl
theorem nK {c:Cx} (a:c.Ok) {id:Nat} {l:List Oper} {vc:Prop} (h:Bn c.tb l l σ=some (vc,σ')) (b:vc) (hk:Ev c R (.out .normal) k σ') :
  Ev c R (.run (.region id l.toArray false)) k σ:=A0h a (by
 show EvR _ _ _ (Bn c.tb l l σ);rw[h];exact⟨b,hk⟩)
theorem DR {c:Cx} {o:Operand} {x y:Code} {b:Bool} (h:Ar σ o=some (.p .bool b)) (a:b=true->Ev c R (.run x) k σ) (hf:b=false->Ev c R (.run y) k σ):Ev c R (.run (.cond o x y)) k σ :=
 A5N (by rw[h];exact⟨a,hf⟩)
theorem nL {c:Cx} {id:Nat} (h:Ev c R (.out .normal) k σ):Ev c R (.out (.exit id)) (.blk id :: k) σ:=Sl (by rw[BY rfl];exact h)
theorem nM {c:Cx} {id a:Nat} (b:a≠id) (h:Ev c R (.out (.exit a)) k σ):Ev c R (.out (.exit a)) (.blk id :: k) σ:=Sl (by rw[As b];exact h)
end
inductive Bw where
 | nm (n:Nat)
 | nil
def Dg (ren:List (Nat×Bw)):AV->AV->Prop
 | .p t d,.p u a=>BP u ⟨t,d⟩=some a
 | .raw (.slice none 0 0),.p (.slice e) a=>(a:List e.den)=[]
 | .raw v,.raw u=>v=u
 | .raw (.slice none 0 0),.sr m _ lo hi=>lk m ren=some .nil/\lo=0/\hi=0
 | .sr n e lo hi,.sr m b h c=>lk m ren=some (.nm n)/\e=b/\lo=h/\hi=c
 | .ip t d,.ip u a=>BP u ⟨t,d⟩=some a
 | .bp n p o,.bp m k j=>lk m ren=some (.nm n)/\p=k/\o=j
 | .fn f,.fn g=>f=g
 | .clo f ns,.clo g i=>f=g/\i.map (λm=>lk m ren)=ns.map λn=>some (.nm n)
 | .mp n,.mp m=>lk m ren=some (.nm n)
 | .yl n,.yl m=>lk m ren=some (.nm n)
 | _,.top=>True
 | _,_=>False
def E3 (ren:List (Nat×Bw)):List AV->List AV->Prop
 | [],[]=>True
 | x :: l,y :: r=>(x.cells=y.cells/\Dg ren x y)/\E3 ren l r
 | _,_=>False
def Hr (ren:List (Nat×Bw)):AV->AV->Prop
 | .ag l,.ag r=>E3 ren l r
 | x,y=>Dg ren x y
def Im (ren:List (Nat×Bw)):List AV->List AV->Prop
 | [],[]=>True
 | x :: l,y :: r=>Hr ren x y/\Im ren l r
 | _,_=>False
def Bg (ren:List (Nat×Bw)):AV->AV->Prop
 | .tup l,.tup r=>Im ren l r
 | x,y=>Hr ren x y
def KY (ren:List (Nat×Bw)):Option AV->AV->Prop
 | some x,y=>Bg ren x y
 | none,.top=>True
 | none,_=>False
def E4 (env:List (Nat×AV)) (ren:List (Nat×Bw)):List (Nat×AV)->Prop
 | []=>True
 | (s,y) :: r=>KY ren (lk s env) y/\E4 env ren r
def Hs (ren:List (Nat×Bw)):Option Obj->Obj->Prop
 | some (.arr et e xs),.arr a c ys=>et=a/\BP (.slice c) ⟨.slice e,xs⟩=some ys
 | some (.box et st fs),.box a q d=>et=a/\st=q/\E3 ren fs d
 | some (.nest et n k e xs h),.nest a o b c ys m=>(et=a/\n=o/\h=m)/\BP (.slice (.prod b (.slice c))) ⟨.slice (.prod k (.slice e)),xs⟩=some ys
 | some (.mapo k v l),.mapo b f l'=>BP (.slice (.prod b f)) ⟨.slice (.prod k v),l⟩=some l'
 | some (.frame r fs),.frame s d=>r=s/\E4 fs ren d
 | some (.itr k v l lf i),.itr b f l' p j=>BP (.slice (.prod b f)) ⟨.slice (.prod k v),l⟩=some l'/\lf=p/\i=j
 | some (.loop L),.loop g=>L=g
 | some .dfr,.dfr=>True
 | _,_=>False
def GH (objs:List (Nat×Obj)) (ren:List (Nat×Bw)) (o:Obj):Option Bw->Prop
 | some (.nm n)=>Hs ren (lk n objs) o
 | some .nil=>match o with
  | .arr _ e ys=>(ys:List e.den)=[]
  | .box _ _ _=>False
  | .nest _ _ k e ys _=>(ys:List (k.den×List e.den))=[]
  | .mapo _ _ _=>False
  | .frame _ _=>False
  | .itr _ _ _ _ _=>False
  | .loop _=>False
  | .dfr=>False
 | none=>False
def Ae (objs:List (Nat×Obj)) (ren:List (Nat×Bw)):List (Nat×Obj)->Prop
 | []=>True
 | (m,o) :: r=>GH objs ren o (lk m ren)/\Ae objs ren r
def B4:List (Nat×Bw)->Bool
 | []=>true
 | (_,.nm n) :: r=>(r.all λp=>match p.2 with|.nm a=>a != n|.nil=>true)&&B4 r
 | (_,.nil) :: r=>B4 r
def Li {α:Type}:List (Nat×α)->Bool
 | []=>true
 | (n,_) :: r=>(r.all λp=>p.1 != n)&&Li r
section
variable {ren:List (Nat×Bw)} {V V':Vw}
structure Lj (ren:List (Nat×Bw)) (V V':Vw):Prop where
 w:V'.w=V.w
 O:∀b,¬V.O b->¬V'.O b
 ρ:∀m n,lk m ren=some (.nm n)->V'.ρ m=V.ρ n
 nil:∀m,lk m ren=some .nil->V'.ρ m=.slice none 0 0
 L:∀m f,lk m ren=some f->V'.L m
theorem Lj.vrep (h:Lj ren V V') {t:Ty} {v:Value} {d:t.den} (c:BS V.w V.O t v d):BS V'.w V'.O t v d :=
 BS.mono (λb _ a=>h.O b a) (λb _ _=>by rw[h.w]) c
theorem Lj.rep (h:Lj ren V V') {t:Ty} {cs:List Value} {d:t.den} (c:Bv V.w V.O t cs d):Bv V'.w V'.O t cs d :=
 c.mono (λb _ a=>h.O b a) (λb _ _=>by rw[h.w])
theorem Lj.map (h:Lj ren V V'):∀ {b ns:List Nat},b.map (λm=>lk m ren)=ns.map (λn=>some (Bw.nm n))->b.map V'.ρ=ns.map V.ρ/\∀m∈b,∃n∈ns,lk m ren=some (.nm n)
 | [],[],_=>⟨rfl,λ_ h=>by cases h⟩
 | [],_ :: _,a=>by simp at a
 | _ :: _,[],a=>by simp at a
 | m :: b,n :: ns,a=>by
  simp only[UD,oR]at a;obtain⟨h1,c⟩:=h.map a.2;refine⟨by simp only[UD,h1,h.ρ _ _ a.1],λx d=>?_⟩;grind
theorem ZZ (h:Lj ren V V') {x y:AV} {v:Value} (b:Dg ren x y) (c:Vm V x v):Vm V' y v/\(∀t d,y=.p t d->(∀u g,x≠.p u g)->v.oneCell'=true->Bv V'.w V'.O t [v] d):=by
 unfold Dg at b;split at b
 .have:=A6 b;injection this with h1 f
  subst h1;cases f;exact⟨h.vrep c,λ_ _ _ z=>absurd rfl (z _ _)⟩
 .have c:v=_:=c;subst c;have i:=b;have k:∀(O:Nat->Prop) (e:Ty),Bv V'.w O (.slice e) [.slice none 0 0] ([]:List e.den):=λO e=>⟨none,0,rfl,by simp,by simp[AO],.inl rfl⟩;rename_i e g;have i:g=([]:List e.den):=i;subst i;refine⟨⟨_,k _ _,rfl⟩,λt d a _ _=>?_⟩;grind
 .subst b;exact⟨c,λt d a=>by cases a⟩
 .rename_i m e lo hi;obtain⟨h1,rfl,rfl⟩:=b;have c:v=_:=c;subst c;refine⟨⟨h.L _ _ h1,?_⟩,λt d a=>by cases a⟩;rw[h.nil _ h1];exact⟨none,0,0,rfl,by omega,by omega,none,0,rfl,by omega,λ_=>⟨rfl,rfl⟩,λh=>by omega⟩
 .obtain⟨h1,rfl,rfl,rfl⟩:=b;refine⟨⟨h.L _ _ h1,?_⟩,λt d a=>by cases a⟩;rw[h.ρ _ _ h1];exact c.2
 .have:=A6 b;injection this with h1 f
  subst h1;cases f;obtain⟨ad,cs,a,o,q,k⟩:=c;exact⟨⟨ad,cs,a,h.O _ o,λj u r=>by rw[h.w];exact q j u r,h.rep k⟩,λt d a=>by cases a⟩
 .obtain⟨h1,rfl,rfl⟩:=b;refine⟨⟨h.L _ _ h1,?_⟩,λt d a=>by cases a⟩;rw[h.ρ _ _ h1];exact c.2
 .subst b;exact⟨c,λt d a=>by cases a⟩
 .obtain⟨rfl,s⟩:=b;obtain⟨h1,f⟩:=h.map s;refine⟨⟨?_,λm b=>?_⟩,λt d a=>by cases a⟩
  .rw[h1];exact c.1
  obtain⟨n,hn,l⟩:=f m b;refine⟨h.L _ _ l,?_⟩;rw[h.ρ _ _ l];exact(c.2 n hn).2
 .refine⟨⟨h.L _ _ b,?_⟩,λt d a=>by cases a⟩;rw[h.ρ _ _ b];exact c.2
 .refine⟨⟨h.L _ _ b,?_⟩,λt d a=>by cases a⟩;rw[h.ρ _ _ b];exact c.2
 .exact⟨trivial,λt d a=>by cases a⟩
 exact b.elim
theorem A0j (h:Lj ren V V') {x y:AV} {cs:List Value} (f:x.cells=y.cells) (b:Dg ren x y) (a:NV V x cs):NV V' y cs:=by
 by_cases hp:∃t d,x=.p t d
 .obtain⟨t,d,rfl⟩:=hp;have a:Bv V.w V.O t cs d:=a;cases y<;>simp only[Dg]at b<;>try exact b.elim
  .have:=A6 b;injection this with h1 c
   subst h1;cases c;exact h.rep a
  have g:=a.length;simp only[AV.cells]at f;rw[f]at g;obtain⟨v,rfl⟩:=Y2.1 g;exact⟨v,rfl,a.one v (by simp),trivial⟩
 have l:∃v,cs=[v]/\v.oneCell'=true/\Vm V x v:=by
  cases x;case p t d=>exact absurd ⟨t,d,rfl⟩ hp
  all_goals exact a
 obtain⟨v,rfl,h1,c⟩:=l;obtain⟨j,k⟩:=ZZ h b c;cases y;case p t d=>exact k t d rfl (λu i e=>hp ⟨u,i,e⟩) h1
 all_goals exact⟨v,rfl,h1,j⟩
theorem OM (h:Lj ren V V'):∀ {l r:List AV} {cs:List Value},E3 ren l r->DQ V l cs->DQ V' r cs
 | [],[],cs,_,b=>b
 | [],_ :: _,cs,a,_=>a.elim
 | _ :: _,[],cs,a,_=>a.elim
 | x :: l,y :: r,cs,a,b=>by
  obtain⟨c1,c2,rfl,h1,c⟩:=b;exact⟨c1,c2,rfl,A0j h a.1.1 a.1.2 h1,OM h a.2 c⟩
theorem LF:∀ {l r:List AV},E3 ren l r->l.length=r.length
 | [],[],_=>rfl
 | [],_ :: _,a=>a.elim
 | _ :: _,[],a=>a.elim
 | _ :: _,_ :: _,a=>by simp[LF a.2]
theorem Za (h:Lj ren V V') {x y:AV} {v:Value} (a:Hr ren x y) (b:SZ V x v):SZ V' y v:=by
 cases x;case ag l =>
  cases y;case ag r =>
   obtain⟨cs,e,h1⟩:=b;exact⟨cs,e,OM h a h1⟩
  all_goals simp only[Hr,Dg]at a
  all_goals first|exact a.elim|exact trivial
 all_goals
  simp only[SZ]at b;have a:Dg ren _ y:=a;exact SZ.of1 (ZZ h a b).1
theorem g9 (h:Lj ren V V'):∀ {l r:List AV} {b:List Value},Im ren l r->Hk V l b->Hk V' r b
 | [],[],b,_,c=>c
 | [],_ :: _,b,a,_=>a.elim
 | _ :: _,[],b,a,_=>a.elim
 | x :: l,y :: r,b,a,c=>by
  obtain⟨v,e,rfl,h1,d⟩:=c;exact⟨v,e,rfl,Za h a.1 h1,g9 h a.2 d⟩
theorem Mw (h:Lj ren V V') {x y:AV} {v:Value} (a:Bg ren x y) (b:Bz V x v):Bz V' y v:=by
 cases x;case tup l =>
  cases y;case tup r =>
   obtain⟨c,e,h1⟩:=b;exact⟨c,e,g9 h a h1⟩
  all_goals simp only[Bg,Hr,Dg]at a
  all_goals first|exact a.elim|exact trivial
 all_goals
  simp only[Bg]at a;exact A1Y (Za h a b)
theorem DA {objs:List (Nat×Obj)} {m:Nat} {o:Obj}:∀ {l:List (Nat×Obj)},Ae objs ren l->lk m l=some o->GH objs ren o (lk m ren)
 | (j,x) :: l,h,a=>by
  simp only[lk]at a;split at a
  .rename_i e;cases a;subst e;exact h.1
  exact DA h.2 a
theorem Lk {env:List (Nat×AV)} {s:Nat} {y:AV}:∀ {l:List (Nat×AV)},E4 env ren l->lk s l=some y->KY ren (lk s env) y
 | (j,x) :: l,h,a=>by
  simp only[lk]at a;split at a
  .rename_i e;cases a;subst e;exact h.1
  exact Lk h.2 a
theorem VI:∀ {l:List (Nat×Bw)} {m c n:Nat},B4 l=true->lk m l=some (.nm n)->lk c l=some (.nm n)->m=c
 | (j,f) :: l,m,c,n,a,h1,b=>by
  simp only[lk]at h1 b;have e:B4 l=true:=by
   cases f<;>simp only[B4,An]at a
   .exact a.2
   exact a
  have g:∀q,f=.nm n->lk q l=some (.nm n)->False:=by
   intro q hf d;subst hf;simp only[B4,An,ON]at a;have:=a.1 _ (Ff d);simp at this
  split at h1
  .grind
  split at b
  .grind
  exact VI e h1 b
def AAi (n:Nat):Option Bw->Bool
 | some (.nm m)=>m==n
 | _=>false
def A9d (pin:List (Nat×Value)) (ren:List (Nat×Bw)):Bool:=pin.all λp=>AAi p.1 (lk p.1 ren)
theorem RU {V V':Vw} (a:Lj ren V V') {P:List (Nat×Obj)} (ag:∀n x,lk n P=some x->A1 V x (V.ρ n)) {o:Obj} {m:Nat} (hf:GH P ren o (lk m ren)):A1 V' o (V'.ρ m):=by
 cases J:lk m ren with
 | none=>rw[J]at hf;exact hf.elim
 | some f =>
  rw[J]at hf;cases f with
  | nil =>
   rw[a.nil m J];cases o with
   | box et st fs=>exact hf.elim
   | mapo k v l=>exact hf.elim
   | frame t fs=>exact hf.elim
   | loop L=>exact hf.elim
   | itr B E C D A=>exact hf.elim
   | dfr=>exact hf.elim
   | nest et aj k e ys H =>
    have hf:ys=([]:List (k.den×List e.den)):=hf;subst hf;exact⟨_,[],[],.inr ⟨rfl,rfl,rfl⟩,by simp[AO],rfl,oS _ 0 et _,λi x u h=>by simp at h,λi j b u v h=>by simp at h,λi b u h=>by simp at h⟩
   | arr et e ys =>
    have hf:ys=([]:List e.den):=hf;subst hf;exact⟨by simp[AO],[],oS _ 0 et e.size,HT _ _ _ _⟩
  | nm n =>
   rw[a.ρ m n J];simp only[GH]at hf;cases hn:lk n P with
   | none=>rw[hn]at hf;simp only[Hs]at hf
   | some x =>
    rw[hn]at hf;have q:=ag n x hn;cases x with
    | arr et e xs =>
     cases o with
     | box c st fs=>exact hf.elim
     | mapo k v l=>exact hf.elim
     | frame t fs=>exact hf.elim
     | loop L=>exact hf.elim
     | itr B E C D A=>exact hf.elim
     | dfr=>exact hf.elim
     | nest _ _ _ _ _ _=>exact hf.elim
     | arr c p ys =>
      obtain⟨rfl,g⟩:=hf;obtain⟨rfl,d⟩:=Be g;cases d;obtain⟨ae,cells,af,ab⟩:=q;refine⟨ae,cells,by rw[a.w];exact af,λi z hi=>?_⟩;obtain⟨K,S,T,U⟩:=ab i z hi;exact⟨K,S,T,a.rep U⟩
    | box et st fs =>
     cases o with
     | arr c p ys=>exact hf.elim
     | mapo k v l=>exact hf.elim
     | frame t fs=>exact hf.elim
     | loop L=>exact hf.elim
     | itr B E C D A=>exact hf.elim
     | dfr=>exact hf.elim
     | nest _ _ _ _ _ _=>exact hf.elim
     | box c av W =>
      obtain⟨rfl,rfl,G⟩:=hf;obtain⟨h0,b,cs,F,hh,aa⟩:=q;exact⟨λah=>by rw[<-LF G];exact h0 ah,b,cs,F,by rw[a.w];exact hh,OM a G aa⟩
    | nest et aj k e xs h =>
     cases o with
     | nest c ar Q p ys aq =>
      obtain⟨⟨rfl,rfl,rfl⟩,g⟩:=hf;have g:=A6 g;injection g with h1 y
      injection h1 with h1
      injection h1 with h1 d
      injection d with d
      subst h1;subst d;cases y;exact A07 a.w a.O q
     | mapo k v l=>exact hf.elim
     | box c st fs=>exact hf.elim
     | arr c p ys=>exact hf.elim
     | frame t fs=>exact hf.elim
     | loop L=>exact hf.elim
     | itr B E C D A=>exact hf.elim
     | dfr=>exact hf.elim
    | mapo k v l =>
     cases o with
     | mapo Q an l' =>
      have g:=A6 hf;injection g with h1 y
      injection h1 with h1
      injection h1 with h1 d
      subst h1;subst d;cases y;obtain⟨b,K,cl,F,hh,ad,Z⟩:=q;exact⟨b,K,cl,F,by rw[a.w];exact hh,ad.mono (λb _ M=>a.O b M) (λb _ _=>by rw[a.w]),Z⟩
     | box c st fs=>exact hf.elim
     | arr c p ys=>exact hf.elim
     | frame t fs=>exact hf.elim
     | loop L=>exact hf.elim
     | itr B E C D A=>exact hf.elim
     | dfr=>exact hf.elim
     | nest _ _ _ _ _ _=>exact hf.elim
    | frame t fs =>
     cases o with
     | frame aw W =>
      obtain⟨rfl,G⟩:=hf;obtain⟨h0,h1⟩:=q;refine⟨h0,λs v ai=>?_⟩;have I:=Lk G ai;cases N:lk s fs with
      | none =>
       rw[N]at I;cases v<;>simp only[KY]at I;exact trivial
      | some x =>
       rw[N]at I;exact Mw a I (h1 s x N)
     | mapo k v l=>exact hf.elim
     | box c st fs=>exact hf.elim
     | arr c p ys=>exact hf.elim
     | loop L=>exact hf.elim
     | itr B E C D A=>exact hf.elim
     | dfr=>exact hf.elim
     | nest _ _ _ _ _ _=>exact hf.elim
    | itr k v l lf ao =>
     cases o with
     | itr Q an l' au ap =>
      obtain⟨hf,rfl,rfl⟩:=hf;have g:=A6 hf;injection g with h1 y
      injection h1 with h1
      injection h1 with h1 d
      subst h1;subst d;cases y;obtain⟨r,F,b,ak,cl,am,al,h1,y,d,X,Y⟩:=q;exact⟨r,F,b,ak,cl,am,al,by rw[a.w];exact h1,a.O b y,by rw[a.w];exact d,X.mono (λb _ M=>a.O b M) (λb _ _=>by rw[a.w]),Y⟩
     | mapo k v l=>exact hf.elim
     | box c st fs=>exact hf.elim
     | arr c p ys=>exact hf.elim
     | frame t fs=>exact hf.elim
     | loop L=>exact hf.elim
     | dfr=>exact hf.elim
     | nest _ _ _ _ _ _=>exact hf.elim
    | loop L =>
     cases o with
     | loop R =>
      have hf:L=R:=hf;subst hf;obtain⟨b,H,hh⟩:=q;exact⟨b,H,by rw[a.w];exact hh⟩
     | itr B E C D A=>exact hf.elim
     | mapo k v l=>exact hf.elim
     | box c st fs=>exact hf.elim
     | arr c p ys=>exact hf.elim
     | frame t fs=>exact hf.elim
     | dfr=>exact hf.elim
     | nest _ _ _ _ _ _=>exact hf.elim
    | dfr =>
     cases o with
     | dfr =>
      obtain⟨b,H,hh⟩:=q;exact⟨b,H,by rw[a.w];exact hh⟩
     | nest _ _ _ _ _ _=>exact hf.elim
     | mapo k v l=>exact hf.elim
     | box c st fs=>exact hf.elim
     | arr c p ys=>exact hf.elim
     | frame t fs=>exact hf.elim
     | loop L=>exact hf.elim
     | itr B E C D A=>exact hf.elim
def CJ (objs:List (Nat×Obj)) (ren:List (Nat×Bw)):Bool:=ren.all λp=>(lk p.1 objs).isSome
theorem AC {c:Cx} {σ σ':St} (ren:List (Nat×Bw)) (h1:B4 ren=true) (r:CJ σ'.objs ren=true) (z:Ae σ.objs ren σ'.objs) (F:E4 σ.env ren σ'.env) (hp:A9d c.ds.pin ren=true:=by rfl):Ent c σ σ':=by
 rintro a w ⟨ρ,hs⟩
 let ρ':Nat->Value:=λm=>match lk m ren with|some (.nm n)=>ρ n|_=>.slice none 0 0
 have y:∀m n,lk m ren=some (.nm n)->ρ' m=ρ n:=λm n d=>by simp[ρ',d]
 have u:∀m,lk m ren=some .nil->ρ' m=.slice none 0 0:=λm d=>by simp[ρ',d]
 have D:∀m f,lk m ren=some f->Gr σ' m:=λm f d=>by
  simp only[CJ,ON]at r;have:=r _ (Ff d);exact Yv.1 this
 have j:∀m b,Gr σ' m->bk (ρ' m) b->∃n,lk m ren=some (.nm n)/\Gr σ n/\bk (ρ n) b:=by
  rintro m b ⟨o,d⟩ e;have hf:=DA z d;cases i:lk m ren with
  | none=>rw[i]at hf;exact hf.elim
  | some f =>
   cases f with
   | nil=>rw[u m i]at e;simp[bk,blk]at e
   | nm n =>
    rw[i]at hf;rw[y m n i]at e;refine⟨n,rfl,?_,e⟩;cases hn:lk n σ.objs with
    | none=>simp only[GH,hn,Hs]at hf
    | some x=>exact⟨x,hn⟩
 have t:Lj ren (vw w c.O0 σ ρ) (vw w c.O0 σ' ρ'):=by
  refine⟨rfl,λb e k=>?_,y,u,D⟩;rcases k with h0|⟨m,h,d⟩
  .exact e (.inl h0)
  obtain⟨n,_,hn,g⟩:=j m b h d;exact e (.inr ⟨n,hn,g⟩)
 refine⟨ρ',hs.frm,hs.nt,hs.defers,λp A=>?_,λm o d=>?_,λm b h e=>?_,λm J b h G e k=>?_,λs v I=>?_⟩
 .obtain⟨L,M,N⟩:=hs.pin p A;simp only[A9d,ON]at hp;have l:=hp p A;unfold AAi at l;split at l
  .grind
  cases l
 .exact RU t hs.objs (DA z d)
 .obtain⟨n,_,hn,g⟩:=j m b h e;exact hs.free n b hn g
 .obtain⟨n,B,hn,g⟩:=j m b h e;obtain⟨K,C,H,E⟩:=j J b G k;have:=hs.dist n K b hn H g E;subst this;exact VI h1 B C
 have d:=Lk F I;cases q:lk s σ.env with
 | none =>
  rw[q]at d;cases v<;>simp only[KY]at d;exact trivial
 | some x =>
  rw[q]at d;exact Mw t d (hs.env s x q)
end
end
section
open Go
theorem Gf (b:Bool):RL true (some (.p .bool b))=some b:=by cases b<;>rfl
theorem Fi (b:Bool):RL false (some (.p .bool b))=some (!b):=by cases b<;>rfl
theorem Mx:IntKind.i64.min=-9223372036854775808:=by decide
theorem My:IntKind.i64.max=9223372036854775807:=by decide
theorem Mz:IntKind.u64.min=0:=by decide
theorem M0:IntKind.u64.max=18446744073709551615:=by decide
theorem RW:IntKind.u8.min=0:=by decide
theorem RY:IntKind.u8.max=255:=by decide
theorem M2 (n:Int):KC .i64 n↔-9223372036854775808<=n/\n<=9223372036854775807:=by unfold KC;rw[Mx,My]
theorem Io (n:Int):KC .u64 n↔0<=n/\n<=18446744073709551615:=by unfold KC;rw[Mz,M0]
theorem WC (n:Int):KC .u8 n↔0<=n/\n<=255:=by unfold KC;rw[RW,RY]
theorem Py {α:Type} (x:α):sub [x] 0 1=[x]:=rfl
theorem Ht {α:Type} (xs:List α) (n:Nat):sub xs 0 n=xs.take n:=by simp[sub]
theorem A2s (n:Nat):((n:Int)).toNat=n:=To n
theorem Fj (n:Nat):(0<=(n:Int))=True:=eq_true (VA n)
end
section
open Go Go.RowKit
section
variable {tb:Tb} {σ σ':St}
def fZ (σ σ':St):Prop:=∀n o,lk n σ.objs=some o->lk n σ'.objs=some o
theorem A2t (h:fZ σ σ') {e:Ty} {lo hi n:Nat} {d:List e.den} (hs:RE e lo hi (lk n σ.objs)=some d):RE e lo hi (lk n σ'.objs)=some d:=by
 cases hn:lk n σ.objs with
 | none=>rw[hn]at hs;simp[RE]at hs
 | some o=>rw[h n o hn,<-hn];exact hs
theorem A0k (h:fZ σ σ') {e:Ty} {i n:Nat} {d:List e.den} (hs:RH e i (lk n σ.objs)=some d):RH e i (lk n σ'.objs)=some d:=by
 cases hn:lk n σ.objs with
 | none=>rw[hn]at hs;simp[RH]at hs
 | some o=>rw[h n o hn,<-hn];exact hs
theorem Je (h:fZ σ σ') {l:Bool} {t:Ty} {x:AV} {d:t.den} (hs:Eq l σ t x=some d):Eq l σ' t x=some d:=by
 unfold Eq at hs ⊢;split at hs
 .exact hs
 .grind [A2t]
 .grind [A0k]
 .exact hs
 cases hs
theorem Zb (h:fZ σ σ') {l:Bool}:∀ {fs:List AV} {t:Ty} {d:t.den},KF l σ fs t=some d->KF l σ' fs t=some d
 | [],t,d,hs=>by simp[KF]at hs
 | [x],t,d,hs=>by grind [KF,Je]
 | x :: y :: r,t,d,hs=>by
  cases t<;>simp only[KF]at hs ⊢<;>try(cases hs;done)
  rename_i a b;cases h1:Eq l σ a x with
  | none=>rw[h1]at hs;simp[LT]at hs
  | some e =>
   cases c:KF l σ (y :: r) b with
   | none=>rw[h1,c]at hs;simp[LT]at hs
   | some f =>
    rw[Je h h1,Zb h c];rw[h1,c]at hs;exact hs
theorem E5 (h:fZ σ σ') {l:Bool} {t:Ty} {x:AV} {d:t.den} (hs:Mm l σ t x=some d):Mm l σ' t x=some d:=by
 unfold Mm at hs ⊢;split at hs
 .exact Zb h hs
 exact Je h hs
def Ops (σ σ':St) (xs:List Operand):Prop:=∀x∈xs,∀v,Ar σ x=some v->Ar σ' x=some v
theorem Pz (h:fZ σ σ') {e:Ty} {x:AV} {d:List e.den} (hs:PY σ e x=some d):PY σ' e x=some d:=by
 unfold PY at hs ⊢;split at hs
 .rename_i n a lo hi;cases hn:lk n σ.objs with
  | none =>
   rw[hn]at hs;have hs:Eq true σ (.slice e) (.sr n a lo hi)=some d:=by simpa[Ce,Mm] using hs
   simp only[Eq,hn]at hs;split at hs<;>simp[RE]at hs
  | some o =>
   rw[h n o hn];rw[hn]at hs;split at hs
   .cases hs
   grind [E5]
 exact E5 h hs
theorem WD (h:fZ σ σ') {l:Bool}:∀ {ts:List Ty} {xs:List Operand} {ds:KE ts},Ops σ σ' xs->F5 l σ ts xs=some ds->F5 l σ' ts xs=some ds
 | [],[],ds,_,hs=>hs
 | [],_ :: _,ds,_,hs=>by simp[F5]at hs
 | _ :: _,[],ds,_,hs=>by simp[F5]at hs
 | t :: ts,x :: xs,ds,b,hs=>by
  simp only[F5]at hs ⊢;cases a:Ar σ x with
  | none=>rw[a]at hs;cases hs
  | some v =>
   rw[b x (by simp) v a];rw[a]at hs;simp only at hs ⊢;split at hs
   .rename_i y ys c d;rw[E5 h c,WD h (λz e=>b z (by simp[e])) d];exact hs
   cases hs
theorem Sn (h:fZ σ σ') {e:Ty}:∀ {parts:List (Nat×Operand)} {k:Nat} {xs:List e.den},Ops σ σ' (parts.map (·.2))->Es σ e k parts=some xs->Es σ' e k parts=some xs
 | [],k,xs,_,hs=>hs
 | (i,x) :: r,k,xs,b,hs=>by
  simp only[Es]at hs ⊢;split at hs
  .rename_i d;rw[BY d];cases a:Ar σ x with
   | none=>rw[a]at hs;cases hs
   | some v =>
    rw[b x (by simp) v a];rw[a]at hs;simp only at hs ⊢;split at hs
    .rename_i y ys f g;rw[E5 h f,Sn h (λz c=>b z (by simp at c ⊢;exact .inr c)) g];exact hs
    cases hs
  cases hs
theorem hC (h:fZ σ σ') {z:Option AV} {x:Operand} {v:AV} (d:∀v,Ar σ x=some v->Ar σ' x=some v) (hs:FZ σ z (Ar σ x)=some v):FZ σ' z (Ar σ' x)=some v:=by
 cases b:Ar σ x with
 | none=>rw[b]at hs;unfold FZ at hs;split at hs<;>simp at *
 | some a =>
  rw[d a b];rw[b]at hs;unfold FZ at hs ⊢;split at hs
  .rename_i t _ l c;cases c;simp only[No]at hs ⊢;grind [E5]
  exact hs
theorem P0 (h:fZ σ σ') {offs:List (Nat×Nat)}:∀ {parts:List (Nat×Operand)} {fs a:List AV},Ops σ σ' (parts.map (·.2))->Da σ offs fs parts=some a->Da σ' offs fs parts=some a
 | [],fs,a,_,hs=>hs
 | (i,x) :: r,fs,a,c,hs=>by
  simp only[Da]at hs ⊢;cases b:FZ σ fs[i]? (Ar σ x) with
  | none=>rw[b]at hs;cases hs
  | some v =>
   rw[hC h (c x (by simp)) b];rw[b]at hs;simp only at hs ⊢;split at hs
   .rename_i e;rw[BY e];exact P0 h (λz d=>c z (by simp at d ⊢;exact .inr d)) hs
   cases hs
theorem WE:∀ {xs:List Operand} {ns:List Nat},Ops σ σ' xs->Hg σ xs=some ns->Hg σ' xs=some ns
 | [],ns,_,hs=>hs
 | x :: r,ns,a,hs=>by
  simp only[Hg]at hs ⊢;split at hs
  .rename_i n d h1 b;rw[a x (by simp) _ h1,WE (λz c=>a z (by simp[c])) b];exact hs
  cases hs
theorem VJ (h:fZ σ σ') {d:Nat} {op:Op} {r:Prop×AV×List (Nat×Obj)} (A:Ops σ σ' op.operands.toList) (hs:aq tb σ d op=some r):aq tb σ' d op=some r:=by
 have one:∀ {x:Operand} {f:Option AV->BV},x∈op.operands.toList->f none=none->f (Ar σ x)=some r->f (Ar σ' x)=some r:=by
  intro x f j hn hf;cases B:Ar σ x with
  | none=>rw[B,hn]at hf;cases hf
  | some v=>rw[A x j v B,<-B];exact hf
 have M:∀ {x y:Operand} {f:Option AV->Option AV->BV},x∈op.operands.toList->y∈op.operands.toList->(∀b,f none b=none)->(∀a,f a none=none)->f (Ar σ x) (Ar σ y)=some r->f (Ar σ' x) (Ar σ' y)=some r:=by
  intro x y f j E h1 H hf;cases B:Ar σ x with
  | none=>rw[B,h1]at hf;cases hf
  | some v =>
   cases K:Ar σ y with
   | none=>rw[K,H]at hf;cases hf
   | some w=>rw[A x j v B,A y E w K,<-B,<-K];exact hf
 cases op<;>simp only[aq]at hs ⊢<;>try(cases hs;done)
 case move x=>exact one (f:=Gc) (by simp[Op.operands]) rfl hs
 case assign x=>exact one (f:=Gc) (by simp[Op.operands]) rfl hs
 case pick c x y =>
  cases G:Ar σ c with
  | none=>rw[G]at hs;simp[LB]at hs
  | some ad =>
   have ae:=A c (by simp[Op.operands]) ad G;rw[G]at hs;rw[ae];unfold LB at hs ⊢;split at hs
   .rename_i F;cases F;exact one (f:=Gc) (by simp[Op.operands]) rfl hs
   .rename_i F;cases F;exact one (f:=Gc) (by simp[Op.operands]) rfl hs
   cases hs
 case alloc t=>exact hs
 case box t x=>exact one (f:=TT d t (lk t tb.ty)) (by simp[Op.operands]) (by cases lk t tb.ty<;>simp[TT]) hs
 case build t parts =>
  unfold JA at hs ⊢;split at hs
  .rename_i u offs el b F;cases hp:Da σ offs (zfs u) parts.toList with
   | none=>rw[hp]at hs;simp[Gc]at hs
   | some fs =>
    rw[P0 h (by simpa[Op.operands] using A) hp];rw[hp]at hs;exact hs
  cases hs
 case buildSlice t n parts =>
  cases W:lk d tb.nests with
  | some ap =>
   rw[W]at hs;simp only[GW]at hs ⊢;unfold JC at hs ⊢;split at hs
   .rename_i x au offs el b hp F;cases j:Ar σ x with
    | none=>rw[j]at hs;unfold JB at hs;split at hs<;>first|(cases hs;done)|(rename_i H;cases H)
    | some av =>
     rw[A x (by simp[Op.operands,hp]) av j];rw[j]at hs;unfold JB at hs ⊢;split at hs
     .rename_i k e ay az ao;unfold KH at hs;split at hs
      .rename_i aa S;rw[Je h S];exact hs
      .rename_i aa an l S;split at hs
       .rename_i U;rw[Je h S];simp only[KH,U,Ut];exact hs
       cases hs
      cases hs
     cases hs
   cases hs
  | none =>
  rw[W]at hs;simp only[GW]at hs ⊢;unfold BZ at hs ⊢;split at hs
  .rename_i e offs el b F;cases hp:Es σ e 0 parts.toList with
   | none=>rw[hp]at hs;simp[Bd]at hs
   | some xs =>
    rw[Sn h (by simpa[Op.operands] using A) hp];rw[hp]at hs;exact hs
  cases hs
 case load t x =>
  cases j:Ar σ x with
  | none=>rw[j]at hs;simp[JY]at hs
  | some v =>
   rw[A x (by simp[Op.operands]) v j];rw[j]at hs;unfold JY at hs ⊢;split at hs
   .rename_i ti n al off Q I;cases hn:lk n σ.objs with
    | none=>rw[hn]at hs;simp[EI]at hs
    | some o=>rw[h n o hn,<-hn];exact hs
   .rename_i ti n e i al off Q I;cases hn:lk n σ.objs with
    | none=>rw[hn]at hs;simp[EJ]at hs
    | some o=>rw[h n o hn,<-hn];exact hs
   .exact hs
   cases hs
 case nilCheck x=>exact one (f:=Vl) (by simp[Op.operands]) (by simp[Vl]) hs
 case binOp op t x y ar=>exact M (f:=RI op (lk t tb.ty)) (by simp[Op.operands]) (by simp[Op.operands]) (λb=>by simp[RI]) (λa=>by cases a<;>simp[RI]) hs
 case unOp op t x=>exact one (f:=qUn op) (by simp[Op.operands]) (by cases op<;>simp[qUn]) hs
 case convert s t x=>exact one (f:=JZ (lk s tb.ty) (lk t tb.ty)) (by simp[Op.operands]) (by cases lk s tb.ty<;>cases lk t tb.ty<;>simp[JZ]) hs
 case makeSlice t l c=>exact M (f:=Ig tb d (lk t tb.ty)) (by simp[Op.operands]) (by simp[Op.operands]) (λb=>by cases lk t tb.ty<;>simp[Ig]) (λa=>by cases lk t tb.ty<;>simp[Ig]) hs
 case slice t x lo hi ak =>
  cases ak with
  | some m =>
   cases lo with
   | some _=>cases hi<;>simp[aq]at hs
   | none =>
    cases hi with
    | none=>simp[aq]at hs
    | some h1 =>
     simp only[aq]at hs ⊢;cases j:Ar σ x with
     | none=>rw[j]at hs;cases C:lk t tb.ty<;>rw[C]at hs<;>simp[Db]at hs
     | some v =>
      cases hh:Ar σ h1 with
      | none=>rw[j,hh]at hs;cases C:lk t tb.ty<;>rw[C]at hs<;>simp[Db]at hs
      | some B =>
       cases J:Ar σ m with
       | none=>rw[j,hh,J]at hs;cases C:lk t tb.ty<;>rw[C]at hs<;>simp[Db]at hs
       | some aj =>
        rw[A x (by simp[Op.operands]) v j,A h1 (by simp[Op.operands]) B hh,A m (by simp[Op.operands]) aj J];rw[j,hh,J]at hs;exact hs
  | none =>
   simp only[aq]at hs ⊢;have Z:∀ {y:Option Operand},(∀z,y=some z->z∈(Op.slice t x lo hi none).operands.toList)->∀w,Gb σ y=some w->Gb σ' y=some w:=by
    intro y E w K;cases y with
    | none=>exact K
    | some z =>
     simp only[Gb,No]at K ⊢;obtain⟨v,B,rfl⟩:=K;exact⟨v,A z (E z rfl) v B,rfl⟩
   cases j:Ar σ x with
   | none=>rw[j]at hs;cases C:lk t tb.ty<;>rw[C]at hs<;>simp[FB]at hs
   | some v =>
    cases h1:Gb σ lo with
    | none=>rw[h1]at hs;cases C:lk t tb.ty<;>rw[C]at hs<;>simp[FB]at hs
    | some a =>
     cases H:Gb σ hi with
     | none=>rw[H]at hs;cases C:lk t tb.ty<;>rw[C]at hs<;>simp[FB]at hs
     | some b =>
      rw[A x (by simp[Op.operands]) v j,Z (by rintro z rfl;simp[Op.operands]) a h1,Z (by rintro z rfl;simp[Op.operands]) b H];rw[j,h1,H]at hs;exact hs
 case fieldAddr s x f=>exact one (f:=Gu f (lk s tb.ty)) (by simp[Op.operands]) (by cases lk s tb.ty<;>simp[Gu]) hs
 case indexAddr t x i=>exact M (f:=Fb (lk t tb.ty)) (by simp[Op.operands]) (by simp[Op.operands]) (λb=>by cases lk t tb.ty<;>simp[Fb]) (λa=>by cases lk t tb.ty<;>simp[Fb]) hs
 case index t x i=>exact M (f:=EB (lk t tb.ty)) (by simp[Op.operands]) (by simp[Op.operands]) (λb=>by cases lk t tb.ty<;>simp[EB]) (λa=>by cases lk t tb.ty<;>simp[EB]) hs
 case extract x i=>exact one (f:=EK i) (by simp[Op.operands]) (by simp[EK]) hs
 case makeFunc fn first ab =>
  unfold b6 at hs ⊢;split at hs
  .rename_i f hf;cases G:Hg σ ab.toList with
   | none=>rw[G]at hs;simp[Pc]at hs
   | some ns =>
    rw[WE (λz L=>A z (by simp[Op.operands]at L ⊢;exact .inr L)) G];rw[G]at hs;exact hs
  cases hs
 case makeMap t res =>
  cases res with
  | some z=>simp[aq]at hs
  | none=>simp only[aq]at hs ⊢;exact hs
 case lookup t x i ok =>
  cases j:Ar σ x with
  | none=>rw[j]at hs;simp[Ii]at hs
  | some xv =>
   cases hi:Ar σ i with
   | none=>rw[j,hi]at hs;simp[Ii]at hs
   | some Y =>
    rw[A x (by simp[Op.operands]) xv j,A i (by simp[Op.operands]) Y hi];rw[j,hi]at hs;unfold Ii at hs ⊢;split at hs
    .rename_i k e _ _ n z Q I ag;cases I;cases ag;cases hn:lk n σ.objs with
     | none=>rw[hn]at hs;simp[Hh]at hs
     | some o =>
      rw[hn]at hs;rw[h n o hn];unfold Hh at hs ⊢;split at hs
      .rename_i ai ax l A;cases A;split at hs
       .rename_i G;rw[BY G];cases hk:Mm false σ ai Y with
        | none=>rw[hk]at hs;simp[KL]at hs
        | some kd=>rw[E5 h hk];rw[hk]at hs;exact hs
       cases hs
      cases hs
    cases hs
 case call c =>
  obtain⟨callee,args,argTypes⟩:=c;have D:∀x∈args.toList,x∈(Op.call ⟨callee,args,argTypes⟩).operands.toList:=λx j=>by
   have:x∈args:=by simpa using j
   cases callee<;>simp[Op.operands,Call.operands,this]
  cases callee with
  | invoke r m=>simp[Dc]at hs
  | value g =>
   simp only[Dc]at hs ⊢;cases N:Ar σ g with
   | none=>rw[N]at hs;simp[LV]at hs
   | some af =>
    rw[A g (by simp[Op.operands,Call.operands]) af N];rw[N]at hs;unfold LV at hs ⊢;split at hs
    .rename_i f F;cases X:lk f tb.fns with
     | none=>rw[X]at hs;simp[JE]at hs
     | some sp =>
      rw[X]at hs;simp only[JE]at hs ⊢;cases T:F5 sp.lend σ sp.ins args.toList with
      | none=>rw[T]at hs;simp[KK]at hs
      | some ds =>
       rw[WD h (λx j=>A x (D x j)) T];rw[T]at hs;exact hs
    cases hs
  | builtin b =>
   simp only[Dc]at hs ⊢;obtain⟨args⟩:=args;obtain⟨argTypes⟩:=argTypes;simp only at hs D ⊢;unfold EM at hs ⊢;split at hs
   .exact one (f:=TV (lk _ tb.ty)) (D _ (by simp)) (by cases lk _ tb.ty<;>simp[TV]) hs
   .rename_i x y t u;cases j:Ar σ x with
    | none=>rw[j]at hs;simp[DL]at hs
    | some xv =>
     cases E:Ar σ y with
     | none=>rw[j,E]at hs;simp[DL]at hs
     | some P =>
      rw[A x (D _ (by simp)) xv j,A y (D _ (by simp)) P E];rw[j,E]at hs;unfold DL at hs ⊢;split at hs
      .split at hs
       .rename_i O;simp only[O,Ut];rename_i Q I;cases I;rw[O]at hs;cases C:lk u tb.ty with
        | none=>rw[C]at hs;simp[EL]at hs
        | some ti =>
         rw[C]at hs;unfold EL at hs ⊢;split at hs
         .rename_i e offs el b F;cases B:PY σ e P with
          | none=>rw[B]at hs;cases V:lk el tb.ty<;>rw[V]at hs<;>simp[Ey]at hs
          | some ys =>
           rw[B]at hs;rw[Pz h B];exact hs
         cases hs
       cases hs
      .split at hs
       .rename_i O;simp only[O,Ut];rename_i Q I;cases I;rw[O]at hs;cases C:lk u tb.ty with
        | none=>rw[C]at hs;simp[JD]at hs
        | some ti =>
         rw[C]at hs;unfold JD at hs ⊢;split at hs
         .rename_i e offs el b F;split at hs
          .rename_i U;simp only[U,Ut];cases B:PY σ _ P with
           | none=>rw[B]at hs;cases V:lk el tb.ty<;>rw[V]at hs<;>simp[KJ]at hs
           | some ys =>
            rw[B]at hs;rw[Pz h B];exact hs
          cases hs
         cases hs
       cases hs
      cases hs
   .exact M (f:=RJ) (D _ (by simp)) (D _ (by simp)) (λb=>by simp[RJ]) (λa=>by cases a<;>simp[RJ]) hs
   .exact M (f:=RK) (D _ (by simp)) (D _ (by simp)) (λb=>by simp[RK]) (λa=>by cases a<;>simp[RK]) hs
   .rename_i x y z t u aw;cases j:Ar σ x with
    | none=>rw[j]at hs;simp[Ih]at hs
    | some xv =>
     cases E:Ar σ y with
     | none=>rw[j,E]at hs;simp[Ih]at hs
     | some P =>
      cases L:Ar σ z with
      | none=>rw[j,E,L]at hs;simp[Ih]at hs
      | some am =>
       rw[A x (D _ (by simp)) xv j,A y (D _ (by simp)) P E,A z (D _ (by simp)) am L,<-j,<-E,<-L];exact hs
   .rename_i ts x y z u r;have N:∀(r:List Operand) (k:IntKind) (o:Option Int) (m:Int),(∀q∈r,∀v,Ar σ q=some v->Ar σ' q=some v)->FL σ k o r=some m->FL σ' k o r=some m:=by
     intro r;induction r with
     | nil=>intro k o m _ h;cases o<;>(simp[FL]at h;try exact Uu some h)
     | cons q r ah =>
      intro k o m R h;cases o with
      | none=>simp[FL]at h
      | some a =>
       simp only[FL]at h ⊢;cases B:Ar σ q with
       | none=>rw[B]at h;cases r<;>simp[Nf,FL]at h
       | some v =>
        rw[B]at h;rw[R q (by simp) v B];exact ah k _ m (λp hp=>R p (by simp[hp])) h
    cases j:Ar σ x with
    | none=>rw[j]at hs;simp[Ng]at hs
    | some xv =>
     rw[j]at hs;rw[A x (D _ (by simp)) xv j];unfold Ng at hs ⊢;split at hs
     .rename_i k a F;cases F;cases J:FL σ k (some a) (y :: z :: u :: r) with
      | none=>rw[J]at hs;simp[Pb]at hs
      | some m =>
       rw[J]at hs;rw[N _ _ _ _ (λq R=>A q (D _ (NO _ R))) J];exact hs
     cases hs
   cases hs
end
end
end Go.Proofs.YtapkhdkbkodbjaaGreat.Fw
