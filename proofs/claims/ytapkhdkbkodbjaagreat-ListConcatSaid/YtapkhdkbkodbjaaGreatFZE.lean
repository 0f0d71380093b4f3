/- One operation, a sequence, loops, the entry and the end of a function: the rules. -/
import Derived.Test.YtapkhdkbkodbjaaGreatFZD
import Derived.Deep.LoopGhost
import Derived.ControlIn
set_option linter.unusedVariables false
set_option linter.unusedSimpArgs false
namespace Go.Proofs.YtapkhdkbkodbjaaGreat.Fw
section
open Go Go.RowKit
abbrev ABr:=@Go.wpIn_region_list
abbrev ACc:=@Go.wpIn_mono
structure Cx where
 P:Program
 tb:Tb
 w0:World
 K:Nat->Prop
 O0:Nat->Prop
 nt:Nat
 
 ds:Fp:={}
 
 r:Option Nat:=none
structure Cx.Ok (c:Cx):Prop where
 K:∀b,c.K b->b<c.w0.heap.size
 O:∀b,c.O0 b->b<c.w0.heap.size
 T:DC c.P c.tb
 F:Iq c.P c.tb
def Cx.sat (c:Cx) (σ:St) (a:Act) (w:World):Prop:=∃ρ,CA c.w0 c.K c.O0 c.nt c.ds σ ρ a w
section
variable {c:Cx}
theorem A4o (hc:c.Ok) {σ:St} {ρ:Nat->Value} {a:Act} {w:World} (h:CA c.w0 c.K c.O0 c.nt c.ds σ ρ a w):A8p c.P c.tb w c.O0 σ ρ a where
 hT:=hc.T
 hF:=hc.F
 obj:=h.objs
 own:=by
  intro b hb;rcases hb with h0|⟨n,⟨o,ho⟩,hb⟩
  .exact AAj (hc.O b h0) h.frm.size
  exact(h.objs n o ho).block_lt hb
 ev:=Fs h.env
theorem A0b (e:c.Ok) {σ σ':St} {ρ:Nat->Value} {a:Act} {w:World} (hs:CA c.w0 c.K c.O0 c.nt c.ds σ ρ a w) {o:Oper} {vc:Prop} (h:H0 c.tb σ o.dst o.op=some (vc,σ')) (j:vc) (hd:∀d,o.dst=some d->d<c.nt)
  {next:Act->World->Prop} {Q:Exit->Act->World->Prop} (hn:∀i w',c.sat σ' i w'->next i w'):o.wpIn (FR c.r) 0 c.P a w next Q:=by
 obtain⟨dst,op,type,pos,after,guard⟩:=o;simp only at h hd;cases op<;>simp only[H0]at h<;>try(cases h;done)
 case store t x y =>
  cases dst with
  | some d=>simp[ER]at h
  | none =>
   simp only[ER]at h;obtain⟨w',ρ',h1,f⟩:=l4 (P:=c.P) hs e.K e.O e.T h j;exact qZ (w':=w') (by simp[execOp,h1]) (hn _ _ ⟨ρ',f⟩)
 case mapUpdate t m x y =>
  cases dst with
  | some d=>simp[ER]at h
  | none =>
   simp only[ER]at h;obtain⟨w',h1,f⟩:=vW (P:=c.P) hs e.K e.T h;exact qZ (w':=w') (by simp[execOp,h1]) (hn _ _ ⟨ρ,f⟩)
 case call cl =>
  obtain⟨callee,args,argTypes⟩:=cl;cases callee with
  | value g=>simp[EP]at h
  | invoke r m=>simp[EP]at h
  | builtin b =>
   simp only[EP]at h;obtain⟨args⟩:=args;obtain⟨argTypes⟩:=argTypes;simp only at h;unfold E9 at h;split at h
   .rename_i x y t u;obtain⟨z,w',ρ',h1,f⟩:=l0 (P:=c.P) (ty:=type) hs e.K e.O e.T hd h j;exact Az (u:=z) (w':=w') (by simp[execOp,resolve,invoke,builtin,h1]) (hn _ _ ⟨ρ',f⟩)
   cases h
theorem Ve (b:c.Ok) {σ σ':St} {a:Act} {w:World} (hs:c.sat σ a w) {o:Oper} {vc:Prop} (h:Ip c.tb o σ=some (vc,σ')) (g:vc) (hd:∀d,o.dst=some d->d<c.nt)
  {next:Act->World->Prop} {Q:Exit->Act->World->Prop} (hn:∀f w',c.sat σ' f w'->next f w'):o.wpIn (FR c.r) 0 c.P a w next Q:=by
 obtain⟨ρ,hs⟩:=hs;have hs:=KX (l:=DU σ o.op) hs;unfold Ip VQ at h;generalize DN (DU σ o.op) σ=j at h hs;cases e:aq c.tb j (o.dst.getD 0) o.op with
 | some r =>
  obtain⟨k,v,obs⟩:=r;rw[e]at h;simp only[PR]at h;split at h
  .rename_i hf;cases h;exact qW (A4o b hs) e g hf λu ρ' w' i=>hn _ _ ⟨ρ',hs.add b.K b.O hd hf i⟩
  cases h
 | none =>
  rw[e]at h;exact A0b b hs h g hd hn
theorem HZ {ops:Array Oper} {σ:St} {a:Act} {w:World} (hs:c.sat σ a w) {o:Oper} {b:Bool} (h:FF ops.toList σ o.guard=some b):Region.wanted o (yielded ops a.tmps)=b:=by
 obtain⟨ρ,hs⟩:=hs;unfold FF at h;split at h
 .rename_i e;cases h;simp[Region.wanted,e]
 rename_i j p e;cases f:(ops.toList[j]?).bind (·.dst) with
 | none=>rw[f]at h;simp[Lg]at h
 | some g =>
  rw[f]at h;simp only[Lg]at h;cases hl:lk g σ.env with
  | none=>rw[hl]at h;simp[Q9]at h
  | some v =>
   rw[hl]at h;unfold Q9 at h;split at h
   .rename_i k l;cases l;cases h;have d:=hs.env g _ hl;have d:=ED d;have n:(ops[j]?).bind (·.dst)=some g:=by simpa using f
    have m:a.tmps[g]?=some (.bool k):=by
     by_cases i:g<a.tmps.size
     .have:a.tmps.getD g undef=a.tmps[g]:=by simp[Array.getD,i]
      rw[this]at d;rw[AA4 i,d]
     have:a.tmps.getD g undef=undef:=by simp[Array.getD,i]
     rw[this]at d;cases d
    simp only[Region.wanted,e,yielded,n,Option.bind_some,m];cases k<;>cases p<;>rfl
   cases h
theorem Mt {σ:St} {a:Act} {w:World} (b:c.Ok) (hs:c.sat σ a w) {dst:Option Nat} (hd:∀d,dst=some d->d<c.nt):c.sat (σ.add (.raw undef) [] dst) (a.put dst undef) w:=by
 obtain⟨ρ,hs⟩:=hs;exact⟨ρ,hs.add b.K b.O hd (by simp[Bg]) (QS.still rfl)⟩
def H8 (nt:Nat) (o:Oper):Bool :=
 match o.dst with
 | some d=>decide (d<nt)
 | none=>true
theorem CX {nt:Nat} {o:Oper} (h:H8 nt o=true):∀d,o.dst=some d->d<nt:=by grind [H8]
theorem RH (d:c.Ok) {ops:Array Oper} {Q:Exit->Act->World->Prop} {r:List Oper}:∀(l:List Oper) {σ σ':St} {vc:Prop} {a:Act} {w:World},c.sat σ a w->(∀o∈l,H8 c.nt o=true)->B1 c.tb ops.toList l σ=some (vc,σ')->vc ->
  (∀f w',c.sat σ' f w'->wpListIn (FR c.r) 0 c.P ops Q r f w')->wpListIn (FR c.r) 0 c.P ops Q (l++r) a w
 | [],σ,σ',vc,a,w,hs,hd,h,e,g=>by grind [B1]
 | o :: l,σ,σ',vc,a,w,hs,hd,h,e,g=>by
  simp only[B1]at h;cases i:FF ops.toList σ o.guard with
  | none=>rw[i]at h;simp[evG]at h
  | some b =>
   rw[i]at h;have q:=HZ hs i;have p:=CX (hd o sc);rw[AAo];unfold wpListIn;cases b with
   | true =>
    simp only[evG]at h;rw[DO q];cases m:Ip c.tb o σ with
    | none=>rw[m]at h;simp[evK]at h
    | some r =>
     obtain⟨v,u⟩:=r;rw[m]at h;simp only[evK]at h;cases k:B1 c.tb ops.toList l u with
     | none=>rw[k]at h;simp[YK]at h
     | some t =>
      obtain⟨x,σ2⟩:=t;rw[k]at h;simp only[YK]at h;cases h;exact Ve d hs m e.1 p λf w' s=>RH d l s (λn j=>hd n (by simp[j])) k e.2 g
   | false =>
    simp only[evG]at h;rw[BY (by simp[q])];refine⟨λ_ _=>trivial,?_⟩;exact RH d l (Mt d hs p) (λn j=>hd n (by simp[j])) h e g
theorem Pk (e:c.Ok) {ops:Array Oper} {Q:Exit->Act->World->Prop}:∀(l:List Oper) {σ σ':St} {vc:Prop} {a:Act} {w:World},c.sat σ a w->(∀o∈l,H8 c.nt o=true)->B1 c.tb ops.toList l σ=some (vc,σ')->vc ->
  (∀g w',c.sat σ' g w'->Q .normal g w')->wpListIn (FR c.r) 0 c.P ops Q l a w
 | [],σ,σ',vc,a,w,hs,hd,h,f,d=>by
  simp only[B1]at h;cases h;exact d _ _ hs
 | o :: l,σ,σ',vc,a,w,hs,hd,h,f,d=>by
  simp only[B1]at h;cases i:FF ops.toList σ o.guard with
  | none=>rw[i]at h;simp[evG]at h
  | some b =>
   rw[i]at h;have q:=HZ hs i;have p:=CX (hd o sc);unfold wpListIn;cases b with
   | true =>
    simp only[evG]at h;rw[DO q];cases m:Ip c.tb o σ with
    | none=>rw[m]at h;simp[evK]at h
    | some r =>
     obtain⟨v,u⟩:=r;rw[m]at h;simp only[evK]at h;cases k:B1 c.tb ops.toList l u with
     | none=>rw[k]at h;simp[YK]at h
     | some t =>
      obtain⟨x,σ2⟩:=t;rw[k]at h;simp only[YK]at h;cases h;exact Ve e hs m f.1 p λg w' s=>Pk e l s (λn j=>hd n (by simp[j])) k f.2 d
   | false =>
    simp only[evG]at h;rw[BY (by simp[q])];refine⟨λ_ _=>trivial,?_⟩;exact Pk e l (Mt e hs p) (λn j=>hd n (by simp[j])) h f d
end
end
section
open Go Go.RowKit
inductive DD where
 | seq (c:Code)
 | blk (id:Nat)
 
 | inv (post:St->Prop)
def Bh (nt:Nat):Code->Bool
 | .region _ ops _=>ops.toList.all (H8 nt)
 | .seq a b=>Bh nt a&&Bh nt b
 | .cond _ a b=>Bh nt a&&Bh nt b
 | .block _ b=>Bh nt b
 | .loop b=>Bh nt b
 | .scope b=>Bh nt b
 | _=>true
def Ct (nt:Nat):List DD->Bool
 | []=>true
 | .seq c :: k=>Bh nt c&&Ct nt k
 | _ :: k=>Ct nt k
def UX (c:Cx) (R:Exit->Act->World->Prop):List DD->Exit->Act->World->Prop
 | [],e,a,w=>R e a w
 | .seq y :: k,.normal,a,w=>y.wpIn (FR c.r) 0 c.P (UX c R k) a w
 | .seq _ :: k,e,a,w=>UX c R k e a w
 | .blk id :: k,.exit b,a,w=>if b=id then UX c R k .normal a w else UX c R k (.exit b) a w
 | .blk _ :: k,e,a,w=>UX c R k e a w
 | .inv post :: _,.normal,a,w=>∃σ,c.sat σ a w/\post σ
 | .inv _ :: k,e,a,w=>UX c R k e a w
inductive rE where
 | run (cd:Code)
 | out (e:Exit)
def nwp (c:Cx) (R:Exit->Act->World->Prop) (k:List DD):rE->Act->World->Prop
 | .run cd,a,w=>cd.wpIn (FR c.r) 0 c.P (UX c R k) a w
 | .out e,a,w=>UX c R k e a w
def HO (nt:Nat):rE->Bool
 | .run cd=>Bh nt cd
 | .out _=>true
def Ev (c:Cx) (R:Exit->Act->World->Prop) (n:rE) (k:List DD) (σ:St):Prop :=
 HO c.nt n=true->Ct c.nt k=true->∀a w,c.sat σ a w->nwp c R k n a w
theorem UA {F:Fence} {j:Nat} {P:Program} {Q:Exit->Act->World->Prop} {a:Act} {w:World} {c:Code} (b:Nat->Act->World->Prop) (i:Nat) (o:b i a w)
  (round:∀n a w,b n a w->c.wpIn F j P (Exit.then (λg w'=>∃f,f<n/\b f g w') Q) a w):(Code.loop c).wpIn F j P Q a w:=by
 refine wpIn_loop (λa w=>∃n,b n a w) (λa w=>leastOf (λn=>b n a w)) ⟨i,o⟩ ?_;intro a w k;refine ACc (round _ a w (leastOf_spec k).1) ?_;intro e g w' d;cases e with
 | normal =>
  obtain⟨f,m,h⟩:=d;exact show (∃n,b n g w')/\leastOf (λn=>b n g w')<leastOf (λn=>b n a w) from ⟨⟨f,h⟩,ABN ((leastOf_spec ⟨f,h⟩).2 f h) m⟩
 | exit id=>exact d
 | goto l=>exact d
 | ret=>exact d
 | panic ch=>exact d
 | outgrown=>exact d
def Ent (c:Cx) (σ σ':St):Prop:=∀a w,c.sat σ a w->c.sat σ' a w
section
variable {c:Cx} {R:Exit->Act->World->Prop} {k:List DD} {σ σ':St}
theorem Ev.ent {n:rE} (h:Ev c R n k σ') (d:Ent c σ σ'):Ev c R n k σ:=λh1 b a w hs=>h h1 b a w (d a w hs)
theorem A6U {x y:Code} (h:Ev c R (.run x) (.seq y :: k) σ):Ev c R (.run (.seq x y)) k σ:=by
 intro h1 b a w hs;simp only[HO,Bh,An]at h1;refine wpIn_seq (ACc (h h1.1 (by simp[Ct,h1.2,b]) a w hs) ?_);intro e f w' d;cases e<;>exact d
theorem A4p (h:Ev c R (.out .normal) k σ):Ev c R (.run .skip) k σ:=λ_ b a w hs=>wpIn_skip (h rfl b a w hs)
theorem A6V (h:Ev c R (.out .ret) k σ):Ev c R (.run .ret) k σ:=λ_ b a w hs=>wpIn_ret (h rfl b a w hs)
theorem A4q {id:Nat} (h:Ev c R (.out (.exit id)) k σ):Ev c R (.run (.exit id)) k σ:=λ_ b a w hs=>wpIn_exit (h rfl b a w hs)
theorem A0d {id:Nat} {b:Code} (h:Ev c R (.run b) (.blk id :: k) σ):Ev c R (.run (.block id b)) k σ:=by
 intro h1 d a w hs;refine wpIn_block (ACc (h (by simpa[HO,Bh] using h1) (by simpa[Ct] using d) a w hs) ?_);intro e g w' f;cases e<;>exact f
def EvR (c:Cx) (R:Exit->Act->World->Prop) (k:List DD):Cz->Prop
 | some (vc,σ)=>vc/\Ev c R (.out .normal) k σ
 | none=>False
theorem vZ (f:c.Ok) {id:Nat} {ops:Array Oper} (h:EvR c R k (B1 c.tb ops.toList ops.toList σ)):Ev c R (.run (.region id ops false)) k σ:=by
 intro h1 e a w hs;cases b:B1 c.tb ops.toList ops.toList σ with
 | none=>rw[b]at h;exact h.elim
 | some r =>
  obtain⟨vc,σ'⟩:=r;rw[b]at h;simp only[HO,Bh,NO]at h1;exact ABr (Pk f ops.toList hs h1 b h.1 λd w' g=>h.2 rfl e d w' g)
def EvC (c:Cx) (R:Exit->Act->World->Prop) (x y:Code) (k:List DD) (σ:St):Option AV->Prop
 | some (.p .bool b)=>(b=true->Ev c R (.run x) k σ)/\(b=false->Ev c R (.run y) k σ)
 | _=>False
theorem A4r {o:Operand} {x y:Code} (h:EvC c R x y k σ (Aq σ o)):Ev c R (.run (.cond o x y)) k σ:=by
 intro h1 f a w hs;simp only[HO,Bh,An]at h1;obtain⟨ρ,e⟩:=hs;have i:=Fs e.env;cases d:Aq σ o with
 | none=>rw[d]at h;exact h.elim
 | some v =>
  have j:=i o v d;rw[d]at h;unfold EvC at h;split at h
  .rename_i b g;cases g;have hb:=ED j;exact wpIn_cond_split hb (λhb=>h.1 hb h1.1 f a w ⟨ρ,e⟩) (λhb=>h.2 hb h1.2 f a w ⟨ρ,e⟩)
  exact h.elim
theorem Vf {y:Code} (h:Ev c R (.run y) k σ):Ev c R (.out .normal) (.seq y :: k) σ:=by
 intro _ b a w hs;simp only[Ct,An]at b;exact h b.1 b.2 a w hs
theorem fF {id:Nat} {y:Code} (h:Ev c R (.out (.exit id)) k σ):Ev c R (.out (.exit id)) (.seq y :: k) σ:=by
 intro _ b a w hs;simp only[Ct,An]at b;exact h rfl b.2 a w hs
theorem l9 {y:Code} (h:Ev c R (.out .ret) k σ):Ev c R (.out .ret) (.seq y :: k) σ:=by
 intro _ b a w hs;simp only[Ct,An]at b;exact h rfl b.2 a w hs
theorem mA {id:Nat} (h:Ev c R (.out .normal) k σ):Ev c R (.out .normal) (.blk id :: k) σ:=λ_ b a w hs=>h rfl (by simpa[Ct] using b) a w hs
theorem S9 {id b:Nat} (h:if b=id then Ev c R (.out .normal) k σ else Ev c R (.out (.exit b)) k σ):Ev c R (.out (.exit b)) (.blk id :: k) σ:=by
 intro _ d a w hs;have d:Ct c.nt k=true:=by simpa[Ct] using d
 show (if b=id then UX c R k .normal a w else UX c R k (.exit b) a w);split at h
 .rename_i e;rw[DO e];exact h rfl d a w hs
 rename_i e;rw[BY e];exact h rfl d a w hs
theorem mB {id:Nat} (h:Ev c R (.out .ret) k σ):Ev c R (.out .ret) (.blk id :: k) σ:=λ_ b a w hs=>h rfl (by simpa[Ct] using b) a w hs
theorem AC {post:St->Prop} (h:post σ):Ev c R (.out .normal) (.inv post :: k) σ:=λ_ _ _ _ hs=>⟨σ,hs,h⟩
theorem fG {id:Nat} {post:St->Prop} (h:Ev c R (.out (.exit id)) k σ):Ev c R (.out (.exit id)) (.inv post :: k) σ:=λ_ b a w hs=>h rfl (by simpa[Ct] using b) a w hs
theorem mC {post:St->Prop} (h:Ev c R (.out .ret) k σ):Ev c R (.out .ret) (.inv post :: k) σ:=λ_ b a w hs=>h rfl (by simpa[Ct] using b) a w hs
def A8q (c:Cx) {ι:Type} (I:ι->St) (μ:ι->Nat) (i:ι) (σ:St):Prop:=∃j,μ j<μ i/\Ent c σ (I j)
theorem AL {ι:Type} (d:ι->St) (f:ι->Nat) (g:ι) {b:Code} (h0:Ent c σ (d g)) (hb:∀i,Ev c R (.run b) (.inv (A8q c d f i) :: k) (d i)):Ev c R (.run (.loop b)) k σ:=by
 intro h1 m a w hs;have h1:Bh c.nt b=true:=by simpa[HO,Bh] using h1
 refine UA (λn a w=>∃i,f i=n/\c.sat (d i) a w) (f g) ⟨g,rfl,h0 a w hs⟩ ?_;rintro n a w ⟨i,rfl,hs⟩;refine ACc (hb i h1 (by simpa[Ct] using m) a w hs) ?_;intro e l w' h;cases e with
 | normal =>
  obtain⟨σ',q,j,p,o⟩:=h;exact⟨f j,p,j,rfl,o l w' q⟩
 | _=>exact h
theorem A4s {ι:Type} (b:ι->St) {x y:Code} (h:Ev c R (.run x) (.inv (fun σ'=>∃i,Ent c σ' (b i)) :: .seq y :: k) σ) (hy:∀i,Ev c R (.run y) k (b i)):Ev c R (.run (.seq x y)) k σ:=by
 intro h1 f a w hs;simp only[HO,Bh,An]at h1;refine wpIn_seq (ACc (h h1.1 (by simp[Ct,h1.2,f]) a w hs) ?_);intro e d w' g;cases e with
 | normal =>
  obtain⟨σ',l,i,j⟩:=g;exact hy i h1.2 f d w' (j d w' l)
 | _=>exact g
end
end
section
open Go Go.RowKit
def AN:Nat->(ts:List Ty)->KI ts->List (Nat×AV)
 | _,[],_=>[]
 | s,t :: ts,d=>(s,.p t d.1) :: AN (s+1) ts d.2
def KY (σ:St) (ty:Ty):Option AV->Option AV
 | some (.bp n a off)=>match Eu ty a off (lk n σ.objs) with
  | some (_,v,_)=>some v
  | none=>none
 | _=>none
def KZ (tb:Tb) (σ:St):ResultVar->Option AV
 | .tmp t=>lk t σ.env
 | .cell a t=>match lk t tb.ty with
  | some ti=>KY σ ti.ty (lk a σ.env)
  | none=>none
def Mu:Option AV->List Nat
 | some v=>v.names
 | none=>[]
def JJ (σ:St) (t:Ty):Option AV->Option t.den
 | some v=>NR false σ t v
 | none=>none
def Jk (σ:St) (et:TypeId) (e:Ty):Option Obj->Option (List e.den)
 | some (.arr b a xs)=>if b=et then BQ (.slice e) ⟨.slice a,xs⟩ else none
 | _=>none
def Nf (tb:Tb) (σ:St) (rv:ResultVar):RV->Prop
 | .p t d=>JJ (DN (Mu (KZ tb σ rv)) σ) t (KZ tb (DN (Mu (KZ tb σ rv)) σ) rv)=some d
 | .own et e xs=>match KZ tb σ rv with
  | some (.sr n a 0 hi)=>a=e/\Jk σ et e (lk n σ.objs)=some xs/\hi=xs.length
  | _=>False
def Ng (tb:Tb) (σ:St):List ResultVar->List RV->Prop
 | [],[]=>True
 | [rv],[r]=>Nf tb σ rv r
 | rv :: b,.p t d :: a=>Nf tb σ rv (.p t d)/\Ng tb σ b a
 | _,_=>False
section
variable {P:Program} {tb:Tb} {w0:World} {O0:Nat->Prop} {nt:Nat} {ds:Fp}
def cx (P:Program) (tb:Tb) (w0:World) (O0:Nat->Prop) (nt:Nat):Cx:={ P:=P,tb:=tb,w0:=w0,K:=λb=>b<w0.heap.size,O0:=O0,nt:=nt }
theorem Yn:∀(ts:List Ty) (a:List Value) (ds:KI ts) (k:Nat) (w:World) (O:Nat->Prop),Pc w O ts a ds->∀s v,lk s (AN k ts ds)=some v->k<=s/\∃u,a[s-k]?=some u/\∃t d,v=.p t d/\BV w O t u d
 | [],a,ds,k,w,O,h,s,v,hs=>by simp[AN,lk]at hs
 | t :: ts,a,ds,k,w,O,h,s,v,hs=>by
  obtain⟨u,r,rfl,h1,b⟩:=h;simp only[AN,lk]at hs;split at hs
  .grind
  obtain⟨c,g,e,f⟩:=Yn ts r ds.2 (k+1) w O b s v hs;grind
theorem TA:∀ {ts:List Ty} {a:List Value} {ds:KI ts} {w:World} {O:Nat->Prop},Pc w O ts a ds->a.length=ts.length
 | [],a,ds,w,O,h=>by have h:a=[]:=h;subst h;rfl
 | t :: ts,a,ds,w,O,h=>by
  obtain⟨u,r,rfl,h1,b⟩:=h;simp[TA b]
theorem v7 {ts:List Ty} {a:List Value} {ds:KI ts} (h:Pc w0 O0 ts a ds) (k:a.length<=nt) :
  (cx P tb w0 O0 nt).sat ⟨AN 0 ts ds,[]⟩ { tmps:=a.toArray++Array.replicate (nt-a.toArray.size) undef,defers:=[] } w0:=by
 refine⟨λ_=>undef,⟨rfl,rfl,rfl,No _,λ_ _=>rfl⟩,by simp[cx];omega,rfl,(λp j=>by simp[cx]at j),λn o h=>by simp[lk]at h,λn b ⟨o,h⟩=>by simp[lk]at h,λn m b ⟨o,h⟩=>by simp[lk]at h,λs v hs=>?_⟩;obtain⟨_,u,h1,t,d,rfl,e⟩:=Yn ts a ds 0 w0 O0 h s v hs;have c:s<a.length:=by grind
 have g:(a.toArray++Array.replicate (nt-a.toArray.size) undef).getD s undef=u:=by
  have h1:a[s]?=some u:=by simpa using h1
  have:a[s]=u:=by rw[AT c]at h1;injection h1
  simp[Array.getElem?_append,c,this]
 rw[g];refine BV.mono (λb _ hb f=>?_) (λ_ _ _=>rfl) e;rcases f with h0|⟨n,⟨o,i⟩,_⟩
 .exact hb h0
 simp[lk]at i
def Jl (tmps:Array Value):ResultVar->Sem Value
 | .tmp t=>pure (tmps.getD t undef)
 | .cell a t=>do loadVar t (<-asAddr (tmps.getD a undef))
theorem OP (fn:Func) (tmps:Array Value):results fn tmps=(do let a <-fn.results.mapM (Jl tmps);pure (if h:a.size=1 then a[0] else .tuple a)):=by
 unfold results
 congr 1
theorem UY (hT:DC P tb) {K:Nat->Prop} {σ:St} {ρ:Nat->Value} {a:Act} {w:World} (hs:CA w0 K O0 nt ds σ ρ a w) {rv:ResultVar} {v:AV} (h:KZ tb σ rv=some v) :
  ∃u,(Jl a.tmps rv).run P w=.ok u w/\B2 (vw w O0 σ ρ) v u:=by
 cases rv with
 | tmp t =>
  simp only[KZ]at h;exact⟨_,by simp[Jl],hs.env t v h⟩
 | cell x t =>
  simp only[KZ]at h;cases ht:lk t tb.ty with
  | none=>rw[ht]at h;simp at h
  | some ti =>
   rw[ht]at h;simp only at h;cases hx:lk x σ.env with
   | none=>rw[hx]at h;simp[KY]at h
   | some xv =>
    rw[hx]at h;unfold KY at h;split at h
    .rename_i n j off f;cases f;have d:=hs.env x _ hx;split at h
     .rename_i vc l obs g;cases h;have i:K8 σ (some ti) (some (.bp n j off))=some (vc,v,obs):=g;obtain⟨_,u,h1,e⟩:=z4 (hT _ _ ht) hs.objs i d;obtain⟨k,b,_,c⟩:=d;rw[c]at h1;have c:a.tmps.getD x undef=.pointer (some ⟨b,off,none⟩):=c;refine⟨u,?_,e⟩;simp only[Instr.loadAt,Instr.sureAddr,AAm,ABa,tO]at h1;simp only[Jl,c,asAddr,AAm,ABa,tO,h1]
     cases h
    cases h
theorem A4t (hT:DC P tb) {K:Nat->Prop} {σ:St} {ρ:Nat->Value} {a:Act} {w:World} (hs:CA w0 K O0 nt ds σ ρ a w) {rv:ResultVar} {t:Ty} {d:t.den} (h:Nf tb σ rv (.p t d)) :
  ∃u,(Jl a.tmps rv).run P w=.ok u w/\BV w O0 t u d:=by
 unfold Nf at h;have e:=KX (l:=Mu (KZ tb σ rv)) hs;generalize DN (Mu (KZ tb σ rv)) σ=f at h e;cases c:KZ tb f rv with
 | none=>rw[c]at h;simp[JJ]at h
 | some v =>
  rw[c]at h;simp only[JJ]at h;obtain⟨u,h1,g⟩:=UY hT e c;have i:=LB (V:=vw w O0 f ρ) (O':=O0) (λb hb j=>hb (.inl j)) (λh=>by cases h) e.objs h g;exact⟨u,h1,i⟩
theorem A0e (hT:DC P tb) {K:Nat->Prop} {σ:St} {ρ:Nat->Value} {a:Act} {w:World} (hs:CA w0 K O0 nt ds σ ρ a w):∀ {f:List ResultVar} {c:List RV},(∀r∈c,∃t d,r=.p t d)->Ng tb σ f c ->
  ∃e:List Value,(f.mapM (Jl a.tmps)).run P w=.ok e w/\e.length=c.length /\
   ∀nm V,V.w=w->(∀b,V.O b->O0 b)->H5 V (Im nm c) e
 | [],[],_,_=>⟨[],by simp,rfl,λ_ _ _ _=>rfl⟩
 | [],_ :: _,_,h=>by simp[Ng]at h
 | _ :: _,[],_,h=>by simp[Ng]at h
 | rv :: f,r :: c,i,h=>by
  obtain⟨t,d,rfl⟩:=i r sc;have g:Nf tb σ rv (.p t d)/\Ng tb σ f c:=by
   cases f with
   | nil =>
    cases c with
    | nil=>exact⟨h,trivial⟩
    | cons s v=>exact⟨h.1,h.2⟩
   | cons x y=>exact⟨h.1,h.2⟩
  obtain⟨u,h1,o⟩:=A4t hT hs g.1;obtain⟨e,q,j,k⟩:=A0e hT hs (λr m=>i r (by simp[m])) g.2;refine⟨u :: e,?_,by simp[j],λnm V n l=>⟨u,e,rfl,?_,k _ V n l⟩⟩
  .simp_all
  show BV V.w V.O t u d;grind [BV.mono]
def Vg (P:Program) (fn:Func) (w0:World) (O0:Nat->Prop) (outs:List RV):Exit->Act->World->Prop :=
 bodyPost P fn λe w'=>∃u,e=.returned u/\A03 w0 O0 outs u w'
theorem A0f (s:(cx P tb w0 O0 nt).Ok) {fn:Func} {outs:List RV} {σ:St} {e:Exit} (x:e=.ret\/e=.normal) (i:∀r∈outs,∃t d,r=.p t d) (h:Ng tb σ fn.results.toList outs) :
  Ev (cx P tb w0 O0 nt) (Vg P fn w0 O0 outs) (.out e) [] σ:=by
 intro _ _ a w hs;obtain⟨ρ,hs⟩:=hs;obtain⟨f,h1,g,m⟩:=A0e s.T hs i h;have h1:(fn.results.toList.mapM (Jl a.tmps)).run P w=.ok f w:=h1;have q:Below w0.heap.size w0 w:=⟨hs.frm.os,hs.frm.tape,hs.frm.output,hs.frm.size,hs.frm.block⟩;have C:∃v,(results fn a.tmps).run P w=.ok v w/\A03 w0 O0 outs v w:=by
  have z:(fn.results.mapM (Jl a.tmps)).run P w=.ok f.toArray w:=by
   rw[AB2]
   simp_all
  refine⟨if h:f.toArray.size=1 then f.toArray[0] else .tuple f.toArray,?_,λnm=>⟨λ_=>undef,?_⟩⟩
  .rw[OP];simp only[AAm,z,tO,ABa]
  have y:DB nm outs=[]:=by
   clear h h1 g m;induction outs generalizing nm with
   | nil=>rfl
   | cons r E D =>
    obtain⟨t,d,rfl⟩:=i r sc;simp only[DB,VK,AAl];exact D (λr B=>i r (by simp[B])) (nm+10000)
  rw[y];refine⟨q,λ_ _=>rfl,?_,(λ_ _ h=>by cases h),(λ_ _ _ h=>by cases h),(λ_ _ _ _ _ h=>by cases h)⟩;have c:=m nm (vw w O0 (EJ ⟨[],[]⟩ []) (λ_=>undef)) rfl (λb hb=>by
   rcases hb with h0|⟨n,⟨o,A⟩,_⟩
   .exact h0
   simp[EJ,lk]at A)
  match outs,i,f,g,c with
  | [],_,f,g,c =>
   have c:f=[]:=c;subst c;exact(rfl:_=_)
  | [r],i,f,g,c =>
   obtain⟨u,l,rfl,j,k⟩:=c;have k:l=[]:=k;subst k;simp only[Hy];exact zS j
  | F :: G :: E,i,f,g,c =>
   have:¬f.toArray.size=1:=by simp at g ⊢;omega
   rw[dif_neg this];exact⟨f,rfl,c⟩
 obtain⟨v,c,j⟩:=C;rcases x with rfl|rfl
 .exact⟨hs.defers,v,c,v,rfl,j⟩
 exact⟨hs.defers,v,c,v,rfl,j⟩
end
end
section
open Go Go.RowKit
def Ty.ok:(t:Ty)->t.den->Prop
 | .int k,d=>KG k d
 | .bool,_=>True
 | .str,d=>ByteArray.size d<=AP
 | .slice e,d=>List.length d<=AP/\∀x∈(d:List e.den),e.ok x
 | .prod a b,d=>a.ok d.1/\b.ok d.2
 | .agg t,d=>t.ok d
 | .ref _,_=>True
theorem H9 {w:World} {O:Nat->Prop}:∀ {t:Ty} {cs:List Value} {d:t.den},Bx w O t cs d->t.ok d
 | .int _,_,_,h=>h.2
 | .bool,_,_,_=>trivial
 | .str,_,_,h=>h.2
 | .ref _,_,_,_=>trivial
 | .slice e,_,d,h=>by
  obtain⟨a,c,_,_,f,g⟩:=h;refine⟨f,λx hx=>?_⟩;rcases g with g|⟨ad,_,_,j⟩
  .subst g;simp at hx
  obtain⟨i,hi,rfl⟩:=AAi.1 hx;obtain⟨l,_,_,k⟩:=j i _ (AT hi);exact H9 k
 | .prod a b,_,_,h=>by
  obtain⟨c1,c2,_,h1,f⟩:=h;exact⟨H9 h1,H9 f⟩
 | .agg t,cs,d,h=>by
  have h:Bx w O t cs d:=h;exact(H9 h:t.ok d)
def oks:(ts:List Ty)->KI ts->Prop
 | [],_=>True
 | t :: ts,d=>t.ok d.1/\oks ts d.2
theorem rF {w:World} {O:Nat->Prop}:∀ {ts:List Ty} {a:List Value} {ds:KI ts},Pc w O ts a ds->oks ts ds
 | [],_,_,_=>trivial
 | t :: ts,a,ds,h=>by
  obtain⟨v,r,rfl,⟨cs,h1,_⟩,b⟩:=h;exact⟨H9 h1,rF b⟩
section
variable {P:Program} {tb:Tb} {w0:World} {O0:Nat->Prop} {nt:Nat}
theorem A6b {f : FuncId} {fn : Func} {cd : Code} {sp : Ab} (d : P.funcs[f]? = some fn) (i : (fn.name == "runtime.NumGoroutine") = false) (c : fn.body = some cd) (j : fn.ntmps = nt) (l : sp.ins.length <= nt)
  (g:Bh nt cd=true) (hT:DC P tb) (hF:Iq P tb)
  (h:∀(w0:World) (O0:Nat->Prop) (ds:KI sp.ins),(cx P tb w0 O0 nt).Ok->oks sp.ins ds->sp.pre ds->Ev (cx P tb w0 O0 nt) (Vg P fn w0 O0 (sp.out ds)) (.run cd) [] ⟨AN 0 sp.ins ds,[]⟩):Ag P f sp:=by
 refine⟨⟨fn,d,i,by simp[c]⟩,λw O o ds e a k=>?_⟩;refine calls_of_wp d c ((wpIn_wide (n:=0)).1 ?_);have m:=TA a;rw[j];exact h w O ds ⟨λb hb=>hb,e,hT,hF⟩ (rF a) k g rfl _ _ (v7 a oa)
theorem mD (K:(cx P tb w0 O0 nt).Ok) {fn:Func} {et:TypeId} {e:Ty} {xs:List e.den} {σ:St} {ex:Exit} (f:ex=.ret\/ex=.normal) {rv:ResultVar} (O:fn.results=#[rv]) (h:Nf tb σ rv (.own et e xs)) :
  Ev (cx P tb w0 O0 nt) (Vg P fn w0 O0 [.own et e xs]) (.out ex) [] σ:=by
 intro _ _ a w hs;obtain⟨ρ,hs⟩:=hs;have J:Below w0.heap.size w0 w:=⟨hs.frm.os,hs.frm.tape,hs.frm.output,hs.frm.size,hs.frm.block⟩;unfold Nf at h;simp only at h;split at h
 .rename_i n W hi Q;obtain⟨rfl,c,rfl⟩:=h;cases hn:lk n σ.objs with
  | none=>rw[hn]at c;simp[Jk]at c
  | some o =>
   rw[hn]at c;cases o with
   | box d st fs=>simp[Jk]at c
   | mapo k v l=>simp[Jk]at c
   | frame ai fs=>simp[Jk]at c
   | loop L=>simp[Jk]at c
   | itr ae ah af ag ab=>simp[Jk]at c
   | dfr=>simp[Jk]at c
   | nest X ad k e2 ys hl=>simp[Jk]at c
   | arr d e2 ys =>
    simp only[Jk]at c;split at c
    .rename_i N;subst N;obtain⟨rfl,F⟩:=Bk c;cases F;obtain⟨u,hu,H⟩:=UY (P:=P) K.T hs Q;obtain⟨Y,s⟩:=H;have z:=hs.objs n _ hn;have j:u=ρ n:=by
      obtain⟨S,m,c0,r,_,Z,R,U,rfl,_,h0,_⟩:=s;have r:plc (ρ n)=_:=r;obtain⟨rfl,rfl⟩:=h0 rfl;obtain⟨_,cells,q,_⟩:=z;have q:w.ownsRow 0 d e2.size (ρ n) ys.length cells:=q;rw[HW q]at r;have p:m=ys.length:=by
       rcases q.2 with ⟨f,aa⟩|⟨g,cap,V,f,_⟩
       .rw[r]at f;injection f;omega
       rw[r]at f;injection f
      rw[r,p,Nat.sub_zero]
     have A:(results fn a.tmps).run P w=.ok u w:=by
      rw[OP,O];have:((#[rv]:Array ResultVar).mapM (Jl a.tmps)).run P w=.ok #[u] w:=by
       rw[AB2];simp[hu]
      simp only[AAm,this,tO,ABa];rfl
     have t:A03 w0 O0 [.own d e2 ys] u w:=by
      intro nm;have y:∀m,Gz (EJ ⟨[],[]⟩ [(nm,.arr d e2 ys)]) m↔m=nm:=by
       intro m;simp[Gz,EJ,lk]
      have hk:∀b,¬own O0 σ ρ b->¬own O0 (EJ ⟨[],[]⟩ [(nm,.arr d e2 ys)]) (Ex (λ_=>undef) nm u) b:=by
       intro b hb I;rcases I with h0|⟨m,hl,p⟩
       .exact hb (.inl h0)
       rw[(y m).1 hl,Bq,j]at p;exact hb (.inr ⟨n,⟨_,hn⟩,p⟩)
      have G:DB nm [RV.own d e2 ys]=[(nm,.arr d e2 ys)]:=rfl;rw[G];refine⟨Ex (λ_=>undef) nm u,QS.one (loc:=u) J (λb hb=>?_) ?_ ?_⟩
      .rw[j]at hb;have:=(hs.free n b ⟨_,hn⟩ hb).1;simp only[cx]at this;omega
      .refine⟨(y nm).2 rfl,?_⟩;show DP (plc (Ex (λ_=>undef) nm u nm)) _ _ _ u;rw[Bq,j];rw[j]at s;exact s
      rw[j];obtain⟨p,cells,q,M⟩:=z;refine⟨p,cells,q,λi x hi=>?_⟩;obtain⟨B,C,D,E⟩:=M i x hi;rw[j]at hk;exact⟨B,C,D,E.mono (λb _ hb=>hk b hb) (λ_ _ _=>rfl)⟩
     rcases f with rfl|rfl
     .exact⟨hs.defers,u,A,u,rfl,t⟩
     exact⟨hs.defers,u,A,u,rfl,t⟩
    cases c
 exact h.elim
end
end
section
open Go Go.RowKit
section
variable {P:Program} {tb:Tb} {w0:World} {O0:Nat->Prop} {nt:Nat} {R:Exit->Act->World->Prop} {k:List DD} {σ σ':St}
theorem rG:(cx P tb w0 O0 nt).tb=tb:=rfl
theorem mE {c:Cx} (a:c.Ok) {id:Nat} {l:List Oper} {vc:Prop} (h:B1 c.tb l l σ=some (vc,σ')) (b:vc) (hk:Ev c R (.out .normal) k σ') :
  Ev c R (.run (.region id l.toArray false)) k σ:=vZ a (by
 show EvR _ _ _ (B1 c.tb l l σ);rw[h];exact⟨b,hk⟩)
theorem Vh {c:Cx} {o:Operand} {x y:Code} {b:Bool} (h:Aq σ o=some (.p .bool b)) (ht:b=true->Ev c R (.run x) k σ) (hf:b=false->Ev c R (.run y) k σ):Ev c R (.run (.cond o x y)) k σ :=
 A4r (by rw[h];exact⟨ht,hf⟩)
theorem mF {c:Cx} {id:Nat} (h:Ev c R (.out .normal) k σ):Ev c R (.out (.exit id)) (.blk id :: k) σ:=S9 (by rw[DO rfl];exact h)
theorem mG {c:Cx} {id a:Nat} (b:a≠id) (h:Ev c R (.out (.exit a)) k σ):Ev c R (.out (.exit a)) (.blk id :: k) σ:=S9 (by rw[BY b];exact h)
end
inductive B0 where
 | nm (n:Nat)
 | nil
def ET (ren:List (Nat×B0)):AV->AV->Prop
 | .p t d,.p u a=>BQ u ⟨t,d⟩=some a
 | .raw (.slice none 0 0),.p (.slice e) a=>(a:List e.den)=[]
 | .raw v,.raw u=>v=u
 | .raw (.slice none 0 0),.sr m _ lo hi=>lk m ren=some .nil/\lo=0/\hi=0
 | .sr n e lo hi,.sr m b h c=>lk m ren=some (.nm n)/\e=b/\lo=h/\hi=c
 | .ip t d,.ip u a=>BQ u ⟨t,d⟩=some a
 | .bp n p o,.bp m k j=>lk m ren=some (.nm n)/\p=k/\o=j
 | .fn f,.fn g=>f=g
 | .clo f ns,.clo g i=>f=g/\i.map (λm=>lk m ren)=ns.map λn=>some (.nm n)
 | .mp n,.mp m=>lk m ren=some (.nm n)
 | .yl n,.yl m=>lk m ren=some (.nm n)
 | _,.top=>True
 | _,_=>False
def Fu (ren:List (Nat×B0)):List AV->List AV->Prop
 | [],[]=>True
 | x :: l,y :: r=>(x.cells=y.cells/\ET ren x y)/\Fu ren l r
 | _,_=>False
def JK (ren:List (Nat×B0)):AV->AV->Prop
 | .ag l,.ag r=>Fu ren l r
 | x,y=>ET ren x y
def Ka (ren:List (Nat×B0)):List AV->List AV->Prop
 | [],[]=>True
 | x :: l,y :: r=>JK ren x y/\Ka ren l r
 | _,_=>False
def Bz (ren:List (Nat×B0)):AV->AV->Prop
 | .tup l,.tup r=>Ka ren l r
 | x,y=>JK ren x y
def Lo (ren:List (Nat×B0)):Option AV->AV->Prop
 | some x,y=>Bz ren x y
 | none,.top=>True
 | none,_=>False
def Fv (env:List (Nat×AV)) (ren:List (Nat×B0)):List (Nat×AV)->Prop
 | []=>True
 | (s,y) :: r=>Lo ren (lk s env) y/\Fv env ren r
def JL (ren:List (Nat×B0)):Option Obj->Obj->Prop
 | some (.arr et e xs),.arr a c ys=>et=a/\BQ (.slice c) ⟨.slice e,xs⟩=some ys
 | some (.box et st fs),.box a q d=>et=a/\st=q/\Fu ren fs d
 | some (.nest et n k e xs h),.nest a o b c ys m=>(et=a/\n=o/\h=m)/\BQ (.slice (.prod b (.slice c))) ⟨.slice (.prod k (.slice e)),xs⟩=some ys
 | some (.mapo k v l),.mapo b f l'=>BQ (.slice (.prod b f)) ⟨.slice (.prod k v),l⟩=some l'
 | some (.frame r fs),.frame s d=>r=s/\Fv fs ren d
 | some (.itr k v l lf i),.itr b f l' p j=>BQ (.slice (.prod b f)) ⟨.slice (.prod k v),l⟩=some l'/\lf=p/\i=j
 | some (.loop L),.loop g=>L=g
 | some .dfr,.dfr=>True
 | _,_=>False
def HA (objs:List (Nat×Obj)) (ren:List (Nat×B0)) (o:Obj):Option B0->Prop
 | some (.nm n)=>JL ren (lk n objs) o
 | some .nil=>match o with
  | .arr _ e ys=>(ys:List e.den)=[]
  | .box _ _ _=>False
  | .nest _ _ k e ys _=>(ys:List (k.den×List e.den))=[]
  | .mapo _ _ _=>False
  | .frame _ _=>False
  | .itr _ _ _ _ _=>False
  | .loop _=>False
  | .dfr=>False
 | none=>False
def Ad (objs:List (Nat×Obj)) (ren:List (Nat×B0)):List (Nat×Obj)->Prop
 | []=>True
 | (m,o) :: r=>HA objs ren o (lk m ren)/\Ad objs ren r
def CC:List (Nat×B0)->Bool
 | []=>true
 | (_,.nm n) :: r=>(r.all λp=>match p.2 with|.nm a=>a != n|.nil=>true)&&CC r
 | (_,.nil) :: r=>CC r
def Lp {α:Type}:List (Nat×α)->Bool
 | []=>true
 | (n,_) :: r=>(r.all λp=>p.1 != n)&&Lp r
section
variable {ren:List (Nat×B0)} {V V':Vw}
structure Lq (ren:List (Nat×B0)) (V V':Vw):Prop where
 w:V'.w=V.w
 O:∀b,¬V.O b->¬V'.O b
 ρ:∀m n,lk m ren=some (.nm n)->V'.ρ m=V.ρ n
 nil:∀m,lk m ren=some .nil->V'.ρ m=.slice none 0 0
 L:∀m f,lk m ren=some f->V'.L m
theorem Lq.vrep (h:Lq ren V V') {t:Ty} {v:Value} {d:t.den} (a:BV V.w V.O t v d):BV V'.w V'.O t v d :=
 BV.mono (λb _ hb=>h.O b hb) (λb _ _=>by rw[h.w]) a
theorem Lq.rep (h:Lq ren V V') {t:Ty} {cs:List Value} {d:t.den} (a:Bx V.w V.O t cs d):Bx V'.w V'.O t cs d :=
 a.mono (λb _ hb=>h.O b hb) (λb _ _=>by rw[h.w])
theorem Lq.map (h:Lq ren V V'):∀ {b ns:List Nat},b.map (λm=>lk m ren)=ns.map (λn=>some (B0.nm n))->b.map V'.ρ=ns.map V.ρ/\∀m∈b,∃n∈ns,lk m ren=some (.nm n)
 | [],[],_=>⟨rfl,λ_ h=>by cases h⟩
 | [],_ :: _,a=>by simp at a
 | _ :: _,[],a=>by simp at a
 | m :: b,n :: ns,a=>by
  simp only[Sj,AB4]at a;obtain⟨h1,c⟩:=h.map a.2;refine⟨by simp only[Sj,h1,h.ρ _ _ a.1],λx hx=>?_⟩;grind
theorem Yo (h:Lq ren V V') {x y:AV} {v:Value} (b:ET ren x y) (hx:VR V x v):VR V' y v/\(∀t d,y=.p t d->(∀u f,x≠.p u f)->v.oneCell'=true->Bx V'.w V'.O t [v] d):=by
 unfold ET at b;split at b
 .have:=BB b;injection this with h1 c
  subst h1;cases c;exact⟨h.vrep hx,λ_ _ _ q=>absurd rfl (q _ _)⟩
 .have hx:v=_:=hx;subst hx;have hd:=b;have g:∀(O:Nat->Prop) (e:Ty),Bx V'.w O (.slice e) [.slice none 0 0] ([]:List e.den):=λO e=>⟨none,0,rfl,by simp,by simp[AP],.inl rfl⟩;rename_i e f;have hd:f=([]:List e.den):=hd;subst hd;refine⟨⟨_,g _ _,rfl⟩,λt d a _ _=>?_⟩;grind
 .subst b;exact⟨hx,λt d a=>by cases a⟩
 .rename_i m e lo hi;obtain⟨h1,rfl,rfl⟩:=b;have hx:v=_:=hx;subst hx;refine⟨⟨h.L _ _ h1,?_⟩,λt d a=>by cases a⟩;rw[h.nil _ h1];exact⟨none,0,0,rfl,by omega,by omega,none,0,rfl,by omega,λ_=>⟨rfl,rfl⟩,λh=>by omega⟩
 .obtain⟨h1,rfl,rfl,rfl⟩:=b;refine⟨⟨h.L _ _ h1,?_⟩,λt d a=>by cases a⟩;rw[h.ρ _ _ h1];exact hx.2
 .have:=BB b;injection this with h1 c
  subst h1;cases c;obtain⟨ad,cs,a,k,l,g⟩:=hx;exact⟨⟨ad,cs,a,h.O _ k,λj u o=>by rw[h.w];exact l j u o,h.rep g⟩,λt d a=>by cases a⟩
 .obtain⟨h1,rfl,rfl⟩:=b;refine⟨⟨h.L _ _ h1,?_⟩,λt d a=>by cases a⟩;rw[h.ρ _ _ h1];exact hx.2
 .subst b;exact⟨hx,λt d a=>by cases a⟩
 .obtain⟨rfl,hl⟩:=b;obtain⟨h1,c⟩:=h.map hl;refine⟨⟨?_,λm b=>?_⟩,λt d a=>by cases a⟩
  .rw[h1];exact hx.1
  obtain⟨n,hn,i⟩:=c m b;refine⟨h.L _ _ i,?_⟩;rw[h.ρ _ _ i];exact(hx.2 n hn).2
 .refine⟨⟨h.L _ _ b,?_⟩,λt d a=>by cases a⟩;rw[h.ρ _ _ b];exact hx.2
 .refine⟨⟨h.L _ _ b,?_⟩,λt d a=>by cases a⟩;rw[h.ρ _ _ b];exact hx.2
 .exact⟨trivial,λt d a=>by cases a⟩
 exact b.elim
theorem v8 (h:Lq ren V V') {x y:AV} {cs:List Value} (f:x.cells=y.cells) (a:ET ren x y) (hx:NS V x cs):NS V' y cs:=by
 by_cases c:∃t d,x=.p t d
 .obtain⟨t,d,rfl⟩:=c;have hx:Bx V.w V.O t cs d:=hx;cases y<;>simp only[ET]at a<;>try exact a.elim
  .have:=BB a;injection this with h1 b
   subst h1;cases b;exact h.rep hx
  have hl:=hx.length;simp only[AV.cells]at f;rw[f]at hl;obtain⟨v,rfl⟩:=AAS.1 hl;exact⟨v,rfl,hx.one v sc,trivial⟩
 have k:∃v,cs=[v]/\v.oneCell'=true/\VR V x v:=by
  cases x;case p t d=>exact absurd ⟨t,d,rfl⟩ c
  all_goals exact hx
 obtain⟨v,rfl,h1,b⟩:=k;obtain⟨i,j⟩:=Yo h a b;cases y;case p t d=>exact j t d rfl (λu g e=>c ⟨u,g,e⟩) h1
 all_goals exact⟨v,rfl,h1,i⟩
theorem OQ (h:Lq ren V V'):∀ {l r:List AV} {cs:List Value},Fu ren l r->DX V l cs->DX V' r cs
 | [],[],cs,_,hx=>hx
 | [],_ :: _,cs,a,_=>a.elim
 | _ :: _,[],cs,a,_=>a.elim
 | x :: l,y :: r,cs,a,hx=>by
  obtain⟨c1,c2,rfl,h1,b⟩:=hx;exact⟨c1,c2,rfl,v8 h a.1.1 a.1.2 h1,OQ h a.2 b⟩
theorem LD:∀ {l r:List AV},Fu ren l r->l.length=r.length
 | [],[],_=>rfl
 | [],_ :: _,a=>a.elim
 | _ :: _,[],a=>a.elim
 | _ :: _,_ :: _,a=>by simp[LD a.2]
theorem Yp (h:Lq ren V V') {x y:AV} {v:Value} (a:JK ren x y) (hx:Sx V x v):Sx V' y v:=by
 cases x;case ag l =>
  cases y;case ag r =>
   obtain⟨cs,e,h1⟩:=hx;exact⟨cs,e,OQ h a h1⟩
  all_goals simp only[JK,ET]at a
  all_goals first|exact a.elim|exact trivial
 all_goals
  simp only[Sx]at hx;have a:ET ren _ y:=a;exact Sx.of1 (Yo h a hx).1
theorem fH (h:Lq ren V V'):∀ {l r:List AV} {b:List Value},Ka ren l r->H5 V l b->H5 V' r b
 | [],[],b,_,hx=>hx
 | [],_ :: _,b,a,_=>a.elim
 | _ :: _,[],b,a,_=>a.elim
 | x :: l,y :: r,b,a,hx=>by
  obtain⟨v,d,rfl,h1,c⟩:=hx;exact⟨v,d,rfl,Yp h a.1 h1,fH h a.2 c⟩
theorem Mv (h:Lq ren V V') {x y:AV} {v:Value} (a:Bz ren x y) (hx:B2 V x v):B2 V' y v:=by
 cases x;case tup l =>
  cases y;case tup r =>
   obtain⟨b,e,h1⟩:=hx;exact⟨b,e,fH h a h1⟩
  all_goals simp only[Bz,JK,ET]at a
  all_goals first|exact a.elim|exact trivial
 all_goals
  simp only[Bz]at a;exact zS (Yp h a hx)
theorem DE {objs:List (Nat×Obj)} {m:Nat} {o:Obj}:∀ {l:List (Nat×Obj)},Ad objs ren l->lk m l=some o->HA objs ren o (lk m ren)
 | (j,x) :: l,h,hl=>by
  simp only[lk]at hl;split at hl
  .rename_i e;cases hl;subst e;exact h.1
  exact DE h.2 hl
theorem Lr {env:List (Nat×AV)} {s:Nat} {y:AV}:∀ {l:List (Nat×AV)},Fv env ren l->lk s l=some y->Lo ren (lk s env) y
 | (j,x) :: l,h,hl=>by
  simp only[lk]at hl;split at hl
  .rename_i e;cases hl;subst e;exact h.1
  exact Lr h.2 hl
theorem UZ:∀ {l:List (Nat×B0)} {m c n:Nat},CC l=true->lk m l=some (.nm n)->lk c l=some (.nm n)->m=c
 | (j,f) :: l,m,c,n,a,h1,b=>by
  simp only[lk]at h1 b;have e:CC l=true:=by
   cases f<;>simp only[CC,An]at a
   .exact a.2
   exact a
  have g:∀q,f=.nm n->lk q l=some (.nm n)->False:=by
   intro q hf d;subst hf;simp only[CC,An,NO]at a;have:=a.1 _ (FK d);simp at this
  split at h1
  .grind
  split at b
  .grind
  exact UZ e h1 b
def A8s (n:Nat):Option B0->Bool
 | some (.nm m)=>m==n
 | _=>false
def A6W (pin:List (Nat×Value)) (ren:List (Nat×B0)):Bool:=pin.all λp=>A8s p.1 (lk p.1 ren)
theorem RI {V V':Vw} (a:Lq ren V V') {K:List (Nat×Obj)} (ad:∀n x,lk n K=some x->A5 V x (V.ρ n)) {o:Obj} {m:Nat} (hf:HA K ren o (lk m ren)):A5 V' o (V'.ρ m):=by
 cases I:lk m ren with
 | none=>rw[I]at hf;exact hf.elim
 | some f =>
  rw[I]at hf;cases f with
  | nil =>
   rw[a.nil m I];cases o with
   | box et st fs=>exact hf.elim
   | mapo k v l=>exact hf.elim
   | frame t fs=>exact hf.elim
   | loop L=>exact hf.elim
   | itr B E C D A=>exact hf.elim
   | dfr=>exact hf.elim
   | nest et ag k e ys hl =>
    have hf:ys=([]:List (k.den×List e.den)):=hf;subst hf;exact⟨_,[],[],.inr ⟨rfl,rfl,rfl⟩,by simp[AP],rfl,AB8 _ 0 et _,λi x u h=>by simp at h,λi j b u v h=>by simp at h,λi b u h=>by simp at h⟩
   | arr et e ys =>
    have hf:ys=([]:List e.den):=hf;subst hf;exact⟨by simp[AP],[],AB8 _ 0 et e.size,Ho _ _ _ _⟩
  | nm n =>
   rw[a.ρ m n I];simp only[HA]at hf;cases hn:lk n K with
   | none=>rw[hn]at hf;simp only[JL]at hf
   | some x =>
    rw[hn]at hf;have q:=ad n x hn;cases x with
    | arr et e xs =>
     cases o with
     | box c st fs=>exact hf.elim
     | mapo k v l=>exact hf.elim
     | frame t fs=>exact hf.elim
     | loop L=>exact hf.elim
     | itr B E C D A=>exact hf.elim
     | dfr=>exact hf.elim
     | nest _ _ _ _ _ _=>exact hf.elim
     | arr c p ys =>
      obtain⟨rfl,g⟩:=hf;obtain⟨rfl,d⟩:=Bk g;cases d;obtain⟨aa,cells,ab,Y⟩:=q;refine⟨aa,cells,by rw[a.w];exact ab,λi z hi=>?_⟩;obtain⟨J,P,Q,R⟩:=Y i z hi;exact⟨J,P,Q,a.rep R⟩
    | box et st fs =>
     cases o with
     | arr c p ys=>exact hf.elim
     | mapo k v l=>exact hf.elim
     | frame t fs=>exact hf.elim
     | loop L=>exact hf.elim
     | itr B E C D A=>exact hf.elim
     | dfr=>exact hf.elim
     | nest _ _ _ _ _ _=>exact hf.elim
     | box c aq S =>
      obtain⟨rfl,rfl,G⟩:=hf;obtain⟨h0,b,cs,F,hh,X⟩:=q;exact⟨λae=>by rw[<-LD G];exact h0 ae,b,cs,F,by rw[a.w];exact hh,OQ a G X⟩
    | nest et ag k e xs h =>
     cases o with
     | nest c ao M p ys an =>
      obtain⟨⟨rfl,rfl,rfl⟩,g⟩:=hf;have g:=BB g;injection g with h1 y
      injection h1 with h1
      injection h1 with h1 d
      injection d with d
      subst h1;subst d;cases y;exact vI a.w a.O q
     | mapo k v l=>exact hf.elim
     | box c st fs=>exact hf.elim
     | arr c p ys=>exact hf.elim
     | frame t fs=>exact hf.elim
     | loop L=>exact hf.elim
     | itr B E C D A=>exact hf.elim
     | dfr=>exact hf.elim
    | mapo k v l =>
     cases o with
     | mapo M ak l' =>
      have g:=BB hf;injection g with h1 y
      injection h1 with h1
      injection h1 with h1 d
      subst h1;subst d;cases y;obtain⟨b,J,cl,F,hh,Z,W⟩:=q;exact⟨b,J,cl,F,by rw[a.w];exact hh,Z.mono (λb _ hb=>a.O b hb) (λb _ _=>by rw[a.w]),W⟩
     | box c st fs=>exact hf.elim
     | arr c p ys=>exact hf.elim
     | frame t fs=>exact hf.elim
     | loop L=>exact hf.elim
     | itr B E C D A=>exact hf.elim
     | dfr=>exact hf.elim
     | nest _ _ _ _ _ _=>exact hf.elim
    | frame t fs =>
     cases o with
     | frame ar S =>
      obtain⟨rfl,G⟩:=hf;obtain⟨h0,h1⟩:=q;refine⟨h0,λs v af=>?_⟩;have H:=Lr G af;cases hx:lk s fs with
      | none =>
       rw[hx]at H;cases v<;>simp only[Lo]at H;exact trivial
      | some x =>
       rw[hx]at H;exact Mv a H (h1 s x hx)
     | mapo k v l=>exact hf.elim
     | box c st fs=>exact hf.elim
     | arr c p ys=>exact hf.elim
     | loop L=>exact hf.elim
     | itr B E C D A=>exact hf.elim
     | dfr=>exact hf.elim
     | nest _ _ _ _ _ _=>exact hf.elim
    | itr k v l lf al =>
     cases o with
     | itr M ak l' ap am =>
      obtain⟨hf,rfl,rfl⟩:=hf;have g:=BB hf;injection g with h1 y
      injection h1 with h1
      injection h1 with h1 d
      subst h1;subst d;cases y;obtain⟨r,F,b,ah,cl,aj,ai,h1,y,d,T,U⟩:=q;exact⟨r,F,b,ah,cl,aj,ai,by rw[a.w];exact h1,a.O b y,by rw[a.w];exact d,T.mono (λb _ hb=>a.O b hb) (λb _ _=>by rw[a.w]),U⟩
     | mapo k v l=>exact hf.elim
     | box c st fs=>exact hf.elim
     | arr c p ys=>exact hf.elim
     | frame t fs=>exact hf.elim
     | loop L=>exact hf.elim
     | dfr=>exact hf.elim
     | nest _ _ _ _ _ _=>exact hf.elim
    | loop L =>
     cases o with
     | loop N =>
      have hf:L=N:=hf;subst hf;obtain⟨b,hl,hh⟩:=q;exact⟨b,hl,by rw[a.w];exact hh⟩
     | itr B E C D A=>exact hf.elim
     | mapo k v l=>exact hf.elim
     | box c st fs=>exact hf.elim
     | arr c p ys=>exact hf.elim
     | frame t fs=>exact hf.elim
     | dfr=>exact hf.elim
     | nest _ _ _ _ _ _=>exact hf.elim
    | dfr =>
     cases o with
     | dfr =>
      obtain⟨b,hl,hh⟩:=q;exact⟨b,hl,by rw[a.w];exact hh⟩
     | nest _ _ _ _ _ _=>exact hf.elim
     | mapo k v l=>exact hf.elim
     | box c st fs=>exact hf.elim
     | arr c p ys=>exact hf.elim
     | frame t fs=>exact hf.elim
     | loop L=>exact hf.elim
     | itr B E C D A=>exact hf.elim
def CR (objs:List (Nat×Obj)) (ren:List (Nat×B0)):Bool:=ren.all λp=>(lk p.1 objs).isSome
theorem AD {c:Cx} {σ σ':St} (ren:List (Nat×B0)) (h1:CC ren=true) (k:CR σ'.objs ren=true) (t:Ad σ.objs ren σ'.objs) (D:Fv σ.env ren σ'.env) (u:A6W c.ds.pin ren=true:=by rfl):Ent c σ σ':=by
 rintro a w ⟨ρ,hs⟩
 let ρ':Nat->Value:=λm=>match lk m ren with|some (.nm n)=>ρ n|_=>.slice none 0 0
 have r:∀m n,lk m ren=some (.nm n)->ρ' m=ρ n:=λm n d=>by simp[ρ',d]
 have q:∀m,lk m ren=some .nil->ρ' m=.slice none 0 0:=λm d=>by simp[ρ',d]
 have B:∀m f,lk m ren=some f->Gz σ' m:=λm f d=>by
  simp only[CR,NO]at k;have:=k _ (FK d);exact AAM.1 this
 have h:∀m b,Gz σ' m->bk (ρ' m) b->∃n,lk m ren=some (.nm n)/\Gz σ n/\bk (ρ n) b:=by
  rintro m b ⟨o,d⟩ hb;have hf:=DE t d;cases g:lk m ren with
  | none=>rw[g]at hf;exact hf.elim
  | some f =>
   cases f with
   | nil=>rw[q m g]at hb;simp[bk,blk]at hb
   | nm n =>
    rw[g]at hf;rw[r m n g]at hb;refine⟨n,rfl,?_,hb⟩;cases hn:lk n σ.objs with
    | none=>simp only[HA,hn,JL]at hf
    | some x=>exact⟨x,hn⟩
 have l:Lq ren (vw w c.O0 σ ρ) (vw w c.O0 σ' ρ'):=by
  refine⟨rfl,λb hb i=>?_,r,q,B⟩;rcases i with h0|⟨m,hl,d⟩
  .exact hb (.inl h0)
  obtain⟨n,_,hn,e⟩:=h m b hl d;exact hb (.inr ⟨n,hn,e⟩)
 refine⟨ρ',hs.frm,hs.nt,hs.defers,λp y=>?_,λm o d=>?_,λm b hl hb=>?_,λm H b hl E hb i=>?_,λs v G=>?_⟩
 .obtain⟨J,K,L⟩:=hs.pin p y;simp only[A6W,NO]at u;have j:=u p y;unfold A8s at j;split at j
  .grind
  cases j
 .exact RI l hs.objs (DE t d)
 .obtain⟨n,_,hn,e⟩:=h m b hl hb;exact hs.free n b hn e
 .obtain⟨n,z,hn,e⟩:=h m b hl hb;obtain⟨I,A,F,C⟩:=h H b E i;have:=hs.dist n I b hn F e C;subst this;exact UZ h1 z A
 have d:=Lr D G;cases hx:lk s σ.env with
 | none =>
  rw[hx]at d;cases v<;>simp only[Lo]at d;exact trivial
 | some x =>
  rw[hx]at d;exact Mv l d (hs.env s x hx)
end
end
section
open Go
theorem It (b:Bool):Q9 true (some (.p .bool b))=some b:=by cases b<;>rfl
theorem Ha (b:Bool):Q9 false (some (.p .bool b))=some (!b):=by cases b<;>rfl
theorem Pl:IntKind.i64.min=-9223372036854775808:=by decide
theorem Pm:IntKind.i64.max=9223372036854775807:=by decide
theorem Pn:IntKind.u64.min=0:=by decide
theorem Po:IntKind.u64.max=18446744073709551615:=by decide
theorem Vi:IntKind.u8.min=0:=by decide
theorem Vj:IntKind.u8.max=255:=by decide
theorem Pp (n:Int):KG .i64 n↔-9223372036854775808<=n/\n<=9223372036854775807:=by unfold KG;rw[Pl,Pm]
theorem Kb (n:Int):KG .u64 n↔0<=n/\n<=18446744073709551615:=by unfold KG;rw[Pn,Po]
theorem bB (n:Int):KG .u8 n↔0<=n/\n<=255:=by unfold KG;rw[Vi,Vj]
theorem Ua {α:Type} (x:α):sub [x] 0 1=[x]:=rfl
theorem Jm {α:Type} (xs:List α) (n:Nat):sub xs 0 n=xs.take n:=by simp[sub]
theorem A4u (n:Nat):((n:Int)).toNat=n:=Sc n
theorem Hb (n:Nat):(0<=(n:Int))=True:=eq_true (AAr n)
end
section
open Go Go.RowKit
section
variable {tb:Tb} {σ σ':St}
def dZ (σ σ':St):Prop:=∀n o,lk n σ.objs=some o->lk n σ'.objs=some o
theorem A0g (h:dZ σ σ') {e:Ty} {lo hi n:Nat} {d:List e.den} (hs:Q6 e lo hi (lk n σ.objs)=some d):Q6 e lo hi (lk n σ'.objs)=some d:=by
 cases hn:lk n σ.objs with
 | none=>rw[hn]at hs;simp[Q6]at hs
 | some o=>rw[h n o hn,<-hn];exact hs
theorem v9 (h:dZ σ σ') {e:Ty} {i n:Nat} {d:List e.den} (hs:Tu e i (lk n σ.objs)=some d):Tu e i (lk n σ'.objs)=some d:=by
 cases hn:lk n σ.objs with
 | none=>rw[hn]at hs;simp[Tu]at hs
 | some o=>rw[h n o hn,<-hn];exact hs
theorem Jn (h:dZ σ σ') {l:Bool} {t:Ty} {x:AV} {d:t.den} (hs:E3 l σ t x=some d):E3 l σ' t x=some d:=by
 unfold E3 at hs ⊢;split at hs
 .exact hs
 .grind [A0g]
 .grind [v9]
 .exact hs
 cases hs
theorem Yq (h:dZ σ σ') {l:Bool}:∀ {fs:List AV} {t:Ty} {d:t.den},LQ l σ fs t=some d->LQ l σ' fs t=some d
 | [],t,d,hs=>by simp[LQ]at hs
 | [x],t,d,hs=>by grind [LQ,Jn]
 | x :: y :: r,t,d,hs=>by
  cases t<;>simp only[LQ]at hs ⊢<;>try(cases hs;done)
  rename_i a b;cases h1:E3 l σ a x with
  | none=>rw[h1]at hs;simp[NZ]at hs
  | some e =>
   cases c:LQ l σ (y :: r) b with
   | none=>rw[h1,c]at hs;simp[NZ]at hs
   | some f =>
    rw[Jn h h1,Yq h c];rw[h1,c]at hs;exact hs
theorem FB (h:dZ σ σ') {l:Bool} {t:Ty} {x:AV} {d:t.den} (hs:NR l σ t x=some d):NR l σ' t x=some d:=by
 unfold NR at hs ⊢;split at hs
 .exact Yq h hs
 exact Jn h hs
def Ops (σ σ':St) (xs:List Operand):Prop:=∀x∈xs,∀v,Aq σ x=some v->Aq σ' x=some v
theorem Pq (h:dZ σ σ') {e:Ty} {x:AV} {d:List e.den} (hs:Q1 σ e x=some d):Q1 σ' e x=some d:=by
 unfold Q1 at hs ⊢;split at hs
 .rename_i n a lo hi;cases hn:lk n σ.objs with
  | none =>
   rw[hn]at hs;have hs:E3 true σ (.slice e) (.sr n a lo hi)=some d:=by simpa[DA,NR] using hs
   simp only[E3,hn]at hs;split at hs<;>simp[Q6]at hs
  | some o =>
   rw[h n o hn];rw[hn]at hs;split at hs
   .cases hs
   grind [FB]
 exact FB h hs
theorem Vk (h:dZ σ σ') {l:Bool}:∀ {ts:List Ty} {xs:List Operand} {ds:KI ts},Ops σ σ' xs->Gg l σ ts xs=some ds->Gg l σ' ts xs=some ds
 | [],[],ds,_,hs=>hs
 | [],_ :: _,ds,_,hs=>by simp[Gg]at hs
 | _ :: _,[],ds,_,hs=>by simp[Gg]at hs
 | t :: ts,x :: xs,ds,a,hs=>by
  simp only[Gg]at hs ⊢;cases hx:Aq σ x with
  | none=>rw[hx]at hs;cases hs
  | some v =>
   rw[a x sc v hx];rw[hx]at hs;simp only at hs ⊢;split at hs
   .rename_i y ys hy b;rw[FB h hy,Vk h (λz c=>a z (by simp[c])) b];exact hs
   cases hs
theorem TB (h:dZ σ σ') {e:Ty}:∀ {parts:List (Nat×Operand)} {k:Nat} {xs:List e.den},Ops σ σ' (parts.map (·.2))->FJ σ e k parts=some xs->FJ σ' e k parts=some xs
 | [],k,xs,_,hs=>hs
 | (i,x) :: r,k,xs,a,hs=>by
  simp only[FJ]at hs ⊢;split at hs
  .rename_i c;rw[DO c];cases hx:Aq σ x with
   | none=>rw[hx]at hs;cases hs
   | some v =>
    rw[a x sc v hx];rw[hx]at hs;simp only at hs ⊢;split at hs
    .rename_i y ys hy d;rw[FB h hy,TB h (λz b=>a z (by simp at b ⊢;exact .inr b)) d];exact hs
    cases hs
  cases hs
theorem fJ (h:dZ σ σ') {z:Option AV} {x:Operand} {v:AV} (c:∀v,Aq σ x=some v->Aq σ' x=some v) (hs:GK σ z (Aq σ x)=some v):GK σ' z (Aq σ' x)=some v:=by
 cases hx:Aq σ x with
 | none=>rw[hx]at hs;unfold GK at hs;split at hs<;>simp at *
 | some a =>
  rw[c a hx];rw[hx]at hs;unfold GK at hs ⊢;split at hs
  .rename_i t _ l b;cases b;simp only[OR]at hs ⊢;grind [FB]
  exact hs
theorem Pr (h:dZ σ σ') {offs:List (Nat×Nat)}:∀ {parts:List (Nat×Operand)} {fs a:List AV},Ops σ σ' (parts.map (·.2))->EL σ offs fs parts=some a->EL σ' offs fs parts=some a
 | [],fs,a,_,hs=>hs
 | (i,x) :: r,fs,a,b,hs=>by
  simp only[EL]at hs ⊢;cases hx:GK σ fs[i]? (Aq σ x) with
  | none=>rw[hx]at hs;cases hs
  | some v =>
   rw[fJ h (b x sc) hx];rw[hx]at hs;simp only at hs ⊢;split at hs
   .rename_i d;rw[DO d];exact Pr h (λz c=>b z (by simp at c ⊢;exact .inr c)) hs
   cases hs
theorem Vl:∀ {xs:List Operand} {ns:List Nat},Ops σ σ' xs->Io σ xs=some ns->Io σ' xs=some ns
 | [],ns,_,hs=>hs
 | x :: r,ns,a,hs=>by
  simp only[Io]at hs ⊢;split at hs
  .rename_i n d h1 b;rw[a x sc _ h1,Vl (λz c=>a z (by simp[c])) b];exact hs
  cases hs
theorem Ub (h:dZ σ σ') {d:Nat} {op:Op} {r:Prop×AV×List (Nat×Obj)} (j:Ops σ σ' op.operands.toList) (hs:aq tb σ d op=some r):aq tb σ' d op=some r:=by
 have one:∀ {x:Operand} {f:Option AV->BZ},x∈op.operands.toList->f none=none->f (Aq σ x)=some r->f (Aq σ' x)=some r:=by
  intro x f hx hn hf;cases A:Aq σ x with
  | none=>rw[A,hn]at hf;cases hf
  | some v=>rw[j x hx v A,<-A];exact hf
 have K:∀ {x y:Operand} {f:Option AV->Option AV->BZ},x∈op.operands.toList->y∈op.operands.toList->(∀b,f none b=none)->(∀a,f a none=none)->f (Aq σ x) (Aq σ y)=some r->f (Aq σ' x) (Aq σ' y)=some r:=by
  intro x y f hx hy h1 F hf;cases A:Aq σ x with
  | none=>rw[A,h1]at hf;cases hf
  | some v =>
   cases I:Aq σ y with
   | none=>rw[I,F]at hf;cases hf
   | some w=>rw[j x hx v A,j y hy w I,<-A,<-I];exact hf
 cases op<;>simp only[aq]at hs ⊢<;>try(cases hs;done)
 case move x=>exact one (f:=G9) (by simp[Op.operands]) rfl hs
 case assign x=>exact one (f:=G9) (by simp[Op.operands]) rfl hs
 case pick c x y =>
  cases E:Aq σ c with
  | none=>rw[E]at hs;simp[LU]at hs
  | some aa =>
   have e1:=j c (by simp[Op.operands]) aa E;rw[E]at hs;rw[e1];unfold LU at hs ⊢;split at hs
   .rename_i C;cases C;exact one (f:=G9) (by simp[Op.operands]) rfl hs
   .rename_i C;cases C;exact one (f:=G9) (by simp[Op.operands]) rfl hs
   cases hs
 case alloc t=>exact hs
 case box t x=>exact one (f:=VL d t (lk t tb.ty)) (by simp[Op.operands]) (by cases lk t tb.ty<;>simp[VL]) hs
 case build t parts =>
  unfold KK at hs ⊢;split at hs
  .rename_i u offs el b C;cases D:EL σ offs (zL u) parts.toList with
   | none=>rw[D]at hs;simp[G9]at hs
   | some fs =>
    rw[Pr h (by simpa[Op.operands] using j) D];rw[D]at hs;exact hs
  cases hs
 case buildSlice t n parts =>
  cases U:lk d tb.nests with
  | some am =>
   rw[U]at hs;simp only[HT]at hs ⊢;unfold KM at hs ⊢;split at hs
   .rename_i x ao offs el b D C;cases hx:Aq σ x with
    | none=>rw[hx]at hs;unfold KL at hs;split at hs<;>first|(cases hs;done)|(rename_i F;cases F)
    | some av =>
     rw[j x (by simp[Op.operands,D]) av hx];rw[hx]at hs;unfold KL at hs ⊢;split at hs
     .rename_i k e au aw al;unfold LX at hs;split at hs
      .rename_i Y Q;rw[Jn h Q];exact hs
      .rename_i Y ak l Q;split at hs
       .rename_i S;rw[Jn h Q];simp only[LX,S,AAd];exact hs
       cases hs
      cases hs
     cases hs
   cases hs
  | none =>
  rw[U]at hs;simp only[HT]at hs ⊢;unfold Bp at hs ⊢;split at hs
  .rename_i e offs el b C;cases D:FJ σ e 0 parts.toList with
   | none=>rw[D]at hs;simp[B3]at hs
   | some xs =>
    rw[TB h (by simpa[Op.operands] using j) D];rw[D]at hs;exact hs
  cases hs
 case load t x =>
  cases hx:Aq σ x with
  | none=>rw[hx]at hs;simp[K8]at hs
  | some v =>
   rw[j x (by simp[Op.operands]) v hx];rw[hx]at hs;unfold K8 at hs ⊢;split at hs
   .rename_i ti n ai off O G;cases hn:lk n σ.objs with
    | none=>rw[hn]at hs;simp[Eu]at hs
    | some o=>rw[h n o hn,<-hn];exact hs
   .rename_i ti n e i ai off O G;cases hn:lk n σ.objs with
    | none=>rw[hn]at hs;simp[Ew]at hs
    | some o=>rw[h n o hn,<-hn];exact hs
   .exact hs
   cases hs
 case nilCheck x=>exact one (f:=YJ) (by simp[Op.operands]) (by simp[YJ]) hs
 case binOp op t x y an=>exact K (f:=Tv op (lk t tb.ty)) (by simp[Op.operands]) (by simp[Op.operands]) (λb=>by simp[Tv]) (λa=>by cases a<;>simp[Tv]) hs
 case unOp op t x=>exact one (f:=qUn op) (by simp[Op.operands]) (by cases op<;>simp[qUn]) hs
 case convert s t x=>exact one (f:=K9 (lk s tb.ty) (lk t tb.ty)) (by simp[Op.operands]) (by cases lk s tb.ty<;>cases lk t tb.ty<;>simp[K9]) hs
 case makeSlice t l c=>exact K (f:=Jg tb d (lk t tb.ty)) (by simp[Op.operands]) (by simp[Op.operands]) (λb=>by cases lk t tb.ty<;>simp[Jg]) (λa=>by cases lk t tb.ty<;>simp[Jg]) hs
 case slice t x lo hi ah =>
  cases ah with
  | some m =>
   cases lo with
   | some _=>cases hi<;>simp[aq]at hs
   | none =>
    cases hi with
    | none=>simp[aq]at hs
    | some h1 =>
     simp only[aq]at hs ⊢;cases hx:Aq σ x with
     | none=>rw[hx]at hs;cases hl:lk t tb.ty<;>rw[hl]at hs<;>simp[EM]at hs
     | some v =>
      cases hh:Aq σ h1 with
      | none=>rw[hx,hh]at hs;cases hl:lk t tb.ty<;>rw[hl]at hs<;>simp[EM]at hs
      | some A =>
       cases H:Aq σ m with
       | none=>rw[hx,hh,H]at hs;cases hl:lk t tb.ty<;>rw[hl]at hs<;>simp[EM]at hs
       | some ag =>
        rw[j x (by simp[Op.operands]) v hx,j h1 (by simp[Op.operands]) A hh,j m (by simp[Op.operands]) ag H];rw[hx,hh,H]at hs;exact hs
  | none =>
   simp only[aq]at hs ⊢;have X:∀ {y:Option Operand},(∀z,y=some z->z∈(Op.slice t x lo hi none).operands.toList)->∀w,HN σ y=some w->HN σ' y=some w:=by
    intro y hy w I;cases y with
    | none=>exact I
    | some z =>
     simp only[HN,OR]at I ⊢;obtain⟨v,A,rfl⟩:=I;exact⟨v,j z (hy z rfl) v A,rfl⟩
   cases hx:Aq σ x with
   | none=>rw[hx]at hs;cases hl:lk t tb.ty<;>rw[hl]at hs<;>simp[Fi]at hs
   | some v =>
    cases h1:HN σ lo with
    | none=>rw[h1]at hs;cases hl:lk t tb.ty<;>rw[hl]at hs<;>simp[Fi]at hs
    | some a =>
     cases F:HN σ hi with
     | none=>rw[F]at hs;cases hl:lk t tb.ty<;>rw[hl]at hs<;>simp[Fi]at hs
     | some b =>
      rw[j x (by simp[Op.operands]) v hx,X (by rintro z rfl;simp[Op.operands]) a h1,X (by rintro z rfl;simp[Op.operands]) b F];rw[hx,h1,F]at hs;exact hs
 case fieldAddr s x f=>exact one (f:=Hz f (lk s tb.ty)) (by simp[Op.operands]) (by cases lk s tb.ty<;>simp[Hz]) hs
 case indexAddr t x i=>exact K (f:=GL (lk t tb.ty)) (by simp[Op.operands]) (by simp[Op.operands]) (λb=>by cases lk t tb.ty<;>simp[GL]) (λa=>by cases lk t tb.ty<;>simp[GL]) hs
 case index t x i=>exact K (f:=Ej (lk t tb.ty)) (by simp[Op.operands]) (by simp[Op.operands]) (λb=>by cases lk t tb.ty<;>simp[Ej]) (λa=>by cases lk t tb.ty<;>simp[Ej]) hs
 case extract x i=>exact one (f:=E4 i) (by simp[Op.operands]) (by simp[E4]) hs
 case makeFunc fn first Z =>
  unfold eC at hs ⊢;split at hs
  .rename_i f hf;cases E:Io σ Z.toList with
   | none=>rw[E]at hs;simp[Sr]at hs
   | some ns =>
    rw[Vl (λz J=>j z (by simp[Op.operands]at J ⊢;exact .inr J)) E];rw[E]at hs;exact hs
  cases hs
 case makeMap t res =>
  cases res with
  | some z=>simp[aq]at hs
  | none=>simp only[aq]at hs ⊢;exact hs
 case lookup t x i ok =>
  cases hx:Aq σ x with
  | none=>rw[hx]at hs;simp[Ji]at hs
  | some xv =>
   cases hi:Aq σ i with
   | none=>rw[hx,hi]at hs;simp[Ji]at hs
   | some W =>
    rw[j x (by simp[Op.operands]) xv hx,j i (by simp[Op.operands]) W hi];rw[hx,hi]at hs;unfold Ji at hs ⊢;split at hs
    .rename_i k e _ _ n z O G ad;cases G;cases ad;cases hn:lk n σ.objs with
     | none=>rw[hn]at hs;simp[JD]at hs
     | some o =>
      rw[hn]at hs;rw[h n o hn];unfold JD at hs ⊢;split at hs
      .rename_i af ar l j;cases j;split at hs
       .rename_i E;rw[DO E];cases hk:NR false σ af W with
        | none=>rw[hk]at hs;simp[La]at hs
        | some kd=>rw[FB h hk];rw[hk]at hs;exact hs
       cases hs
      cases hs
    cases hs
 case call c =>
  obtain⟨callee,args,argTypes⟩:=c;have B:∀x∈args.toList,x∈(Op.call ⟨callee,args,argTypes⟩).operands.toList:=λx hx=>by
   have:x∈args:=by simpa using hx
   cases callee<;>simp[Op.operands,Call.operands,this]
  cases callee with
  | invoke r m=>simp[EO]at hs
  | value g =>
   simp only[EO]at hs ⊢;cases L:Aq σ g with
   | none=>rw[L]at hs;simp[Na]at hs
   | some ab =>
    rw[j g (by simp[Op.operands,Call.operands]) ab L];rw[L]at hs;unfold Na at hs ⊢;split at hs
    .rename_i f C;cases V:lk f tb.fns with
     | none=>rw[V]at hs;simp[KS]at hs
     | some sp =>
      rw[V]at hs;simp only[KS]at hs ⊢;cases R:Gg sp.lend σ sp.ins args.toList with
      | none=>rw[R]at hs;simp[LZ]at hs
      | some ds =>
       rw[Vk h (λx hx=>j x (B x hx)) R];rw[R]at hs;exact hs
    cases hs
  | builtin b =>
   simp only[EO]at hs ⊢;obtain⟨args⟩:=args;obtain⟨argTypes⟩:=argTypes;simp only at hs B ⊢;unfold E6 at hs ⊢;split at hs
   .exact one (f:=VN (lk _ tb.ty)) (B _ sc) (by cases lk _ tb.ty<;>simp[VN]) hs
   .rename_i x y t u;cases hx:Aq σ x with
    | none=>rw[hx]at hs;simp[Dg]at hs
    | some xv =>
     cases hy:Aq σ y with
     | none=>rw[hx,hy]at hs;simp[Dg]at hs
     | some N =>
      rw[j x (B _ sc) xv hx,j y (B _ sc) N hy];rw[hx,hy]at hs;unfold Dg at hs ⊢;split at hs
      .split at hs
       .rename_i M;simp only[M,AAd];rename_i O G;cases G;rw[M]at hs;cases hl:lk u tb.ty with
        | none=>rw[hl]at hs;simp[E5]at hs
        | some ti =>
         rw[hl]at hs;unfold E5 at hs ⊢;split at hs
         .rename_i e offs el b C;cases A:Q1 σ e N with
          | none=>rw[A]at hs;cases T:lk el tb.ty<;>rw[T]at hs<;>simp[Fj]at hs
          | some ys =>
           rw[A]at hs;rw[Pq h A];exact hs
         cases hs
       cases hs
      .split at hs
       .rename_i M;simp only[M,AAd];rename_i O G;cases G;rw[M]at hs;cases hl:lk u tb.ty with
        | none=>rw[hl]at hs;simp[KR]at hs
        | some ti =>
         rw[hl]at hs;unfold KR at hs ⊢;split at hs
         .rename_i e offs el b C;split at hs
          .rename_i S;simp only[S,AAd];cases A:Q1 σ _ N with
           | none=>rw[A]at hs;cases T:lk el tb.ty<;>rw[T]at hs<;>simp[LY]at hs
           | some ys =>
            rw[A]at hs;rw[Pq h A];exact hs
          cases hs
         cases hs
       cases hs
      cases hs
   .exact K (f:=Tw) (B _ sc) (B _ sc) (λb=>by simp[Tw]) (λa=>by cases a<;>simp[Tw]) hs
   .exact K (f:=Tx) (B _ sc) (B _ sc) (λb=>by simp[Tx]) (λa=>by cases a<;>simp[Tx]) hs
   .rename_i x y z t u ap;cases hx:Aq σ x with
    | none=>rw[hx]at hs;simp[Jh]at hs
    | some xv =>
     cases hy:Aq σ y with
     | none=>rw[hx,hy]at hs;simp[Jh]at hs
     | some N =>
      cases J:Aq σ z with
      | none=>rw[hx,hy,J]at hs;simp[Jh]at hs
      | some aj =>
       rw[j x (B _ sc) xv hx,j y (B _ sc) N hy,j z (B _ sc) aj J,<-hx,<-hy,<-J];exact hs
   .rename_i ts x y z u r;have L:∀(r:List Operand) (k:IntKind) (o:Option Int) (m:Int),(∀q∈r,∀v,Aq σ q=some v->Aq σ' q=some v)->Fk σ k o r=some m->Fk σ' k o r=some m:=by
     intro r;induction r with
     | nil=>intro k o m _ h;cases o<;>(simp[Fk]at h;try exact oN some h)
     | cons q r ae =>
      intro k o m P h;cases o with
      | none=>simp[Fk]at h
      | some a =>
       simp only[Fk]at h ⊢;cases A:Aq σ q with
       | none=>rw[A]at h;cases r<;>simp[PM,Fk]at h
       | some v =>
        rw[A]at h;rw[P q sc v A];exact ae k _ m (λp D=>P p (by simp[D])) h
    cases hx:Aq σ x with
    | none=>rw[hx]at hs;simp[PN]at hs
    | some xv =>
     rw[hx]at hs;rw[j x (B _ sc) xv hx];unfold PN at hs ⊢;split at hs
     .rename_i k a C;cases C;cases H:Fk σ k (some a) (y :: z :: u :: r) with
      | none=>rw[H]at hs;simp[Sq]at hs
      | some m =>
       rw[H]at hs;rw[L _ _ _ _ (λq P=>j q (B _ (GO _ P))) H];exact hs
     cases hs
   cases hs
end
end
end Go.Proofs.YtapkhdkbkodbjaaGreat.Fw
