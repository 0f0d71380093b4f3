/- One operation, a sequence, loops, the entry and the end of a function: the rules. -/
import Derived.Test.YtcmadlghkcjcbaaGreatGZD
import Derived.Deep.LoopGhost
import Derived.ControlIn
set_option linter.unusedVariables false
set_option linter.unusedSimpArgs false
namespace Go.Proofs.YtcmadlghkcjcbaaGreat.Fw
variable {j n:Nat} {x y:Code} {Q:Exit->Act->World->Prop} {Z O:St} {a:Act} {w:World} {v P:AV} {Y:Act->World->Prop} {X:ResultVar} {W:Value} {o:Operand} {V:Oper} {U:Array Oper} {b:Bool} {T:Type} {S:Nat->Value} {R:Func} {N:Prop}
section
open Go Go.RowKit
abbrev AC4:=@Go.wpIn_region_list
abbrev ACX:=@Go.wpIn_mono
structure Cx where
 P:Program
 tb:Tb
 w0:World
 K:Nat->Prop
 O0:Nat->Prop
 nt:Nat
 
 ds:Fp:={}
 
 r:Option Nat:=none
structure Cx.Ok (c:Cx):Prop where
 K:∀b,c.K b->b<c.w0.heap.size
 O:∀b,c.O0 b->b<c.w0.heap.size
 T:DC c.P c.tb
 F:I2 c.P c.tb
def Cx.sat (c:Cx) (σ:St) (a:Act) (w:World):Prop:=∃ρ,CG c.w0 c.K c.O0 c.nt c.ds σ ρ a w
section
variable {c:Cx}
theorem A5g (hc:c.Ok) {σ:St} {ρ:Nat->Value} (h:CG c.w0 c.K c.O0 c.nt c.ds σ ρ a w):A9q c.P c.tb w c.O0 σ ρ a where
 hT:=hc.T
 hF:=hc.F
 obj:=h.objs
 own:=by
  intro b hb;rcases hb with h0|⟨n,⟨o,ho⟩,hb⟩
  .exact AAU (hc.O b h0) h.frm.size
  exact(h.objs n o ho).block_lt hb
 ev:=GA h.env
theorem A0X (e:c.Ok) {σ σ':St} {ρ:Nat->Value} (hs:CG c.w0 c.K c.O0 c.nt c.ds σ ρ a w) {o:Oper} (h:F7 c.tb σ o.dst o.op=some (N,σ')) (j:N) (hd:∀d,o.dst=some d->d<c.nt)
  {next:Act->World->Prop} (hn:∀i w',c.sat σ' i w'->next i w'):o.wpIn (FR c.r) 0 c.P a w next Q:=by
 obtain⟨dst,op,type,pos,after,guard⟩:=o;simp only at h hd;cases op<;>simp only[F7]at h<;>try(cases h;done)
 case store t x y =>
  cases dst with
  | some d=>simp[EZ]at h
  | none =>
   simp only[EZ]at h;obtain⟨w',ρ',h1,f⟩:=nI (P:=c.P) hs e.K e.O e.T h j;exact sY (w':=w') (by simp[execOp,h1]) (hn _ _ ⟨ρ',f⟩)
 case mapUpdate t m x y =>
  cases dst with
  | some d=>simp[EZ]at h
  | none =>
   simp only[EZ]at h;obtain⟨w',h1,f⟩:=xJ (P:=c.P) hs e.K e.T h;exact sY (w':=w') (by simp[execOp,h1]) (hn _ _ ⟨ρ,f⟩)
 case call cl =>
  obtain⟨callee,args,argTypes⟩:=cl;cases callee with
  | value g=>simp[DW]at h
  | invoke r m=>simp[DW]at h
  | builtin b =>
   simp only[DW]at h;obtain⟨args⟩:=args;obtain⟨argTypes⟩:=argTypes;simp only at h;unfold D7 at h;split at h
   .rename_i x y t u;obtain⟨z,w',ρ',h1,f⟩:=nH (P:=c.P) (ty:=type) hs e.K e.O e.T hd h j;exact A0 (u:=z) (w':=w') (by simp[execOp,resolve,invoke,builtin,h1]) (hn _ _ ⟨ρ',f⟩)
   cases h
theorem P4 (b:c.Ok) {σ σ':St} (hs:c.sat σ a w) {o:Oper} (h:Ga c.tb o σ=some (N,σ')) (g:N) (hd:∀d,o.dst=some d->d<c.nt)
  {next:Act->World->Prop} (hn:∀f w',c.sat σ' f w'->next f w'):o.wpIn (FR c.r) 0 c.P a w next Q:=by
 obtain⟨ρ,hs⟩:=hs;have hs:=Kl (l:=CY σ o.op) hs;unfold Ga TQ at h;generalize DB (CY σ o.op) σ=j at h hs;cases e:aq c.tb j (o.dst.getD 0) o.op with
 | some r =>
  obtain⟨k,v,obs⟩:=r;rw[e]at h;simp only[Lz]at h;split at h
  .rename_i hf;cases h;exact sU (A5g b hs) e g hf λu ρ' w' i=>hn _ _ ⟨ρ',hs.add b.K b.O hd hf i⟩
  cases h
 | none =>
  rw[e]at h;exact A0X b hs h g hd hn
theorem Hn {ops:Array Oper} {σ:St} (hs:c.sat σ a w) {o:Oper} (h:K1 ops.toList σ o.guard=some b):Region.wanted o (yielded ops a.tmps)=b:=by
 obtain⟨ρ,hs⟩:=hs;unfold K1 at h;split at h
 .rename_i e;cases h;simp[Region.wanted,e]
 rename_i j p e;cases f:(ops.toList[j]?).bind (·.dst) with
 | none=>rw[f]at h;simp[L1]at h
 | some g =>
  rw[f]at h;simp only[L1]at h;cases hl:lk g σ.env with
  | none=>rw[hl]at h;simp[Rl]at h
  | some v =>
   rw[hl]at h;unfold Rl at h;split at h
   .rename_i k l;cases l;cases h;have d:=hs.env g _ hl;have d:=EH d;have n:(ops[j]?).bind (·.dst)=some g:=by simpa using f
    have m:a.tmps[g]?=some (.bool k):=by
     by_cases i:g<a.tmps.size
     .have:a.tmps.getD g undef=a.tmps[g]:=by simp[Array.getD,i]
      rw[this]at d;rw[AAq i,d]
     have:a.tmps.getD g undef=undef:=by simp[Array.getD,i]
     rw[this]at d;cases d
    simp only[Region.wanted,e,yielded,n,Option.bind_some,m];cases k<;>cases p<;>rfl
   cases h
theorem NJ {σ:St} (b:c.Ok) (hs:c.sat σ a w) {dst:Option Nat} (hd:∀d,dst=some d->d<c.nt):c.sat (σ.add (.raw undef) [] dst) (a.put dst undef) w:=by
 obtain⟨ρ,hs⟩:=hs;exact⟨ρ,hs.add b.K b.O hd (by simp[Bh]) (QS.still rfl)⟩
def He (nt:Nat) (o:Oper):Bool :=
 match o.dst with
 | some d=>decide (d<nt)
 | none=>true
theorem Ce {nt:Nat} {o:Oper} (h:He nt o=true):∀d,o.dst=some d->d<nt:=by grind [He]
theorem Rs (d:c.Ok) {ops:Array Oper} {Q:Exit->Act->World->Prop} {r:List Oper}:∀(l:List Oper) {σ σ':St} {vc:Prop} {a:Act} {w:World},c.sat σ a w->(∀o∈l,He c.nt o=true)->B5 c.tb ops.toList l σ=some (vc,σ')->vc ->
  (∀f w',c.sat σ' f w'->wpListIn (FR c.r) 0 c.P ops Q r f w')->wpListIn (FR c.r) 0 c.P ops Q (l++r) a w
 | [],σ,σ',vc,a,w,hs,hd,h,e,g=>by grind [B5]
 | o :: l,σ,σ',vc,a,w,hs,hd,h,e,g=>by
  simp only[B5]at h;cases i:K1 ops.toList σ o.guard with
  | none=>rw[i]at h;simp[evG]at h
  | some b =>
   rw[i]at h;have q:=Hn hs i;have p:=Ce (hd o sc);rw[AB6];unfold wpListIn;cases b with
   | true =>
    simp only[evG]at h;rw[BY q];cases m:Ga c.tb o σ with
    | none=>rw[m]at h;simp[evK]at h
    | some r =>
     obtain⟨v,u⟩:=r;rw[m]at h;simp only[evK]at h;cases k:B5 c.tb ops.toList l u with
     | none=>rw[k]at h;simp[YW]at h
     | some t =>
      obtain⟨x,σ2⟩:=t;rw[k]at h;simp only[YW]at h;cases h;exact P4 d hs m e.1 p λf w' s=>Rs d l s (λn j=>hd n (by simp[j])) k e.2 g
   | false =>
    simp only[evG]at h;rw[At (by simp[q])];refine⟨λ_ _=>trivial,?_⟩;exact Rs d l (NJ d hs p) (λn j=>hd n (by simp[j])) h e g
theorem P5 (e:c.Ok) {ops:Array Oper} {Q:Exit->Act->World->Prop}:∀(l:List Oper) {σ σ':St} {vc:Prop} {a:Act} {w:World},c.sat σ a w->(∀o∈l,He c.nt o=true)->B5 c.tb ops.toList l σ=some (vc,σ')->vc ->
  (∀g w',c.sat σ' g w'->Q .normal g w')->wpListIn (FR c.r) 0 c.P ops Q l a w
 | [],σ,σ',vc,a,w,hs,hd,h,f,d=>by
  simp only[B5]at h;cases h;exact d _ _ hs
 | o :: l,σ,σ',vc,a,w,hs,hd,h,f,d=>by
  simp only[B5]at h;cases i:K1 ops.toList σ o.guard with
  | none=>rw[i]at h;simp[evG]at h
  | some b =>
   rw[i]at h;have q:=Hn hs i;have p:=Ce (hd o sc);unfold wpListIn;cases b with
   | true =>
    simp only[evG]at h;rw[BY q];cases m:Ga c.tb o σ with
    | none=>rw[m]at h;simp[evK]at h
    | some r =>
     obtain⟨v,u⟩:=r;rw[m]at h;simp only[evK]at h;cases k:B5 c.tb ops.toList l u with
     | none=>rw[k]at h;simp[YW]at h
     | some t =>
      obtain⟨x,σ2⟩:=t;rw[k]at h;simp only[YW]at h;cases h;exact P4 e hs m f.1 p λg w' s=>P5 e l s (λn j=>hd n (by simp[j])) k f.2 d
   | false =>
    simp only[evG]at h;rw[At (by simp[q])];refine⟨λ_ _=>trivial,?_⟩;exact P5 e l (NJ e hs p) (λn j=>hd n (by simp[j])) h f d
end
end
section
open Go Go.RowKit
inductive DP where
 | seq (c:Code)
 | blk (id:Nat)
 
 | inv (post:St->Prop)
def Bn (nt:Nat):Code->Bool
 | .region _ ops _=>ops.toList.all (He nt)
 | .seq a b=>Bn nt a&&Bn nt b
 | .cond _ a b=>Bn nt a&&Bn nt b
 | .block _ b=>Bn nt b
 | .loop b=>Bn nt b
 | .scope b=>Bn nt b
 | _=>true
def C3 (nt:Nat):List DP->Bool
 | []=>true
 | .seq c :: k=>Bn nt c&&C3 nt k
 | _ :: k=>C3 nt k
def Vr (c:Cx) (R:Exit->Act->World->Prop):List DP->Exit->Act->World->Prop
 | [],e,a,w=>R e a w
 | .seq y :: k,.normal,a,w=>y.wpIn (FR c.r) 0 c.P (Vr c R k) a w
 | .seq _ :: k,e,a,w=>Vr c R k e a w
 | .blk id :: k,.exit b,a,w=>if b=id then Vr c R k .normal a w else Vr c R k (.exit b) a w
 | .blk _ :: k,e,a,w=>Vr c R k e a w
 | .inv post :: _,.normal,a,w=>∃σ,c.sat σ a w/\post σ
 | .inv _ :: k,e,a,w=>Vr c R k e a w
inductive s8 where
 | run (cd:Code)
 | out (e:Exit)
def nwp (c:Cx) (R:Exit->Act->World->Prop) (k:List DP):s8->Act->World->Prop
 | .run cd,a,w=>cd.wpIn (FR c.r) 0 c.P (Vr c R k) a w
 | .out e,a,w=>Vr c R k e a w
def IC (nt:Nat):s8->Bool
 | .run cd=>Bn nt cd
 | .out _=>true
def Ev (c:Cx) (R:Exit->Act->World->Prop) (n:s8) (k:List DP) (σ:St):Prop :=
 IC c.nt n=true->C3 c.nt k=true->∀a w,c.sat σ a w->nwp c R k n a w
theorem Ua {F:Fence} {P:Program} {c:Code} (b:Nat->Act->World->Prop) (i:Nat) (o:b i a w)
  (round:∀n a w,b n a w->c.wpIn F j P (Exit.then (λg w'=>∃f,f<n/\b f g w') Q) a w):(Code.loop c).wpIn F j P Q a w:=by
 refine wpIn_loop (λa w=>∃n,b n a w) (λa w=>leastOf (λn=>b n a w)) ⟨i,o⟩ ?_;intro a w k;refine ACX (round _ a w (leastOf_spec k).1) ?_;intro e g w' d;cases e with
 | normal =>
  obtain⟨f,m,h⟩:=d;exact show (∃n,b n g w')/\leastOf (λn=>b n g w')<leastOf (λn=>b n a w) from ⟨⟨f,h⟩,ACu ((leastOf_spec ⟨f,h⟩).2 f h) m⟩
 | exit id=>exact d
 | goto l=>exact d
 | ret=>exact d
 | panic ch=>exact d
 | outgrown=>exact d
def Ent (c:Cx) (σ σ':St):Prop:=∀a w,c.sat σ a w->c.sat σ' a w
section
variable {c:Cx} {R:Exit->Act->World->Prop} {k:List DP} {σ σ':St}
theorem Ev.ent {n:s8} (h:Ev c R n k σ') (d:Ent c σ σ'):Ev c R n k σ:=λh1 b a w hs=>h h1 b a w (d a w hs)
theorem A7M (h:Ev c R (.run x) (.seq y :: k) σ):Ev c R (.run (.seq x y)) k σ:=by
 intro h1 b a w hs;simp only[IC,Bn,An]at h1;refine wpIn_seq (ACX (h h1.1 (by simp[C3,h1.2,b]) a w hs) ?_);intro e f w' d;cases e<;>exact d
theorem A5h (h:Ev c R (.out .normal) k σ):Ev c R (.run .skip) k σ:=λ_ b a w hs=>wpIn_skip (h rfl b a w hs)
theorem A7N (h:Ev c R (.out .ret) k σ):Ev c R (.run .ret) k σ:=λ_ b a w hs=>wpIn_ret (h rfl b a w hs)
theorem A5i (h:Ev c R (.out (.exit j)) k σ):Ev c R (.run (.exit j)) k σ:=λ_ b a w hs=>wpIn_exit (h rfl b a w hs)
theorem A0Z {b:Code} (h:Ev c R (.run b) (.blk j :: k) σ):Ev c R (.run (.block j b)) k σ:=by
 intro h1 d a w hs;refine wpIn_block (ACX (h (by simpa[IC,Bn] using h1) (by simpa[C3] using d) a w hs) ?_);intro e g w' f;cases e<;>exact f
def EvR (c:Cx) (R:Exit->Act->World->Prop) (k:List DP):C7->Prop
 | some (vc,σ)=>vc/\Ev c R (.out .normal) k σ
 | none=>False
theorem xL (f:c.Ok) {ops:Array Oper} (h:EvR c R k (B5 c.tb ops.toList ops.toList σ)):Ev c R (.run (.region j ops false)) k σ:=by
 intro h1 e a w hs;cases b:B5 c.tb ops.toList ops.toList σ with
 | none=>rw[b]at h;exact h.elim
 | some r =>
  obtain⟨vc,σ'⟩:=r;rw[b]at h;simp only[IC,Bn,Of]at h1;exact AC4 (P5 f ops.toList hs h1 b h.1 λd w' g=>h.2 rfl e d w' g)
def EvC (c:Cx) (R:Exit->Act->World->Prop) (x y:Code) (k:List DP) (σ:St):Option AV->Prop
 | some (.p .bool b)=>(b=true->Ev c R (.run x) k σ)/\(b=false->Ev c R (.run y) k σ)
 | _=>False
theorem A5j (h:EvC c R x y k σ (Aq σ o)):Ev c R (.run (.cond o x y)) k σ:=by
 intro h1 f a w hs;simp only[IC,Bn,An]at h1;obtain⟨ρ,e⟩:=hs;have i:=GA e.env;cases d:Aq σ o with
 | none=>rw[d]at h;exact h.elim
 | some v =>
  have j:=i o v d;rw[d]at h;unfold EvC at h;split at h
  .rename_i b g;cases g;have hb:=EH j;exact wpIn_cond_split hb (λhb=>h.1 hb h1.1 f a w ⟨ρ,e⟩) (λhb=>h.2 hb h1.2 f a w ⟨ρ,e⟩)
  exact h.elim
theorem Vs {y:Code} (h:Ev c R (.run y) k σ):Ev c R (.out .normal) (.seq y :: k) σ:=by
 intro _ b a w hs;simp only[C3,An]at b;exact h b.1 b.2 a w hs
theorem gC {y:Code} (h:Ev c R (.out (.exit j)) k σ):Ev c R (.out (.exit j)) (.seq y :: k) σ:=by
 intro _ b a w hs;simp only[C3,An]at b;exact h rfl b.2 a w hs
theorem nJ {y:Code} (h:Ev c R (.out .ret) k σ):Ev c R (.out .ret) (.seq y :: k) σ:=by
 intro _ b a w hs;simp only[C3,An]at b;exact h rfl b.2 a w hs
theorem nK (h:Ev c R (.out .normal) k σ):Ev c R (.out .normal) (.blk j :: k) σ:=λ_ b a w hs=>h rfl (by simpa[C3] using b) a w hs
theorem Tf {b:Nat} (h:if b=j then Ev c R (.out .normal) k σ else Ev c R (.out (.exit b)) k σ):Ev c R (.out (.exit b)) (.blk j :: k) σ:=by
 intro _ d a w hs;have d:C3 c.nt k=true:=by simpa[C3] using d
 show (if b=j then Vr c R k .normal a w else Vr c R k (.exit b) a w);split at h
 .rename_i e;rw[BY e];exact h rfl d a w hs
 rename_i e;rw[At e];exact h rfl d a w hs
theorem nL (h:Ev c R (.out .ret) k σ):Ev c R (.out .ret) (.blk j :: k) σ:=λ_ b a w hs=>h rfl (by simpa[C3] using b) a w hs
theorem AB {post:St->Prop} (h:post σ):Ev c R (.out .normal) (.inv post :: k) σ:=λ_ _ _ _ hs=>⟨σ,hs,h⟩
theorem gD {post:St->Prop} (h:Ev c R (.out (.exit j)) k σ):Ev c R (.out (.exit j)) (.inv post :: k) σ:=λ_ b a w hs=>h rfl (by simpa[C3] using b) a w hs
theorem nM {post:St->Prop} (h:Ev c R (.out .ret) k σ):Ev c R (.out .ret) (.inv post :: k) σ:=λ_ b a w hs=>h rfl (by simpa[C3] using b) a w hs
def A9r (c:Cx) {ι:Type} (I:ι->St) (μ:ι->Nat) (i:ι) (σ:St):Prop:=∃j,μ j<μ i/\Ent c σ (I j)
theorem AJ {ι:Type} (d:ι->St) (f:ι->Nat) (g:ι) {b:Code} (h0:Ent c σ (d g)) (hb:∀i,Ev c R (.run b) (.inv (A9r c d f i) :: k) (d i)):Ev c R (.run (.loop b)) k σ:=by
 intro h1 m a w hs;have h1:Bn c.nt b=true:=by simpa[IC,Bn] using h1
 refine Ua (λn a w=>∃i,f i=n/\c.sat (d i) a w) (f g) ⟨g,rfl,h0 a w hs⟩ ?_;rintro n a w ⟨i,rfl,hs⟩;refine ACX (hb i h1 (by simpa[C3] using m) a w hs) ?_;intro e l w' h;cases e with
 | normal =>
  obtain⟨σ',q,j,p,o⟩:=h;exact⟨f j,p,j,rfl,o l w' q⟩
 | _=>exact h
theorem A5k {ι:Type} (b:ι->St) (h:Ev c R (.run x) (.inv (fun σ'=>∃i,Ent c σ' (b i)) :: .seq y :: k) σ) (hy:∀i,Ev c R (.run y) k (b i)):Ev c R (.run (.seq x y)) k σ:=by
 intro h1 f a w hs;simp only[IC,Bn,An]at h1;refine wpIn_seq (ACX (h h1.1 (by simp[C3,h1.2,f]) a w hs) ?_);intro e d w' g;cases e with
 | normal =>
  obtain⟨σ',l,i,j⟩:=g;exact hy i h1.2 f d w' (j d w' l)
 | _=>exact g
end
end
section
open Go Go.RowKit
def AM:Nat->(ts:List Ty)->KU ts->List (Nat×AV)
 | _,[],_=>[]
 | s,t :: ts,d=>(s,.p t d.1) :: AM (s+1) ts d.2
def Km (σ:St) (ty:Ty):Option AV->Option AV
 | some (.bp n a off)=>match E8 ty a off (lk n σ.objs) with
  | some (_,v,_)=>some v
  | none=>none
 | _=>none
def Jx (tb:Tb) (σ:St):ResultVar->Option AV
 | .tmp t=>lk t σ.env
 | .cell a t=>match lk t tb.ty with
  | some ti=>Km σ ti.ty (lk a σ.env)
  | none=>none
def NK:Option AV->List Nat
 | some v=>v.names
 | none=>[]
def JW (σ:St) (t:Ty):Option AV->Option t.den
 | some v=>N2 false σ t v
 | none=>none
def I4 (σ:St) (et:TypeId) (e:Ty):Option Obj->Option (List e.den)
 | some (.arr b a xs)=>if b=et then BR (.slice e) ⟨.slice a,xs⟩ else none
 | _=>none
def L9 (tb:Tb) (σ:St) (rv:ResultVar):RV->Prop
 | .p t d=>JW (DB (NK (Jx tb σ rv)) σ) t (Jx tb (DB (NK (Jx tb σ rv)) σ) rv)=some d
 | .own et e xs=>match Jx tb σ rv with
  | some (.sr n a 0 hi)=>a=e/\I4 σ et e (lk n σ.objs)=some xs/\hi=xs.length
  | _=>False
def OG (tb:Tb) (σ:St):List ResultVar->List RV->Prop
 | [],[]=>True
 | [rv],[r]=>L9 tb σ rv r
 | rv :: b,.p t d :: a=>L9 tb σ rv (.p t d)/\OG tb σ b a
 | _,_=>False
section
variable {P:Program} {tb:Tb} {w0:World} {O0:Nat->Prop} {nt:Nat} {ds:Fp}
def cx (P:Program) (tb:Tb) (w0:World) (O0:Nat->Prop) (nt:Nat):Cx:={ P:=P,tb:=tb,w0:=w0,K:=λb=>b<w0.heap.size,O0:=O0,nt:=nt }
theorem Yx:∀(ts:List Ty) (a:List Value) (ds:KU ts) (k:Nat) (w:World) (O:Nat->Prop),Pw w O ts a ds->∀s v,lk s (AM k ts ds)=some v->k<=s/\∃u,a[s-k]?=some u/\∃t d,v=.p t d/\BU w O t u d
 | [],a,ds,k,w,O,h,s,v,hs=>by simp[AM,lk]at hs
 | t :: ts,a,ds,k,w,O,h,s,v,hs=>by
  obtain⟨u,r,rfl,h1,b⟩:=h;simp only[AM,lk]at hs;split at hs
  .grind
  obtain⟨c,g,e,f⟩:=Yx ts r ds.2 (k+1) w O b s v hs;grind
theorem Tg:∀ {ts:List Ty} {a:List Value} {ds:KU ts} {w:World} {O:Nat->Prop},Pw w O ts a ds->a.length=ts.length
 | [],a,ds,w,O,h=>by have h:a=[]:=h;subst h;rfl
 | t :: ts,a,ds,w,O,h=>by
  obtain⟨u,r,rfl,h1,b⟩:=h;simp[Tg b]
theorem xM {ts:List Ty} {a:List Value} {ds:KU ts} (h:Pw w0 O0 ts a ds) (k:a.length<=nt) :
  (cx P tb w0 O0 nt).sat ⟨AM 0 ts ds,[]⟩ { tmps:=a.toArray++Array.replicate (nt-a.toArray.size) undef,defers:=[] } w0:=by
 refine⟨λ_=>undef,⟨rfl,rfl,rfl,IN _,λ_ _=>rfl⟩,by simp[cx];omega,rfl,(λp j=>by simp[cx]at j),λn o h=>by simp[lk]at h,λn b ⟨o,h⟩=>by simp[lk]at h,λn m b ⟨o,h⟩=>by simp[lk]at h,λs v hs=>?_⟩;obtain⟨_,u,h1,t,d,rfl,e⟩:=Yx ts a ds 0 w0 O0 h s v hs;have c:s<a.length:=by grind
 have g:(a.toArray++Array.replicate (nt-a.toArray.size) undef).getD s undef=u:=by
  have h1:a[s]?=some u:=by simpa using h1
  have:a[s]=u:=by rw[AT c]at h1;injection h1
  simp[Array.getElem?_append,c,this]
 rw[g];refine BU.mono (λb _ hb f=>?_) (λ_ _ _=>rfl) e;rcases f with h0|⟨n,⟨o,i⟩,_⟩
 .exact hb h0
 simp[lk]at i
def Jy (tmps:Array Value):ResultVar->Sem Value
 | .tmp t=>pure (tmps.getD t undef)
 | .cell a t=>do loadVar t (<-asAddr (tmps.getD a undef))
theorem Ov (fn:Func) (tmps:Array Value):results fn tmps=(do let a <-fn.results.mapM (Jy tmps);pure (if h:a.size=1 then a[0] else .tuple a)):=by
 unfold results
 congr 1
theorem Ut (hT:DC P tb) {K:Nat->Prop} {σ:St} {ρ:Nat->Value} {w:World} (hs:CG w0 K O0 nt ds σ ρ a w) {rv:ResultVar} (h:Jx tb σ rv=some v) :
  ∃u,(Jy a.tmps rv).run P w=.ok u w/\B7 (vw w O0 σ ρ) v u:=by
 cases rv with
 | tmp t =>
  simp only[Jx]at h;exact⟨_,by simp[Jy],hs.env t v h⟩
 | cell x t =>
  simp only[Jx]at h;cases ht:lk t tb.ty with
  | none=>rw[ht]at h;simp at h
  | some ti =>
   rw[ht]at h;simp only at h;cases hx:lk x σ.env with
   | none=>rw[hx]at h;simp[Km]at h
   | some xv =>
    rw[hx]at h;unfold Km at h;split at h
    .rename_i n j off f;cases f;have d:=hs.env x _ hx;split at h
     .rename_i vc l obs g;cases h;have i:LP σ (some ti) (some (.bp n j off))=some (vc,v,obs):=g;obtain⟨_,u,h1,e⟩:=A0G (hT _ _ ht) hs.objs i d;obtain⟨k,b,_,c⟩:=d;rw[c]at h1;have c:a.tmps.getD x undef=.pointer (some ⟨b,off,none⟩):=c;refine⟨u,?_,e⟩;simp only[Instr.loadAt,Instr.sureAddr,AAZ,ABO,AAl]at h1;simp only[Jy,c,asAddr,AAZ,ABO,AAl,h1]
     cases h
    cases h
theorem A5l (hT:DC P tb) {K:Nat->Prop} {σ:St} {ρ:Nat->Value} {w:World} (hs:CG w0 K O0 nt ds σ ρ a w) {rv:ResultVar} {t:Ty} {d:t.den} (h:L9 tb σ rv (.p t d)) :
  ∃u,(Jy a.tmps rv).run P w=.ok u w/\BU w O0 t u d:=by
 unfold L9 at h;have e:=Kl (l:=NK (Jx tb σ rv)) hs;generalize DB (NK (Jx tb σ rv)) σ=f at h e;cases c:Jx tb f rv with
 | none=>rw[c]at h;simp[JW]at h
 | some v =>
  rw[c]at h;simp only[JW]at h;obtain⟨u,h1,g⟩:=Ut hT e c;have i:=LS (V:=vw w O0 f ρ) (O':=O0) (λb hb j=>hb (.inl j)) (λh=>by cases h) e.objs h g;exact⟨u,h1,i⟩
theorem A10 (hT:DC P tb) {K:Nat->Prop} {σ:St} {ρ:Nat->Value} {a:Act} {w:World} (hs:CG w0 K O0 nt ds σ ρ a w):∀ {f:List ResultVar} {c:List RV},(∀r∈c,∃t d,r=.p t d)->OG tb σ f c ->
  ∃e:List Value,(f.mapM (Jy a.tmps)).run P w=.ok e w/\e.length=c.length /\
   ∀nm V,V.w=w->(∀b,V.O b->O0 b)->H9 V (I0 nm c) e
 | [],[],_,_=>⟨[],by simp,rfl,λ_ _ _ _=>rfl⟩
 | [],_ :: _,_,h=>by simp[OG]at h
 | _ :: _,[],_,h=>by simp[OG]at h
 | rv :: f,r :: c,i,h=>by
  obtain⟨t,d,rfl⟩:=i r sc;have g:L9 tb σ rv (.p t d)/\OG tb σ f c:=by
   cases f with
   | nil =>
    cases c with
    | nil=>exact⟨h,trivial⟩
    | cons s v=>exact⟨h.1,h.2⟩
   | cons x y=>exact⟨h.1,h.2⟩
  obtain⟨u,h1,o⟩:=A5l hT hs g.1;obtain⟨e,q,j,k⟩:=A10 hT hs (λr m=>i r (by simp[m])) g.2;refine⟨u :: e,?_,by simp[j],λnm V n l=>⟨u,e,rfl,?_,k _ V n l⟩⟩
  .simp_all
  show BU V.w V.O t u d;grind [BU.mono]
def Vt (P:Program) (fn:Func) (w0:World) (O0:Nat->Prop) (outs:List RV):Exit->Act->World->Prop :=
 bodyPost P fn λe w'=>∃u,e=.returned u/\A0P w0 O0 outs u w'
theorem A11 (s:(cx P tb w0 O0 nt).Ok) {fn:Func} {outs:List RV} {σ:St} {e:Exit} (x:e=.ret\/e=.normal) (i:∀r∈outs,∃t d,r=.p t d) (h:OG tb σ fn.results.toList outs) :
  Ev (cx P tb w0 O0 nt) (Vt P fn w0 O0 outs) (.out e) [] σ:=by
 intro _ _ a w hs;obtain⟨ρ,hs⟩:=hs;obtain⟨f,h1,g,m⟩:=A10 s.T hs i h;have h1:(fn.results.toList.mapM (Jy a.tmps)).run P w=.ok f w:=h1;have q:Below w0.heap.size w0 w:=⟨hs.frm.os,hs.frm.tape,hs.frm.output,hs.frm.size,hs.frm.block⟩;have B:∃v,(results fn a.tmps).run P w=.ok v w/\A0P w0 O0 outs v w:=by
  have hm:(fn.results.mapM (Jy a.tmps)).run P w=.ok f.toArray w:=by
   rw[ABI]
   simp_all
  refine⟨if h:f.toArray.size=1 then f.toArray[0] else .tuple f.toArray,?_,λnm=>⟨λ_=>undef,?_⟩⟩
  .rw[Ov];simp only[AAZ,hm,AAl,ABO]
  have y:DA nm outs=[]:=by
   clear h h1 g m;induction outs generalizing nm with
   | nil=>rfl
   | cons r D C =>
    obtain⟨t,d,rfl⟩:=i r sc;simp only[DA,VZ,ABm];exact C (λr A=>i r (by simp[A])) (nm+10000)
  rw[y];refine⟨q,λ_ _=>rfl,?_,(λ_ _ h=>by cases h),(λ_ _ _ h=>by cases h),(λ_ _ _ _ _ h=>by cases h)⟩;have c:=m nm (vw w O0 (EM ⟨[],[]⟩ []) (λ_=>undef)) rfl (λb hb=>by
   rcases hb with h0|⟨n,⟨o,z⟩,_⟩
   .exact h0
   simp[EM,lk]at z)
  match outs,i,f,g,c with
  | [],_,f,g,c =>
   have c:f=[]:=c;subst c;exact(rfl:_=_)
  | [r],i,f,g,c =>
   obtain⟨u,l,rfl,j,k⟩:=c;have k:l=[]:=k;subst k;simp only[H7];exact A0y j
  | E :: F :: D,i,f,g,c =>
   have:¬f.toArray.size=1:=by simp at g ⊢;omega
   rw[dif_neg this];exact⟨f,rfl,c⟩
 obtain⟨v,c,j⟩:=B;rcases x with rfl|rfl
 .exact⟨hs.defers,v,c,v,rfl,j⟩
 exact⟨hs.defers,v,c,v,rfl,j⟩
end
end
section
open Go Go.RowKit
def Ty.ok:(t:Ty)->t.den->Prop
 | .int k,d=>KS k d
 | .bool,_=>True
 | .str,d=>ByteArray.size d<=AQ
 | .slice e,d=>List.length d<=AQ/\∀x∈(d:List e.den),e.ok x
 | .prod a b,d=>a.ok d.1/\b.ok d.2
 | .agg t,d=>t.ok d
 | .ref _,_=>True
theorem ID {w:World} {O:Nat->Prop}:∀ {t:Ty} {cs:List Value} {d:t.den},B1 w O t cs d->t.ok d
 | .int _,_,_,h=>h.2
 | .bool,_,_,_=>trivial
 | .str,_,_,h=>h.2
 | .ref _,_,_,_=>trivial
 | .slice e,_,d,h=>by
  obtain⟨a,c,_,_,f,g⟩:=h;refine⟨f,λx hx=>?_⟩;rcases g with g|⟨ad,_,_,j⟩
  .subst g;simp at hx
  obtain⟨i,hi,rfl⟩:=gO.1 hx;obtain⟨l,_,_,k⟩:=j i _ (AT hi);exact ID k
 | .prod a b,_,_,h=>by
  obtain⟨c1,c2,_,h1,f⟩:=h;exact⟨ID h1,ID f⟩
 | .agg t,cs,d,h=>by
  have h:B1 w O t cs d:=h;exact(ID h:t.ok d)
def oks:(ts:List Ty)->KU ts->Prop
 | [],_=>True
 | t :: ts,d=>t.ok d.1/\oks ts d.2
theorem s9 {w:World} {O:Nat->Prop}:∀ {ts:List Ty} {a:List Value} {ds:KU ts},Pw w O ts a ds->oks ts ds
 | [],_,_,_=>trivial
 | t :: ts,a,ds,h=>by
  obtain⟨v,r,rfl,⟨cs,h1,_⟩,b⟩:=h;exact⟨ID h1,s9 b⟩
section
variable {P:Program} {tb:Tb} {w0:World} {O0:Nat->Prop} {nt:Nat}
theorem A77 {f : FuncId} {fn : Func} {sp : Ab} (d : P.funcs[f]? = some fn) (i : (fn.name == "runtime.NumGoroutine") = false) (c : fn.body = some x) (j : fn.ntmps = nt) (l : sp.ins.length <= nt)
  (g:Bn nt x=true) (hT:DC P tb) (hF:I2 P tb)
  (h:∀(w0:World) (O0:Nat->Prop) (ds:KU sp.ins),(cx P tb w0 O0 nt).Ok->oks sp.ins ds->sp.pre ds->Ev (cx P tb w0 O0 nt) (Vt P fn w0 O0 (sp.out ds)) (.run x) [] ⟨AM 0 sp.ins ds,[]⟩):Ac P f sp:=by
 refine⟨⟨fn,d,i,by simp[c]⟩,λw O o ds e a k=>?_⟩;refine calls_of_wp d c ((wpIn_wide (n:=0)).1 ?_);have m:=Tg a;rw[j];exact h w O ds ⟨λb hb=>hb,e,hT,hF⟩ (s9 a) k g rfl _ _ (xM a O1)
theorem Vu (K:(cx P tb w0 O0 nt).Ok) {fn:Func} {et:TypeId} {e:Ty} {xs:List e.den} {σ:St} {ex:Exit} (j:ex=.ret\/ex=.normal) {rv:ResultVar} (O:fn.results=#[rv]) (h:L9 tb σ rv (.own et e xs)) :
  Ev (cx P tb w0 O0 nt) (Vt P fn w0 O0 [.own et e xs]) (.out ex) [] σ:=by
 intro _ _ a w hs;obtain⟨ρ,hs⟩:=hs;have J:Below w0.heap.size w0 w:=⟨hs.frm.os,hs.frm.tape,hs.frm.output,hs.frm.size,hs.frm.block⟩;unfold L9 at h;simp only at h;split at h
 .rename_i n W hi Q;obtain⟨rfl,c,rfl⟩:=h;cases hn:lk n σ.objs with
  | none=>rw[hn]at c;simp[I4]at c
  | some o =>
   rw[hn]at c;cases o with
   | box f st fs=>simp[I4]at c
   | mapo k v l=>simp[I4]at c
   | frame ai fs=>simp[I4]at c
   | loop L=>simp[I4]at c
   | itr ae ah af ag ab=>simp[I4]at c
   | dfr=>simp[I4]at c
   | nest X ad k d ys hl=>simp[I4]at c
   | arr f d ys =>
    simp only[I4]at c;split at c
    .rename_i N;subst N;obtain⟨rfl,F⟩:=Bk c;cases F;obtain⟨u,hu,H⟩:=Ut (P:=P) K.T hs Q;obtain⟨Y,s⟩:=H;have z:=hs.objs n _ hn;have p:u=ρ n:=by
      obtain⟨S,m,c0,r,_,Z,R,U,rfl,_,h0,_⟩:=s;have r:plc (ρ n)=_:=r;obtain⟨rfl,rfl⟩:=h0 rfl;obtain⟨_,cells,q,_⟩:=z;have q:w.ownsRow 0 f d.size (ρ n) ys.length cells:=q;rw[Hk q]at r;have hm:m=ys.length:=by
       rcases q.2 with ⟨j,aa⟩|⟨g,cap,V,j,_⟩
       .rw[r]at j;injection j;omega
       rw[r]at j;injection j
      rw[r,hm,Nat.sub_zero]
     have A:(results fn a.tmps).run P w=.ok u w:=by
      rw[Ov,O];have:((#[rv]:Array ResultVar).mapM (Jy a.tmps)).run P w=.ok #[u] w:=by
       rw[ABI];simp[hu]
      simp only[AAZ,this,AAl,ABO];rfl
     have t:A0P w0 O0 [.own f d ys] u w:=by
      intro nm;have y:∀m,HK (EM ⟨[],[]⟩ [(nm,.arr f d ys)]) m↔m=nm:=by
       intro m;simp[HK,EM,lk]
      have hk:∀b,¬own O0 σ ρ b->¬own O0 (EM ⟨[],[]⟩ [(nm,.arr f d ys)]) (FA (λ_=>undef) nm u) b:=by
       intro b hb I;rcases I with h0|⟨m,hl,hm⟩
       .exact hb (.inl h0)
       rw[(y m).1 hl,Bp,p]at hm;exact hb (.inr ⟨n,⟨_,hn⟩,hm⟩)
      have G:DA nm [RV.own f d ys]=[(nm,.arr f d ys)]:=rfl;rw[G];refine⟨FA (λ_=>undef) nm u,QS.one (loc:=u) J (λb hb=>?_) ?_ ?_⟩
      .rw[p]at hb;have:=(hs.free n b ⟨_,hn⟩ hb).1;simp only[cx]at this;omega
      .refine⟨(y nm).2 rfl,?_⟩;show DM (plc (FA (λ_=>undef) nm u nm)) _ _ _ u;rw[Bp,p];rw[p]at s;exact s
      rw[p];obtain⟨hm,cells,q,M⟩:=z;refine⟨hm,cells,q,λi x hi=>?_⟩;obtain⟨B,C,D,E⟩:=M i x hi;rw[p]at hk;exact⟨B,C,D,E.mono (λb _ hb=>hk b hb) (λ_ _ _=>rfl)⟩
     rcases j with rfl|rfl
     .exact⟨hs.defers,u,A,u,rfl,t⟩
     exact⟨hs.defers,u,A,u,rfl,t⟩
    cases c
 exact h.elim
end
end
section
open Go Go.RowKit
section
variable {P:Program} {tb:Tb} {w0:World} {O0:Nat->Prop} {nt:Nat} {R:Exit->Act->World->Prop} {k:List DP} {σ σ':St}
theorem tA:(cx P tb w0 O0 nt).tb=tb:=rfl
theorem nN {c:Cx} (a:c.Ok) {id:Nat} {l:List Oper} {vc:Prop} (h:B5 c.tb l l σ=some (vc,σ')) (b:vc) (hk:Ev c R (.out .normal) k σ') :
  Ev c R (.run (.region id l.toArray false)) k σ:=xL a (by
 show EvR _ _ _ (B5 c.tb l l σ);rw[h];exact⟨b,hk⟩)
theorem Vv {c:Cx} (h:Aq σ o=some (.p .bool b)) (ht:b=true->Ev c R (.run x) k σ) (hf:b=false->Ev c R (.run y) k σ):Ev c R (.run (.cond o x y)) k σ :=
 A5j (by rw[h];exact⟨ht,hf⟩)
theorem nP {c:Cx} {id:Nat} (h:Ev c R (.out .normal) k σ):Ev c R (.out (.exit id)) (.blk id :: k) σ:=Tf (by rw[BY rfl];exact h)
theorem nQ {c:Cx} {id a:Nat} (b:a≠id) (h:Ev c R (.out (.exit a)) k σ):Ev c R (.out (.exit a)) (.blk id :: k) σ:=Tf (by rw[At b];exact h)
end
inductive B3 where
 | nm (n:Nat)
 | nil
def Ea (ren:List (Nat×B3)):AV->AV->Prop
 | .p t d,.p u a=>BR u ⟨t,d⟩=some a
 | .raw (.slice none 0 0),.p (.slice e) a=>(a:List e.den)=[]
 | .raw v,.raw u=>v=u
 | .raw (.slice none 0 0),.sr m _ lo hi=>lk m ren=some .nil/\lo=0/\hi=0
 | .sr n e lo hi,.sr m b h c=>lk m ren=some (.nm n)/\e=b/\lo=h/\hi=c
 | .ip t d,.ip u a=>BR u ⟨t,d⟩=some a
 | .bp n p o,.bp m k j=>lk m ren=some (.nm n)/\p=k/\o=j
 | .fn f,.fn g=>f=g
 | .clo f ns,.clo g i=>f=g/\i.map (λm=>lk m ren)=ns.map λn=>some (.nm n)
 | .mp n,.mp m=>lk m ren=some (.nm n)
 | .yl n,.yl m=>lk m ren=some (.nm n)
 | _,.top=>True
 | _,_=>False
def GC (ren:List (Nat×B3)):List AV->List AV->Prop
 | [],[]=>True
 | x :: l,y :: r=>(x.cells=y.cells/\Ea ren x y)/\GC ren l r
 | _,_=>False
def JY (ren:List (Nat×B3)):AV->AV->Prop
 | .ag l,.ag r=>GC ren l r
 | x,y=>Ea ren x y
def Kn (ren:List (Nat×B3)):List AV->List AV->Prop
 | [],[]=>True
 | x :: l,y :: r=>JY ren x y/\Kn ren l r
 | _,_=>False
def B2 (ren:List (Nat×B3)):AV->AV->Prop
 | .tup l,.tup r=>Kn ren l r
 | x,y=>JY ren x y
def MA (ren:List (Nat×B3)):Option AV->AV->Prop
 | some x,y=>B2 ren x y
 | none,.top=>True
 | none,_=>False
def GD (env:List (Nat×AV)) (ren:List (Nat×B3)):List (Nat×AV)->Prop
 | []=>True
 | (s,y) :: r=>MA ren (lk s env) y/\GD env ren r
def JZ (ren:List (Nat×B3)):Option Obj->Obj->Prop
 | some (.arr et e xs),.arr a c ys=>et=a/\BR (.slice c) ⟨.slice e,xs⟩=some ys
 | some (.box et st fs),.box a q d=>et=a/\st=q/\GC ren fs d
 | some (.nest et n k e xs h),.nest a o b c ys m=>(et=a/\n=o/\h=m)/\BR (.slice (.prod b (.slice c))) ⟨.slice (.prod k (.slice e)),xs⟩=some ys
 | some (.mapo k v l),.mapo b f l'=>BR (.slice (.prod b f)) ⟨.slice (.prod k v),l⟩=some l'
 | some (.frame r fs),.frame s d=>r=s/\GD fs ren d
 | some (.itr k v l lf i),.itr b f l' p j=>BR (.slice (.prod b f)) ⟨.slice (.prod k v),l⟩=some l'/\lf=p/\i=j
 | some (.loop L),.loop g=>L=g
 | some .dfr,.dfr=>True
 | _,_=>False
def HO (objs:List (Nat×Obj)) (ren:List (Nat×B3)) (o:Obj):Option B3->Prop
 | some (.nm n)=>JZ ren (lk n objs) o
 | some .nil=>match o with
  | .arr _ e ys=>(ys:List e.den)=[]
  | .box _ _ _=>False
  | .nest _ _ k e ys _=>(ys:List (k.den×List e.den))=[]
  | .mapo _ _ _=>False
  | .frame _ _=>False
  | .itr _ _ _ _ _=>False
  | .loop _=>False
  | .dfr=>False
 | none=>False
def Ah (objs:List (Nat×Obj)) (ren:List (Nat×B3)):List (Nat×Obj)->Prop
 | []=>True
 | (m,o) :: r=>HO objs ren o (lk m ren)/\Ah objs ren r
def CJ:List (Nat×B3)->Bool
 | []=>true
 | (_,.nm n) :: r=>(r.all λp=>match p.2 with|.nm a=>a != n|.nil=>true)&&CJ r
 | (_,.nil) :: r=>CJ r
def MB {α:Type}:List (Nat×α)->Bool
 | []=>true
 | (n,_) :: r=>(r.all λp=>p.1 != n)&&MB r
section
variable {ren:List (Nat×B3)} {V V':Vw}
structure MC (ren:List (Nat×B3)) (V V':Vw):Prop where
 w:V'.w=V.w
 O:∀b,¬V.O b->¬V'.O b
 ρ:∀m n,lk m ren=some (.nm n)->V'.ρ m=V.ρ n
 nil:∀m,lk m ren=some .nil->V'.ρ m=.slice none 0 0
 L:∀m f,lk m ren=some f->V'.L m
theorem MC.vrep (h:MC ren V V') {t:Ty} {v:Value} {d:t.den} (a:BU V.w V.O t v d):BU V'.w V'.O t v d :=
 BU.mono (λb _ hb=>h.O b hb) (λb _ _=>by rw[h.w]) a
theorem MC.rep (h:MC ren V V') {t:Ty} {cs:List Value} {d:t.den} (a:B1 V.w V.O t cs d):B1 V'.w V'.O t cs d :=
 a.mono (λb _ hb=>h.O b hb) (λb _ _=>by rw[h.w])
theorem MC.map (h:MC ren V V'):∀ {b ns:List Nat},b.map (λm=>lk m ren)=ns.map (λn=>some (B3.nm n))->b.map V'.ρ=ns.map V.ρ/\∀m∈b,∃n∈ns,lk m ren=some (.nm n)
 | [],[],_=>⟨rfl,λ_ h=>by cases h⟩
 | [],_ :: _,a=>by simp at a
 | _ :: _,[],a=>by simp at a
 | m :: b,n :: ns,a=>by
  simp only[Rd,ABw]at a;obtain⟨h1,c⟩:=h.map a.2;refine⟨by simp only[Rd,h1,h.ρ _ _ a.1],λx hx=>?_⟩;grind
theorem Yy (h:MC ren V V') {x y:AV} {v:Value} (hm:Ea ren x y) (hx:Ve V x v):Ve V' y v/\(∀t d,y=.p t d->(∀u c,x≠.p u c)->v.oneCell'=true->B1 V'.w V'.O t [v] d):=by
 unfold Ea at hm;split at hm
 .have:=BA hm;injection this with h1 b
  subst h1;cases b;exact⟨h.vrep hx,λ_ _ _ o=>absurd rfl (o _ _)⟩
 .have hx:v=_:=hx;subst hx;have hd:=hm;have f:∀(O:Nat->Prop) (e:Ty),B1 V'.w O (.slice e) [.slice none 0 0] ([]:List e.den):=λO e=>⟨none,0,rfl,by simp,by simp[AQ],.inl rfl⟩;rename_i e c;have hd:c=([]:List e.den):=hd;subst hd;refine⟨⟨_,f _ _,rfl⟩,λt d a _ _=>?_⟩;grind
 .subst hm;exact⟨hx,λt d a=>by cases a⟩
 .rename_i m e lo hi;obtain⟨h1,rfl,rfl⟩:=hm;have hx:v=_:=hx;subst hx;refine⟨⟨h.L _ _ h1,?_⟩,λt d a=>by cases a⟩;rw[h.nil _ h1];exact⟨none,0,0,rfl,by omega,by omega,none,0,rfl,by omega,λ_=>⟨rfl,rfl⟩,λh=>by omega⟩
 .obtain⟨h1,rfl,rfl,rfl⟩:=hm;refine⟨⟨h.L _ _ h1,?_⟩,λt d a=>by cases a⟩;rw[h.ρ _ _ h1];exact hx.2
 .have:=BA hm;injection this with h1 b
  subst h1;cases b;obtain⟨ad,cs,a,i,k,f⟩:=hx;exact⟨⟨ad,cs,a,h.O _ i,λj u l=>by rw[h.w];exact k j u l,h.rep f⟩,λt d a=>by cases a⟩
 .obtain⟨h1,rfl,rfl⟩:=hm;refine⟨⟨h.L _ _ h1,?_⟩,λt d a=>by cases a⟩;rw[h.ρ _ _ h1];exact hx.2
 .subst hm;exact⟨hx,λt d a=>by cases a⟩
 .obtain⟨rfl,hl⟩:=hm;obtain⟨h1,b⟩:=h.map hl;refine⟨⟨?_,λm hm=>?_⟩,λt d a=>by cases a⟩
  .rw[h1];exact hx.1
  obtain⟨n,hn,g⟩:=b m hm;refine⟨h.L _ _ g,?_⟩;rw[h.ρ _ _ g];exact(hx.2 n hn).2
 .refine⟨⟨h.L _ _ hm,?_⟩,λt d a=>by cases a⟩;rw[h.ρ _ _ hm];exact hx.2
 .refine⟨⟨h.L _ _ hm,?_⟩,λt d a=>by cases a⟩;rw[h.ρ _ _ hm];exact hx.2
 .exact⟨trivial,λt d a=>by cases a⟩
 exact hm.elim
theorem xN (h:MC ren V V') {x y:AV} {cs:List Value} (c:x.cells=y.cells) (hm:Ea ren x y) (hx:N3 V x cs):N3 V' y cs:=by
 by_cases b:∃t d,x=.p t d
 .obtain⟨t,d,rfl⟩:=b;have hx:B1 V.w V.O t cs d:=hx;cases y<;>simp only[Ea]at hm<;>try exact hm.elim
  .have:=BA hm;injection this with h1 a
   subst h1;cases a;exact h.rep hx
  have hl:=hx.length;simp only[AV.cells]at c;rw[c]at hl;obtain⟨v,rfl⟩:=ABy.1 hl;exact⟨v,rfl,hx.one v sc,trivial⟩
 have j:∃v,cs=[v]/\v.oneCell'=true/\Ve V x v:=by
  cases x;case p t d=>exact absurd ⟨t,d,rfl⟩ b
  all_goals exact hx
 obtain⟨v,rfl,h1,a⟩:=j;obtain⟨g,i⟩:=Yy h hm a;cases y;case p t d=>exact i t d rfl (λu f e=>b ⟨u,f,e⟩) h1
 all_goals exact⟨v,rfl,h1,g⟩
theorem Ow (h:MC ren V V'):∀ {l r:List AV} {cs:List Value},GC ren l r->Da V l cs->Da V' r cs
 | [],[],cs,_,hx=>hx
 | [],_ :: _,cs,hm,_=>hm.elim
 | _ :: _,[],cs,hm,_=>hm.elim
 | x :: l,y :: r,cs,hm,hx=>by
  obtain⟨c1,c2,rfl,h1,a⟩:=hx;exact⟨c1,c2,rfl,xN h hm.1.1 hm.1.2 h1,Ow h hm.2 a⟩
theorem LU:∀ {l r:List AV},GC ren l r->l.length=r.length
 | [],[],_=>rfl
 | [],_ :: _,hm=>hm.elim
 | _ :: _,[],hm=>hm.elim
 | _ :: _,_ :: _,hm=>by simp[LU hm.2]
theorem Yz (h:MC ren V V') {x y:AV} {v:Value} (hm:JY ren x y) (hx:TR V x v):TR V' y v:=by
 cases x;case ag l =>
  cases y;case ag r =>
   obtain⟨cs,e,h1⟩:=hx;exact⟨cs,e,Ow h hm h1⟩
  all_goals simp only[JY,Ea]at hm
  all_goals first|exact hm.elim|exact trivial
 all_goals
  simp only[TR]at hx;have hm:Ea ren _ y:=hm;exact TR.of1 (Yy h hm hx).1
theorem gE (h:MC ren V V'):∀ {l r:List AV} {a:List Value},Kn ren l r->H9 V l a->H9 V' r a
 | [],[],a,_,hx=>hx
 | [],_ :: _,a,hm,_=>hm.elim
 | _ :: _,[],a,hm,_=>hm.elim
 | x :: l,y :: r,a,hm,hx=>by
  obtain⟨v,c,rfl,h1,b⟩:=hx;exact⟨v,c,rfl,Yz h hm.1 h1,gE h hm.2 b⟩
theorem NL (h:MC ren V V') {x y:AV} {v:Value} (hm:B2 ren x y) (hx:B7 V x v):B7 V' y v:=by
 cases x;case tup l =>
  cases y;case tup r =>
   obtain⟨a,e,h1⟩:=hx;exact⟨a,e,gE h hm h1⟩
  all_goals simp only[B2,JY,Ea]at hm
  all_goals first|exact hm.elim|exact trivial
 all_goals
  simp only[B2]at hm;exact A0y (Yz h hm hx)
theorem DE {objs:List (Nat×Obj)} {m:Nat} {o:Obj}:∀ {l:List (Nat×Obj)},Ah objs ren l->lk m l=some o->HO objs ren o (lk m ren)
 | (j,x) :: l,h,hl=>by
  simp only[lk]at hl;split at hl
  .rename_i e;cases hl;subst e;exact h.1
  exact DE h.2 hl
theorem MD {env:List (Nat×AV)} {s:Nat} {y:AV}:∀ {l:List (Nat×AV)},GD env ren l->lk s l=some y->MA ren (lk s env) y
 | (j,x) :: l,h,hl=>by
  simp only[lk]at hl;split at hl
  .rename_i e;cases hl;subst e;exact h.1
  exact MD h.2 hl
theorem Uu:∀ {l:List (Nat×B3)} {m c n:Nat},CJ l=true->lk m l=some (.nm n)->lk c l=some (.nm n)->m=c
 | (j,f) :: l,m,c,n,a,h1,b=>by
  simp only[lk]at h1 b;have e:CJ l=true:=by
   cases f<;>simp only[CJ,An]at a
   .exact a.2
   exact a
  have g:∀q,f=.nm n->lk q l=some (.nm n)->False:=by
   intro q hf d;subst hf;simp only[CJ,An,Of]at a;have:=a.1 _ (F9 d);simp at this
  split at h1
  .grind
  split at b
  .grind
  exact Uu e h1 b
def A9t (n:Nat):Option B3->Bool
 | some (.nm m)=>m==n
 | _=>false
def A7O (pin:List (Nat×Value)) (ren:List (Nat×B3)):Bool:=pin.all λp=>A9t p.1 (lk p.1 ren)
theorem Ru {V V':Vw} (a:MC ren V V') {J:List (Nat×Obj)} (ab:∀n x,lk n J=some x->A6 V x (V.ρ n)) {o:Obj} {m:Nat} (hf:HO J ren o (lk m ren)):A6 V' o (V'.ρ m):=by
 cases H:lk m ren with
 | none=>rw[H]at hf;exact hf.elim
 | some f =>
  rw[H]at hf;cases f with
  | nil =>
   rw[a.nil m H];cases o with
   | box et st fs=>exact hf.elim
   | mapo k v l=>exact hf.elim
   | frame t fs=>exact hf.elim
   | loop L=>exact hf.elim
   | itr B E C D A=>exact hf.elim
   | dfr=>exact hf.elim
   | nest et af k e ys hl =>
    have hf:ys=([]:List (k.den×List e.den)):=hf;subst hf;exact⟨_,[],[],.inr ⟨rfl,rfl,rfl⟩,by simp[AQ],rfl,ABM _ 0 et _,λi x u h=>by simp at h,λi j b u v h=>by simp at h,λi b u h=>by simp at h⟩
   | arr et e ys =>
    have hf:ys=([]:List e.den):=hf;subst hf;exact⟨by simp[AQ],[],ABM _ 0 et e.size,Hv _ _ _ _⟩
  | nm n =>
   rw[a.ρ m n H];simp only[HO]at hf;cases hn:lk n J with
   | none=>rw[hn]at hf;simp only[JZ]at hf
   | some x =>
    rw[hn]at hf;have q:=ab n x hn;cases x with
    | arr et e xs =>
     cases o with
     | box c st fs=>exact hf.elim
     | mapo k v l=>exact hf.elim
     | frame t fs=>exact hf.elim
     | loop L=>exact hf.elim
     | itr B E C D A=>exact hf.elim
     | dfr=>exact hf.elim
     | nest _ _ _ _ _ _=>exact hf.elim
     | arr c p ys =>
      obtain⟨rfl,g⟩:=hf;obtain⟨rfl,d⟩:=Bk g;cases d;obtain⟨Z,cells,aa,X⟩:=q;refine⟨Z,cells,by rw[a.w];exact aa,λi z hi=>?_⟩;obtain⟨I,N,P,Q⟩:=X i z hi;exact⟨I,N,P,a.rep Q⟩
    | box et st fs =>
     cases o with
     | arr c p ys=>exact hf.elim
     | mapo k v l=>exact hf.elim
     | frame t fs=>exact hf.elim
     | loop L=>exact hf.elim
     | itr B E C D A=>exact hf.elim
     | dfr=>exact hf.elim
     | nest _ _ _ _ _ _=>exact hf.elim
     | box c ap R =>
      obtain⟨rfl,rfl,G⟩:=hf;obtain⟨h0,b,cs,F,hh,W⟩:=q;exact⟨λad=>by rw[<-LU G];exact h0 ad,b,cs,F,by rw[a.w];exact hh,Ow a G W⟩
    | nest et af k e xs h =>
     cases o with
     | nest c an K p ys am =>
      obtain⟨⟨rfl,rfl,rfl⟩,g⟩:=hf;have g:=BA g;injection g with h1 y
      injection h1 with h1
      injection h1 with h1 d
      injection d with d
      subst h1;subst d;cases y;exact w9 a.w a.O q
     | mapo k v l=>exact hf.elim
     | box c st fs=>exact hf.elim
     | arr c p ys=>exact hf.elim
     | frame t fs=>exact hf.elim
     | loop L=>exact hf.elim
     | itr B E C D A=>exact hf.elim
     | dfr=>exact hf.elim
    | mapo k v l =>
     cases o with
     | mapo K aj l' =>
      have g:=BA hf;injection g with h1 y
      injection h1 with h1
      injection h1 with h1 d
      subst h1;subst d;cases y;obtain⟨b,I,cl,F,hh,Y,U⟩:=q;exact⟨b,I,cl,F,by rw[a.w];exact hh,Y.mono (λb _ hb=>a.O b hb) (λb _ _=>by rw[a.w]),U⟩
     | box c st fs=>exact hf.elim
     | arr c p ys=>exact hf.elim
     | frame t fs=>exact hf.elim
     | loop L=>exact hf.elim
     | itr B E C D A=>exact hf.elim
     | dfr=>exact hf.elim
     | nest _ _ _ _ _ _=>exact hf.elim
    | frame t fs =>
     cases o with
     | frame aq R =>
      obtain⟨rfl,G⟩:=hf;obtain⟨h0,h1⟩:=q;refine⟨h0,λs v ae=>?_⟩;have hm:=MD G ae;cases hx:lk s fs with
      | none =>
       rw[hx]at hm;cases v<;>simp only[MA]at hm;exact trivial
      | some x =>
       rw[hx]at hm;exact NL a hm (h1 s x hx)
     | mapo k v l=>exact hf.elim
     | box c st fs=>exact hf.elim
     | arr c p ys=>exact hf.elim
     | loop L=>exact hf.elim
     | itr B E C D A=>exact hf.elim
     | dfr=>exact hf.elim
     | nest _ _ _ _ _ _=>exact hf.elim
    | itr k v l lf ak =>
     cases o with
     | itr K aj l' ao al =>
      obtain⟨hf,rfl,rfl⟩:=hf;have g:=BA hf;injection g with h1 y
      injection h1 with h1
      injection h1 with h1 d
      subst h1;subst d;cases y;obtain⟨r,F,b,ag,cl,ai,ah,h1,y,d,S,T⟩:=q;exact⟨r,F,b,ag,cl,ai,ah,by rw[a.w];exact h1,a.O b y,by rw[a.w];exact d,S.mono (λb _ hb=>a.O b hb) (λb _ _=>by rw[a.w]),T⟩
     | mapo k v l=>exact hf.elim
     | box c st fs=>exact hf.elim
     | arr c p ys=>exact hf.elim
     | frame t fs=>exact hf.elim
     | loop L=>exact hf.elim
     | dfr=>exact hf.elim
     | nest _ _ _ _ _ _=>exact hf.elim
    | loop L =>
     cases o with
     | loop M =>
      have hf:L=M:=hf;subst hf;obtain⟨b,hl,hh⟩:=q;exact⟨b,hl,by rw[a.w];exact hh⟩
     | itr B E C D A=>exact hf.elim
     | mapo k v l=>exact hf.elim
     | box c st fs=>exact hf.elim
     | arr c p ys=>exact hf.elim
     | frame t fs=>exact hf.elim
     | dfr=>exact hf.elim
     | nest _ _ _ _ _ _=>exact hf.elim
    | dfr =>
     cases o with
     | dfr =>
      obtain⟨b,hl,hh⟩:=q;exact⟨b,hl,by rw[a.w];exact hh⟩
     | nest _ _ _ _ _ _=>exact hf.elim
     | mapo k v l=>exact hf.elim
     | box c st fs=>exact hf.elim
     | arr c p ys=>exact hf.elim
     | frame t fs=>exact hf.elim
     | loop L=>exact hf.elim
     | itr B E C D A=>exact hf.elim
def Ca (objs:List (Nat×Obj)) (ren:List (Nat×B3)):Bool:=ren.all λp=>(lk p.1 objs).isSome
theorem AD {c:Cx} {σ σ':St} (ren:List (Nat×B3)) (h1:CJ ren=true) (j:Ca σ'.objs ren=true) (r:Ah σ.objs ren σ'.objs) (C:GD σ.env ren σ'.env) (t:A7O c.ds.pin ren=true:=by rfl):Ent c σ σ':=by
 rintro a w ⟨ρ,hs⟩
 let ρ':Nat->Value:=λm=>match lk m ren with|some (.nm n)=>ρ n|_=>.slice none 0 0
 have q:∀m n,lk m ren=some (.nm n)->ρ' m=ρ n:=λm n hm=>by simp[ρ',hm]
 have l:∀m,lk m ren=some .nil->ρ' m=.slice none 0 0:=λm hm=>by simp[ρ',hm]
 have A:∀m f,lk m ren=some f->HK σ' m:=λm f hm=>by
  simp only[Ca,Of]at j;have:=j _ (F9 hm);exact ABp.1 this
 have g:∀m b,HK σ' m->bk (ρ' m) b->∃n,lk m ren=some (.nm n)/\HK σ n/\bk (ρ n) b:=by
  rintro m b ⟨o,hm⟩ hb;have hf:=DE r hm;cases e:lk m ren with
  | none=>rw[e]at hf;exact hf.elim
  | some f =>
   cases f with
   | nil=>rw[l m e]at hb;simp[bk,blk]at hb
   | nm n =>
    rw[e]at hf;rw[q m n e]at hb;refine⟨n,rfl,?_,hb⟩;cases hn:lk n σ.objs with
    | none=>simp only[HO,hn,JZ]at hf
    | some x=>exact⟨x,hn⟩
 have k:MC ren (vw w c.O0 σ ρ) (vw w c.O0 σ' ρ'):=by
  refine⟨rfl,λb hb h=>?_,q,l,A⟩;rcases h with h0|⟨m,hl,hm⟩
  .exact hb (.inl h0)
  obtain⟨n,_,hn,d⟩:=g m b hl hm;exact hb (.inr ⟨n,hn,d⟩)
 refine⟨ρ',hs.frm,hs.nt,hs.defers,λp u=>?_,λm o hm=>?_,λm b hl hb=>?_,λm G b hl D hb h=>?_,λs v F=>?_⟩
 .obtain⟨I,J,K⟩:=hs.pin p u;simp only[A7O,Of]at t;have i:=t p u;unfold A9t at i;split at i
  .grind
  cases i
 .exact Ru k hs.objs (DE r hm)
 .obtain⟨n,_,hn,d⟩:=g m b hl hb;exact hs.free n b hn d
 .obtain⟨n,y,hn,d⟩:=g m b hl hb;obtain⟨H,z,E,B⟩:=g G b D h;have:=hs.dist n H b hn E d B;subst this;exact Uu h1 y z
 have hm:=MD C F;cases hx:lk s σ.env with
 | none =>
  rw[hx]at hm;cases v<;>simp only[MA]at hm;exact trivial
 | some x =>
  rw[hx]at hm;exact NL k hm (hs.env s x hx)
end
end
theorem I5 (b:Bool):Rl true (some (.p .bool b))=some b:=by cases b<;>rfl
theorem Ho (b:Bool):Rl false (some (.p .bool b))=some (!b):=by cases b<;>rfl
theorem P6:IntKind.i64.min=-9223372036854775808:=by decide
theorem P7:IntKind.i64.max=9223372036854775807:=by decide
theorem P8:IntKind.u64.min=0:=by decide
theorem P9:IntKind.u64.max=18446744073709551615:=by decide
theorem Vx:IntKind.u8.min=0:=by decide
theorem Vy:IntKind.u8.max=255:=by decide
theorem QA (n:Int):KS .i64 n↔-9223372036854775808<=n/\n<=9223372036854775807:=by unfold KS;rw[P6,P7]
theorem Ko (n:Int):KS .u64 n↔0<=n/\n<=18446744073709551615:=by unfold KS;rw[P8,P9]
theorem bQ (n:Int):KS .u8 n↔0<=n/\n<=255:=by unfold KS;rw[Vx,Vy]
theorem Uv {α:Type} (x:α):sub [x] 0 1=[x]:=rfl
theorem Jz {α:Type} (xs:List α) (n:Nat):sub xs 0 n=xs.take n:=by simp[sub]
theorem A5m (n:Nat):((n:Int)).toNat=n:=RG n
theorem Hp (n:Nat):(0<=(n:Int))=True:=eq_true (AB4 n)
section
open Go Go.RowKit
section
variable {tb:Tb} {σ σ':St}
def eX (σ σ':St):Prop:=∀n o,lk n σ.objs=some o->lk n σ'.objs=some o
theorem A12 (h:eX σ σ') {e:Ty} {lo hi n:Nat} {d:List e.den} (hs:Ri e lo hi (lk n σ.objs)=some d):Ri e lo hi (lk n σ'.objs)=some d:=by
 cases hn:lk n σ.objs with
 | none=>rw[hn]at hs;simp[Ri]at hs
 | some o=>rw[h n o hn,<-hn];exact hs
theorem xO (h:eX σ σ') {e:Ty} {i:Nat} {d:List e.den} (hs:UV e i (lk n σ.objs)=some d):UV e i (lk n σ'.objs)=some d:=by
 cases hn:lk n σ.objs with
 | none=>rw[hn]at hs;simp[UV]at hs
 | some o=>rw[h n o hn,<-hn];exact hs
theorem J0 (h:eX σ σ') {l:Bool} {t:Ty} {x:AV} {d:t.den} (hs:FD l σ t x=some d):FD l σ' t x=some d:=by
 unfold FD at hs ⊢;split at hs
 .exact hs
 .grind [A12]
 .grind [xO]
 .exact hs
 cases hs
theorem Y0 (h:eX σ σ') {l:Bool}:∀ {fs:List AV} {t:Ty} {d:t.den},Lk l σ fs t=some d->Lk l σ' fs t=some d
 | [],t,d,hs=>by simp[Lk]at hs
 | [x],t,d,hs=>by grind [Lk,J0]
 | x :: y :: r,t,d,hs=>by
  cases t<;>simp only[Lk]at hs ⊢<;>try(cases hs;done)
  rename_i a b;cases h1:FD l σ a x with
  | none=>rw[h1]at hs;simp[OA]at hs
  | some e =>
   cases c:Lk l σ (y :: r) b with
   | none=>rw[h1,c]at hs;simp[OA]at hs
   | some f =>
    rw[J0 h h1,Y0 h c];rw[h1,c]at hs;exact hs
theorem FJ (h:eX σ σ') {l:Bool} {t:Ty} {x:AV} {d:t.den} (hs:N2 l σ t x=some d):N2 l σ' t x=some d:=by
 unfold N2 at hs ⊢;split at hs
 .exact Y0 h hs
 exact J0 h hs
def Ops (σ σ':St) (xs:List Operand):Prop:=∀x∈xs,∀v,Aq σ x=some v->Aq σ' x=some v
theorem ME (h:eX σ σ') {e:Ty} {x:AV} {d:List e.den} (hs:Rf σ e x=some d):Rf σ' e x=some d:=by
 unfold Rf at hs ⊢;split at hs
 .rename_i n a lo hi;cases hn:lk n σ.objs with
  | none =>
   rw[hn]at hs;have hs:FD true σ (.slice e) (.sr n a lo hi)=some d:=by simpa[C9,N2] using hs
   simp only[FD,hn]at hs;split at hs<;>simp[Ri]at hs
  | some o =>
   rw[h n o hn];rw[hn]at hs;split at hs
   .cases hs
   grind [FJ]
 exact FJ h hs
theorem Vz (h:eX σ σ') {l:Bool}:∀ {ts:List Ty} {xs:List Operand} {ds:KU ts},Ops σ σ' xs->G5 l σ ts xs=some ds->G5 l σ' ts xs=some ds
 | [],[],ds,_,hs=>hs
 | [],_ :: _,ds,_,hs=>by simp[G5]at hs
 | _ :: _,[],ds,_,hs=>by simp[G5]at hs
 | t :: ts,x :: xs,ds,a,hs=>by
  simp only[G5]at hs ⊢;cases hx:Aq σ x with
  | none=>rw[hx]at hs;cases hs
  | some v =>
   rw[a x sc v hx];rw[hx]at hs;simp only at hs ⊢;split at hs
   .rename_i y ys hy b;rw[FJ h hy,Vz h (λz c=>a z (by simp[c])) b];exact hs
   cases hs
theorem Th (h:eX σ σ') {e:Ty}:∀ {parts:List (Nat×Operand)} {k:Nat} {xs:List e.den},Ops σ σ' (parts.map (·.2))->FX σ e k parts=some xs->FX σ' e k parts=some xs
 | [],k,xs,_,hs=>hs
 | (i,x) :: r,k,xs,a,hs=>by
  simp only[FX]at hs ⊢;split at hs
  .rename_i c;rw[BY c];cases hx:Aq σ x with
   | none=>rw[hx]at hs;cases hs
   | some v =>
    rw[a x sc v hx];rw[hx]at hs;simp only at hs ⊢;split at hs
    .rename_i y ys hy d;rw[FJ h hy,Th h (λz b=>a z (by simp at b ⊢;exact .inr b)) d];exact hs
    cases hs
  cases hs
theorem gF (h:eX σ σ') {z:Option AV} {x:Operand} (c:∀v,Aq σ x=some v->Aq σ' x=some v) (hs:Gi σ z (Aq σ x)=some v):Gi σ' z (Aq σ' x)=some v:=by
 cases hx:Aq σ x with
 | none=>rw[hx]at hs;unfold Gi at hs;split at hs<;>simp at *
 | some a =>
  rw[c a hx];rw[hx]at hs;unfold Gi at hs ⊢;split at hs
  .rename_i t _ l b;cases b;simp only[OS]at hs ⊢;grind [FJ]
  exact hs
theorem QB (h:eX σ σ') {offs:List (Nat×Nat)}:∀ {parts:List (Nat×Operand)} {fs a:List AV},Ops σ σ' (parts.map (·.2))->EX σ offs fs parts=some a->EX σ' offs fs parts=some a
 | [],fs,a,_,hs=>hs
 | (i,x) :: r,fs,a,b,hs=>by
  simp only[EX]at hs ⊢;cases hx:Gi σ fs[i]? (Aq σ x) with
  | none=>rw[hx]at hs;cases hs
  | some v =>
   rw[gF h (b x sc) hx];rw[hx]at hs;simp only at hs ⊢;split at hs
   .rename_i d;rw[BY d];exact QB h (λz c=>b z (by simp at c ⊢;exact .inr c)) hs
   cases hs
theorem V0:∀ {xs:List Operand} {ns:List Nat},Ops σ σ' xs->I1 σ xs=some ns->I1 σ' xs=some ns
 | [],ns,_,hs=>hs
 | x :: r,ns,a,hs=>by
  simp only[I1]at hs ⊢;split at hs
  .rename_i n d h1 b;rw[a x sc _ h1,V0 (λz c=>a z (by simp[c])) b];exact hs
  cases hs
theorem Uw (h:eX σ σ') {d:Nat} {op:Op} {r:Prop×AV×List (Nat×Obj)} (j:Ops σ σ' op.operands.toList) (hs:aq tb σ d op=some r):aq tb σ' d op=some r:=by
 have one:∀ {x:Operand} {f:Option AV->BX},x∈op.operands.toList->f none=none->f (Aq σ x)=some r->f (Aq σ' x)=some r:=by
  intro x f hx hn hf;cases A:Aq σ x with
  | none=>rw[A,hn]at hf;cases hf
  | some v=>rw[j x hx v A,<-A];exact hf
 have J:∀ {x y:Operand} {f:Option AV->Option AV->BX},x∈op.operands.toList->y∈op.operands.toList->(∀b,f none b=none)->(∀a,f a none=none)->f (Aq σ x) (Aq σ y)=some r->f (Aq σ' x) (Aq σ' y)=some r:=by
  intro x y f hx hy h1 F hf;cases A:Aq σ x with
  | none=>rw[A,h1]at hf;cases hf
  | some v =>
   cases H:Aq σ y with
   | none=>rw[H,F]at hf;cases hf
   | some w=>rw[j x hx v A,j y hy w H,<-A,<-H];exact hf
 cases op<;>simp only[aq]at hs ⊢<;>try(cases hs;done)
 case move x=>exact one (f:=HN) (by simp[Op.operands]) rfl hs
 case assign x=>exact one (f:=HN) (by simp[Op.operands]) rfl hs
 case pick c x y =>
  cases E:Aq σ c with
  | none=>rw[E]at hs;simp[Lo]at hs
  | some Z =>
   have aa:=j c (by simp[Op.operands]) Z E;rw[E]at hs;rw[aa];unfold Lo at hs ⊢;split at hs
   .rename_i C;cases C;exact one (f:=HN) (by simp[Op.operands]) rfl hs
   .rename_i C;cases C;exact one (f:=HN) (by simp[Op.operands]) rfl hs
   cases hs
 case alloc t=>exact hs
 case box t x=>exact one (f:=Va d t (lk t tb.ty)) (by simp[Op.operands]) (by cases lk t tb.ty<;>simp[Va]) hs
 case build t parts =>
  unfold KW at hs ⊢;split at hs
  .rename_i u offs el b C;cases D:EX σ offs (zfs u) parts.toList with
   | none=>rw[D]at hs;simp[HN]at hs
   | some fs =>
    rw[QB h (by simpa[Op.operands] using j) D];rw[D]at hs;exact hs
  cases hs
 case buildSlice t n parts =>
  cases T:lk d tb.nests with
  | some am =>
   rw[T]at hs;simp only[Hi]at hs ⊢;unfold KY at hs ⊢;split at hs
   .rename_i x ao offs el b D C;cases hx:Aq σ x with
    | none=>rw[hx]at hs;unfold KX at hs;split at hs<;>first|(cases hs;done)|(rename_i F;cases F)
    | some av =>
     rw[j x (by simp[Op.operands,D]) av hx];rw[hx]at hs;unfold KX at hs ⊢;split at hs
     .rename_i k e au aw al;unfold Lq at hs;split at hs
      .rename_i X P;rw[J0 h P];exact hs
      .rename_i X ak l P;split at hs
       .rename_i R;rw[J0 h P];simp only[Lq,R,AAF];exact hs
       cases hs
      cases hs
     cases hs
   cases hs
  | none =>
  rw[T]at hs;simp only[Hi]at hs ⊢;unfold Bo at hs ⊢;split at hs
  .rename_i e offs el b C;cases D:FX σ e 0 parts.toList with
   | none=>rw[D]at hs;simp[B9]at hs
   | some xs =>
    rw[Th h (by simpa[Op.operands] using j) D];rw[D]at hs;exact hs
  cases hs
 case load t x =>
  cases hx:Aq σ x with
  | none=>rw[hx]at hs;simp[LP]at hs
  | some v =>
   rw[j x (by simp[Op.operands]) v hx];rw[hx]at hs;unfold LP at hs ⊢;split at hs
   .rename_i ti n ai off N G;cases hn:lk n σ.objs with
    | none=>rw[hn]at hs;simp[E8]at hs
    | some o=>rw[h n o hn,<-hn];exact hs
   .rename_i ti n e i ai off N G;cases hn:lk n σ.objs with
    | none=>rw[hn]at hs;simp[E9]at hs
    | some o=>rw[h n o hn,<-hn];exact hs
   .exact hs
   cases hs
 case nilCheck x=>exact one (f:=YV) (by simp[Op.operands]) (by simp[YV]) hs
 case binOp op t x y an=>exact J (f:=UW op (lk t tb.ty)) (by simp[Op.operands]) (by simp[Op.operands]) (λb=>by simp[UW]) (λa=>by cases a<;>simp[UW]) hs
 case unOp op t x=>exact one (f:=qUn op) (by simp[Op.operands]) (by cases op<;>simp[qUn]) hs
 case convert s t x=>exact one (f:=LQ (lk s tb.ty) (lk t tb.ty)) (by simp[Op.operands]) (by cases lk s tb.ty<;>cases lk t tb.ty<;>simp[LQ]) hs
 case makeSlice t l c=>exact J (f:=Jt tb d (lk t tb.ty)) (by simp[Op.operands]) (by simp[Op.operands]) (λb=>by cases lk t tb.ty<;>simp[Jt]) (λa=>by cases lk t tb.ty<;>simp[Jt]) hs
 case slice t x lo hi ah =>
  cases ah with
  | some m =>
   cases lo with
   | some _=>cases hi<;>simp[aq]at hs
   | none =>
    cases hi with
    | none=>simp[aq]at hs
    | some h1 =>
     simp only[aq]at hs ⊢;cases hx:Aq σ x with
     | none=>rw[hx]at hs;cases hl:lk t tb.ty<;>rw[hl]at hs<;>simp[EY]at hs
     | some v =>
      cases hh:Aq σ h1 with
      | none=>rw[hx,hh]at hs;cases hl:lk t tb.ty<;>rw[hl]at hs<;>simp[EY]at hs
      | some A =>
       cases hm:Aq σ m with
       | none=>rw[hx,hh,hm]at hs;cases hl:lk t tb.ty<;>rw[hl]at hs<;>simp[EY]at hs
       | some ag =>
        rw[j x (by simp[Op.operands]) v hx,j h1 (by simp[Op.operands]) A hh,j m (by simp[Op.operands]) ag hm];rw[hx,hh,hm]at hs;exact hs
  | none =>
   simp only[aq]at hs ⊢;have W:∀ {y:Option Operand},(∀z,y=some z->z∈(Op.slice t x lo hi none).operands.toList)->∀w,Hd σ y=some w->Hd σ' y=some w:=by
    intro y hy w H;cases y with
    | none=>exact H
    | some z =>
     simp only[Hd,OS]at H ⊢;obtain⟨v,A,rfl⟩:=H;exact⟨v,j z (hy z rfl) v A,rfl⟩
   cases hx:Aq σ x with
   | none=>rw[hx]at hs;cases hl:lk t tb.ty<;>rw[hl]at hs<;>simp[F2]at hs
   | some v =>
    cases h1:Hd σ lo with
    | none=>rw[h1]at hs;cases hl:lk t tb.ty<;>rw[hl]at hs<;>simp[F2]at hs
    | some a =>
     cases F:Hd σ hi with
     | none=>rw[F]at hs;cases hl:lk t tb.ty<;>rw[hl]at hs<;>simp[F2]at hs
     | some b =>
      rw[j x (by simp[Op.operands]) v hx,W (by rintro z rfl;simp[Op.operands]) a h1,W (by rintro z rfl;simp[Op.operands]) b F];rw[hx,h1,F]at hs;exact hs
 case fieldAddr s x f=>exact one (f:=H8 f (lk s tb.ty)) (by simp[Op.operands]) (by cases lk s tb.ty<;>simp[H8]) hs
 case indexAddr t x i=>exact J (f:=Gj (lk t tb.ty)) (by simp[Op.operands]) (by simp[Op.operands]) (λb=>by cases lk t tb.ty<;>simp[Gj]) (λa=>by cases lk t tb.ty<;>simp[Gj]) hs
 case index t x i=>exact J (f:=Ey (lk t tb.ty)) (by simp[Op.operands]) (by simp[Op.operands]) (λb=>by cases lk t tb.ty<;>simp[Ey]) (λa=>by cases lk t tb.ty<;>simp[Ey]) hs
 case extract x i=>exact one (f:=FE i) (by simp[Op.operands]) (by simp[FE]) hs
 case makeFunc fn first Y =>
  unfold fF at hs ⊢;split at hs
  .rename_i f hf;cases E:I1 σ Y.toList with
   | none=>rw[E]at hs;simp[TK]at hs
   | some ns =>
    rw[V0 (λz I=>j z (by simp[Op.operands]at I ⊢;exact .inr I)) E];rw[E]at hs;exact hs
  cases hs
 case makeMap t res =>
  cases res with
  | some z=>simp[aq]at hs
  | none=>simp only[aq]at hs ⊢;exact hs
 case lookup t x i ok =>
  cases hx:Aq σ x with
  | none=>rw[hx]at hs;simp[Jv]at hs
  | some xv =>
   cases hi:Aq σ i with
   | none=>rw[hx,hi]at hs;simp[Jv]at hs
   | some V =>
    rw[j x (by simp[Op.operands]) xv hx,j i (by simp[Op.operands]) V hi];rw[hx,hi]at hs;unfold Jv at hs ⊢;split at hs
    .rename_i k e _ _ n z N G ad;cases G;cases ad;cases hn:lk n σ.objs with
     | none=>rw[hn]at hs;simp[JR]at hs
     | some o =>
      rw[hn]at hs;rw[h n o hn];unfold JR at hs ⊢;split at hs
      .rename_i af ar l j;cases j;split at hs
       .rename_i E;rw[BY E];cases hk:N2 false σ af V with
        | none=>rw[hk]at hs;simp[Lt]at hs
        | some kd=>rw[FJ h hk];rw[hk]at hs;exact hs
       cases hs
      cases hs
    cases hs
 case call c =>
  obtain⟨callee,args,argTypes⟩:=c;have B:∀x∈args.toList,x∈(Op.call ⟨callee,args,argTypes⟩).operands.toList:=λx hx=>by
   have:x∈args:=by simpa using hx
   cases callee<;>simp[Op.operands,Call.operands,this]
  cases callee with
  | invoke r m=>simp[DD]at hs
  | value g =>
   simp only[DD]at hs ⊢;cases K:Aq σ g with
   | none=>rw[K]at hs;simp[OB]at hs
   | some ab =>
    rw[j g (by simp[Op.operands,Call.operands]) ab K];rw[K]at hs;unfold OB at hs ⊢;split at hs
    .rename_i f C;cases U:lk f tb.fns with
     | none=>rw[U]at hs;simp[Kg]at hs
     | some sp =>
      rw[U]at hs;simp only[Kg]at hs ⊢;cases Q:G5 sp.lend σ sp.ins args.toList with
      | none=>rw[Q]at hs;simp[Ls]at hs
      | some ds =>
       rw[Vz h (λx hx=>j x (B x hx)) Q];rw[Q]at hs;exact hs
    cases hs
  | builtin b =>
   simp only[DD]at hs ⊢;obtain⟨args⟩:=args;obtain⟨argTypes⟩:=argTypes;simp only at hs B ⊢;unfold DZ at hs ⊢;split at hs
   .exact one (f:=Vc (lk _ tb.ty)) (B _ sc) (by cases lk _ tb.ty<;>simp[Vc]) hs
   .rename_i x y t u;cases hx:Aq σ x with
    | none=>rw[hx]at hs;simp[C2]at hs
    | some xv =>
     cases hy:Aq σ y with
     | none=>rw[hx,hy]at hs;simp[C2]at hs
     | some M =>
      rw[j x (B _ sc) xv hx,j y (B _ sc) M hy];rw[hx,hy]at hs;unfold C2 at hs ⊢;split at hs
      .split at hs
       .rename_i L;simp only[L,AAF];rename_i N G;cases G;rw[L]at hs;cases hl:lk u tb.ty with
        | none=>rw[hl]at hs;simp[FF]at hs
        | some ti =>
         rw[hl]at hs;unfold FF at hs ⊢;split at hs
         .rename_i e offs el b C;cases A:Rf σ e M with
          | none=>rw[A]at hs;cases S:lk el tb.ty<;>rw[S]at hs<;>simp[F3]at hs
          | some ys =>
           rw[A]at hs;rw[ME h A];exact hs
         cases hs
       cases hs
      .split at hs
       .rename_i L;simp only[L,AAF];rename_i N G;cases G;rw[L]at hs;cases hl:lk u tb.ty with
        | none=>rw[hl]at hs;simp[Ke]at hs
        | some ti =>
         rw[hl]at hs;unfold Ke at hs ⊢;split at hs
         .rename_i e offs el b C;split at hs
          .rename_i R;simp only[R,AAF];cases A:Rf σ _ M with
           | none=>rw[A]at hs;cases S:lk el tb.ty<;>rw[S]at hs<;>simp[Lr]at hs
           | some ys =>
            rw[A]at hs;rw[ME h A];exact hs
          cases hs
         cases hs
       cases hs
      cases hs
   .exact J (f:=UX) (B _ sc) (B _ sc) (λb=>by simp[UX]) (λa=>by cases a<;>simp[UX]) hs
   .exact J (f:=UY) (B _ sc) (B _ sc) (λb=>by simp[UY]) (λa=>by cases a<;>simp[UY]) hs
   .rename_i x y z t u ap;cases hx:Aq σ x with
    | none=>rw[hx]at hs;simp[Ju]at hs
    | some xv =>
     cases hy:Aq σ y with
     | none=>rw[hx,hy]at hs;simp[Ju]at hs
     | some M =>
      cases I:Aq σ z with
      | none=>rw[hx,hy,I]at hs;simp[Ju]at hs
      | some aj =>
       rw[j x (B _ sc) xv hx,j y (B _ sc) M hy,j z (B _ sc) aj I,<-hx,<-hy,<-I];exact hs
   .rename_i ts x y z u r;have K:∀(r:List Operand) (k:IntKind) (o:Option Int) (m:Int),(∀q∈r,∀v,Aq σ q=some v->Aq σ' q=some v)->F4 σ k o r=some m->F4 σ' k o r=some m:=by
     intro r;induction r with
     | nil=>intro k o m _ h;cases o<;>(simp[F4]at h;try exact AAv some h)
     | cons q r ae =>
      intro k o m O h;cases o with
      | none=>simp[F4]at h
      | some a =>
       simp only[F4]at h ⊢;cases A:Aq σ q with
       | none=>rw[A]at h;cases r<;>simp[Pk,F4]at h
       | some v =>
        rw[A]at h;rw[O q sc v A];exact ae k _ m (λp D=>O p (by simp[D])) h
    cases hx:Aq σ x with
    | none=>rw[hx]at hs;simp[Pl]at hs
    | some xv =>
     rw[hx]at hs;rw[j x (B _ sc) xv hx];unfold Pl at hs ⊢;split at hs
     .rename_i k a C;cases C;cases hm:F4 σ k (some a) (y :: z :: u :: r) with
      | none=>rw[hm]at hs;simp[TJ]at hs
      | some m =>
       rw[hm]at hs;rw[K _ _ _ _ (λq O=>j q (B _ (If _ O))) hm];exact hs
     cases hs
   cases hs
end
end
end Go.Proofs.YtcmadlghkcjcbaaGreat.Fw
