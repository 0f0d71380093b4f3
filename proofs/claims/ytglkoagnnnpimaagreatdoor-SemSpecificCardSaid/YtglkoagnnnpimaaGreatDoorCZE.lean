/- One operation, a sequence, loops, the entry and the end of a function: the rules. -/
import Derived.Test.YtglkoagnnnpimaaGreatDoorCZD
import Derived.Deep.LoopGhost
import Derived.ControlIn
set_option linter.unusedVariables false
set_option linter.unusedSimpArgs false
namespace Go.Proofs.YtglkoagnnnpimaaGreatDoor.Fw
variable {j n:Nat} {x y:Code} {Q:Exit->Act->World->Prop} {Z O:St} {a:Act} {w:World} {v P:AV} {Y:Act->World->Prop} {X:ResultVar} {W:Value} {o:Operand} {V:Oper} {U:Array Oper} {b:Bool} {T:Type} {S:Nat->Value} {R:Func} {N:Prop}
section
open Go Go.RowKit
abbrev AC2:=@Go.wpIn_region_list
abbrev ACN:=@Go.wpIn_mono
structure Cx where
 P:Program
 tb:Tb
 w0:World
 K:Nat->Prop
 O0:Nat->Prop
 nt:Nat
 
 ds:Fp:={}
 
 r:Option Nat:=none
structure Cx.Ok (c:Cx):Prop where
 K:∀b,c.K b->b<c.w0.heap.size
 O:∀b,c.O0 b->b<c.w0.heap.size
 T:C5 c.P c.tb
 F:H9 c.P c.tb
 G:GW c.w0 c.K c.O0
def Cx.sat (c:Cx) (σ:St) (a:Act) (w:World):Prop:=∃ρ,B2 c.w0 c.K c.O0 c.nt c.ds σ ρ a w
section
variable {c:Cx}
theorem sQ (hc:c.Ok) {σ:St} {ρ:Nat->Value} (h:B2 c.w0 c.K c.O0 c.nt c.ds σ ρ a w):A8y c.P c.tb w c.O0 σ ρ a where
 hT:=hc.T
 hF:=hc.F
 hG:=hc.G.mono (λb hk ho=>⟨AAJ (hc.K b hk) h.frm.size,λhb=>by
  rcases hb with h0|⟨n,hn,hb⟩
  .exact ho h0
  exact(h.free n b hn hb).1 hk⟩) h.frm.block
 obj:=h.objs
 own:=by
  intro b hb;rcases hb with h0|⟨n,⟨o,ho⟩,hb⟩
  .exact AAJ (hc.O b h0) h.frm.size
  exact(h.objs n o ho).block_lt hb
 ev:=CY h.env
theorem xN (e:c.Ok) {σ σ':St} {ρ:Nat->Value} (hs:B2 c.w0 c.K c.O0 c.nt c.ds σ ρ a w) {o:Oper} (h:K0 c.tb σ o.dst o.op=some (N,σ')) (k:N) (j:∀d,o.dst=some d->d<c.nt)
  {next:Act->World->Prop} (hn:∀i w',c.sat σ' i w'->next i w'):o.wpIn (FR c.r) 0 c.P a w next Q:=by
 obtain⟨dst,op,type,pos,after,guard⟩:=o;simp only at h j;cases op<;>simp only[K0]at h<;>try(cases h;done)
 case store t x y =>
  cases dst with
  | some d=>simp[D6]at h
  | none =>
   simp only[D6]at h;obtain⟨w',ρ',h1,f⟩:=jI (P:=c.P) hs e.K e.O e.T h k;exact nU (w':=w') (by simp[execOp,h1]) (hn _ _ ⟨ρ',f⟩)
 case mapUpdate t m x y =>
  cases dst with
  | some d=>simp[D6]at h
  | none =>
   simp only[D6]at h;obtain⟨w',h1,f⟩:=sP (P:=c.P) hs e.K e.T h;exact nU (w':=w') (by simp[execOp,h1]) (hn _ _ ⟨ρ,f⟩)
 case call cl =>
  obtain⟨callee,args,argTypes⟩:=cl;cases callee with
  | value g=>simp[DU]at h
  | invoke r m=>simp[DU]at h
  | builtin b =>
   simp only[DU]at h;obtain⟨args⟩:=args;obtain⟨argTypes⟩:=argTypes;simp only at h;unfold Dr at h;split at h
   .rename_i x y t u;obtain⟨z,w',ρ',h1,f⟩:=jH (P:=c.P) (ty:=type) hs e.K e.O e.T j h k;exact Ac (u:=z) (w':=w') (by simp[execOp,resolve,invoke,builtin,h1]) (hn _ _ ⟨ρ',f⟩)
   cases h
theorem O9 (b:c.Ok) {σ σ':St} (hs:c.sat σ a w) {o:Oper} (h:GU c.tb o σ=some (N,σ')) (i:N) (g:∀d,o.dst=some d->d<c.nt)
  {next:Act->World->Prop} (hn:∀f w',c.sat σ' f w'->next f w'):o.wpIn (FR c.r) 0 c.P a w next Q:=by
 obtain⟨ρ,hs⟩:=hs;have hs:=Jw (l:=CU σ o.op) hs;unfold GU Rk at h;generalize Cr (CU σ o.op) σ=k at h hs;cases e:aq c.tb k (o.dst.getD 0) o.op with
 | some r =>
  obtain⟨m,v,obs⟩:=r;rw[e]at h;simp only[LD]at h;split at h
  .rename_i hf;cases h;exact nQ (sQ b hs) e i hf λu ρ' w' j=>hn _ _ ⟨ρ',hs.add b.K b.O g hf j⟩
  cases h
 | none =>
  rw[e]at h;exact xN b hs h i g hn
theorem G4 {ops:Array Oper} {σ:St} (hs:c.sat σ a w) {o:Oper} (h:E0 ops.toList σ o.guard=some b):Region.wanted o (yielded ops a.tmps)=b:=by
 obtain⟨ρ,hs⟩:=hs;unfold E0 at h;split at h
 .rename_i e;cases h;simp[Region.wanted,e]
 rename_i j q e;cases f:(ops.toList[j]?).bind (·.dst) with
 | none=>rw[f]at h;simp[LE]at h
 | some g =>
  rw[f]at h;simp only[LE]at h;cases i:lk g σ.env with
  | none=>rw[i]at h;simp[QW]at h
  | some v =>
   rw[i]at h;unfold QW at h;split at h
   .rename_i l m;cases m;cases h;have d:=hs.env g _ i;have d:=Dz d;have p:(ops[j]?).bind (·.dst)=some g:=by simpa using f
    have n:a.tmps[g]?=some (.bool l):=by
     by_cases k:g<a.tmps.size
     .have:a.tmps.getD g undef=a.tmps[g]:=by simp[Array.getD,k]
      rw[this]at d;rw[AAz k,d]
     have:a.tmps.getD g undef=undef:=by simp[Array.getD,k]
     rw[this]at d;cases d
    simp only[Region.wanted,e,yielded,p,Option.bind_some,n];cases l<;>cases q<;>rfl
   cases h
theorem MX {σ:St} (b:c.Ok) (hs:c.sat σ a w) {dst:Option Nat} (e:∀d,dst=some d->d<c.nt):c.sat (σ.add (.raw undef) [] dst) (a.put dst undef) w:=by
 obtain⟨ρ,hs⟩:=hs;exact⟨ρ,hs.add b.K b.O e (by simp[Bd]) (QS.still rfl)⟩
def I5 (nt:Nat) (o:Oper):Bool :=
 match o.dst with
 | some d=>decide (d<nt)
 | none=>true
theorem A2 {nt:Nat} {o:Oper} (h:I5 nt o=true):∀d,o.dst=some d->d<nt:=by grind [I5]
theorem Qc (d:c.Ok) {ops:Array Oper} {Q:Exit->Act->World->Prop} {r:List Oper}:∀(l:List Oper) {σ σ':St} {vc:Prop} {a:Act} {w:World},c.sat σ a w->(∀o∈l,I5 c.nt o=true)->Bv c.tb ops.toList l σ=some (vc,σ')->vc ->
  (∀g w',c.sat σ' g w'->wpListIn (FR c.r) 0 c.P ops Q r g w')->wpListIn (FR c.r) 0 c.P ops Q (l++r) a w
 | [],σ,σ',vc,a,w,hs,e,h,f,i=>by grind [Bv]
 | o :: l,σ,σ',vc,a,w,hs,e,h,f,i=>by
  simp only[Bv]at h;cases j:E0 ops.toList σ o.guard with
  | none=>rw[j]at h;simp[evG]at h
  | some b =>
   rw[j]at h;have s:=G4 hs j;have q:=A2 (e o sc);rw[bY];unfold wpListIn;cases b with
   | true =>
    simp only[evG]at h;rw[At s];cases n:GU c.tb o σ with
    | none=>rw[n]at h;simp[evK]at h
    | some r =>
     obtain⟨x,v⟩:=r;rw[n]at h;simp only[evK]at h;cases m:Bv c.tb ops.toList l v with
     | none=>rw[m]at h;simp[Wj]at h
     | some u =>
      obtain⟨y,σ2⟩:=u;rw[m]at h;simp only[Wj]at h;cases h;exact O9 d hs n f.1 q λg w' t=>Qc d l t (λp k=>e p (by simp[k])) m f.2 i
   | false =>
    simp only[evG]at h;rw[As (by simp[s])];refine⟨λ_ _=>trivial,?_⟩;exact Qc d l (MX d hs q) (λp k=>e p (by simp[k])) h f i
theorem PA (e:c.Ok) {ops:Array Oper} {Q:Exit->Act->World->Prop}:∀(l:List Oper) {σ σ':St} {vc:Prop} {a:Act} {w:World},c.sat σ a w->(∀o∈l,I5 c.nt o=true)->Bv c.tb ops.toList l σ=some (vc,σ')->vc ->
  (∀i w',c.sat σ' i w'->Q .normal i w')->wpListIn (FR c.r) 0 c.P ops Q l a w
 | [],σ,σ',vc,a,w,hs,f,h,g,d=>by
  simp only[Bv]at h;cases h;exact d _ _ hs
 | o :: l,σ,σ',vc,a,w,hs,f,h,g,d=>by
  simp only[Bv]at h;cases j:E0 ops.toList σ o.guard with
  | none=>rw[j]at h;simp[evG]at h
  | some b =>
   rw[j]at h;have s:=G4 hs j;have q:=A2 (f o sc);unfold wpListIn;cases b with
   | true =>
    simp only[evG]at h;rw[At s];cases n:GU c.tb o σ with
    | none=>rw[n]at h;simp[evK]at h
    | some r =>
     obtain⟨x,v⟩:=r;rw[n]at h;simp only[evK]at h;cases m:Bv c.tb ops.toList l v with
     | none=>rw[m]at h;simp[Wj]at h
     | some u =>
      obtain⟨y,σ2⟩:=u;rw[m]at h;simp only[Wj]at h;cases h;exact O9 e hs n g.1 q λi w' t=>PA e l t (λp k=>f p (by simp[k])) m g.2 d
   | false =>
    simp only[evG]at h;rw[As (by simp[s])];refine⟨λ_ _=>trivial,?_⟩;exact PA e l (MX e hs q) (λp k=>f p (by simp[k])) h g d
end
end
section
open Go Go.RowKit
inductive Ca where
 | seq (c:Code)
 | blk (id:Nat)
 
 | inv (post:St->Prop)
def Bg (nt:Nat):Code->Bool
 | .region _ ops _=>ops.toList.all (I5 nt)
 | .seq a b=>Bg nt a&&Bg nt b
 | .cond _ a b=>Bg nt a&&Bg nt b
 | .block _ b=>Bg nt b
 | .loop b=>Bg nt b
 | .scope b=>Bg nt b
 | _=>true
def Cy (nt:Nat):List Ca->Bool
 | []=>true
 | .seq c :: k=>Bg nt c&&Cy nt k
 | _ :: k=>Cy nt k
def Sb (c:Cx) (R:Exit->Act->World->Prop):List Ca->Exit->Act->World->Prop
 | [],e,a,w=>R e a w
 | .seq y :: k,.normal,a,w=>y.wpIn (FR c.r) 0 c.P (Sb c R k) a w
 | .seq _ :: k,e,a,w=>Sb c R k e a w
 | .blk id :: k,.exit b,a,w=>if b=id then Sb c R k .normal a w else Sb c R k (.exit b) a w
 | .blk _ :: k,e,a,w=>Sb c R k e a w
 | .inv post :: _,.normal,a,w=>∃σ,c.sat σ a w/\post σ
 | .inv _ :: k,e,a,w=>Sb c R k e a w
inductive nW where
 | run (cd:Code)
 | out (e:Exit)
def nwp (c:Cx) (R:Exit->Act->World->Prop) (k:List Ca):nW->Act->World->Prop
 | .run cd,a,w=>cd.wpIn (FR c.r) 0 c.P (Sb c R k) a w
 | .out e,a,w=>Sb c R k e a w
def Gt (nt:Nat):nW->Bool
 | .run cd=>Bg nt cd
 | .out _=>true
def Ev (c:Cx) (R:Exit->Act->World->Prop) (n:nW) (k:List Ca) (σ:St):Prop :=
 Gt c.nt n=true->Cy c.nt k=true->∀a w,c.sat σ a w->nwp c R k n a w
theorem Sc {F:Fence} {P:Program} {c:Code} (b:Nat->Act->World->Prop) (i:Nat) (o:b i a w)
  (round:∀n a w,b n a w->c.wpIn F j P (Exit.then (λg w'=>∃f,f<n/\b f g w') Q) a w):(Code.loop c).wpIn F j P Q a w:=by
 refine wpIn_loop (λa w=>∃n,b n a w) (λa w=>leastOf (λn=>b n a w)) ⟨i,o⟩ ?_;intro a w k;refine ACN (round _ a w (leastOf_spec k).1) ?_;intro e g w' d;cases e with
 | normal =>
  obtain⟨f,m,h⟩:=d;exact show (∃n,b n g w')/\leastOf (λn=>b n g w')<leastOf (λn=>b n a w) from ⟨⟨f,h⟩,ACv ((leastOf_spec ⟨f,h⟩).2 f h) m⟩
 | exit id=>exact d
 | goto l=>exact d
 | ret=>exact d
 | panic ch=>exact d
 | outgrown=>exact d
def wI (c:Cx) (σ σ':St):Prop:=∀a w,c.sat σ a w->c.sat σ' a w
section
variable {c:Cx} {R:Exit->Act->World->Prop} {k:List Ca} {σ σ':St}
theorem Ev.ent {n:nW} (h:Ev c R n k σ') (d:wI c σ σ'):Ev c R n k σ:=λh1 b a w hs=>h h1 b a w (d a w hs)
theorem A6s (h:Ev c R (.run x) (.seq y :: k) σ):Ev c R (.run (.seq x y)) k σ:=by
 intro h1 b a w hs;simp only[Gt,Bg,An]at h1;refine wpIn_seq (ACN (h h1.1 (by simp[Cy,h1.2,b]) a w hs) ?_);intro e f w' d;cases e<;>exact d
theorem A3f (h:Ev c R (.out .normal) k σ):Ev c R (.run .skip) k σ:=λ_ b a w hs=>wpIn_skip (h rfl b a w hs)
theorem A6t (h:Ev c R (.out .ret) k σ):Ev c R (.run .ret) k σ:=λ_ b a w hs=>wpIn_ret (h rfl b a w hs)
theorem A3g (h:Ev c R (.out (.exit j)) k σ):Ev c R (.run (.exit j)) k σ:=λ_ b a w hs=>wpIn_exit (h rfl b a w hs)
theorem xO {b:Code} (h:Ev c R (.run b) (.blk j :: k) σ):Ev c R (.run (.block j b)) k σ:=by
 intro h1 d a w hs;refine wpIn_block (ACN (h (by simpa[Gt,Bg] using h1) (by simpa[Cy] using d) a w hs) ?_);intro e g w' f;cases e<;>exact f
def EvR (c:Cx) (R:Exit->Act->World->Prop) (k:List Ca):Cz->Prop
 | some (vc,σ)=>vc/\Ev c R (.out .normal) k σ
 | none=>False
theorem sR (f:c.Ok) {ops:Array Oper} (h:EvR c R k (Bv c.tb ops.toList ops.toList σ)):Ev c R (.run (.region j ops false)) k σ:=by
 intro h1 e a w hs;cases b:Bv c.tb ops.toList ops.toList σ with
 | none=>rw[b]at h;exact h.elim
 | some r =>
  obtain⟨vc,σ'⟩:=r;rw[b]at h;simp only[Gt,Bg,OF]at h1;exact AC2 (PA f ops.toList hs h1 b h.1 λd w' g=>h.2 rfl e d w' g)
def EvC (c:Cx) (R:Exit->Act->World->Prop) (x y:Code) (k:List Ca) (σ:St):Option AV->Prop
 | some (.p .bool b)=>(b=true->Ev c R (.run x) k σ)/\(b=false->Ev c R (.run y) k σ)
 | _=>False
theorem A3h (h:EvC c R x y k σ (Ag σ o)):Ev c R (.run (.cond o x y)) k σ:=by
 intro h1 g a w hs;simp only[Gt,Bg,An]at h1;obtain⟨ρ,f⟩:=hs;have j:=CY f.env;cases e:Ag σ o with
 | none=>rw[e]at h;exact h.elim
 | some v =>
  have l:=j o v e;rw[e]at h;unfold EvC at h;split at h
  .rename_i b i;cases i;have d:=Dz l;exact wpIn_cond_split d (λd=>h.1 d h1.1 g a w ⟨ρ,f⟩) (λd=>h.2 d h1.2 g a w ⟨ρ,f⟩)
  exact h.elim
theorem UH {y:Code} (h:Ev c R (.run y) k σ):Ev c R (.out .normal) (.seq y :: k) σ:=by
 intro _ b a w hs;simp only[Cy,An]at b;exact h b.1 b.2 a w hs
theorem cM {y:Code} (h:Ev c R (.out (.exit j)) k σ):Ev c R (.out (.exit j)) (.seq y :: k) σ:=by
 intro _ b a w hs;simp only[Cy,An]at b;exact h rfl b.2 a w hs
theorem jJ {y:Code} (h:Ev c R (.out .ret) k σ):Ev c R (.out .ret) (.seq y :: k) σ:=by
 intro _ b a w hs;simp only[Cy,An]at b;exact h rfl b.2 a w hs
theorem jK (h:Ev c R (.out .normal) k σ):Ev c R (.out .normal) (.blk j :: k) σ:=λ_ b a w hs=>h rfl (by simpa[Cy] using b) a w hs
theorem Ry {b:Nat} (h:if b=j then Ev c R (.out .normal) k σ else Ev c R (.out (.exit b)) k σ):Ev c R (.out (.exit b)) (.blk j :: k) σ:=by
 intro _ d a w hs;have d:Cy c.nt k=true:=by simpa[Cy] using d
 show (if b=j then Sb c R k .normal a w else Sb c R k (.exit b) a w);split at h
 .rename_i e;rw[At e];exact h rfl d a w hs
 rename_i e;rw[As e];exact h rfl d a w hs
theorem jL (h:Ev c R (.out .ret) k σ):Ev c R (.out .ret) (.blk j :: k) σ:=λ_ b a w hs=>h rfl (by simpa[Cy] using b) a w hs
theorem AB {post:St->Prop} (h:post σ):Ev c R (.out .normal) (.inv post :: k) σ:=λ_ _ _ _ hs=>⟨σ,hs,h⟩
theorem cN {post:St->Prop} (h:Ev c R (.out (.exit j)) k σ):Ev c R (.out (.exit j)) (.inv post :: k) σ:=λ_ b a w hs=>h rfl (by simpa[Cy] using b) a w hs
theorem jM {post:St->Prop} (h:Ev c R (.out .ret) k σ):Ev c R (.out .ret) (.inv post :: k) σ:=λ_ b a w hs=>h rfl (by simpa[Cy] using b) a w hs
def A8z (c:Cx) {ι:Type} (I:ι->St) (μ:ι->Nat) (i:ι) (σ:St):Prop:=∃j,μ j<μ i/\wI c σ (I j)
theorem AI {ι:Type} (d:ι->St) (f:ι->Nat) (g:ι) {b:Code} (h0:wI c σ (d g)) (o:∀i,Ev c R (.run b) (.inv (A8z c d f i) :: k) (d i)):Ev c R (.run (.loop b)) k σ:=by
 intro h1 m a w hs;have h1:Bg c.nt b=true:=by simpa[Gt,Bg] using h1
 refine Sc (λn a w=>∃i,f i=n/\c.sat (d i) a w) (f g) ⟨g,rfl,h0 a w hs⟩ ?_;rintro n a w ⟨i,rfl,hs⟩;refine ACN (o i h1 (by simpa[Cy] using m) a w hs) ?_;intro e l w' h;cases e with
 | normal =>
  obtain⟨σ',r,j,q,p⟩:=h;exact⟨f j,q,j,rfl,p l w' r⟩
 | _=>exact h
theorem A3i {ι:Type} (b:ι->St) (h:Ev c R (.run x) (.inv (fun σ'=>∃i,wI c σ' (b i)) :: .seq y :: k) σ) (m:∀i,Ev c R (.run y) k (b i)):Ev c R (.run (.seq x y)) k σ:=by
 intro h1 f a w hs;simp only[Gt,Bg,An]at h1;refine wpIn_seq (ACN (h h1.1 (by simp[Cy,h1.2,f]) a w hs) ?_);intro e d w' g;cases e with
 | normal =>
  obtain⟨σ',l,i,j⟩:=g;exact m i h1.2 f d w' (j d w' l)
 | _=>exact g
end
end
section
open Go Go.RowKit
def AK:Nat->(ts:List Ty)->IY ts->List (Nat×AV)
 | _,[],_=>[]
 | s,t :: ts,d=>(s,.p t d.1) :: AK (s+1) ts d.2
def Jx (σ:St) (ty:Ty):Option AV->Option AV
 | some (.bp n a off)=>match EJ ty a off (lk n σ.objs) with
  | some (_,v,_)=>some v
  | none=>none
 | _=>none
def Ii (tb:Tb) (σ:St):ResultVar->Option AV
 | .tmp t=>lk t σ.env
 | .cell a t=>match lk t tb.ty with
  | some ti=>Jx σ ti.ty (lk a σ.env)
  | none=>none
def MY:Option AV->List Nat
 | some v=>v.names
 | none=>[]
def Ij (σ:St) (t:Ty):Option AV->Option t.den
 | some v=>IZ false σ t v
 | none=>none
def Gu (σ:St) (et:TypeId) (e:Ty):Option Obj->Option (List e.den)
 | some (.arr b a xs)=>if b=et then BT (.slice e) ⟨.slice a,xs⟩ else none
 | _=>none
def Ka (tb:Tb) (σ:St) (rv:ResultVar):RV->Prop
 | .p t d=>Ij (Cr (MY (Ii tb σ rv)) σ) t (Ii tb (Cr (MY (Ii tb σ rv)) σ) rv)=some d
 | .own et e xs=>match Ii tb σ rv with
  | some (.sr n a 0 hi)=>a=e/\Gu σ et e (lk n σ.objs)=some xs/\hi=xs.length
  | _=>False
def NH (tb:Tb) (σ:St):List ResultVar->List RV->Prop
 | [],[]=>True
 | [rv],[r]=>Ka tb σ rv r
 | rv :: b,.p t d :: a=>Ka tb σ rv (.p t d)/\NH tb σ b a
 | _,_=>False
section
variable {P:Program} {tb:Tb} {w0:World} {O0:Nat->Prop} {nt:Nat} {ds:Fp}
def cx (P:Program) (tb:Tb) (w0:World) (O0:Nat->Prop) (nt:Nat):Cx:={ P:=P,tb:=tb,w0:=w0,K:=λb=>b<w0.heap.size,O0:=O0,nt:=nt }
theorem XL:∀(ts:List Ty) (a:List Value) (ds:IY ts) (k:Nat) (w:World) (O:Nat->Prop),O5 w O ts a ds->∀s v,lk s (AK k ts ds)=some v->k<=s/\∃u,a[s-k]?=some u/\∃t d,v=.p t d/\BS w O t u d
 | [],a,ds,k,w,O,h,s,v,hs=>by simp[AK,lk]at hs
 | t :: ts,a,ds,k,w,O,h,s,v,hs=>by
  obtain⟨u,r,rfl,h1,b⟩:=h;simp only[AK,lk]at hs;split at hs
  .grind
  obtain⟨c,g,e,f⟩:=XL ts r ds.2 (k+1) w O b s v hs;grind
theorem Rz:∀ {ts:List Ty} {a:List Value} {ds:IY ts} {w:World} {O:Nat->Prop},O5 w O ts a ds->a.length=ts.length
 | [],a,ds,w,O,h=>by have h:a=[]:=h;subst h;rfl
 | t :: ts,a,ds,w,O,h=>by
  obtain⟨u,r,rfl,h1,b⟩:=h;simp[Rz b]
theorem sS {ts:List Ty} {a:List Value} {ds:IY ts} (h:O5 w0 O0 ts a ds) (l:a.length<=nt) :
  (cx P tb w0 O0 nt).sat ⟨AK 0 ts ds,[]⟩ { tmps:=a.toArray++Array.replicate (nt-a.toArray.size) undef,defers:=[] } w0:=by
 refine⟨λ_=>undef,⟨rfl,rfl,rfl,OS _,λ_ _=>rfl⟩,by simp[cx];omega,rfl,(λp k=>by simp[cx]at k),λn o h=>by simp[lk]at h,λn b ⟨o,h⟩=>by simp[lk]at h,λn m b ⟨o,h⟩=>by simp[lk]at h,λs v hs=>?_⟩;obtain⟨_,u,h1,t,d,rfl,e⟩:=XL ts a ds 0 w0 O0 h s v hs;have c:s<a.length:=by grind
 have i:(a.toArray++Array.replicate (nt-a.toArray.size) undef).getD s undef=u:=by
  have h1:a[s]?=some u:=by simpa using h1
  have:a[s]=u:=by rw[AT c]at h1;injection h1
  simp[Array.getElem?_append,c,this]
 rw[i];refine BS.mono (λb _ f g=>?_) (λ_ _ _=>rfl) e;rcases g with h0|⟨n,⟨o,j⟩,_⟩
 .exact f h0
 simp[lk]at j
def I6 (tmps:Array Value):ResultVar->Sem Value
 | .tmp t=>pure (tmps.getD t undef)
 | .cell a t=>do loadVar t (<-asAddr (tmps.getD a undef))
theorem Ns (fn:Func) (tmps:Array Value):results fn tmps=(do let a <-fn.results.mapM (I6 tmps);pure (if h:a.size=1 then a[0] else .tuple a)):=by
 unfold results
 congr 1
theorem S1 (hT:C5 P tb) {K:Nat->Prop} {σ:St} {ρ:Nat->Value} {w:World} (hs:B2 w0 K O0 nt ds σ ρ a w) {rv:ResultVar} (h:Ii tb σ rv=some v) :
  ∃u,(I6 a.tmps rv).run P w=.ok u w/\Bx (vw w O0 σ ρ) v u:=by
 cases rv with
 | tmp t =>
  simp only[Ii]at h;exact⟨_,by simp[I6],hs.env t v h⟩
 | cell x t =>
  simp only[Ii]at h;cases d:lk t tb.ty with
  | none=>rw[d]at h;simp at h
  | some ti =>
   rw[d]at h;simp only at h;cases e:lk x σ.env with
   | none=>rw[e]at h;simp[Jx]at h
   | some xv =>
    rw[e]at h;unfold Jx at h;split at h
    .rename_i n l off i;cases i;have f:=hs.env x _ e;split at h
     .rename_i vc o obs j;cases h;have k:KX σ (some ti) (some (.bp n l off))=some (vc,v,obs):=j;obtain⟨_,u,h1,g⟩:=wW (hT _ _ d) hs.objs k f;obtain⟨m,b,_,c⟩:=f;rw[c]at h1;have c:a.tmps.getD x undef=.pointer (some ⟨b,off,none⟩):=c;refine⟨u,?_,g⟩;simp only[Instr.loadAt,Instr.sureAddr,AAK,ABd,AAp]at h1;simp only[I6,c,asAddr,AAK,ABd,AAp,h1]
     cases h
    cases h
theorem A3j (hT:C5 P tb) {K:Nat->Prop} {σ:St} {ρ:Nat->Value} {w:World} (hs:B2 w0 K O0 nt ds σ ρ a w) {rv:ResultVar} {t:Ty} {d:t.den} (h:Ka tb σ rv (.p t d)) :
  ∃u,(I6 a.tmps rv).run P w=.ok u w/\BS w O0 t u d:=by
 unfold Ka at h;have e:=Jw (l:=MY (Ii tb σ rv)) hs;generalize Cr (MY (Ii tb σ rv)) σ=f at h e;cases c:Ii tb f rv with
 | none=>rw[c]at h;simp[Ij]at h
 | some v =>
  rw[c]at h;simp only[Ij]at h;obtain⟨u,h1,g⟩:=S1 hT e c;have i:=FA (V:=vw w O0 f ρ) (O':=O0) (λb j k=>j (.inl k)) (λh=>by cases h) e.objs h g;exact⟨u,h1,i⟩
theorem xP (hT:C5 P tb) {K:Nat->Prop} {σ:St} {ρ:Nat->Value} {a:Act} {w:World} (hs:B2 w0 K O0 nt ds σ ρ a w):∀ {f:List ResultVar} {c:List RV},(∀r∈c,∃t d,r=.p t d)->NH tb σ f c ->
  ∃e:List Value,(f.mapM (I6 a.tmps)).run P w=.ok e w/\e.length=c.length /\
   ∀nm V,V.w=w->(∀b,V.O b->O0 b)->HR V (H7 nm c) e
 | [],[],_,_=>⟨[],by simp,rfl,λ_ _ _ _=>rfl⟩
 | [],_ :: _,_,h=>by simp[NH]at h
 | _ :: _,[],_,h=>by simp[NH]at h
 | rv :: f,r :: c,i,h=>by
  obtain⟨t,d,rfl⟩:=i r sc;have g:Ka tb σ rv (.p t d)/\NH tb σ f c:=by
   cases f with
   | nil =>
    cases c with
    | nil=>exact⟨h,trivial⟩
    | cons s v=>exact⟨h.1,h.2⟩
   | cons x y=>exact⟨h.1,h.2⟩
  obtain⟨u,h1,o⟩:=A3j hT hs g.1;obtain⟨e,q,j,k⟩:=xP hT hs (λr m=>i r (by simp[m])) g.2;refine⟨u :: e,?_,by simp[j],λnm V n l=>⟨u,e,rfl,?_,k _ V n l⟩⟩
  .simp_all
  show BS V.w V.O t u d;grind [BS.mono]
def R1 (P:Program) (fn:Func) (w0:World) (O0:Nat->Prop) (outs:List RV):Exit->Act->World->Prop :=
 bodyPost P fn λe w'=>∃u,e=.returned u/\w7 w0 O0 outs u w'
theorem xQ (x:(cx P tb w0 O0 nt).Ok) {fn:Func} {outs:List RV} {σ:St} {e:Exit} (y:e=.ret\/e=.normal) (i:∀r∈outs,∃t d,r=.p t d) (h:NH tb σ fn.results.toList outs) :
  Ev (cx P tb w0 O0 nt) (R1 P fn w0 O0 outs) (.out e) [] σ:=by
 intro _ _ a w hs;obtain⟨ρ,hs⟩:=hs;obtain⟨f,h1,g,m⟩:=xP x.T hs i h;have h1:(fn.results.toList.mapM (I6 a.tmps)).run P w=.ok f w:=h1;have s:Below w0.heap.size w0 w:=⟨hs.frm.os,hs.frm.tape,hs.frm.output,hs.frm.size,hs.frm.block⟩;have D:∃v,(results fn a.tmps).run P w=.ok v w/\w7 w0 O0 outs v w:=by
  have A:(fn.results.mapM (I6 a.tmps)).run P w=.ok f.toArray w:=by
   rw[ABG]
   simp_all
  refine⟨if h:f.toArray.size=1 then f.toArray[0] else .tuple f.toArray,?_,λnm=>⟨λ_=>undef,?_⟩⟩
  .rw[Ns];simp only[AAK,A,AAp,ABd]
  have z:C4 nm outs=[]:=by
   clear h h1 g m;induction outs generalizing nm with
   | nil=>rfl
   | cons r F E =>
    obtain⟨t,d,rfl⟩:=i r sc;simp only[C4,Tm,iN];exact E (λr C=>i r (by simp[C])) (nm+10000)
  rw[z];refine⟨s,λ_ _=>rfl,?_,(λ_ _ h=>by cases h),(λ_ _ _ h=>by cases h),(λ_ _ _ _ _ h=>by cases h)⟩;have c:=m nm (vw w O0 (Dh ⟨[],[]⟩ []) (λ_=>undef)) rfl (λb q=>by
   rcases q with h0|⟨n,⟨o,B⟩,_⟩
   .exact h0
   simp[Dh,lk]at B)
  match outs,i,f,g,c with
  | [],_,f,g,c =>
   have c:f=[]:=c;subst c;exact(rfl:_=_)
  | [r],i,f,g,c =>
   obtain⟨u,l,rfl,j,k⟩:=c;have k:l=[]:=k;subst k;simp only[HP];exact wO j
  | G :: H :: F,i,f,g,c =>
   have:¬f.toArray.size=1:=by simp at g ⊢;omega
   rw[dif_neg this];exact⟨f,rfl,c⟩
 obtain⟨v,c,j⟩:=D;rcases y with rfl|rfl
 .exact⟨hs.defers,v,c,v,rfl,j⟩
 exact⟨hs.defers,v,c,v,rfl,j⟩
end
end
section
open Go Go.RowKit
def Ty.ok:(t:Ty)->t.den->Prop
 | .int k,d=>H2 k d
 | .bool,_=>True
 | .str,d=>ByteArray.size d<=AO
 | .slice e,d=>List.length d<=AO/\∀x∈(d:List e.den),e.ok x
 | .prod a b,d=>a.ok d.1/\b.ok d.2
 | .agg t,d=>t.ok d
 | .ref k,d=>A5B k d
theorem HW {w:World} {O:Nat->Prop}:∀ {t:Ty} {cs:List Value} {d:t.den},Bq w O t cs d->t.ok d
 | .int _,_,_,h=>h.2
 | .bool,_,_,_=>trivial
 | .str,_,_,h=>h.2
 | .ref _,_,_,h=>h.2
 | .slice e,_,d,h=>by
  obtain⟨a,c,_,_,f,g⟩:=h;refine⟨f,λx j=>?_⟩;rcases g with g|⟨ad,_,_,k⟩
  .subst g;simp at j
  obtain⟨i,hi,rfl⟩:=AAy.1 j;obtain⟨m,_,_,l⟩:=k i _ (AT hi);exact HW l
 | .prod a b,_,_,h=>by
  obtain⟨c1,c2,_,h1,f⟩:=h;exact⟨HW h1,HW f⟩
 | .agg t,cs,d,h=>by
  have h:Bq w O t cs d:=h;exact(HW h:t.ok d)
def oks:(ts:List Ty)->IY ts->Prop
 | [],_=>True
 | t :: ts,d=>t.ok d.1/\oks ts d.2
theorem nX {w:World} {O:Nat->Prop}:∀ {ts:List Ty} {a:List Value} {ds:IY ts},O5 w O ts a ds->oks ts ds
 | [],_,_,_=>trivial
 | t :: ts,a,ds,h=>by
  obtain⟨v,r,rfl,⟨cs,h1,_⟩,b⟩:=h;exact⟨HW h1,nX b⟩
section
variable {P:Program} {tb:Tb} {w0:World} {O0:Nat->Prop} {nt:Nat}
theorem A5K {f : FuncId} {fn : Func} {sp : AW} (d : P.funcs[f]? = some fn) (j : (fn.name == "runtime.NumGoroutine") = false) (c : fn.body = some x) (k : fn.ntmps = nt) (m : sp.ins.length <= nt)
  (i:Bg nt x=true) (hT:C5 P tb) (hF:H9 P tb)
  (h:∀(w0:World) (O0:Nat->Prop) (ds:IY sp.ins),(cx P tb w0 O0 nt).Ok->oks sp.ins ds->sp.pre ds->Ev (cx P tb w0 O0 nt) (R1 P fn w0 O0 (sp.out ds)) (.run x) [] ⟨AK 0 sp.ins ds,[]⟩):AY P f sp:=by
 refine⟨⟨fn,d,j,by simp[c]⟩,λw O p ds e hG a l=>?_⟩;refine calls_of_wp d c ((wpIn_wide (n:=0)).1 ?_);have o:=Rz a;rw[k];exact h w O ds ⟨λb g=>g,e,hT,hF,hG⟩ (nX a) l i rfl _ _ (sS a O1)
theorem Nt (O:(cx P tb w0 O0 nt).Ok) {fn:Func} {et:TypeId} {e:Ty} {xs:List e.den} {σ:St} {ex:Exit} (p:ex=.ret\/ex=.normal) {rv:ResultVar} (S:fn.results=#[rv]) (h:Ka tb σ rv (.own et e xs)) :
  Ev (cx P tb w0 O0 nt) (R1 P fn w0 O0 [.own et e xs]) (.out ex) [] σ:=by
 intro _ _ a w hs;obtain⟨ρ,hs⟩:=hs;have N:Below w0.heap.size w0 w:=⟨hs.frm.os,hs.frm.tape,hs.frm.output,hs.frm.size,hs.frm.block⟩;unfold Ka at h;simp only at h;split at h
 .rename_i n Z hi U;obtain⟨rfl,c,rfl⟩:=h;cases hn:lk n σ.objs with
  | none=>rw[hn]at c;simp[Gu]at c
  | some o =>
   rw[hn]at c;cases o with
   | box f st fs=>simp[Gu]at c
   | mapo k v l=>simp[Gu]at c
   | frame al fs=>simp[Gu]at c
   | loop L=>simp[Gu]at c
   | itr ah ak ai aj af=>simp[Gu]at c
   | dfr=>simp[Gu]at c
   | sit sb sp=>simp[Gu]at c
   | nest aa ag k d ys A=>simp[Gu]at c
   | arr f d ys =>
    simp only[Gu]at c;split at c
    .rename_i R;subst R;obtain⟨rfl,I⟩:=Bo c;cases I;obtain⟨u,hu,K⟩:=S1 (P:=P) O.T hs U;obtain⟨ab,y⟩:=K;have C:=hs.objs n _ hn;have q:u=ρ n:=by
      obtain⟨W,m,c0,t,_,ad,V,X,rfl,_,h0,_⟩:=y;have t:plc (ρ n)=_:=t;obtain⟨rfl,rfl⟩:=h0 rfl;obtain⟨_,cells,s,_⟩:=C;have s:w.ownsRow 0 f d.size (ρ n) ys.length cells:=s;rw[G2 s]at t;have r:m=ys.length:=by
       rcases s.2 with ⟨p,ae⟩|⟨g,cap,Y,p,_⟩
       .rw[t]at p;injection p;omega
       rw[t]at p;injection p
      rw[t,r,Nat.sub_zero]
     have D:(results fn a.tmps).run P w=.ok u w:=by
      rw[Ns,S];have:((#[rv]:Array ResultVar).mapM (I6 a.tmps)).run P w=.ok #[u] w:=by
       rw[ABG];simp[hu]
      simp only[AAK,this,AAp,ABd];rfl
     have z:w7 w0 O0 [.own f d ys] u w:=by
      intro nm;have B:∀m,Gk (Dh ⟨[],[]⟩ [(nm,.arr f d ys)]) m↔m=nm:=by
       intro m;simp[Gk,Dh,lk]
      have hk:∀b,¬own O0 σ ρ b->¬own O0 (Dh ⟨[],[]⟩ [(nm,.arr f d ys)]) (EX (λ_=>undef) nm u) b:=by
       intro b j M;rcases M with h0|⟨m,A,r⟩
       .exact j (.inl h0)
       rw[(B m).1 A,Bl,q]at r;exact j (.inr ⟨n,⟨_,hn⟩,r⟩)
      have J:C4 nm [RV.own f d ys]=[(nm,.arr f d ys)]:=rfl;rw[J];refine⟨EX (λ_=>undef) nm u,QS.one (loc:=u) N (λb j=>?_) ?_ ?_⟩
      .rw[q]at j;have:=(hs.free n b ⟨_,hn⟩ j).1;simp only[cx]at this;omega
      .refine⟨(B nm).2 rfl,?_⟩;show DJ (plc (EX (λ_=>undef) nm u nm)) _ _ _ u;rw[Bl,q];rw[q]at y;exact y
      rw[q];obtain⟨r,cells,s,Q⟩:=C;refine⟨r,cells,s,λi x hi=>?_⟩;obtain⟨E,F,G,H⟩:=Q i x hi;rw[q]at hk;exact⟨E,F,G,H.mono (λb _ j=>hk b j) (λ_ _ _=>rfl)⟩
     rcases p with rfl|rfl
     .exact⟨hs.defers,u,D,u,rfl,z⟩
     exact⟨hs.defers,u,D,u,rfl,z⟩
    cases c
 exact h.elim
end
end
section
open Go Go.RowKit
section
variable {P:Program} {tb:Tb} {w0:World} {O0:Nat->Prop} {nt:Nat} {R:Exit->Act->World->Prop} {k:List Ca} {σ σ':St}
theorem nY:(cx P tb w0 O0 nt).tb=tb:=rfl
theorem jN {c:Cx} (a:c.Ok) {id:Nat} {l:List Oper} {vc:Prop} (h:Bv c.tb l l σ=some (vc,σ')) (b:vc) (hk:Ev c R (.out .normal) k σ') :
  Ev c R (.run (.region id l.toArray false)) k σ:=sR a (by
 show EvR _ _ _ (Bv c.tb l l σ);rw[h];exact⟨b,hk⟩)
theorem UI {c:Cx} (h:Ag σ o=some (.p .bool b)) (a:b=true->Ev c R (.run x) k σ) (hf:b=false->Ev c R (.run y) k σ):Ev c R (.run (.cond o x y)) k σ :=
 A3h (by rw[h];exact⟨a,hf⟩)
theorem jO {c:Cx} {id:Nat} (h:Ev c R (.out .normal) k σ):Ev c R (.out (.exit id)) (.blk id :: k) σ:=Ry (by rw[At rfl];exact h)
theorem jP {c:Cx} {id a:Nat} (b:a≠id) (h:Ev c R (.out (.exit a)) k σ):Ev c R (.out (.exit a)) (.blk id :: k) σ:=Ry (by rw[As b];exact h)
end
inductive CD where
 | nm (n:Nat)
 | nil
mutual
def DD (ren:List (Nat×CD)):AV->AV->Prop
 | .p t d,.p u d'=>BT u ⟨t,d⟩=some d'
 | .raw (.slice none 0 0),.p (.slice e) d'=>(d':List e.den)=[]
 | .raw v,.raw u=>v=u
 | .raw (.slice none 0 0),.sr m _ lo hi=>lk m ren=some .nil/\lo=0/\hi=0
 | .sr n e lo hi,.sr m e' lo' hi'=>lk m ren=some (.nm n)/\e=e'/\lo=lo'/\hi=hi'
 | .ip t d,.ip u d'=>BT u ⟨t,d⟩=some d'
 | .bp n p o,.bp m p' o'=>lk m ren=some (.nm n)/\p=p'/\o=o'
 | .fn f,.fn g=>f=g
 | .clo f ns,.clo g ms=>f=g/\ms.map (λm=>lk m ren)=ns.map λn=>some (.nm n)
 | .mp n,.mp m=>lk m ren=some (.nm n)
 | .yl n,.yl m=>lk m ren=some (.nm n)
 | .ag l,.ag r=>matchAVs ren l r
 | _,.top=>True
 | _,_=>False
def matchAVs (ren:List (Nat×CD)):List AV->List AV->Prop
 | [],[]=>True
 | x :: l,y :: r=>(x.cells=y.cells/\DD ren x y)/\matchAVs ren l r
 | _,_=>False
end
def Ik (ren:List (Nat×CD)):AV->AV->Prop
 | .ag l,.ag r=>matchAVs ren l r
 | x,y=>DD ren x y
def Jy (ren:List (Nat×CD)):List AV->List AV->Prop
 | [],[]=>True
 | x :: l,y :: r=>Ik ren x y/\Jy ren l r
 | _,_=>False
def B3 (ren:List (Nat×CD)):AV->AV->Prop
 | .tup l,.tup r=>Jy ren l r
 | x,y=>Ik ren x y
def LN (ren:List (Nat×CD)):Option AV->AV->Prop
 | some x,y=>B3 ren x y
 | none,.top=>True
 | none,_=>False
def FW (env:List (Nat×AV)) (ren:List (Nat×CD)):List (Nat×AV)->Prop
 | []=>True
 | (s,y) :: r=>LN ren (lk s env) y/\FW env ren r
def Jz (ren:List (Nat×CD)):Option Obj->Obj->Prop
 | some (.arr et e xs),.arr a c ys=>et=a/\BT (.slice c) ⟨.slice e,xs⟩=some ys
 | some (.box et st fs),.box a s d=>et=a/\st=s/\matchAVs ren fs d
 | some (.nest et n k e xs h),.nest a o b c ys m=>(et=a/\n=o/\h=m)/\BT (.slice (.prod b (.slice c))) ⟨.slice (.prod k (.slice e)),xs⟩=some ys
 | some (.mapo k v l),.mapo b f l'=>BT (.slice (.prod b f)) ⟨.slice (.prod k v),l⟩=some l'
 | some (.frame t fs),.frame u d=>t=u/\FW fs ren d
 | some (.itr k v l lf i),.itr b f l' p j=>BT (.slice (.prod b f)) ⟨.slice (.prod k v),l⟩=some l'/\lf=p/\i=j
 | some (.loop L),.loop g=>L=g
 | some .dfr,.dfr=>True
 | some (.sit sb sp),.sit q r=>sb=q/\sp=r
 | _,_=>False
def HX (objs:List (Nat×Obj)) (ren:List (Nat×CD)) (o:Obj):Option CD->Prop
 | some (.nm n)=>Jz ren (lk n objs) o
 | some .nil=>match o with
  | .arr _ e ys=>(ys:List e.den)=[]
  | .box _ _ _=>False
  | .nest _ _ k e ys _=>(ys:List (k.den×List e.den))=[]
  | .mapo _ _ _=>False
  | .frame _ _=>False
  | .itr _ _ _ _ _=>False
  | .loop _=>False
  | .dfr=>False
  | .sit sb sp=>False
 | none=>False
def Al (objs:List (Nat×Obj)) (ren:List (Nat×CD)):List (Nat×Obj)->Prop
 | []=>True
 | (m,o) :: r=>HX objs ren o (lk m ren)/\Al objs ren r
def CR:List (Nat×CD)->Bool
 | []=>true
 | (_,.nm n) :: r=>(r.all λp=>match p.2 with|.nm a=>a != n|.nil=>true)&&CR r
 | (_,.nil) :: r=>CR r
def LO {α:Type}:List (Nat×α)->Bool
 | []=>true
 | (n,_) :: r=>(r.all λp=>p.1 != n)&&LO r
section
variable {ren:List (Nat×CD)} {V V':Vw}
structure Kx (ren:List (Nat×CD)) (V V':Vw):Prop where
 w:V'.w=V.w
 O:∀b,¬V.O b->¬V'.O b
 ρ:∀m n,lk m ren=some (.nm n)->V'.ρ m=V.ρ n
 nil:∀m,lk m ren=some .nil->V'.ρ m=.slice none 0 0
 L:∀m f,lk m ren=some f->V'.L m
theorem Kx.vrep (h:Kx ren V V') {t:Ty} {v:Value} {d:t.den} (c:BS V.w V.O t v d):BS V'.w V'.O t v d :=
 BS.mono (λb _ a=>h.O b a) (λb _ _=>by rw[h.w]) c
theorem Kx.rep (h:Kx ren V V') {t:Ty} {cs:List Value} {d:t.den} (c:Bq V.w V.O t cs d):Bq V'.w V'.O t cs d :=
 c.mono (λb _ a=>h.O b a) (λb _ _=>by rw[h.w])
theorem Kx.map (h:Kx ren V V'):∀ {b ns:List Nat},b.map (λm=>lk m ren)=ns.map (λn=>some (CD.nm n))->b.map V'.ρ=ns.map V.ρ/\∀m∈b,∃n∈ns,lk m ren=some (.nm n)
 | [],[],_=>⟨rfl,λ_ h=>by cases h⟩
 | [],_ :: _,a=>by simp at a
 | _ :: _,[],a=>by simp at a
 | m :: b,n :: ns,a=>by
  simp only[nO,ABm]at a;obtain⟨h1,c⟩:=h.map a.2;refine⟨by simp only[nO,h1,h.ρ _ _ a.1],λx d=>?_⟩;grind
theorem XM (h:Kx ren V V') {x y:AV} {v:Value} (b:DD ren x y) (c:LG V x v):LG V' y v/\(∀t d,y=.p t d->(∀u g,x≠.p u g)->v.oneCell'=true->Bq V'.w V'.O t [v] d):=by
 unfold DD at b;split at b
 .have:=BF b;injection this with h1 f
  subst h1;cases f;exact⟨h.vrep c,λ_ _ _ z=>absurd rfl (z _ _)⟩
 .have c:v=_:=c;subst c;have i:=b;have k:∀(O:Nat->Prop) (e:Ty),Bq V'.w O (.slice e) [.slice none 0 0] ([]:List e.den):=λO e=>⟨none,0,rfl,by simp,by simp[AO],.inl rfl⟩;rename_i e g;have i:g=([]:List e.den):=i;subst i;refine⟨⟨_,k _ _,rfl⟩,λt d a _ _=>?_⟩;grind
 .subst b;exact⟨c,λt d a=>by cases a⟩
 .rename_i m e lo hi;obtain⟨h1,rfl,rfl⟩:=b;have c:v=_:=c;subst c;refine⟨⟨h.L _ _ h1,?_⟩,λt d a=>by cases a⟩;rw[h.nil _ h1];exact⟨none,0,0,rfl,by omega,by omega,none,0,rfl,by omega,λ_=>⟨rfl,rfl⟩,λh=>by omega⟩
 .obtain⟨h1,rfl,rfl,rfl⟩:=b;refine⟨⟨h.L _ _ h1,?_⟩,λt d a=>by cases a⟩;rw[h.ρ _ _ h1];exact c.2
 .have:=BF b;injection this with h1 f
  subst h1;cases f;obtain⟨ad,cs,a,o,q,k⟩:=c;exact⟨⟨ad,cs,a,h.O _ o,λj u r=>by rw[h.w];exact q j u r,h.rep k⟩,λt d a=>by cases a⟩
 .obtain⟨h1,rfl,rfl⟩:=b;refine⟨⟨h.L _ _ h1,?_⟩,λt d a=>by cases a⟩;rw[h.ρ _ _ h1];exact c.2
 .subst b;exact⟨c,λt d a=>by cases a⟩
 .obtain⟨rfl,s⟩:=b;obtain⟨h1,f⟩:=h.map s;refine⟨⟨?_,λm b=>?_⟩,λt d a=>by cases a⟩
  .rw[h1];exact c.1
  obtain⟨n,hn,l⟩:=f m b;refine⟨h.L _ _ l,?_⟩;rw[h.ρ _ _ l];exact(c.2 n hn).2
 .refine⟨⟨h.L _ _ b,?_⟩,λt d a=>by cases a⟩;rw[h.ρ _ _ b];exact c.2
 .refine⟨⟨h.L _ _ b,?_⟩,λt d a=>by cases a⟩;rw[h.ρ _ _ b];exact c.2
 .exact(show False from c).elim
 .exact⟨trivial,λt d a=>by cases a⟩
 exact b.elim
theorem jQ (h:Kx ren V V') {x y:AV} {cs:List Value} (n:Wk x=false) (i:x.cells=y.cells) (b:DD ren x y) (a:Fm V x cs):Fm V' y cs:=by
 by_cases f:∃t d,x=.p t d
 .obtain⟨t,d,rfl⟩:=f;have a:Bq V.w V.O t cs d:=a;cases y<;>simp only[DD]at b<;>try exact b.elim
  .have:=BF b;injection this with h1 c
   subst h1;cases c;exact h.rep a
  have j:=a.length;simp only[AV.cells]at i;rw[i]at j;obtain⟨v,rfl⟩:=AAV.1 j;exact⟨v,rfl,a.one v sc,trivial⟩
 have o:∃v,cs=[v]/\v.oneCell'=true/\LG V x v:=by
  cases x;case p t d=>exact absurd ⟨t,d,rfl⟩ f
  case ag l=>cases n
  all_goals exact a
 obtain⟨v,rfl,h1,c⟩:=o;obtain⟨g,m⟩:=XM h b c;cases y;case p t d=>exact m t d rfl (λu k e=>f ⟨u,k,e⟩) h1
 case ag l=>exact(show False from g).elim
 all_goals exact⟨v,rfl,h1,g⟩
theorem sT (h:Kx ren V V'):(∀(x y:AV) (cs:List Value),x.cells=y.cells->DD ren x y->Fm V x cs->Fm V' y cs)/\∀(l r:List AV) (cs:List Value),matchAVs ren l r->AVCs V l cs->AVCs V' r cs:=by
 have key:∀n:Nat,(∀(x y:AV) (cs:List Value),SizeOf.sizeOf x<n->x.cells=y.cells->DD ren x y->Fm V x cs->Fm V' y cs)/\∀(l r:List AV) (cs:List Value),SizeOf.sizeOf l<n->matchAVs ren l r->AVCs V l cs->AVCs V' r cs:=by
  intro n;induction n with
  | zero=>exact⟨λ_ _ _ h=>by omega,λ_ _ _ h=>by omega⟩
  | succ n c =>
   refine⟨λx y cs hn d a b=>?_,λl r cs hn a b=>?_⟩
   .cases f:Wk x with
    | false=>exact jQ h f d a b
    | true =>
     cases x<;>simp[Wk]at f;rename_i l;simp only[AV.ag.sizeOf_spec]at hn;cases y<;>simp only[DD]at a<;>try exact a.elim
     .rename_i r;exact(c.2 l r cs O1 a b:AVCs V' r cs)
     have g:=b.length;rw[d]at g;obtain⟨v,rfl⟩:=AAV.1 (g.trans rfl);exact⟨v,rfl,b.one v sc,trivial⟩
   match l,r with
   | [],[]=>exact b
   | [],_ :: _=>simp only[matchAVs]at a
   | _ :: _,[]=>simp only[matchAVs]at a
   | x :: l,y :: r =>
    simp only[matchAVs]at a;obtain⟨c1,c2,e,h1,i⟩:=b;simp only[ACl]at hn;exact⟨c1,c2,e,c.1 x y c1 O1 a.1.1 a.1.2 h1,c.2 l r c2 O1 a.2 i⟩
 exact⟨λx y cs=>(key _).1 x y cs (AB7 _),λl r cs=>(key _).2 l r cs (AB7 _)⟩
theorem UJ (h:Kx ren V V') {l r:List AV} {cs:List Value} (a:matchAVs ren l r) (b:AVCs V l cs):AVCs V' r cs:=(sT h).2 l r cs a b
theorem Kb:∀ {l r:List AV},matchAVs ren l r->l.length=r.length
 | [],[],_=>rfl
 | [],_ :: _,a=>a.elim
 | _ :: _,[],a=>a.elim
 | _ :: _,_ :: _,a=>by simp[Kb a.2]
theorem XN (h:Kx ren V V') {x y:AV} {v:Value} (a:Ik ren x y) (b:Rl V x v):Rl V' y v:=by
 cases x;case ag l =>
  cases y;case ag r =>
   obtain⟨cs,e,h1⟩:=b;exact⟨cs,e,UJ h a h1⟩
  all_goals simp only[Ik,DD]at a
  all_goals first|exact a.elim|exact trivial
 all_goals
  simp only[Rl]at b;have a:DD ren _ y:=a;exact Rl.of1 (XM h a b).1
theorem cO (h:Kx ren V V'):∀ {l r:List AV} {b:List Value},Jy ren l r->HR V l b->HR V' r b
 | [],[],b,_,c=>c
 | [],_ :: _,b,a,_=>a.elim
 | _ :: _,[],b,a,_=>a.elim
 | x :: l,y :: r,b,a,c=>by
  obtain⟨v,e,rfl,h1,d⟩:=c;exact⟨v,e,rfl,XN h a.1 h1,cO h a.2 d⟩
theorem MZ (h:Kx ren V V') {x y:AV} {v:Value} (a:B3 ren x y) (b:Bx V x v):Bx V' y v:=by
 cases x;case tup l =>
  cases y;case tup r =>
   obtain⟨c,e,h1⟩:=b;exact⟨c,e,cO h a h1⟩
  all_goals simp only[B3,Ik,DD]at a
  all_goals first|exact a.elim|exact trivial
 all_goals
  simp only[B3]at a;exact wO (XN h a b)
theorem DE {objs:List (Nat×Obj)} {m:Nat} {o:Obj}:∀ {l:List (Nat×Obj)},Al objs ren l->lk m l=some o->HX objs ren o (lk m ren)
 | (j,x) :: l,h,a=>by
  simp only[lk]at a;split at a
  .rename_i e;cases a;subst e;exact h.1
  exact DE h.2 a
theorem LP {env:List (Nat×AV)} {s:Nat} {y:AV}:∀ {l:List (Nat×AV)},FW env ren l->lk s l=some y->LN ren (lk s env) y
 | (j,x) :: l,h,a=>by
  simp only[lk]at a;split at a
  .rename_i e;cases a;subst e;exact h.1
  exact LP h.2 a
theorem S2:∀ {l:List (Nat×CD)} {m c n:Nat},CR l=true->lk m l=some (.nm n)->lk c l=some (.nm n)->m=c
 | (j,f) :: l,m,c,n,a,h1,b=>by
  simp only[lk]at h1 b;have e:CR l=true:=by
   cases f<;>simp only[CR,An]at a
   .exact a.2
   exact a
  have g:∀q,f=.nm n->lk q l=some (.nm n)->False:=by
   intro q hf d;subst hf;simp only[CR,An,OF]at a;have:=a.1 _ (E5 d);simp at this
  split at h1
  .grind
  split at b
  .grind
  exact S2 e h1 b
def A8B (n:Nat):Option CD->Bool
 | some (.nm m)=>m==n
 | _=>false
def A6u (pin:List (Nat×Value)) (ren:List (Nat×CD)):Bool:=pin.all λp=>A8B p.1 (lk p.1 ren)
theorem Qd {V V':Vw} (a:Kx ren V V') {P:List (Nat×Obj)} (ag:∀n x,lk n P=some x->A7 V x (V.ρ n)) {o:Obj} {m:Nat} (hf:HX P ren o (lk m ren)):A7 V' o (V'.ρ m):=by
 cases J:lk m ren with
 | none=>rw[J]at hf;exact hf.elim
 | some f =>
  rw[J]at hf;cases f with
  | nil =>
   rw[a.nil m J];cases o with
   | box et st fs=>exact hf.elim
   | mapo k v l=>exact hf.elim
   | frame t fs=>exact hf.elim
   | loop L=>exact hf.elim
   | itr A D B C y=>exact hf.elim
   | dfr=>exact hf.elim
   | sit sb sp=>exact hf.elim
   | nest et aj k e ys F =>
    have hf:ys=([]:List (k.den×List e.den)):=hf;subst hf;exact⟨_,[],[],.inr ⟨rfl,rfl,rfl⟩,by simp[AO],rfl,ABK _ 0 et _,λi x u h=>by simp at h,λi j b u v h=>by simp at h,λi b u h=>by simp at h⟩
   | arr et e ys =>
    have hf:ys=([]:List e.den):=hf;subst hf;exact⟨by simp[AO],[],ABK _ 0 et e.size,HI _ _ _ _⟩
  | nm n =>
   rw[a.ρ m n J];simp only[HX]at hf;cases hn:lk n P with
   | none=>rw[hn]at hf;simp only[Jz]at hf
   | some x =>
    rw[hn]at hf;have q:=ag n x hn;cases x with
    | arr et e xs =>
     cases o with
     | box c st fs=>exact hf.elim
     | mapo k v l=>exact hf.elim
     | frame t fs=>exact hf.elim
     | loop L=>exact hf.elim
     | itr A D B C y=>exact hf.elim
     | dfr=>exact hf.elim
     | sit sb sp=>exact hf.elim
     | nest _ _ _ _ _ _=>exact hf.elim
     | arr c g ys =>
      obtain⟨rfl,p⟩:=hf;obtain⟨rfl,d⟩:=Bo p;cases d;obtain⟨ae,cells,af,ab⟩:=q;refine⟨ae,cells,by rw[a.w];exact af,λi z hi=>?_⟩;obtain⟨K,S,T,U⟩:=ab i z hi;exact⟨K,S,T,a.rep U⟩
    | box et st fs =>
     cases o with
     | arr c g ys=>exact hf.elim
     | mapo k v l=>exact hf.elim
     | frame t fs=>exact hf.elim
     | loop L=>exact hf.elim
     | itr A D B C y=>exact hf.elim
     | dfr=>exact hf.elim
     | sit sb sp=>exact hf.elim
     | nest _ _ _ _ _ _=>exact hf.elim
     | box c ax W =>
      obtain⟨rfl,rfl,H⟩:=hf;obtain⟨h0,b,cs,G,hh,aa⟩:=q;exact⟨λah=>by rw[<-Kb H];exact h0 ah,b,cs,G,by rw[a.w];exact hh,UJ a H aa⟩
    | nest et aj k e xs h =>
     cases o with
     | nest c av Q g ys au =>
      obtain⟨⟨rfl,rfl,rfl⟩,p⟩:=hf;have p:=BF p;injection p with h1 E
      injection h1 with h1
      injection h1 with h1 d
      injection d with d
      subst h1;subst d;cases E;exact sH a.w a.O q
     | mapo k v l=>exact hf.elim
     | box c st fs=>exact hf.elim
     | arr c g ys=>exact hf.elim
     | frame t fs=>exact hf.elim
     | loop L=>exact hf.elim
     | itr A D B C y=>exact hf.elim
     | dfr=>exact hf.elim
     | sit sb sp=>exact hf.elim
    | mapo k v l =>
     cases o with
     | mapo Q ap l' =>
      have p:=BF hf;injection p with h1 E
      injection h1 with h1
      injection h1 with h1 d
      subst h1;subst d;cases E;obtain⟨b,K,cl,G,hh,ad,Z⟩:=q;exact⟨b,K,cl,G,by rw[a.w];exact hh,ad.mono (λb _ M=>a.O b M) (λb _ _=>by rw[a.w]),Z⟩
     | box c st fs=>exact hf.elim
     | arr c g ys=>exact hf.elim
     | frame t fs=>exact hf.elim
     | loop L=>exact hf.elim
     | itr A D B C y=>exact hf.elim
     | dfr=>exact hf.elim
     | sit sb sp=>exact hf.elim
     | nest _ _ _ _ _ _=>exact hf.elim
    | frame t fs =>
     cases o with
     | frame ay W =>
      obtain⟨rfl,H⟩:=hf;obtain⟨h0,h1⟩:=q;refine⟨h0,λs v ai=>?_⟩;have I:=LP H ai;cases N:lk s fs with
      | none =>
       rw[N]at I;cases v<;>simp only[LN]at I;exact trivial
      | some x =>
       rw[N]at I;exact MZ a I (h1 s x N)
     | mapo k v l=>exact hf.elim
     | box c st fs=>exact hf.elim
     | arr c g ys=>exact hf.elim
     | loop L=>exact hf.elim
     | itr A D B C y=>exact hf.elim
     | dfr=>exact hf.elim
     | sit sb sp=>exact hf.elim
     | nest _ _ _ _ _ _=>exact hf.elim
    | itr k v l lf aq =>
     cases o with
     | itr Q ap l' aw ar =>
      obtain⟨hf,rfl,rfl⟩:=hf;have p:=BF hf;injection p with h1 E
      injection h1 with h1
      injection h1 with h1 d
      subst h1;subst d;cases E;obtain⟨r,G,b,ak,cl,an,am,h1,E,d,X,Y⟩:=q;exact⟨r,G,b,ak,cl,an,am,by rw[a.w];exact h1,a.O b E,by rw[a.w];exact d,X.mono (λb _ M=>a.O b M) (λb _ _=>by rw[a.w]),Y⟩
     | mapo k v l=>exact hf.elim
     | box c st fs=>exact hf.elim
     | arr c g ys=>exact hf.elim
     | frame t fs=>exact hf.elim
     | loop L=>exact hf.elim
     | dfr=>exact hf.elim
     | sit sb sp=>exact hf.elim
     | nest _ _ _ _ _ _=>exact hf.elim
    | loop L =>
     cases o with
     | loop R =>
      have hf:L=R:=hf;subst hf;obtain⟨b,F,hh⟩:=q;exact⟨b,F,by rw[a.w];exact hh⟩
     | itr A D B C y=>exact hf.elim
     | mapo k v l=>exact hf.elim
     | box c st fs=>exact hf.elim
     | arr c g ys=>exact hf.elim
     | frame t fs=>exact hf.elim
     | dfr=>exact hf.elim
     | sit sb sp=>exact hf.elim
     | nest _ _ _ _ _ _=>exact hf.elim
    | dfr =>
     cases o with
     | dfr =>
      obtain⟨b,F,hh⟩:=q;exact⟨b,F,by rw[a.w];exact hh⟩
     | nest _ _ _ _ _ _=>exact hf.elim
     | mapo k v l=>exact hf.elim
     | box c st fs=>exact hf.elim
     | arr c g ys=>exact hf.elim
     | frame t fs=>exact hf.elim
     | loop L=>exact hf.elim
     | itr A D B C y=>exact hf.elim
     | sit sb sp=>exact hf.elim
    | sit sb sp =>
     cases o with
     | sit al ao =>
      obtain⟨rfl,rfl⟩:sb=al/\sp=ao:=hf;obtain⟨b,F,hh⟩:=q;exact⟨b,F,by rw[a.w];exact hh⟩
     | nest _ _ _ _ _ _=>exact hf.elim
     | mapo k v l=>exact hf.elim
     | box c st fs=>exact hf.elim
     | arr c g ys=>exact hf.elim
     | frame t fs=>exact hf.elim
     | loop L=>exact hf.elim
     | itr A D B C y=>exact hf.elim
     | dfr=>exact hf.elim
def Cn (objs:List (Nat×Obj)) (ren:List (Nat×CD)):Bool:=ren.all λp=>(lk p.1 objs).isSome
theorem AC {c:Cx} {σ σ':St} (ren:List (Nat×CD)) (h1:CR ren=true) (r:Cn σ'.objs ren=true) (z:Al σ.objs ren σ'.objs) (G:FW σ.env ren σ'.env) (A:A6u c.ds.pin ren=true:=by rfl):wI c σ σ':=by
 rintro a w ⟨ρ,hs⟩
 let ρ':Nat->Value:=λm=>match lk m ren with|some (.nm n)=>ρ n|_=>.slice none 0 0
 have y:∀m n,lk m ren=some (.nm n)->ρ' m=ρ n:=λm n d=>by simp[ρ',d]
 have u:∀m,lk m ren=some .nil->ρ' m=.slice none 0 0:=λm d=>by simp[ρ',d]
 have E:∀m f,lk m ren=some f->Gk σ' m:=λm f d=>by
  simp only[Cn,OF]at r;have:=r _ (E5 d);exact ABn.1 this
 have j:∀m b,Gk σ' m->bk (ρ' m) b->∃n,lk m ren=some (.nm n)/\Gk σ n/\bk (ρ n) b:=by
  rintro m b ⟨o,d⟩ e;have hf:=DE z d;cases i:lk m ren with
  | none=>rw[i]at hf;exact hf.elim
  | some f =>
   cases f with
   | nil=>rw[u m i]at e;simp[bk,blk]at e
   | nm n =>
    rw[i]at hf;rw[y m n i]at e;refine⟨n,rfl,?_,e⟩;cases hn:lk n σ.objs with
    | none=>simp only[HX,hn,Jz]at hf
    | some x=>exact⟨x,hn⟩
 have t:Kx ren (vw w c.O0 σ ρ) (vw w c.O0 σ' ρ'):=by
  refine⟨rfl,λb e k=>?_,y,u,E⟩;rcases k with h0|⟨m,h,d⟩
  .exact e (.inl h0)
  obtain⟨n,_,hn,g⟩:=j m b h d;exact e (.inr ⟨n,hn,g⟩)
 refine⟨ρ',hs.frm,hs.nt,hs.defers,λp B=>?_,λm o d=>?_,λm b h e=>?_,λm K b h H e k=>?_,λs v J=>?_⟩
 .obtain⟨M,N,O⟩:=hs.pin p B;simp only[A6u,OF]at A;have l:=A p B;unfold A8B at l;split at l
  .grind
  cases l
 .exact Qd t hs.objs (DE z d)
 .obtain⟨n,_,hn,g⟩:=j m b h e;exact hs.free n b hn g
 .obtain⟨n,C,hn,g⟩:=j m b h e;obtain⟨L,D,I,F⟩:=j K b H k;have:=hs.dist n L b hn I g F;subst this;exact S2 h1 C D
 have d:=LP G J;cases q:lk s σ.env with
 | none =>
  rw[q]at d;cases v<;>simp only[LN]at d;exact trivial
 | some x =>
  rw[q]at d;exact MZ t d (hs.env s x q)
end
end
theorem IB (b:Bool):QW true (some (.p .bool b))=some b:=by cases b<;>rfl
theorem G5 (b:Bool):QW false (some (.p .bool b))=some (!b):=by cases b<;>rfl
theorem PB:IntKind.i64.min=-9223372036854775808:=by decide
theorem PC:IntKind.i64.max=9223372036854775807:=by decide
theorem PD:IntKind.u64.min=0:=by decide
theorem PE:IntKind.u64.max=18446744073709551615:=by decide
theorem UK:IntKind.u8.min=0:=by decide
theorem UL:IntKind.u8.max=255:=by decide
theorem PG (n:Int):H2 .i64 n↔-9223372036854775808<=n/\n<=9223372036854775807:=by unfold H2;rw[PB,PC]
theorem J0 (n:Int):H2 .u64 n↔0<=n/\n<=18446744073709551615:=by unfold H2;rw[PD,PE]
theorem ZP (n:Int):H2 .u8 n↔0<=n/\n<=255:=by unfold H2;rw[UK,UL]
theorem S3 {α:Type} (x:α):sub [x] 0 1=[x]:=rfl
theorem I7 {α:Type} (xs:List α) (n:Nat):sub xs 0 n=xs.take n:=by simp[sub]
theorem A3k (n:Nat):((n:Int)).toNat=n:=gO n
theorem G6 (n:Nat):(0<=(n:Int))=True:=eq_true (AAE n)
section
open Go Go.RowKit
section
variable {tb:Tb} {σ σ':St}
def jR (σ σ':St):Prop:=∀n o,lk n σ.objs=some o->lk n σ'.objs=some o
theorem xR (h:jR σ σ') {e:Ty} {lo hi n:Nat} {d:List e.den} (hs:Oj e lo hi (lk n σ.objs)=some d):Oj e lo hi (lk n σ'.objs)=some d:=by
 cases hn:lk n σ.objs with
 | none=>rw[hn]at hs;simp[Oj]at hs
 | some o=>rw[h n o hn,<-hn];exact hs
theorem sU (h:jR σ σ') {e:Ty} {i:Nat} {d:List e.den} (hs:SW e i (lk n σ.objs)=some d):SW e i (lk n σ'.objs)=some d:=by
 cases hn:lk n σ.objs with
 | none=>rw[hn]at hs;simp[SW]at hs
 | some o=>rw[h n o hn,<-hn];exact hs
theorem I8 (h:jR σ σ') {l:Bool} {t:Ty} {x:AV} {d:t.den} (hs:Em l σ t x=some d):Em l σ' t x=some d:=by
 unfold Em at hs ⊢;split at hs
 .exact hs
 .grind [xR]
 .grind [sU]
 .exact hs
 cases hs
theorem XO (h:jR σ σ') {l:Bool}:∀ {fs:List AV} {t:Ty} {d:t.den},Kw l σ fs t=some d->Kw l σ' fs t=some d
 | [],t,d,hs=>by simp[Kw]at hs
 | [x],t,d,hs=>by grind [Kw,I8]
 | x :: y :: r,t,d,hs=>by
  cases t<;>simp only[Kw]at hs ⊢<;>try(cases hs;done)
  rename_i a b;cases h1:Em l σ a x with
  | none=>rw[h1]at hs;simp[NC]at hs
  | some e =>
   cases c:Kw l σ (y :: r) b with
   | none=>rw[h1,c]at hs;simp[NC]at hs
   | some f =>
    rw[I8 h h1,XO h c];rw[h1,c]at hs;exact hs
theorem FX (h:jR σ σ') {l:Bool} {t:Ty} {x:AV} {d:t.den} (hs:IZ l σ t x=some d):IZ l σ' t x=some d:=by
 unfold IZ at hs ⊢;split at hs
 .exact XO h hs
 exact I8 h hs
def Ops (σ σ':St) (xs:List Operand):Prop:=∀x∈xs,∀v,Ag σ x=some v->Ag σ' x=some v
theorem LQ (h:jR σ σ') {e:Ty} {x:AV} {d:List e.den} (hs:Ol σ e x=some d):Ol σ' e x=some d:=by
 unfold Ol at hs ⊢;split at hs
 .rename_i n a lo hi;cases hn:lk n σ.objs with
  | none =>
   rw[hn]at hs;have hs:Em true σ (.slice e) (.sr n a lo hi)=some d:=by simpa[C3,IZ] using hs
   simp only[Em,hn]at hs;split at hs<;>simp[Oj]at hs
  | some o =>
   rw[h n o hn];rw[hn]at hs;split at hs
   .cases hs
   grind [FX]
 exact FX h hs
theorem UM (h:jR σ σ') {l:Bool}:∀ {ts:List Ty} {xs:List Operand} {ds:IY ts},Ops σ σ' xs->GR l σ ts xs=some ds->GR l σ' ts xs=some ds
 | [],[],ds,_,hs=>hs
 | [],_ :: _,ds,_,hs=>by simp[GR]at hs
 | _ :: _,[],ds,_,hs=>by simp[GR]at hs
 | t :: ts,x :: xs,ds,b,hs=>by
  simp only[GR]at hs ⊢;cases a:Ag σ x with
  | none=>rw[a]at hs;cases hs
  | some v =>
   rw[b x sc v a];rw[a]at hs;simp only at hs ⊢;split at hs
   .rename_i y ys c d;rw[FX h c,UM h (λz e=>b z (by simp[e])) d];exact hs
   cases hs
theorem R2 (h:jR σ σ') {e:Ty}:∀ {parts:List (Nat×Operand)} {k:Nat} {xs:List e.den},Ops σ σ' (parts.map (·.2))->E3 σ e k parts=some xs->E3 σ' e k parts=some xs
 | [],k,xs,_,hs=>hs
 | (i,x) :: r,k,xs,b,hs=>by
  simp only[E3]at hs ⊢;split at hs
  .rename_i d;rw[At d];cases a:Ag σ x with
   | none=>rw[a]at hs;cases hs
   | some v =>
    rw[b x sc v a];rw[a]at hs;simp only at hs ⊢;split at hs
    .rename_i y ys f g;rw[FX h f,R2 h (λz c=>b z (by simp at c ⊢;exact .inr c)) g];exact hs
    cases hs
  cases hs
theorem cQ (h:jR σ σ') {z:Option AV} {x:Operand} (d:∀v,Ag σ x=some v->Ag σ' x=some v) (hs:Fy σ z (Ag σ x)=some v):Fy σ' z (Ag σ' x)=some v:=by
 cases b:Ag σ x with
 | none=>rw[b]at hs;unfold Fy at hs;split at hs<;>simp at *
 | some a =>
  rw[d a b];rw[b]at hs;unfold Fy at hs ⊢;split at hs
  .rename_i t _ l c;cases c;simp only[No]at hs ⊢;grind [FX]
  exact hs
theorem PH (h:jR σ σ') {offs:List (Nat×Nat)}:∀ {parts:List (Nat×Operand)} {fs a:List AV},Ops σ σ' (parts.map (·.2))->D4 σ offs fs parts=some a->D4 σ' offs fs parts=some a
 | [],fs,a,_,hs=>hs
 | (i,x) :: r,fs,a,c,hs=>by
  simp only[D4]at hs ⊢;cases b:Fy σ fs[i]? (Ag σ x) with
  | none=>rw[b]at hs;cases hs
  | some v =>
   rw[cQ h (c x sc) b];rw[b]at hs;simp only at hs ⊢;split at hs
   .rename_i e;rw[At e];exact PH h (λz d=>c z (by simp at d ⊢;exact .inr d)) hs
   cases hs
theorem UN:∀ {xs:List Operand} {ns:List Nat},Ops σ σ' xs->H8 σ xs=some ns->H8 σ' xs=some ns
 | [],ns,_,hs=>hs
 | x :: r,ns,a,hs=>by
  simp only[H8]at hs ⊢;split at hs
  .rename_i n d h1 b;rw[a x sc _ h1,UN (λz c=>a z (by simp[c])) b];exact hs
  cases hs
theorem S4 (h:jR σ σ') {d:Nat} {op:Op} {r:Prop×AV×List (Nat×Obj)} (A:Ops σ σ' op.operands.toList) (hs:aq tb σ d op=some r):aq tb σ' d op=some r:=by
 have one:∀ {x:Operand} {f:Option AV->BV},x∈op.operands.toList->f none=none->f (Ag σ x)=some r->f (Ag σ' x)=some r:=by
  intro x f j hn hf;cases B:Ag σ x with
  | none=>rw[B,hn]at hf;cases hf
  | some v=>rw[A x j v B,<-B];exact hf
 have N:∀ {x y:Operand} {f:Option AV->Option AV->BV},x∈op.operands.toList->y∈op.operands.toList->(∀b,f none b=none)->(∀a,f a none=none)->f (Ag σ x) (Ag σ y)=some r->f (Ag σ' x) (Ag σ' y)=some r:=by
  intro x y f j E h1 I hf;cases B:Ag σ x with
  | none=>rw[B,h1]at hf;cases hf
  | some v =>
   cases L:Ag σ y with
   | none=>rw[L,I]at hf;cases hf
   | some w=>rw[A x j v B,A y E w L,<-B,<-L];exact hf
 cases op<;>simp only[aq]at hs ⊢<;>try(cases hs;done)
 case move x=>exact one (f:=Gm) (by simp[Op.operands]) rfl hs
 case assign x=>exact one (f:=Gm) (by simp[Op.operands]) rfl hs
 case pick c x y =>
  cases H:Ag σ c with
  | none=>rw[H]at hs;simp[K3]at hs
  | some ae =>
   have af:=A c (by simp[Op.operands]) ae H;rw[H]at hs;rw[af];unfold K3 at hs ⊢;split at hs
   .rename_i F;cases F;exact one (f:=Gm) (by simp[Op.operands]) rfl hs
   .rename_i F;cases F;exact one (f:=Gm) (by simp[Op.operands]) rfl hs
   cases hs
 case alloc t=>exact hs
 case box t x=>exact one (f:=Tn d t (lk t tb.ty)) (by simp[Op.operands]) (by cases lk t tb.ty<;>simp[Tn]) hs
 case build t parts =>
  unfold Ji at hs ⊢;split at hs
  .rename_i u offs el b F;cases G:D4 σ offs (Tl (inB d tb.pure) u) parts.toList with
   | none=>rw[G]at hs;simp[Gm]at hs
   | some fs =>
    rw[PH h (by simpa[Op.operands] using A) G];rw[G]at hs;exact hs
  cases hs
 case buildSlice t n parts =>
  cases X:lk d tb.nests with
  | some aw =>
   rw[X]at hs;simp only[G0]at hs ⊢;unfold Jk at hs ⊢;split at hs
   .rename_i x ay offs el b G F;cases j:Ag σ x with
    | none=>rw[j]at hs;unfold Jj at hs;split at hs<;>first|(cases hs;done)|(rename_i I;cases I)
    | some av =>
     rw[A x (by simp[Op.operands,G]) av j];rw[j]at hs;unfold Jj at hs ⊢;split at hs
     .rename_i k e bb bc ar;unfold K5 at hs;split at hs
      .rename_i ab T;rw[I8 h T];exact hs
      .rename_i ab ap l T;split at hs
       .rename_i V;rw[I8 h T];simp only[K5,V,AAQ];exact hs
       cases hs
      cases hs
     cases hs
   cases hs
  | none =>
  rw[X]at hs;simp only[G0]at hs ⊢;unfold Br at hs ⊢;split at hs
  .rename_i e offs el b F;cases G:E3 σ e 0 parts.toList with
   | none=>rw[G]at hs;simp[B1]at hs
   | some xs =>
    rw[R2 h (by simpa[Op.operands] using A) G];rw[G]at hs;exact hs
  cases hs
 case load t x =>
  cases j:Ag σ x with
  | none=>rw[j]at hs;simp[KX]at hs
  | some v =>
   rw[A x (by simp[Op.operands]) v j];rw[j]at hs;unfold KX at hs ⊢;split at hs
   .rename_i ti n an off R J;cases hn:lk n σ.objs with
    | none=>rw[hn]at hs;simp[EJ]at hs
    | some o=>rw[h n o hn,<-hn];exact hs
   .rename_i ti n e i an off R J;cases hn:lk n σ.objs with
    | none=>rw[hn]at hs;simp[EK]at hs
    | some o=>rw[h n o hn,<-hn];exact hs
   .exact hs
   cases hs
 case nilCheck x=>exact one (f:=Wi) (by simp[Op.operands]) (by simp[Wi]) hs
 case binOp op t x y ax=>exact N (f:=SX op (lk t tb.ty)) (by simp[Op.operands]) (by simp[Op.operands]) (λb=>by simp[SX]) (λa=>by cases a<;>simp[SX]) hs
 case unOp op t x=>exact one (f:=qUn op) (by simp[Op.operands]) (by cases op<;>simp[qUn]) hs
 case convert s t x=>exact one (f:=KY (lk s tb.ty) (lk t tb.ty)) (by simp[Op.operands]) (by cases lk s tb.ty<;>cases lk t tb.ty<;>simp[KY]) hs
 case makeSlice t l c=>exact N (f:=I0 tb d (lk t tb.ty)) (by simp[Op.operands]) (by simp[Op.operands]) (λb=>by cases lk t tb.ty<;>simp[I0]) (λa=>by cases lk t tb.ty<;>simp[I0]) hs
 case slice t x lo hi am =>
  cases am with
  | some m =>
   cases lo with
   | some _=>cases hi<;>simp[aq]at hs
   | none =>
    cases hi with
    | none=>simp[aq]at hs
    | some h1 =>
     simp only[aq]at hs ⊢;cases j:Ag σ x with
     | none=>rw[j]at hs;cases C:lk t tb.ty<;>rw[C]at hs<;>simp[D5]at hs
     | some v =>
      cases hh:Ag σ h1 with
      | none=>rw[j,hh]at hs;cases C:lk t tb.ty<;>rw[C]at hs<;>simp[D5]at hs
      | some B =>
       cases K:Ag σ m with
       | none=>rw[j,hh,K]at hs;cases C:lk t tb.ty<;>rw[C]at hs<;>simp[D5]at hs
       | some al =>
        rw[A x (by simp[Op.operands]) v j,A h1 (by simp[Op.operands]) B hh,A m (by simp[Op.operands]) al K];rw[j,hh,K]at hs;exact hs
  | none =>
   simp only[aq]at hs ⊢;have aa:∀ {y:Option Operand},(∀z,y=some z->z∈(Op.slice t x lo hi none).operands.toList)->∀w,Gr σ y=some w->Gr σ' y=some w:=by
    intro y E w L;cases y with
    | none=>exact L
    | some z =>
     simp only[Gr,No]at L ⊢;obtain⟨v,B,rfl⟩:=L;exact⟨v,A z (E z rfl) v B,rfl⟩
   cases j:Ag σ x with
   | none=>rw[j]at hs;cases C:lk t tb.ty<;>rw[C]at hs<;>simp[FM]at hs
   | some v =>
    cases h1:Gr σ lo with
    | none=>rw[h1]at hs;cases C:lk t tb.ty<;>rw[C]at hs<;>simp[FM]at hs
    | some a =>
     cases I:Gr σ hi with
     | none=>rw[I]at hs;cases C:lk t tb.ty<;>rw[C]at hs<;>simp[FM]at hs
     | some b =>
      rw[A x (by simp[Op.operands]) v j,aa (by rintro z rfl;simp[Op.operands]) a h1,aa (by rintro z rfl;simp[Op.operands]) b I];rw[j,h1,I]at hs;exact hs
 case fieldAddr s x f=>exact one (f:=HQ f (lk s tb.ty)) (by simp[Op.operands]) (by cases lk s tb.ty<;>simp[HQ]) hs
 case indexAddr t x i=>exact N (f:=Fz (lk t tb.ty)) (by simp[Op.operands]) (by simp[Op.operands]) (λb=>by cases lk t tb.ty<;>simp[Fz]) (λa=>by cases lk t tb.ty<;>simp[Fz]) hs
 case index t x i=>exact N (f:=EZ (lk t tb.ty)) (by simp[Op.operands]) (by simp[Op.operands]) (λb=>by cases lk t tb.ty<;>simp[EZ]) (λa=>by cases lk t tb.ty<;>simp[EZ]) hs
 case extract x i=>exact one (f:=Ep i) (by simp[Op.operands]) (by simp[Ep]) hs
 case makeFunc fn first ad =>
  unfold bS at hs ⊢;split at hs
  .rename_i f hf;split at hs;case isFalse=>cases hs
   rename_i ai;cases H:H8 σ ad.toList with
   | none=>rw[H]at hs;simp[Rf]at hs
   | some ns =>
    rw[At ai,UN (λz M=>A z (by simp[Op.operands]at M ⊢;exact .inr M)) H];rw[H]at hs;exact hs
  .rename_i f x hf au;exact one (f:=bR f) (by simp[Op.operands,hf]) rfl hs
  cases hs
 case makeMap t res =>
  cases res with
  | some z=>simp[aq]at hs
  | none=>simp only[aq]at hs ⊢;exact hs
 case lookup t x i ok =>
  cases j:Ag σ x with
  | none=>rw[j]at hs;simp[I2]at hs
  | some xv =>
   cases hi:Ag σ i with
   | none=>rw[j,hi]at hs;simp[I2]at hs
   | some Z =>
    rw[A x (by simp[Op.operands]) xv j,A i (by simp[Op.operands]) Z hi];rw[j,hi]at hs;unfold I2 at hs ⊢;split at hs
    .rename_i k e _ _ n z R J ah;cases J;cases ah;cases hn:lk n σ.objs with
     | none=>rw[hn]at hs;simp[Ib]at hs
     | some o =>
      rw[hn]at hs;rw[h n o hn];unfold Ib at hs ⊢;split at hs
      .rename_i ak ba l A;cases A;split at hs
       .rename_i H;rw[At H];cases hk:IZ false σ ak Z with
        | none=>rw[hk]at hs;simp[K8]at hs
        | some kd=>rw[FX h hk];rw[hk]at hs;exact hs
       cases hs
      cases hs
    cases hs
 case call c =>
  obtain⟨callee,args,argTypes⟩:=c;have D:∀x∈args.toList,x∈(Op.call ⟨callee,args,argTypes⟩).operands.toList:=λx j=>by
   have:x∈args:=by simpa using j
   cases callee<;>simp[Op.operands,Call.operands,this]
  cases callee with
  | invoke r m=>simp[DC]at hs
  | value g =>
   simp only[DC]at hs ⊢;cases O:Ag σ g with
   | none=>rw[O]at hs;simp[ND]at hs
   | some ag =>
    rw[A g (by simp[Op.operands,Call.operands]) ag O];rw[O]at hs;unfold ND at hs ⊢;split at hs
    .rename_i f F;cases Y:lk f tb.fns with
     | none=>rw[Y]at hs;simp[Jq]at hs
     | some sp =>
      rw[Y]at hs;simp only[Jq]at hs ⊢;cases U:GR sp.lend σ sp.ins args.toList with
      | none=>rw[U]at hs;simp[K7]at hs
      | some ds =>
       rw[UM h (λx j=>A x (D x j)) U];rw[U]at hs;exact hs
    cases hs
  | builtin b =>
   simp only[DC]at hs ⊢;obtain⟨args⟩:=args;obtain⟨argTypes⟩:=argTypes;simp only at hs D ⊢;unfold DX at hs ⊢;split at hs
   .exact one (f:=Tq (lk _ tb.ty)) (D _ sc) (by cases lk _ tb.ty<;>simp[Tq]) hs
   .rename_i x y t u;cases j:Ag σ x with
    | none=>rw[j]at hs;simp[Cw]at hs
    | some xv =>
     cases E:Ag σ y with
     | none=>rw[j,E]at hs;simp[Cw]at hs
     | some Q =>
      rw[A x (D _ sc) xv j,A y (D _ sc) Q E];rw[j,E]at hs;unfold Cw at hs ⊢;split at hs
      .split at hs
       .rename_i P;simp only[P,AAQ];rename_i R J;cases J;rw[P]at hs;cases C:lk u tb.ty with
        | none=>rw[C]at hs;simp[Eq]at hs
        | some ti =>
         rw[C]at hs;unfold Eq at hs ⊢;split at hs
         .rename_i e offs el b F;cases B:Ol σ e Q with
          | none=>rw[B]at hs;cases W:lk el tb.ty<;>rw[W]at hs<;>simp[FN]at hs
          | some ys =>
           rw[B]at hs;rw[LQ h B];exact hs
         cases hs
       cases hs
      .split at hs
       .rename_i P;simp only[P,AAQ];rename_i R J;cases J;rw[P]at hs;cases C:lk u tb.ty with
        | none=>rw[C]at hs;simp[Jp]at hs
        | some ti =>
         rw[C]at hs;unfold Jp at hs ⊢;split at hs
         .rename_i e offs el b F;split at hs
          .rename_i V;simp only[V,AAQ];cases B:Ol σ _ Q with
           | none=>rw[B]at hs;cases W:lk el tb.ty<;>rw[W]at hs<;>simp[K6]at hs
           | some ys =>
            rw[B]at hs;rw[LQ h B];exact hs
          cases hs
         cases hs
       cases hs
      cases hs
   .exact N (f:=SY) (D _ sc) (D _ sc) (λb=>by simp[SY]) (λa=>by cases a<;>simp[SY]) hs
   .exact N (f:=SZ) (D _ sc) (D _ sc) (λb=>by simp[SZ]) (λa=>by cases a<;>simp[SZ]) hs
   .rename_i x y z t u az;cases j:Ag σ x with
    | none=>rw[j]at hs;simp[I1]at hs
    | some xv =>
     cases E:Ag σ y with
     | none=>rw[j,E]at hs;simp[I1]at hs
     | some Q =>
      cases M:Ag σ z with
      | none=>rw[j,E,M]at hs;simp[I1]at hs
      | some ao =>
       rw[A x (D _ sc) xv j,A y (D _ sc) Q E,A z (D _ sc) ao M,<-j,<-E,<-M];exact hs
   .rename_i ts x y z u r;have O:∀(r:List Operand) (k:IntKind) (o:Option Int) (m:Int),(∀q∈r,∀v,Ag σ q=some v->Ag σ' q=some v)->FO σ k o r=some m->FO σ' k o r=some m:=by
     intro r;induction r with
     | nil=>intro k o m _ h;cases o<;>(simp[FO]at h;try exact AB3 some h)
     | cons q r aj =>
      intro k o m S h;cases o with
      | none=>simp[FO]at h
      | some a =>
       simp only[FO]at h ⊢;cases B:Ag σ q with
       | none=>rw[B]at h;cases r<;>simp[Oo,FO]at h
       | some v =>
        rw[B]at h;rw[S q sc v B];exact aj k _ m (λp G=>S p (by simp[G])) h
    cases j:Ag σ x with
    | none=>rw[j]at hs;simp[Oq]at hs
    | some xv =>
     rw[j]at hs;rw[A x (D _ sc) xv j];unfold Oq at hs ⊢;split at hs
     .rename_i k a F;cases F;cases K:FO σ k (some a) (y :: z :: u :: r) with
      | none=>rw[K]at hs;simp[Re]at hs
      | some m =>
       rw[K]at hs;rw[O _ _ _ _ (λq S=>A q (D _ (IF _ S))) K];exact hs
     cases hs
   cases hs
end
end
end Go.Proofs.YtglkoagnnnpimaaGreatDoor.Fw
