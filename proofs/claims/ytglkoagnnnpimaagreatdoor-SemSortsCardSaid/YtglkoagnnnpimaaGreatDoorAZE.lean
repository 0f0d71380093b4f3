/- One operation, a sequence, loops, the entry and the end of a function: the rules. -/
import Derived.Test.YtglkoagnnnpimaaGreatDoorAZD
import Derived.Deep.LoopGhost
import Derived.ControlIn
set_option linter.unusedVariables false
set_option linter.unusedSimpArgs false
namespace Go.Proofs.YtglkoagnnnpimaaGreatDoor.Fw
variable {j n:Nat} {x y:Code} {Q:Exit->Act->World->Prop} {Z O:St} {a:Act} {w:World} {v P:AV} {Y:Act->World->Prop} {X:ResultVar} {W:Value} {o:Operand} {V:Oper} {U:Array Oper} {b:Bool} {T:Type} {S:Nat->Value} {R:Func} {N:Prop}
section
open Go Go.RowKit
abbrev ABD:=@Go.wpIn_region_list
abbrev ACy:=@Go.wpIn_mono
structure Cx where
 P:Program
 tb:Tb
 w0:World
 K:Nat->Prop
 O0:Nat->Prop
 nt:Nat
 
 ds:Fp:={}
 
 r:Option Nat:=none
structure Cx.Ok (c:Cx):Prop where
 K:∀b,c.K b->b<c.w0.heap.size
 O:∀b,c.O0 b->b<c.w0.heap.size
 T:Cs c.P c.tb
 F:Hi c.P c.tb
 G:GW c.w0 c.K c.O0
def Cx.sat (c:Cx) (σ:St) (a:Act) (w:World):Prop:=∃ρ,Bx c.w0 c.K c.O0 c.nt c.ds σ ρ a w
section
variable {c:Cx}
theorem nG (hc:c.Ok) {σ:St} {ρ:Nat->Value} (h:Bx c.w0 c.K c.O0 c.nt c.ds σ ρ a w):A5Q c.P c.tb w c.O0 σ ρ a where
 hT:=hc.T
 hF:=hc.F
 hG:=hc.G.mono (λb hk ho=>⟨AAu (hc.K b hk) h.frm.size,λhb=>by
  rcases hb with h0|⟨n,hn,hb⟩
  .exact ho h0
  exact(h.free n b hn hb).1 hk⟩) h.frm.block
 obj:=h.objs
 own:=by
  intro b hb;rcases hb with h0|⟨n,⟨o,ho⟩,hb⟩
  .exact AAu (hc.O b h0) h.frm.size
  exact(h.objs n o ho).block_lt hb
 ev:=CN h.env
theorem sP (e:c.Ok) {σ σ':St} {ρ:Nat->Value} (hs:Bx c.w0 c.K c.O0 c.nt c.ds σ ρ a w) {o:Oper} (h:E7 c.tb σ o.dst o.op=some (N,σ')) (k:N) (j:∀d,o.dst=some d->d<c.nt)
  {next:Act->World->Prop} (hn:∀i w',c.sat σ' i w'->next i w'):o.wpIn (FR c.r) 0 c.P a w next Q:=by
 obtain⟨dst,op,type,pos,after,guard⟩:=o;simp only at h j;cases op<;>simp only[E7]at h<;>try(cases h;done)
 case store t x y =>
  cases dst with
  | some d=>simp[Dw]at h
  | none =>
   simp only[Dw]at h;obtain⟨w',ρ',h1,f⟩:=dR (P:=c.P) hs e.K e.O e.T h k;exact jN (w':=w') (by simp[execOp,h1]) (hn _ _ ⟨ρ',f⟩)
 case mapUpdate t m x y =>
  cases dst with
  | some d=>simp[Dw]at h
  | none =>
   simp only[Dw]at h;obtain⟨w',h1,f⟩:=nF (P:=c.P) hs e.K e.T h;exact jN (w':=w') (by simp[execOp,h1]) (hn _ _ ⟨ρ,f⟩)
 case call cl =>
  obtain⟨callee,args,argTypes⟩:=cl;cases callee with
  | value g=>simp[DI]at h
  | invoke r m=>simp[DI]at h
  | builtin b =>
   simp only[DI]at h;obtain⟨args⟩:=args;obtain⟨argTypes⟩:=argTypes;simp only at h;unfold Dg at h;split at h
   .rename_i x y t u;obtain⟨z,w',ρ',h1,f⟩:=dQ (P:=c.P) (ty:=type) hs e.K e.O e.T j h k;exact AZ (u:=z) (w':=w') (by simp[execOp,resolve,invoke,builtin,h1]) (hn _ _ ⟨ρ',f⟩)
   cases h
theorem Nr (b:c.Ok) {σ σ':St} (hs:c.sat σ a w) {o:Oper} (h:F3 c.tb o σ=some (N,σ')) (i:N) (g:∀d,o.dst=some d->d<c.nt)
  {next:Act->World->Prop} (hn:∀f w',c.sat σ' f w'->next f w'):o.wpIn (FR c.r) 0 c.P a w next Q:=by
 obtain⟨ρ,hs⟩:=hs;have hs:=JE (l:=CL σ o.op) hs;unfold F3 QN at h;generalize Ci (CL σ o.op) σ=k at h hs;cases e:aq c.tb k (o.dst.getD 0) o.op with
 | some r =>
  obtain⟨m,v,obs⟩:=r;rw[e]at h;simp only[KO]at h;split at h
  .rename_i hf;cases h;exact jK (nG b hs) e i hf λu ρ' w' j=>hn _ _ ⟨ρ',hs.add b.K b.O g hf j⟩
  cases h
 | none =>
  rw[e]at h;exact sP b hs h i g hn
theorem Gc {ops:Array Oper} {σ:St} (hs:c.sat σ a w) {o:Oper} (h:Ej ops.toList σ o.guard=some b):Region.wanted o (yielded ops a.tmps)=b:=by
 obtain⟨ρ,hs⟩:=hs;unfold Ej at h;split at h
 .rename_i e;cases h;simp[Region.wanted,e]
 rename_i j q e;cases f:(ops.toList[j]?).bind (·.dst) with
 | none=>rw[f]at h;simp[KP]at h
 | some g =>
  rw[f]at h;simp only[KP]at h;cases i:lk g σ.env with
  | none=>rw[i]at h;simp[PK]at h
  | some v =>
   rw[i]at h;unfold PK at h;split at h
   .rename_i l m;cases m;cases h;have d:=hs.env g _ i;have d:=Dn d;have p:(ops[j]?).bind (·.dst)=some g:=by simpa using f
    have n:a.tmps[g]?=some (.bool l):=by
     by_cases k:g<a.tmps.size
     .have:a.tmps.getD g undef=a.tmps[g]:=by simp[Array.getD,k]
      rw[this]at d;rw[AAg k,d]
     have:a.tmps.getD g undef=undef:=by simp[Array.getD,k]
     rw[this]at d;cases d
    simp only[Region.wanted,e,yielded,p,Option.bind_some,n];cases l<;>cases q<;>rfl
   cases h
theorem Lg {σ:St} (b:c.Ok) (hs:c.sat σ a w) {dst:Option Nat} (e:∀d,dst=some d->d<c.nt):c.sat (σ.add (.raw undef) [] dst) (a.put dst undef) w:=by
 obtain⟨ρ,hs⟩:=hs;exact⟨ρ,hs.add b.K b.O e (by simp[Bb]) (QS.still rfl)⟩
def IU (nt:Nat) (o:Oper):Bool :=
 match o.dst with
 | some d=>decide (d<nt)
 | none=>true
theorem Az {nt:Nat} {o:Oper} (h:IU nt o=true):∀d,o.dst=some d->d<nt:=by grind [IU]
theorem PR (d:c.Ok) {ops:Array Oper} {Q:Exit->Act->World->Prop} {r:List Oper}:∀(l:List Oper) {σ σ':St} {vc:Prop} {a:Act} {w:World},c.sat σ a w->(∀o∈l,IU c.nt o=true)->Bt c.tb ops.toList l σ=some (vc,σ')->vc ->
  (∀g w',c.sat σ' g w'->wpListIn (FR c.r) 0 c.P ops Q r g w')->wpListIn (FR c.r) 0 c.P ops Q (l++r) a w
 | [],σ,σ',vc,a,w,hs,e,h,f,i=>by grind [Bt]
 | o :: l,σ,σ',vc,a,w,hs,e,h,f,i=>by
  simp only[Bt]at h;cases j:Ej ops.toList σ o.guard with
  | none=>rw[j]at h;simp[evG]at h
  | some b =>
   rw[j]at h;have s:=Gc hs j;have q:=Az (e o sc);rw[To];unfold wpListIn;cases b with
   | true =>
    simp only[evG]at h;rw[At s];cases n:F3 c.tb o σ with
    | none=>rw[n]at h;simp[evK]at h
    | some r =>
     obtain⟨x,v⟩:=r;rw[n]at h;simp only[evK]at h;cases m:Bt c.tb ops.toList l v with
     | none=>rw[m]at h;simp[VR]at h
     | some u =>
      obtain⟨y,σ2⟩:=u;rw[m]at h;simp only[VR]at h;cases h;exact Nr d hs n f.1 q λg w' t=>PR d l t (λp k=>e p (by simp[k])) m f.2 i
   | false =>
    simp only[evG]at h;rw[As (by simp[s])];refine⟨λ_ _=>trivial,?_⟩;exact PR d l (Lg d hs q) (λp k=>e p (by simp[k])) h f i
theorem Ns (e:c.Ok) {ops:Array Oper} {Q:Exit->Act->World->Prop}:∀(l:List Oper) {σ σ':St} {vc:Prop} {a:Act} {w:World},c.sat σ a w->(∀o∈l,IU c.nt o=true)->Bt c.tb ops.toList l σ=some (vc,σ')->vc ->
  (∀i w',c.sat σ' i w'->Q .normal i w')->wpListIn (FR c.r) 0 c.P ops Q l a w
 | [],σ,σ',vc,a,w,hs,f,h,g,d=>by
  simp only[Bt]at h;cases h;exact d _ _ hs
 | o :: l,σ,σ',vc,a,w,hs,f,h,g,d=>by
  simp only[Bt]at h;cases j:Ej ops.toList σ o.guard with
  | none=>rw[j]at h;simp[evG]at h
  | some b =>
   rw[j]at h;have s:=Gc hs j;have q:=Az (f o sc);unfold wpListIn;cases b with
   | true =>
    simp only[evG]at h;rw[At s];cases n:F3 c.tb o σ with
    | none=>rw[n]at h;simp[evK]at h
    | some r =>
     obtain⟨x,v⟩:=r;rw[n]at h;simp only[evK]at h;cases m:Bt c.tb ops.toList l v with
     | none=>rw[m]at h;simp[VR]at h
     | some u =>
      obtain⟨y,σ2⟩:=u;rw[m]at h;simp only[VR]at h;cases h;exact Nr e hs n g.1 q λi w' t=>Ns e l t (λp k=>f p (by simp[k])) m g.2 d
   | false =>
    simp only[evG]at h;rw[As (by simp[s])];refine⟨λ_ _=>trivial,?_⟩;exact Ns e l (Lg e hs q) (λp k=>f p (by simp[k])) h g d
end
end
section
open Go Go.RowKit
inductive CU where
 | seq (c:Code)
 | blk (id:Nat)
 
 | inv (post:St->Prop)
def Bl (nt:Nat):Code->Bool
 | .region _ ops _=>ops.toList.all (IU nt)
 | .seq a b=>Bl nt a&&Bl nt b
 | .cond _ a b=>Bl nt a&&Bl nt b
 | .block _ b=>Bl nt b
 | .loop b=>Bl nt b
 | .scope b=>Bl nt b
 | _=>true
def Co (nt:Nat):List CU->Bool
 | []=>true
 | .seq c :: k=>Bl nt c&&Co nt k
 | _ :: k=>Co nt k
def Rj (c:Cx) (R:Exit->Act->World->Prop):List CU->Exit->Act->World->Prop
 | [],e,a,w=>R e a w
 | .seq y :: k,.normal,a,w=>y.wpIn (FR c.r) 0 c.P (Rj c R k) a w
 | .seq _ :: k,e,a,w=>Rj c R k e a w
 | .blk id :: k,.exit b,a,w=>if b=id then Rj c R k .normal a w else Rj c R k (.exit b) a w
 | .blk _ :: k,e,a,w=>Rj c R k e a w
 | .inv post :: _,.normal,a,w=>∃σ,c.sat σ a w/\post σ
 | .inv _ :: k,e,a,w=>Rj c R k e a w
inductive jP where
 | run (cd:Code)
 | out (e:Exit)
def nwp (c:Cx) (R:Exit->Act->World->Prop) (k:List CU):jP->Act->World->Prop
 | .run cd,a,w=>cd.wpIn (FR c.r) 0 c.P (Rj c R k) a w
 | .out e,a,w=>Rj c R k e a w
def G3 (nt:Nat):jP->Bool
 | .run cd=>Bl nt cd
 | .out _=>true
def Ev (c:Cx) (R:Exit->Act->World->Prop) (n:jP) (k:List CU) (σ:St):Prop :=
 G3 c.nt n=true->Co c.nt k=true->∀a w,c.sat σ a w->nwp c R k n a w
theorem RI {F:Fence} {P:Program} {c:Code} (b:Nat->Act->World->Prop) (i:Nat) (o:b i a w)
  (round:∀n a w,b n a w->c.wpIn F j P (Exit.then (λg w'=>∃f,f<n/\b f g w') Q) a w):(Code.loop c).wpIn F j P Q a w:=by
 refine wpIn_loop (λa w=>∃n,b n a w) (λa w=>leastOf (λn=>b n a w)) ⟨i,o⟩ ?_;intro a w k;refine ACy (round _ a w (leastOf_spec k).1) ?_;intro e g w' d;cases e with
 | normal =>
  obtain⟨f,m,h⟩:=d;exact show (∃n,b n g w')/\leastOf (λn=>b n g w')<leastOf (λn=>b n a w) from ⟨⟨f,h⟩,ACa ((leastOf_spec ⟨f,h⟩).2 f h) m⟩
 | exit id=>exact d
 | goto l=>exact d
 | ret=>exact d
 | panic ch=>exact d
 | outgrown=>exact d
def qZ (c:Cx) (σ σ':St):Prop:=∀a w,c.sat σ a w->c.sat σ' a w
section
variable {c:Cx} {R:Exit->Act->World->Prop} {k:List CU} {σ σ':St}
theorem Ev.ent {n:jP} (h:Ev c R n k σ') (d:qZ c σ σ'):Ev c R n k σ:=λh1 b a w hs=>h h1 b a w (d a w hs)
theorem A3J (h:Ev c R (.run x) (.seq y :: k) σ):Ev c R (.run (.seq x y)) k σ:=by
 intro h1 b a w hs;simp only[G3,Bl,AT]at h1;refine wpIn_seq (ACy (h h1.1 (by simp[Co,h1.2,b]) a w hs) ?_);intro e f w' d;cases e<;>exact d
theorem A0B (h:Ev c R (.out .normal) k σ):Ev c R (.run .skip) k σ:=λ_ b a w hs=>wpIn_skip (h rfl b a w hs)
theorem A3K (h:Ev c R (.out .ret) k σ):Ev c R (.run .ret) k σ:=λ_ b a w hs=>wpIn_ret (h rfl b a w hs)
theorem A0C (h:Ev c R (.out (.exit j)) k σ):Ev c R (.run (.exit j)) k σ:=λ_ b a w hs=>wpIn_exit (h rfl b a w hs)
theorem sQ {b:Code} (h:Ev c R (.run b) (.blk j :: k) σ):Ev c R (.run (.block j b)) k σ:=by
 intro h1 d a w hs;refine wpIn_block (ACy (h (by simpa[G3,Bl] using h1) (by simpa[Co] using d) a w hs) ?_);intro e g w' f;cases e<;>exact f
def EvR (c:Cx) (R:Exit->Act->World->Prop) (k:List CU):Cp->Prop
 | some (vc,σ)=>vc/\Ev c R (.out .normal) k σ
 | none=>False
theorem nH (f:c.Ok) {ops:Array Oper} (h:EvR c R k (Bt c.tb ops.toList ops.toList σ)):Ev c R (.run (.region j ops false)) k σ:=by
 intro h1 e a w hs;cases b:Bt c.tb ops.toList ops.toList σ with
 | none=>rw[b]at h;exact h.elim
 | some r =>
  obtain⟨vc,σ'⟩:=r;rw[b]at h;simp only[G3,Bl,No]at h1;exact ABD (Ns f ops.toList hs h1 b h.1 λd w' g=>h.2 rfl e d w' g)
def EvC (c:Cx) (R:Exit->Act->World->Prop) (x y:Code) (k:List CU) (σ:St):Option AV->Prop
 | some (.p .bool b)=>(b=true->Ev c R (.run x) k σ)/\(b=false->Ev c R (.run y) k σ)
 | _=>False
theorem A0D (h:EvC c R x y k σ (Ab σ o)):Ev c R (.run (.cond o x y)) k σ:=by
 intro h1 g a w hs;simp only[G3,Bl,AT]at h1;obtain⟨ρ,f⟩:=hs;have j:=CN f.env;cases e:Ab σ o with
 | none=>rw[e]at h;exact h.elim
 | some v =>
  have l:=j o v e;rw[e]at h;unfold EvC at h;split at h
  .rename_i b i;cases i;have d:=Dn l;exact wpIn_cond_split d (λd=>h.1 d h1.1 g a w ⟨ρ,f⟩) (λd=>h.2 d h1.2 g a w ⟨ρ,f⟩)
  exact h.elim
theorem Sn {y:Code} (h:Ev c R (.run y) k σ):Ev c R (.out .normal) (.seq y :: k) σ:=by
 intro _ b a w hs;simp only[Co,AT]at b;exact h b.1 b.2 a w hs
theorem ZU {y:Code} (h:Ev c R (.out (.exit j)) k σ):Ev c R (.out (.exit j)) (.seq y :: k) σ:=by
 intro _ b a w hs;simp only[Co,AT]at b;exact h rfl b.2 a w hs
theorem dS {y:Code} (h:Ev c R (.out .ret) k σ):Ev c R (.out .ret) (.seq y :: k) σ:=by
 intro _ b a w hs;simp only[Co,AT]at b;exact h rfl b.2 a w hs
theorem dT (h:Ev c R (.out .normal) k σ):Ev c R (.out .normal) (.blk j :: k) σ:=λ_ b a w hs=>h rfl (by simpa[Co] using b) a w hs
theorem Qb {b:Nat} (h:if b=j then Ev c R (.out .normal) k σ else Ev c R (.out (.exit b)) k σ):Ev c R (.out (.exit b)) (.blk j :: k) σ:=by
 intro _ d a w hs;have d:Co c.nt k=true:=by simpa[Co] using d
 show (if b=j then Rj c R k .normal a w else Rj c R k (.exit b) a w);split at h
 .rename_i e;rw[At e];exact h rfl d a w hs
 rename_i e;rw[As e];exact h rfl d a w hs
theorem dU (h:Ev c R (.out .ret) k σ):Ev c R (.out .ret) (.blk j :: k) σ:=λ_ b a w hs=>h rfl (by simpa[Co] using b) a w hs
theorem AB {post:St->Prop} (h:post σ):Ev c R (.out .normal) (.inv post :: k) σ:=λ_ _ _ _ hs=>⟨σ,hs,h⟩
theorem ZV {post:St->Prop} (h:Ev c R (.out (.exit j)) k σ):Ev c R (.out (.exit j)) (.inv post :: k) σ:=λ_ b a w hs=>h rfl (by simpa[Co] using b) a w hs
theorem dV {post:St->Prop} (h:Ev c R (.out .ret) k σ):Ev c R (.out .ret) (.inv post :: k) σ:=λ_ b a w hs=>h rfl (by simpa[Co] using b) a w hs
def A5R (c:Cx) {ι:Type} (I:ι->St) (μ:ι->Nat) (i:ι) (σ:St):Prop:=∃j,μ j<μ i/\qZ c σ (I j)
theorem AJ {ι:Type} (d:ι->St) (f:ι->Nat) (g:ι) {b:Code} (h0:qZ c σ (d g)) (o:∀i,Ev c R (.run b) (.inv (A5R c d f i) :: k) (d i)):Ev c R (.run (.loop b)) k σ:=by
 intro h1 m a w hs;have h1:Bl c.nt b=true:=by simpa[G3,Bl] using h1
 refine RI (λn a w=>∃i,f i=n/\c.sat (d i) a w) (f g) ⟨g,rfl,h0 a w hs⟩ ?_;rintro n a w ⟨i,rfl,hs⟩;refine ACy (o i h1 (by simpa[Co] using m) a w hs) ?_;intro e l w' h;cases e with
 | normal =>
  obtain⟨σ',r,j,q,p⟩:=h;exact⟨f j,q,j,rfl,p l w' r⟩
 | _=>exact h
theorem A0E {ι:Type} (b:ι->St) (h:Ev c R (.run x) (.inv (fun σ'=>∃i,qZ c σ' (b i)) :: .seq y :: k) σ) (m:∀i,Ev c R (.run y) k (b i)):Ev c R (.run (.seq x y)) k σ:=by
 intro h1 f a w hs;simp only[G3,Bl,AT]at h1;refine wpIn_seq (ACy (h h1.1 (by simp[Co,h1.2,f]) a w hs) ?_);intro e d w' g;cases e with
 | normal =>
  obtain⟨σ',l,i,j⟩:=g;exact m i h1.2 f d w' (j d w' l)
 | _=>exact g
end
end
section
open Go Go.RowKit
def AM:Nat->(ts:List Ty)->Iy ts->List (Nat×AV)
 | _,[],_=>[]
 | s,t :: ts,d=>(s,.p t d.1) :: AM (s+1) ts d.2
def JF (σ:St) (ty:Ty):Option AV->Option AV
 | some (.bp n a off)=>match D2 ty a off (lk n σ.objs) with
  | some (_,v,_)=>some v
  | none=>none
 | _=>none
def IV (tb:Tb) (σ:St):ResultVar->Option AV
 | .tmp t=>lk t σ.env
 | .cell a t=>match lk t tb.ty with
  | some ti=>JF σ ti.ty (lk a σ.env)
  | none=>none
def Lh:Option AV->List Nat
 | some v=>v.names
 | none=>[]
def H7 (σ:St) (t:Ty):Option AV->Option t.den
 | some v=>Hz false σ t v
 | none=>none
def G4 (σ:St) (et:TypeId) (e:Ty):Option Obj->Option (List e.den)
 | some (.arr b a xs)=>if b=et then BR (.slice e) ⟨.slice a,xs⟩ else none
 | _=>none
def KY (tb:Tb) (σ:St) (rv:ResultVar):RV->Prop
 | .p t d=>H7 (Ci (Lh (IV tb σ rv)) σ) t (IV tb (Ci (Lh (IV tb σ rv)) σ) rv)=some d
 | .own et e xs=>match IV tb σ rv with
  | some (.sr n a 0 hi)=>a=e/\G4 σ et e (lk n σ.objs)=some xs/\hi=xs.length
  | _=>False
def MJ (tb:Tb) (σ:St):List ResultVar->List RV->Prop
 | [],[]=>True
 | [rv],[r]=>KY tb σ rv r
 | rv :: b,.p t d :: a=>KY tb σ rv (.p t d)/\MJ tb σ b a
 | _,_=>False
section
variable {P:Program} {tb:Tb} {w0:World} {O0:Nat->Prop} {nt:Nat} {ds:Fp}
def cx (P:Program) (tb:Tb) (w0:World) (O0:Nat->Prop) (nt:Nat):Cx:={ P:=P,tb:=tb,w0:=w0,K:=λb=>b<w0.heap.size,O0:=O0,nt:=nt }
theorem Vt:∀(ts:List Ty) (a:List Value) (ds:Iy ts) (k:Nat) (w:World) (O:Nat->Prop),Nm w O ts a ds->∀s v,lk s (AM k ts ds)=some v->k<=s/\∃u,a[s-k]?=some u/\∃t d,v=.p t d/\BQ w O t u d
 | [],a,ds,k,w,O,h,s,v,hs=>by simp[AM,lk]at hs
 | t :: ts,a,ds,k,w,O,h,s,v,hs=>by
  obtain⟨u,r,rfl,h1,b⟩:=h;simp only[AM,lk]at hs;split at hs
  .grind
  obtain⟨c,g,e,f⟩:=Vt ts r ds.2 (k+1) w O b s v hs;grind
theorem Qc:∀ {ts:List Ty} {a:List Value} {ds:Iy ts} {w:World} {O:Nat->Prop},Nm w O ts a ds->a.length=ts.length
 | [],a,ds,w,O,h=>by have h:a=[]:=h;subst h;rfl
 | t :: ts,a,ds,w,O,h=>by
  obtain⟨u,r,rfl,h1,b⟩:=h;simp[Qc b]
theorem nI {ts:List Ty} {a:List Value} {ds:Iy ts} (h:Nm w0 O0 ts a ds) (l:a.length<=nt) :
  (cx P tb w0 O0 nt).sat ⟨AM 0 ts ds,[]⟩ { tmps:=a.toArray++Array.replicate (nt-a.toArray.size) undef,defers:=[] } w0:=by
 refine⟨λ_=>undef,⟨rfl,rfl,rfl,OS _,λ_ _=>rfl⟩,by simp[cx];omega,rfl,(λp k=>by simp[cx]at k),λn o h=>by simp[lk]at h,λn b ⟨o,h⟩=>by simp[lk]at h,λn m b ⟨o,h⟩=>by simp[lk]at h,λs v hs=>?_⟩;obtain⟨_,u,h1,t,d,rfl,e⟩:=Vt ts a ds 0 w0 O0 h s v hs;have c:s<a.length:=by grind
 have i:(a.toArray++Array.replicate (nt-a.toArray.size) undef).getD s undef=u:=by
  have h1:a[s]?=some u:=by simpa using h1
  have:a[s]=u:=by rw[An c]at h1;injection h1
  simp[Array.getElem?_append,c,this]
 rw[i];refine BQ.mono (λb _ f g=>?_) (λ_ _ _=>rfl) e;rcases g with h0|⟨n,⟨o,j⟩,_⟩
 .exact f h0
 simp[lk]at j
def IW (tmps:Array Value):ResultVar->Sem Value
 | .tmp t=>pure (tmps.getD t undef)
 | .cell a t=>do loadVar t (<-asAddr (tmps.getD a undef))
theorem Mo (fn:Func) (tmps:Array Value):results fn tmps=(do let a <-fn.results.mapM (IW tmps);pure (if h:a.size=1 then a[0] else .tuple a)):=by
 unfold results
 congr 1
theorem Rk (hT:Cs P tb) {K:Nat->Prop} {σ:St} {ρ:Nat->Value} {w:World} (hs:Bx w0 K O0 nt ds σ ρ a w) {rv:ResultVar} (h:IV tb σ rv=some v) :
  ∃u,(IW a.tmps rv).run P w=.ok u w/\Bu (vw w O0 σ ρ) v u:=by
 cases rv with
 | tmp t =>
  simp only[IV]at h;exact⟨_,by simp[IW],hs.env t v h⟩
 | cell x t =>
  simp only[IV]at h;cases d:lk t tb.ty with
  | none=>rw[d]at h;simp at h
  | some ti =>
   rw[d]at h;simp only at h;cases e:lk x σ.env with
   | none=>rw[e]at h;simp[JF]at h
   | some xv =>
    rw[e]at h;unfold JF at h;split at h
    .rename_i n l off i;cases i;have f:=hs.env x _ e;split at h
     .rename_i vc o obs j;cases h;have k:Jp σ (some ti) (some (.bp n l off))=some (vc,v,obs):=j;obtain⟨_,u,h1,g⟩:=rS (hT _ _ d) hs.objs k f;obtain⟨m,b,_,c⟩:=f;rw[c]at h1;have c:a.tmps.getD x undef=.pointer (some ⟨b,off,none⟩):=c;refine⟨u,?_,g⟩;simp only[Instr.loadAt,Instr.sureAddr,AAv,AAV,AA8]at h1;simp only[IW,c,asAddr,AAv,AAV,AA8,h1]
     cases h
    cases h
theorem A0F (hT:Cs P tb) {K:Nat->Prop} {σ:St} {ρ:Nat->Value} {w:World} (hs:Bx w0 K O0 nt ds σ ρ a w) {rv:ResultVar} {t:Ty} {d:t.den} (h:KY tb σ rv (.p t d)) :
  ∃u,(IW a.tmps rv).run P w=.ok u w/\BQ w O0 t u d:=by
 unfold KY at h;have e:=JE (l:=Lh (IV tb σ rv)) hs;generalize Ci (Lh (IV tb σ rv)) σ=f at h e;cases c:IV tb f rv with
 | none=>rw[c]at h;simp[H7]at h
 | some v =>
  rw[c]at h;simp only[H7]at h;obtain⟨u,h1,g⟩:=Rk hT e c;have i:=Eu (V:=vw w O0 f ρ) (O':=O0) (λb j k=>j (.inl k)) (λh=>by cases h) e.objs h g;exact⟨u,h1,i⟩
theorem sR (hT:Cs P tb) {K:Nat->Prop} {σ:St} {ρ:Nat->Value} {a:Act} {w:World} (hs:Bx w0 K O0 nt ds σ ρ a w):∀ {f:List ResultVar} {c:List RV},(∀r∈c,∃t d,r=.p t d)->MJ tb σ f c ->
  ∃e:List Value,(f.mapM (IW a.tmps)).run P w=.ok e w/\e.length=c.length /\
   ∀nm V,V.w=w->(∀b,V.O b->O0 b)->Gz V (Hg nm c) e
 | [],[],_,_=>⟨[],by simp,rfl,λ_ _ _ _=>rfl⟩
 | [],_ :: _,_,h=>by simp[MJ]at h
 | _ :: _,[],_,h=>by simp[MJ]at h
 | rv :: f,r :: c,i,h=>by
  obtain⟨t,d,rfl⟩:=i r sc;have g:KY tb σ rv (.p t d)/\MJ tb σ f c:=by
   cases f with
   | nil =>
    cases c with
    | nil=>exact⟨h,trivial⟩
    | cons s v=>exact⟨h.1,h.2⟩
   | cons x y=>exact⟨h.1,h.2⟩
  obtain⟨u,h1,o⟩:=A0F hT hs g.1;obtain⟨e,q,j,k⟩:=sR hT hs (λr m=>i r (by simp[m])) g.2;refine⟨u :: e,?_,by simp[j],λnm V n l=>⟨u,e,rfl,?_,k _ V n l⟩⟩
  .simp_all
  show BQ V.w V.O t u d;grind [BQ.mono]
def So (P:Program) (fn:Func) (w0:World) (O0:Nat->Prop) (outs:List RV):Exit->Act->World->Prop :=
 bodyPost P fn λe w'=>∃u,e=.returned u/\r9 w0 O0 outs u w'
theorem sS (x:(cx P tb w0 O0 nt).Ok) {fn:Func} {outs:List RV} {σ:St} {e:Exit} (y:e=.ret\/e=.normal) (i:∀r∈outs,∃t d,r=.p t d) (h:MJ tb σ fn.results.toList outs) :
  Ev (cx P tb w0 O0 nt) (So P fn w0 O0 outs) (.out e) [] σ:=by
 intro _ _ a w hs;obtain⟨ρ,hs⟩:=hs;obtain⟨f,h1,g,m⟩:=sR x.T hs i h;have h1:(fn.results.toList.mapM (IW a.tmps)).run P w=.ok f w:=h1;have s:Below w0.heap.size w0 w:=⟨hs.frm.os,hs.frm.tape,hs.frm.output,hs.frm.size,hs.frm.block⟩;have D:∃v,(results fn a.tmps).run P w=.ok v w/\r9 w0 O0 outs v w:=by
  have A:(fn.results.mapM (IW a.tmps)).run P w=.ok f.toArray w:=by
   rw[ABh]
   simp_all
  refine⟨if h:f.toArray.size=1 then f.toArray[0] else .tuple f.toArray,?_,λnm=>⟨λ_=>undef,?_⟩⟩
  .rw[Mo];simp only[AAv,A,AA8,AAV]
  have z:Cr nm outs=[]:=by
   clear h h1 g m;induction outs generalizing nm with
   | nil=>rfl
   | cons r F E =>
    obtain⟨t,d,rfl⟩:=i r sc;simp only[Cr,SQ,bY];exact E (λr C=>i r (by simp[C])) (nm+10000)
  rw[z];refine⟨s,λ_ _=>rfl,?_,(λ_ _ h=>by cases h),(λ_ _ _ h=>by cases h),(λ_ _ _ _ _ h=>by cases h)⟩;have c:=m nm (vw w O0 (DX ⟨[],[]⟩ []) (λ_=>undef)) rfl (λb q=>by
   rcases q with h0|⟨n,⟨o,B⟩,_⟩
   .exact h0
   simp[DX,lk]at B)
  match outs,i,f,g,c with
  | [],_,f,g,c =>
   have c:f=[]:=c;subst c;exact(rfl:_=_)
  | [r],i,f,g,c =>
   obtain⟨u,l,rfl,j,k⟩:=c;have k:l=[]:=k;subst k;simp only[Gx];exact rG j
  | G :: H :: F,i,f,g,c =>
   have:¬f.toArray.size=1:=by simp at g ⊢;omega
   rw[dif_neg this];exact⟨f,rfl,c⟩
 obtain⟨v,c,j⟩:=D;rcases y with rfl|rfl
 .exact⟨hs.defers,v,c,v,rfl,j⟩
 exact⟨hs.defers,v,c,v,rfl,j⟩
end
end
section
open Go Go.RowKit
def Ty.ok:(t:Ty)->t.den->Prop
 | .int k,d=>HY k d
 | .bool,_=>True
 | .str,d=>ByteArray.size d<=AO
 | .slice e,d=>List.length d<=AO/\∀x∈(d:List e.den),e.ok x
 | .prod a b,d=>a.ok d.1/\b.ok d.2
 | .agg t,d=>t.ok d
 | .ref k,d=>A2R k d
theorem G5 {w:World} {O:Nat->Prop}:∀ {t:Ty} {cs:List Value} {d:t.den},Bn w O t cs d->t.ok d
 | .int _,_,_,h=>h.2
 | .bool,_,_,_=>trivial
 | .str,_,_,h=>h.2
 | .ref _,_,_,h=>h.2
 | .slice e,_,d,h=>by
  obtain⟨a,c,_,_,f,g⟩:=h;refine⟨f,λx j=>?_⟩;rcases g with g|⟨ad,_,_,k⟩
  .subst g;simp at j
  obtain⟨i,hi,rfl⟩:=AAn.1 j;obtain⟨m,_,_,l⟩:=k i _ (An hi);exact G5 l
 | .prod a b,_,_,h=>by
  obtain⟨c1,c2,_,h1,f⟩:=h;exact⟨G5 h1,G5 f⟩
 | .agg t,cs,d,h=>by
  have h:Bn w O t cs d:=h;exact(G5 h:t.ok d)
def oks:(ts:List Ty)->Iy ts->Prop
 | [],_=>True
 | t :: ts,d=>t.ok d.1/\oks ts d.2
theorem jQ {w:World} {O:Nat->Prop}:∀ {ts:List Ty} {a:List Value} {ds:Iy ts},Nm w O ts a ds->oks ts ds
 | [],_,_,_=>trivial
 | t :: ts,a,ds,h=>by
  obtain⟨v,r,rfl,⟨cs,h1,_⟩,b⟩:=h;exact⟨G5 h1,jQ b⟩
section
variable {P:Program} {tb:Tb} {w0:World} {O0:Nat->Prop} {nt:Nat}
theorem A30 {f : FuncId} {fn : Func} {sp : AX} (d : P.funcs[f]? = some fn) (j : (fn.name == "runtime.NumGoroutine") = false) (c : fn.body = some x) (k : fn.ntmps = nt) (m : sp.ins.length <= nt)
  (i:Bl nt x=true) (hT:Cs P tb) (hF:Hi P tb)
  (h:∀(w0:World) (O0:Nat->Prop) (ds:Iy sp.ins),(cx P tb w0 O0 nt).Ok->oks sp.ins ds->sp.pre ds->Ev (cx P tb w0 O0 nt) (So P fn w0 O0 (sp.out ds)) (.run x) [] ⟨AM 0 sp.ins ds,[]⟩):Ac P f sp:=by
 refine⟨⟨fn,d,j,by simp[c]⟩,λw O p ds e hG a l=>?_⟩;refine calls_of_wp d c ((wpIn_wide (n:=0)).1 ?_);have o:=Qc a;rw[k];exact h w O ds ⟨λb g=>g,e,hT,hF,hG⟩ (jQ a) l i rfl _ _ (nI a O1)
theorem Sp (O:(cx P tb w0 O0 nt).Ok) {fn:Func} {et:TypeId} {e:Ty} {xs:List e.den} {σ:St} {ex:Exit} (p:ex=.ret\/ex=.normal) {rv:ResultVar} (S:fn.results=#[rv]) (h:KY tb σ rv (.own et e xs)) :
  Ev (cx P tb w0 O0 nt) (So P fn w0 O0 [.own et e xs]) (.out ex) [] σ:=by
 intro _ _ a w hs;obtain⟨ρ,hs⟩:=hs;have N:Below w0.heap.size w0 w:=⟨hs.frm.os,hs.frm.tape,hs.frm.output,hs.frm.size,hs.frm.block⟩;unfold KY at h;simp only at h;split at h
 .rename_i n Z hi U;obtain⟨rfl,c,rfl⟩:=h;cases hn:lk n σ.objs with
  | none=>rw[hn]at c;simp[G4]at c
  | some o =>
   rw[hn]at c;cases o with
   | box f st fs=>simp[G4]at c
   | mapo k v l=>simp[G4]at c
   | frame al fs=>simp[G4]at c
   | loop L=>simp[G4]at c
   | itr ah ak ai aj af=>simp[G4]at c
   | dfr=>simp[G4]at c
   | sit sb sp=>simp[G4]at c
   | nest aa ag k d ys A=>simp[G4]at c
   | arr f d ys =>
    simp only[G4]at c;split at c
    .rename_i R;subst R;obtain⟨rfl,I⟩:=Bk c;cases I;obtain⟨u,hu,K⟩:=Rk (P:=P) O.T hs U;obtain⟨ab,y⟩:=K;have C:=hs.objs n _ hn;have q:u=ρ n:=by
      obtain⟨W,m,c0,t,_,ad,V,X,rfl,_,h0,_⟩:=y;have t:plc (ρ n)=_:=t;obtain⟨rfl,rfl⟩:=h0 rfl;obtain⟨_,cells,s,_⟩:=C;have s:w.ownsRow 0 f d.size (ρ n) ys.length cells:=s;rw[Ga s]at t;have r:m=ys.length:=by
       rcases s.2 with ⟨p,ae⟩|⟨g,cap,Y,p,_⟩
       .rw[t]at p;injection p;omega
       rw[t]at p;injection p
      rw[t,r,Nat.sub_zero]
     have D:(results fn a.tmps).run P w=.ok u w:=by
      rw[Mo,S];have:((#[rv]:Array ResultVar).mapM (IW a.tmps)).run P w=.ok #[u] w:=by
       rw[ABh];simp[hu]
      simp only[AAv,this,AA8,AAV];rfl
     have z:r9 w0 O0 [.own f d ys] u w:=by
      intro nm;have B:∀m,GI (DX ⟨[],[]⟩ [(nm,.arr f d ys)]) m↔m=nm:=by
       intro m;simp[GI,DX,lk]
      have hk:∀b,¬own O0 σ ρ b->¬own O0 (DX ⟨[],[]⟩ [(nm,.arr f d ys)]) (EF (λ_=>undef) nm u) b:=by
       intro b j M;rcases M with h0|⟨m,A,r⟩
       .exact j (.inl h0)
       rw[(B m).1 A,Bh,q]at r;exact j (.inr ⟨n,⟨_,hn⟩,r⟩)
      have J:Cr nm [RV.own f d ys]=[(nm,.arr f d ys)]:=rfl;rw[J];refine⟨EF (λ_=>undef) nm u,QS.one (loc:=u) N (λb j=>?_) ?_ ?_⟩
      .rw[q]at j;have:=(hs.free n b ⟨_,hn⟩ j).1;simp only[cx]at this;omega
      .refine⟨(B nm).2 rfl,?_⟩;show C6 (plc (EF (λ_=>undef) nm u nm)) _ _ _ u;rw[Bh,q];rw[q]at y;exact y
      rw[q];obtain⟨r,cells,s,Q⟩:=C;refine⟨r,cells,s,λi x hi=>?_⟩;obtain⟨E,F,G,H⟩:=Q i x hi;rw[q]at hk;exact⟨E,F,G,H.mono (λb _ j=>hk b j) (λ_ _ _=>rfl)⟩
     rcases p with rfl|rfl
     .exact⟨hs.defers,u,D,u,rfl,z⟩
     exact⟨hs.defers,u,D,u,rfl,z⟩
    cases c
 exact h.elim
end
end
section
open Go Go.RowKit
section
variable {P:Program} {tb:Tb} {w0:World} {O0:Nat->Prop} {nt:Nat} {R:Exit->Act->World->Prop} {k:List CU} {σ σ':St}
theorem jR:(cx P tb w0 O0 nt).tb=tb:=rfl
theorem dW {c:Cx} (a:c.Ok) {id:Nat} {l:List Oper} {vc:Prop} (h:Bt c.tb l l σ=some (vc,σ')) (b:vc) (hk:Ev c R (.out .normal) k σ') :
  Ev c R (.run (.region id l.toArray false)) k σ:=nH a (by
 show EvR _ _ _ (Bt c.tb l l σ);rw[h];exact⟨b,hk⟩)
theorem Sq {c:Cx} (h:Ab σ o=some (.p .bool b)) (a:b=true->Ev c R (.run x) k σ) (hf:b=false->Ev c R (.run y) k σ):Ev c R (.run (.cond o x y)) k σ :=
 A0D (by rw[h];exact⟨a,hf⟩)
theorem dX {c:Cx} {id:Nat} (h:Ev c R (.out .normal) k σ):Ev c R (.out (.exit id)) (.blk id :: k) σ:=Qb (by rw[At rfl];exact h)
theorem dY {c:Cx} {id a:Nat} (b:a≠id) (h:Ev c R (.out (.exit a)) k σ):Ev c R (.out (.exit a)) (.blk id :: k) σ:=Qb (by rw[As b];exact h)
end
inductive B6 where
 | nm (n:Nat)
 | nil
mutual
def C0 (ren:List (Nat×B6)):AV->AV->Prop
 | .p t d,.p u d'=>BR u ⟨t,d⟩=some d'
 | .raw (.slice none 0 0),.p (.slice e) d'=>(d':List e.den)=[]
 | .raw v,.raw u=>v=u
 | .raw (.slice none 0 0),.sr m _ lo hi=>lk m ren=some .nil/\lo=0/\hi=0
 | .sr n e lo hi,.sr m e' lo' hi'=>lk m ren=some (.nm n)/\e=e'/\lo=lo'/\hi=hi'
 | .ip t d,.ip u d'=>BR u ⟨t,d⟩=some d'
 | .bp n p o,.bp m p' o'=>lk m ren=some (.nm n)/\p=p'/\o=o'
 | .fn f,.fn g=>f=g
 | .clo f ns,.clo g ms=>f=g/\ms.map (λm=>lk m ren)=ns.map λn=>some (.nm n)
 | .mp n,.mp m=>lk m ren=some (.nm n)
 | .yl n,.yl m=>lk m ren=some (.nm n)
 | .ag l,.ag r=>matchAVs ren l r
 | _,.top=>True
 | _,_=>False
def matchAVs (ren:List (Nat×B6)):List AV->List AV->Prop
 | [],[]=>True
 | x :: l,y :: r=>(x.cells=y.cells/\C0 ren x y)/\matchAVs ren l r
 | _,_=>False
end
def H8 (ren:List (Nat×B6)):AV->AV->Prop
 | .ag l,.ag r=>matchAVs ren l r
 | x,y=>C0 ren x y
def JG (ren:List (Nat×B6)):List AV->List AV->Prop
 | [],[]=>True
 | x :: l,y :: r=>H8 ren x y/\JG ren l r
 | _,_=>False
def Bz (ren:List (Nat×B6)):AV->AV->Prop
 | .tup l,.tup r=>JG ren l r
 | x,y=>H8 ren x y
def KZ (ren:List (Nat×B6)):Option AV->AV->Prop
 | some x,y=>Bz ren x y
 | none,.top=>True
 | none,_=>False
def FA (env:List (Nat×AV)) (ren:List (Nat×B6)):List (Nat×AV)->Prop
 | []=>True
 | (s,y) :: r=>KZ ren (lk s env) y/\FA env ren r
def JH (ren:List (Nat×B6)):Option Obj->Obj->Prop
 | some (.arr et e xs),.arr a c ys=>et=a/\BR (.slice c) ⟨.slice e,xs⟩=some ys
 | some (.box et st fs),.box a s d=>et=a/\st=s/\matchAVs ren fs d
 | some (.nest et n k e xs h),.nest a o b c ys m=>(et=a/\n=o/\h=m)/\BR (.slice (.prod b (.slice c))) ⟨.slice (.prod k (.slice e)),xs⟩=some ys
 | some (.mapo k v l),.mapo b f l'=>BR (.slice (.prod b f)) ⟨.slice (.prod k v),l⟩=some l'
 | some (.frame t fs),.frame u d=>t=u/\FA fs ren d
 | some (.itr k v l lf i),.itr b f l' p j=>BR (.slice (.prod b f)) ⟨.slice (.prod k v),l⟩=some l'/\lf=p/\i=j
 | some (.loop L),.loop g=>L=g
 | some .dfr,.dfr=>True
 | some (.sit sb sp),.sit q r=>sb=q/\sp=r
 | _,_=>False
def G6 (objs:List (Nat×Obj)) (ren:List (Nat×B6)) (o:Obj):Option B6->Prop
 | some (.nm n)=>JH ren (lk n objs) o
 | some .nil=>match o with
  | .arr _ e ys=>(ys:List e.den)=[]
  | .box _ _ _=>False
  | .nest _ _ k e ys _=>(ys:List (k.den×List e.den))=[]
  | .mapo _ _ _=>False
  | .frame _ _=>False
  | .itr _ _ _ _ _=>False
  | .loop _=>False
  | .dfr=>False
  | .sit sb sp=>False
 | none=>False
def Ai (objs:List (Nat×Obj)) (ren:List (Nat×B6)):List (Nat×Obj)->Prop
 | []=>True
 | (m,o) :: r=>G6 objs ren o (lk m ren)/\Ai objs ren r
def CG:List (Nat×B6)->Bool
 | []=>true
 | (_,.nm n) :: r=>(r.all λp=>match p.2 with|.nm a=>a != n|.nil=>true)&&CG r
 | (_,.nil) :: r=>CG r
def Ka {α:Type}:List (Nat×α)->Bool
 | []=>true
 | (n,_) :: r=>(r.all λp=>p.1 != n)&&Ka r
section
variable {ren:List (Nat×B6)} {V V':Vw}
structure KA (ren:List (Nat×B6)) (V V':Vw):Prop where
 w:V'.w=V.w
 O:∀b,¬V.O b->¬V'.O b
 ρ:∀m n,lk m ren=some (.nm n)->V'.ρ m=V.ρ n
 nil:∀m,lk m ren=some .nil->V'.ρ m=.slice none 0 0
 L:∀m f,lk m ren=some f->V'.L m
theorem KA.vrep (h:KA ren V V') {t:Ty} {v:Value} {d:t.den} (c:BQ V.w V.O t v d):BQ V'.w V'.O t v d :=
 BQ.mono (λb _ a=>h.O b a) (λb _ _=>by rw[h.w]) c
theorem KA.rep (h:KA ren V V') {t:Ty} {cs:List Value} {d:t.den} (c:Bn V.w V.O t cs d):Bn V'.w V'.O t cs d :=
 c.mono (λb _ a=>h.O b a) (λb _ _=>by rw[h.w])
theorem KA.map (h:KA ren V V'):∀ {b ns:List Nat},b.map (λm=>lk m ren)=ns.map (λn=>some (B6.nm n))->b.map V'.ρ=ns.map V.ρ/\∀m∈b,∃n∈ns,lk m ren=some (.nm n)
 | [],[],_=>⟨rfl,λ_ h=>by cases h⟩
 | [],_ :: _,a=>by simp at a
 | _ :: _,[],a=>by simp at a
 | m :: b,n :: ns,a=>by
  simp only[AA2,AB0]at a;obtain⟨h1,c⟩:=h.map a.2;refine⟨by simp only[AA2,h1,h.ρ _ _ a.1],λx d=>?_⟩;grind
theorem Vu (h:KA ren V V') {x y:AV} {v:Value} (b:C0 ren x y) (c:KR V x v):KR V' y v/\(∀t d,y=.p t d->(∀u g,x≠.p u g)->v.oneCell'=true->Bn V'.w V'.O t [v] d):=by
 unfold C0 at b;split at b
 .have:=BB b;injection this with h1 f
  subst h1;cases f;exact⟨h.vrep c,λ_ _ _ z=>absurd rfl (z _ _)⟩
 .have c:v=_:=c;subst c;have i:=b;have k:∀(O:Nat->Prop) (e:Ty),Bn V'.w O (.slice e) [.slice none 0 0] ([]:List e.den):=λO e=>⟨none,0,rfl,by simp,by simp[AO],.inl rfl⟩;rename_i e g;have i:g=([]:List e.den):=i;subst i;refine⟨⟨_,k _ _,rfl⟩,λt d a _ _=>?_⟩;grind
 .subst b;exact⟨c,λt d a=>by cases a⟩
 .rename_i m e lo hi;obtain⟨h1,rfl,rfl⟩:=b;have c:v=_:=c;subst c;refine⟨⟨h.L _ _ h1,?_⟩,λt d a=>by cases a⟩;rw[h.nil _ h1];exact⟨none,0,0,rfl,by omega,by omega,none,0,rfl,by omega,λ_=>⟨rfl,rfl⟩,λh=>by omega⟩
 .obtain⟨h1,rfl,rfl,rfl⟩:=b;refine⟨⟨h.L _ _ h1,?_⟩,λt d a=>by cases a⟩;rw[h.ρ _ _ h1];exact c.2
 .have:=BB b;injection this with h1 f
  subst h1;cases f;obtain⟨ad,cs,a,o,q,k⟩:=c;exact⟨⟨ad,cs,a,h.O _ o,λj u r=>by rw[h.w];exact q j u r,h.rep k⟩,λt d a=>by cases a⟩
 .obtain⟨h1,rfl,rfl⟩:=b;refine⟨⟨h.L _ _ h1,?_⟩,λt d a=>by cases a⟩;rw[h.ρ _ _ h1];exact c.2
 .subst b;exact⟨c,λt d a=>by cases a⟩
 .obtain⟨rfl,s⟩:=b;obtain⟨h1,f⟩:=h.map s;refine⟨⟨?_,λm b=>?_⟩,λt d a=>by cases a⟩
  .rw[h1];exact c.1
  obtain⟨n,hn,l⟩:=f m b;refine⟨h.L _ _ l,?_⟩;rw[h.ρ _ _ l];exact(c.2 n hn).2
 .refine⟨⟨h.L _ _ b,?_⟩,λt d a=>by cases a⟩;rw[h.ρ _ _ b];exact c.2
 .refine⟨⟨h.L _ _ b,?_⟩,λt d a=>by cases a⟩;rw[h.ρ _ _ b];exact c.2
 .exact(show False from c).elim
 .exact⟨trivial,λt d a=>by cases a⟩
 exact b.elim
theorem dZ (h:KA ren V V') {x y:AV} {cs:List Value} (n:VS x=false) (i:x.cells=y.cells) (b:C0 ren x y) (a:FM V x cs):FM V' y cs:=by
 by_cases f:∃t d,x=.p t d
 .obtain⟨t,d,rfl⟩:=f;have a:Bn V.w V.O t cs d:=a;cases y<;>simp only[C0]at b<;>try exact b.elim
  .have:=BB b;injection this with h1 c
   subst h1;cases c;exact h.rep a
  have j:=a.length;simp only[AV.cells]at i;rw[i]at j;obtain⟨v,rfl⟩:=AAF.1 j;exact⟨v,rfl,a.one v sc,trivial⟩
 have o:∃v,cs=[v]/\v.oneCell'=true/\KR V x v:=by
  cases x;case p t d=>exact absurd ⟨t,d,rfl⟩ f
  case ag l=>cases n
  all_goals exact a
 obtain⟨v,rfl,h1,c⟩:=o;obtain⟨g,m⟩:=Vu h b c;cases y;case p t d=>exact m t d rfl (λu k e=>f ⟨u,k,e⟩) h1
 case ag l=>exact(show False from g).elim
 all_goals exact⟨v,rfl,h1,g⟩
theorem nJ (h:KA ren V V'):(∀(x y:AV) (cs:List Value),x.cells=y.cells->C0 ren x y->FM V x cs->FM V' y cs)/\∀(l r:List AV) (cs:List Value),matchAVs ren l r->AVCs V l cs->AVCs V' r cs:=by
 have key:∀n:Nat,(∀(x y:AV) (cs:List Value),SizeOf.sizeOf x<n->x.cells=y.cells->C0 ren x y->FM V x cs->FM V' y cs)/\∀(l r:List AV) (cs:List Value),SizeOf.sizeOf l<n->matchAVs ren l r->AVCs V l cs->AVCs V' r cs:=by
  intro n;induction n with
  | zero=>exact⟨λ_ _ _ h=>by omega,λ_ _ _ h=>by omega⟩
  | succ n c =>
   refine⟨λx y cs hn d a b=>?_,λl r cs hn a b=>?_⟩
   .cases f:VS x with
    | false=>exact dZ h f d a b
    | true =>
     cases x<;>simp[VS]at f;rename_i l;simp only[AV.ag.sizeOf_spec]at hn;cases y<;>simp only[C0]at a<;>try exact a.elim
     .rename_i r;exact(c.2 l r cs O1 a b:AVCs V' r cs)
     have g:=b.length;rw[d]at g;obtain⟨v,rfl⟩:=AAF.1 (g.trans rfl);exact⟨v,rfl,b.one v sc,trivial⟩
   match l,r with
   | [],[]=>exact b
   | [],_ :: _=>simp only[matchAVs]at a
   | _ :: _,[]=>simp only[matchAVs]at a
   | x :: l,y :: r =>
    simp only[matchAVs]at a;obtain⟨c1,c2,e,h1,i⟩:=b;simp only[ABY]at hn;exact⟨c1,c2,e,c.1 x y c1 O1 a.1.1 a.1.2 h1,c.2 l r c2 O1 a.2 i⟩
 exact⟨λx y cs=>(key _).1 x y cs (AAT _),λl r cs=>(key _).2 l r cs (AAT _)⟩
theorem Sr (h:KA ren V V') {l r:List AV} {cs:List Value} (a:matchAVs ren l r) (b:AVCs V l cs):AVCs V' r cs:=(nJ h).2 l r cs a b
theorem Js:∀ {l r:List AV},matchAVs ren l r->l.length=r.length
 | [],[],_=>rfl
 | [],_ :: _,a=>a.elim
 | _ :: _,[],a=>a.elim
 | _ :: _,_ :: _,a=>by simp[Js a.2]
theorem Vv (h:KA ren V V') {x y:AV} {v:Value} (a:H8 ren x y) (b:QO V x v):QO V' y v:=by
 cases x;case ag l =>
  cases y;case ag r =>
   obtain⟨cs,e,h1⟩:=b;exact⟨cs,e,Sr h a h1⟩
  all_goals simp only[H8,C0]at a
  all_goals first|exact a.elim|exact trivial
 all_goals
  simp only[QO]at b;have a:C0 ren _ y:=a;exact QO.of1 (Vu h a b).1
theorem ZW (h:KA ren V V'):∀ {l r:List AV} {b:List Value},JG ren l r->Gz V l b->Gz V' r b
 | [],[],b,_,c=>c
 | [],_ :: _,b,a,_=>a.elim
 | _ :: _,[],b,a,_=>a.elim
 | x :: l,y :: r,b,a,c=>by
  obtain⟨v,e,rfl,h1,d⟩:=c;exact⟨v,e,rfl,Vv h a.1 h1,ZW h a.2 d⟩
theorem Li (h:KA ren V V') {x y:AV} {v:Value} (a:Bz ren x y) (b:Bu V x v):Bu V' y v:=by
 cases x;case tup l =>
  cases y;case tup r =>
   obtain⟨c,e,h1⟩:=b;exact⟨c,e,ZW h a h1⟩
  all_goals simp only[Bz,H8,C0]at a
  all_goals first|exact a.elim|exact trivial
 all_goals
  simp only[Bz]at a;exact rG (Vv h a b)
theorem C1 {objs:List (Nat×Obj)} {m:Nat} {o:Obj}:∀ {l:List (Nat×Obj)},Ai objs ren l->lk m l=some o->G6 objs ren o (lk m ren)
 | (j,x) :: l,h,a=>by
  simp only[lk]at a;split at a
  .rename_i e;cases a;subst e;exact h.1
  exact C1 h.2 a
theorem Kb {env:List (Nat×AV)} {s:Nat} {y:AV}:∀ {l:List (Nat×AV)},FA env ren l->lk s l=some y->KZ ren (lk s env) y
 | (j,x) :: l,h,a=>by
  simp only[lk]at a;split at a
  .rename_i e;cases a;subst e;exact h.1
  exact Kb h.2 a
theorem Rl:∀ {l:List (Nat×B6)} {m c n:Nat},CG l=true->lk m l=some (.nm n)->lk c l=some (.nm n)->m=c
 | (j,f) :: l,m,c,n,a,h1,b=>by
  simp only[lk]at h1 b;have e:CG l=true:=by
   cases f<;>simp only[CG,AT]at a
   .exact a.2
   exact a
  have g:∀q,f=.nm n->lk q l=some (.nm n)->False:=by
   intro q hf d;subst hf;simp only[CG,AT,No]at a;have:=a.1 _ (Eo d);simp at this
  split at h1
  .grind
  split at b
  .grind
  exact Rl e h1 b
def A5T (n:Nat):Option B6->Bool
 | some (.nm m)=>m==n
 | _=>false
def A3L (pin:List (Nat×Value)) (ren:List (Nat×B6)):Bool:=pin.all λp=>A5T p.1 (lk p.1 ren)
theorem PS {V V':Vw} (a:KA ren V V') {P:List (Nat×Obj)} (ag:∀n x,lk n P=some x->A4 V x (V.ρ n)) {o:Obj} {m:Nat} (hf:G6 P ren o (lk m ren)):A4 V' o (V'.ρ m):=by
 cases J:lk m ren with
 | none=>rw[J]at hf;exact hf.elim
 | some f =>
  rw[J]at hf;cases f with
  | nil =>
   rw[a.nil m J];cases o with
   | box et st fs=>exact hf.elim
   | mapo k v l=>exact hf.elim
   | frame t fs=>exact hf.elim
   | loop L=>exact hf.elim
   | itr A D B C y=>exact hf.elim
   | dfr=>exact hf.elim
   | sit sb sp=>exact hf.elim
   | nest et aj k e ys F =>
    have hf:ys=([]:List (k.den×List e.den)):=hf;subst hf;exact⟨_,[],[],.inr ⟨rfl,rfl,rfl⟩,by simp[AO],rfl,ABl _ 0 et _,λi x u h=>by simp at h,λi j b u v h=>by simp at h,λi b u h=>by simp at h⟩
   | arr et e ys =>
    have hf:ys=([]:List e.den):=hf;subst hf;exact⟨by simp[AO],[],ABl _ 0 et e.size,Gr _ _ _ _⟩
  | nm n =>
   rw[a.ρ m n J];simp only[G6]at hf;cases hn:lk n P with
   | none=>rw[hn]at hf;simp only[JH]at hf
   | some x =>
    rw[hn]at hf;have q:=ag n x hn;cases x with
    | arr et e xs =>
     cases o with
     | box c st fs=>exact hf.elim
     | mapo k v l=>exact hf.elim
     | frame t fs=>exact hf.elim
     | loop L=>exact hf.elim
     | itr A D B C y=>exact hf.elim
     | dfr=>exact hf.elim
     | sit sb sp=>exact hf.elim
     | nest _ _ _ _ _ _=>exact hf.elim
     | arr c g ys =>
      obtain⟨rfl,p⟩:=hf;obtain⟨rfl,d⟩:=Bk p;cases d;obtain⟨ae,cells,af,ab⟩:=q;refine⟨ae,cells,by rw[a.w];exact af,λi z hi=>?_⟩;obtain⟨K,S,T,U⟩:=ab i z hi;exact⟨K,S,T,a.rep U⟩
    | box et st fs =>
     cases o with
     | arr c g ys=>exact hf.elim
     | mapo k v l=>exact hf.elim
     | frame t fs=>exact hf.elim
     | loop L=>exact hf.elim
     | itr A D B C y=>exact hf.elim
     | dfr=>exact hf.elim
     | sit sb sp=>exact hf.elim
     | nest _ _ _ _ _ _=>exact hf.elim
     | box c ax W =>
      obtain⟨rfl,rfl,H⟩:=hf;obtain⟨h0,b,cs,G,hh,aa⟩:=q;exact⟨λah=>by rw[<-Js H];exact h0 ah,b,cs,G,by rw[a.w];exact hh,Sr a H aa⟩
    | nest et aj k e xs h =>
     cases o with
     | nest c av Q g ys au =>
      obtain⟨⟨rfl,rfl,rfl⟩,p⟩:=hf;have p:=BB p;injection p with h1 E
      injection h1 with h1
      injection h1 with h1 d
      injection d with d
      subst h1;subst d;cases E;exact m7 a.w a.O q
     | mapo k v l=>exact hf.elim
     | box c st fs=>exact hf.elim
     | arr c g ys=>exact hf.elim
     | frame t fs=>exact hf.elim
     | loop L=>exact hf.elim
     | itr A D B C y=>exact hf.elim
     | dfr=>exact hf.elim
     | sit sb sp=>exact hf.elim
    | mapo k v l =>
     cases o with
     | mapo Q ap l' =>
      have p:=BB hf;injection p with h1 E
      injection h1 with h1
      injection h1 with h1 d
      subst h1;subst d;cases E;obtain⟨b,K,cl,G,hh,ad,Z⟩:=q;exact⟨b,K,cl,G,by rw[a.w];exact hh,ad.mono (λb _ M=>a.O b M) (λb _ _=>by rw[a.w]),Z⟩
     | box c st fs=>exact hf.elim
     | arr c g ys=>exact hf.elim
     | frame t fs=>exact hf.elim
     | loop L=>exact hf.elim
     | itr A D B C y=>exact hf.elim
     | dfr=>exact hf.elim
     | sit sb sp=>exact hf.elim
     | nest _ _ _ _ _ _=>exact hf.elim
    | frame t fs =>
     cases o with
     | frame ay W =>
      obtain⟨rfl,H⟩:=hf;obtain⟨h0,h1⟩:=q;refine⟨h0,λs v ai=>?_⟩;have I:=Kb H ai;cases N:lk s fs with
      | none =>
       rw[N]at I;cases v<;>simp only[KZ]at I;exact trivial
      | some x =>
       rw[N]at I;exact Li a I (h1 s x N)
     | mapo k v l=>exact hf.elim
     | box c st fs=>exact hf.elim
     | arr c g ys=>exact hf.elim
     | loop L=>exact hf.elim
     | itr A D B C y=>exact hf.elim
     | dfr=>exact hf.elim
     | sit sb sp=>exact hf.elim
     | nest _ _ _ _ _ _=>exact hf.elim
    | itr k v l lf aq =>
     cases o with
     | itr Q ap l' aw ar =>
      obtain⟨hf,rfl,rfl⟩:=hf;have p:=BB hf;injection p with h1 E
      injection h1 with h1
      injection h1 with h1 d
      subst h1;subst d;cases E;obtain⟨r,G,b,ak,cl,an,am,h1,E,d,X,Y⟩:=q;exact⟨r,G,b,ak,cl,an,am,by rw[a.w];exact h1,a.O b E,by rw[a.w];exact d,X.mono (λb _ M=>a.O b M) (λb _ _=>by rw[a.w]),Y⟩
     | mapo k v l=>exact hf.elim
     | box c st fs=>exact hf.elim
     | arr c g ys=>exact hf.elim
     | frame t fs=>exact hf.elim
     | loop L=>exact hf.elim
     | dfr=>exact hf.elim
     | sit sb sp=>exact hf.elim
     | nest _ _ _ _ _ _=>exact hf.elim
    | loop L =>
     cases o with
     | loop R =>
      have hf:L=R:=hf;subst hf;obtain⟨b,F,hh⟩:=q;exact⟨b,F,by rw[a.w];exact hh⟩
     | itr A D B C y=>exact hf.elim
     | mapo k v l=>exact hf.elim
     | box c st fs=>exact hf.elim
     | arr c g ys=>exact hf.elim
     | frame t fs=>exact hf.elim
     | dfr=>exact hf.elim
     | sit sb sp=>exact hf.elim
     | nest _ _ _ _ _ _=>exact hf.elim
    | dfr =>
     cases o with
     | dfr =>
      obtain⟨b,F,hh⟩:=q;exact⟨b,F,by rw[a.w];exact hh⟩
     | nest _ _ _ _ _ _=>exact hf.elim
     | mapo k v l=>exact hf.elim
     | box c st fs=>exact hf.elim
     | arr c g ys=>exact hf.elim
     | frame t fs=>exact hf.elim
     | loop L=>exact hf.elim
     | itr A D B C y=>exact hf.elim
     | sit sb sp=>exact hf.elim
    | sit sb sp =>
     cases o with
     | sit al ao =>
      obtain⟨rfl,rfl⟩:sb=al/\sp=ao:=hf;obtain⟨b,F,hh⟩:=q;exact⟨b,F,by rw[a.w];exact hh⟩
     | nest _ _ _ _ _ _=>exact hf.elim
     | mapo k v l=>exact hf.elim
     | box c st fs=>exact hf.elim
     | arr c g ys=>exact hf.elim
     | frame t fs=>exact hf.elim
     | loop L=>exact hf.elim
     | itr A D B C y=>exact hf.elim
     | dfr=>exact hf.elim
def Ca (objs:List (Nat×Obj)) (ren:List (Nat×B6)):Bool:=ren.all λp=>(lk p.1 objs).isSome
theorem AC {c:Cx} {σ σ':St} (ren:List (Nat×B6)) (h1:CG ren=true) (r:Ca σ'.objs ren=true) (z:Ai σ.objs ren σ'.objs) (G:FA σ.env ren σ'.env) (A:A3L c.ds.pin ren=true:=by rfl):qZ c σ σ':=by
 rintro a w ⟨ρ,hs⟩
 let ρ':Nat->Value:=λm=>match lk m ren with|some (.nm n)=>ρ n|_=>.slice none 0 0
 have y:∀m n,lk m ren=some (.nm n)->ρ' m=ρ n:=λm n d=>by simp[ρ',d]
 have u:∀m,lk m ren=some .nil->ρ' m=.slice none 0 0:=λm d=>by simp[ρ',d]
 have E:∀m f,lk m ren=some f->GI σ' m:=λm f d=>by
  simp only[Ca,No]at r;have:=r _ (Eo d);exact AB1.1 this
 have j:∀m b,GI σ' m->bk (ρ' m) b->∃n,lk m ren=some (.nm n)/\GI σ n/\bk (ρ n) b:=by
  rintro m b ⟨o,d⟩ e;have hf:=C1 z d;cases i:lk m ren with
  | none=>rw[i]at hf;exact hf.elim
  | some f =>
   cases f with
   | nil=>rw[u m i]at e;simp[bk,blk]at e
   | nm n =>
    rw[i]at hf;rw[y m n i]at e;refine⟨n,rfl,?_,e⟩;cases hn:lk n σ.objs with
    | none=>simp only[G6,hn,JH]at hf
    | some x=>exact⟨x,hn⟩
 have t:KA ren (vw w c.O0 σ ρ) (vw w c.O0 σ' ρ'):=by
  refine⟨rfl,λb e k=>?_,y,u,E⟩;rcases k with h0|⟨m,h,d⟩
  .exact e (.inl h0)
  obtain⟨n,_,hn,g⟩:=j m b h d;exact e (.inr ⟨n,hn,g⟩)
 refine⟨ρ',hs.frm,hs.nt,hs.defers,λp B=>?_,λm o d=>?_,λm b h e=>?_,λm K b h H e k=>?_,λs v J=>?_⟩
 .obtain⟨M,N,O⟩:=hs.pin p B;simp only[A3L,No]at A;have l:=A p B;unfold A5T at l;split at l
  .grind
  cases l
 .exact PS t hs.objs (C1 z d)
 .obtain⟨n,_,hn,g⟩:=j m b h e;exact hs.free n b hn g
 .obtain⟨n,C,hn,g⟩:=j m b h e;obtain⟨L,D,I,F⟩:=j K b H k;have:=hs.dist n L b hn I g F;subst this;exact Rl h1 C D
 have d:=Kb G J;cases q:lk s σ.env with
 | none =>
  rw[q]at d;cases v<;>simp only[KZ]at d;exact trivial
 | some x =>
  rw[q]at d;exact Li t d (hs.env s x q)
end
end
theorem Hk (b:Bool):PK true (some (.p .bool b))=some b:=by cases b<;>rfl
theorem Gd (b:Bool):PK false (some (.p .bool b))=some (!b):=by cases b<;>rfl
theorem Nt:IntKind.i64.min=-9223372036854775808:=by decide
theorem Nu:IntKind.i64.max=9223372036854775807:=by decide
theorem Nv:IntKind.u64.min=0:=by decide
theorem Nw:IntKind.u64.max=18446744073709551615:=by decide
theorem Ss:IntKind.u8.min=0:=by decide
theorem Su:IntKind.u8.max=255:=by decide
theorem Nx (n:Int):HY .i64 n↔-9223372036854775808<=n/\n<=9223372036854775807:=by unfold HY;rw[Nt,Nu]
theorem JJ (n:Int):HY .u64 n↔0<=n/\n<=18446744073709551615:=by unfold HY;rw[Nv,Nw]
theorem Xo (n:Int):HY .u8 n↔0<=n/\n<=255:=by unfold HY;rw[Ss,Su]
theorem Rm {α:Type} (x:α):sub [x] 0 1=[x]:=rfl
theorem IX {α:Type} (xs:List α) (n:Nat):sub xs 0 n=xs.take n:=by simp[sub]
theorem A0G (n:Nat):((n:Int)).toNat=n:=iS n
theorem Ge (n:Nat):(0<=(n:Int))=True:=eq_true (AAq n)
section
open Go Go.RowKit
section
variable {tb:Tb} {σ σ':St}
def d5 (σ σ':St):Prop:=∀n o,lk n σ.objs=some o->lk n σ'.objs=some o
theorem sT (h:d5 σ σ') {e:Ty} {lo hi n:Nat} {d:List e.den} (hs:NV e lo hi (lk n σ.objs)=some d):NV e lo hi (lk n σ'.objs)=some d:=by
 cases hn:lk n σ.objs with
 | none=>rw[hn]at hs;simp[NV]at hs
 | some o=>rw[h n o hn,<-hn];exact hs
theorem nK (h:d5 σ σ') {e:Ty} {i:Nat} {d:List e.den} (hs:RD e i (lk n σ.objs)=some d):RD e i (lk n σ'.objs)=some d:=by
 cases hn:lk n σ.objs with
 | none=>rw[hn]at hs;simp[RD]at hs
 | some o=>rw[h n o hn,<-hn];exact hs
theorem IY (h:d5 σ σ') {l:Bool} {t:Ty} {x:AV} {d:t.den} (hs:EY l σ t x=some d):EY l σ' t x=some d:=by
 unfold EY at hs ⊢;split at hs
 .exact hs
 .grind [sT]
 .grind [nK]
 .exact hs
 cases hs
theorem Vx (h:d5 σ σ') {l:Bool}:∀ {fs:List AV} {t:Ty} {d:t.den},J9 l σ fs t=some d->J9 l σ' fs t=some d
 | [],t,d,hs=>by simp[J9]at hs
 | [x],t,d,hs=>by grind [J9,IY]
 | x :: y :: r,t,d,hs=>by
  cases t<;>simp only[J9]at hs ⊢<;>try(cases hs;done)
  rename_i a b;cases h1:EY l σ a x with
  | none=>rw[h1]at hs;simp[MD]at hs
  | some e =>
   cases c:J9 l σ (y :: r) b with
   | none=>rw[h1,c]at hs;simp[MD]at hs
   | some f =>
    rw[IY h h1,Vx h c];rw[h1,c]at hs;exact hs
theorem FB (h:d5 σ σ') {l:Bool} {t:Ty} {x:AV} {d:t.den} (hs:Hz l σ t x=some d):Hz l σ' t x=some d:=by
 unfold Hz at hs ⊢;split at hs
 .exact Vx h hs
 exact IY h hs
def Ops (σ σ':St) (xs:List Operand):Prop:=∀x∈xs,∀v,Ab σ x=some v->Ab σ' x=some v
theorem Kd (h:d5 σ σ') {e:Ty} {x:AV} {d:List e.den} (hs:NW σ e x=some d):NW σ' e x=some d:=by
 unfold NW at hs ⊢;split at hs
 .rename_i n a lo hi;cases hn:lk n σ.objs with
  | none =>
   rw[hn]at hs;have hs:EY true σ (.slice e) (.sr n a lo hi)=some d:=by simpa[Cq,Hz] using hs
   simp only[EY,hn]at hs;split at hs<;>simp[NV]at hs
  | some o =>
   rw[h n o hn];rw[hn]at hs;split at hs
   .cases hs
   grind [FB]
 exact FB h hs
theorem Sv (h:d5 σ σ') {l:Bool}:∀ {ts:List Ty} {xs:List Operand} {ds:Iy ts},Ops σ σ' xs->F0 l σ ts xs=some ds->F0 l σ' ts xs=some ds
 | [],[],ds,_,hs=>hs
 | [],_ :: _,ds,_,hs=>by simp[F0]at hs
 | _ :: _,[],ds,_,hs=>by simp[F0]at hs
 | t :: ts,x :: xs,ds,b,hs=>by
  simp only[F0]at hs ⊢;cases a:Ab σ x with
  | none=>rw[a]at hs;cases hs
  | some v =>
   rw[b x sc v a];rw[a]at hs;simp only at hs ⊢;split at hs
   .rename_i y ys c d;rw[FB h c,Sv h (λz e=>b z (by simp[e])) d];exact hs
   cases hs
theorem Qd (h:d5 σ σ') {e:Ty}:∀ {parts:List (Nat×Operand)} {k:Nat} {xs:List e.den},Ops σ σ' (parts.map (·.2))->El σ e k parts=some xs->El σ' e k parts=some xs
 | [],k,xs,_,hs=>hs
 | (i,x) :: r,k,xs,b,hs=>by
  simp only[El]at hs ⊢;split at hs
  .rename_i d;rw[At d];cases a:Ab σ x with
   | none=>rw[a]at hs;cases hs
   | some v =>
    rw[b x sc v a];rw[a]at hs;simp only at hs ⊢;split at hs
    .rename_i y ys f g;rw[FB h f,Qd h (λz c=>b z (by simp at c ⊢;exact .inr c)) g];exact hs
    cases hs
  cases hs
theorem ZX (h:d5 σ σ') {z:Option AV} {x:Operand} (d:∀v,Ab σ x=some v->Ab σ' x=some v) (hs:FW σ z (Ab σ x)=some v):FW σ' z (Ab σ' x)=some v:=by
 cases b:Ab σ x with
 | none=>rw[b]at hs;unfold FW at hs;split at hs<;>simp at *
 | some a =>
  rw[d a b];rw[b]at hs;unfold FW at hs ⊢;split at hs
  .rename_i t _ l c;cases c;simp only[Is]at hs ⊢;grind [FB]
  exact hs
theorem Ny (h:d5 σ σ') {offs:List (Nat×Nat)}:∀ {parts:List (Nat×Operand)} {fs a:List AV},Ops σ σ' (parts.map (·.2))->Du σ offs fs parts=some a->Du σ' offs fs parts=some a
 | [],fs,a,_,hs=>hs
 | (i,x) :: r,fs,a,c,hs=>by
  simp only[Du]at hs ⊢;cases b:FW σ fs[i]? (Ab σ x) with
  | none=>rw[b]at hs;cases hs
  | some v =>
   rw[ZX h (c x sc) b];rw[b]at hs;simp only at hs ⊢;split at hs
   .rename_i e;rw[At e];exact Ny h (λz d=>c z (by simp at d ⊢;exact .inr d)) hs
   cases hs
theorem Sw:∀ {xs:List Operand} {ns:List Nat},Ops σ σ' xs->Hh σ xs=some ns->Hh σ' xs=some ns
 | [],ns,_,hs=>hs
 | x :: r,ns,a,hs=>by
  simp only[Hh]at hs ⊢;split at hs
  .rename_i n d h1 b;rw[a x sc _ h1,Sw (λz c=>a z (by simp[c])) b];exact hs
  cases hs
theorem Rn (h:d5 σ σ') {d:Nat} {op:Op} {r:Prop×AV×List (Nat×Obj)} (A:Ops σ σ' op.operands.toList) (hs:aq tb σ d op=some r):aq tb σ' d op=some r:=by
 have one:∀ {x:Operand} {f:Option AV->BT},x∈op.operands.toList->f none=none->f (Ab σ x)=some r->f (Ab σ' x)=some r:=by
  intro x f j hn hf;cases B:Ab σ x with
  | none=>rw[B,hn]at hf;cases hf
  | some v=>rw[A x j v B,<-B];exact hf
 have N:∀ {x y:Operand} {f:Option AV->Option AV->BT},x∈op.operands.toList->y∈op.operands.toList->(∀b,f none b=none)->(∀a,f a none=none)->f (Ab σ x) (Ab σ y)=some r->f (Ab σ' x) (Ab σ' y)=some r:=by
  intro x y f j E h1 I hf;cases B:Ab σ x with
  | none=>rw[B,h1]at hf;cases hf
  | some v =>
   cases L:Ab σ y with
   | none=>rw[L,I]at hf;cases hf
   | some w=>rw[A x j v B,A y E w L,<-B,<-L];exact hf
 cases op<;>simp only[aq]at hs ⊢<;>try(cases hs;done)
 case move x=>exact one (f:=GK) (by simp[Op.operands]) rfl hs
 case assign x=>exact one (f:=GK) (by simp[Op.operands]) rfl hs
 case pick c x y =>
  cases H:Ab σ c with
  | none=>rw[H]at hs;simp[KE]at hs
  | some ae =>
   have af:=A c (by simp[Op.operands]) ae H;rw[H]at hs;rw[af];unfold KE at hs ⊢;split at hs
   .rename_i F;cases F;exact one (f:=GK) (by simp[Op.operands]) rfl hs
   .rename_i F;cases F;exact one (f:=GK) (by simp[Op.operands]) rfl hs
   cases hs
 case alloc t=>exact hs
 case box t x=>exact one (f:=SR d t (lk t tb.ty)) (by simp[Op.operands]) (by cases lk t tb.ty<;>simp[SR]) hs
 case build t parts =>
  unfold I0 at hs ⊢;split at hs
  .rename_i u offs el b F;cases G:Du σ offs (SP (inB d tb.pure) u) parts.toList with
   | none=>rw[G]at hs;simp[GK]at hs
   | some fs =>
    rw[Ny h (by simpa[Op.operands] using A) G];rw[G]at hs;exact hs
  cases hs
 case buildSlice t n parts =>
  cases X:lk d tb.nests with
  | some aw =>
   rw[X]at hs;simp only[GY]at hs ⊢;unfold I2 at hs ⊢;split at hs
   .rename_i x ay offs el b G F;cases j:Ab σ x with
    | none=>rw[j]at hs;unfold I1 at hs;split at hs<;>first|(cases hs;done)|(rename_i I;cases I)
    | some av =>
     rw[A x (by simp[Op.operands,G]) av j];rw[j]at hs;unfold I1 at hs ⊢;split at hs
     .rename_i k e bb bc ar;unfold KG at hs;split at hs
      .rename_i ab T;rw[IY h T];exact hs
      .rename_i ab ap l T;split at hs
       .rename_i V;rw[IY h T];simp only[KG,V,AAB];exact hs
       cases hs
      cases hs
     cases hs
   cases hs
  | none =>
  rw[X]at hs;simp only[GY]at hs ⊢;unfold Bo at hs ⊢;split at hs
  .rename_i e offs el b F;cases G:El σ e 0 parts.toList with
   | none=>rw[G]at hs;simp[Bw]at hs
   | some xs =>
    rw[Qd h (by simpa[Op.operands] using A) G];rw[G]at hs;exact hs
  cases hs
 case load t x =>
  cases j:Ab σ x with
  | none=>rw[j]at hs;simp[Jp]at hs
  | some v =>
   rw[A x (by simp[Op.operands]) v j];rw[j]at hs;unfold Jp at hs ⊢;split at hs
   .rename_i ti n an off R J;cases hn:lk n σ.objs with
    | none=>rw[hn]at hs;simp[D2]at hs
    | some o=>rw[h n o hn,<-hn];exact hs
   .rename_i ti n e i an off R J;cases hn:lk n σ.objs with
    | none=>rw[hn]at hs;simp[D3]at hs
    | some o=>rw[h n o hn,<-hn];exact hs
   .exact hs
   cases hs
 case nilCheck x=>exact one (f:=VQ) (by simp[Op.operands]) (by simp[VQ]) hs
 case binOp op t x y ax=>exact N (f:=RE op (lk t tb.ty)) (by simp[Op.operands]) (by simp[Op.operands]) (λb=>by simp[RE]) (λa=>by cases a<;>simp[RE]) hs
 case unOp op t x=>exact one (f:=qUn op) (by simp[Op.operands]) (by cases op<;>simp[qUn]) hs
 case convert s t x=>exact one (f:=Jq (lk s tb.ty) (lk t tb.ty)) (by simp[Op.operands]) (by cases lk s tb.ty<;>cases lk t tb.ty<;>simp[Jq]) hs
 case makeSlice t l c=>exact N (f:=X1 tb d (lk t tb.ty)) (by simp[Op.operands]) (by simp[Op.operands]) (λb=>by cases lk t tb.ty<;>simp[X1]) (λa=>by cases lk t tb.ty<;>simp[X1]) hs
 case slice t x lo hi am =>
  cases am with
  | some m =>
   cases lo with
   | some _=>cases hi<;>simp[aq]at hs
   | none =>
    cases hi with
    | none=>simp[aq]at hs
    | some h1 =>
     simp only[aq]at hs ⊢;cases j:Ab σ x with
     | none=>rw[j]at hs;cases C:lk t tb.ty<;>rw[C]at hs<;>simp[Dv]at hs
     | some v =>
      cases hh:Ab σ h1 with
      | none=>rw[j,hh]at hs;cases C:lk t tb.ty<;>rw[C]at hs<;>simp[Dv]at hs
      | some B =>
       cases K:Ab σ m with
       | none=>rw[j,hh,K]at hs;cases C:lk t tb.ty<;>rw[C]at hs<;>simp[Dv]at hs
       | some al =>
        rw[A x (by simp[Op.operands]) v j,A h1 (by simp[Op.operands]) B hh,A m (by simp[Op.operands]) al K];rw[j,hh,K]at hs;exact hs
  | none =>
   simp only[aq]at hs ⊢;have aa:∀ {y:Option Operand},(∀z,y=some z->z∈(Op.slice t x lo hi none).operands.toList)->∀w,GR σ y=some w->GR σ' y=some w:=by
    intro y E w L;cases y with
    | none=>exact L
    | some z =>
     simp only[GR,Is]at L ⊢;obtain⟨v,B,rfl⟩:=L;exact⟨v,A z (E z rfl) v B,rfl⟩
   cases j:Ab σ x with
   | none=>rw[j]at hs;cases C:lk t tb.ty<;>rw[C]at hs<;>simp[E2]at hs
   | some v =>
    cases h1:GR σ lo with
    | none=>rw[h1]at hs;cases C:lk t tb.ty<;>rw[C]at hs<;>simp[E2]at hs
    | some a =>
     cases I:GR σ hi with
     | none=>rw[I]at hs;cases C:lk t tb.ty<;>rw[C]at hs<;>simp[E2]at hs
     | some b =>
      rw[A x (by simp[Op.operands]) v j,aa (by rintro z rfl;simp[Op.operands]) a h1,aa (by rintro z rfl;simp[Op.operands]) b I];rw[j,h1,I]at hs;exact hs
 case fieldAddr s x f=>exact one (f:=Gy f (lk s tb.ty)) (by simp[Op.operands]) (by cases lk s tb.ty<;>simp[Gy]) hs
 case indexAddr t x i=>exact N (f:=FX (lk t tb.ty)) (by simp[Op.operands]) (by simp[Op.operands]) (λb=>by cases lk t tb.ty<;>simp[FX]) (λa=>by cases lk t tb.ty<;>simp[FX]) hs
 case index t x i=>exact N (f:=EJ (lk t tb.ty)) (by simp[Op.operands]) (by simp[Op.operands]) (λb=>by cases lk t tb.ty<;>simp[EJ]) (λa=>by cases lk t tb.ty<;>simp[EJ]) hs
 case extract x i=>exact one (f:=Ea i) (by simp[Op.operands]) (by simp[Ea]) hs
 case makeFunc fn first ad =>
  unfold Y6 at hs ⊢;split at hs
  .rename_i f hf;split at hs;case isFalse=>cases hs
   rename_i ai;cases H:Hh σ ad.toList with
   | none=>rw[H]at hs;simp[QI]at hs
   | some ns =>
    rw[At ai,Sw (λz M=>A z (by simp[Op.operands]at M ⊢;exact .inr M)) H];rw[H]at hs;exact hs
  .rename_i f x hf au;exact one (f:=Y5 f) (by simp[Op.operands,hf]) rfl hs
  cases hs
 case makeMap t res =>
  cases res with
  | some z=>simp[aq]at hs
  | none=>simp only[aq]at hs ⊢;exact hs
 case lookup t x i ok =>
  cases j:Ab σ x with
  | none=>rw[j]at hs;simp[IQ]at hs
  | some xv =>
   cases hi:Ab σ i with
   | none=>rw[j,hi]at hs;simp[IQ]at hs
   | some Z =>
    rw[A x (by simp[Op.operands]) xv j,A i (by simp[Op.operands]) Z hi];rw[j,hi]at hs;unfold IQ at hs ⊢;split at hs
    .rename_i k e _ _ n z R J ah;cases J;cases ah;cases hn:lk n σ.objs with
     | none=>rw[hn]at hs;simp[H1]at hs
     | some o =>
      rw[hn]at hs;rw[h n o hn];unfold H1 at hs ⊢;split at hs
      .rename_i ak ba l A;cases A;split at hs
       .rename_i H;rw[At H];cases hk:Hz false σ ak Z with
        | none=>rw[hk]at hs;simp[KJ]at hs
        | some kd=>rw[FB h hk];rw[hk]at hs;exact hs
       cases hs
      cases hs
    cases hs
 case call c =>
  obtain⟨callee,args,argTypes⟩:=c;have D:∀x∈args.toList,x∈(Op.call ⟨callee,args,argTypes⟩).operands.toList:=λx j=>by
   have:x∈args:=by simpa using j
   cases callee<;>simp[Op.operands,Call.operands,this]
  cases callee with
  | invoke r m=>simp[Cz]at hs
  | value g =>
   simp only[Cz]at hs ⊢;cases O:Ab σ g with
   | none=>rw[O]at hs;simp[ME]at hs
   | some ag =>
    rw[A g (by simp[Op.operands,Call.operands]) ag O];rw[O]at hs;unfold ME at hs ⊢;split at hs
    .rename_i f F;cases Y:lk f tb.fns with
     | none=>rw[Y]at hs;simp[I8]at hs
     | some sp =>
      rw[Y]at hs;simp only[I8]at hs ⊢;cases U:F0 sp.lend σ sp.ins args.toList with
      | none=>rw[U]at hs;simp[KI]at hs
      | some ds =>
       rw[Sv h (λx j=>A x (D x j)) U];rw[U]at hs;exact hs
    cases hs
  | builtin b =>
   simp only[Cz]at hs ⊢;obtain⟨args⟩:=args;obtain⟨argTypes⟩:=argTypes;simp only at hs D ⊢;unfold DK at hs ⊢;split at hs
   .exact one (f:=SU (lk _ tb.ty)) (D _ sc) (by cases lk _ tb.ty<;>simp[SU]) hs
   .rename_i x y t u;cases j:Ab σ x with
    | none=>rw[j]at hs;simp[Cn]at hs
    | some xv =>
     cases E:Ab σ y with
     | none=>rw[j,E]at hs;simp[Cn]at hs
     | some Q =>
      rw[A x (D _ sc) xv j,A y (D _ sc) Q E];rw[j,E]at hs;unfold Cn at hs ⊢;split at hs
      .split at hs
       .rename_i P;simp only[P,AAB];rename_i R J;cases J;rw[P]at hs;cases C:lk u tb.ty with
        | none=>rw[C]at hs;simp[Eb]at hs
        | some ti =>
         rw[C]at hs;unfold Eb at hs ⊢;split at hs
         .rename_i e offs el b F;cases B:NW σ e Q with
          | none=>rw[B]at hs;cases W:lk el tb.ty<;>rw[W]at hs<;>simp[E3]at hs
          | some ys =>
           rw[B]at hs;rw[Kd h B];exact hs
         cases hs
       cases hs
      .split at hs
       .rename_i P;simp only[P,AAB];rename_i R J;cases J;rw[P]at hs;cases C:lk u tb.ty with
        | none=>rw[C]at hs;simp[I7]at hs
        | some ti =>
         rw[C]at hs;unfold I7 at hs ⊢;split at hs
         .rename_i e offs el b F;split at hs
          .rename_i V;simp only[V,AAB];cases B:NW σ _ Q with
           | none=>rw[B]at hs;cases W:lk el tb.ty<;>rw[W]at hs<;>simp[KH]at hs
           | some ys =>
            rw[B]at hs;rw[Kd h B];exact hs
          cases hs
         cases hs
       cases hs
      cases hs
   .exact N (f:=RF) (D _ sc) (D _ sc) (λb=>by simp[RF]) (λa=>by cases a<;>simp[RF]) hs
   .exact N (f:=RG) (D _ sc) (D _ sc) (λb=>by simp[RG]) (λa=>by cases a<;>simp[RG]) hs
   .rename_i x y z t u az;cases j:Ab σ x with
    | none=>rw[j]at hs;simp[IP]at hs
    | some xv =>
     cases E:Ab σ y with
     | none=>rw[j,E]at hs;simp[IP]at hs
     | some Q =>
      cases M:Ab σ z with
      | none=>rw[j,E,M]at hs;simp[IP]at hs
      | some ao =>
       rw[A x (D _ sc) xv j,A y (D _ sc) Q E,A z (D _ sc) ao M,<-j,<-E,<-M];exact hs
   .rename_i ts x y z u r;have O:∀(r:List Operand) (k:IntKind) (o:Option Int) (m:Int),(∀q∈r,∀v,Ab σ q=some v->Ab σ' q=some v)->E4 σ k o r=some m->E4 σ' k o r=some m:=by
     intro r;induction r with
     | nil=>intro k o m _ h;cases o<;>(simp[E4]at h;try exact ABa some h)
     | cons q r aj =>
      intro k o m S h;cases o with
      | none=>simp[E4]at h
      | some a =>
       simp only[E4]at h ⊢;cases B:Ab σ q with
       | none=>rw[B]at h;cases r<;>simp[NY,E4]at h
       | some v =>
        rw[B]at h;rw[S q sc v B];exact aj k _ m (λp G=>S p (by simp[G])) h
    cases j:Ab σ x with
    | none=>rw[j]at hs;simp[NZ]at hs
    | some xv =>
     rw[j]at hs;rw[A x (D _ sc) xv j];unfold NZ at hs ⊢;split at hs
     .rename_i k a F;cases F;cases K:E4 σ k (some a) (y :: z :: u :: r) with
      | none=>rw[K]at hs;simp[QH]at hs
      | some m =>
       rw[K]at hs;rw[O _ _ _ _ (λq S=>A q (D _ (GO _ S))) K];exact hs
     cases hs
   cases hs
end
end
end Go.Proofs.YtglkoagnnnpimaaGreatDoor.Fw
