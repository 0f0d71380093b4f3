/- One operation, a sequence, loops, the entry and the end of a function: the rules. -/
import Derived.Test.YtdapahgnpbehbaaGreatJZD
import Derived.Deep.LoopGhost
import Derived.ControlIn
set_option linter.unusedVariables false
set_option linter.unusedSimpArgs false
namespace Go.Proofs.YtdapahgnpbehbaaGreat.Fw
section
open Go Go.RowKit
abbrev ACN:=@Go.wpIn_region_list
abbrev ADl:=@Go.wpIn_mono
structure Cx where
 P:Program
 tb:Tb
 w0:World
 K:Nat->Prop
 O0:Nat->Prop
 nt:Nat
 
 ds:Fp:={}
 
 r:Option Nat:=none
structure Cx.Ok (c:Cx):Prop where
 K:∀b,c.K b->b<c.w0.heap.size
 O:∀b,c.O0 b->b<c.w0.heap.size
 T:DG c.P c.tb
 F:JA c.P c.tb
def Cx.sat (c:Cx) (σ:St) (a:Act) (w:World):Prop:=∃ρ,Bo c.w0 c.K c.O0 c.nt c.ds σ ρ a w
section
variable {c:Cx}
theorem A3u (hc:c.Ok) {σ:St} {ρ:Nat->Value} {a:Act} {w:World} (h:Bo c.w0 c.K c.O0 c.nt c.ds σ ρ a w):A7Z c.P c.tb w c.O0 σ ρ a where
 hT:=hc.T
 hF:=hc.F
 obj:=h.objs
 own:=by
  intro b hb;rcases hb with h0|⟨n,⟨o,ho⟩,hb⟩
  ·exact AB8 (hc.O b h0) h.frm.size
  ·exact(h.objs n o ho).block_lt hb
 ev:=D6 h.env
theorem zT (e:c.Ok) {σ σ':St} {ρ:Nat->Value} {a:Act} {w:World} (hs:Bo c.w0 c.K c.O0 c.nt c.ds σ ρ a w) {o:Oper} {vc:Prop} (h:Fa c.tb σ o.dst o.op=some (vc,σ')) (k:vc) (j:∀d,o.dst=some d->d<c.nt)
  {next:Act->World->Prop} {Q:Exit->Act->World->Prop} (hn:∀i w',c.sat σ' i w'->next i w'):o.wpIn (FR c.r) 0 c.P a w next Q:=by
 obtain⟨dst,op,type,pos,after,guard⟩:=o;simp only at h j;cases op<;>simp only[Fa]at h<;>try(cases h;done)
 case store t x y =>
  cases dst with
  | some d=>simp[D0]at h
  | none =>
   simp only[D0]at h;obtain⟨w',ρ',h1,f⟩:=iD (P:=c.P) hs e.K e.O e.T h k;exact mX (w':=w') (by simp[execOp,h1]) (hn _ _ ⟨ρ',f⟩)
 case mapUpdate t m x y =>
  cases dst with
  | some d=>simp[D0]at h
  | none =>
   simp only[D0]at h;obtain⟨w',h1,f⟩:=uY (P:=c.P) hs e.K e.T h;exact mX (w':=w') (by simp[execOp,h1]) (hn _ _ ⟨ρ,f⟩)
 case call cl =>
  obtain⟨callee,args,argTypes⟩:=cl;cases callee with
  | value g=>simp[DN]at h
  | invoke r m=>simp[DN]at h
  | builtin b =>
   simp only[DN]at h;obtain⟨args⟩:=args;obtain⟨argTypes⟩:=argTypes;simp only at h;unfold Dk at h;split at h
   ·rename_i x y t u;obtain⟨z,w',ρ',h1,f⟩:=iC (P:=c.P) (ty:=type) hs e.K e.O e.T j h k;exact Aq (u:=z) (w':=w') (by simp[execOp,resolve,invoke,builtin,h1]) (hn _ _ ⟨ρ',f⟩)
   ·cases h
theorem PW (b:c.Ok) {σ σ':St} {a:Act} {w:World} (hs:c.sat σ a w) {o:Oper} {vc:Prop} (h:GK c.tb o σ=some (vc,σ')) (i:vc) (g:∀d,o.dst=some d->d<c.nt)
  {next:Act->World->Prop} {Q:Exit->Act->World->Prop} (hn:∀f w',c.sat σ' f w'->next f w'):o.wpIn (FR c.r) 0 c.P a w next Q:=by
 obtain⟨ρ,hs⟩:=hs;have hs:=Kv (l:=CO σ o.op) hs;unfold GK O7 at h;generalize Cr (CO σ o.op) σ=k at h hs;cases e:aq c.tb k (o.dst.getD 0) o.op with
 | some r =>
  obtain⟨m,v,obs⟩:=r;rw[e]at h;simp only[LZ]at h;split at h
  ·rename_i hf;cases h;exact mU (A3u b hs) e i hf λu ρ' w' j=>hn _ _ ⟨ρ',hs.add b.K b.O g hf j⟩
  ·cases h
 | none =>
  rw[e]at h;exact zT b hs h i g hn
theorem He {ops:Array Oper} {σ:St} {a:Act} {w:World} (hs:c.sat σ a w) {o:Oper} {b:Bool} (h:E2 ops.toList σ o.guard=some b):Region.wanted o (yielded ops a.tmps)=b:=by
 obtain⟨ρ,hs⟩:=hs;unfold E2 at h;split at h
 ·rename_i e;cases h;simp[Region.wanted,e]
 ·rename_i j q e;cases f:(ops.toList[j]?).bind (·.dst) with
  | none=>rw[f]at h;simp[Kp]at h
  | some g =>
   rw[f]at h;simp only[Kp]at h;cases i:lk g σ.env with
   | none=>rw[i]at h;simp[Qu]at h
   | some v =>
    rw[i]at h;unfold Qu at h;split at h
    ·rename_i l m;cases m;cases h;have d:=hs.env g _ i;have d:=EV d;have p:(ops[j]?).bind (·.dst)=some g:=by simpa using f
     have n:a.tmps[g]?=some (.bool l):=by
      by_cases k:g<a.tmps.size
      ·have:a.tmps.getD g undef=a.tmps[g]:=by simp[Array.getD,k]
       rw[this]at d;rw[AB4 k,d]
      ·have:a.tmps.getD g undef=undef:=by simp[Array.getD,k]
       rw[this]at d;cases d
     simp only[Region.wanted,e,yielded,p,Option.bind_some,n];cases l<;>cases q<;>rfl
    ·cases h
theorem My {σ:St} {a:Act} {w:World} (b:c.Ok) (hs:c.sat σ a w) {dst:Option Nat} (e:∀d,dst=some d->d<c.nt):c.sat (σ.add (.raw undef) [] dst) (a.put dst undef) w:=by
 obtain⟨ρ,hs⟩:=hs;exact⟨ρ,hs.add b.K b.O e (by simp[Be]) (QS.still rfl)⟩
def HY (nt:Nat) (o:Oper):Bool :=
 match o.dst with
 | some d=>decide (d<nt)
 | none=>true
theorem Bb {nt:Nat} {o:Oper} (h:HY nt o=true):∀d,o.dst=some d->d<nt:=by grind [HY]
theorem Q1 (d:c.Ok) {ops:Array Oper} {Q:Exit->Act->World->Prop} {r:List Oper}:∀(l:List Oper) {σ σ':St} {vc:Prop} {a:Act} {w:World},c.sat σ a w->(∀o∈l,HY c.nt o=true)->B0 c.tb ops.toList l σ=some (vc,σ')->vc ->
  (∀g w',c.sat σ' g w'->wpListIn (FR c.r) 0 c.P ops Q r g w')->wpListIn (FR c.r) 0 c.P ops Q (l++r) a w
 | [],σ,σ',vc,a,w,hs,e,h,f,i=>by grind [B0]
 | o :: l,σ,σ',vc,a,w,hs,e,h,f,i=>by
  simp only[B0]at h;cases j:E2 ops.toList σ o.guard with
  | none=>rw[j]at h;simp[evG]at h
  | some b =>
   rw[j]at h;have s:=He hs j;have q:=Bb (e o (by simp));rw[AC0];unfold wpListIn;cases b with
   | true =>
    simp only[evG]at h;rw[BY s];cases n:GK c.tb o σ with
    | none=>rw[n]at h;simp[evK]at h
    | some r =>
     obtain⟨x,v⟩:=r;rw[n]at h;simp only[evK]at h;cases m:B0 c.tb ops.toList l v with
     | none=>rw[m]at h;simp[Wp]at h
     | some u =>
      obtain⟨y,σ2⟩:=u;rw[m]at h;simp only[Wp]at h;cases h;exact PW d hs n f.1 q λg w' t=>Q1 d l t (λp k=>e p (by simp[k])) m f.2 i
   | false =>
    simp only[evG]at h;rw[At (by simp[s])];refine⟨λ_ _=>trivial,?_⟩;exact Q1 d l (My d hs q) (λp k=>e p (by simp[k])) h f i
theorem PX (e:c.Ok) {ops:Array Oper} {Q:Exit->Act->World->Prop}:∀(l:List Oper) {σ σ':St} {vc:Prop} {a:Act} {w:World},c.sat σ a w->(∀o∈l,HY c.nt o=true)->B0 c.tb ops.toList l σ=some (vc,σ')->vc ->
  (∀i w',c.sat σ' i w'->Q .normal i w')->wpListIn (FR c.r) 0 c.P ops Q l a w
 | [],σ,σ',vc,a,w,hs,f,h,g,d=>by
  simp only[B0]at h;cases h;exact d _ _ hs
 | o :: l,σ,σ',vc,a,w,hs,f,h,g,d=>by
  simp only[B0]at h;cases j:E2 ops.toList σ o.guard with
  | none=>rw[j]at h;simp[evG]at h
  | some b =>
   rw[j]at h;have s:=He hs j;have q:=Bb (f o (by simp));unfold wpListIn;cases b with
   | true =>
    simp only[evG]at h;rw[BY s];cases n:GK c.tb o σ with
    | none=>rw[n]at h;simp[evK]at h
    | some r =>
     obtain⟨x,v⟩:=r;rw[n]at h;simp only[evK]at h;cases m:B0 c.tb ops.toList l v with
     | none=>rw[m]at h;simp[Wp]at h
     | some u =>
      obtain⟨y,σ2⟩:=u;rw[m]at h;simp only[Wp]at h;cases h;exact PW e hs n g.1 q λi w' t=>PX e l t (λp k=>f p (by simp[k])) m g.2 d
   | false =>
    simp only[evG]at h;rw[At (by simp[s])];refine⟨λ_ _=>trivial,?_⟩;exact PX e l (My e hs q) (λp k=>f p (by simp[k])) h g d
end
end
section
open Go Go.RowKit
inductive Dl where
 | seq (c:Code)
 | blk (id:Nat)
 
 | inv (post:St->Prop)
def Bx (nt:Nat):Code->Bool
 | .region _ ops _=>ops.toList.all (HY nt)
 | .seq a b=>Bx nt a&&Bx nt b
 | .cond _ a b=>Bx nt a&&Bx nt b
 | .block _ b=>Bx nt b
 | .loop b=>Bx nt b
 | .scope b=>Bx nt b
 | _=>true
def DB (nt:Nat):List Dl->Bool
 | []=>true
 | .seq c :: k=>Bx nt c&&DB nt k
 | _ :: k=>DB nt k
def UJ (c:Cx) (R:Exit->Act->World->Prop):List Dl->Exit->Act->World->Prop
 | [],e,a,w=>R e a w
 | .seq y :: k,.normal,a,w=>y.wpIn (FR c.r) 0 c.P (UJ c R k) a w
 | .seq _ :: k,e,a,w=>UJ c R k e a w
 | .blk id :: k,.exit b,a,w=>if b=id then UJ c R k .normal a w else UJ c R k (.exit b) a w
 | .blk _ :: k,e,a,w=>UJ c R k e a w
 | .inv post :: _,.normal,a,w=>∃σ,c.sat σ a w/\post σ
 | .inv _ :: k,e,a,w=>UJ c R k e a w
inductive m5 where
 | run (cd:Code)
 | out (e:Exit)
def nwp (c:Cx) (R:Exit->Act->World->Prop) (k:List Dl):m5->Act->World->Prop
 | .run cd,a,w=>cd.wpIn (FR c.r) 0 c.P (UJ c R k) a w
 | .out e,a,w=>UJ c R k e a w
def JE (nt:Nat):m5->Bool
 | .run cd=>Bx nt cd
 | .out _=>true
def Ev (c:Cx) (R:Exit->Act->World->Prop) (n:m5) (k:List Dl) (σ:St):Prop :=
 JE c.nt n=true->DB c.nt k=true->∀a w,c.sat σ a w->nwp c R k n a w
theorem S1 {F:Fence} {j:Nat} {P:Program} {Q:Exit->Act->World->Prop} {a:Act} {w:World} {c:Code} (b:Nat->Act->World->Prop) (i:Nat) (o:b i a w)
  (round:∀n a w,b n a w->c.wpIn F j P (Exit.then (λg w'=>∃f,f<n/\b f g w') Q) a w):(Code.loop c).wpIn F j P Q a w:=by
 refine wpIn_loop (λa w=>∃n,b n a w) (λa w=>leastOf (λn=>b n a w)) ⟨i,o⟩ ?_;intro a w k;refine ADl (round _ a w (leastOf_spec k).1) ?_;intro e g w' d;cases e with
 | normal =>
  obtain⟨f,m,h⟩:=d;exact show (∃n,b n g w')/\leastOf (λn=>b n g w')<leastOf (λn=>b n a w) from ⟨⟨f,h⟩,ACY ((leastOf_spec ⟨f,h⟩).2 f h) m⟩
 | exit id=>exact d
 | goto l=>exact d
 | ret=>exact d
 | panic ch=>exact d
 | outgrown=>exact d
def zU (c:Cx) (σ σ':St):Prop:=∀a w,c.sat σ a w->c.sat σ' a w
section
variable {c:Cx} {R:Exit->Act->World->Prop} {k:List Dl} {σ σ':St}
theorem Ev.ent {n:m5} (h:Ev c R n k σ') (d:zU c σ σ'):Ev c R n k σ:=λh1 b a w hs=>h h1 b a w (d a w hs)
theorem A6R {x y:Code} (h:Ev c R (.run x) (.seq y :: k) σ):Ev c R (.run (.seq x y)) k σ:=by
 intro h1 b a w hs;simp only[JE,Bx,As]at h1;refine wpIn_seq (ADl (h h1.1 (by simp[DB,h1.2,b]) a w hs) ?_);intro e f w' d;cases e<;>exact d
theorem m6 (h:Ev c R (.out .normal) k σ):Ev c R (.run .skip) k σ:=λ_ b a w hs=>wpIn_skip (h rfl b a w hs)
theorem A6S (h:Ev c R (.out .ret) k σ):Ev c R (.run .ret) k σ:=λ_ b a w hs=>wpIn_ret (h rfl b a w hs)
theorem A3v {id:Nat} (h:Ev c R (.out (.exit id)) k σ):Ev c R (.run (.exit id)) k σ:=λ_ b a w hs=>wpIn_exit (h rfl b a w hs)
theorem zV {id:Nat} {b:Code} (h:Ev c R (.run b) (.blk id :: k) σ):Ev c R (.run (.block id b)) k σ:=by
 intro h1 d a w hs;refine wpIn_block (ADl (h (by simpa[JE,Bx] using h1) (by simpa[DB] using d) a w hs) ?_);intro e g w' f;cases e<;>exact f
def EvR (c:Cx) (R:Exit->Act->World->Prop) (k:List Dl):DD->Prop
 | some (vc,σ)=>vc/\Ev c R (.out .normal) k σ
 | none=>False
theorem uZ (f:c.Ok) {id:Nat} {ops:Array Oper} (h:EvR c R k (B0 c.tb ops.toList ops.toList σ)):Ev c R (.run (.region id ops false)) k σ:=by
 intro h1 e a w hs;cases b:B0 c.tb ops.toList ops.toList σ with
 | none=>rw[b]at h;exact h.elim
 | some r =>
  obtain⟨vc,σ'⟩:=r;rw[b]at h;simp only[JE,Bx,IN]at h1;exact ACN (PX f ops.toList hs h1 b h.1 λd w' g=>h.2 rfl e d w' g)
def EvC (c:Cx) (R:Exit->Act->World->Prop) (x y:Code) (k:List Dl) (σ:St):Option AV->Prop
 | some (.p .bool b)=>(b=true->Ev c R (.run x) k σ)/\(b=false->Ev c R (.run y) k σ)
 | _=>False
theorem A3w {o:Operand} {x y:Code} (h:EvC c R x y k σ (Ah σ o)):Ev c R (.run (.cond o x y)) k σ:=by
 intro h1 g a w hs;simp only[JE,Bx,As]at h1;obtain⟨ρ,f⟩:=hs;have j:=D6 f.env;cases e:Ah σ o with
 | none=>rw[e]at h;exact h.elim
 | some v =>
  have l:=j o v e;rw[e]at h;unfold EvC at h;split at h
  ·rename_i b i;cases i;have d:=EV l;exact wpIn_cond_split d (λd=>h.1 d h1.1 g a w ⟨ρ,f⟩) (λd=>h.2 d h1.2 g a w ⟨ρ,f⟩)
  ·exact h.elim
theorem Hz {y:Code} (h:Ev c R (.run y) k σ):Ev c R (.out .normal) (.seq y :: k) σ:=by
 intro _ b a w hs;simp only[DB,As]at b;exact h b.1 b.2 a w hs
theorem bJ {id:Nat} {y:Code} (h:Ev c R (.out (.exit id)) k σ):Ev c R (.out (.exit id)) (.seq y :: k) σ:=by
 intro _ b a w hs;simp only[DB,As]at b;exact h rfl b.2 a w hs
theorem iE {y:Code} (h:Ev c R (.out .ret) k σ):Ev c R (.out .ret) (.seq y :: k) σ:=by
 intro _ b a w hs;simp only[DB,As]at b;exact h rfl b.2 a w hs
theorem iG {id:Nat} (h:Ev c R (.out .normal) k σ):Ev c R (.out .normal) (.blk id :: k) σ:=λ_ b a w hs=>h rfl (by simpa[DB] using b) a w hs
theorem SL {id b:Nat} (h:if b=id then Ev c R (.out .normal) k σ else Ev c R (.out (.exit b)) k σ):Ev c R (.out (.exit b)) (.blk id :: k) σ:=by
 intro _ d a w hs;have d:DB c.nt k=true:=by simpa[DB] using d
 show (if b=id then UJ c R k .normal a w else UJ c R k (.exit b) a w);split at h
 ·rename_i e;rw[BY e];exact h rfl d a w hs
 ·rename_i e;rw[At e];exact h rfl d a w hs
theorem iH {id:Nat} (h:Ev c R (.out .ret) k σ):Ev c R (.out .ret) (.blk id :: k) σ:=λ_ b a w hs=>h rfl (by simpa[DB] using b) a w hs
theorem AB {post:St->Prop} (h:post σ):Ev c R (.out .normal) (.inv post :: k) σ:=λ_ _ _ _ hs=>⟨σ,hs,h⟩
theorem bK {id:Nat} {post:St->Prop} (h:Ev c R (.out (.exit id)) k σ):Ev c R (.out (.exit id)) (.inv post :: k) σ:=λ_ b a w hs=>h rfl (by simpa[DB] using b) a w hs
theorem iI {post:St->Prop} (h:Ev c R (.out .ret) k σ):Ev c R (.out .ret) (.inv post :: k) σ:=λ_ b a w hs=>h rfl (by simpa[DB] using b) a w hs
def A80 (c:Cx) {ι:Type} (I:ι->St) (μ:ι->Nat) (i:ι) (σ:St):Prop:=∃j,μ j<μ i/\zU c σ (I j)
theorem AG {ι:Type} (d:ι->St) (f:ι->Nat) (g:ι) {b:Code} (h0:zU c σ (d g)) (o:∀i,Ev c R (.run b) (.inv (A80 c d f i) :: k) (d i)):Ev c R (.run (.loop b)) k σ:=by
 intro h1 m a w hs;have h1:Bx c.nt b=true:=by simpa[JE,Bx] using h1
 refine S1 (λn a w=>∃i,f i=n/\c.sat (d i) a w) (f g) ⟨g,rfl,h0 a w hs⟩ ?_;rintro n a w ⟨i,rfl,hs⟩;refine ADl (o i h1 (by simpa[DB] using m) a w hs) ?_;intro e l w' h;cases e with
 | normal =>
  obtain⟨σ',r,j,q,p⟩:=h;exact⟨f j,q,j,rfl,p l w' r⟩
 | _=>exact h
theorem PY {ι:Type} (b:ι->St) {x y:Code} (h:Ev c R (.run x) (.inv (fun σ'=>∃i,zU c σ' (b i)) :: .seq y :: k) σ) (m:∀i,Ev c R (.run y) k (b i)):Ev c R (.run (.seq x y)) k σ:=by
 intro h1 f a w hs;simp only[JE,Bx,As]at h1;refine wpIn_seq (ADl (h h1.1 (by simp[DB,h1.2,f]) a w hs) ?_);intro e d w' g;cases e with
 | normal =>
  obtain⟨σ',l,i,j⟩:=g;exact m i h1.2 f d w' (j d w' l)
 | _=>exact g
end
end
section
open Go Go.RowKit
def AM:Nat->(ts:List Ty)->Kb ts->List (Nat×AV)
 | _,[],_=>[]
 | s,t :: ts,d=>(s,.p t d.1) :: AM (s+1) ts d.2
def Kw (σ:St) (ty:Ty):Option AV->Option AV
 | some (.bp n a off)=>match Ek ty a off (lk n σ.objs) with
  | some (_,v,_)=>some v
  | none=>none
 | _=>none
def Hf (tb:Tb) (σ:St):ResultVar->Option AV
 | .tmp t=>lk t σ.env
 | .cell a t=>match lk t tb.ty with
  | some ti=>Kw σ ti.ty (lk a σ.env)
  | none=>none
def Mz:Option AV->List Nat
 | some v=>v.names
 | none=>[]
def Jf (σ:St) (t:Ty):Option AV->Option t.den
 | some v=>LX false σ t v
 | none=>none
def GL (σ:St) (et:TypeId) (e:Ty):Option Obj->Option (List e.den)
 | some (.arr b a xs)=>if b=et then BQ (.slice e) ⟨.slice a,xs⟩ else none
 | _=>none
def H0 (tb:Tb) (σ:St) (rv:ResultVar):RV->Prop
 | .p t d=>Jf (Cr (Mz (Hf tb σ rv)) σ) t (Hf tb (Cr (Mz (Hf tb σ rv)) σ) rv)=some d
 | .own et e xs=>match Hf tb σ rv with
  | some (.sr n a 0 hi)=>a=e/\GL σ et e (lk n σ.objs)=some xs/\hi=xs.length
  | _=>False
def Nh (tb:Tb) (σ:St):List ResultVar->List RV->Prop
 | [],[]=>True
 | [rv],[r]=>H0 tb σ rv r
 | rv :: b,.p t d :: a=>H0 tb σ rv (.p t d)/\Nh tb σ b a
 | _,_=>False
section
variable {P:Program} {tb:Tb} {w0:World} {O0:Nat->Prop} {nt:Nat} {ds:Fp}
def cx (P:Program) (tb:Tb) (w0:World) (O0:Nat->Prop) (nt:Nat):Cx:={ P:=P,tb:=tb,w0:=w0,K:=λb=>b<w0.heap.size,O0:=O0,nt:=nt }
theorem XQ:∀(ts:List Ty) (a:List Value) (ds:Kb ts) (k:Nat) (w:World) (O:Nat->Prop),SE w O ts a ds->∀s v,lk s (AM k ts ds)=some v->k<=s/\∃u,a[s-k]?=some u/\∃t d,v=.p t d/\BX w O t u d
 | [],a,ds,k,w,O,h,s,v,hs=>by simp[AM,lk]at hs
 | t :: ts,a,ds,k,w,O,h,s,v,hs=>by
  obtain⟨u,r,rfl,h1,b⟩:=h;simp only[AM,lk]at hs;split at hs
  ·grind
  ·obtain⟨c,g,e,f⟩:=XQ ts r ds.2 (k+1) w O b s v hs;grind
theorem SM:∀ {ts:List Ty} {a:List Value} {ds:Kb ts} {w:World} {O:Nat->Prop},SE w O ts a ds->a.length=ts.length
 | [],a,ds,w,O,h=>by have h:a=[]:=h;subst h;rfl
 | t :: ts,a,ds,w,O,h=>by
  obtain⟨u,r,rfl,h1,b⟩:=h;simp[SM b]
theorem u3 {ts:List Ty} {a:List Value} {ds:Kb ts} (h:SE w0 O0 ts a ds) (k:a.length<=nt) :
  (cx P tb w0 O0 nt).sat ⟨AM 0 ts ds,[]⟩ { tmps:=a.toArray++Array.replicate (nt-a.toArray.size) undef,defers:=[] } w0:=by
 refine⟨λ_=>undef,⟨rfl,rfl,rfl,NO _,λ_ _=>rfl⟩,by simp[cx];omega,rfl,(λp hp=>by simp[cx]at hp),λn o h=>by simp[lk]at h,λn b ⟨o,h⟩=>by simp[lk]at h,λn m b ⟨o,h⟩=>by simp[lk]at h,λs v hs=>?_⟩;obtain⟨_,u,h1,t,d,rfl,e⟩:=XQ ts a ds 0 w0 O0 h s v hs;have c:s<a.length:=by grind
 have i:(a.toArray++Array.replicate (nt-a.toArray.size) undef).getD s undef=u:=by
  have h1:a[s]?=some u:=by simpa using h1
  have:a[s]=u:=by rw[AT c]at h1;injection h1
  simp[Array.getElem?_append,c,this]
 rw[i];refine BX.mono (λb _ f g=>?_) (λ_ _ _=>rfl) e;rcases g with h0|⟨n,⟨o,j⟩,_⟩
 ·exact f h0
 ·simp[lk]at j
def J7 (tmps:Array Value):ResultVar->Sem Value
 | .tmp t=>pure (tmps.getD t undef)
 | .cell a t=>do loadVar t (<-asAddr (tmps.getD a undef))
theorem OD (fn:Func) (tmps:Array Value):results fn tmps=(do let a <-fn.results.mapM (J7 tmps);pure (if h:a.size=1 then a[0] else .tuple a)):=by
 unfold results
 congr 1
theorem TG (hT:DG P tb) {K:Nat->Prop} {σ:St} {ρ:Nat->Value} {a:Act} {w:World} (hs:Bo w0 K O0 nt ds σ ρ a w) {rv:ResultVar} {v:AV} (h:Hf tb σ rv=some v) :
  ∃u,(J7 a.tmps rv).run P w=.ok u w/\B2 (vw w O0 σ ρ) v u:=by
 cases rv with
 | tmp t =>
  simp only[Hf]at h;exact⟨_,by simp[J7],hs.env t v h⟩
 | cell x t =>
  simp only[Hf]at h;cases d:lk t tb.ty with
  | none=>rw[d]at h;simp at h
  | some ti =>
   rw[d]at h;simp only at h;cases e:lk x σ.env with
   | none=>rw[e]at h;simp[Kw]at h
   | some xv =>
    rw[e]at h;unfold Kw at h;split at h
    ·rename_i n l off i;cases i;have f:=hs.env x _ e;split at h
     ·rename_i vc o obs j;cases h;have k:Jy σ (some ti) (some (.bp n l off))=some (vc,v,obs):=j;obtain⟨_,u,h1,g⟩:=zC (hT _ _ d) hs.objs k f;obtain⟨m,b,_,c⟩:=f;rw[c]at h1;have c:a.tmps.getD x undef=.pointer (some ⟨b,off,none⟩):=c;refine⟨u,?_,g⟩;simp only[Instr.loadAt,Instr.sureAddr,ABt,AC4,AB0]at h1;simp only[J7,c,asAddr,ABt,AC4,AB0,h1]
     ·cases h
    ·cases h
theorem A3x (hT:DG P tb) {K:Nat->Prop} {σ:St} {ρ:Nat->Value} {a:Act} {w:World} (hs:Bo w0 K O0 nt ds σ ρ a w) {rv:ResultVar} {t:Ty} {d:t.den} (h:H0 tb σ rv (.p t d)) :
  ∃u,(J7 a.tmps rv).run P w=.ok u w/\BX w O0 t u d:=by
 unfold H0 at h;have e:=Kv (l:=Mz (Hf tb σ rv)) hs;generalize Cr (Mz (Hf tb σ rv)) σ=f at h e;cases c:Hf tb f rv with
 | none=>rw[c]at h;simp[Jf]at h
 | some v =>
  rw[c]at h;simp only[Jf]at h;obtain⟨u,h1,g⟩:=TG hT e c;have i:=J4 (V:=vw w O0 f ρ) (O':=O0) (λb j k=>j (.inl k)) (λh=>by cases h) e.objs h g;exact⟨u,h1,i⟩
theorem zW (hT:DG P tb) {K:Nat->Prop} {σ:St} {ρ:Nat->Value} {a:Act} {w:World} (hs:Bo w0 K O0 nt ds σ ρ a w):∀ {f:List ResultVar} {c:List RV},(∀r∈c,∃t d,r=.p t d)->Nh tb σ f c ->
  ∃e:List Value,(f.mapM (J7 a.tmps)).run P w=.ok e w/\e.length=c.length /\
   ∀nm V,V.w=w->(∀b,V.O b->O0 b)->J1 V (Nb nm c) e
 | [],[],_,_=>⟨[],by simp,rfl,λ_ _ _ _=>rfl⟩
 | [],_ :: _,_,h=>by simp[Nh]at h
 | _ :: _,[],_,h=>by simp[Nh]at h
 | rv :: f,r :: c,hp,h=>by
  obtain⟨t,d,rfl⟩:=hp r (by simp);have g:H0 tb σ rv (.p t d)/\Nh tb σ f c:=by
   cases f with
   | nil =>
    cases c with
    | nil=>exact⟨h,trivial⟩
    | cons q s=>exact⟨h.1,h.2⟩
   | cons v x=>exact⟨h.1,h.2⟩
  obtain⟨u,h1,n⟩:=A3x hT hs g.1;obtain⟨e,o,i,j⟩:=zW hT hs (λr l=>hp r (by simp[l])) g.2;refine⟨u :: e,?_,by simp[i],λnm V m k=>⟨u,e,rfl,?_,j _ V m k⟩⟩
  ·simp_all
  ·show BX V.w V.O t u d;grind [BX.mono]
def UK (P:Program) (fn:Func) (w0:World) (O0:Nat->Prop) (a:List RV):Exit->Act->World->Prop :=
 bodyPost P fn λe w'=>∃u,e=.returned u/\zL w0 O0 a u w'
theorem zX (x:(cx P tb w0 O0 nt).Ok) {fn:Func} {g:List RV} {σ:St} {e:Exit} (y:e=.ret\/e=.normal) (hp:∀r∈g,∃t d,r=.p t d) (h:Nh tb σ fn.results.toList g) :
  Ev (cx P tb w0 O0 nt) (UK P fn w0 O0 g) (.out e) [] σ:=by
 intro _ _ a w hs;obtain⟨ρ,hs⟩:=hs;obtain⟨f,h1,i,m⟩:=zW x.T hs hp h;have h1:(fn.results.toList.mapM (J7 a.tmps)).run P w=.ok f w:=h1;have s:Below w0.heap.size w0 w:=⟨hs.frm.os,hs.frm.tape,hs.frm.output,hs.frm.size,hs.frm.block⟩;have D:∃v,(results fn a.tmps).run P w=.ok v w/\zL w0 O0 g v w:=by
  have A:(fn.results.mapM (J7 a.tmps)).run P w=.ok f.toArray w:=by
   rw[AC8]
   simp_all
  refine⟨if h:f.toArray.size=1 then f.toArray[0] else .tuple f.toArray,?_,λnm=>⟨λ_=>undef,?_⟩⟩
  ·rw[OD];simp only[ABt,A,AB0,AC4]
  ·have z:DE nm g=[]:=by
    clear h h1 i m;induction g generalizing nm with
    | nil=>rfl
    | cons r F E =>
     obtain⟨t,d,rfl⟩:=hp r (by simp);simp only[DE,R3,ABN];exact E (λr C=>hp r (by simp[C])) (nm+10000)
   rw[z];refine⟨s,λ_ _=>rfl,?_,(λ_ _ h=>by cases h),(λ_ _ _ h=>by cases h),(λ_ _ _ _ _ h=>by cases h)⟩;have c:=m nm (vw w O0 (EZ ⟨[],[]⟩ []) (λ_=>undef)) rfl (λb q=>by
    rcases q with h0|⟨n,⟨o,B⟩,_⟩
    ·exact h0
    ·simp[EZ,lk]at B)
   match g,hp,f,i,c with
   | [],_,f,i,c =>
    have c:f=[]:=c;subst c;exact(rfl:_=_)
   | [r],hp,f,i,c =>
    obtain⟨u,l,rfl,j,k⟩:=c;have k:l=[]:=k;subst k;simp only[Jx];exact y4 j
   | G :: H :: F,hp,f,i,c =>
    have:¬f.toArray.size=1:=by simp at i ⊢;omega
    rw[dif_neg this];exact⟨f,rfl,c⟩
 obtain⟨v,c,j⟩:=D;rcases y with rfl|rfl
 ·exact⟨hs.defers,v,c,v,rfl,j⟩
 ·exact⟨hs.defers,v,c,v,rfl,j⟩
end
end
section
open Go Go.RowKit
def Ty.ok:(t:Ty)->t.den->Prop
 | .int k,d=>LW k d
 | .bool,_=>True
 | .str,d=>ByteArray.size d<=AO
 | .slice e,d=>List.length d<=AO/\∀x∈(d:List e.den),e.ok x
 | .prod a b,d=>a.ok d.1/\b.ok d.2
 | .agg t,d=>t.ok d
 | .ref _,_=>True
theorem H4 {w:World} {O:Nat->Prop}:∀ {t:Ty} {cs:List Value} {d:t.den},Br w O t cs d->t.ok d
 | .int _,_,_,h=>h.2
 | .bool,_,_,_=>trivial
 | .str,_,_,h=>h.2
 | .ref _,_,_,_=>trivial
 | .slice e,_,d,h=>by
  obtain⟨a,c,_,_,f,g⟩:=h;refine⟨f,λx j=>?_⟩;rcases g with g|⟨ad,_,_,k⟩
  ·subst g;simp at j
  ·obtain⟨i,hi,rfl⟩:=AAr.1 j;obtain⟨m,_,_,l⟩:=k i _ (AT hi);exact H4 l
 | .prod a b,_,_,h=>by
  obtain⟨c1,c2,_,h1,f⟩:=h;exact⟨H4 h1,H4 f⟩
 | .agg t,cs,d,h=>by
  have h:Br w O t cs d:=h;exact(H4 h:t.ok d)
def oks:(ts:List Ty)->Kb ts->Prop
 | [],_=>True
 | t :: ts,d=>t.ok d.1/\oks ts d.2
theorem m7 {w:World} {O:Nat->Prop}:∀ {ts:List Ty} {a:List Value} {ds:Kb ts},SE w O ts a ds->oks ts ds
 | [],_,_,_=>trivial
 | t :: ts,a,ds,h=>by
  obtain⟨v,r,rfl,⟨cs,h1,_⟩,b⟩:=h;exact⟨H4 h1,m7 b⟩
section
variable {P:Program} {tb:Tb} {w0:World} {O0:Nat->Prop} {nt:Nat}
theorem A6f {f : FuncId} {fn : Func} {cd : Code} {sp : Ae} (d : P.funcs[f]? = some fn) (j : (fn.name == "runtime.NumGoroutine") = false) (c : fn.body = some cd) (k : fn.ntmps = nt) (m : sp.ins.length <= nt)
  (i:Bx nt cd=true) (hT:DG P tb) (hF:JA P tb)
  (h:∀(w0:World) (O0:Nat->Prop) (ds:Kb sp.ins),(cx P tb w0 O0 nt).Ok->oks sp.ins ds->sp.pre ds->Ev (cx P tb w0 O0 nt) (UK P fn w0 O0 (sp.out ds)) (.run cd) [] ⟨AM 0 sp.ins ds,[]⟩):Af P f sp:=by
 refine⟨⟨fn,d,j,by simp[c]⟩,λw O p ds e a l=>?_⟩;refine calls_of_wp d c ((wpIn_wide (n:=0)).1 ?_);have o:=SM a;rw[k];exact h w O ds ⟨λb g=>g,e,hT,hF⟩ (m7 a) l i rfl _ _ (u3 a (by omega))
theorem GY (O:(cx P tb w0 O0 nt).Ok) {fn:Func} {et:TypeId} {e:Ty} {xs:List e.den} {σ:St} {ex:Exit} (p:ex=.ret\/ex=.normal) {rv:ResultVar} (S:fn.results=#[rv]) (h:H0 tb σ rv (.own et e xs)) :
  Ev (cx P tb w0 O0 nt) (UK P fn w0 O0 [.own et e xs]) (.out ex) [] σ:=by
 intro _ _ a w hs;obtain⟨ρ,hs⟩:=hs;have N:Below w0.heap.size w0 w:=⟨hs.frm.os,hs.frm.tape,hs.frm.output,hs.frm.size,hs.frm.block⟩;unfold H0 at h;simp only at h;split at h
 ·rename_i n Y hi U;obtain⟨rfl,c,rfl⟩:=h;cases hn:lk n σ.objs with
  | none=>rw[hn]at c;simp[GL]at c
  | some o =>
   rw[hn]at c;cases o with
   | box f st fs=>simp[GL]at c
   | mapo k v l=>simp[GL]at c
   | frame ak fs=>simp[GL]at c
   | loop L=>simp[GL]at c
   | itr ag aj ah ai ae=>simp[GL]at c
   | dfr=>simp[GL]at c
   | nest Z af k d ys A=>simp[GL]at c
   | arr f d ys =>
    simp only[GL]at c;split at c
    ·rename_i R;subst R;obtain⟨rfl,I⟩:=Bl c;cases I;obtain⟨u,hu,K⟩:=TG (P:=P) O.T hs U;obtain⟨aa,y⟩:=K;have C:=hs.objs n _ hn;have q:u=ρ n:=by
      obtain⟨a0,m,c0,t,_,ab,V,W,rfl,_,h0,_⟩:=y;have t:plc (ρ n)=_:=t;obtain⟨rfl,rfl⟩:=h0 rfl;obtain⟨_,cells,s,_⟩:=C;have s:w.ownsRow 0 f d.size (ρ n) ys.length cells:=s;rw[Hc s]at t;have r:m=ys.length:=by
       rcases s.2 with ⟨p,ad⟩|⟨g,cap,X,p,_⟩
       ·rw[t]at p;injection p;omega
       ·rw[t]at p;injection p
      rw[t,r,Nat.sub_zero]
     have D:(results fn a.tmps).run P w=.ok u w:=by
      rw[OD,S];have:((#[rv]:Array ResultVar).mapM (J7 a.tmps)).run P w=.ok #[u] w:=by
       rw[AC8];simp[hu]
      simp only[ABt,this,AB0,AC4];rfl
     have z:zL w0 O0 [.own f d ys] u w:=by
      intro nm;have B:∀m,Gp (EZ ⟨[],[]⟩ [(nm,.arr f d ys)]) m↔m=nm:=by
       intro m;simp[Gp,EZ,lk]
      have hk:∀b,¬own O0 σ ρ b->¬own O0 (EZ ⟨[],[]⟩ [(nm,.arr f d ys)]) (Ei (λ_=>undef) nm u) b:=by
       intro b j M;rcases M with h0|⟨m,A,r⟩
       ·exact j (.inl h0)
       ·rw[(B m).1 A,Bj,q]at r;exact j (.inr ⟨n,⟨_,hn⟩,r⟩)
      have J:DE nm [RV.own f d ys]=[(nm,.arr f d ys)]:=rfl;rw[J];refine⟨Ei (λ_=>undef) nm u,QS.one (loc:=u) N (λb j=>?_) ?_ ?_⟩
      ·rw[q]at j;have:=(hs.free n b ⟨_,hn⟩ j).1;simp only[cx]at this;omega
      ·refine⟨(B nm).2 rfl,?_⟩;show DF (plc (Ei (λ_=>undef) nm u nm)) _ _ _ u;rw[Bj,q];rw[q]at y;exact y
      ·rw[q];obtain⟨r,cells,s,Q⟩:=C;refine⟨r,cells,s,λi x hi=>?_⟩;obtain⟨E,F,G,H⟩:=Q i x hi;rw[q]at hk;exact⟨E,F,G,H.mono (λb _ j=>hk b j) (λ_ _ _=>rfl)⟩
     rcases p with rfl|rfl
     ·exact⟨hs.defers,u,D,u,rfl,z⟩
     ·exact⟨hs.defers,u,D,u,rfl,z⟩
    ·cases c
 ·exact h.elim
end
end
section
open Go Go.RowKit
section
variable {P:Program} {tb:Tb} {w0:World} {O0:Nat->Prop} {nt:Nat} {R:Exit->Act->World->Prop} {k:List Dl} {σ σ':St}
theorem bL:(cx P tb w0 O0 nt).tb=tb:=rfl
theorem iJ {c:Cx} (a:c.Ok) {id:Nat} {l:List Oper} {vc:Prop} (h:B0 c.tb l l σ=some (vc,σ')) (b:vc) (hk:Ev c R (.out .normal) k σ') :
  Ev c R (.run (.region id l.toArray false)) k σ:=uZ a (by
 show EvR _ _ _ (B0 c.tb l l σ);rw[h];exact⟨b,hk⟩)
theorem Dm {c:Cx} {o:Operand} {x y:Code} {b:Bool} (h:Ah σ o=some (.p .bool b)) (a:b=true->Ev c R (.run x) k σ) (hf:b=false->Ev c R (.run y) k σ):Ev c R (.run (.cond o x y)) k σ :=
 A3w (by rw[h];exact⟨a,hf⟩)
theorem iK {c:Cx} {id:Nat} (h:Ev c R (.out .normal) k σ):Ev c R (.out (.exit id)) (.blk id :: k) σ:=SL (by rw[BY rfl];exact h)
theorem iL {c:Cx} {id a:Nat} (b:a≠id) (h:Ev c R (.out (.exit a)) k σ):Ev c R (.out (.exit a)) (.blk id :: k) σ:=SL (by rw[At b];exact h)
end
inductive Bz where
 | nm (n:Nat)
 | nil
def D7 (ren:List (Nat×Bz)):AV->AV->Prop
 | .p t d,.p u a=>BQ u ⟨t,d⟩=some a
 | .raw (.slice none 0 0),.p (.slice e) a=>(a:List e.den)=[]
 | .raw v,.raw u=>v=u
 | .raw (.slice none 0 0),.sr m _ lo hi=>lk m ren=some .nil/\lo=0/\hi=0
 | .sr n e lo hi,.sr m b h c=>lk m ren=some (.nm n)/\e=b/\lo=h/\hi=c
 | .ip t d,.ip u a=>BQ u ⟨t,d⟩=some a
 | .bp n p o,.bp m k j=>lk m ren=some (.nm n)/\p=k/\o=j
 | .fn f,.fn g=>f=g
 | .clo f ns,.clo g i=>f=g/\i.map (λm=>lk m ren)=ns.map λn=>some (.nm n)
 | .mp n,.mp m=>lk m ren=some (.nm n)
 | .yl n,.yl m=>lk m ren=some (.nm n)
 | _,.top=>True
 | _,_=>False
def FH (ren:List (Nat×Bz)):List AV->List AV->Prop
 | [],[]=>True
 | x :: l,y :: r=>(x.cells=y.cells/\D7 ren x y)/\FH ren l r
 | _,_=>False
def H5 (ren:List (Nat×Bz)):AV->AV->Prop
 | .ag l,.ag r=>FH ren l r
 | x,y=>D7 ren x y
def JF (ren:List (Nat×Bz)):List AV->List AV->Prop
 | [],[]=>True
 | x :: l,y :: r=>H5 ren x y/\JF ren l r
 | _,_=>False
def Bm (ren:List (Nat×Bz)):AV->AV->Prop
 | .tup l,.tup r=>JF ren l r
 | x,y=>H5 ren x y
def Kx (ren:List (Nat×Bz)):Option AV->AV->Prop
 | some x,y=>Bm ren x y
 | none,.top=>True
 | none,_=>False
def FI (env:List (Nat×AV)) (ren:List (Nat×Bz)):List (Nat×AV)->Prop
 | []=>True
 | (s,y) :: r=>Kx ren (lk s env) y/\FI env ren r
def H6 (ren:List (Nat×Bz)):Option Obj->Obj->Prop
 | some (.arr et e xs),.arr a c ys=>et=a/\BQ (.slice c) ⟨.slice e,xs⟩=some ys
 | some (.box et st fs),.box a r d=>et=a/\st=r/\FH ren fs d
 | some (.nest et n k e xs h),.nest a o b c ys m=>(et=a/\n=o/\h=m)/\BQ (.slice (.prod b (.slice c))) ⟨.slice (.prod k (.slice e)),xs⟩=some ys
 | some (.mapo k v l),.mapo b f l'=>BQ (.slice (.prod b f)) ⟨.slice (.prod k v),l⟩=some l'
 | some (.frame s fs),.frame t d=>s=t/\FI fs ren d
 | some (.itr k v l p i),.itr b f l' q j=>BQ (.slice (.prod b f)) ⟨.slice (.prod k v),l⟩=some l'/\p=q/\i=j
 | some (.loop L),.loop g=>L=g
 | some .dfr,.dfr=>True
 | _,_=>False
def GZ (objs:List (Nat×Obj)) (ren:List (Nat×Bz)) (o:Obj):Option Bz->Prop
 | some (.nm n)=>H6 ren (lk n objs) o
 | some .nil=>match o with
  | .arr _ e ys=>(ys:List e.den)=[]
  | .box _ _ _=>False
  | .nest _ _ k e ys _=>(ys:List (k.den×List e.den))=[]
  | .mapo _ _ _=>False
  | .frame _ _=>False
  | .itr _ _ _ _ _=>False
  | .loop _=>False
  | .dfr=>False
 | none=>False
def Ab (objs:List (Nat×Obj)) (ren:List (Nat×Bz)):List (Nat×Obj)->Prop
 | []=>True
 | (m,o) :: r=>GZ objs ren o (lk m ren)/\Ab objs ren r
def CB:List (Nat×Bz)->Bool
 | []=>true
 | (_,.nm n) :: r=>(r.all λp=>match p.2 with|.nm a=>a != n|.nil=>true)&&CB r
 | (_,.nil) :: r=>CB r
def L9 {α:Type}:List (Nat×α)->Bool
 | []=>true
 | (n,_) :: r=>(r.all λp=>p.1 != n)&&L9 r
section
variable {ren:List (Nat×Bz)} {V V':Vw}
structure MA (ren:List (Nat×Bz)) (V V':Vw):Prop where
 w:V'.w=V.w
 O:∀b,¬V.O b->¬V'.O b
 ρ:∀m n,lk m ren=some (.nm n)->V'.ρ m=V.ρ n
 nil:∀m,lk m ren=some .nil->V'.ρ m=.slice none 0 0
 L:∀m f,lk m ren=some f->V'.L m
theorem MA.vrep (h:MA ren V V') {t:Ty} {v:Value} {d:t.den} (c:BX V.w V.O t v d):BX V'.w V'.O t v d :=
 BX.mono (λb _ a=>h.O b a) (λb _ _=>by rw[h.w]) c
theorem MA.rep (h:MA ren V V') {t:Ty} {cs:List Value} {d:t.den} (c:Br V.w V.O t cs d):Br V'.w V'.O t cs d :=
 c.mono (λb _ a=>h.O b a) (λb _ _=>by rw[h.w])
theorem MA.map (h:MA ren V V'):∀ {b ns:List Nat},b.map (λm=>lk m ren)=ns.map (λn=>some (Bz.nm n))->b.map V'.ρ=ns.map V.ρ/\∀m∈b,∃n∈ns,lk m ren=some (.nm n)
 | [],[],_=>⟨rfl,λ_ h=>by cases h⟩
 | [],_ :: _,a=>by simp at a
 | _ :: _,[],a=>by simp at a
 | m :: b,n :: ns,a=>by
  simp only[AAn,ABW]at a;obtain⟨h1,c⟩:=h.map a.2;refine⟨by simp only[AAn,h1,h.ρ _ _ a.1],λx d=>?_⟩;grind
theorem XR (h:MA ren V V') {x y:AV} {v:Value} (b:D7 ren x y) (c:Tv V x v):Tv V' y v/\(∀t d,y=.p t d->(∀u g,x≠.p u g)->v.oneCell'=true->Br V'.w V'.O t [v] d):=by
 unfold D7 at b;split at b
 ·have:=BG b;injection this with h1 f
  subst h1;cases f;exact⟨h.vrep c,λ_ _ _ z=>absurd rfl (z _ _)⟩
 ·have c:v=_:=c;subst c;have i:=b;have k:∀(O:Nat->Prop) (e:Ty),Br V'.w O (.slice e) [.slice none 0 0] ([]:List e.den):=λO e=>⟨none,0,rfl,by simp,by simp[AO],.inl rfl⟩;rename_i e g;have i:g=([]:List e.den):=i;subst i;refine⟨⟨_,k _ _,rfl⟩,λt d a _ _=>?_⟩;grind
 ·subst b;exact⟨c,λt d a=>by cases a⟩
 ·rename_i m e lo hi;obtain⟨h1,rfl,rfl⟩:=b;have c:v=_:=c;subst c;refine⟨⟨h.L _ _ h1,?_⟩,λt d a=>by cases a⟩;rw[h.nil _ h1];exact⟨none,0,0,rfl,by omega,by omega,none,0,rfl,by omega,λ_=>⟨rfl,rfl⟩,λh=>by omega⟩
 ·obtain⟨h1,rfl,rfl,rfl⟩:=b;refine⟨⟨h.L _ _ h1,?_⟩,λt d a=>by cases a⟩;rw[h.ρ _ _ h1];exact c.2
 ·have:=BG b;injection this with h1 f
  subst h1;cases f;obtain⟨ad,cs,a,o,q,k⟩:=c;exact⟨⟨ad,cs,a,h.O _ o,λj u r=>by rw[h.w];exact q j u r,h.rep k⟩,λt d a=>by cases a⟩
 ·obtain⟨h1,rfl,rfl⟩:=b;refine⟨⟨h.L _ _ h1,?_⟩,λt d a=>by cases a⟩;rw[h.ρ _ _ h1];exact c.2
 ·subst b;exact⟨c,λt d a=>by cases a⟩
 ·obtain⟨rfl,s⟩:=b;obtain⟨h1,f⟩:=h.map s;refine⟨⟨?_,λm b=>?_⟩,λt d a=>by cases a⟩
  ·rw[h1];exact c.1
  ·obtain⟨n,hn,l⟩:=f m b;refine⟨h.L _ _ l,?_⟩;rw[h.ρ _ _ l];exact(c.2 n hn).2
 ·refine⟨⟨h.L _ _ b,?_⟩,λt d a=>by cases a⟩;rw[h.ρ _ _ b];exact c.2
 ·refine⟨⟨h.L _ _ b,?_⟩,λt d a=>by cases a⟩;rw[h.ρ _ _ b];exact c.2
 ·exact⟨trivial,λt d a=>by cases a⟩
 ·exact b.elim
theorem u4 (h:MA ren V V') {x y:AV} {cs:List Value} (f:x.cells=y.cells) (b:D7 ren x y) (a:NW V x cs):NW V' y cs:=by
 by_cases hp:∃t d,x=.p t d
 ·obtain⟨t,d,rfl⟩:=hp;have a:Br V.w V.O t cs d:=a;cases y<;>simp only[D7]at b<;>try exact b.elim
  ·have:=BG b;injection this with h1 c
   subst h1;cases c;exact h.rep a
  ·have g:=a.length;simp only[AV.cells]at f;rw[f]at g;obtain⟨v,rfl⟩:=ABv.1 g;exact⟨v,rfl,a.one v (by simp),trivial⟩
 ·have l:∃v,cs=[v]/\v.oneCell'=true/\Tv V x v:=by
   cases x;case p t d=>exact absurd ⟨t,d,rfl⟩ hp
   all_goals exact a
  obtain⟨v,rfl,h1,c⟩:=l;obtain⟨j,k⟩:=XR h b c;cases y;case p t d=>exact k t d rfl (λu i e=>hp ⟨u,i,e⟩) h1
  all_goals exact⟨v,rfl,h1,j⟩
theorem OE (h:MA ren V V'):∀ {l r:List AV} {cs:List Value},FH ren l r->DZ V l cs->DZ V' r cs
 | [],[],cs,_,b=>b
 | [],_ :: _,cs,a,_=>a.elim
 | _ :: _,[],cs,a,_=>a.elim
 | x :: l,y :: r,cs,a,b=>by
  obtain⟨c1,c2,rfl,h1,c⟩:=b;exact⟨c1,c2,rfl,u4 h a.1.1 a.1.2 h1,OE h a.2 c⟩
theorem Lc:∀ {l r:List AV},FH ren l r->l.length=r.length
 | [],[],_=>rfl
 | [],_ :: _,a=>a.elim
 | _ :: _,[],a=>a.elim
 | _ :: _,_ :: _,a=>by simp[Lc a.2]
theorem XS (h:MA ren V V') {x y:AV} {v:Value} (a:H5 ren x y) (b:R7 V x v):R7 V' y v:=by
 cases x;case ag l =>
  cases y;case ag r =>
   obtain⟨cs,e,h1⟩:=b;exact⟨cs,e,OE h a h1⟩
  all_goals simp only[H5,D7]at a
  all_goals first|exact a.elim|exact trivial
 all_goals
  simp only[R7]at b;have a:D7 ren _ y:=a;exact R7.of1 (XR h a b).1
theorem bM (h:MA ren V V'):∀ {l r:List AV} {b:List Value},JF ren l r->J1 V l b->J1 V' r b
 | [],[],b,_,c=>c
 | [],_ :: _,b,a,_=>a.elim
 | _ :: _,[],b,a,_=>a.elim
 | x :: l,y :: r,b,a,c=>by
  obtain⟨v,e,rfl,h1,d⟩:=c;exact⟨v,e,rfl,XS h a.1 h1,bM h a.2 d⟩
theorem M0 (h:MA ren V V') {x y:AV} {v:Value} (a:Bm ren x y) (b:B2 V x v):B2 V' y v:=by
 cases x;case tup l =>
  cases y;case tup r =>
   obtain⟨c,e,h1⟩:=b;exact⟨c,e,bM h a h1⟩
  all_goals simp only[Bm,H5,D7]at a
  all_goals first|exact a.elim|exact trivial
 all_goals
  simp only[Bm]at a;exact y4 (XS h a b)
theorem DP {objs:List (Nat×Obj)} {m:Nat} {o:Obj}:∀ {l:List (Nat×Obj)},Ab objs ren l->lk m l=some o->GZ objs ren o (lk m ren)
 | (j,x) :: l,h,a=>by
  simp only[lk]at a;split at a
  ·rename_i e;cases a;subst e;exact h.1
  ·exact DP h.2 a
theorem MB {env:List (Nat×AV)} {s:Nat} {y:AV}:∀ {l:List (Nat×AV)},FI env ren l->lk s l=some y->Kx ren (lk s env) y
 | (j,x) :: l,h,a=>by
  simp only[lk]at a;split at a
  ·rename_i e;cases a;subst e;exact h.1
  ·exact MB h.2 a
theorem TH:∀ {l:List (Nat×Bz)} {m c n:Nat},CB l=true->lk m l=some (.nm n)->lk c l=some (.nm n)->m=c
 | (j,f) :: l,m,c,n,a,h1,b=>by
  simp only[lk]at h1 b;have e:CB l=true:=by
   cases f<;>simp only[CB,As]at a
   ·exact a.2
   ·exact a
  have g:∀q,f=.nm n->lk q l=some (.nm n)->False:=by
   intro q hf d;subst hf;simp only[CB,As,IN]at a;have:=a.1 _ (F3 d);simp at this
  split at h1
  ·grind
  ·split at b
   ·grind
   ·exact TH e h1 b
def A82 (n:Nat):Option Bz->Bool
 | some (.nm m)=>m==n
 | _=>false
def A6T (pin:List (Nat×Value)) (ren:List (Nat×Bz)):Bool:=pin.all λp=>A82 p.1 (lk p.1 ren)
theorem Q2 {V V':Vw} (a:MA ren V V') {P:List (Nat×Obj)} (ag:∀n x,lk n P=some x->A3 V x (V.ρ n)) {o:Obj} {m:Nat} (hf:GZ P ren o (lk m ren)):A3 V' o (V'.ρ m):=by
 cases J:lk m ren with
 | none=>rw[J]at hf;exact hf.elim
 | some f =>
  rw[J]at hf;cases f with
  | nil =>
   rw[a.nil m J];cases o with
   | box et st fs=>exact hf.elim
   | mapo k v l=>exact hf.elim
   | frame t fs=>exact hf.elim
   | loop L=>exact hf.elim
   | itr B E C D A=>exact hf.elim
   | dfr=>exact hf.elim
   | nest et aj k e ys H =>
    have hf:ys=([]:List (k.den×List e.den)):=hf;subst hf;exact⟨_,[],[],.inr ⟨rfl,rfl,rfl⟩,by simp[AO],rfl,ACc _ 0 et _,λi x u h=>by simp at h,λi j b u v h=>by simp at h,λi b u h=>by simp at h⟩
   | arr et e ys =>
    have hf:ys=([]:List e.den):=hf;subst hf;exact⟨by simp[AO],[],ACc _ 0 et e.size,Hm _ _ _ _⟩
  | nm n =>
   rw[a.ρ m n J];simp only[GZ]at hf;cases hn:lk n P with
   | none=>rw[hn]at hf;simp only[H6]at hf
   | some x =>
    rw[hn]at hf;have q:=ag n x hn;cases x with
    | arr et e xs =>
     cases o with
     | box c st fs=>exact hf.elim
     | mapo k v l=>exact hf.elim
     | frame t fs=>exact hf.elim
     | loop L=>exact hf.elim
     | itr B E C D A=>exact hf.elim
     | dfr=>exact hf.elim
     | nest _ _ _ _ _ _=>exact hf.elim
     | arr c p ys =>
      obtain⟨rfl,g⟩:=hf;obtain⟨rfl,d⟩:=Bl g;cases d;obtain⟨ae,cells,af,ab⟩:=q;refine⟨ae,cells,by rw[a.w];exact af,λi z hi=>?_⟩;obtain⟨K,S,T,U⟩:=ab i z hi;exact⟨K,S,T,a.rep U⟩
    | box et st fs =>
     cases o with
     | arr c p ys=>exact hf.elim
     | mapo k v l=>exact hf.elim
     | frame t fs=>exact hf.elim
     | loop L=>exact hf.elim
     | itr B E C D A=>exact hf.elim
     | dfr=>exact hf.elim
     | nest _ _ _ _ _ _=>exact hf.elim
     | box c aw W =>
      obtain⟨rfl,rfl,G⟩:=hf;obtain⟨h0,b,cs,F,hh,aa⟩:=q;exact⟨λah=>by rw[<-Lc G];exact h0 ah,b,cs,F,by rw[a.w];exact hh,OE a G aa⟩
    | nest et aj k e xs h =>
     cases o with
     | nest c ar Q p ys aq =>
      obtain⟨⟨rfl,rfl,rfl⟩,g⟩:=hf;have g:=BG g;injection g with h1 y
      injection h1 with h1
      injection h1 with h1 d
      injection d with d
      subst h1;subst d;cases y;exact uP a.w a.O q
     | mapo k v l=>exact hf.elim
     | box c st fs=>exact hf.elim
     | arr c p ys=>exact hf.elim
     | frame t fs=>exact hf.elim
     | loop L=>exact hf.elim
     | itr B E C D A=>exact hf.elim
     | dfr=>exact hf.elim
    | mapo k v l =>
     cases o with
     | mapo Q an l' =>
      have g:=BG hf;injection g with h1 y
      injection h1 with h1
      injection h1 with h1 d
      subst h1;subst d;cases y;obtain⟨b,K,cl,F,hh,ad,Z⟩:=q;exact⟨b,K,cl,F,by rw[a.w];exact hh,ad.mono (λb _ M=>a.O b M) (λb _ _=>by rw[a.w]),Z⟩
     | box c st fs=>exact hf.elim
     | arr c p ys=>exact hf.elim
     | frame t fs=>exact hf.elim
     | loop L=>exact hf.elim
     | itr B E C D A=>exact hf.elim
     | dfr=>exact hf.elim
     | nest _ _ _ _ _ _=>exact hf.elim
    | frame t fs =>
     cases o with
     | frame ax W =>
      obtain⟨rfl,G⟩:=hf;obtain⟨h0,h1⟩:=q;refine⟨h0,λs v ai=>?_⟩;have I:=MB G ai;cases N:lk s fs with
      | none =>
       rw[N]at I;cases v<;>simp only[Kx]at I;exact trivial
      | some x =>
       rw[N]at I;exact M0 a I (h1 s x N)
     | mapo k v l=>exact hf.elim
     | box c st fs=>exact hf.elim
     | arr c p ys=>exact hf.elim
     | loop L=>exact hf.elim
     | itr B E C D A=>exact hf.elim
     | dfr=>exact hf.elim
     | nest _ _ _ _ _ _=>exact hf.elim
    | itr k v l au ao =>
     cases o with
     | itr Q an l' av ap =>
      obtain⟨hf,rfl,rfl⟩:=hf;have g:=BG hf;injection g with h1 y
      injection h1 with h1
      injection h1 with h1 d
      subst h1;subst d;cases y;obtain⟨r,F,b,ak,cl,am,al,h1,y,d,X,Y⟩:=q;exact⟨r,F,b,ak,cl,am,al,by rw[a.w];exact h1,a.O b y,by rw[a.w];exact d,X.mono (λb _ M=>a.O b M) (λb _ _=>by rw[a.w]),Y⟩
     | mapo k v l=>exact hf.elim
     | box c st fs=>exact hf.elim
     | arr c p ys=>exact hf.elim
     | frame t fs=>exact hf.elim
     | loop L=>exact hf.elim
     | dfr=>exact hf.elim
     | nest _ _ _ _ _ _=>exact hf.elim
    | loop L =>
     cases o with
     | loop R =>
      have hf:L=R:=hf;subst hf;obtain⟨b,H,hh⟩:=q;exact⟨b,H,by rw[a.w];exact hh⟩
     | itr B E C D A=>exact hf.elim
     | mapo k v l=>exact hf.elim
     | box c st fs=>exact hf.elim
     | arr c p ys=>exact hf.elim
     | frame t fs=>exact hf.elim
     | dfr=>exact hf.elim
     | nest _ _ _ _ _ _=>exact hf.elim
    | dfr =>
     cases o with
     | dfr =>
      obtain⟨b,H,hh⟩:=q;exact⟨b,H,by rw[a.w];exact hh⟩
     | nest _ _ _ _ _ _=>exact hf.elim
     | mapo k v l=>exact hf.elim
     | box c st fs=>exact hf.elim
     | arr c p ys=>exact hf.elim
     | frame t fs=>exact hf.elim
     | loop L=>exact hf.elim
     | itr B E C D A=>exact hf.elim
def CT (objs:List (Nat×Obj)) (ren:List (Nat×Bz)):Bool:=ren.all λp=>(lk p.1 objs).isSome
theorem AC {c:Cx} {σ σ':St} (ren:List (Nat×Bz)) (h1:CB ren=true) (r:CT σ'.objs ren=true) (z:Ab σ.objs ren σ'.objs) (F:FI σ.env ren σ'.env) (hp:A6T c.ds.pin ren=true:=by rfl):zU c σ σ':=by
 rintro a w ⟨ρ,hs⟩
 let ρ':Nat->Value:=λm=>match lk m ren with|some (.nm n)=>ρ n|_=>.slice none 0 0
 have y:∀m n,lk m ren=some (.nm n)->ρ' m=ρ n:=λm n d=>by simp[ρ',d]
 have u:∀m,lk m ren=some .nil->ρ' m=.slice none 0 0:=λm d=>by simp[ρ',d]
 have D:∀m f,lk m ren=some f->Gp σ' m:=λm f d=>by
  simp only[CT,IN]at r;have:=r _ (F3 d);exact ABO.1 this
 have j:∀m b,Gp σ' m->bk (ρ' m) b->∃n,lk m ren=some (.nm n)/\Gp σ n/\bk (ρ n) b:=by
  rintro m b ⟨o,d⟩ e;have hf:=DP z d;cases i:lk m ren with
  | none=>rw[i]at hf;exact hf.elim
  | some f =>
   cases f with
   | nil=>rw[u m i]at e;simp[bk,blk]at e
   | nm n =>
    rw[i]at hf;rw[y m n i]at e;refine⟨n,rfl,?_,e⟩;cases hn:lk n σ.objs with
    | none=>simp only[GZ,hn,H6]at hf
    | some x=>exact⟨x,hn⟩
 have t:MA ren (vw w c.O0 σ ρ) (vw w c.O0 σ' ρ'):=by
  refine⟨rfl,λb e k=>?_,y,u,D⟩;rcases k with h0|⟨m,h,d⟩
  ·exact e (.inl h0)
  ·obtain⟨n,_,hn,g⟩:=j m b h d;exact e (.inr ⟨n,hn,g⟩)
 refine⟨ρ',hs.frm,hs.nt,hs.defers,λp A=>?_,λm o d=>?_,λm b h e=>?_,λm J b h G e k=>?_,λs v I=>?_⟩
 ·obtain⟨L,M,N⟩:=hs.pin p A;simp only[A6T,IN]at hp;have l:=hp p A;unfold A82 at l;split at l
  ·grind
  ·cases l
 ·exact Q2 t hs.objs (DP z d)
 ·obtain⟨n,_,hn,g⟩:=j m b h e;exact hs.free n b hn g
 ·obtain⟨n,B,hn,g⟩:=j m b h e;obtain⟨K,C,H,E⟩:=j J b G k;have:=hs.dist n K b hn H g E;subst this;exact TH h1 B C
 ·have d:=MB F I;cases q:lk s σ.env with
  | none =>
   rw[q]at d;cases v<;>simp only[Kx]at d;exact trivial
  | some x =>
   rw[q]at d;exact M0 t d (hs.env s x q)
end
end
section
open Go
theorem Gz (b:Bool):Qu true (some (.p .bool b))=some b:=by cases b<;>rfl
theorem F5 (b:Bool):Qu false (some (.p .bool b))=some (!b):=by cases b<;>rfl
theorem M2:IntKind.i64.min=-9223372036854775808:=by decide
theorem M3:IntKind.i64.max=9223372036854775807:=by decide
theorem M4:IntKind.u64.min=0:=by decide
theorem M5:IntKind.u64.max=18446744073709551615:=by decide
theorem Q3:IntKind.u8.min=0:=by decide
theorem Q4:IntKind.u8.max=255:=by decide
theorem Ky (n:Int):LW .i64 n↔-9223372036854775808<=n/\n<=9223372036854775807:=by unfold LW;rw[M2,M3]
theorem JG (n:Int):LW .u64 n↔0<=n/\n<=18446744073709551615:=by unfold LW;rw[M4,M5]
theorem UL (n:Int):LW .u8 n↔0<=n/\n<=255:=by unfold LW;rw[Q3,Q4]
theorem PZ {α:Type} (x:α):sub [x] 0 1=[x]:=rfl
theorem H7 {α:Type} (xs:List α) (n:Nat):sub xs 0 n=xs.take n:=by simp[sub]
theorem zY (n:Nat):((n:Int)).toNat=n:=gO n
theorem F6 (n:Nat):(0<=(n:Int))=True:=eq_true (AAp n)
end
section
open Go Go.RowKit
section
variable {tb:Tb} {σ σ':St}
def ZC (σ σ':St):Prop:=∀n o,lk n σ.objs=some o->lk n σ'.objs=some o
theorem zZ (h:ZC σ σ') {e:Ty} {lo hi n:Nat} {d:List e.den} (hs:Qp e lo hi (lk n σ.objs)=some d):Qp e lo hi (lk n σ'.objs)=some d:=by
 cases hn:lk n σ.objs with
 | none=>rw[hn]at hs;simp[Qp]at hs
 | some o=>rw[h n o hn,<-hn];exact hs
theorem u5 (h:ZC σ σ') {e:Ty} {i n:Nat} {d:List e.den} (hs:Qq e i (lk n σ.objs)=some d):Qq e i (lk n σ'.objs)=some d:=by
 cases hn:lk n σ.objs with
 | none=>rw[hn]at hs;simp[Qq]at hs
 | some o=>rw[h n o hn,<-hn];exact hs
theorem Hn (h:ZC σ σ') {l:Bool} {t:Ty} {x:AV} {d:t.den} (hs:Eh l σ t x=some d):Eh l σ' t x=some d:=by
 unfold Eh at hs ⊢;split at hs
 ·exact hs
 ·grind [zZ]
 ·grind [u5]
 ·exact hs
 ·cases hs
theorem XT (h:ZC σ σ') {l:Bool}:∀ {fs:List AV} {t:Ty} {d:t.den},Kd l σ fs t=some d->Kd l σ' fs t=some d
 | [],t,d,hs=>by simp[Kd]at hs
 | [x],t,d,hs=>by grind [Kd,Hn]
 | x :: y :: r,t,d,hs=>by
  cases t<;>simp only[Kd]at hs ⊢<;>try(cases hs;done)
  rename_i a b;cases h1:Eh l σ a x with
  | none=>rw[h1]at hs;simp[Lv]at hs
  | some e =>
   cases c:Kd l σ (y :: r) b with
   | none=>rw[h1,c]at hs;simp[Lv]at hs
   | some f =>
    rw[Hn h h1,XT h c];rw[h1,c]at hs;exact hs
theorem FJ (h:ZC σ σ') {l:Bool} {t:Ty} {x:AV} {d:t.den} (hs:LX l σ t x=some d):LX l σ' t x=some d:=by
 unfold LX at hs ⊢;split at hs
 ·exact XT h hs
 ·exact Hn h hs
def Ops (σ σ':St) (xs:List Operand):Prop:=∀x∈xs,∀v,Ah σ x=some v->Ah σ' x=some v
theorem MC (h:ZC σ σ') {e:Ty} {x:AV} {d:List e.den} (hs:Ox σ e x=some d):Ox σ' e x=some d:=by
 unfold Ox at hs ⊢;split at hs
 ·rename_i n a lo hi;cases hn:lk n σ.objs with
  | none =>
   rw[hn]at hs;have hs:Eh true σ (.slice e) (.sr n a lo hi)=some d:=by simpa[Cq,LX] using hs
   simp only[Eh,hn]at hs;split at hs<;>simp[Qp]at hs
  | some o =>
   rw[h n o hn];rw[hn]at hs;split at hs
   ·cases hs
   ·grind [FJ]
 ·exact FJ h hs
theorem UM (h:ZC σ σ') {l:Bool}:∀ {ts:List Ty} {xs:List Operand} {ds:Kb ts},Ops σ σ' xs->GJ l σ ts xs=some ds->GJ l σ' ts xs=some ds
 | [],[],ds,_,hs=>hs
 | [],_ :: _,ds,_,hs=>by simp[GJ]at hs
 | _ :: _,[],ds,_,hs=>by simp[GJ]at hs
 | t :: ts,x :: xs,ds,b,hs=>by
  simp only[GJ]at hs ⊢;cases a:Ah σ x with
  | none=>rw[a]at hs;cases hs
  | some v =>
   rw[b x (by simp) v a];rw[a]at hs;simp only at hs ⊢;split at hs
   ·rename_i y ys c d;rw[FJ h c,UM h (λz e=>b z (by simp[e])) d];exact hs
   ·cases hs
theorem SP (h:ZC σ σ') {e:Ty}:∀ {parts:List (Nat×Operand)} {k:Nat} {xs:List e.den},Ops σ σ' (parts.map (·.2))->E8 σ e k parts=some xs->E8 σ' e k parts=some xs
 | [],k,xs,_,hs=>hs
 | (i,x) :: r,k,xs,b,hs=>by
  simp only[E8]at hs ⊢;split at hs
  ·rename_i d;rw[BY d];cases a:Ah σ x with
   | none=>rw[a]at hs;cases hs
   | some v =>
    rw[b x (by simp) v a];rw[a]at hs;simp only at hs ⊢;split at hs
    ·rename_i y ys f g;rw[FJ h f,SP h (λz c=>b z (by simp at c ⊢;exact .inr c)) g];exact hs
    ·cases hs
  ·cases hs
theorem bN (h:ZC σ σ') {z:Option AV} {x:Operand} {v:AV} (d:∀v,Ah σ x=some v->Ah σ' x=some v) (hs:Fy σ z (Ah σ x)=some v):Fy σ' z (Ah σ' x)=some v:=by
 cases b:Ah σ x with
 | none=>rw[b]at hs;unfold Fy at hs;split at hs<;>simp at *
 | some a =>
  rw[d a b];rw[b]at hs;unfold Fy at hs ⊢;split at hs
  ·rename_i t _ l c;cases c;simp only[OR]at hs ⊢;grind [FJ]
  ·exact hs
theorem Pa (h:ZC σ σ') {offs:List (Nat×Nat)}:∀ {parts:List (Nat×Operand)} {fs a:List AV},Ops σ σ' (parts.map (·.2))->Dy σ offs fs parts=some a->Dy σ' offs fs parts=some a
 | [],fs,a,_,hs=>hs
 | (i,x) :: r,fs,a,c,hs=>by
  simp only[Dy]at hs ⊢;cases b:Fy σ fs[i]? (Ah σ x) with
  | none=>rw[b]at hs;cases hs
  | some v =>
   rw[bN h (c x (by simp)) b];rw[b]at hs;simp only at hs ⊢;split at hs
   ·rename_i e;rw[BY e];exact Pa h (λz d=>c z (by simp at d ⊢;exact .inr d)) hs
   ·cases hs
theorem UN:∀ {xs:List Operand} {ns:List Nat},Ops σ σ' xs->Hu σ xs=some ns->Hu σ' xs=some ns
 | [],ns,_,hs=>hs
 | x :: r,ns,a,hs=>by
  simp only[Hu]at hs ⊢;split at hs
  ·rename_i n d h1 b;rw[a x (by simp) _ h1,UN (λz c=>a z (by simp[c])) b];exact hs
  ·cases hs
theorem TJ (h:ZC σ σ') {d:Nat} {op:Op} {r:Prop×AV×List (Nat×Obj)} (p:Ops σ σ' op.operands.toList) (hs:aq tb σ d op=some r):aq tb σ' d op=some r:=by
 have one:∀ {x:Operand} {f:Option AV->BZ},x∈op.operands.toList->f none=none->f (Ah σ x)=some r->f (Ah σ' x)=some r:=by
  intro x f j hn hf;cases q:Ah σ x with
  | none=>rw[q,hn]at hf;cases hf
  | some v=>rw[p x j v q,<-q];exact hf
 have J:∀ {x y:Operand} {f:Option AV->Option AV->BZ},x∈op.operands.toList->y∈op.operands.toList->(∀b,f none b=none)->(∀a,f a none=none)->f (Ah σ x) (Ah σ y)=some r->f (Ah σ' x) (Ah σ' y)=some r:=by
  intro x y f j C h1 F hf;cases q:Ah σ x with
  | none=>rw[q,h1]at hf;cases hf
  | some v =>
   cases H:Ah σ y with
   | none=>rw[H,F]at hf;cases hf
   | some w=>rw[p x j v q,p y C w H,<-q,<-H];exact hf
 cases op<;>simp only[aq]at hs ⊢<;>try(cases hs;done)
 case move x=>exact one (f:=Gx) (by simp[Op.operands]) rfl hs
 case assign x=>exact one (f:=Gx) (by simp[Op.operands]) rfl hs
 case pick c x y =>
  cases D:Ah σ c with
  | none=>rw[D]at hs;simp[LY]at hs
  | some Y =>
   have Z:=p c (by simp[Op.operands]) Y D;rw[D]at hs;rw[Z];unfold LY at hs ⊢;split at hs
   ·rename_i E;cases E;exact one (f:=Gx) (by simp[Op.operands]) rfl hs
   ·rename_i E;cases E;exact one (f:=Gx) (by simp[Op.operands]) rfl hs
   ·cases hs
 case alloc t=>exact hs
 case box t x=>exact one (f:=Sy d t (lk t tb.ty)) (by simp[Op.operands]) (by cases lk t tb.ty<;>simp[Sy]) hs
 case build t parts =>
  unfold JY at hs ⊢;split at hs
  ·rename_i u offs el b E;cases hp:Dy σ offs (uN u) parts.toList with
   | none=>rw[hp]at hs;simp[Gx]at hs
   | some fs =>
    rw[Pa h (by simpa[Op.operands] using p) hp];rw[hp]at hs;exact hs
  ·cases hs
 case buildSlice t n parts =>
  cases T:lk d tb.nests with
  | some ak =>
   rw[T]at hs;simp only[Gm]at hs ⊢;unfold Ja at hs ⊢;split at hs
   ·rename_i x am offs el b hp E;cases j:Ah σ x with
    | none=>rw[j]at hs;unfold JZ at hs;split at hs<;>first|(cases hs;done)|(rename_i F;cases F)
    | some av =>
     rw[p x (by simp[Op.operands,hp]) av j];rw[j]at hs;unfold JZ at hs ⊢;split at hs
     ·rename_i k e ap ar aj;unfold Kg at hs;split at hs
      ·rename_i a0 N;rw[Hn h N];exact hs
      ·rename_i a0 ai l N;split at hs
       ·rename_i P;rw[Hn h N];simp only[Kg,P,ABi];exact hs
       ·cases hs
      ·cases hs
     ·cases hs
   ·cases hs
  | none =>
  rw[T]at hs;simp only[Gm]at hs ⊢;unfold Bd at hs ⊢;split at hs
  ·rename_i e offs el b E;cases hp:E8 σ e 0 parts.toList with
   | none=>rw[hp]at hs;simp[Bk]at hs
   | some xs =>
    rw[SP h (by simpa[Op.operands] using p) hp];rw[hp]at hs;exact hs
  ·cases hs
 case load t x =>
  cases j:Ah σ x with
  | none=>rw[j]at hs;simp[Jy]at hs
  | some v =>
   rw[p x (by simp[Op.operands]) v j];rw[j]at hs;unfold Jy at hs ⊢;split at hs
   ·rename_i ti n ag off M G;cases hn:lk n σ.objs with
    | none=>rw[hn]at hs;simp[Ek]at hs
    | some o=>rw[h n o hn,<-hn];exact hs
   ·rename_i ti n e i ag off M G;cases hn:lk n σ.objs with
    | none=>rw[hn]at hs;simp[El]at hs
    | some o=>rw[h n o hn,<-hn];exact hs
   ·exact hs
   ·cases hs
 case nilCheck x=>exact one (f:=Tu) (by simp[Op.operands]) (by simp[Tu]) hs
 case binOp op t x y al=>exact J (f:=Qr op (lk t tb.ty)) (by simp[Op.operands]) (by simp[Op.operands]) (λb=>by simp[Qr]) (λa=>by cases a<;>simp[Qr]) hs
 case unOp op t x=>exact one (f:=y3 op) (by simp[Op.operands]) (by cases op<;>simp[y3]) hs
 case convert s t x=>exact one (f:=Jz (lk s tb.ty) (lk t tb.ty)) (by simp[Op.operands]) (by cases lk s tb.ty<;>cases lk t tb.ty<;>simp[Jz]) hs
 case makeSlice t l c=>exact J (f:=I7 tb d (lk t tb.ty)) (by simp[Op.operands]) (by simp[Op.operands]) (λb=>by cases lk t tb.ty<;>simp[I7]) (λa=>by cases lk t tb.ty<;>simp[I7]) hs
 case slice t x lo hi af =>
  cases af with
  | some m =>
   cases lo with
   | some _=>cases hi<;>simp[aq]at hs
   | none =>
    cases hi with
    | none=>simp[aq]at hs
    | some h1 =>
     simp only[aq]at hs ⊢;cases j:Ah σ x with
     | none=>rw[j]at hs;cases A:lk t tb.ty<;>rw[A]at hs<;>simp[Dz]at hs
     | some v =>
      cases hh:Ah σ h1 with
      | none=>rw[j,hh]at hs;cases A:lk t tb.ty<;>rw[A]at hs<;>simp[Dz]at hs
      | some q =>
       cases S:Ah σ m with
       | none=>rw[j,hh,S]at hs;cases A:lk t tb.ty<;>rw[A]at hs<;>simp[Dz]at hs
       | some ae =>
        rw[p x (by simp[Op.operands]) v j,p h1 (by simp[Op.operands]) q hh,p m (by simp[Op.operands]) ae S];rw[j,hh,S]at hs;exact hs
  | none =>
   simp only[aq]at hs ⊢;have W:∀ {y:Option Operand},(∀z,y=some z->z∈(Op.slice t x lo hi none).operands.toList)->∀w,Gw σ y=some w->Gw σ' y=some w:=by
    intro y C w H;cases y with
    | none=>exact H
    | some z =>
     simp only[Gw,OR]at H ⊢;obtain⟨v,q,rfl⟩:=H;exact⟨v,p z (C z rfl) v q,rfl⟩
   cases j:Ah σ x with
   | none=>rw[j]at hs;cases A:lk t tb.ty<;>rw[A]at hs<;>simp[K1]at hs
   | some v =>
    cases h1:Gw σ lo with
    | none=>rw[h1]at hs;cases A:lk t tb.ty<;>rw[A]at hs<;>simp[K1]at hs
    | some a =>
     cases F:Gw σ hi with
     | none=>rw[F]at hs;cases A:lk t tb.ty<;>rw[A]at hs<;>simp[K1]at hs
     | some b =>
      rw[p x (by simp[Op.operands]) v j,W (by rintro z rfl;simp[Op.operands]) a h1,W (by rintro z rfl;simp[Op.operands]) b F];rw[j,h1,F]at hs;exact hs
 case fieldAddr s x f=>exact one (f:=HJ f (lk s tb.ty)) (by simp[Op.operands]) (by cases lk s tb.ty<;>simp[HJ]) hs
 case indexAddr t x i=>exact J (f:=Fz (lk t tb.ty)) (by simp[Op.operands]) (by simp[Op.operands]) (λb=>by cases lk t tb.ty<;>simp[Fz]) (λa=>by cases lk t tb.ty<;>simp[Fz]) hs
 case index t x i=>exact J (f:=Ec (lk t tb.ty)) (by simp[Op.operands]) (by simp[Op.operands]) (λb=>by cases lk t tb.ty<;>simp[Ec]) (λa=>by cases lk t tb.ty<;>simp[Ec]) hs
 case extract x i=>exact one (f:=Em i) (by simp[Op.operands]) (by simp[Em]) hs
 case makeFunc fn first X =>
  unfold Yu at hs ⊢;split at hs
  ·rename_i f hf;cases D:Hu σ X.toList with
   | none=>rw[D]at hs;simp[O2]at hs
   | some ns =>
    rw[UN (λz I=>p z (by simp[Op.operands]at I ⊢;exact .inr I)) D];rw[D]at hs;exact hs
  ·cases hs
 case makeMap t res =>
  cases res with
  | some z=>simp[aq]at hs
  | none=>simp only[aq]at hs ⊢;exact hs
 case lookup t x i ok =>
  cases j:Ah σ x with
  | none=>rw[j]at hs;simp[I9]at hs
  | some xv =>
   cases hi:Ah σ i with
   | none=>rw[j,hi]at hs;simp[I9]at hs
   | some V =>
    rw[p x (by simp[Op.operands]) xv j,p i (by simp[Op.operands]) V hi];rw[j,hi]at hs;unfold I9 at hs ⊢;split at hs
    ·rename_i k e _ _ n z M G ab;cases G;cases ab;cases hn:lk n σ.objs with
     | none=>rw[hn]at hs;simp[Hv]at hs
     | some o =>
      rw[hn]at hs;rw[h n o hn];unfold Hv at hs ⊢;split at hs
      ·rename_i ad ao l p;cases p;split at hs
       ·rename_i D;rw[BY D];cases hk:LX false σ ad V with
        | none=>rw[hk]at hs;simp[Kk]at hs
        | some kd=>rw[FJ h hk];rw[hk]at hs;exact hs
       ·cases hs
      ·cases hs
    ·cases hs
 case call c =>
  obtain⟨callee,args,argTypes⟩:=c;have B:∀x∈args.toList,x∈(Op.call ⟨callee,args,argTypes⟩).operands.toList:=λx j=>by
   have:x∈args:=by simpa using j
   cases callee<;>simp[Op.operands,Call.operands,this]
  cases callee with
  | invoke r m=>simp[DA]at hs
  | value g =>
   simp only[DA]at hs ⊢;cases Q:Ah σ g with
   | none=>rw[Q]at hs;simp[Lx]at hs
   | some aa =>
    rw[p g (by simp[Op.operands,Call.operands]) aa Q];rw[Q]at hs;unfold Lx at hs ⊢;split at hs
    ·rename_i f E;cases U:lk f tb.fns with
     | none=>rw[U]at hs;simp[Jc]at hs
     | some sp =>
      rw[U]at hs;simp only[Jc]at hs ⊢;cases O:GJ sp.lend σ sp.ins args.toList with
      | none=>rw[O]at hs;simp[Kj]at hs
      | some ds =>
       rw[UM h (λx j=>p x (B x j)) O];rw[O]at hs;exact hs
    ·cases hs
  | builtin b =>
   simp only[DA]at hs ⊢;obtain⟨args⟩:=args;obtain⟨argTypes⟩:=argTypes;simp only at hs B ⊢;unfold DL at hs ⊢;split at hs
   ·exact one (f:=Sz (lk _ tb.ty)) (B _ (by simp)) (by cases lk _ tb.ty<;>simp[Sz]) hs
   ·rename_i x y t u;cases j:Ah σ x with
    | none=>rw[j]at hs;simp[Ck]at hs
    | some xv =>
     cases C:Ah σ y with
     | none=>rw[j,C]at hs;simp[Ck]at hs
     | some L =>
      rw[p x (B _ (by simp)) xv j,p y (B _ (by simp)) L C];rw[j,C]at hs;unfold Ck at hs ⊢;split at hs
      ·split at hs
       ·rename_i K;simp only[K,ABi];rename_i M G;cases G;rw[K]at hs;cases A:lk u tb.ty with
        | none=>rw[A]at hs;simp[Eo]at hs
        | some ti =>
         rw[A]at hs;unfold Eo at hs ⊢;split at hs
         ·rename_i e offs el b E;cases q:Ox σ e L with
          | none=>rw[q]at hs;cases R:lk el tb.ty<;>rw[R]at hs<;>simp[FC]at hs
          | some ys =>
           rw[q]at hs;rw[MC h q];exact hs
         ·cases hs
       ·cases hs
      ·split at hs
       ·rename_i K;simp only[K,ABi];rename_i M G;cases G;rw[K]at hs;cases A:lk u tb.ty with
        | none=>rw[A]at hs;simp[Jb]at hs
        | some ti =>
         rw[A]at hs;unfold Jb at hs ⊢;split at hs
         ·rename_i e offs el b E;split at hs
          ·rename_i P;simp only[P,ABi];cases q:Ox σ _ L with
           | none=>rw[q]at hs;cases R:lk el tb.ty<;>rw[R]at hs<;>simp[Ki]at hs
           | some ys =>
            rw[q]at hs;rw[MC h q];exact hs
          ·cases hs
         ·cases hs
       ·cases hs
      ·cases hs
   ·exact J (f:=Qs) (B _ (by simp)) (B _ (by simp)) (λb=>by simp[Qs]) (λa=>by cases a<;>simp[Qs]) hs
   ·exact J (f:=Qt) (B _ (by simp)) (B _ (by simp)) (λb=>by simp[Qt]) (λa=>by cases a<;>simp[Qt]) hs
   ·rename_i x y z t u an;cases j:Ah σ x with
    | none=>rw[j]at hs;simp[I8]at hs
    | some xv =>
     cases C:Ah σ y with
     | none=>rw[j,C]at hs;simp[I8]at hs
     | some L =>
      cases I:Ah σ z with
      | none=>rw[j,C,I]at hs;simp[I8]at hs
      | some ah =>
       rw[p x (B _ (by simp)) xv j,p y (B _ (by simp)) L C,p z (B _ (by simp)) ah I,<-j,<-C,<-I];exact hs
   ·cases hs
end
end
end Go.Proofs.YtdapahgnpbehbaaGreat.Fw
