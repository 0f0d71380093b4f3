/- One operation, a sequence, loops, the entry and the end of a function: the rules. -/
import Derived.Test.YtddbnflakbngaaaGreatDoorFZD
import Derived.Deep.LoopGhost
import Derived.ControlIn
set_option linter.unusedVariables false
set_option linter.unusedSimpArgs false
namespace Go.Proofs.YtddbnflakbngaaaGreatDoor.Fw
variable {j n:Nat} {x y:Code} {Q:Exit->Act->World->Prop} {Z O:St} {a:Act} {w:World} {v P:AV} {Y:Act->World->Prop} {X:ResultVar} {W:Value} {o:Operand} {V:Oper} {U:Array Oper} {b:Bool} {T:Type} {S:Nat->Value} {R:Func} {N:Prop}
section
open Go Go.RowKit
abbrev ADS:=@Go.wpIn_region_list
abbrev AEQ:=@Go.wpIn_mono
structure Cx where
 P:Program
 tb:Tb
 w0:World
 K:Nat->Prop
 O0:Nat->Prop
 nt:Nat
 
 ds:Fp:={}
 
 r:Option Nat:=none
structure Cx.Ok (c:Cx):Prop where
 K:∀b,c.K b->b<c.w0.heap.size
 O:∀b,c.O0 b->b<c.w0.heap.size
 T:DI c.P c.tb
 F:JM c.P c.tb
 G:GW c.w0 c.K c.O0
def Cx.sat (c:Cx) (σ:St) (a:Act) (w:World):Prop:=∃ρ,CG c.w0 c.K c.O0 c.nt c.ds σ ρ a w
section
variable {c:Cx}
theorem w6 (hc:c.Ok) {σ:St} {ρ:Nat->Value} (h:CG c.w0 c.K c.O0 c.nt c.ds σ ρ a w):AAK c.P c.tb w c.O0 σ ρ a where
 hT:=hc.T
 hF:=hc.F
 hG:=hc.G.mono (λb hk ho=>⟨ACb (hc.K b hk) h.frm.size,λhb=>by
  rcases hb with h0|⟨n,hn,hb⟩
  .exact ho h0
  exact(h.free n b hn hb).1 hk⟩) h.frm.block
 obj:=h.objs
 own:=by
  intro b hb;rcases hb with h0|⟨n,⟨o,ho⟩,hb⟩
  .exact ACb (hc.O b h0) h.frm.size
  exact(h.objs n o ho).block_lt hb
 ev:=Cp h.env
theorem A0T (e:c.Ok) {σ σ':St} {ρ:Nat->Value} (hs:CG c.w0 c.K c.O0 c.nt c.ds σ ρ a w) {o:Oper} (h:Fs c.tb σ o.dst o.op=some (N,σ')) (k:N) (j:∀d,o.dst=some d->d<c.nt)
  {next:Act->World->Prop} (hn:∀i w',c.sat σ' i w'->next i w'):o.wpIn (FR c.r) 0 c.P a w next Q:=by
 obtain⟨dst,op,type,pos,after,guard⟩:=o;simp only at h j;cases op<;>simp only[Fs]at h<;>try(cases h;done)
 case store t x y =>
  cases dst with
  | some d=>simp[D4]at h
  | none =>
   simp only[D4]at h;obtain⟨w',ρ',h1,f⟩:=mH (P:=c.P) hs e.K e.O e.T h k;exact q9 (w':=w') (by simp[execOp,h1]) (hn _ _ ⟨ρ',f⟩)
 case mapUpdate t m x y =>
  cases dst with
  | some d=>simp[D4]at h
  | none =>
   simp only[D4]at h;obtain⟨w',h1,f⟩:=w5 (P:=c.P) hs e.K e.T h;exact q9 (w':=w') (by simp[execOp,h1]) (hn _ _ ⟨ρ,f⟩)
 case call cl =>
  obtain⟨callee,args,argTypes⟩:=cl;cases callee with
  | value g=>simp[DW]at h
  | invoke r m=>simp[DW]at h
  | builtin b =>
   simp only[DW]at h;obtain⟨args⟩:=args;obtain⟨argTypes⟩:=argTypes;simp only at h;unfold Du at h;split at h
   .rename_i x y t u;obtain⟨z,w',ρ',h1,f⟩:=mG (P:=c.P) (ty:=type) hs e.K e.O e.T j h k;exact Aj (u:=z) (w':=w') (by simp[execOp,resolve,invoke,builtin,h1]) (hn _ _ ⟨ρ',f⟩)
   cases h
theorem QJ (b:c.Ok) {σ σ':St} (hs:c.sat σ a w) {o:Oper} (h:GY c.tb o σ=some (N,σ')) (i:N) (g:∀d,o.dst=some d->d<c.nt)
  {next:Act->World->Prop} (hn:∀f w',c.sat σ' f w'->next f w'):o.wpIn (FR c.r) 0 c.P a w next Q:=by
 obtain⟨ρ,hs⟩:=hs;have hs:=K9 (l:=Ca σ o.op) hs;unfold GY P7 at h;generalize Cz (Ca σ o.op) σ=k at h hs;cases e:aq c.tb k (o.dst.getD 0) o.op with
 | some r =>
  obtain⟨m,v,obs⟩:=r;rw[e]at h;simp only[Lt]at h;split at h
  .rename_i hf;cases h;exact qX (w6 b hs) e i hf λu ρ' w' j=>hn _ _ ⟨ρ',hs.add b.K b.O g hf j⟩
  cases h
 | none =>
  rw[e]at h;exact A0T b hs h i g hn
theorem Hw {ops:Array Oper} {σ:St} (hs:c.sat σ a w) {o:Oper} (h:E5 ops.toList σ o.guard=some b):Region.wanted o (yielded ops a.tmps)=b:=by
 obtain⟨ρ,hs⟩:=hs;unfold E5 at h;split at h
 .rename_i e;cases h;simp[Region.wanted,e]
 rename_i j q e;cases f:(ops.toList[j]?).bind (·.dst) with
 | none=>rw[f]at h;simp[K3]at h
 | some g =>
  rw[f]at h;simp only[K3]at h;cases i:lk g σ.env with
  | none=>rw[i]at h;simp[Rv]at h
  | some v =>
   rw[i]at h;unfold Rv at h;split at h
   .rename_i l m;cases m;cases h;have d:=hs.env g _ i;have d:=EX d;have p:(ops[j]?).bind (·.dst)=some g:=by simpa using f
    have n:a.tmps[g]?=some (.bool l):=by
     by_cases k:g<a.tmps.size
     .have:a.tmps.getD g undef=a.tmps[g]:=by simp[Array.getD,k]
      rw[this]at d;rw[AC1 k,d]
     have:a.tmps.getD g undef=undef:=by simp[Array.getD,k]
     rw[this]at d;cases d
    simp only[Region.wanted,e,yielded,p,Option.bind_some,n];cases l<;>cases q<;>rfl
   cases h
theorem Ni {σ:St} (b:c.Ok) (hs:c.sat σ a w) {dst:Option Nat} (e:∀d,dst=some d->d<c.nt):c.sat (σ.add (.raw undef) [] dst) (a.put dst undef) w:=by
 obtain⟨ρ,hs⟩:=hs;exact⟨ρ,hs.add b.K b.O e (by simp[Bp]) (QS.still rfl)⟩
def KH (nt:Nat) (o:Oper):Bool :=
 match o.dst with
 | some d=>decide (d<nt)
 | none=>true
theorem BA {nt:Nat} {o:Oper} (h:KH nt o=true):∀d,o.dst=some d->d<nt:=by grind [KH]
theorem R2 (d:c.Ok) {ops:Array Oper} {Q:Exit->Act->World->Prop} {r:List Oper}:∀(l:List Oper) {σ σ':St} {vc:Prop} {a:Act} {w:World},c.sat σ a w->(∀o∈l,KH c.nt o=true)->B7 c.tb ops.toList l σ=some (vc,σ')->vc ->
  (∀g w',c.sat σ' g w'->wpListIn (FR c.r) 0 c.P ops Q r g w')->wpListIn (FR c.r) 0 c.P ops Q (l++r) a w
 | [],σ,σ',vc,a,w,hs,e,h,f,i=>by grind [B7]
 | o :: l,σ,σ',vc,a,w,hs,e,h,f,i=>by
  simp only[B7]at h;cases j:E5 ops.toList σ o.guard with
  | none=>rw[j]at h;simp[evG]at h
  | some b =>
   rw[j]at h;have s:=Hw hs j;have q:=BA (e o sc);rw[To];unfold wpListIn;cases b with
   | true =>
    simp only[evG]at h;rw[At s];cases n:GY c.tb o σ with
    | none=>rw[n]at h;simp[evK]at h
    | some r =>
     obtain⟨x,v⟩:=r;rw[n]at h;simp only[evK]at h;cases m:B7 c.tb ops.toList l v with
     | none=>rw[m]at h;simp[Xh]at h
     | some u =>
      obtain⟨y,σ2⟩:=u;rw[m]at h;simp only[Xh]at h;cases h;exact QJ d hs n f.1 q λg w' t=>R2 d l t (λp k=>e p (by simp[k])) m f.2 i
   | false =>
    simp only[evG]at h;rw[As (by simp[s])];refine⟨λ_ _=>trivial,?_⟩;exact R2 d l (Ni d hs q) (λp k=>e p (by simp[k])) h f i
theorem QK (e:c.Ok) {ops:Array Oper} {Q:Exit->Act->World->Prop}:∀(l:List Oper) {σ σ':St} {vc:Prop} {a:Act} {w:World},c.sat σ a w->(∀o∈l,KH c.nt o=true)->B7 c.tb ops.toList l σ=some (vc,σ')->vc ->
  (∀i w',c.sat σ' i w'->Q .normal i w')->wpListIn (FR c.r) 0 c.P ops Q l a w
 | [],σ,σ',vc,a,w,hs,f,h,g,d=>by
  simp only[B7]at h;cases h;exact d _ _ hs
 | o :: l,σ,σ',vc,a,w,hs,f,h,g,d=>by
  simp only[B7]at h;cases j:E5 ops.toList σ o.guard with
  | none=>rw[j]at h;simp[evG]at h
  | some b =>
   rw[j]at h;have s:=Hw hs j;have q:=BA (f o sc);unfold wpListIn;cases b with
   | true =>
    simp only[evG]at h;rw[At s];cases n:GY c.tb o σ with
    | none=>rw[n]at h;simp[evK]at h
    | some r =>
     obtain⟨x,v⟩:=r;rw[n]at h;simp only[evK]at h;cases m:B7 c.tb ops.toList l v with
     | none=>rw[m]at h;simp[Xh]at h
     | some u =>
      obtain⟨y,σ2⟩:=u;rw[m]at h;simp only[Xh]at h;cases h;exact QJ e hs n g.1 q λi w' t=>QK e l t (λp k=>f p (by simp[k])) m g.2 d
   | false =>
    simp only[evG]at h;rw[As (by simp[s])];refine⟨λ_ _=>trivial,?_⟩;exact QK e l (Ni e hs q) (λp k=>f p (by simp[k])) h g d
end
end
section
open Go Go.RowKit
inductive Cq where
 | seq (c:Code)
 | blk (id:Nat)
 
 | inv (post:St->Prop)
def B4 (nt:Nat):Code->Bool
 | .region _ ops _=>ops.toList.all (KH nt)
 | .seq a b=>B4 nt a&&B4 nt b
 | .cond _ a b=>B4 nt a&&B4 nt b
 | .block _ b=>B4 nt b
 | .loop b=>B4 nt b
 | .scope b=>B4 nt b
 | _=>true
def DD (nt:Nat):List Cq->Bool
 | []=>true
 | .seq c :: k=>B4 nt c&&DD nt k
 | _ :: k=>DD nt k
def UZ (c:Cx) (R:Exit->Act->World->Prop):List Cq->Exit->Act->World->Prop
 | [],e,a,w=>R e a w
 | .seq y :: k,.normal,a,w=>y.wpIn (FR c.r) 0 c.P (UZ c R k) a w
 | .seq _ :: k,e,a,w=>UZ c R k e a w
 | .blk id :: k,.exit b,a,w=>if b=id then UZ c R k .normal a w else UZ c R k (.exit b) a w
 | .blk _ :: k,e,a,w=>UZ c R k e a w
 | .inv post :: _,.normal,a,w=>∃σ,c.sat σ a w/\post σ
 | .inv _ :: k,e,a,w=>UZ c R k e a w
inductive rB where
 | run (cd:Code)
 | out (e:Exit)
def nwp (c:Cx) (R:Exit->Act->World->Prop) (k:List Cq):rB->Act->World->Prop
 | .run cd,a,w=>cd.wpIn (FR c.r) 0 c.P (UZ c R k) a w
 | .out e,a,w=>UZ c R k e a w
def IM (nt:Nat):rB->Bool
 | .run cd=>B4 nt cd
 | .out _=>true
def Ev (c:Cx) (R:Exit->Act->World->Prop) (n:rB) (k:List Cq) (σ:St):Prop :=
 IM c.nt n=true->DD c.nt k=true->∀a w,c.sat σ a w->nwp c R k n a w
theorem UD {F:Fence} {P:Program} {c:Code} (b:Nat->Act->World->Prop) (i:Nat) (o:b i a w)
  (round:∀n a w,b n a w->c.wpIn F j P (Exit.then (λg w'=>∃f,f<n/\b f g w') Q) a w):(Code.loop c).wpIn F j P Q a w:=by
 refine wpIn_loop (λa w=>∃n,b n a w) (λa w=>leastOf (λn=>b n a w)) ⟨i,o⟩ ?_;intro a w k;refine AEQ (round _ a w (leastOf_spec k).1) ?_;intro e g w' d;cases e with
 | normal =>
  obtain⟨f,m,h⟩:=d;exact show (∃n,b n g w')/\leastOf (λn=>b n g w')<leastOf (λn=>b n a w) from ⟨⟨f,h⟩,AEq ((leastOf_spec ⟨f,h⟩).2 f h) m⟩
 | exit id=>exact d
 | goto l=>exact d
 | ret=>exact d
 | panic ch=>exact d
 | outgrown=>exact d
def Ent (c:Cx) (σ σ':St):Prop:=∀a w,c.sat σ a w->c.sat σ' a w
section
variable {c:Cx} {R:Exit->Act->World->Prop} {k:List Cq} {σ σ':St}
theorem Ev.ent {n:rB} (h:Ev c R n k σ') (d:Ent c σ σ'):Ev c R n k σ:=λh1 b a w hs=>h h1 b a w (d a w hs)
theorem A8O (h:Ev c R (.run x) (.seq y :: k) σ):Ev c R (.run (.seq x y)) k σ:=by
 intro h1 b a w hs;simp only[IM,B4,An]at h1;refine wpIn_seq (AEQ (h h1.1 (by simp[DD,h1.2,b]) a w hs) ?_);intro e f w' d;cases e<;>exact d
theorem A58 (h:Ev c R (.out .normal) k σ):Ev c R (.run .skip) k σ:=λ_ b a w hs=>wpIn_skip (h rfl b a w hs)
theorem A8P (h:Ev c R (.out .ret) k σ):Ev c R (.run .ret) k σ:=λ_ b a w hs=>wpIn_ret (h rfl b a w hs)
theorem A59 (h:Ev c R (.out (.exit j)) k σ):Ev c R (.run (.exit j)) k σ:=λ_ b a w hs=>wpIn_exit (h rfl b a w hs)
theorem A0U {b:Code} (h:Ev c R (.run b) (.blk j :: k) σ):Ev c R (.run (.block j b)) k σ:=by
 intro h1 d a w hs;refine wpIn_block (AEQ (h (by simpa[IM,B4] using h1) (by simpa[DD] using d) a w hs) ?_);intro e g w' f;cases e<;>exact f
def EvR (c:Cx) (R:Exit->Act->World->Prop) (k:List Cq):DF->Prop
 | some (vc,σ)=>vc/\Ev c R (.out .normal) k σ
 | none=>False
theorem w7 (f:c.Ok) {ops:Array Oper} (h:EvR c R k (B7 c.tb ops.toList ops.toList σ)):Ev c R (.run (.region j ops false)) k σ:=by
 intro h1 e a w hs;cases b:B7 c.tb ops.toList ops.toList σ with
 | none=>rw[b]at h;exact h.elim
 | some r =>
  obtain⟨vc,σ'⟩:=r;rw[b]at h;simp only[IM,B4,OF]at h1;exact ADS (QK f ops.toList hs h1 b h.1 λd w' g=>h.2 rfl e d w' g)
def EvC (c:Cx) (R:Exit->Act->World->Prop) (x y:Code) (k:List Cq) (σ:St):Option AV->Prop
 | some (.p .bool b)=>(b=true->Ev c R (.run x) k σ)/\(b=false->Ev c R (.run y) k σ)
 | _=>False
theorem A5a (h:EvC c R x y k σ (Al σ o)):Ev c R (.run (.cond o x y)) k σ:=by
 intro h1 g a w hs;simp only[IM,B4,An]at h1;obtain⟨ρ,f⟩:=hs;have j:=Cp f.env;cases e:Al σ o with
 | none=>rw[e]at h;exact h.elim
 | some v =>
  have l:=j o v e;rw[e]at h;unfold EvC at h;split at h
  .rename_i b i;cases i;have d:=EX l;exact wpIn_cond_split d (λd=>h.1 d h1.1 g a w ⟨ρ,f⟩) (λd=>h.2 d h1.2 g a w ⟨ρ,f⟩)
  exact h.elim
theorem VV {y:Code} (h:Ev c R (.run y) k σ):Ev c R (.out .normal) (.seq y :: k) σ:=by
 intro _ b a w hs;simp only[DD,An]at b;exact h b.1 b.2 a w hs
theorem fO {y:Code} (h:Ev c R (.out (.exit j)) k σ):Ev c R (.out (.exit j)) (.seq y :: k) σ:=by
 intro _ b a w hs;simp only[DD,An]at b;exact h rfl b.2 a w hs
theorem mI {y:Code} (h:Ev c R (.out .ret) k σ):Ev c R (.out .ret) (.seq y :: k) σ:=by
 intro _ b a w hs;simp only[DD,An]at b;exact h rfl b.2 a w hs
theorem mJ (h:Ev c R (.out .normal) k σ):Ev c R (.out .normal) (.blk j :: k) σ:=λ_ b a w hs=>h rfl (by simpa[DD] using b) a w hs
theorem TR {b:Nat} (h:if b=j then Ev c R (.out .normal) k σ else Ev c R (.out (.exit b)) k σ):Ev c R (.out (.exit b)) (.blk j :: k) σ:=by
 intro _ d a w hs;have d:DD c.nt k=true:=by simpa[DD] using d
 show (if b=j then UZ c R k .normal a w else UZ c R k (.exit b) a w);split at h
 .rename_i e;rw[At e];exact h rfl d a w hs
 rename_i e;rw[As e];exact h rfl d a w hs
theorem mK (h:Ev c R (.out .ret) k σ):Ev c R (.out .ret) (.blk j :: k) σ:=λ_ b a w hs=>h rfl (by simpa[DD] using b) a w hs
theorem AD {post:St->Prop} (h:post σ):Ev c R (.out .normal) (.inv post :: k) σ:=λ_ _ _ _ hs=>⟨σ,hs,h⟩
theorem fP {post:St->Prop} (h:Ev c R (.out (.exit j)) k σ):Ev c R (.out (.exit j)) (.inv post :: k) σ:=λ_ b a w hs=>h rfl (by simpa[DD] using b) a w hs
theorem mL {post:St->Prop} (h:Ev c R (.out .ret) k σ):Ev c R (.out .ret) (.inv post :: k) σ:=λ_ b a w hs=>h rfl (by simpa[DD] using b) a w hs
def AAL (c:Cx) {ι:Type} (I:ι->St) (μ:ι->Nat) (i:ι) (σ:St):Prop:=∃j,μ j<μ i/\Ent c σ (I j)
theorem AI {ι:Type} (d:ι->St) (f:ι->Nat) (g:ι) {b:Code} (h0:Ent c σ (d g)) (o:∀i,Ev c R (.run b) (.inv (AAL c d f i) :: k) (d i)):Ev c R (.run (.loop b)) k σ:=by
 intro h1 m a w hs;have h1:B4 c.nt b=true:=by simpa[IM,B4] using h1
 refine UD (λn a w=>∃i,f i=n/\c.sat (d i) a w) (f g) ⟨g,rfl,h0 a w hs⟩ ?_;rintro n a w ⟨i,rfl,hs⟩;refine AEQ (o i h1 (by simpa[DD] using m) a w hs) ?_;intro e l w' h;cases e with
 | normal =>
  obtain⟨σ',r,j,q,p⟩:=h;exact⟨f j,q,j,rfl,p l w' r⟩
 | _=>exact h
theorem A5b {ι:Type} (b:ι->St) (h:Ev c R (.run x) (.inv (fun σ'=>∃i,Ent c σ' (b i)) :: .seq y :: k) σ) (m:∀i,Ev c R (.run y) k (b i)):Ev c R (.run (.seq x y)) k σ:=by
 intro h1 f a w hs;simp only[IM,B4,An]at h1;refine wpIn_seq (AEQ (h h1.1 (by simp[DD,h1.2,f]) a w hs) ?_);intro e d w' g;cases e with
 | normal =>
  obtain⟨σ',l,i,j⟩:=g;exact m i h1.2 f d w' (j d w' l)
 | _=>exact g
end
end
section
open Go Go.RowKit
def AL:Nat->(ts:List Ty)->Jl ts->List (Nat×AV)
 | _,[],_=>[]
 | s,t :: ts,d=>(s,.p t d.1) :: AL (s+1) ts d.2
def LA (σ:St) (ty:Ty):Option AV->Option AV
 | some (.bp n a off)=>match Ea ty a off (lk n σ.objs) with
  | some (_,v,_)=>some v
  | none=>none
 | _=>none
def Jw (tb:Tb) (σ:St):ResultVar->Option AV
 | .tmp t=>lk t σ.env
 | .cell a t=>match lk t tb.ty with
  | some ti=>LA σ ti.ty (lk a σ.env)
  | none=>none
def Nj:Option AV->List Nat
 | some v=>v.names
 | none=>[]
def Jx (σ:St) (t:Ty):Option AV->Option t.den
 | some v=>JC false σ t v
 | none=>none
def Hl (σ:St) (et:TypeId) (e:Ty):Option Obj->Option (List e.den)
 | some (.arr b a xs)=>if b=et then Bh (.slice e) ⟨.slice a,xs⟩ else none
 | _=>none
def Lv (tb:Tb) (σ:St) (rv:ResultVar):RV->Prop
 | .p t d=>Jx (Cz (Nj (Jw tb σ rv)) σ) t (Jw tb (Cz (Nj (Jw tb σ rv)) σ) rv)=some d
 | .own et e xs=>match Jw tb σ rv with
  | some (.sr n a 0 hi)=>a=e/\Hl σ et e (lk n σ.objs)=some xs/\hi=xs.length
  | _=>False
def OT (tb:Tb) (σ:St):List ResultVar->List RV->Prop
 | [],[]=>True
 | [rv],[r]=>Lv tb σ rv r
 | rv :: b,.p t d :: a=>Lv tb σ rv (.p t d)/\OT tb σ b a
 | _,_=>False
section
variable {P:Program} {tb:Tb} {w0:World} {O0:Nat->Prop} {nt:Nat} {ds:Fp}
def cx (P:Program) (tb:Tb) (w0:World) (O0:Nat->Prop) (nt:Nat):Cx:={ P:=P,tb:=tb,w0:=w0,K:=λb=>b<w0.heap.size,O0:=O0,nt:=nt }
theorem YM:∀(ts:List Ty) (a:List Value) (ds:Jl ts) (k:Nat) (w:World) (O:Nat->Prop),QF w O ts a ds->∀s v,lk s (AL k ts ds)=some v->k<=s/\∃u,a[s-k]?=some u/\∃t d,v=.p t d/\Bg w O t u d
 | [],a,ds,k,w,O,h,s,v,hs=>by simp[AL,lk]at hs
 | t :: ts,a,ds,k,w,O,h,s,v,hs=>by
  obtain⟨u,r,rfl,h1,b⟩:=h;simp only[AL,lk]at hs;split at hs
  .grind
  obtain⟨c,g,e,f⟩:=YM ts r ds.2 (k+1) w O b s v hs;grind
theorem TS:∀ {ts:List Ty} {a:List Value} {ds:Jl ts} {w:World} {O:Nat->Prop},QF w O ts a ds->a.length=ts.length
 | [],a,ds,w,O,h=>by have h:a=[]:=h;subst h;rfl
 | t :: ts,a,ds,w,O,h=>by
  obtain⟨u,r,rfl,h1,b⟩:=h;simp[TS b]
theorem w8 {ts:List Ty} {a:List Value} {ds:Jl ts} (h:QF w0 O0 ts a ds) (l:a.length<=nt) :
  (cx P tb w0 O0 nt).sat ⟨AL 0 ts ds,[]⟩ { tmps:=a.toArray++Array.replicate (nt-a.toArray.size) undef,defers:=[] } w0:=by
 refine⟨λ_=>undef,⟨rfl,rfl,rfl,Of _,λ_ _=>rfl⟩,by simp[cx];omega,rfl,(λp k=>by simp[cx]at k),λn o h=>by simp[lk]at h,λn b ⟨o,h⟩=>by simp[lk]at h,λn m b ⟨o,h⟩=>by simp[lk]at h,λs v hs=>?_⟩;obtain⟨_,u,h1,t,d,rfl,e⟩:=YM ts a ds 0 w0 O0 h s v hs;have c:s<a.length:=by grind
 have i:(a.toArray++Array.replicate (nt-a.toArray.size) undef).getD s undef=u:=by
  have h1:a[s]?=some u:=by simpa using h1
  have:a[s]=u:=by rw[AT c]at h1;injection h1
  simp[Array.getElem?_append,c,this]
 rw[i];refine Bg.mono (λb _ f g=>?_) (λ_ _ _=>rfl) e;rcases g with h0|⟨n,⟨o,j⟩,_⟩
 .exact f h0
 simp[lk]at j
def KI (tmps:Array Value):ResultVar->Sem Value
 | .tmp t=>pure (tmps.getD t undef)
 | .cell a t=>do loadVar t (<-asAddr (tmps.getD a undef))
theorem O3 (fn:Func) (tmps:Array Value):results fn tmps=(do let a <-fn.results.mapM (KI tmps);pure (if h:a.size=1 then a[0] else .tuple a)):=by
 unfold results
 congr 1
theorem Ua (hT:DI P tb) {K:Nat->Prop} {σ:St} {ρ:Nat->Value} {w:World} (hs:CG w0 K O0 nt ds σ ρ a w) {rv:ResultVar} (h:Jw tb σ rv=some v) :
  ∃u,(KI a.tmps rv).run P w=.ok u w/\CD (vw w O0 σ ρ) v u:=by
 cases rv with
 | tmp t =>
  simp only[Jw]at h;exact⟨_,by simp[KI],hs.env t v h⟩
 | cell x t =>
  simp only[Jw]at h;cases d:lk t tb.ty with
  | none=>rw[d]at h;simp at h
  | some ti =>
   rw[d]at h;simp only at h;cases e:lk x σ.env with
   | none=>rw[e]at h;simp[LA]at h
   | some xv =>
    rw[e]at h;unfold LA at h;split at h
    .rename_i n l off i;cases i;have f:=hs.env x _ e;split at h
     .rename_i vc o obs j;cases h;have k:KC σ (some ti) (some (.bp n l off))=some (vc,v,obs):=j;obtain⟨_,u,h1,g⟩:=A0v (hT _ _ d) hs.objs k f;obtain⟨m,b,_,c⟩:=f;rw[c]at h1;have c:a.tmps.getD x undef=.pointer (some ⟨b,off,none⟩):=c;refine⟨u,?_,g⟩;simp only[Instr.loadAt,Instr.sureAddr,ACc,AD6,AAM]at h1;simp only[KI,c,asAddr,ACc,AD6,AAM,h1]
     cases h
    cases h
theorem A5c (hT:DI P tb) {K:Nat->Prop} {σ:St} {ρ:Nat->Value} {w:World} (hs:CG w0 K O0 nt ds σ ρ a w) {rv:ResultVar} {t:Ty} {d:t.den} (h:Lv tb σ rv (.p t d)) :
  ∃u,(KI a.tmps rv).run P w=.ok u w/\Bg w O0 t u d:=by
 unfold Lv at h;have e:=K9 (l:=Nj (Jw tb σ rv)) hs;generalize Cz (Nj (Jw tb σ rv)) σ=f at h e;cases c:Jw tb f rv with
 | none=>rw[c]at h;simp[Jx]at h
 | some v =>
  rw[c]at h;simp only[Jx]at h;obtain⟨u,h1,g⟩:=Ua hT e c;have i:=Ft (V:=vw w O0 f ρ) (O':=O0) (λb j k=>j (.inl k)) (λh=>by cases h) e.objs h g;exact⟨u,h1,i⟩
theorem A0V (hT:DI P tb) {K:Nat->Prop} {σ:St} {ρ:Nat->Value} {a:Act} {w:World} (hs:CG w0 K O0 nt ds σ ρ a w):∀ {f:List ResultVar} {c:List RV},(∀r∈c,∃t d,r=.p t d)->OT tb σ f c ->
  ∃e:List Value,(f.mapM (KI a.tmps)).run P w=.ok e w/\e.length=c.length /\
   ∀nm V,V.w=w->(∀b,V.O b->O0 b)->II V (IC nm c) e
 | [],[],_,_=>⟨[],sc,rfl,λ_ _ _ _=>rfl⟩
 | [],_ :: _,_,h=>by simp[OT]at h
 | _ :: _,[],_,h=>by simp[OT]at h
 | rv :: f,r :: c,i,h=>by
  obtain⟨t,d,rfl⟩:=i r sc;have g:Lv tb σ rv (.p t d)/\OT tb σ f c:=by
   cases f with
   | nil =>
    cases c with
    | nil=>exact⟨h,trivial⟩
    | cons s v=>exact⟨h.1,h.2⟩
   | cons x y=>exact⟨h.1,h.2⟩
  obtain⟨u,h1,o⟩:=A5c hT hs g.1;obtain⟨e,q,j,k⟩:=A0V hT hs (λr m=>i r (by simp[m])) g.2;refine⟨u :: e,?_,by simp[j],λnm V n l=>⟨u,e,rfl,?_,k _ V n l⟩⟩
  .simp_all
  show Bg V.w V.O t u d;grind [Bg.mono]
def VW (P:Program) (fn:Func) (w0:World) (O0:Nat->Prop) (outs:List RV):Exit->Act->World->Prop :=
 bodyPost P fn λe w'=>∃u,e=.returned u/\A0D w0 O0 outs u w'
theorem A0W (x:(cx P tb w0 O0 nt).Ok) {fn:Func} {outs:List RV} {σ:St} {e:Exit} (y:e=.ret\/e=.normal) (i:∀r∈outs,∃t d,r=.p t d) (h:OT tb σ fn.results.toList outs) :
  Ev (cx P tb w0 O0 nt) (VW P fn w0 O0 outs) (.out e) [] σ:=by
 intro _ _ a w hs;obtain⟨ρ,hs⟩:=hs;obtain⟨f,h1,g,m⟩:=A0V x.T hs i h;have h1:(fn.results.toList.mapM (KI a.tmps)).run P w=.ok f w:=h1;have s:Below w0.heap.size w0 w:=⟨hs.frm.os,hs.frm.tape,hs.frm.output,hs.frm.size,hs.frm.block⟩;have D:∃v,(results fn a.tmps).run P w=.ok v w/\A0D w0 O0 outs v w:=by
  have A:(fn.results.mapM (KI a.tmps)).run P w=.ok f.toArray w:=by
   rw[ADu]
   simp_all
  refine⟨if h:f.toArray.size=1 then f.toArray[0] else .tuple f.toArray,?_,λnm=>⟨λ_=>undef,?_⟩⟩
  .rw[O3];simp only[ACc,A,AAM,AD6]
  have z:C8 nm outs=[]:=by
   clear h h1 g m;induction outs generalizing nm with
   | nil=>rfl
   | cons r F E =>
    obtain⟨t,d,rfl⟩:=i r sc;simp only[C8,S9,nO];exact E (λr C=>i r (by simp[C])) (nm+10000)
  rw[z];refine⟨s,λ_ _=>rfl,?_,(λ_ _ h=>by cases h),(λ_ _ _ h=>by cases h),(λ_ _ _ _ _ h=>by cases h)⟩;have c:=m nm (vw w O0 (D5 ⟨[],[]⟩ []) (λ_=>undef)) rfl (λb q=>by
   rcases q with h0|⟨n,⟨o,B⟩,_⟩
   .exact h0
   simp[D5,lk]at B)
  match outs,i,f,g,c with
  | [],_,f,g,c =>
   have c:f=[]:=c;subst c;exact(rfl:_=_)
  | [r],i,f,g,c =>
   obtain⟨u,l,rfl,j,k⟩:=c;have k:l=[]:=k;subst k;simp only[Hk];exact A0n j
  | G :: H :: F,i,f,g,c =>
   have:¬f.toArray.size=1:=by simp at g ⊢;omega
   rw[dif_neg this];exact⟨f,rfl,c⟩
 obtain⟨v,c,j⟩:=D;rcases y with rfl|rfl
 .exact⟨hs.defers,v,c,v,rfl,j⟩
 exact⟨hs.defers,v,c,v,rfl,j⟩
end
end
section
open Go Go.RowKit
def Ty.ok:(t:Ty)->t.den->Prop
 | .int k,d=>I6 k d
 | .bool,_=>True
 | .str,d=>ByteArray.size d<=AP
 | .slice e,d=>List.length d<=AP/\∀x∈(d:List e.den),e.ok x
 | .prod a b,d=>a.ok d.1/\b.ok d.2
 | .agg t,d=>t.ok d
 | .ref k,d=>A81 k d
theorem X1 {w:World} {O:Nat->Prop}:∀ {t:Ty} {cs:List Value} {d:t.den},B6 w O t cs d->t.ok d
 | .int _,_,_,h=>h.2
 | .bool,_,_,_=>trivial
 | .str,_,_,h=>h.2
 | .ref _,_,_,h=>h.2
 | .slice e,_,d,h=>by
  obtain⟨a,c,_,_,f,g⟩:=h;refine⟨f,λx j=>?_⟩;rcases g with g|⟨ad,_,_,k⟩
  .subst g;simp at j
  obtain⟨i,hi,rfl⟩:=AAq.1 j;obtain⟨es,_,_,l⟩:=k i _ (AT hi);exact X1 l
 | .prod a b,_,_,h=>by
  obtain⟨c1,c2,_,h1,f⟩:=h;exact⟨X1 h1,X1 f⟩
 | .agg t,cs,d,h=>by
  have h:B6 w O t cs d:=h;exact(X1 h:t.ok d)
def oks:(ts:List Ty)->Jl ts->Prop
 | [],_=>True
 | t :: ts,d=>t.ok d.1/\oks ts d.2
theorem rD {w:World} {O:Nat->Prop}:∀ {ts:List Ty} {a:List Value} {ds:Jl ts},QF w O ts a ds->oks ts ds
 | [],_,_,_=>trivial
 | t :: ts,a,ds,h=>by
  obtain⟨v,r,rfl,⟨cs,h1,_⟩,b⟩:=h;exact⟨X1 h1,rD b⟩
section
variable {P:Program} {tb:Tb} {w0:World} {O0:Nat->Prop} {nt:Nat}
theorem A87 {f : FuncId} {fn : Func} {sp : Ab} (d : P.funcs[f]? = some fn) (j : (fn.name == "runtime.NumGoroutine") = false) (c : fn.body = some x) (k : fn.ntmps = nt) (m : sp.ins.length <= nt)
  (i:B4 nt x=true) (hT:DI P tb) (hF:JM P tb)
  (h:∀(w0:World) (O0:Nat->Prop) (ds:Jl sp.ins),(cx P tb w0 O0 nt).Ok->oks sp.ins ds->sp.pre ds->Ev (cx P tb w0 O0 nt) (VW P fn w0 O0 (sp.out ds)) (.run x) [] ⟨AL 0 sp.ins ds,[]⟩):Ag P f sp:=by
 refine⟨⟨fn,d,j,by simp[c]⟩,λw O p ds e hG a l=>?_⟩;refine calls_of_wp d c ((wpIn_wide (n:=0)).1 ?_);have o:=TS a;rw[k];exact h w O ds ⟨λb g=>g,e,hT,hF,hG⟩ (rD a) l i rfl _ _ (w8 a O1)
theorem O4 (N:(cx P tb w0 O0 nt).Ok) {fn:Func} {et:TypeId} {e:Ty} {xs:List e.den} {σ:St} {ex:Exit} (p:ex=.ret\/ex=.normal) {rv:ResultVar} (R:fn.results=#[rv]) (h:Lv tb σ rv (.own et e xs)) :
  Ev (cx P tb w0 O0 nt) (VW P fn w0 O0 [.own et e xs]) (.out ex) [] σ:=by
 intro _ _ a w hs;obtain⟨ρ,hs⟩:=hs;have M:Below w0.heap.size w0 w:=⟨hs.frm.os,hs.frm.tape,hs.frm.output,hs.frm.size,hs.frm.block⟩;unfold Lv at h;simp only at h;split at h
 .rename_i n Y hi S;obtain⟨rfl,c,rfl⟩:=h;cases hn:lk n σ.objs with
  | none=>rw[hn]at c;simp[Hl]at c
  | some o =>
   rw[hn]at c;cases o with
   | box f st fs=>simp[Hl]at c
   | mapo k v l=>simp[Hl]at c
   | frame ak fs=>simp[Hl]at c
   | loop L=>simp[Hl]at c
   | itr ag aj ah ai ae=>simp[Hl]at c
   | dfr=>simp[Hl]at c
   | sit sb sp=>simp[Hl]at c
   | nest Z af k d ys A=>simp[Hl]at c
   | arr f d ys =>
    simp only[Hl]at c;split at c
    .rename_i Q;subst Q;obtain⟨rfl,H⟩:=B3 c;cases H;obtain⟨u,hu,J⟩:=Ua (P:=P) N.T hs S;obtain⟨aa,y⟩:=J;have C:=hs.objs n _ hn;have q:u=ρ n:=by
      obtain⟨V,m,c0,t,_,ab,U,W,rfl,_,h0,_⟩:=y;have t:plc (ρ n)=_:=t;obtain⟨rfl,rfl⟩:=h0 rfl;obtain⟨_,cells,s,_⟩:=C;have s:w.ownsRow 0 f d.size (ρ n) ys.length cells:=s;rw[Hu s]at t;have r:m=ys.length:=by
       rcases s.2 with ⟨p,ad⟩|⟨g,cap,X,p,_⟩
       .rw[t]at p;injection p;omega
       rw[t]at p;injection p
      rw[t,r,Nat.sub_zero]
     have D:(results fn a.tmps).run P w=.ok u w:=by
      rw[O3,R];have:((#[rv]:Array ResultVar).mapM (KI a.tmps)).run P w=.ok #[u] w:=by
       rw[ADu];simp[hu]
      simp only[ACc,this,AAM,AD6];rfl
     have z:A0D w0 O0 [.own f d ys] u w:=by
      intro nm;have B:∀m,HV (D5 ⟨[],[]⟩ [(nm,.arr f d ys)]) m↔m=nm:=by
       intro m;simp[HV,D5,lk]
      have hk:∀b,¬own O0 σ ρ b->¬own O0 (D5 ⟨[],[]⟩ [(nm,.arr f d ys)]) (E3 (λ_=>undef) nm u) b:=by
       intro b j K;rcases K with h0|⟨m,A,r⟩
       .exact j (.inl h0)
       rw[(B m).1 A,Bz,q]at r;exact j (.inr ⟨n,⟨_,hn⟩,r⟩)
      have I:C8 nm [RV.own f d ys]=[(nm,.arr f d ys)]:=rfl;rw[I];refine⟨E3 (λ_=>undef) nm u,QS.one (loc:=u) M (λb j=>?_) ?_ ?_⟩
      .rw[q]at j;have:=(hs.free n b ⟨_,hn⟩ j).1;simp only[cx]at this;omega
      .refine⟨(B nm).2 rfl,?_⟩;show Di (plc (E3 (λ_=>undef) nm u nm)) _ _ _ u;rw[Bz,q];rw[q]at y;exact y
      rw[q];obtain⟨r,cells,s,O⟩:=C;refine⟨r,cells,s,λi x hi=>?_⟩;obtain⟨es,E,F,G⟩:=O i x hi;rw[q]at hk;exact⟨es,E,F,G.mono (λb _ j=>hk b j) (λ_ _ _=>rfl)⟩
     rcases p with rfl|rfl
     .exact⟨hs.defers,u,D,u,rfl,z⟩
     exact⟨hs.defers,u,D,u,rfl,z⟩
    cases c
 exact h.elim
end
end
section
open Go Go.RowKit
section
variable {P:Program} {tb:Tb} {w0:World} {O0:Nat->Prop} {nt:Nat} {R:Exit->Act->World->Prop} {k:List Cq} {σ σ':St}
theorem fQ:(cx P tb w0 O0 nt).tb=tb:=rfl
theorem mM {c:Cx} (a:c.Ok) {id:Nat} {l:List Oper} {vc:Prop} (h:B7 c.tb l l σ=some (vc,σ')) (b:vc) (hk:Ev c R (.out .normal) k σ') :
  Ev c R (.run (.region id l.toArray false)) k σ:=w7 a (by
 show EvR _ _ _ (B7 c.tb l l σ);rw[h];exact⟨b,hk⟩)
theorem VX {c:Cx} (h:Al σ o=some (.p .bool b)) (a:b=true->Ev c R (.run x) k σ) (hf:b=false->Ev c R (.run y) k σ):Ev c R (.run (.cond o x y)) k σ :=
 A5a (by rw[h];exact⟨a,hf⟩)
theorem mN {c:Cx} {id:Nat} (h:Ev c R (.out .normal) k σ):Ev c R (.out (.exit id)) (.blk id :: k) σ:=TR (by rw[At rfl];exact h)
theorem mO {c:Cx} {id a:Nat} (b:a≠id) (h:Ev c R (.out (.exit a)) k σ):Ev c R (.out (.exit a)) (.blk id :: k) σ:=TR (by rw[As b];exact h)
end
inductive CE where
 | nm (n:Nat)
 | nil
mutual
def DE (ren:List (Nat×CE)):AV->AV->Prop
 | .p t d,.p u d'=>Bh u ⟨t,d⟩=some d'
 | .raw (.slice none 0 0),.p (.slice e) d'=>(d':List e.den)=[]
 | .raw v,.raw u=>v=u
 | .raw (.slice none 0 0),.sr m _ lo hi=>lk m ren=some .nil/\lo=0/\hi=0
 | .sr n e lo hi,.sr m e' lo' hi'=>lk m ren=some (.nm n)/\e=e'/\lo=lo'/\hi=hi'
 | .ip t d,.ip u d'=>Bh u ⟨t,d⟩=some d'
 | .bp n p o,.bp m p' o'=>lk m ren=some (.nm n)/\p=p'/\o=o'
 | .fn f,.fn g=>f=g
 | .clo f ns,.clo g ms=>f=g/\ms.map (λm=>lk m ren)=ns.map λn=>some (.nm n)
 | .mp n,.mp m=>lk m ren=some (.nm n)
 | .yl n,.yl m=>lk m ren=some (.nm n)
 | .ag l,.ag r=>matchAVs ren l r
 | _,.top=>True
 | _,_=>False
def matchAVs (ren:List (Nat×CE)):List AV->List AV->Prop
 | [],[]=>True
 | x :: l,y :: r=>(x.cells=y.cells/\DE ren x y)/\matchAVs ren l r
 | _,_=>False
end
def IP (ren:List (Nat×CE)):AV->AV->Prop
 | .ag l,.ag r=>matchAVs ren l r
 | x,y=>DE ren x y
def JO (ren:List (Nat×CE)):List AV->List AV->Prop
 | [],[]=>True
 | x :: l,y :: r=>IP ren x y/\JO ren l r
 | _,_=>False
def Bv (ren:List (Nat×CE)):AV->AV->Prop
 | .tup l,.tup r=>JO ren l r
 | x,y=>IP ren x y
def LB (ren:List (Nat×CE)):Option AV->AV->Prop
 | some x,y=>Bv ren x y
 | none,.top=>True
 | none,_=>False
def K0 (env:List (Nat×AV)) (ren:List (Nat×CE)):List (Nat×AV)->Prop
 | []=>True
 | (s,y) :: r=>LB ren (lk s env) y/\K0 env ren r
def Jy (ren:List (Nat×CE)):Option Obj->Obj->Prop
 | some (.arr et e xs),.arr a c ys=>et=a/\Bh (.slice c) ⟨.slice e,xs⟩=some ys
 | some (.box et st fs),.box a s d=>et=a/\st=s/\matchAVs ren fs d
 | some (.nest et n k e xs h),.nest a o b c ys m=>(et=a/\n=o/\h=m)/\Bh (.slice (.prod b (.slice c))) ⟨.slice (.prod k (.slice e)),xs⟩=some ys
 | some (.mapo k v l),.mapo b f l'=>Bh (.slice (.prod b f)) ⟨.slice (.prod k v),l⟩=some l'
 | some (.frame t fs),.frame u d=>t=u/\K0 fs ren d
 | some (.itr k v l lf i),.itr b f l' p j=>Bh (.slice (.prod b f)) ⟨.slice (.prod k v),l⟩=some l'/\lf=p/\i=j
 | some (.loop L),.loop g=>L=g
 | some .dfr,.dfr=>True
 | some (.sit sb sp),.sit q r=>sb=q/\sp=r
 | _,_=>False
def HZ (objs:List (Nat×Obj)) (ren:List (Nat×CE)) (o:Obj):Option CE->Prop
 | some (.nm n)=>Jy ren (lk n objs) o
 | some .nil=>match o with
  | .arr _ e ys=>(ys:List e.den)=[]
  | .box _ _ _=>False
  | .nest _ _ k e ys _=>(ys:List (k.den×List e.den))=[]
  | .mapo _ _ _=>False
  | .frame _ _=>False
  | .itr _ _ _ _ _=>False
  | .loop _=>False
  | .dfr=>False
  | .sit sb sp=>False
 | none=>False
def Ak (objs:List (Nat×Obj)) (ren:List (Nat×CE)):List (Nat×Obj)->Prop
 | []=>True
 | (m,o) :: r=>HZ objs ren o (lk m ren)/\Ak objs ren r
def CB:List (Nat×CE)->Bool
 | []=>true
 | (_,.nm n) :: r=>(r.all λp=>match p.2 with|.nm a=>a != n|.nil=>true)&&CB r
 | (_,.nil) :: r=>CB r
def Md {α:Type}:List (Nat×α)->Bool
 | []=>true
 | (n,_) :: r=>(r.all λp=>p.1 != n)&&Md r
section
variable {ren:List (Nat×CE)} {V V':Vw}
structure MB (ren:List (Nat×CE)) (V V':Vw):Prop where
 w:V'.w=V.w
 O:∀b,¬V.O b->¬V'.O b
 ρ:∀m n,lk m ren=some (.nm n)->V'.ρ m=V.ρ n
 nil:∀m,lk m ren=some .nil->V'.ρ m=.slice none 0 0
 L:∀m f,lk m ren=some f->V'.L m
theorem MB.vrep (h:MB ren V V') {t:Ty} {v:Value} {d:t.den} (c:Bg V.w V.O t v d):Bg V'.w V'.O t v d :=
 Bg.mono (λb _ a=>h.O b a) (λb _ _=>by rw[h.w]) c
theorem MB.rep (h:MB ren V V') {t:Ty} {cs:List Value} {d:t.den} (c:B6 V.w V.O t cs d):B6 V'.w V'.O t cs d :=
 c.mono (λb _ a=>h.O b a) (λb _ _=>by rw[h.w])
theorem MB.map (h:MB ren V V'):∀ {b ns:List Nat},b.map (λm=>lk m ren)=ns.map (λn=>some (CE.nm n))->b.map V'.ρ=ns.map V.ρ/\∀m∈b,∃n∈ns,lk m ren=some (.nm n)
 | [],[],_=>⟨rfl,λ_ h=>by cases h⟩
 | [],_ :: _,a=>by simp at a
 | _ :: _,[],a=>by simp at a
 | m :: b,n :: ns,a=>by
  simp only[gO,ADc]at a;obtain⟨h1,c⟩:=h.map a.2;refine⟨by simp only[gO,h1,h.ρ _ _ a.1],λx d=>?_⟩;grind
theorem YN (h:MB ren V V') {x y:AV} {v:Value} (b:DE ren x y) (c:MW V x v):MW V' y v/\(∀t d,y=.p t d->(∀u g,x≠.p u g)->v.oneCell'=true->B6 V'.w V'.O t [v] d):=by
 unfold DE at b;split at b
 .have:=BP b;injection this with h1 f
  subst h1;cases f;exact⟨h.vrep c,λ_ _ _ z=>absurd rfl (z _ _)⟩
 .have c:v=_:=c;subst c;have i:=b;have k:∀(O:Nat->Prop) (e:Ty),B6 V'.w O (.slice e) [.slice none 0 0] ([]:List e.den):=λO e=>⟨none,0,rfl,sc,by simp[AP],.inl rfl⟩;rename_i e g;have i:g=([]:List e.den):=i;subst i;refine⟨⟨_,k _ _,rfl⟩,λt d a _ _=>?_⟩;grind
 .subst b;exact⟨c,λt d a=>by cases a⟩
 .rename_i m e lo hi;obtain⟨h1,rfl,rfl⟩:=b;have c:v=_:=c;subst c;refine⟨⟨h.L _ _ h1,?_⟩,λt d a=>by cases a⟩;rw[h.nil _ h1];exact⟨none,0,0,rfl,O1,O1,none,0,rfl,O1,λ_=>⟨rfl,rfl⟩,λh=>by omega⟩
 .obtain⟨h1,rfl,rfl,rfl⟩:=b;refine⟨⟨h.L _ _ h1,?_⟩,λt d a=>by cases a⟩;rw[h.ρ _ _ h1];exact c.2
 .have:=BP b;injection this with h1 f
  subst h1;cases f;obtain⟨ad,cs,a,o,q,k⟩:=c;exact⟨⟨ad,cs,a,h.O _ o,λj u r=>by rw[h.w];exact q j u r,h.rep k⟩,λt d a=>by cases a⟩
 .obtain⟨h1,rfl,rfl⟩:=b;refine⟨⟨h.L _ _ h1,?_⟩,λt d a=>by cases a⟩;rw[h.ρ _ _ h1];exact c.2
 .subst b;exact⟨c,λt d a=>by cases a⟩
 .obtain⟨rfl,s⟩:=b;obtain⟨h1,f⟩:=h.map s;refine⟨⟨?_,λm b=>?_⟩,λt d a=>by cases a⟩
  .rw[h1];exact c.1
  obtain⟨n,hn,l⟩:=f m b;refine⟨h.L _ _ l,?_⟩;rw[h.ρ _ _ l];exact(c.2 n hn).2
 .refine⟨⟨h.L _ _ b,?_⟩,λt d a=>by cases a⟩;rw[h.ρ _ _ b];exact c.2
 .refine⟨⟨h.L _ _ b,?_⟩,λt d a=>by cases a⟩;rw[h.ρ _ _ b];exact c.2
 .exact(show False from c).elim
 .exact⟨trivial,λt d a=>by cases a⟩
 exact b.elim
theorem mP (h:MB ren V V') {x y:AV} {cs:List Value} (n:Xp x=false) (i:x.cells=y.cells) (b:DE ren x y) (a:GS V x cs):GS V' y cs:=by
 by_cases f:∃t d,x=.p t d
 .obtain⟨t,d,rfl⟩:=f;have a:B6 V.w V.O t cs d:=a;cases y<;>simp only[DE]at b<;>try exact b.elim
  .have:=BP b;injection this with h1 c
   subst h1;cases c;exact h.rep a
  have j:=a.length;simp only[AV.cells]at i;rw[i]at j;obtain⟨v,rfl⟩:=ACz.1 j;exact⟨v,rfl,a.one v sc,trivial⟩
 have o:∃v,cs=[v]/\v.oneCell'=true/\MW V x v:=by
  cases x;case p t d=>exact absurd ⟨t,d,rfl⟩ f
  case ag l=>cases n
  all_goals exact a
 obtain⟨v,rfl,h1,c⟩:=o;obtain⟨g,m⟩:=YN h b c;cases y;case p t d=>exact m t d rfl (λu k e=>f ⟨u,k,e⟩) h1
 case ag l=>exact(show False from g).elim
 all_goals exact⟨v,rfl,h1,g⟩
theorem w9 (h:MB ren V V'):(∀(x y:AV) (cs:List Value),x.cells=y.cells->DE ren x y->GS V x cs->GS V' y cs)/\∀(l r:List AV) (cs:List Value),matchAVs ren l r->AVCs V l cs->AVCs V' r cs:=by
 have key:∀n:Nat,(∀(x y:AV) (cs:List Value),SizeOf.sizeOf x<n->x.cells=y.cells->DE ren x y->GS V x cs->GS V' y cs)/\∀(l r:List AV) (cs:List Value),SizeOf.sizeOf l<n->matchAVs ren l r->AVCs V l cs->AVCs V' r cs:=by
  intro n;induction n with
  | zero=>exact⟨λ_ _ _ h=>by omega,λ_ _ _ h=>by omega⟩
  | succ n c =>
   refine⟨λx y cs hn d a b=>?_,λl r cs hn a b=>?_⟩
   .cases f:Xp x with
    | false=>exact mP h f d a b
    | true =>
     cases x<;>simp[Xp]at f;rename_i l;simp only[AV.ag.sizeOf_spec]at hn;cases y<;>simp only[DE]at a<;>try exact a.elim
     .rename_i r;exact(c.2 l r cs O1 a b:AVCs V' r cs)
     have g:=b.length;rw[d]at g;obtain⟨v,rfl⟩:=ACz.1 (g.trans rfl);exact⟨v,rfl,b.one v sc,trivial⟩
   match l,r with
   | [],[]=>exact b
   | [],_ :: _=>simp only[matchAVs]at a
   | _ :: _,[]=>simp only[matchAVs]at a
   | x :: l,y :: r =>
    simp only[matchAVs]at a;obtain⟨c1,c2,e,h1,i⟩:=b;simp only[AEe]at hn;exact⟨c1,c2,e,c.1 x y c1 O1 a.1.1 a.1.2 h1,c.2 l r c2 O1 a.2 i⟩
 exact⟨λx y cs=>(key _).1 x y cs (ACW _),λl r cs=>(key _).2 l r cs (ACW _)⟩
theorem VY (h:MB ren V V') {l r:List AV} {cs:List Value} (a:matchAVs ren l r) (b:AVCs V l cs):AVCs V' r cs:=(w9 h).2 l r cs a b
theorem Lw:∀ {l r:List AV},matchAVs ren l r->l.length=r.length
 | [],[],_=>rfl
 | [],_ :: _,a=>a.elim
 | _ :: _,[],a=>a.elim
 | _ :: _,_ :: _,a=>by simp[Lw a.2]
theorem YO (h:MB ren V V') {x y:AV} {v:Value} (a:IP ren x y) (b:TD V x v):TD V' y v:=by
 cases x;case ag l =>
  cases y;case ag r =>
   obtain⟨cs,e,h1⟩:=b;exact⟨cs,e,VY h a h1⟩
  all_goals simp only[IP,DE]at a
  all_goals first|exact a.elim|exact a6
 all_goals
  simp only[TD]at b;have a:DE ren _ y:=a;exact TD.of1 (YN h a b).1
theorem fR (h:MB ren V V'):∀ {l r:List AV} {b:List Value},JO ren l r->II V l b->II V' r b
 | [],[],b,_,c=>c
 | [],_ :: _,b,a,_=>a.elim
 | _ :: _,[],b,a,_=>a.elim
 | x :: l,y :: r,b,a,c=>by
  obtain⟨v,e,rfl,h1,d⟩:=c;exact⟨v,e,rfl,YO h a.1 h1,fR h a.2 d⟩
theorem Nk (h:MB ren V V') {x y:AV} {v:Value} (a:Bv ren x y) (b:CD V x v):CD V' y v:=by
 cases x;case tup l =>
  cases y;case tup r =>
   obtain⟨c,e,h1⟩:=b;exact⟨c,e,fR h a h1⟩
  all_goals simp only[Bv,IP,DE]at a
  all_goals first|exact a.elim|exact a6
 all_goals
  simp only[Bv]at a;exact A0n (YO h a b)
theorem DX {objs:List (Nat×Obj)} {m:Nat} {o:Obj}:∀ {l:List (Nat×Obj)},Ak objs ren l->lk m l=some o->HZ objs ren o (lk m ren)
 | (j,x) :: l,h,a=>by
  simp only[lk]at a;split at a
  .rename_i e;cases a;subst e;exact h.1
  exact DX h.2 a
theorem Me {env:List (Nat×AV)} {s:Nat} {y:AV}:∀ {l:List (Nat×AV)},K0 env ren l->lk s l=some y->LB ren (lk s env) y
 | (j,x) :: l,h,a=>by
  simp only[lk]at a;split at a
  .rename_i e;cases a;subst e;exact h.1
  exact Me h.2 a
theorem Ub:∀ {l:List (Nat×CE)} {m c n:Nat},CB l=true->lk m l=some (.nm n)->lk c l=some (.nm n)->m=c
 | (j,f) :: l,m,c,n,a,h1,b=>by
  simp only[lk]at h1 b;have e:CB l=true:=by
   cases f<;>simp only[CB,An]at a
   .exact a.2
   exact a
  have g:∀q,f=.nm n->lk q l=some (.nm n)->False:=by
   intro q hf d;subst hf;simp only[CB,An,OF]at a;have:=a.1 _ (Ff d);simp at this
  split at h1
  .grind
  split at b
  .grind
  exact Ub e h1 b
def AAN (n:Nat):Option CE->Bool
 | some (.nm m)=>m==n
 | _=>false
def A8Q (pin:List (Nat×Value)) (ren:List (Nat×CE)):Bool:=pin.all λp=>AAN p.1 (lk p.1 ren)
theorem R3 {V V':Vw} (a:MB ren V V') {N:List (Nat×Obj)} (af:∀n x,lk n N=some x->BI V x (V.ρ n)) {o:Obj} {m:Nat} (hf:HZ N ren o (lk m ren)):BI V' o (V'.ρ m):=by
 cases J:lk m ren with
 | none=>rw[J]at hf;exact hf.elim
 | some f =>
  rw[J]at hf;cases f with
  | nil =>
   rw[a.nil m J];cases o with
   | box et st fs=>exact hf.elim
   | mapo k v l=>exact hf.elim
   | frame t fs=>exact hf.elim
   | loop L=>exact hf.elim
   | itr A D B C y=>exact hf.elim
   | dfr=>exact hf.elim
   | sit sb sp=>exact hf.elim
   | nest et ai k e ys F =>
    have hf:ys=([]:List (k.den×List e.den)):=hf;subst hf;exact⟨_,[],[],.inr ⟨rfl,rfl,rfl⟩,by simp[AP],rfl,ADA _ 0 et _,λi x u h=>by simp at h,λi j b u v h=>by simp at h,λi b u h=>by simp at h⟩
   | arr et e ys =>
    have hf:ys=([]:List e.den):=hf;subst hf;exact⟨by simp[AP],[],ADA _ 0 et e.size,H6 _ _ _ _⟩
  | nm n =>
   rw[a.ρ m n J];simp only[HZ]at hf;cases hn:lk n N with
   | none=>rw[hn]at hf;simp only[Jy]at hf
   | some x =>
    rw[hn]at hf;have q:=af n x hn;cases x with
    | arr et e xs =>
     cases o with
     | box c st fs=>exact hf.elim
     | mapo k v l=>exact hf.elim
     | frame t fs=>exact hf.elim
     | loop L=>exact hf.elim
     | itr A D B C y=>exact hf.elim
     | dfr=>exact hf.elim
     | sit sb sp=>exact hf.elim
     | nest _ _ _ _ _ _=>exact hf.elim
     | arr c g ys =>
      obtain⟨rfl,p⟩:=hf;obtain⟨rfl,d⟩:=B3 p;cases d;obtain⟨ad,cells,ae,aa⟩:=q;refine⟨ad,cells,by rw[a.w];exact ae,λi z hi=>?_⟩;obtain⟨es,R,S,T⟩:=aa i z hi;exact⟨es,R,S,a.rep T⟩
    | box et st fs =>
     cases o with
     | arr c g ys=>exact hf.elim
     | mapo k v l=>exact hf.elim
     | frame t fs=>exact hf.elim
     | loop L=>exact hf.elim
     | itr A D B C y=>exact hf.elim
     | dfr=>exact hf.elim
     | sit sb sp=>exact hf.elim
     | nest _ _ _ _ _ _=>exact hf.elim
     | box c aw U =>
      obtain⟨rfl,rfl,H⟩:=hf;obtain⟨h0,b,cs,G,hh,Z⟩:=q;exact⟨λag=>by rw[<-Lw H];exact h0 ag,b,cs,G,by rw[a.w];exact hh,VY a H Z⟩
    | nest et ai k e xs h =>
     cases o with
     | nest c au P g ys ar =>
      obtain⟨⟨rfl,rfl,rfl⟩,p⟩:=hf;have p:=BP p;injection p with h1 E
      injection h1 with h1
      injection h1 with h1 d
      injection d with d
      subst h1;subst d;cases E;exact wU a.w a.O q
     | mapo k v l=>exact hf.elim
     | box c st fs=>exact hf.elim
     | arr c g ys=>exact hf.elim
     | frame t fs=>exact hf.elim
     | loop L=>exact hf.elim
     | itr A D B C y=>exact hf.elim
     | dfr=>exact hf.elim
     | sit sb sp=>exact hf.elim
    | mapo k v l =>
     cases o with
     | mapo P ao l' =>
      have p:=BP hf;injection p with h1 E
      injection h1 with h1
      injection h1 with h1 d
      subst h1;subst d;cases E;obtain⟨b,es,cl,G,hh,ab,Y⟩:=q;exact⟨b,es,cl,G,by rw[a.w];exact hh,ab.mono (λb _ K=>a.O b K) (λb _ _=>by rw[a.w]),Y⟩
     | box c st fs=>exact hf.elim
     | arr c g ys=>exact hf.elim
     | frame t fs=>exact hf.elim
     | loop L=>exact hf.elim
     | itr A D B C y=>exact hf.elim
     | dfr=>exact hf.elim
     | sit sb sp=>exact hf.elim
     | nest _ _ _ _ _ _=>exact hf.elim
    | frame t fs =>
     cases o with
     | frame ax U =>
      obtain⟨rfl,H⟩:=hf;obtain⟨h0,h1⟩:=q;refine⟨h0,λs v ah=>?_⟩;have I:=Me H ah;cases M:lk s fs with
      | none =>
       rw[M]at I;cases v<;>simp only[LB]at I;exact a6
      | some x =>
       rw[M]at I;exact Nk a I (h1 s x M)
     | mapo k v l=>exact hf.elim
     | box c st fs=>exact hf.elim
     | arr c g ys=>exact hf.elim
     | loop L=>exact hf.elim
     | itr A D B C y=>exact hf.elim
     | dfr=>exact hf.elim
     | sit sb sp=>exact hf.elim
     | nest _ _ _ _ _ _=>exact hf.elim
    | itr k v l lf ap =>
     cases o with
     | itr P ao l' av aq =>
      obtain⟨hf,rfl,rfl⟩:=hf;have p:=BP hf;injection p with h1 E
      injection h1 with h1
      injection h1 with h1 d
      subst h1;subst d;cases E;obtain⟨r,G,b,aj,cl,am,al,h1,E,d,W,X⟩:=q;exact⟨r,G,b,aj,cl,am,al,by rw[a.w];exact h1,a.O b E,by rw[a.w];exact d,W.mono (λb _ K=>a.O b K) (λb _ _=>by rw[a.w]),X⟩
     | mapo k v l=>exact hf.elim
     | box c st fs=>exact hf.elim
     | arr c g ys=>exact hf.elim
     | frame t fs=>exact hf.elim
     | loop L=>exact hf.elim
     | dfr=>exact hf.elim
     | sit sb sp=>exact hf.elim
     | nest _ _ _ _ _ _=>exact hf.elim
    | loop L =>
     cases o with
     | loop Q =>
      have hf:L=Q:=hf;subst hf;obtain⟨b,F,hh⟩:=q;exact⟨b,F,by rw[a.w];exact hh⟩
     | itr A D B C y=>exact hf.elim
     | mapo k v l=>exact hf.elim
     | box c st fs=>exact hf.elim
     | arr c g ys=>exact hf.elim
     | frame t fs=>exact hf.elim
     | dfr=>exact hf.elim
     | sit sb sp=>exact hf.elim
     | nest _ _ _ _ _ _=>exact hf.elim
    | dfr =>
     cases o with
     | dfr =>
      obtain⟨b,F,hh⟩:=q;exact⟨b,F,by rw[a.w];exact hh⟩
     | nest _ _ _ _ _ _=>exact hf.elim
     | mapo k v l=>exact hf.elim
     | box c st fs=>exact hf.elim
     | arr c g ys=>exact hf.elim
     | frame t fs=>exact hf.elim
     | loop L=>exact hf.elim
     | itr A D B C y=>exact hf.elim
     | sit sb sp=>exact hf.elim
    | sit sb sp =>
     cases o with
     | sit ak an =>
      obtain⟨rfl,rfl⟩:sb=ak/\sp=an:=hf;obtain⟨b,F,hh⟩:=q;exact⟨b,F,by rw[a.w];exact hh⟩
     | nest _ _ _ _ _ _=>exact hf.elim
     | mapo k v l=>exact hf.elim
     | box c st fs=>exact hf.elim
     | arr c g ys=>exact hf.elim
     | frame t fs=>exact hf.elim
     | loop L=>exact hf.elim
     | itr A D B C y=>exact hf.elim
     | dfr=>exact hf.elim
def CQ (objs:List (Nat×Obj)) (ren:List (Nat×CE)):Bool:=ren.all λp=>(lk p.1 objs).isSome
theorem AB {c:Cx} {σ σ':St} (ren:List (Nat×CE)) (h1:CB ren=true) (r:CQ σ'.objs ren=true) (z:Ak σ.objs ren σ'.objs) (G:K0 σ.env ren σ'.env) (A:A8Q c.ds.pin ren=true:=by rfl):Ent c σ σ':=by
 rintro a w ⟨ρ,hs⟩
 let ρ':Nat->Value:=λm=>match lk m ren with|some (.nm n)=>ρ n|_=>.slice none 0 0
 have y:∀m n,lk m ren=some (.nm n)->ρ' m=ρ n:=λm n d=>by simp[ρ',d]
 have u:∀m,lk m ren=some .nil->ρ' m=.slice none 0 0:=λm d=>by simp[ρ',d]
 have E:∀m f,lk m ren=some f->HV σ' m:=λm f d=>by
  simp only[CQ,OF]at r;have:=r _ (Ff d);exact ADd.1 this
 have j:∀m b,HV σ' m->bk (ρ' m) b->∃n,lk m ren=some (.nm n)/\HV σ n/\bk (ρ n) b:=by
  rintro m b ⟨o,d⟩ e;have hf:=DX z d;cases i:lk m ren with
  | none=>rw[i]at hf;exact hf.elim
  | some f =>
   cases f with
   | nil=>rw[u m i]at e;simp[bk,blk]at e
   | nm n =>
    rw[i]at hf;rw[y m n i]at e;refine⟨n,rfl,?_,e⟩;cases hn:lk n σ.objs with
    | none=>simp only[HZ,hn,Jy]at hf
    | some x=>exact⟨x,hn⟩
 have t:MB ren (vw w c.O0 σ ρ) (vw w c.O0 σ' ρ'):=by
  refine⟨rfl,λb e k=>?_,y,u,E⟩;rcases k with h0|⟨m,h,d⟩
  .exact e (.inl h0)
  obtain⟨n,_,hn,g⟩:=j m b h d;exact e (.inr ⟨n,hn,g⟩)
 refine⟨ρ',hs.frm,hs.nt,hs.defers,λp B=>?_,λm o d=>?_,λm b h e=>?_,λm K b h H e k=>?_,λs v J=>?_⟩
 .obtain⟨M,N,O⟩:=hs.pin p B;simp only[A8Q,OF]at A;have l:=A p B;unfold AAN at l;split at l
  .grind
  cases l
 .exact R3 t hs.objs (DX z d)
 .obtain⟨n,_,hn,g⟩:=j m b h e;exact hs.free n b hn g
 .obtain⟨n,C,hn,g⟩:=j m b h e;obtain⟨L,D,I,F⟩:=j K b H k;have:=hs.dist n L b hn I g F;subst this;exact Ub h1 C D
 have d:=Me G J;cases q:lk s σ.env with
 | none =>
  rw[q]at d;cases v<;>simp only[LB]at d;exact a6
 | some x =>
  rw[q]at d;exact Nk t d (hs.env s x q)
end
end
theorem HD (b:Bool):Rv true (some (.p .bool b))=some b:=by cases b<;>rfl
theorem GF (b:Bool):Rv false (some (.p .bool b))=some (!b):=by cases b<;>rfl
theorem Nl:IntKind.i64.min=-9223372036854775808:=by decide
theorem Nm:IntKind.i64.max=9223372036854775807:=by decide
theorem Nn:IntKind.u64.min=0:=by decide
theorem Np:IntKind.u64.max=18446744073709551615:=by decide
theorem R4:IntKind.u8.min=0:=by decide
theorem R5:IntKind.u8.max=255:=by decide
theorem Nq (n:Int):I6 .i64 n↔-9223372036854775808<=n/\n<=9223372036854775807:=by unfold I6;rw[Nl,Nm]
theorem JP (n:Int):I6 .u64 n↔0<=n/\n<=18446744073709551615:=by unfold I6;rw[Nn,Np]
theorem VZ (n:Int):I6 .u8 n↔0<=n/\n<=255:=by unfold I6;rw[R4,R5]
theorem QL {α:Type} (x:α):sub [x] 0 1=[x]:=rfl
theorem IQ {α:Type} (xs:List α) (n:Nat):sub xs 0 n=xs.take n:=by simp[sub]
theorem A0X (n:Nat):((n:Int)).toNat=n:=S8 n
theorem GG (n:Nat):(0<=(n:Int))=True:=eq_true (AC8 n)
section
open Go Go.RowKit
section
variable {tb:Tb} {σ σ':St}
def mQ (σ σ':St):Prop:=∀n o,lk n σ.objs=some o->lk n σ'.objs=some o
theorem A0Y (h:mQ σ σ') {e:Ty} {lo hi n:Nat} {d:List e.den} (hs:Pv e lo hi (lk n σ.objs)=some d):Pv e lo hi (lk n σ'.objs)=some d:=by
 cases hn:lk n σ.objs with
 | none=>rw[hn]at hs;simp[Pv]at hs
 | some o=>rw[h n o hn,<-hn];exact hs
theorem xA (h:mQ σ σ') {e:Ty} {i:Nat} {d:List e.den} (hs:Rq e i (lk n σ.objs)=some d):Rq e i (lk n σ'.objs)=some d:=by
 cases hn:lk n σ.objs with
 | none=>rw[hn]at hs;simp[Rq]at hs
 | some o=>rw[h n o hn,<-hn];exact hs
theorem KJ (h:mQ σ σ') {l:Bool} {t:Ty} {x:AV} {d:t.den} (hs:FH l σ t x=some d):FH l σ' t x=some d:=by
 unfold FH at hs ⊢;split at hs
 .exact hs
 .grind [A0Y]
 .grind [xA]
 .exact hs
 cases hs
theorem YP (h:mQ σ σ') {l:Bool}:∀ {fs:List AV} {t:Ty} {d:t.den},Kr l σ fs t=some d->Kr l σ' fs t=some d
 | [],t,d,hs=>by simp[Kr]at hs
 | [x],t,d,hs=>by grind [Kr,KJ]
 | x :: y :: r,t,d,hs=>by
  cases t<;>simp only[Kr]at hs ⊢<;>try(cases hs;done)
  rename_i a b;cases h1:FH l σ a x with
  | none=>rw[h1]at hs;simp[MN]at hs
  | some e =>
   cases c:Kr l σ (y :: r) b with
   | none=>rw[h1,c]at hs;simp[MN]at hs
   | some f =>
    rw[KJ h h1,YP h c];rw[h1,c]at hs;exact hs
theorem GH (h:mQ σ σ') {l:Bool} {t:Ty} {x:AV} {d:t.den} (hs:JC l σ t x=some d):JC l σ' t x=some d:=by
 unfold JC at hs ⊢;split at hs
 .exact YP h hs
 exact KJ h hs
def Ops (σ σ':St) (xs:List Operand):Prop:=∀x∈xs,∀v,Al σ x=some v->Al σ' x=some v
theorem Mf (h:mQ σ σ') {e:Ty} {x:AV} {d:List e.den} (hs:Pw σ e x=some d):Pw σ' e x=some d:=by
 unfold Pw at hs ⊢;split at hs
 .rename_i n a lo hi;cases hn:lk n σ.objs with
  | none =>
   rw[hn]at hs;have hs:FH true σ (.slice e) (.sr n a lo hi)=some d:=by simpa[C7,JC] using hs
   simp only[FH,hn]at hs;split at hs<;>simp[Pv]at hs
  | some o =>
   rw[h n o hn];rw[hn]at hs;split at hs
   .cases hs
   grind [GH]
 exact GH h hs
theorem Va (h:mQ σ σ') {l:Bool}:∀ {ts:List Ty} {xs:List Operand} {ds:Jl ts},Ops σ σ' xs->GX l σ ts xs=some ds->GX l σ' ts xs=some ds
 | [],[],ds,_,hs=>hs
 | [],_ :: _,ds,_,hs=>by simp[GX]at hs
 | _ :: _,[],ds,_,hs=>by simp[GX]at hs
 | t :: ts,x :: xs,ds,b,hs=>by
  simp only[GX]at hs ⊢;cases a:Al σ x with
  | none=>rw[a]at hs;cases hs
  | some v =>
   rw[b x sc v a];rw[a]at hs;simp only at hs ⊢;split at hs
   .rename_i y ys c d;rw[GH h c,Va h (λz hz=>b z (by simp[hz])) d];exact hs
   cases hs
theorem TT (h:mQ σ σ') {e:Ty}:∀ {parts:List (Nat×Operand)} {k:Nat} {xs:List e.den},Ops σ σ' (parts.map (·.2))->FI σ e k parts=some xs->FI σ' e k parts=some xs
 | [],k,xs,_,hs=>hs
 | (i,x) :: r,k,xs,b,hs=>by
  simp only[FI]at hs ⊢;split at hs
  .rename_i c;rw[At c];cases a:Al σ x with
   | none=>rw[a]at hs;cases hs
   | some v =>
    rw[b x sc v a];rw[a]at hs;simp only at hs ⊢;split at hs
    .rename_i y ys d f;rw[GH h d,TT h (λz hz=>b z (by simp at hz ⊢;exact .inr hz)) f];exact hs
    cases hs
  cases hs
theorem fS (h:mQ σ σ') {z:Option AV} {x:Operand} (d:∀v,Al σ x=some v->Al σ' x=some v) (hs:F8 σ z (Al σ x)=some v):F8 σ' z (Al σ' x)=some v:=by
 cases b:Al σ x with
 | none=>rw[b]at hs;unfold F8 at hs;split at hs<;>simp at *
 | some a =>
  rw[d a b];rw[b]at hs;unfold F8 at hs ⊢;split at hs
  .rename_i t _ l c;cases c;simp only[No]at hs ⊢;grind [GH]
  exact hs
theorem QM (h:mQ σ σ') {offs:List (Nat×Nat)}:∀ {parts:List (Nat×Operand)} {fs a:List AV},Ops σ σ' (parts.map (·.2))->D2 σ offs fs parts=some a->D2 σ' offs fs parts=some a
 | [],fs,a,_,hs=>hs
 | (i,x) :: r,fs,a,c,hs=>by
  simp only[D2]at hs ⊢;cases b:F8 σ fs[i]? (Al σ x) with
  | none=>rw[b]at hs;cases hs
  | some v =>
   rw[fS h (c x sc) b];rw[b]at hs;simp only at hs ⊢;split at hs
   .rename_i d;rw[At d];exact QM h (λz hz=>c z (by simp at hz ⊢;exact .inr hz)) hs
   cases hs
theorem Vb:∀ {xs:List Operand} {ns:List Nat},Ops σ σ' xs->IE σ xs=some ns->IE σ' xs=some ns
 | [],ns,_,hs=>hs
 | x :: r,ns,a,hs=>by
  simp only[IE]at hs ⊢;split at hs
  .rename_i n c h1 b;rw[a x sc _ h1,Vb (λz hz=>a z (by simp[hz])) b];exact hs
  cases hs
theorem Uc (h:mQ σ σ') {d:Nat} {op:Op} {r:Prop×AV×List (Nat×Obj)} (A:Ops σ σ' op.operands.toList) (hs:aq tb σ d op=some r):aq tb σ' d op=some r:=by
 have one:∀ {x:Operand} {f:Option AV->Bl},x∈op.operands.toList->f none=none->f (Al σ x)=some r->f (Al σ' x)=some r:=by
  intro x f j hn hf;cases B:Al σ x with
  | none=>rw[B,hn]at hf;cases hf
  | some v=>rw[A x j v B,<-B];exact hf
 have M:∀ {x y:Operand} {f:Option AV->Option AV->Bl},x∈op.operands.toList->y∈op.operands.toList->(∀b,f none b=none)->(∀a,f a none=none)->f (Al σ x) (Al σ y)=some r->f (Al σ' x) (Al σ' y)=some r:=by
  intro x y f j E h1 I hf;cases B:Al σ x with
  | none=>rw[B,h1]at hf;cases hf
  | some v =>
   cases L:Al σ y with
   | none=>rw[L,I]at hf;cases hf
   | some w=>rw[A x j v B,A y E w L,<-B,<-L];exact hf
 cases op<;>simp only[aq]at hs ⊢<;>try(cases hs;done)
 case move x=>exact one (f:=HB) (by simp[Op.operands]) rfl hs
 case assign x=>exact one (f:=HB) (by simp[Op.operands]) rfl hs
 case pick c x y =>
  cases H:Al σ c with
  | none=>rw[H]at hs;simp[Ls]at hs
  | some ad =>
   have ae:=A c (by simp[Op.operands]) ad H;rw[H]at hs;rw[ae];unfold Ls at hs ⊢;split at hs
   .rename_i F;cases F;exact one (f:=HB) (by simp[Op.operands]) rfl hs
   .rename_i F;cases F;exact one (f:=HB) (by simp[Op.operands]) rfl hs
   cases hs
 case alloc t=>exact hs
 case box t x=>exact one (f:=UA d t (lk t tb.ty)) (by simp[Op.operands]) (by cases lk t tb.ty<;>simp[UA]) hs
 case build t parts =>
  unfold Jn at hs ⊢;split at hs
  .rename_i u offs el b F;cases G:D2 σ offs (T8 (inB d tb.pure) u) parts.toList with
   | none=>rw[G]at hs;simp[HB]at hs
   | some fs =>
    rw[QM h (by simpa[Op.operands] using A) G];rw[G]at hs;exact hs
  cases hs
 case buildSlice t n parts =>
  cases W:lk d tb.nests with
  | some au =>
   rw[W]at hs;simp only[G2]at hs ⊢;unfold Jp at hs ⊢;split at hs
   .rename_i x ax offs el b G F;cases j:Al σ x with
    | none=>rw[j]at hs;unfold Jo at hs;split at hs<;>first|(cases hs;done)|(rename_i I;cases I)
    | some av =>
     rw[A x (by simp[Op.operands,G]) av j];rw[j]at hs;unfold Jo at hs ⊢;split at hs
     .rename_i k e ba bb ap;unfold Kt at hs;split at hs
      .rename_i aa S;rw[KJ h S];exact hs
      .rename_i aa ao l S;split at hs
       .rename_i U;rw[KJ h S];simp only[Kt,U,ACk];exact hs
       cases hs
      cases hs
     cases hs
   cases hs
  | none =>
  rw[W]at hs;simp only[G2]at hs ⊢;unfold Bu at hs ⊢;split at hs
  .rename_i e offs el b F;cases G:FI σ e 0 parts.toList with
   | none=>rw[G]at hs;simp[B1]at hs
   | some xs =>
    rw[TT h (by simpa[Op.operands] using A) G];rw[G]at hs;exact hs
  cases hs
 case load t x =>
  cases j:Al σ x with
  | none=>rw[j]at hs;simp[KC]at hs
  | some v =>
   rw[A x (by simp[Op.operands]) v j];rw[j]at hs;unfold KC at hs ⊢;split at hs
   .rename_i ti n am off Q J;cases hn:lk n σ.objs with
    | none=>rw[hn]at hs;simp[Ea]at hs
    | some o=>rw[h n o hn,<-hn];exact hs
   .rename_i ti n e i am off Q J;cases hn:lk n σ.objs with
    | none=>rw[hn]at hs;simp[Eb]at hs
    | some o=>rw[h n o hn,<-hn];exact hs
   .exact hs
   cases hs
 case nilCheck x=>exact one (f:=VC) (by simp[Op.operands]) (by simp[VC]) hs
 case binOp op t x y aw=>exact M (f:=Rr op (lk t tb.ty)) (by simp[Op.operands]) (by simp[Op.operands]) (λb=>by simp[Rr]) (λa=>by cases a<;>simp[Rr]) hs
 case unOp op t x=>exact one (f:=qUn op) (by simp[Op.operands]) (by cases op<;>simp[qUn]) hs
 case convert s t x=>exact one (f:=KD (lk s tb.ty) (lk t tb.ty)) (by simp[Op.operands]) (by cases lk s tb.ty<;>cases lk t tb.ty<;>simp[KD]) hs
 case makeSlice t l c=>exact M (f:=JJ tb d (lk t tb.ty)) (by simp[Op.operands]) (by simp[Op.operands]) (λb=>by cases lk t tb.ty<;>simp[JJ]) (λa=>by cases lk t tb.ty<;>simp[JJ]) hs
 case slice t x lo hi al =>
  cases al with
  | some m =>
   cases lo with
   | some _=>cases hi<;>simp[aq]at hs
   | none =>
    cases hi with
    | none=>simp[aq]at hs
    | some h1 =>
     simp only[aq]at hs ⊢;cases j:Al σ x with
     | none=>rw[j]at hs;cases C:lk t tb.ty<;>rw[C]at hs<;>simp[D3]at hs
     | some v =>
      cases hh:Al σ h1 with
      | none=>rw[j,hh]at hs;cases C:lk t tb.ty<;>rw[C]at hs<;>simp[D3]at hs
      | some B =>
       cases K:Al σ m with
       | none=>rw[j,hh,K]at hs;cases C:lk t tb.ty<;>rw[C]at hs<;>simp[D3]at hs
       | some ak =>
        rw[A x (by simp[Op.operands]) v j,A h1 (by simp[Op.operands]) B hh,A m (by simp[Op.operands]) ak K];rw[j,hh,K]at hs;exact hs
  | none =>
   simp only[aq]at hs ⊢;have Z:∀ {y:Option Operand},(∀z,y=some z->z∈(Op.slice t x lo hi none).operands.toList)->∀w,HA σ y=some w->HA σ' y=some w:=by
    intro y E w L;cases y with
    | none=>exact L
    | some z =>
     simp only[HA,No]at L ⊢;obtain⟨v,B,rfl⟩:=L;exact⟨v,A z (E z rfl) v B,rfl⟩
   cases j:Al σ x with
   | none=>rw[j]at hs;cases C:lk t tb.ty<;>rw[C]at hs<;>simp[Fe]at hs
   | some v =>
    cases h1:HA σ lo with
    | none=>rw[h1]at hs;cases C:lk t tb.ty<;>rw[C]at hs<;>simp[Fe]at hs
    | some a =>
     cases I:HA σ hi with
     | none=>rw[I]at hs;cases C:lk t tb.ty<;>rw[C]at hs<;>simp[Fe]at hs
     | some b =>
      rw[A x (by simp[Op.operands]) v j,Z (by rintro z rfl;simp[Op.operands]) a h1,Z (by rintro z rfl;simp[Op.operands]) b I];rw[j,h1,I]at hs;exact hs
 case fieldAddr s x f=>exact one (f:=HY f (lk s tb.ty)) (by simp[Op.operands]) (by cases lk s tb.ty<;>simp[HY]) hs
 case indexAddr t x i=>exact M (f:=F9 (lk t tb.ty)) (by simp[Op.operands]) (by simp[Op.operands]) (λb=>by cases lk t tb.ty<;>simp[F9]) (λa=>by cases lk t tb.ty<;>simp[F9]) hs
 case index t x i=>exact M (f:=Ee (lk t tb.ty)) (by simp[Op.operands]) (by simp[Op.operands]) (λb=>by cases lk t tb.ty<;>simp[Ee]) (λa=>by cases lk t tb.ty<;>simp[Ee]) hs
 case extract x i=>exact one (f:=Em i) (by simp[Op.operands]) (by simp[Em]) hs
 case makeFunc fn first ab =>
  unfold Z2 at hs ⊢;split at hs
  .rename_i f hf;split at hs;case isFalse=>cases hs
   rename_i ah;cases H:IE σ ab.toList with
   | none=>rw[H]at hs;simp[P2]at hs
   | some ns =>
    rw[At ah,Vb (λz hz=>A z (by simp[Op.operands]at hz ⊢;exact .inr hz)) H];rw[H]at hs;exact hs
  .rename_i f x hf ar;exact one (f:=Z1 f) (by simp[Op.operands,hf]) rfl hs
  cases hs
 case makeMap t res =>
  cases res with
  | some z=>simp[aq]at hs
  | none=>simp only[aq]at hs ⊢;exact hs
 case lookup t x i ok =>
  cases j:Al σ x with
  | none=>rw[j]at hs;simp[JL]at hs
  | some xv =>
   cases hi:Al σ i with
   | none=>rw[j,hi]at hs;simp[JL]at hs
   | some Y =>
    rw[A x (by simp[Op.operands]) xv j,A i (by simp[Op.operands]) Y hi];rw[j,hi]at hs;unfold JL at hs ⊢;split at hs
    .rename_i k e _ _ n z Q J ag;cases J;cases ag;cases hn:lk n σ.objs with
     | none=>rw[hn]at hs;simp[IG]at hs
     | some o =>
      rw[hn]at hs;rw[h n o hn];unfold IG at hs ⊢;split at hs
      .rename_i aj az l A;cases A;split at hs
       .rename_i H;rw[At H];cases hk:JC false σ aj Y with
        | none=>rw[hk]at hs;simp[Kx]at hs
        | some kd=>rw[GH h hk];rw[hk]at hs;exact hs
       cases hs
      cases hs
    cases hs
 case call c =>
  obtain⟨callee,args,argTypes⟩:=c;have D:∀x∈args.toList,x∈(Op.call ⟨callee,args,argTypes⟩).operands.toList:=λx j=>by
   have:x∈args:=by simpa using j
   cases callee<;>simp[Op.operands,Call.operands,this]
  cases callee with
  | invoke r m=>simp[DC]at hs
  | value g =>
   simp only[DC]at hs ⊢;cases N:Al σ g with
   | none=>rw[N]at hs;simp[MP]at hs
   | some af =>
    rw[A g (by simp[Op.operands,Call.operands]) af N];rw[N]at hs;unfold MP at hs ⊢;split at hs
    .rename_i f F;cases X:lk f tb.fns with
     | none=>rw[X]at hs;simp[Jr]at hs
     | some sp =>
      rw[X]at hs;simp only[Jr]at hs ⊢;cases T:GX sp.lend σ sp.ins args.toList with
      | none=>rw[T]at hs;simp[Kw]at hs
      | some ds =>
       rw[Va h (λx j=>A x (D x j)) T];rw[T]at hs;exact hs
    cases hs
  | builtin b =>
   simp only[DC]at hs ⊢;obtain⟨args⟩:=args;obtain⟨argTypes⟩:=argTypes;simp only at hs D ⊢;unfold DS at hs ⊢;split at hs
   .exact one (f:=UB (lk _ tb.ty)) (D _ sc) (by cases lk _ tb.ty<;>simp[UB]) hs
   .rename_i x y t u;cases j:Al σ x with
    | none=>rw[j]at hs;simp[Cy]at hs
    | some xv =>
     cases E:Al σ y with
     | none=>rw[j,E]at hs;simp[Cy]at hs
     | some P =>
      rw[A x (D _ sc) xv j,A y (D _ sc) P E];rw[j,E]at hs;unfold Cy at hs ⊢;split at hs
      .split at hs
       .rename_i O;simp only[O,ACk];rename_i Q J;cases J;rw[O]at hs;cases C:lk u tb.ty with
        | none=>rw[C]at hs;simp[Eo]at hs
        | some ti =>
         rw[C]at hs;unfold Eo at hs ⊢;split at hs
         .rename_i e offs el b F;cases B:Pw σ e P with
          | none=>rw[B]at hs;cases V:lk el tb.ty<;>rw[V]at hs<;>simp[FN]at hs
          | some ys =>
           rw[B]at hs;rw[Mf h B];exact hs
         cases hs
       cases hs
      .split at hs
       .rename_i O;simp only[O,ACk];rename_i Q J;cases J;rw[O]at hs;cases C:lk u tb.ty with
        | none=>rw[C]at hs;simp[Jq]at hs
        | some ti =>
         rw[C]at hs;unfold Jq at hs ⊢;split at hs
         .rename_i e offs el b F;split at hs
          .rename_i U;simp only[U,ACk];cases B:Pw σ _ P with
           | none=>rw[B]at hs;cases V:lk el tb.ty<;>rw[V]at hs<;>simp[Kv]at hs
           | some ys =>
            rw[B]at hs;rw[Mf h B];exact hs
          cases hs
         cases hs
       cases hs
      cases hs
   .exact M (f:=Rs) (D _ sc) (D _ sc) (λb=>by simp[Rs]) (λa=>by cases a<;>simp[Rs]) hs
   .exact M (f:=Ru) (D _ sc) (D _ sc) (λb=>by simp[Ru]) (λa=>by cases a<;>simp[Ru]) hs
   .rename_i x y z t u ay;cases j:Al σ x with
    | none=>rw[j]at hs;simp[JK]at hs
    | some xv =>
     cases E:Al σ y with
     | none=>rw[j,E]at hs;simp[JK]at hs
     | some P =>
      cases hz:Al σ z with
      | none=>rw[j,E,hz]at hs;simp[JK]at hs
      | some an =>
       rw[A x (D _ sc) xv j,A y (D _ sc) P E,A z (D _ sc) an hz,<-j,<-E,<-hz];exact hs
   .rename_i ts x y z u r;have N:∀(r:List Operand) (k:IntKind) (o:Option Int) (m:Int),(∀q∈r,∀v,Al σ q=some v->Al σ' q=some v)->Fq σ k o r=some m->Fq σ' k o r=some m:=by
     intro r;induction r with
     | nil=>intro k o m _ h;cases o<;>(simp[Fq]at h;try exact AC4 some h)
     | cons q r ai =>
      intro k o m R h;cases o with
      | none=>simp[Fq]at h
      | some a =>
       simp only[Fq]at h ⊢;cases B:Al σ q with
       | none=>rw[B]at h;cases r<;>simp[OL,Fq]at h
       | some v =>
        rw[B]at h;rw[R q sc v B];exact ai k _ m (λp G=>R p (by simp[G])) h
    cases j:Al σ x with
    | none=>rw[j]at hs;simp[OM]at hs
    | some xv =>
     rw[j]at hs;rw[A x (D _ sc) xv j];unfold OM at hs ⊢;split at hs
     .rename_i k a F;cases F;cases K:Fq σ k (some a) (y :: z :: u :: r) with
      | none=>rw[K]at hs;simp[P1]at hs
      | some m =>
       rw[K]at hs;rw[N _ _ _ _ (λq R=>A q (D _ (GO _ R))) K];exact hs
     cases hs
   cases hs
end
end
end Go.Proofs.YtddbnflakbngaaaGreatDoor.Fw
