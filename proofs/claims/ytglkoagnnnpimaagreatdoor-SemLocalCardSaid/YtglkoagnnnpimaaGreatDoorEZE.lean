/- One operation, a sequence, loops, the entry and the end of a function: the rules. -/
import Derived.Test.YtglkoagnnnpimaaGreatDoorEZD
import Derived.Deep.LoopGhost
import Derived.ControlIn
set_option linter.unusedVariables false
set_option linter.unusedSimpArgs false
namespace Go.Proofs.YtglkoagnnnpimaaGreatDoor.Fw
variable {j n:Nat} {x y:Code} {Q:Exit->Act->World->Prop} {Z O:St} {a:Act} {w:World} {v P:AV} {Y:Act->World->Prop} {X:ResultVar} {W:Value} {o:Operand} {V:Oper} {U:Array Oper} {b:Bool} {T:Type} {S:Nat->Value} {R:Func} {N:Prop}
section
open Go Go.RowKit
abbrev ACh:=@Go.wpIn_region_list
abbrev ADf:=@Go.wpIn_mono
structure Cx where
 P:Program
 tb:Tb
 w0:World
 K:Nat->Prop
 O0:Nat->Prop
 nt:Nat
 
 ds:Fp:={}
 
 r:Option Nat:=none
structure Cx.Ok (c:Cx):Prop where
 K:∀b,c.K b->b<c.w0.heap.size
 O:∀b,c.O0 b->b<c.w0.heap.size
 T:C7 c.P c.tb
 F:Id c.P c.tb
 G:GW c.w0 c.K c.O0
def Cx.sat (c:Cx) (σ:St) (a:Act) (w:World):Prop:=∃ρ,B7 c.w0 c.K c.O0 c.nt c.ds σ ρ a w
section
variable {c:Cx}
theorem s5 (hc:c.Ok) {σ:St} {ρ:Nat->Value} (h:B7 c.w0 c.K c.O0 c.nt c.ds σ ρ a w):A95 c.P c.tb w c.O0 σ ρ a where
 hT:=hc.T
 hF:=hc.F
 hG:=hc.G.mono (λb hk ho=>⟨AB0 (hc.K b hk) h.frm.size,λhb=>by
  rcases hb with h0|⟨n,hn,hb⟩
  .exact ho h0
  exact(h.free n b hn hb).1 hk⟩) h.frm.block
 obj:=h.objs
 own:=by
  intro b hb;rcases hb with h0|⟨n,⟨o,ho⟩,hb⟩
  .exact AB0 (hc.O b h0) h.frm.size
  exact(h.objs n o ho).block_lt hb
 ev:=Cg h.env
theorem xS (e:c.Ok) {σ σ':St} {ρ:Nat->Value} (hs:B7 c.w0 c.K c.O0 c.nt c.ds σ ρ a w) {o:Oper} (h:Fl c.tb σ o.dst o.op=some (N,σ')) (k:N) (j:∀d,o.dst=some d->d<c.nt)
  {next:Act->World->Prop} (hn:∀i w',c.sat σ' i w'->next i w'):o.wpIn (FR c.r) 0 c.P a w next Q:=by
 obtain⟨dst,op,type,pos,after,guard⟩:=o;simp only at h j;cases op<;>simp only[Fl]at h<;>try(cases h;done)
 case store t x y =>
  cases dst with
  | some d=>simp[EM]at h
  | none =>
   simp only[EM]at h;obtain⟨w',ρ',h1,f⟩:=jO (P:=c.P) hs e.K e.O e.T h k;exact n4 (w':=w') (by simp[execOp,h1]) (hn _ _ ⟨ρ',f⟩)
 case mapUpdate t m x y =>
  cases dst with
  | some d=>simp[EM]at h
  | none =>
   simp only[EM]at h;obtain⟨w',h1,f⟩:=s4 (P:=c.P) hs e.K e.T h;exact n4 (w':=w') (by simp[execOp,h1]) (hn _ _ ⟨ρ,f⟩)
 case call cl =>
  obtain⟨callee,args,argTypes⟩:=cl;cases callee with
  | value g=>simp[Da]at h
  | invoke r m=>simp[Da]at h
  | builtin b =>
   simp only[Da]at h;obtain⟨args⟩:=args;obtain⟨argTypes⟩:=argTypes;simp only at h;unfold D1 at h;split at h
   .rename_i x y t u;obtain⟨z,w',ρ',h1,f⟩:=jN (P:=c.P) (ty:=type) hs e.K e.O e.T j h k;exact Ah (u:=z) (w':=w') (by simp[execOp,resolve,invoke,builtin,h1]) (hn _ _ ⟨ρ',f⟩)
   cases h
theorem PH (b:c.Ok) {σ σ':St} (hs:c.sat σ a w) {o:Oper} (h:Ge c.tb o σ=some (N,σ')) (i:N) (g:∀d,o.dst=some d->d<c.nt)
  {next:Act->World->Prop} (hn:∀f w',c.sat σ' f w'->next f w'):o.wpIn (FR c.r) 0 c.P a w next Q:=by
 obtain⟨ρ,hs⟩:=hs;have hs:=KI (l:=Cc σ o.op) hs;unfold Ge R1 at h;generalize Cw (Cc σ o.op) σ=k at h hs;cases e:aq c.tb k (o.dst.getD 0) o.op with
 | some r =>
  obtain⟨m,v,obs⟩:=r;rw[e]at h;simp only[La]at h;split at h
  .rename_i hf;cases h;exact nX (s5 b hs) e i hf λu ρ' w' j=>hn _ _ ⟨ρ',hs.add b.K b.O g hf j⟩
  cases h
 | none =>
  rw[e]at h;exact xS b hs h i g hn
theorem HN {ops:Array Oper} {σ:St} (hs:c.sat σ a w) {o:Oper} (h:FD ops.toList σ o.guard=some b):Region.wanted o (yielded ops a.tmps)=b:=by
 obtain⟨ρ,hs⟩:=hs;unfold FD at h;split at h
 .rename_i e;cases h;simp[Region.wanted,e]
 rename_i j q e;cases f:(ops.toList[j]?).bind (·.dst) with
 | none=>rw[f]at h;simp[Lb]at h
 | some g =>
  rw[f]at h;simp only[Lb]at h;cases i:lk g σ.env with
  | none=>rw[i]at h;simp[Qn]at h
  | some v =>
   rw[i]at h;unfold Qn at h;split at h
   .rename_i l m;cases m;cases h;have d:=hs.env g _ i;have d:=EB d;have p:(ops[j]?).bind (·.dst)=some g:=by simpa using f
    have n:a.tmps[g]?=some (.bool l):=by
     by_cases k:g<a.tmps.size
     .have:a.tmps.getD g undef=a.tmps[g]:=by simp[Array.getD,k]
      rw[this]at d;rw[AAD k,d]
     have:a.tmps.getD g undef=undef:=by simp[Array.getD,k]
     rw[this]at d;cases d
    simp only[Region.wanted,e,yielded,p,Option.bind_some,n];cases l<;>cases q<;>rfl
   cases h
theorem Mm {σ:St} (b:c.Ok) (hs:c.sat σ a w) {dst:Option Nat} (e:∀d,dst=some d->d<c.nt):c.sat (σ.add (.raw undef) [] dst) (a.put dst undef) w:=by
 obtain⟨ρ,hs⟩:=hs;exact⟨ρ,hs.add b.K b.O e (by simp[Bk]) (QS.still rfl)⟩
def JZ (nt:Nat) (o:Oper):Bool :=
 match o.dst with
 | some d=>decide (d<nt)
 | none=>true
theorem A7 {nt:Nat} {o:Oper} (h:JZ nt o=true):∀d,o.dst=some d->d<nt:=by grind [JZ]
theorem Qt (d:c.Ok) {ops:Array Oper} {Q:Exit->Act->World->Prop} {r:List Oper}:∀(l:List Oper) {σ σ':St} {vc:Prop} {a:Act} {w:World},c.sat σ a w->(∀o∈l,JZ c.nt o=true)->B2 c.tb ops.toList l σ=some (vc,σ')->vc ->
  (∀g w',c.sat σ' g w'->wpListIn (FR c.r) 0 c.P ops Q r g w')->wpListIn (FR c.r) 0 c.P ops Q (l++r) a w
 | [],σ,σ',vc,a,w,hs,e,h,f,i=>by grind [B2]
 | o :: l,σ,σ',vc,a,w,hs,e,h,f,i=>by
  simp only[B2]at h;cases j:FD ops.toList σ o.guard with
  | none=>rw[j]at h;simp[evG]at h
  | some b =>
   rw[j]at h;have s:=HN hs j;have q:=A7 (e o sc);rw[To];unfold wpListIn;cases b with
   | true =>
    simp only[evG]at h;rw[At s];cases n:Ge c.tb o σ with
    | none=>rw[n]at h;simp[evK]at h
    | some r =>
     obtain⟨x,v⟩:=r;rw[n]at h;simp only[evK]at h;cases m:B2 c.tb ops.toList l v with
     | none=>rw[m]at h;simp[W6]at h
     | some u =>
      obtain⟨y,σ2⟩:=u;rw[m]at h;simp only[W6]at h;cases h;exact PH d hs n f.1 q λg w' t=>Qt d l t (λp k=>e p (by simp[k])) m f.2 i
   | false =>
    simp only[evG]at h;rw[An (by simp[s])];refine⟨λ_ _=>trivial,?_⟩;exact Qt d l (Mm d hs q) (λp k=>e p (by simp[k])) h f i
theorem PI (e:c.Ok) {ops:Array Oper} {Q:Exit->Act->World->Prop}:∀(l:List Oper) {σ σ':St} {vc:Prop} {a:Act} {w:World},c.sat σ a w->(∀o∈l,JZ c.nt o=true)->B2 c.tb ops.toList l σ=some (vc,σ')->vc ->
  (∀i w',c.sat σ' i w'->Q .normal i w')->wpListIn (FR c.r) 0 c.P ops Q l a w
 | [],σ,σ',vc,a,w,hs,f,h,g,d=>by
  simp only[B2]at h;cases h;exact d _ _ hs
 | o :: l,σ,σ',vc,a,w,hs,f,h,g,d=>by
  simp only[B2]at h;cases j:FD ops.toList σ o.guard with
  | none=>rw[j]at h;simp[evG]at h
  | some b =>
   rw[j]at h;have s:=HN hs j;have q:=A7 (f o sc);unfold wpListIn;cases b with
   | true =>
    simp only[evG]at h;rw[At s];cases n:Ge c.tb o σ with
    | none=>rw[n]at h;simp[evK]at h
    | some r =>
     obtain⟨x,v⟩:=r;rw[n]at h;simp only[evK]at h;cases m:B2 c.tb ops.toList l v with
     | none=>rw[m]at h;simp[W6]at h
     | some u =>
      obtain⟨y,σ2⟩:=u;rw[m]at h;simp only[W6]at h;cases h;exact PH e hs n g.1 q λi w' t=>PI e l t (λp k=>f p (by simp[k])) m g.2 d
   | false =>
    simp only[evG]at h;rw[An (by simp[s])];refine⟨λ_ _=>trivial,?_⟩;exact PI e l (Mm e hs q) (λp k=>f p (by simp[k])) h g d
end
end
section
open Go Go.RowKit
inductive Cl where
 | seq (c:Code)
 | blk (id:Nat)
 
 | inv (post:St->Prop)
def Bu (nt:Nat):Code->Bool
 | .region _ ops _=>ops.toList.all (JZ nt)
 | .seq a b=>Bu nt a&&Bu nt b
 | .cond _ a b=>Bu nt a&&Bu nt b
 | .block _ b=>Bu nt b
 | .loop b=>Bu nt b
 | .scope b=>Bu nt b
 | _=>true
def C1 (nt:Nat):List Cl->Bool
 | []=>true
 | .seq c :: k=>Bu nt c&&C1 nt k
 | _ :: k=>C1 nt k
def TE (c:Cx) (R:Exit->Act->World->Prop):List Cl->Exit->Act->World->Prop
 | [],e,a,w=>R e a w
 | .seq y :: k,.normal,a,w=>y.wpIn (FR c.r) 0 c.P (TE c R k) a w
 | .seq _ :: k,e,a,w=>TE c R k e a w
 | .blk id :: k,.exit b,a,w=>if b=id then TE c R k .normal a w else TE c R k (.exit b) a w
 | .blk _ :: k,e,a,w=>TE c R k e a w
 | .inv post :: _,.normal,a,w=>∃σ,c.sat σ a w/\post σ
 | .inv _ :: k,e,a,w=>TE c R k e a w
inductive n6 where
 | run (cd:Code)
 | out (e:Exit)
def nwp (c:Cx) (R:Exit->Act->World->Prop) (k:List Cl):n6->Act->World->Prop
 | .run cd,a,w=>cd.wpIn (FR c.r) 0 c.P (TE c R k) a w
 | .out e,a,w=>TE c R k e a w
def Hs (nt:Nat):n6->Bool
 | .run cd=>Bu nt cd
 | .out _=>true
def Ev (c:Cx) (R:Exit->Act->World->Prop) (n:n6) (k:List Cl) (σ:St):Prop :=
 Hs c.nt n=true->C1 c.nt k=true->∀a w,c.sat σ a w->nwp c R k n a w
theorem Sr {F:Fence} {P:Program} {c:Code} (b:Nat->Act->World->Prop) (i:Nat) (o:b i a w)
  (round:∀n a w,b n a w->c.wpIn F j P (Exit.then (λg w'=>∃f,f<n/\b f g w') Q) a w):(Code.loop c).wpIn F j P Q a w:=by
 refine wpIn_loop (λa w=>∃n,b n a w) (λa w=>leastOf (λn=>b n a w)) ⟨i,o⟩ ?_;intro a w k;refine ADf (round _ a w (leastOf_spec k).1) ?_;intro e g w' d;cases e with
 | normal =>
  obtain⟨f,m,h⟩:=d;exact show (∃n,b n g w')/\leastOf (λn=>b n g w')<leastOf (λn=>b n a w) from ⟨⟨f,h⟩,ACM ((leastOf_spec ⟨f,h⟩).2 f h) m⟩
 | exit id=>exact d
 | goto l=>exact d
 | ret=>exact d
 | panic ch=>exact d
 | outgrown=>exact d
def wM (c:Cx) (σ σ':St):Prop:=∀a w,c.sat σ a w->c.sat σ' a w
section
variable {c:Cx} {R:Exit->Act->World->Prop} {k:List Cl} {σ σ':St}
theorem Ev.ent {n:n6} (h:Ev c R n k σ') (d:wM c σ σ'):Ev c R n k σ:=λh1 b a w hs=>h h1 b a w (d a w hs)
theorem A6N (h:Ev c R (.run x) (.seq y :: k) σ):Ev c R (.run (.seq x y)) k σ:=by
 intro h1 b a w hs;simp only[Hs,Bu,AT]at h1;refine wpIn_seq (ADf (h h1.1 (by simp[C1,h1.2,b]) a w hs) ?_);intro e f w' d;cases e<;>exact d
theorem A3A (h:Ev c R (.out .normal) k σ):Ev c R (.run .skip) k σ:=λ_ b a w hs=>wpIn_skip (h rfl b a w hs)
theorem A6O (h:Ev c R (.out .ret) k σ):Ev c R (.run .ret) k σ:=λ_ b a w hs=>wpIn_ret (h rfl b a w hs)
theorem A3B (h:Ev c R (.out (.exit j)) k σ):Ev c R (.run (.exit j)) k σ:=λ_ b a w hs=>wpIn_exit (h rfl b a w hs)
theorem xT {b:Code} (h:Ev c R (.run b) (.blk j :: k) σ):Ev c R (.run (.block j b)) k σ:=by
 intro h1 d a w hs;refine wpIn_block (ADf (h (by simpa[Hs,Bu] using h1) (by simpa[C1] using d) a w hs) ?_);intro e g w' f;cases e<;>exact f
def EvR (c:Cx) (R:Exit->Act->World->Prop) (k:List Cl):C2->Prop
 | some (vc,σ)=>vc/\Ev c R (.out .normal) k σ
 | none=>False
theorem s6 (f:c.Ok) {ops:Array Oper} (h:EvR c R k (B2 c.tb ops.toList ops.toList σ)):Ev c R (.run (.region j ops false)) k σ:=by
 intro h1 e a w hs;cases b:B2 c.tb ops.toList ops.toList σ with
 | none=>rw[b]at h;exact h.elim
 | some r =>
  obtain⟨vc,σ'⟩:=r;rw[b]at h;simp only[Hs,Bu,NO]at h1;exact ACh (PI f ops.toList hs h1 b h.1 λd w' g=>h.2 rfl e d w' g)
def EvC (c:Cx) (R:Exit->Act->World->Prop) (x y:Code) (k:List Cl) (σ:St):Option AV->Prop
 | some (.p .bool b)=>(b=true->Ev c R (.run x) k σ)/\(b=false->Ev c R (.run y) k σ)
 | _=>False
theorem A3C (h:EvC c R x y k σ (Aj σ o)):Ev c R (.run (.cond o x y)) k σ:=by
 intro h1 g a w hs;simp only[Hs,Bu,AT]at h1;obtain⟨ρ,f⟩:=hs;have j:=Cg f.env;cases e:Aj σ o with
 | none=>rw[e]at h;exact h.elim
 | some v =>
  have l:=j o v e;rw[e]at h;unfold EvC at h;split at h
  .rename_i b i;cases i;have d:=EB l;exact wpIn_cond_split d (λd=>h.1 d h1.1 g a w ⟨ρ,f⟩) (λd=>h.2 d h1.2 g a w ⟨ρ,f⟩)
  exact h.elim
theorem UW {y:Code} (h:Ev c R (.run y) k σ):Ev c R (.out .normal) (.seq y :: k) σ:=by
 intro _ b a w hs;simp only[C1,AT]at b;exact h b.1 b.2 a w hs
theorem cU {y:Code} (h:Ev c R (.out (.exit j)) k σ):Ev c R (.out (.exit j)) (.seq y :: k) σ:=by
 intro _ b a w hs;simp only[C1,AT]at b;exact h rfl b.2 a w hs
theorem jP {y:Code} (h:Ev c R (.out .ret) k σ):Ev c R (.out .ret) (.seq y :: k) σ:=by
 intro _ b a w hs;simp only[C1,AT]at b;exact h rfl b.2 a w hs
theorem jQ (h:Ev c R (.out .normal) k σ):Ev c R (.out .normal) (.blk j :: k) σ:=λ_ b a w hs=>h rfl (by simpa[C1] using b) a w hs
theorem SE {b:Nat} (h:if b=j then Ev c R (.out .normal) k σ else Ev c R (.out (.exit b)) k σ):Ev c R (.out (.exit b)) (.blk j :: k) σ:=by
 intro _ d a w hs;have d:C1 c.nt k=true:=by simpa[C1] using d
 show (if b=j then TE c R k .normal a w else TE c R k (.exit b) a w);split at h
 .rename_i e;rw[At e];exact h rfl d a w hs
 rename_i e;rw[An e];exact h rfl d a w hs
theorem jR (h:Ev c R (.out .ret) k σ):Ev c R (.out .ret) (.blk j :: k) σ:=λ_ b a w hs=>h rfl (by simpa[C1] using b) a w hs
theorem AB {post:St->Prop} (h:post σ):Ev c R (.out .normal) (.inv post :: k) σ:=λ_ _ _ _ hs=>⟨σ,hs,h⟩
theorem cV {post:St->Prop} (h:Ev c R (.out (.exit j)) k σ):Ev c R (.out (.exit j)) (.inv post :: k) σ:=λ_ b a w hs=>h rfl (by simpa[C1] using b) a w hs
theorem jS {post:St->Prop} (h:Ev c R (.out .ret) k σ):Ev c R (.out .ret) (.inv post :: k) σ:=λ_ b a w hs=>h rfl (by simpa[C1] using b) a w hs
def A96 (c:Cx) {ι:Type} (I:ι->St) (μ:ι->Nat) (i:ι) (σ:St):Prop:=∃j,μ j<μ i/\wM c σ (I j)
theorem AJ {ι:Type} (d:ι->St) (f:ι->Nat) (g:ι) {b:Code} (h0:wM c σ (d g)) (o:∀i,Ev c R (.run b) (.inv (A96 c d f i) :: k) (d i)):Ev c R (.run (.loop b)) k σ:=by
 intro h1 m a w hs;have h1:Bu c.nt b=true:=by simpa[Hs,Bu] using h1
 refine Sr (λn a w=>∃i,f i=n/\c.sat (d i) a w) (f g) ⟨g,rfl,h0 a w hs⟩ ?_;rintro n a w ⟨i,rfl,hs⟩;refine ADf (o i h1 (by simpa[C1] using m) a w hs) ?_;intro e l w' h;cases e with
 | normal =>
  obtain⟨σ',r,j,q,p⟩:=h;exact⟨f j,q,j,rfl,p l w' r⟩
 | _=>exact h
theorem A3D {ι:Type} (b:ι->St) (h:Ev c R (.run x) (.inv (fun σ'=>∃i,wM c σ' (b i)) :: .seq y :: k) σ) (m:∀i,Ev c R (.run y) k (b i)):Ev c R (.run (.seq x y)) k σ:=by
 intro h1 f a w hs;simp only[Hs,Bu,AT]at h1;refine wpIn_seq (ADf (h h1.1 (by simp[C1,h1.2,f]) a w hs) ?_);intro e d w' g;cases e with
 | normal =>
  obtain⟨σ',l,i,j⟩:=g;exact m i h1.2 f d w' (j d w' l)
 | _=>exact g
end
end
section
open Go Go.RowKit
def AM:Nat->(ts:List Ty)->IV ts->List (Nat×AV)
 | _,[],_=>[]
 | s,t :: ts,d=>(s,.p t d.1) :: AM (s+1) ts d.2
def KJ (σ:St) (ty:Ty):Option AV->Option AV
 | some (.bp n a off)=>match EV ty a off (lk n σ.objs) with
  | some (_,v,_)=>some v
  | none=>none
 | _=>none
def I9 (tb:Tb) (σ:St):ResultVar->Option AV
 | .tmp t=>lk t σ.env
 | .cell a t=>match lk t tb.ty with
  | some ti=>KJ σ ti.ty (lk a σ.env)
  | none=>none
def Mn:Option AV->List Nat
 | some v=>v.names
 | none=>[]
def JA (σ:St) (t:Ty):Option AV->Option t.den
 | some v=>I1 false σ t v
 | none=>none
def HA (σ:St) (et:TypeId) (e:Ty):Option Obj->Option (List e.den)
 | some (.arr b a xs)=>if b=et then BZ (.slice e) ⟨.slice a,xs⟩ else none
 | _=>none
def K2 (tb:Tb) (σ:St) (rv:ResultVar):RV->Prop
 | .p t d=>JA (Cw (Mn (I9 tb σ rv)) σ) t (I9 tb (Cw (Mn (I9 tb σ rv)) σ) rv)=some d
 | .own et e xs=>match I9 tb σ rv with
  | some (.sr n a 0 hi)=>a=e/\HA σ et e (lk n σ.objs)=some xs/\hi=xs.length
  | _=>False
def NR (tb:Tb) (σ:St):List ResultVar->List RV->Prop
 | [],[]=>True
 | [rv],[r]=>K2 tb σ rv r
 | rv :: b,.p t d :: a=>K2 tb σ rv (.p t d)/\NR tb σ b a
 | _,_=>False
section
variable {P:Program} {tb:Tb} {w0:World} {O0:Nat->Prop} {nt:Nat} {ds:Fp}
def cx (P:Program) (tb:Tb) (w0:World) (O0:Nat->Prop) (nt:Nat):Cx:={ P:=P,tb:=tb,w0:=w0,K:=λb=>b<w0.heap.size,O0:=O0,nt:=nt }
theorem Xb:∀(ts:List Ty) (a:List Value) (ds:IV ts) (k:Nat) (w:World) (O:Nat->Prop),PC w O ts a ds->∀s v,lk s (AM k ts ds)=some v->k<=s/\∃u,a[s-k]?=some u/\∃t d,v=.p t d/\BX w O t u d
 | [],a,ds,k,w,O,h,s,v,hs=>by simp[AM,lk]at hs
 | t :: ts,a,ds,k,w,O,h,s,v,hs=>by
  obtain⟨u,r,rfl,h1,b⟩:=h;simp only[AM,lk]at hs;split at hs
  .grind
  obtain⟨c,g,e,f⟩:=Xb ts r ds.2 (k+1) w O b s v hs;grind
theorem SF:∀ {ts:List Ty} {a:List Value} {ds:IV ts} {w:World} {O:Nat->Prop},PC w O ts a ds->a.length=ts.length
 | [],a,ds,w,O,h=>by have h:a=[]:=h;subst h;rfl
 | t :: ts,a,ds,w,O,h=>by
  obtain⟨u,r,rfl,h1,b⟩:=h;simp[SF b]
theorem s7 {ts:List Ty} {a:List Value} {ds:IV ts} (h:PC w0 O0 ts a ds) (l:a.length<=nt) :
  (cx P tb w0 O0 nt).sat ⟨AM 0 ts ds,[]⟩ { tmps:=a.toArray++Array.replicate (nt-a.toArray.size) undef,defers:=[] } w0:=by
 refine⟨λ_=>undef,⟨rfl,rfl,rfl,OS _,λ_ _=>rfl⟩,by simp[cx];omega,rfl,(λp k=>by simp[cx]at k),λn o h=>by simp[lk]at h,λn b ⟨o,h⟩=>by simp[lk]at h,λn m b ⟨o,h⟩=>by simp[lk]at h,λs v hs=>?_⟩;obtain⟨_,u,h1,t,d,rfl,e⟩:=Xb ts a ds 0 w0 O0 h s v hs;have c:s<a.length:=by grind
 have i:(a.toArray++Array.replicate (nt-a.toArray.size) undef).getD s undef=u:=by
  have h1:a[s]?=some u:=by simpa using h1
  have:a[s]=u:=by rw[As c]at h1;injection h1
  simp[Array.getElem?_append,c,this]
 rw[i];refine BX.mono (λb _ f g=>?_) (λ_ _ _=>rfl) e;rcases g with h0|⟨n,⟨o,j⟩,_⟩
 .exact f h0
 simp[lk]at j
def Ja (tmps:Array Value):ResultVar->Sem Value
 | .tmp t=>pure (tmps.getD t undef)
 | .cell a t=>do loadVar t (<-asAddr (tmps.getD a undef))
theorem N1 (fn:Func) (tmps:Array Value):results fn tmps=(do let a <-fn.results.mapM (Ja tmps);pure (if h:a.size=1 then a[0] else .tuple a)):=by
 unfold results
 congr 1
theorem TF (hT:C7 P tb) {K:Nat->Prop} {σ:St} {ρ:Nat->Value} {w:World} (hs:B7 w0 K O0 nt ds σ ρ a w) {rv:ResultVar} (h:I9 tb σ rv=some v) :
  ∃u,(Ja a.tmps rv).run P w=.ok u w/\B4 (vw w O0 σ ρ) v u:=by
 cases rv with
 | tmp t =>
  simp only[I9]at h;exact⟨_,by simp[Ja],hs.env t v h⟩
 | cell x t =>
  simp only[I9]at h;cases ht:lk t tb.ty with
  | none=>rw[ht]at h;simp at h
  | some ti =>
   rw[ht]at h;simp only at h;cases d:lk x σ.env with
   | none=>rw[d]at h;simp[KJ]at h
   | some xv =>
    rw[d]at h;unfold KJ at h;split at h
    .rename_i n k off g;cases g;have e:=hs.env x _ d;split at h
     .rename_i vc m obs i;cases h;have j:Kx σ (some ti) (some (.bp n k off))=some (vc,v,obs):=i;obtain⟨_,u,h1,f⟩:=w4 (hT _ _ ht) hs.objs j e;obtain⟨l,b,_,c⟩:=e;rw[c]at h1;have c:a.tmps.getD x undef=.pointer (some ⟨b,off,none⟩):=c;refine⟨u,?_,f⟩;simp only[Instr.loadAt,Instr.sureAddr,AB1,ABw,AAm]at h1;simp only[Ja,c,asAddr,AB1,ABw,AAm,h1]
     cases h
    cases h
theorem A3E (hT:C7 P tb) {K:Nat->Prop} {σ:St} {ρ:Nat->Value} {w:World} (hs:B7 w0 K O0 nt ds σ ρ a w) {rv:ResultVar} {t:Ty} {d:t.den} (h:K2 tb σ rv (.p t d)) :
  ∃u,(Ja a.tmps rv).run P w=.ok u w/\BX w O0 t u d:=by
 unfold K2 at h;have e:=KI (l:=Mn (I9 tb σ rv)) hs;generalize Cw (Mn (I9 tb σ rv)) σ=f at h e;cases c:I9 tb f rv with
 | none=>rw[c]at h;simp[JA]at h
 | some v =>
  rw[c]at h;simp only[JA]at h;obtain⟨u,h1,g⟩:=TF hT e c;have i:=FT (V:=vw w O0 f ρ) (O':=O0) (λb j k=>j (.inl k)) (λh=>by cases h) e.objs h g;exact⟨u,h1,i⟩
theorem xU (hT:C7 P tb) {K:Nat->Prop} {σ:St} {ρ:Nat->Value} {a:Act} {w:World} (hs:B7 w0 K O0 nt ds σ ρ a w):∀ {f:List ResultVar} {c:List RV},(∀r∈c,∃t d,r=.p t d)->NR tb σ f c ->
  ∃e:List Value,(f.mapM (Ja a.tmps)).run P w=.ok e w/\e.length=c.length /\
   ∀nm V,V.w=w->(∀b,V.O b->O0 b)->Ho V (Ib nm c) e
 | [],[],_,_=>⟨[],sc,rfl,λ_ _ _ _=>rfl⟩
 | [],_ :: _,_,h=>by simp[NR]at h
 | _ :: _,[],_,h=>by simp[NR]at h
 | rv :: f,r :: c,i,h=>by
  obtain⟨t,d,rfl⟩:=i r sc;have g:K2 tb σ rv (.p t d)/\NR tb σ f c:=by
   cases f with
   | nil =>
    cases c with
    | nil=>exact⟨h,trivial⟩
    | cons s v=>exact⟨h.1,h.2⟩
   | cons x y=>exact⟨h.1,h.2⟩
  obtain⟨u,h1,o⟩:=A3E hT hs g.1;obtain⟨e,q,j,k⟩:=xU hT hs (λr m=>i r (by simp[m])) g.2;refine⟨u :: e,?_,by simp[j],λnm V n l=>⟨u,e,rfl,?_,k _ V n l⟩⟩
  .simp_all
  show BX V.w V.O t u d;grind [BX.mono]
def UX (P:Program) (fn:Func) (w0:World) (O0:Nat->Prop) (outs:List RV):Exit->Act->World->Prop :=
 bodyPost P fn λe w'=>∃u,e=.returned u/\xC w0 O0 outs u w'
theorem xV (x:(cx P tb w0 O0 nt).Ok) {fn:Func} {outs:List RV} {σ:St} {e:Exit} (y:e=.ret\/e=.normal) (i:∀r∈outs,∃t d,r=.p t d) (h:NR tb σ fn.results.toList outs) :
  Ev (cx P tb w0 O0 nt) (UX P fn w0 O0 outs) (.out e) [] σ:=by
 intro _ _ a w hs;obtain⟨ρ,hs⟩:=hs;obtain⟨f,h1,g,m⟩:=xU x.T hs i h;have h1:(fn.results.toList.mapM (Ja a.tmps)).run P w=.ok f w:=h1;have s:Below w0.heap.size w0 w:=⟨hs.frm.os,hs.frm.tape,hs.frm.output,hs.frm.size,hs.frm.block⟩;have D:∃v,(results fn a.tmps).run P w=.ok v w/\xC w0 O0 outs v w:=by
  have A:(fn.results.mapM (Ja a.tmps)).run P w=.ok f.toArray w:=by
   rw[ABV]
   simp_all
  refine⟨if h:f.toArray.size=1 then f.toArray[0] else .tuple f.toArray,?_,λnm=>⟨λ_=>undef,?_⟩⟩
  .rw[N1];simp only[AB1,A,AAm,ABw]
  have z:C6 nm outs=[]:=by
   clear h h1 g m;induction outs generalizing nm with
   | nil=>rfl
   | cons r F E =>
    obtain⟨t,d,rfl⟩:=i r sc;simp only[C6,UA,jA];exact E (λr C=>i r (by simp[C])) (nm+10000)
  rw[z];refine⟨s,λ_ _=>rfl,?_,(λ_ _ h=>by cases h),(λ_ _ _ h=>by cases h),(λ_ _ _ _ _ h=>by cases h)⟩;have c:=m nm (vw w O0 (Dq ⟨[],[]⟩ []) (λ_=>undef)) rfl (λb q=>by
   rcases q with h0|⟨n,⟨o,B⟩,_⟩
   .exact h0
   simp[Dq,lk]at B)
  match outs,i,f,g,c with
  | [],_,f,g,c =>
   have c:f=[]:=c;subst c;exact(rfl:_=_)
  | [r],i,f,g,c =>
   obtain⟨u,l,rfl,j,k⟩:=c;have k:l=[]:=k;subst k;simp only[Hm];exact wT j
  | G :: H :: F,i,f,g,c =>
   have:¬f.toArray.size=1:=by simp at g ⊢;omega
   rw[dif_neg this];exact⟨f,rfl,c⟩
 obtain⟨v,c,j⟩:=D;rcases y with rfl|rfl
 .exact⟨hs.defers,v,c,v,rfl,j⟩
 exact⟨hs.defers,v,c,v,rfl,j⟩
end
end
section
open Go Go.RowKit
def Ty.ok:(t:Ty)->t.den->Prop
 | .int k,d=>IU k d
 | .bool,_=>True
 | .str,d=>ByteArray.size d<=AP
 | .slice e,d=>List.length d<=AP/\∀x∈(d:List e.den),e.ok x
 | .prod a b,d=>a.ok d.1/\b.ok d.2
 | .agg t,d=>t.ok d
 | .ref k,d=>A5T k d
theorem Ht {w:World} {O:Nat->Prop}:∀ {t:Ty} {cs:List Value} {d:t.den},Bw w O t cs d->t.ok d
 | .int _,_,_,h=>h.2
 | .bool,_,_,_=>trivial
 | .str,_,_,h=>h.2
 | .ref _,_,_,h=>h.2
 | .slice e,_,d,h=>by
  obtain⟨a,c,_,_,f,g⟩:=h;refine⟨f,λx j=>?_⟩;rcases g with g|⟨ad,_,_,k⟩
  .subst g;simp at j
  obtain⟨i,hi,rfl⟩:=wL.1 j;obtain⟨es,_,_,l⟩:=k i _ (As hi);exact Ht l
 | .prod a b,_,_,h=>by
  obtain⟨c1,c2,_,h1,f⟩:=h;exact⟨Ht h1,Ht f⟩
 | .agg t,cs,d,h=>by
  have h:Bw w O t cs d:=h;exact(Ht h:t.ok d)
def oks:(ts:List Ty)->IV ts->Prop
 | [],_=>True
 | t :: ts,d=>t.ok d.1/\oks ts d.2
theorem n7 {w:World} {O:Nat->Prop}:∀ {ts:List Ty} {a:List Value} {ds:IV ts},PC w O ts a ds->oks ts ds
 | [],_,_,_=>trivial
 | t :: ts,a,ds,h=>by
  obtain⟨v,r,rfl,⟨cs,h1,_⟩,b⟩:=h;exact⟨Ht h1,n7 b⟩
section
variable {P:Program} {tb:Tb} {w0:World} {O0:Nat->Prop} {nt:Nat}
theorem A62 {f : FuncId} {fn : Func} {sp : Ab} (d : P.funcs[f]? = some fn) (j : (fn.name == "runtime.NumGoroutine") = false) (c : fn.body = some x) (k : fn.ntmps = nt) (m : sp.ins.length <= nt)
  (i:Bu nt x=true) (hT:C7 P tb) (hF:Id P tb)
  (h:∀(w0:World) (O0:Nat->Prop) (ds:IV sp.ins),(cx P tb w0 O0 nt).Ok->oks sp.ins ds->sp.pre ds->Ev (cx P tb w0 O0 nt) (UX P fn w0 O0 (sp.out ds)) (.run x) [] ⟨AM 0 sp.ins ds,[]⟩):Af P f sp:=by
 refine⟨⟨fn,d,j,by simp[c]⟩,λw O p ds e hG a l=>?_⟩;refine calls_of_wp d c ((wpIn_wide (n:=0)).1 ?_);have o:=SF a;rw[k];exact h w O ds ⟨λb g=>g,e,hT,hF,hG⟩ (n7 a) l i rfl _ _ (s7 a O1)
theorem N2 (N:(cx P tb w0 O0 nt).Ok) {fn:Func} {et:TypeId} {e:Ty} {xs:List e.den} {σ:St} {ex:Exit} (p:ex=.ret\/ex=.normal) {rv:ResultVar} (R:fn.results=#[rv]) (h:K2 tb σ rv (.own et e xs)) :
  Ev (cx P tb w0 O0 nt) (UX P fn w0 O0 [.own et e xs]) (.out ex) [] σ:=by
 intro _ _ a w hs;obtain⟨ρ,hs⟩:=hs;have M:Below w0.heap.size w0 w:=⟨hs.frm.os,hs.frm.tape,hs.frm.output,hs.frm.size,hs.frm.block⟩;unfold K2 at h;simp only at h;split at h
 .rename_i n Y hi S;obtain⟨rfl,c,rfl⟩:=h;cases hn:lk n σ.objs with
  | none=>rw[hn]at c;simp[HA]at c
  | some o =>
   rw[hn]at c;cases o with
   | box f st fs=>simp[HA]at c
   | mapo k v l=>simp[HA]at c
   | frame ak fs=>simp[HA]at c
   | loop L=>simp[HA]at c
   | itr ag aj ah ai ae=>simp[HA]at c
   | dfr=>simp[HA]at c
   | sit sb sp=>simp[HA]at c
   | nest Z af k d ys A=>simp[HA]at c
   | arr f d ys =>
    simp only[HA]at c;split at c
    .rename_i Q;subst Q;obtain⟨rfl,H⟩:=Bt c;cases H;obtain⟨u,hu,J⟩:=TF (P:=P) N.T hs S;obtain⟨aa,y⟩:=J;have C:=hs.objs n _ hn;have q:u=ρ n:=by
      obtain⟨V,m,c0,t,_,ab,U,W,rfl,_,h0,_⟩:=y;have t:plc (ρ n)=_:=t;obtain⟨rfl,rfl⟩:=h0 rfl;obtain⟨_,cells,s,_⟩:=C;have s:w.ownsRow 0 f d.size (ρ n) ys.length cells:=s;rw[HK s]at t;have r:m=ys.length:=by
       rcases s.2 with ⟨p,ad⟩|⟨g,cap,X,p,_⟩
       .rw[t]at p;injection p;omega
       rw[t]at p;injection p
      rw[t,r,Nat.sub_zero]
     have D:(results fn a.tmps).run P w=.ok u w:=by
      rw[N1,R];have:((#[rv]:Array ResultVar).mapM (Ja a.tmps)).run P w=.ok #[u] w:=by
       rw[ABV];simp[hu]
      simp only[AB1,this,AAm,ABw];rfl
     have z:xC w0 O0 [.own f d ys] u w:=by
      intro nm;have B:∀m,G0 (Dq ⟨[],[]⟩ [(nm,.arr f d ys)]) m↔m=nm:=by
       intro m;simp[G0,Dq,lk]
      have hk:∀b,¬own O0 σ ρ b->¬own O0 (Dq ⟨[],[]⟩ [(nm,.arr f d ys)]) (Ei (λ_=>undef) nm u) b:=by
       intro b j K;rcases K with h0|⟨m,A,r⟩
       .exact j (.inl h0)
       rw[(B m).1 A,Bp,q]at r;exact j (.inr ⟨n,⟨_,hn⟩,r⟩)
      have I:C6 nm [RV.own f d ys]=[(nm,.arr f d ys)]:=rfl;rw[I];refine⟨Ei (λ_=>undef) nm u,QS.one (loc:=u) M (λb j=>?_) ?_ ?_⟩
      .rw[q]at j;have:=(hs.free n b ⟨_,hn⟩ j).1;simp only[cx]at this;omega
      .refine⟨(B nm).2 rfl,?_⟩;show DN (plc (Ei (λ_=>undef) nm u nm)) _ _ _ u;rw[Bp,q];rw[q]at y;exact y
      rw[q];obtain⟨r,cells,s,O⟩:=C;refine⟨r,cells,s,λi x hi=>?_⟩;obtain⟨es,E,F,G⟩:=O i x hi;rw[q]at hk;exact⟨es,E,F,G.mono (λb _ j=>hk b j) (λ_ _ _=>rfl)⟩
     rcases p with rfl|rfl
     .exact⟨hs.defers,u,D,u,rfl,z⟩
     exact⟨hs.defers,u,D,u,rfl,z⟩
    cases c
 exact h.elim
end
end
section
open Go Go.RowKit
section
variable {P:Program} {tb:Tb} {w0:World} {O0:Nat->Prop} {nt:Nat} {R:Exit->Act->World->Prop} {k:List Cl} {σ σ':St}
theorem n8:(cx P tb w0 O0 nt).tb=tb:=rfl
theorem jT {c:Cx} (a:c.Ok) {id:Nat} {l:List Oper} {vc:Prop} (h:B2 c.tb l l σ=some (vc,σ')) (b:vc) (hk:Ev c R (.out .normal) k σ') :
  Ev c R (.run (.region id l.toArray false)) k σ:=s6 a (by
 show EvR _ _ _ (B2 c.tb l l σ);rw[h];exact⟨b,hk⟩)
theorem UY {c:Cx} (h:Aj σ o=some (.p .bool b)) (ht:b=true->Ev c R (.run x) k σ) (hf:b=false->Ev c R (.run y) k σ):Ev c R (.run (.cond o x y)) k σ :=
 A3C (by rw[h];exact⟨ht,hf⟩)
theorem jU {c:Cx} {id:Nat} (h:Ev c R (.out .normal) k σ):Ev c R (.out (.exit id)) (.blk id :: k) σ:=SE (by rw[At rfl];exact h)
theorem jV {c:Cx} {id a:Nat} (b:a≠id) (h:Ev c R (.out (.exit a)) k σ):Ev c R (.out (.exit a)) (.blk id :: k) σ:=SE (by rw[An b];exact h)
end
inductive CG where
 | nm (n:Nat)
 | nil
mutual
def DF (ren:List (Nat×CG)):AV->AV->Prop
 | .p t d,.p u d'=>BZ u ⟨t,d⟩=some d'
 | .raw (.slice none 0 0),.p (.slice e) d'=>(d':List e.den)=[]
 | .raw v,.raw u=>v=u
 | .raw (.slice none 0 0),.sr m _ lo hi=>lk m ren=some .nil/\lo=0/\hi=0
 | .sr n e lo hi,.sr m e' lo' hi'=>lk m ren=some (.nm n)/\e=e'/\lo=lo'/\hi=hi'
 | .ip t d,.ip u d'=>BZ u ⟨t,d⟩=some d'
 | .bp n p o,.bp m p' o'=>lk m ren=some (.nm n)/\p=p'/\o=o'
 | .fn f,.fn g=>f=g
 | .clo f ns,.clo g ms=>f=g/\ms.map (λm=>lk m ren)=ns.map λn=>some (.nm n)
 | .mp n,.mp m=>lk m ren=some (.nm n)
 | .yl n,.yl m=>lk m ren=some (.nm n)
 | .ag l,.ag r=>matchAVs ren l r
 | _,.top=>True
 | _,_=>False
def matchAVs (ren:List (Nat×CG)):List AV->List AV->Prop
 | [],[]=>True
 | x :: l,y :: r=>(x.cells=y.cells/\DF ren x y)/\matchAVs ren l r
 | _,_=>False
end
def JB (ren:List (Nat×CG)):AV->AV->Prop
 | .ag l,.ag r=>matchAVs ren l r
 | x,y=>DF ren x y
def KK (ren:List (Nat×CG)):List AV->List AV->Prop
 | [],[]=>True
 | x :: l,y :: r=>JB ren x y/\KK ren l r
 | _,_=>False
def B8 (ren:List (Nat×CG)):AV->AV->Prop
 | .tup l,.tup r=>KK ren l r
 | x,y=>JB ren x y
def Lk (ren:List (Nat×CG)):Option AV->AV->Prop
 | some x,y=>B8 ren x y
 | none,.top=>True
 | none,_=>False
def Fs (env:List (Nat×AV)) (ren:List (Nat×CG)):List (Nat×AV)->Prop
 | []=>True
 | (s,y) :: r=>Lk ren (lk s env) y/\Fs env ren r
def KL (ren:List (Nat×CG)):Option Obj->Obj->Prop
 | some (.arr et e xs),.arr a c ys=>et=a/\BZ (.slice c) ⟨.slice e,xs⟩=some ys
 | some (.box et st fs),.box a s d=>et=a/\st=s/\matchAVs ren fs d
 | some (.nest et n k e xs h),.nest a o b c ys m=>(et=a/\n=o/\h=m)/\BZ (.slice (.prod b (.slice c))) ⟨.slice (.prod k (.slice e)),xs⟩=some ys
 | some (.mapo k v l),.mapo b f l'=>BZ (.slice (.prod b f)) ⟨.slice (.prod k v),l⟩=some l'
 | some (.frame t fs),.frame u d=>t=u/\Fs fs ren d
 | some (.itr k v l lf i),.itr b f l' p j=>BZ (.slice (.prod b f)) ⟨.slice (.prod k v),l⟩=some l'/\lf=p/\i=j
 | some (.loop L),.loop g=>L=g
 | some .dfr,.dfr=>True
 | some (.sit sb sp),.sit q r=>sb=q/\sp=r
 | _,_=>False
def Hu (objs:List (Nat×Obj)) (ren:List (Nat×CG)) (o:Obj):Option CG->Prop
 | some (.nm n)=>KL ren (lk n objs) o
 | some .nil=>match o with
  | .arr _ e ys=>(ys:List e.den)=[]
  | .box _ _ _=>False
  | .nest _ _ k e ys _=>(ys:List (k.den×List e.den))=[]
  | .mapo _ _ _=>False
  | .frame _ _=>False
  | .itr _ _ _ _ _=>False
  | .loop _=>False
  | .dfr=>False
  | .sit sb sp=>False
 | none=>False
def Ar (objs:List (Nat×Obj)) (ren:List (Nat×CG)):List (Nat×Obj)->Prop
 | []=>True
 | (m,o) :: r=>Hu objs ren o (lk m ren)/\Ar objs ren r
def CX:List (Nat×CG)->Bool
 | []=>true
 | (_,.nm n) :: r=>(r.all λp=>match p.2 with|.nm a=>a != n|.nil=>true)&&CX r
 | (_,.nil) :: r=>CX r
def Ll {α:Type}:List (Nat×α)->Bool
 | []=>true
 | (n,_) :: r=>(r.all λp=>p.1 != n)&&Ll r
section
variable {ren:List (Nat×CG)} {V V':Vw}
structure LK (ren:List (Nat×CG)) (V V':Vw):Prop where
 w:V'.w=V.w
 O:∀b,¬V.O b->¬V'.O b
 ρ:∀m n,lk m ren=some (.nm n)->V'.ρ m=V.ρ n
 nil:∀m,lk m ren=some .nil->V'.ρ m=.slice none 0 0
 L:∀m f,lk m ren=some f->V'.L m
theorem LK.vrep (h:LK ren V V') {t:Ty} {v:Value} {d:t.den} (c:BX V.w V.O t v d):BX V'.w V'.O t v d :=
 BX.mono (λb _ a=>h.O b a) (λb _ _=>by rw[h.w]) c
theorem LK.rep (h:LK ren V V') {t:Ty} {cs:List Value} {d:t.den} (c:Bw V.w V.O t cs d):Bw V'.w V'.O t cs d :=
 c.mono (λb _ a=>h.O b a) (λb _ _=>by rw[h.w])
theorem LK.map (h:LK ren V V'):∀ {b ns:List Nat},b.map (λm=>lk m ren)=ns.map (λn=>some (CG.nm n))->b.map V'.ρ=ns.map V.ρ/\∀m∈b,∃n∈ns,lk m ren=some (.nm n)
 | [],[],_=>⟨rfl,λ_ h=>by cases h⟩
 | [],_ :: _,a=>by simp at a
 | _ :: _,[],a=>by simp at a
 | m :: b,n :: ns,a=>by
  simp only[oR,ABD]at a;obtain⟨h1,c⟩:=h.map a.2;refine⟨by simp only[oR,h1,h.ρ _ _ a.1],λx d=>?_⟩;grind
theorem Xc (h:LK ren V V') {x y:AV} {v:Value} (b:DF ren x y) (c:Ld V x v):Ld V' y v/\(∀t d,y=.p t d->(∀u g,x≠.p u g)->v.oneCell'=true->Bw V'.w V'.O t [v] d):=by
 unfold DF at b;split at b
 .have:=BJ b;injection this with h1 f
  subst h1;cases f;exact⟨h.vrep c,λ_ _ _ z=>absurd rfl (z _ _)⟩
 .have c:v=_:=c;subst c;have i:=b;have k:∀(O:Nat->Prop) (e:Ty),Bw V'.w O (.slice e) [.slice none 0 0] ([]:List e.den):=λO e=>⟨none,0,rfl,sc,by simp[AP],.inl rfl⟩;rename_i e g;have i:g=([]:List e.den):=i;subst i;refine⟨⟨_,k _ _,rfl⟩,λt d a _ _=>?_⟩;grind
 .subst b;exact⟨c,λt d a=>by cases a⟩
 .rename_i m e lo hi;obtain⟨h1,rfl,rfl⟩:=b;have c:v=_:=c;subst c;refine⟨⟨h.L _ _ h1,?_⟩,λt d a=>by cases a⟩;rw[h.nil _ h1];exact⟨none,0,0,rfl,O1,O1,none,0,rfl,O1,λ_=>⟨rfl,rfl⟩,λh=>by omega⟩
 .obtain⟨h1,rfl,rfl,rfl⟩:=b;refine⟨⟨h.L _ _ h1,?_⟩,λt d a=>by cases a⟩;rw[h.ρ _ _ h1];exact c.2
 .have:=BJ b;injection this with h1 f
  subst h1;cases f;obtain⟨ad,cs,a,o,q,k⟩:=c;exact⟨⟨ad,cs,a,h.O _ o,λj u r=>by rw[h.w];exact q j u r,h.rep k⟩,λt d a=>by cases a⟩
 .obtain⟨h1,rfl,rfl⟩:=b;refine⟨⟨h.L _ _ h1,?_⟩,λt d a=>by cases a⟩;rw[h.ρ _ _ h1];exact c.2
 .subst b;exact⟨c,λt d a=>by cases a⟩
 .obtain⟨rfl,s⟩:=b;obtain⟨h1,f⟩:=h.map s;refine⟨⟨?_,λm b=>?_⟩,λt d a=>by cases a⟩
  .rw[h1];exact c.1
  obtain⟨n,hn,l⟩:=f m b;refine⟨h.L _ _ l,?_⟩;rw[h.ρ _ _ l];exact(c.2 n hn).2
 .refine⟨⟨h.L _ _ b,?_⟩,λt d a=>by cases a⟩;rw[h.ρ _ _ b];exact c.2
 .refine⟨⟨h.L _ _ b,?_⟩,λt d a=>by cases a⟩;rw[h.ρ _ _ b];exact c.2
 .exact(show False from c).elim
 .exact⟨trivial,λt d a=>by cases a⟩
 exact b.elim
theorem jW (h:LK ren V V') {x y:AV} {cs:List Value} (n:W7 x=false) (i:x.cells=y.cells) (b:DF ren x y) (a:F0 V x cs):F0 V' y cs:=by
 by_cases f:∃t d,x=.p t d
 .obtain⟨t,d,rfl⟩:=f;have a:Bw V.w V.O t cs d:=a;cases y<;>simp only[DF]at b<;>try exact b.elim
  .have:=BJ b;injection this with h1 c
   subst h1;cases c;exact h.rep a
  have j:=a.length;simp only[AV.cells]at i;rw[i]at j;obtain⟨v,rfl⟩:=ABg.1 j;exact⟨v,rfl,a.one v sc,trivial⟩
 have o:∃v,cs=[v]/\v.oneCell'=true/\Ld V x v:=by
  cases x;case p t d=>exact absurd ⟨t,d,rfl⟩ f
  case ag l=>cases n
  all_goals exact a
 obtain⟨v,rfl,h1,c⟩:=o;obtain⟨g,m⟩:=Xc h b c;cases y;case p t d=>exact m t d rfl (λu k e=>f ⟨u,k,e⟩) h1
 case ag l=>exact(show False from g).elim
 all_goals exact⟨v,rfl,h1,g⟩
theorem s8 (h:LK ren V V'):(∀(x y:AV) (cs:List Value),x.cells=y.cells->DF ren x y->F0 V x cs->F0 V' y cs)/\∀(l r:List AV) (cs:List Value),matchAVs ren l r->AVCs V l cs->AVCs V' r cs:=by
 have key:∀n:Nat,(∀(x y:AV) (cs:List Value),SizeOf.sizeOf x<n->x.cells=y.cells->DF ren x y->F0 V x cs->F0 V' y cs)/\∀(l r:List AV) (cs:List Value),SizeOf.sizeOf l<n->matchAVs ren l r->AVCs V l cs->AVCs V' r cs:=by
  intro n;induction n with
  | zero=>exact⟨λ_ _ _ h=>by omega,λ_ _ _ h=>by omega⟩
  | succ n c =>
   refine⟨λx y cs hn d a b=>?_,λl r cs hn a b=>?_⟩
   .cases f:W7 x with
    | false=>exact jW h f d a b
    | true =>
     cases x<;>simp[W7]at f;rename_i l;simp only[AV.ag.sizeOf_spec]at hn;cases y<;>simp only[DF]at a<;>try exact a.elim
     .rename_i r;exact(c.2 l r cs O1 a b:AVCs V' r cs)
     have g:=b.length;rw[d]at g;obtain⟨v,rfl⟩:=ABg.1 (g.trans rfl);exact⟨v,rfl,b.one v sc,trivial⟩
   match l,r with
   | [],[]=>exact b
   | [],_ :: _=>simp only[matchAVs]at a
   | _ :: _,[]=>simp only[matchAVs]at a
   | x :: l,y :: r =>
    simp only[matchAVs]at a;obtain⟨c1,c2,e,h1,i⟩:=b;simp only[ACA]at hn;exact⟨c1,c2,e,c.1 x y c1 O1 a.1.1 a.1.2 h1,c.2 l r c2 O1 a.2 i⟩
 exact⟨λx y cs=>(key _).1 x y cs (ABn _),λl r cs=>(key _).2 l r cs (ABn _)⟩
theorem UZ (h:LK ren V V') {l r:List AV} {cs:List Value} (a:matchAVs ren l r) (b:AVCs V l cs):AVCs V' r cs:=(s8 h).2 l r cs a b
theorem K3:∀ {l r:List AV},matchAVs ren l r->l.length=r.length
 | [],[],_=>rfl
 | [],_ :: _,a=>a.elim
 | _ :: _,[],a=>a.elim
 | _ :: _,_ :: _,a=>by simp[K3 a.2]
theorem Xd (h:LK ren V V') {x y:AV} {v:Value} (a:JB ren x y) (b:R2 V x v):R2 V' y v:=by
 cases x;case ag l =>
  cases y;case ag r =>
   obtain⟨cs,e,h1⟩:=b;exact⟨cs,e,UZ h a h1⟩
  all_goals simp only[JB,DF]at a
  all_goals first|exact a.elim|exact a6
 all_goals
  simp only[R2]at b;have a:DF ren _ y:=a;exact R2.of1 (Xc h a b).1
theorem cW (h:LK ren V V'):∀ {l r:List AV} {b:List Value},KK ren l r->Ho V l b->Ho V' r b
 | [],[],b,_,c=>c
 | [],_ :: _,b,a,_=>a.elim
 | _ :: _,[],b,a,_=>a.elim
 | x :: l,y :: r,b,a,c=>by
  obtain⟨v,e,rfl,h1,d⟩:=c;exact⟨v,e,rfl,Xd h a.1 h1,cW h a.2 d⟩
theorem Mo (h:LK ren V V') {x y:AV} {v:Value} (a:B8 ren x y) (b:B4 V x v):B4 V' y v:=by
 cases x;case tup l =>
  cases y;case tup r =>
   obtain⟨c,e,h1⟩:=b;exact⟨c,e,cW h a h1⟩
  all_goals simp only[B8,JB,DF]at a
  all_goals first|exact a.elim|exact a6
 all_goals
  simp only[B8]at a;exact wT (Xd h a b)
theorem DG {objs:List (Nat×Obj)} {m:Nat} {o:Obj}:∀ {l:List (Nat×Obj)},Ar objs ren l->lk m l=some o->Hu objs ren o (lk m ren)
 | (j,x) :: l,h,a=>by
  simp only[lk]at a;split at a
  .rename_i e;cases a;subst e;exact h.1
  exact DG h.2 a
theorem Lm {env:List (Nat×AV)} {s:Nat} {y:AV}:∀ {l:List (Nat×AV)},Fs env ren l->lk s l=some y->Lk ren (lk s env) y
 | (j,x) :: l,h,a=>by
  simp only[lk]at a;split at a
  .rename_i e;cases a;subst e;exact h.1
  exact Lm h.2 a
theorem TG:∀ {l:List (Nat×CG)} {m c n:Nat},CX l=true->lk m l=some (.nm n)->lk c l=some (.nm n)->m=c
 | (j,f) :: l,m,c,n,a,h1,b=>by
  simp only[lk]at h1 b;have e:CX l=true:=by
   cases f<;>simp only[CX,AT]at a
   .exact a.2
   exact a
  have g:∀q,f=.nm n->lk q l=some (.nm n)->False:=by
   intro q hf d;subst hf;simp only[CX,AT,NO]at a;have:=a.1 _ (FI d);simp at this
  split at h1
  .grind
  split at b
  .grind
  exact TG e h1 b
def A98 (n:Nat):Option CG->Bool
 | some (.nm m)=>m==n
 | _=>false
def A6P (pin:List (Nat×Value)) (ren:List (Nat×CG)):Bool:=pin.all λp=>A98 p.1 (lk p.1 ren)
theorem Qu {V V':Vw} (a:LK ren V V') {N:List (Nat×Obj)} (af:∀n x,lk n N=some x->BC V x (V.ρ n)) {o:Obj} {m:Nat} (hf:Hu N ren o (lk m ren)):BC V' o (V'.ρ m):=by
 cases J:lk m ren with
 | none=>rw[J]at hf;exact hf.elim
 | some f =>
  rw[J]at hf;cases f with
  | nil =>
   rw[a.nil m J];cases o with
   | box et st fs=>exact hf.elim
   | mapo k v l=>exact hf.elim
   | frame t fs=>exact hf.elim
   | loop L=>exact hf.elim
   | itr A D B C y=>exact hf.elim
   | dfr=>exact hf.elim
   | sit sb sp=>exact hf.elim
   | nest et ai k e ys F =>
    have hf:ys=([]:List (k.den×List e.den)):=hf;subst hf;exact⟨_,[],[],.inr ⟨rfl,rfl,rfl⟩,by simp[AP],rfl,AC0 _ 0 et _,λi x u h=>by simp at h,λi j b u v h=>by simp at h,λi b u h=>by simp at h⟩
   | arr et e ys =>
    have hf:ys=([]:List e.den):=hf;subst hf;exact⟨by simp[AP],[],AC0 _ 0 et e.size,Hg _ _ _ _⟩
  | nm n =>
   rw[a.ρ m n J];simp only[Hu]at hf;cases hn:lk n N with
   | none=>rw[hn]at hf;simp only[KL]at hf
   | some x =>
    rw[hn]at hf;have q:=af n x hn;cases x with
    | arr et e xs =>
     cases o with
     | box c st fs=>exact hf.elim
     | mapo k v l=>exact hf.elim
     | frame t fs=>exact hf.elim
     | loop L=>exact hf.elim
     | itr A D B C y=>exact hf.elim
     | dfr=>exact hf.elim
     | sit sb sp=>exact hf.elim
     | nest _ _ _ _ _ _=>exact hf.elim
     | arr c g ys =>
      obtain⟨rfl,p⟩:=hf;obtain⟨rfl,d⟩:=Bt p;cases d;obtain⟨ad,cells,ae,aa⟩:=q;refine⟨ad,cells,by rw[a.w];exact ae,λi z hi=>?_⟩;obtain⟨es,R,S,T⟩:=aa i z hi;exact⟨es,R,S,a.rep T⟩
    | box et st fs =>
     cases o with
     | arr c g ys=>exact hf.elim
     | mapo k v l=>exact hf.elim
     | frame t fs=>exact hf.elim
     | loop L=>exact hf.elim
     | itr A D B C y=>exact hf.elim
     | dfr=>exact hf.elim
     | sit sb sp=>exact hf.elim
     | nest _ _ _ _ _ _=>exact hf.elim
     | box c aw U =>
      obtain⟨rfl,rfl,H⟩:=hf;obtain⟨h0,b,cs,G,hh,Z⟩:=q;exact⟨λag=>by rw[<-K3 H];exact h0 ag,b,cs,G,by rw[a.w];exact hh,UZ a H Z⟩
    | nest et ai k e xs h =>
     cases o with
     | nest c au P g ys ar =>
      obtain⟨⟨rfl,rfl,rfl⟩,p⟩:=hf;have p:=BJ p;injection p with h1 E
      injection h1 with h1
      injection h1 with h1 d
      injection d with d
      subst h1;subst d;cases E;exact sS a.w a.O q
     | mapo k v l=>exact hf.elim
     | box c st fs=>exact hf.elim
     | arr c g ys=>exact hf.elim
     | frame t fs=>exact hf.elim
     | loop L=>exact hf.elim
     | itr A D B C y=>exact hf.elim
     | dfr=>exact hf.elim
     | sit sb sp=>exact hf.elim
    | mapo k v l =>
     cases o with
     | mapo P ao l' =>
      have p:=BJ hf;injection p with h1 E
      injection h1 with h1
      injection h1 with h1 d
      subst h1;subst d;cases E;obtain⟨b,es,cl,G,hh,ab,Y⟩:=q;exact⟨b,es,cl,G,by rw[a.w];exact hh,ab.mono (λb _ K=>a.O b K) (λb _ _=>by rw[a.w]),Y⟩
     | box c st fs=>exact hf.elim
     | arr c g ys=>exact hf.elim
     | frame t fs=>exact hf.elim
     | loop L=>exact hf.elim
     | itr A D B C y=>exact hf.elim
     | dfr=>exact hf.elim
     | sit sb sp=>exact hf.elim
     | nest _ _ _ _ _ _=>exact hf.elim
    | frame t fs =>
     cases o with
     | frame ax U =>
      obtain⟨rfl,H⟩:=hf;obtain⟨h0,h1⟩:=q;refine⟨h0,λs v ah=>?_⟩;have I:=Lm H ah;cases M:lk s fs with
      | none =>
       rw[M]at I;cases v<;>simp only[Lk]at I;exact a6
      | some x =>
       rw[M]at I;exact Mo a I (h1 s x M)
     | mapo k v l=>exact hf.elim
     | box c st fs=>exact hf.elim
     | arr c g ys=>exact hf.elim
     | loop L=>exact hf.elim
     | itr A D B C y=>exact hf.elim
     | dfr=>exact hf.elim
     | sit sb sp=>exact hf.elim
     | nest _ _ _ _ _ _=>exact hf.elim
    | itr k v l lf ap =>
     cases o with
     | itr P ao l' av aq =>
      obtain⟨hf,rfl,rfl⟩:=hf;have p:=BJ hf;injection p with h1 E
      injection h1 with h1
      injection h1 with h1 d
      subst h1;subst d;cases E;obtain⟨r,G,b,aj,cl,am,al,h1,E,d,W,X⟩:=q;exact⟨r,G,b,aj,cl,am,al,by rw[a.w];exact h1,a.O b E,by rw[a.w];exact d,W.mono (λb _ K=>a.O b K) (λb _ _=>by rw[a.w]),X⟩
     | mapo k v l=>exact hf.elim
     | box c st fs=>exact hf.elim
     | arr c g ys=>exact hf.elim
     | frame t fs=>exact hf.elim
     | loop L=>exact hf.elim
     | dfr=>exact hf.elim
     | sit sb sp=>exact hf.elim
     | nest _ _ _ _ _ _=>exact hf.elim
    | loop L =>
     cases o with
     | loop Q =>
      have hf:L=Q:=hf;subst hf;obtain⟨b,F,hh⟩:=q;exact⟨b,F,by rw[a.w];exact hh⟩
     | itr A D B C y=>exact hf.elim
     | mapo k v l=>exact hf.elim
     | box c st fs=>exact hf.elim
     | arr c g ys=>exact hf.elim
     | frame t fs=>exact hf.elim
     | dfr=>exact hf.elim
     | sit sb sp=>exact hf.elim
     | nest _ _ _ _ _ _=>exact hf.elim
    | dfr =>
     cases o with
     | dfr =>
      obtain⟨b,F,hh⟩:=q;exact⟨b,F,by rw[a.w];exact hh⟩
     | nest _ _ _ _ _ _=>exact hf.elim
     | mapo k v l=>exact hf.elim
     | box c st fs=>exact hf.elim
     | arr c g ys=>exact hf.elim
     | frame t fs=>exact hf.elim
     | loop L=>exact hf.elim
     | itr A D B C y=>exact hf.elim
     | sit sb sp=>exact hf.elim
    | sit sb sp =>
     cases o with
     | sit ak an =>
      obtain⟨rfl,rfl⟩:sb=ak/\sp=an:=hf;obtain⟨b,F,hh⟩:=q;exact⟨b,F,by rw[a.w];exact hh⟩
     | nest _ _ _ _ _ _=>exact hf.elim
     | mapo k v l=>exact hf.elim
     | box c st fs=>exact hf.elim
     | arr c g ys=>exact hf.elim
     | frame t fs=>exact hf.elim
     | loop L=>exact hf.elim
     | itr A D B C y=>exact hf.elim
     | dfr=>exact hf.elim
def Cr (objs:List (Nat×Obj)) (ren:List (Nat×CG)):Bool:=ren.all λp=>(lk p.1 objs).isSome
theorem AC {c:Cx} {σ σ':St} (ren:List (Nat×CG)) (h1:CX ren=true) (r:Cr σ'.objs ren=true) (z:Ar σ.objs ren σ'.objs) (G:Fs σ.env ren σ'.env) (A:A6P c.ds.pin ren=true:=by rfl):wM c σ σ':=by
 rintro a w ⟨ρ,hs⟩
 let ρ':Nat->Value:=λm=>match lk m ren with|some (.nm n)=>ρ n|_=>.slice none 0 0
 have y:∀m n,lk m ren=some (.nm n)->ρ' m=ρ n:=λm n d=>by simp[ρ',d]
 have u:∀m,lk m ren=some .nil->ρ' m=.slice none 0 0:=λm d=>by simp[ρ',d]
 have E:∀m f,lk m ren=some f->G0 σ' m:=λm f d=>by
  simp only[Cr,NO]at r;have:=r _ (FI d);exact ABE.1 this
 have j:∀m b,G0 σ' m->bk (ρ' m) b->∃n,lk m ren=some (.nm n)/\G0 σ n/\bk (ρ n) b:=by
  rintro m b ⟨o,d⟩ e;have hf:=DG z d;cases i:lk m ren with
  | none=>rw[i]at hf;exact hf.elim
  | some f =>
   cases f with
   | nil=>rw[u m i]at e;simp[bk,blk]at e
   | nm n =>
    rw[i]at hf;rw[y m n i]at e;refine⟨n,rfl,?_,e⟩;cases hn:lk n σ.objs with
    | none=>simp only[Hu,hn,KL]at hf
    | some x=>exact⟨x,hn⟩
 have t:LK ren (vw w c.O0 σ ρ) (vw w c.O0 σ' ρ'):=by
  refine⟨rfl,λb e k=>?_,y,u,E⟩;rcases k with h0|⟨m,h,d⟩
  .exact e (.inl h0)
  obtain⟨n,_,hn,g⟩:=j m b h d;exact e (.inr ⟨n,hn,g⟩)
 refine⟨ρ',hs.frm,hs.nt,hs.defers,λp B=>?_,λm o d=>?_,λm b h e=>?_,λm K b h H e k=>?_,λs v J=>?_⟩
 .obtain⟨M,N,O⟩:=hs.pin p B;simp only[A6P,NO]at A;have l:=A p B;unfold A98 at l;split at l
  .grind
  cases l
 .exact Qu t hs.objs (DG z d)
 .obtain⟨n,_,hn,g⟩:=j m b h e;exact hs.free n b hn g
 .obtain⟨n,C,hn,g⟩:=j m b h e;obtain⟨L,D,I,F⟩:=j K b H k;have:=hs.dist n L b hn I g F;subst this;exact TG h1 C D
 have d:=Lm G J;cases q:lk s σ.env with
 | none =>
  rw[q]at d;cases v<;>simp only[Lk]at d;exact a6
 | some x =>
  rw[q]at d;exact Mo t d (hs.env s x q)
end
end
theorem Ig (b:Bool):Qn true (some (.p .bool b))=some b:=by cases b<;>rfl
theorem HO (b:Bool):Qn false (some (.p .bool b))=some (!b):=by cases b<;>rfl
theorem PJ:IntKind.i64.min=-9223372036854775808:=by decide
theorem PK:IntKind.i64.max=9223372036854775807:=by decide
theorem PM:IntKind.u64.min=0:=by decide
theorem PN:IntKind.u64.max=18446744073709551615:=by decide
theorem Ua:IntKind.u8.min=0:=by decide
theorem Ub:IntKind.u8.max=255:=by decide
theorem PO (n:Int):IU .i64 n↔-9223372036854775808<=n/\n<=9223372036854775807:=by unfold IU;rw[PJ,PK]
theorem KM (n:Int):IU .u64 n↔0<=n/\n<=18446744073709551615:=by unfold IU;rw[PM,PN]
theorem ZX (n:Int):IU .u8 n↔0<=n/\n<=255:=by unfold IU;rw[Ua,Ub]
theorem TH {α:Type} (x:α):sub [x] 0 1=[x]:=rfl
theorem Jb {α:Type} (xs:List α) (n:Nat):sub xs 0 n=xs.take n:=by simp[sub]
theorem A3F (n:Nat):((n:Int)).toNat=n:=oF n
theorem HP (n:Nat):(0<=(n:Int))=True:=eq_true (AAX n)
section
open Go Go.RowKit
section
variable {tb:Tb} {σ σ':St}
def jX (σ σ':St):Prop:=∀n o,lk n σ.objs=some o->lk n σ'.objs=some o
theorem xW (h:jX σ σ') {e:Ty} {lo hi n:Nat} {d:List e.den} (hs:Ov e lo hi (lk n σ.objs)=some d):Ov e lo hi (lk n σ'.objs)=some d:=by
 cases hn:lk n σ.objs with
 | none=>rw[hn]at hs;simp[Ov]at hs
 | some o=>rw[h n o hn,<-hn];exact hs
theorem s9 (h:jX σ σ') {e:Ty} {i:Nat} {d:List e.den} (hs:Sm e i (lk n σ.objs)=some d):Sm e i (lk n σ'.objs)=some d:=by
 cases hn:lk n σ.objs with
 | none=>rw[hn]at hs;simp[Sm]at hs
 | some o=>rw[h n o hn,<-hn];exact hs
theorem Jc (h:jX σ σ') {l:Bool} {t:Ty} {x:AV} {d:t.den} (hs:E2 l σ t x=some d):E2 l σ' t x=some d:=by
 unfold E2 at hs ⊢;split at hs
 .exact hs
 .grind [xW]
 .grind [s9]
 .exact hs
 cases hs
theorem Xe (h:jX σ σ') {l:Bool}:∀ {fs:List AV} {t:Ty} {d:t.den},LJ l σ fs t=some d->LJ l σ' fs t=some d
 | [],t,d,hs=>by simp[LJ]at hs
 | [x],t,d,hs=>by grind [LJ,Jc]
 | x :: y :: r,t,d,hs=>by
  cases t<;>simp only[LJ]at hs ⊢<;>try(cases hs;done)
  rename_i a b;cases h1:E2 l σ a x with
  | none=>rw[h1]at hs;simp[NL]at hs
  | some e =>
   cases c:LJ l σ (y :: r) b with
   | none=>rw[h1,c]at hs;simp[NL]at hs
   | some f =>
    rw[Jc h h1,Xe h c];rw[h1,c]at hs;exact hs
theorem Ft (h:jX σ σ') {l:Bool} {t:Ty} {x:AV} {d:t.den} (hs:I1 l σ t x=some d):I1 l σ' t x=some d:=by
 unfold I1 at hs ⊢;split at hs
 .exact Xe h hs
 exact Jc h hs
def Ops (σ σ':St) (xs:List Operand):Prop:=∀x∈xs,∀v,Aj σ x=some v->Aj σ' x=some v
theorem Ln (h:jX σ σ') {e:Ty} {x:AV} {d:List e.den} (hs:Ow σ e x=some d):Ow σ' e x=some d:=by
 unfold Ow at hs ⊢;split at hs
 .rename_i n a lo hi;cases hn:lk n σ.objs with
  | none =>
   rw[hn]at hs;have hs:E2 true σ (.slice e) (.sr n a lo hi)=some d:=by simpa[C5,I1] using hs
   simp only[E2,hn]at hs;split at hs<;>simp[Ov]at hs
  | some o =>
   rw[h n o hn];rw[hn]at hs;split at hs
   .cases hs
   grind [Ft]
 exact Ft h hs
theorem Uc (h:jX σ σ') {l:Bool}:∀ {ts:List Ty} {xs:List Operand} {ds:IV ts},Ops σ σ' xs->Gb l σ ts xs=some ds->Gb l σ' ts xs=some ds
 | [],[],ds,_,hs=>hs
 | [],_ :: _,ds,_,hs=>by simp[Gb]at hs
 | _ :: _,[],ds,_,hs=>by simp[Gb]at hs
 | t :: ts,x :: xs,ds,b,hs=>by
  simp only[Gb]at hs ⊢;cases a:Aj σ x with
  | none=>rw[a]at hs;cases hs
  | some v =>
   rw[b x sc v a];rw[a]at hs;simp only at hs ⊢;split at hs
   .rename_i y ys c d;rw[Ft h c,Uc h (λz e=>b z (by simp[e])) d];exact hs
   cases hs
theorem SG (h:jX σ σ') {e:Ty}:∀ {parts:List (Nat×Operand)} {k:Nat} {xs:List e.den},Ops σ σ' (parts.map (·.2))->FG σ e k parts=some xs->FG σ' e k parts=some xs
 | [],k,xs,_,hs=>hs
 | (i,x) :: r,k,xs,b,hs=>by
  simp only[FG]at hs ⊢;split at hs
  .rename_i d;rw[At d];cases a:Aj σ x with
   | none=>rw[a]at hs;cases hs
   | some v =>
    rw[b x sc v a];rw[a]at hs;simp only at hs ⊢;split at hs
    .rename_i y ys f g;rw[Ft h f,SG h (λz c=>b z (by simp at c ⊢;exact .inr c)) g];exact hs
    cases hs
  cases hs
theorem cX (h:jX σ σ') {z:Option AV} {x:Operand} (d:∀v,Aj σ x=some v->Aj σ' x=some v) (hs:F7 σ z (Aj σ x)=some v):F7 σ' z (Aj σ' x)=some v:=by
 cases b:Aj σ x with
 | none=>rw[b]at hs;unfold F7 at hs;split at hs<;>simp at *
 | some a =>
  rw[d a b];rw[b]at hs;unfold F7 at hs ⊢;split at hs
  .rename_i t _ l c;cases c;simp only[OF]at hs ⊢;grind [Ft]
  exact hs
theorem PP (h:jX σ σ') {offs:List (Nat×Nat)}:∀ {parts:List (Nat×Operand)} {fs a:List AV},Ops σ σ' (parts.map (·.2))->EK σ offs fs parts=some a->EK σ' offs fs parts=some a
 | [],fs,a,_,hs=>hs
 | (i,x) :: r,fs,a,c,hs=>by
  simp only[EK]at hs ⊢;cases b:F7 σ fs[i]? (Aj σ x) with
  | none=>rw[b]at hs;cases hs
  | some v =>
   rw[cX h (c x sc) b];rw[b]at hs;simp only at hs ⊢;split at hs
   .rename_i e;rw[At e];exact PP h (λz d=>c z (by simp at d ⊢;exact .inr d)) hs
   cases hs
theorem Ud:∀ {xs:List Operand} {ns:List Nat},Ops σ σ' xs->Ic σ xs=some ns->Ic σ' xs=some ns
 | [],ns,_,hs=>hs
 | x :: r,ns,a,hs=>by
  simp only[Ic]at hs ⊢;split at hs
  .rename_i n d h1 b;rw[a x sc _ h1,Ud (λz c=>a z (by simp[c])) b];exact hs
  cases hs
theorem TJ (h:jX σ σ') {d:Nat} {op:Op} {r:Prop×AV×List (Nat×Obj)} (A:Ops σ σ' op.operands.toList) (hs:aq tb σ d op=some r):aq tb σ' d op=some r:=by
 have one:∀ {x:Operand} {f:Option AV->Bc},x∈op.operands.toList->f none=none->f (Aj σ x)=some r->f (Aj σ' x)=some r:=by
  intro x f j hn hf;cases B:Aj σ x with
  | none=>rw[B,hn]at hf;cases hf
  | some v=>rw[A x j v B,<-B];exact hf
 have N:∀ {x y:Operand} {f:Option AV->Option AV->Bc},x∈op.operands.toList->y∈op.operands.toList->(∀b,f none b=none)->(∀a,f a none=none)->f (Aj σ x) (Aj σ y)=some r->f (Aj σ' x) (Aj σ' y)=some r:=by
  intro x y f j E h1 I hf;cases B:Aj σ x with
  | none=>rw[B,h1]at hf;cases hf
  | some v =>
   cases L:Aj σ y with
   | none=>rw[L,I]at hf;cases hf
   | some w=>rw[A x j v B,A y E w L,<-B,<-L];exact hf
 cases op<;>simp only[aq]at hs ⊢<;>try(cases hs;done)
 case move x=>exact one (f:=G2) (by simp[Op.operands]) rfl hs
 case assign x=>exact one (f:=G2) (by simp[Op.operands]) rfl hs
 case pick c x y =>
  cases H:Aj σ c with
  | none=>rw[H]at hs;simp[LP]at hs
  | some ae =>
   have af:=A c (by simp[Op.operands]) ae H;rw[H]at hs;rw[af];unfold LP at hs ⊢;split at hs
   .rename_i F;cases F;exact one (f:=G2) (by simp[Op.operands]) rfl hs
   .rename_i F;cases F;exact one (f:=G2) (by simp[Op.operands]) rfl hs
   cases hs
 case alloc t=>exact hs
 case box t x=>exact one (f:=UB d t (lk t tb.ty)) (by simp[Op.operands]) (by cases lk t tb.ty<;>simp[UB]) hs
 case build t parts =>
  unfold J4 at hs ⊢;split at hs
  .rename_i u offs el b F;cases G:EK σ offs (T8 (inB d tb.pure) u) parts.toList with
   | none=>rw[G]at hs;simp[G2]at hs
   | some fs =>
    rw[PP h (by simpa[Op.operands] using A) G];rw[G]at hs;exact hs
  cases hs
 case buildSlice t n parts =>
  cases X:lk d tb.nests with
  | some aw =>
   rw[X]at hs;simp only[HI]at hs ⊢;unfold J6 at hs ⊢;split at hs
   .rename_i x ay offs el b G F;cases j:Aj σ x with
    | none=>rw[j]at hs;unfold J5 at hs;split at hs<;>first|(cases hs;done)|(rename_i I;cases I)
    | some av =>
     rw[A x (by simp[Op.operands,G]) av j];rw[j]at hs;unfold J5 at hs ⊢;split at hs
     .rename_i k e bb bc ar;unfold LR at hs;split at hs
      .rename_i ab T;rw[Jc h T];exact hs
      .rename_i ab ap l T;split at hs
       .rename_i V;rw[Jc h T];simp only[LR,V,ABa];exact hs
       cases hs
      cases hs
     cases hs
   cases hs
  | none =>
  rw[X]at hs;simp only[HI]at hs ⊢;unfold Bx at hs ⊢;split at hs
  .rename_i e offs el b F;cases G:FG σ e 0 parts.toList with
   | none=>rw[G]at hs;simp[B6]at hs
   | some xs =>
    rw[SG h (by simpa[Op.operands] using A) G];rw[G]at hs;exact hs
  cases hs
 case load t x =>
  cases j:Aj σ x with
  | none=>rw[j]at hs;simp[Kx]at hs
  | some v =>
   rw[A x (by simp[Op.operands]) v j];rw[j]at hs;unfold Kx at hs ⊢;split at hs
   .rename_i ti n an off R J;cases hn:lk n σ.objs with
    | none=>rw[hn]at hs;simp[EV]at hs
    | some o=>rw[h n o hn,<-hn];exact hs
   .rename_i ti n e i an off R J;cases hn:lk n σ.objs with
    | none=>rw[hn]at hs;simp[EW]at hs
    | some o=>rw[h n o hn,<-hn];exact hs
   .exact hs
   cases hs
 case nilCheck x=>exact one (f:=W5) (by simp[Op.operands]) (by simp[W5]) hs
 case binOp op t x y ax=>exact N (f:=Sn op (lk t tb.ty)) (by simp[Op.operands]) (by simp[Op.operands]) (λb=>by simp[Sn]) (λa=>by cases a<;>simp[Sn]) hs
 case unOp op t x=>exact one (f:=qUn op) (by simp[Op.operands]) (by cases op<;>simp[qUn]) hs
 case convert s t x=>exact one (f:=Ky (lk s tb.ty) (lk t tb.ty)) (by simp[Op.operands]) (by cases lk s tb.ty<;>cases lk t tb.ty<;>simp[Ky]) hs
 case makeSlice t l c=>exact N (f:=JT tb d (lk t tb.ty)) (by simp[Op.operands]) (by simp[Op.operands]) (λb=>by cases lk t tb.ty<;>simp[JT]) (λa=>by cases lk t tb.ty<;>simp[JT]) hs
 case slice t x lo hi am =>
  cases am with
  | some m =>
   cases lo with
   | some _=>cases hi<;>simp[aq]at hs
   | none =>
    cases hi with
    | none=>simp[aq]at hs
    | some h1 =>
     simp only[aq]at hs ⊢;cases j:Aj σ x with
     | none=>rw[j]at hs;cases C:lk t tb.ty<;>rw[C]at hs<;>simp[EL]at hs
     | some v =>
      cases hh:Aj σ h1 with
      | none=>rw[j,hh]at hs;cases C:lk t tb.ty<;>rw[C]at hs<;>simp[EL]at hs
      | some B =>
       cases K:Aj σ m with
       | none=>rw[j,hh,K]at hs;cases C:lk t tb.ty<;>rw[C]at hs<;>simp[EL]at hs
       | some al =>
        rw[A x (by simp[Op.operands]) v j,A h1 (by simp[Op.operands]) B hh,A m (by simp[Op.operands]) al K];rw[j,hh,K]at hs;exact hs
  | none =>
   simp only[aq]at hs ⊢;have aa:∀ {y:Option Operand},(∀z,y=some z->z∈(Op.slice t x lo hi none).operands.toList)->∀w,G9 σ y=some w->G9 σ' y=some w:=by
    intro y E w L;cases y with
    | none=>exact L
    | some z =>
     simp only[G9,OF]at L ⊢;obtain⟨v,B,rfl⟩:=L;exact⟨v,A z (E z rfl) v B,rfl⟩
   cases j:Aj σ x with
   | none=>rw[j]at hs;cases C:lk t tb.ty<;>rw[C]at hs<;>simp[Fg]at hs
   | some v =>
    cases h1:G9 σ lo with
    | none=>rw[h1]at hs;cases C:lk t tb.ty<;>rw[C]at hs<;>simp[Fg]at hs
    | some a =>
     cases I:G9 σ hi with
     | none=>rw[I]at hs;cases C:lk t tb.ty<;>rw[C]at hs<;>simp[Fg]at hs
     | some b =>
      rw[A x (by simp[Op.operands]) v j,aa (by rintro z rfl;simp[Op.operands]) a h1,aa (by rintro z rfl;simp[Op.operands]) b I];rw[j,h1,I]at hs;exact hs
 case fieldAddr s x f=>exact one (f:=Hn f (lk s tb.ty)) (by simp[Op.operands]) (by cases lk s tb.ty<;>simp[Hn]) hs
 case indexAddr t x i=>exact N (f:=F8 (lk t tb.ty)) (by simp[Op.operands]) (by simp[Op.operands]) (λb=>by cases lk t tb.ty<;>simp[F8]) (λa=>by cases lk t tb.ty<;>simp[F8]) hs
 case index t x i=>exact N (f:=El (lk t tb.ty)) (by simp[Op.operands]) (by simp[Op.operands]) (λb=>by cases lk t tb.ty<;>simp[El]) (λa=>by cases lk t tb.ty<;>simp[El]) hs
 case extract x i=>exact one (f:=E4 i) (by simp[Op.operands]) (by simp[E4]) hs
 case makeFunc fn first ad =>
  unfold bX at hs ⊢;split at hs
  .rename_i f hf;split at hs;case isFalse=>cases hs
   rename_i ai;cases H:Ic σ ad.toList with
   | none=>rw[H]at hs;simp[Rv]at hs
   | some ns =>
    rw[At ai,Ud (λz M=>A z (by simp[Op.operands]at M ⊢;exact .inr M)) H];rw[H]at hs;exact hs
  .rename_i f x hf au;exact one (f:=bW f) (by simp[Op.operands,hf]) rfl hs
  cases hs
 case makeMap t res =>
  cases res with
  | some z=>simp[aq]at hs
  | none=>simp only[aq]at hs ⊢;exact hs
 case lookup t x i ok =>
  cases j:Aj σ x with
  | none=>rw[j]at hs;simp[JV]at hs
  | some xv =>
   cases hi:Aj σ i with
   | none=>rw[j,hi]at hs;simp[JV]at hs
   | some Z =>
    rw[A x (by simp[Op.operands]) xv j,A i (by simp[Op.operands]) Z hi];rw[j,hi]at hs;unfold JV at hs ⊢;split at hs
    .rename_i k e _ _ n z R J ah;cases J;cases ah;cases hn:lk n σ.objs with
     | none=>rw[hn]at hs;simp[I3]at hs
     | some o =>
      rw[hn]at hs;rw[h n o hn];unfold I3 at hs ⊢;split at hs
      .rename_i ak ba l A;cases A;split at hs
       .rename_i H;rw[At H];cases hk:I1 false σ ak Z with
        | none=>rw[hk]at hs;simp[LU]at hs
        | some kd=>rw[Ft h hk];rw[hk]at hs;exact hs
       cases hs
      cases hs
    cases hs
 case call c =>
  obtain⟨callee,args,argTypes⟩:=c;have D:∀x∈args.toList,x∈(Op.call ⟨callee,args,argTypes⟩).operands.toList:=λx j=>by
   have:x∈args:=by simpa using j
   cases callee<;>simp[Op.operands,Call.operands,this]
  cases callee with
  | invoke r m=>simp[DE]at hs
  | value g =>
   simp only[DE]at hs ⊢;cases O:Aj σ g with
   | none=>rw[O]at hs;simp[NM]at hs
   | some ag =>
    rw[A g (by simp[Op.operands,Call.operands]) ag O];rw[O]at hs;unfold NM at hs ⊢;split at hs
    .rename_i f F;cases Y:lk f tb.fns with
     | none=>rw[Y]at hs;simp[KC]at hs
     | some sp =>
      rw[Y]at hs;simp only[KC]at hs ⊢;cases U:Gb sp.lend σ sp.ins args.toList with
      | none=>rw[U]at hs;simp[LT]at hs
      | some ds =>
       rw[Uc h (λx j=>A x (D x j)) U];rw[U]at hs;exact hs
    cases hs
  | builtin b =>
   simp only[DE]at hs ⊢;obtain⟨args⟩:=args;obtain⟨argTypes⟩:=argTypes;simp only at hs D ⊢;unfold Dd at hs ⊢;split at hs
   .exact one (f:=UD (lk _ tb.ty)) (D _ sc) (by cases lk _ tb.ty<;>simp[UD]) hs
   .rename_i x y t u;cases j:Aj σ x with
    | none=>rw[j]at hs;simp[C0]at hs
    | some xv =>
     cases E:Aj σ y with
     | none=>rw[j,E]at hs;simp[C0]at hs
     | some Q =>
      rw[A x (D _ sc) xv j,A y (D _ sc) Q E];rw[j,E]at hs;unfold C0 at hs ⊢;split at hs
      .split at hs
       .rename_i P;simp only[P,ABa];rename_i R J;cases J;rw[P]at hs;cases C:lk u tb.ty with
        | none=>rw[C]at hs;simp[E5]at hs
        | some ti =>
         rw[C]at hs;unfold E5 at hs ⊢;split at hs
         .rename_i e offs el b F;cases B:Ow σ e Q with
          | none=>rw[B]at hs;cases W:lk el tb.ty<;>rw[W]at hs<;>simp[Fh]at hs
          | some ys =>
           rw[B]at hs;rw[Ln h B];exact hs
         cases hs
       cases hs
      .split at hs
       .rename_i P;simp only[P,ABa];rename_i R J;cases J;rw[P]at hs;cases C:lk u tb.ty with
        | none=>rw[C]at hs;simp[KB]at hs
        | some ti =>
         rw[C]at hs;unfold KB at hs ⊢;split at hs
         .rename_i e offs el b F;split at hs
          .rename_i V;simp only[V,ABa];cases B:Ow σ _ Q with
           | none=>rw[B]at hs;cases W:lk el tb.ty<;>rw[W]at hs<;>simp[LS]at hs
           | some ys =>
            rw[B]at hs;rw[Ln h B];exact hs
          cases hs
         cases hs
       cases hs
      cases hs
   .exact N (f:=So) (D _ sc) (D _ sc) (λb=>by simp[So]) (λa=>by cases a<;>simp[So]) hs
   .exact N (f:=Sp) (D _ sc) (D _ sc) (λb=>by simp[Sp]) (λa=>by cases a<;>simp[Sp]) hs
   .rename_i x y z t u az;cases j:Aj σ x with
    | none=>rw[j]at hs;simp[JU]at hs
    | some xv =>
     cases E:Aj σ y with
     | none=>rw[j,E]at hs;simp[JU]at hs
     | some Q =>
      cases M:Aj σ z with
      | none=>rw[j,E,M]at hs;simp[JU]at hs
      | some ao =>
       rw[A x (D _ sc) xv j,A y (D _ sc) Q E,A z (D _ sc) ao M,<-j,<-E,<-M];exact hs
   .rename_i ts x y z u r;have O:∀(r:List Operand) (k:IntKind) (o:Option Int) (m:Int),(∀q∈r,∀v,Aj σ q=some v->Aj σ' q=some v)->Fi σ k o r=some m->Fi σ' k o r=some m:=by
     intro r;induction r with
     | nil=>intro k o m _ h;cases o<;>(simp[Fi]at h;try exact ABj some h)
     | cons q r aj =>
      intro k o m S h;cases o with
      | none=>simp[Fi]at h
      | some a =>
       simp only[Fi]at h ⊢;cases B:Aj σ q with
       | none=>rw[B]at h;cases r<;>simp[Oy,Fi]at h
       | some v =>
        rw[B]at h;rw[S q sc v B];exact aj k _ m (λp G=>S p (by simp[G])) h
    cases j:Aj σ x with
    | none=>rw[j]at hs;simp[Oz]at hs
    | some xv =>
     rw[j]at hs;rw[A x (D _ sc) xv j];unfold Oz at hs ⊢;split at hs
     .rename_i k a F;cases F;cases K:Fi σ k (some a) (y :: z :: u :: r) with
      | none=>rw[K]at hs;simp[Ru]at hs
      | some m =>
       rw[K]at hs;rw[O _ _ _ _ (λq S=>A q (D _ (IF _ S))) K];exact hs
     cases hs
   cases hs
end
end
end Go.Proofs.YtglkoagnnnpimaaGreatDoor.Fw
