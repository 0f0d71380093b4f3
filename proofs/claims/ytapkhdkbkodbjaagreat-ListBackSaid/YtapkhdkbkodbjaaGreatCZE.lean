/- One operation, a sequence, loops, the entry and the end of a function: the rules. -/
import Derived.Test.YtapkhdkbkodbjaaGreatCZD
import Derived.Deep.LoopGhost
import Derived.ControlIn
set_option linter.unusedVariables false
set_option linter.unusedSimpArgs false
namespace Go.Proofs.YtapkhdkbkodbjaaGreat.Fw
section
open Go Go.RowKit
abbrev AFC:=@Go.wpIn_region_list
abbrev AGh:=@Go.wpIn_mono
structure Cx where
 P:Program
 tb:Tb
 w0:World
 K:Nat->Prop
 O0:Nat->Prop
 nt:Nat
 
 ds:Fp:={}
 
 r:Option Nat:=none
structure Cx.Ok (c:Cx):Prop where
 K:∀b,c.K b->b<c.w0.heap.size
 O:∀b,c.O0 b->b<c.w0.heap.size
 T:DH c.P c.tb
 F:JD c.P c.tb
def Cx.sat (c:Cx) (σ:St) (a:Act) (w:World):Prop:=∃ρ,CB c.w0 c.K c.O0 c.nt c.ds σ ρ a w
section
variable {c:Cx}
theorem A7b (hc:c.Ok) {σ:St} {ρ:Nat->Value} {a:Act} {w:World} (h:CB c.w0 c.K c.O0 c.nt c.ds σ ρ a w):AC4 c.P c.tb w c.O0 σ ρ a where
 hT:=hc.T
 hF:=hc.F
 obj:=h.objs
 own:=by
  intro b hb;rcases hb with h0|⟨n,⟨o,ho⟩,hb⟩
  .exact ZW (hc.O b h0) h.frm.size
  exact(h.objs n o ho).block_lt hb
 ev:=F3 h.env
theorem A3v (e:c.Ok) {σ σ':St} {ρ:Nat->Value} {a:Act} {w:World} (hs:CB c.w0 c.K c.O0 c.nt c.ds σ ρ a w) {o:Oper} {vc:Prop} (h:HZ c.tb σ o.dst o.op=some (vc,σ')) (k:vc) (j:∀d,o.dst=some d->d<c.nt)
  {next:Act->World->Prop} {Q:Exit->Act->World->Prop} (hn:∀i w',c.sat σ' i w'->next i w'):o.wpIn (FR c.r) 0 c.P a w next Q:=by
 obtain⟨dst,op,type,pos,after,guard⟩:=o;simp only at h j;cases op<;>simp only[HZ]at h<;>try(cases h;done)
 case store t x y =>
  cases dst with
  | some d=>simp[Dr]at h
  | none =>
   simp only[Dr]at h;obtain⟨w',ρ',h1,f⟩:=oP (P:=c.P) hs e.K e.O e.T h k;exact tJ (w':=w') (by simp[execOp,h1]) (hn _ _ ⟨ρ',f⟩)
 case mapUpdate t m x y =>
  cases dst with
  | some d=>simp[Dr]at h
  | none =>
   simp only[Dr]at h;obtain⟨w',h1,f⟩:=A18 (P:=c.P) hs e.K e.T h;exact tJ (w':=w') (by simp[execOp,h1]) (hn _ _ ⟨ρ,f⟩)
 case call cl =>
  obtain⟨callee,args,argTypes⟩:=cl;cases callee with
  | value g=>simp[Dq]at h
  | invoke r m=>simp[Dq]at h
  | builtin b =>
   simp only[Dq]at h;obtain⟨args⟩:=args;obtain⟨argTypes⟩:=argTypes;simp only at h;unfold Eg at h;split at h
   .rename_i x y t u;obtain⟨z,w',ρ',h1,f⟩:=oO (P:=c.P) (ty:=type) hs e.K e.O e.T j h k;exact Ay (u:=z) (w':=w') (by simp[execOp,resolve,invoke,builtin,h1]) (hn _ _ ⟨ρ',f⟩)
   cases h
theorem Vk (b:c.Ok) {σ σ':St} {a:Act} {w:World} (hs:c.sat σ a w) {o:Oper} {vc:Prop} (h:IA c.tb o σ=some (vc,σ')) (i:vc) (g:∀d,o.dst=some d->d<c.nt)
  {next:Act->World->Prop} {Q:Exit->Act->World->Prop} (hn:∀f w',c.sat σ' f w'->next f w'):o.wpIn (FR c.r) 0 c.P a w next Q:=by
 obtain⟨ρ,hs⟩:=hs;have hs:=K5 (l:=DK σ o.op) hs;unfold IA Sv at h;generalize Cr (DK σ o.op) σ=k at h hs;cases e:aq c.tb k (o.dst.getD 0) o.op with
 | some r =>
  obtain⟨m,v,obs⟩:=r;rw[e]at h;simp only[OI]at h;split at h
  .rename_i hf;cases h;exact tG (A7b b hs) e i hf λu ρ' w' j=>hn _ _ ⟨ρ',hs.add b.K b.O g hf j⟩
  cases h
 | none =>
  rw[e]at h;exact A3v b hs h i g hn
theorem Hi {ops:Array Oper} {σ:St} {a:Act} {w:World} (hs:c.sat σ a w) {o:Oper} {b:Bool} (h:Et ops.toList σ o.guard=some b):Region.wanted o (yielded ops a.tmps)=b:=by
 obtain⟨ρ,hs⟩:=hs;unfold Et at h;split at h
 .rename_i e;cases h;simp[Region.wanted,e]
 rename_i j p e;cases f:(ops.toList[j]?).bind (·.dst) with
 | none=>rw[f]at h;simp[Kw]at h
 | some g =>
  rw[f]at h;simp only[Kw]at h;cases hl:lk g σ.env with
  | none=>rw[hl]at h;simp[Rh]at h
  | some v =>
   rw[hl]at h;unfold Rh at h;split at h
   .rename_i k l;cases l;cases h;have d:=hs.env g _ hl;have d:=EI d;have n:(ops[j]?).bind (·.dst)=some g:=by simpa using f
    have m:a.tmps[g]?=some (.bool k):=by
     by_cases i:g<a.tmps.size
     .have:a.tmps.getD g undef=a.tmps[g]:=by simp[Array.getD,i]
      rw[this]at d;rw[Ym i,d]
     have:a.tmps.getD g undef=undef:=by simp[Array.getD,i]
     rw[this]at d;cases d
    simp only[Region.wanted,e,yielded,n,Option.bind_some,m];cases k<;>cases p<;>rfl
   cases h
theorem NL {σ:St} {a:Act} {w:World} (b:c.Ok) (hs:c.sat σ a w) {dst:Option Nat} (e:∀d,dst=some d->d<c.nt):c.sat (σ.add (.raw undef) [] dst) (a.put dst undef) w:=by
 obtain⟨ρ,hs⟩:=hs;exact⟨ρ,hs.add b.K b.O e (by simp[Bd]) (QS.still rfl)⟩
def JF (nt:Nat) (o:Oper):Bool :=
 match o.dst with
 | some d=>decide (d<nt)
 | none=>true
theorem Ct {nt:Nat} {o:Oper} (h:JF nt o=true):∀d,o.dst=some d->d<nt:=by grind [JF]
theorem Ro (d:c.Ok) {ops:Array Oper} {Q:Exit->Act->World->Prop} {r:List Oper}:∀(l:List Oper) {σ σ':St} {vc:Prop} {a:Act} {w:World},c.sat σ a w->(∀o∈l,JF c.nt o=true)->Br c.tb ops.toList l σ=some (vc,σ')->vc ->
  (∀g w',c.sat σ' g w'->wpListIn (FR c.r) 0 c.P ops Q r g w')->wpListIn (FR c.r) 0 c.P ops Q (l++r) a w
 | [],σ,σ',vc,a,w,hs,e,h,f,i=>by grind [Br]
 | o :: l,σ,σ',vc,a,w,hs,e,h,f,i=>by
  simp only[Br]at h;cases j:Et ops.toList σ o.guard with
  | none=>rw[j]at h;simp[evG]at h
  | some b =>
   rw[j]at h;have s:=Hi hs j;have q:=Ct (e o (by simp));rw[ZP];unfold wpListIn;cases b with
   | true =>
    simp only[evG]at h;rw[Bq s];cases n:IA c.tb o σ with
    | none=>rw[n]at h;simp[evK]at h
    | some r =>
     obtain⟨x,v⟩:=r;rw[n]at h;simp only[evK]at h;cases m:Br c.tb ops.toList l v with
     | none=>rw[m]at h;simp[Yy]at h
     | some u =>
      obtain⟨y,σ2⟩:=u;rw[m]at h;simp only[Yy]at h;cases h;exact Vk d hs n f.1 q λg w' t=>Ro d l t (λp k=>e p (by simp[k])) m f.2 i
   | false =>
    simp only[evG]at h;rw[As (by simp[s])];refine⟨λ_ _=>trivial,?_⟩;exact Ro d l (NL d hs q) (λp k=>e p (by simp[k])) h f i
theorem QV (e:c.Ok) {ops:Array Oper} {Q:Exit->Act->World->Prop}:∀(l:List Oper) {σ σ':St} {vc:Prop} {a:Act} {w:World},c.sat σ a w->(∀o∈l,JF c.nt o=true)->Br c.tb ops.toList l σ=some (vc,σ')->vc ->
  (∀i w',c.sat σ' i w'->Q .normal i w')->wpListIn (FR c.r) 0 c.P ops Q l a w
 | [],σ,σ',vc,a,w,hs,f,h,g,d=>by
  simp only[Br]at h;cases h;exact d _ _ hs
 | o :: l,σ,σ',vc,a,w,hs,f,h,g,d=>by
  simp only[Br]at h;cases j:Et ops.toList σ o.guard with
  | none=>rw[j]at h;simp[evG]at h
  | some b =>
   rw[j]at h;have s:=Hi hs j;have q:=Ct (f o (by simp));unfold wpListIn;cases b with
   | true =>
    simp only[evG]at h;rw[Bq s];cases n:IA c.tb o σ with
    | none=>rw[n]at h;simp[evK]at h
    | some r =>
     obtain⟨x,v⟩:=r;rw[n]at h;simp only[evK]at h;cases m:Br c.tb ops.toList l v with
     | none=>rw[m]at h;simp[Yy]at h
     | some u =>
      obtain⟨y,σ2⟩:=u;rw[m]at h;simp only[Yy]at h;cases h;exact Vk e hs n g.1 q λi w' t=>QV e l t (λp k=>f p (by simp[k])) m g.2 d
   | false =>
    simp only[evG]at h;rw[As (by simp[s])];refine⟨λ_ _=>trivial,?_⟩;exact QV e l (NL e hs q) (λp k=>f p (by simp[k])) h g d
end
end
section
open Go Go.RowKit
inductive DI where
 | seq (c:Code)
 | blk (id:Nat)
 
 | inv (post:St->Prop)
def BZ (nt:Nat):Code->Bool
 | .region _ ops _=>ops.toList.all (JF nt)
 | .seq a b=>BZ nt a&&BZ nt b
 | .cond _ a b=>BZ nt a&&BZ nt b
 | .block _ b=>BZ nt b
 | .loop b=>BZ nt b
 | .scope b=>BZ nt b
 | _=>true
def DB (nt:Nat):List DI->Bool
 | []=>true
 | .seq c :: k=>BZ nt c&&DB nt k
 | _ :: k=>DB nt k
def Un (c:Cx) (R:Exit->Act->World->Prop):List DI->Exit->Act->World->Prop
 | [],e,a,w=>R e a w
 | .seq y :: k,.normal,a,w=>y.wpIn (FR c.r) 0 c.P (Un c R k) a w
 | .seq _ :: k,e,a,w=>Un c R k e a w
 | .blk id :: k,.exit b,a,w=>if b=id then Un c R k .normal a w else Un c R k (.exit b) a w
 | .blk _ :: k,e,a,w=>Un c R k e a w
 | .inv post :: _,.normal,a,w=>∃σ,c.sat σ a w/\post σ
 | .inv _ :: k,e,a,w=>Un c R k e a w
inductive tQ where
 | run (cd:Code)
 | out (e:Exit)
def nwp (c:Cx) (R:Exit->Act->World->Prop) (k:List DI):tQ->Act->World->Prop
 | .run cd,a,w=>cd.wpIn (FR c.r) 0 c.P (Un c R k) a w
 | .out e,a,w=>Un c R k e a w
def Ha (nt:Nat):tQ->Bool
 | .run cd=>BZ nt cd
 | .out _=>true
def Ev (c:Cx) (R:Exit->Act->World->Prop) (n:tQ) (k:List DI) (σ:St):Prop :=
 Ha c.nt n=true->DB c.nt k=true->∀a w,c.sat σ a w->nwp c R k n a w
theorem UA {F:Fence} {j:Nat} {P:Program} {Q:Exit->Act->World->Prop} {a:Act} {w:World} {c:Code} (b:Nat->Act->World->Prop) (i:Nat) (o:b i a w)
  (round:∀n a w,b n a w->c.wpIn F j P (Exit.then (λg w'=>∃f,f<n/\b f g w') Q) a w):(Code.loop c).wpIn F j P Q a w:=by
 refine wpIn_loop (λa w=>∃n,b n a w) (λa w=>leastOf (λn=>b n a w)) ⟨i,o⟩ ?_;intro a w k;refine AGh (round _ a w (leastOf_spec k).1) ?_;intro e g w' d;cases e with
 | normal =>
  obtain⟨f,m,h⟩:=d;exact show (∃n,b n g w')/\leastOf (λn=>b n g w')<leastOf (λn=>b n a w) from ⟨⟨f,h⟩,AFZ ((leastOf_spec ⟨f,h⟩).2 f h) m⟩
 | exit id=>exact d
 | goto l=>exact d
 | ret=>exact d
 | panic ch=>exact d
 | outgrown=>exact d
def Ent (c:Cx) (σ σ':St):Prop:=∀a w,c.sat σ a w->c.sat σ' a w
section
variable {c:Cx} {R:Exit->Act->World->Prop} {k:List DI} {σ σ':St}
theorem Ev.ent {n:tQ} (h:Ev c R n k σ') (d:Ent c σ σ'):Ev c R n k σ:=λh1 b a w hs=>h h1 b a w (d a w hs)
theorem AAP {x y:Code} (h:Ev c R (.run x) (.seq y :: k) σ):Ev c R (.run (.seq x y)) k σ:=by
 intro h1 b a w hs;simp only[Ha,BZ,An]at h1;refine wpIn_seq (AGh (h h1.1 (by simp[DB,h1.2,b]) a w hs) ?_);intro e f w' d;cases e<;>exact d
theorem tR (h:Ev c R (.out .normal) k σ):Ev c R (.run .skip) k σ:=λ_ b a w hs=>wpIn_skip (h rfl b a w hs)
theorem AAQ (h:Ev c R (.out .ret) k σ):Ev c R (.run .ret) k σ:=λ_ b a w hs=>wpIn_ret (h rfl b a w hs)
theorem A7c {id:Nat} (h:Ev c R (.out (.exit id)) k σ):Ev c R (.run (.exit id)) k σ:=λ_ b a w hs=>wpIn_exit (h rfl b a w hs)
theorem A3w {id:Nat} {b:Code} (h:Ev c R (.run b) (.blk id :: k) σ):Ev c R (.run (.block id b)) k σ:=by
 intro h1 d a w hs;refine wpIn_block (AGh (h (by simpa[Ha,BZ] using h1) (by simpa[DB] using d) a w hs) ?_);intro e g w' f;cases e<;>exact f
def EvR (c:Cx) (R:Exit->Act->World->Prop) (k:List DI):DE->Prop
 | some (vc,σ)=>vc/\Ev c R (.out .normal) k σ
 | none=>False
theorem A19 (f:c.Ok) {id:Nat} {ops:Array Oper} (h:EvR c R k (Br c.tb ops.toList ops.toList σ)):Ev c R (.run (.region id ops false)) k σ:=by
 intro h1 e a w hs;cases b:Br c.tb ops.toList ops.toList σ with
 | none=>rw[b]at h;exact h.elim
 | some r =>
  obtain⟨vc,σ'⟩:=r;rw[b]at h;simp only[Ha,BZ,OR]at h1;exact AFC (QV f ops.toList hs h1 b h.1 λd w' g=>h.2 rfl e d w' g)
def EvC (c:Cx) (R:Exit->Act->World->Prop) (x y:Code) (k:List DI) (σ:St):Option AV->Prop
 | some (.p .bool b)=>(b=true->Ev c R (.run x) k σ)/\(b=false->Ev c R (.run y) k σ)
 | _=>False
theorem A7d {o:Operand} {x y:Code} (h:EvC c R x y k σ (Aq σ o)):Ev c R (.run (.cond o x y)) k σ:=by
 intro h1 g a w hs;simp only[Ha,BZ,An]at h1;obtain⟨ρ,f⟩:=hs;have j:=F3 f.env;cases e:Aq σ o with
 | none=>rw[e]at h;exact h.elim
 | some v =>
  have l:=j o v e;rw[e]at h;unfold EvC at h;split at h
  .rename_i b i;cases i;have d:=EI l;exact wpIn_cond_split d (λd=>h.1 d h1.1 g a w ⟨ρ,f⟩) (λd=>h.2 d h1.2 g a w ⟨ρ,f⟩)
  exact h.elim
theorem IE {y:Code} (h:Ev c R (.run y) k σ):Ev c R (.out .normal) (.seq y :: k) σ:=by
 intro _ b a w hs;simp only[DB,An]at b;exact h b.1 b.2 a w hs
theorem iY {id:Nat} {y:Code} (h:Ev c R (.out (.exit id)) k σ):Ev c R (.out (.exit id)) (.seq y :: k) σ:=by
 intro _ b a w hs;simp only[DB,An]at b;exact h rfl b.2 a w hs
theorem oQ {y:Code} (h:Ev c R (.out .ret) k σ):Ev c R (.out .ret) (.seq y :: k) σ:=by
 intro _ b a w hs;simp only[DB,An]at b;exact h rfl b.2 a w hs
theorem oT {id:Nat} (h:Ev c R (.out .normal) k σ):Ev c R (.out .normal) (.blk id :: k) σ:=λ_ b a w hs=>h rfl (by simpa[DB] using b) a w hs
theorem S8 {id b:Nat} (h:if b=id then Ev c R (.out .normal) k σ else Ev c R (.out (.exit b)) k σ):Ev c R (.out (.exit b)) (.blk id :: k) σ:=by
 intro _ d a w hs;have d:DB c.nt k=true:=by simpa[DB] using d
 show (if b=id then Un c R k .normal a w else Un c R k (.exit b) a w);split at h
 .rename_i e;rw[Bq e];exact h rfl d a w hs
 rename_i e;rw[As e];exact h rfl d a w hs
theorem oU {id:Nat} (h:Ev c R (.out .ret) k σ):Ev c R (.out .ret) (.blk id :: k) σ:=λ_ b a w hs=>h rfl (by simpa[DB] using b) a w hs
theorem AB {post:St->Prop} (h:post σ):Ev c R (.out .normal) (.inv post :: k) σ:=λ_ _ _ _ hs=>⟨σ,hs,h⟩
theorem iZ {id:Nat} {post:St->Prop} (h:Ev c R (.out (.exit id)) k σ):Ev c R (.out (.exit id)) (.inv post :: k) σ:=λ_ b a w hs=>h rfl (by simpa[DB] using b) a w hs
theorem oV {post:St->Prop} (h:Ev c R (.out .ret) k σ):Ev c R (.out .ret) (.inv post :: k) σ:=λ_ b a w hs=>h rfl (by simpa[DB] using b) a w hs
def AC5 (c:Cx) {ι:Type} (I:ι->St) (μ:ι->Nat) (i:ι) (σ:St):Prop:=∃j,μ j<μ i/\Ent c σ (I j)
theorem AK {ι:Type} (d:ι->St) (f:ι->Nat) (g:ι) {b:Code} (h0:Ent c σ (d g)) (o:∀i,Ev c R (.run b) (.inv (AC5 c d f i) :: k) (d i)):Ev c R (.run (.loop b)) k σ:=by
 intro h1 m a w hs;have h1:BZ c.nt b=true:=by simpa[Ha,BZ] using h1
 refine UA (λn a w=>∃i,f i=n/\c.sat (d i) a w) (f g) ⟨g,rfl,h0 a w hs⟩ ?_;rintro n a w ⟨i,rfl,hs⟩;refine AGh (o i h1 (by simpa[DB] using m) a w hs) ?_;intro e l w' h;cases e with
 | normal =>
  obtain⟨σ',r,j,q,p⟩:=h;exact⟨f j,q,j,rfl,p l w' r⟩
 | _=>exact h
theorem QW {ι:Type} (b:ι->St) {x y:Code} (h:Ev c R (.run x) (.inv (fun σ'=>∃i,Ent c σ' (b i)) :: .seq y :: k) σ) (m:∀i,Ev c R (.run y) k (b i)):Ev c R (.run (.seq x y)) k σ:=by
 intro h1 f a w hs;simp only[Ha,BZ,An]at h1;refine wpIn_seq (AGh (h h1.1 (by simp[DB,h1.2,f]) a w hs) ?_);intro e d w' g;cases e with
 | normal =>
  obtain⟨σ',l,i,j⟩:=g;exact m i h1.2 f d w' (j d w' l)
 | _=>exact g
end
end
section
open Go Go.RowKit
def AM:Nat->(ts:List Ty)->Kk ts->List (Nat×AV)
 | _,[],_=>[]
 | s,t :: ts,d=>(s,.p t d.1) :: AM (s+1) ts d.2
def K6 (σ:St) (ty:Ty):Option AV->Option AV
 | some (.bp n a off)=>match EZ ty a off (lk n σ.objs) with
  | some (_,v,_)=>some v
  | none=>none
 | _=>none
def K7 (tb:Tb) (σ:St):ResultVar->Option AV
 | .tmp t=>lk t σ.env
 | .cell a t=>match lk t tb.ty with
  | some ti=>K6 σ ti.ty (lk a σ.env)
  | none=>none
def NM:Option AV->List Nat
 | some v=>v.names
 | none=>[]
def Jf (σ:St) (t:Ty):Option AV->Option t.den
 | some v=>ND false σ t v
 | none=>none
def J0 (σ:St) (et:TypeId) (e:Ty):Option Obj->Option (List e.den)
 | some (.arr b a xs)=>if b=et then BQ (.slice e) ⟨.slice a,xs⟩ else none
 | _=>none
def OL (tb:Tb) (σ:St) (rv:ResultVar):RV->Prop
 | .p t d=>Jf (Cr (NM (K7 tb σ rv)) σ) t (K7 tb (Cr (NM (K7 tb σ rv)) σ) rv)=some d
 | .own et e xs=>match K7 tb σ rv with
  | some (.sr n a 0 hi)=>a=e/\J0 σ et e (lk n σ.objs)=some xs/\hi=xs.length
  | _=>False
def OM (tb:Tb) (σ:St):List ResultVar->List RV->Prop
 | [],[]=>True
 | [rv],[r]=>OL tb σ rv r
 | rv :: b,.p t d :: a=>OL tb σ rv (.p t d)/\OM tb σ b a
 | _,_=>False
section
variable {P:Program} {tb:Tb} {w0:World} {O0:Nat->Prop} {nt:Nat} {ds:Fp}
def cx (P:Program) (tb:Tb) (w0:World) (O0:Nat->Prop) (nt:Nat):Cx:={ P:=P,tb:=tb,w0:=w0,K:=λb=>b<w0.heap.size,O0:=O0,nt:=nt }
theorem Zj:∀(ts:List Ty) (a:List Value) (ds:Kk ts) (k:Nat) (w:World) (O:Nat->Prop),QM w O ts a ds->∀s v,lk s (AM k ts ds)=some v->k<=s/\∃u,a[s-k]?=some u/\∃t d,v=.p t d/\BS w O t u d
 | [],a,ds,k,w,O,h,s,v,hs=>by simp[AM,lk]at hs
 | t :: ts,a,ds,k,w,O,h,s,v,hs=>by
  obtain⟨u,r,rfl,h1,b⟩:=h;simp only[AM,lk]at hs;split at hs
  .grind
  obtain⟨c,g,e,f⟩:=Zj ts r ds.2 (k+1) w O b s v hs;grind
theorem S9:∀ {ts:List Ty} {a:List Value} {ds:Kk ts} {w:World} {O:Nat->Prop},QM w O ts a ds->a.length=ts.length
 | [],a,ds,w,O,h=>by have h:a=[]:=h;subst h;rfl
 | t :: ts,a,ds,w,O,h=>by
  obtain⟨u,r,rfl,h1,b⟩:=h;simp[S9 b]
theorem A1a {ts:List Ty} {a:List Value} {ds:Kk ts} (h:QM w0 O0 ts a ds) (k:a.length<=nt) :
  (cx P tb w0 O0 nt).sat ⟨AM 0 ts ds,[]⟩ { tmps:=a.toArray++Array.replicate (nt-a.toArray.size) undef,defers:=[] } w0:=by
 refine⟨λ_=>undef,⟨rfl,rfl,rfl,NO _,λ_ _=>rfl⟩,by simp[cx];omega,rfl,(λp hp=>by simp[cx]at hp),λn o h=>by simp[lk]at h,λn b ⟨o,h⟩=>by simp[lk]at h,λn m b ⟨o,h⟩=>by simp[lk]at h,λs v hs=>?_⟩;obtain⟨_,u,h1,t,d,rfl,e⟩:=Zj ts a ds 0 w0 O0 h s v hs;have c:s<a.length:=by grind
 have i:(a.toArray++Array.replicate (nt-a.toArray.size) undef).getD s undef=u:=by
  have h1:a[s]?=some u:=by simpa using h1
  have:a[s]=u:=by rw[AT c]at h1;injection h1
  simp[Array.getElem?_append,c,this]
 rw[i];refine BS.mono (λb _ f g=>?_) (λ_ _ _=>rfl) e;rcases g with h0|⟨n,⟨o,j⟩,_⟩
 .exact f h0
 simp[lk]at j
def J4 (tmps:Array Value):ResultVar->Sem Value
 | .tmp t=>pure (tmps.getD t undef)
 | .cell a t=>do loadVar t (<-asAddr (tmps.getD a undef))
theorem Ow (fn:Func) (tmps:Array Value):results fn tmps=(do let a <-fn.results.mapM (J4 tmps);pure (if h:a.size=1 then a[0] else .tuple a)):=by
 unfold results
 congr 1
theorem Uo (hT:DH P tb) {K:Nat->Prop} {σ:St} {ρ:Nat->Value} {a:Act} {w:World} (hs:CB w0 K O0 nt ds σ ρ a w) {rv:ResultVar} {v:AV} (h:K7 tb σ rv=some v) :
  ∃u,(J4 a.tmps rv).run P w=.ok u w/\B3 (vw w O0 σ ρ) v u:=by
 cases rv with
 | tmp t =>
  simp only[K7]at h;exact⟨_,by simp[J4],hs.env t v h⟩
 | cell x t =>
  simp only[K7]at h;cases d:lk t tb.ty with
  | none=>rw[d]at h;simp at h
  | some ti =>
   rw[d]at h;simp only at h;cases hx:lk x σ.env with
   | none=>rw[hx]at h;simp[K6]at h
   | some xv =>
    rw[hx]at h;unfold K6 at h;split at h
    .rename_i n k off g;cases g;have e:=hs.env x _ hx;split at h
     .rename_i vc m obs i;cases h;have j:Jw σ (some ti) (some (.bp n k off))=some (vc,v,obs):=i;obtain⟨_,u,h1,f⟩:=A3e (hT _ _ d) hs.objs j e;obtain⟨l,b,_,c⟩:=e;rw[c]at h1;have c:a.tmps.getD x undef=.pointer (some ⟨b,off,none⟩):=c;refine⟨u,?_,f⟩;simp only[Instr.loadAt,Instr.sureAddr,gO,AF6,Yj]at h1;simp only[J4,c,asAddr,gO,AF6,Yj,h1]
     cases h
    cases h
theorem A7e (hT:DH P tb) {K:Nat->Prop} {σ:St} {ρ:Nat->Value} {a:Act} {w:World} (hs:CB w0 K O0 nt ds σ ρ a w) {rv:ResultVar} {t:Ty} {d:t.den} (h:OL tb σ rv (.p t d)) :
  ∃u,(J4 a.tmps rv).run P w=.ok u w/\BS w O0 t u d:=by
 unfold OL at h;have e:=K5 (l:=NM (K7 tb σ rv)) hs;generalize Cr (NM (K7 tb σ rv)) σ=f at h e;cases c:K7 tb f rv with
 | none=>rw[c]at h;simp[Jf]at h
 | some v =>
  rw[c]at h;simp only[Jf]at h;obtain⟨u,h1,g⟩:=Uo hT e c;have i:=Lg (V:=vw w O0 f ρ) (O':=O0) (λb j k=>j (.inl k)) (λh=>by cases h) e.objs h g;exact⟨u,h1,i⟩
theorem A3x (hT:DH P tb) {K:Nat->Prop} {σ:St} {ρ:Nat->Value} {a:Act} {w:World} (hs:CB w0 K O0 nt ds σ ρ a w):∀ {f:List ResultVar} {c:List RV},(∀r∈c,∃t d,r=.p t d)->OM tb σ f c ->
  ∃e:List Value,(f.mapM (J4 a.tmps)).run P w=.ok e w/\e.length=c.length /\
   ∀nm V,V.w=w->(∀b,V.O b->O0 b)->IB V (H5 nm c) e
 | [],[],_,_=>⟨[],by simp,rfl,λ_ _ _ _=>rfl⟩
 | [],_ :: _,_,h=>by simp[OM]at h
 | _ :: _,[],_,h=>by simp[OM]at h
 | rv :: f,r :: c,hp,h=>by
  obtain⟨t,d,rfl⟩:=hp r (by simp);have g:OL tb σ rv (.p t d)/\OM tb σ f c:=by
   cases f with
   | nil =>
    cases c with
    | nil=>exact⟨h,trivial⟩
    | cons q s=>exact⟨h.1,h.2⟩
   | cons v x=>exact⟨h.1,h.2⟩
  obtain⟨u,h1,n⟩:=A7e hT hs g.1;obtain⟨e,o,i,j⟩:=A3x hT hs (λr l=>hp r (by simp[l])) g.2;refine⟨u :: e,?_,by simp[i],λnm V m k=>⟨u,e,rfl,?_,j _ V m k⟩⟩
  .simp_all
  show BS V.w V.O t u d;grind [BS.mono]
def TA (P:Program) (fn:Func) (w0:World) (O0:Nat->Prop) (outs:List RV):Exit->Act->World->Prop :=
 bodyPost P fn λe w'=>∃u,e=.returned u/\A3n w0 O0 outs u w'
theorem A3y (s:(cx P tb w0 O0 nt).Ok) {fn:Func} {outs:List RV} {σ:St} {e:Exit} (x:e=.ret\/e=.normal) (hp:∀r∈outs,∃t d,r=.p t d) (h:OM tb σ fn.results.toList outs) :
  Ev (cx P tb w0 O0 nt) (TA P fn w0 O0 outs) (.out e) [] σ:=by
 intro _ _ a w hs;obtain⟨ρ,hs⟩:=hs;obtain⟨f,h1,g,k⟩:=A3x s.T hs hp h;have h1:(fn.results.toList.mapM (J4 a.tmps)).run P w=.ok f w:=h1;have q:Below w0.heap.size w0 w:=⟨hs.frm.os,hs.frm.tape,hs.frm.output,hs.frm.size,hs.frm.block⟩;have C:∃v,(results fn a.tmps).run P w=.ok v w/\A3n w0 O0 outs v w:=by
  have z:(fn.results.mapM (J4 a.tmps)).run P w=.ok f.toArray w:=by
   rw[AC6]
   simp_all
  refine⟨if h:f.toArray.size=1 then f.toArray[0] else .tuple f.toArray,?_,λnm=>⟨λ_=>undef,?_⟩⟩
  .rw[Ow];simp only[gO,z,Yj,AF6]
  have y:Cq nm outs=[]:=by
   clear h h1 g k;induction outs generalizing nm with
   | nil=>rfl
   | cons r E D =>
    obtain⟨t,d,rfl⟩:=hp r (by simp);simp only[Cq,Sp,aT];exact D (λr B=>hp r (by simp[B])) (nm+10000)
  rw[y];refine⟨q,λ_ _=>rfl,?_,(λ_ _ h=>by cases h),(λ_ _ _ h=>by cases h),(λ_ _ _ _ _ h=>by cases h)⟩;have c:=k nm (vw w O0 (EO ⟨[],[]⟩ []) (λ_=>undef)) rfl (λb m=>by
   rcases m with h0|⟨n,⟨o,A⟩,_⟩
   .exact h0
   simp[EO,lk]at A)
  match outs,hp,f,g,c with
  | [],_,f,g,c =>
   have c:f=[]:=c;subst c;exact(rfl:_=_)
  | [r],hp,f,g,c =>
   obtain⟨u,l,rfl,i,j⟩:=c;have j:l=[]:=j;subst j;simp only[HY];exact A36 i
  | F :: G :: E,hp,f,g,c =>
   have:¬f.toArray.size=1:=by simp at g ⊢;omega
   rw[dif_neg this];exact⟨f,rfl,c⟩
 obtain⟨v,c,i⟩:=C;rcases x with rfl|rfl
 .exact⟨hs.defers,v,c,v,rfl,i⟩
 exact⟨hs.defers,v,c,v,rfl,i⟩
end
end
section
open Go Go.RowKit
def Ty.ok:(t:Ty)->t.den->Prop
 | .int k,d=>Kh k d
 | .bool,_=>True
 | .str,d=>ByteArray.size d<=AQ
 | .slice e,d=>List.length d<=AQ/\∀x∈(d:List e.den),e.ok x
 | .prod a b,d=>a.ok d.1/\b.ok d.2
 | .agg t,d=>t.ok d
 | .ref _,_=>True
theorem IG {w:World} {O:Nat->Prop}:∀ {t:Ty} {cs:List Value} {d:t.den},B0 w O t cs d->t.ok d
 | .int _,_,_,h=>h.2
 | .bool,_,_,_=>trivial
 | .str,_,_,h=>h.2
 | .ref _,_,_,_=>trivial
 | .slice e,_,d,h=>by
  obtain⟨a,c,_,_,f,g⟩:=h;refine⟨f,λx hx=>?_⟩;rcases g with g|⟨ad,_,_,j⟩
  .subst g;simp at hx
  obtain⟨i,hi,rfl⟩:=ZT.1 hx;obtain⟨l,_,_,k⟩:=j i _ (AT hi);exact IG k
 | .prod a b,_,_,h=>by
  obtain⟨c1,c2,_,h1,f⟩:=h;exact⟨IG h1,IG f⟩
 | .agg t,cs,d,h=>by
  have h:B0 w O t cs d:=h;exact(IG h:t.ok d)
def oks:(ts:List Ty)->Kk ts->Prop
 | [],_=>True
 | t :: ts,d=>t.ok d.1/\oks ts d.2
theorem tS {w:World} {O:Nat->Prop}:∀ {ts:List Ty} {a:List Value} {ds:Kk ts},QM w O ts a ds->oks ts ds
 | [],_,_,_=>trivial
 | t :: ts,a,ds,h=>by
  obtain⟨v,r,rfl,⟨cs,h1,_⟩,b⟩:=h;exact⟨IG h1,tS b⟩
section
variable {P:Program} {tb:Tb} {w0:World} {O0:Nat->Prop} {nt:Nat}
theorem AA9 {f : FuncId} {fn : Func} {cd : Code} {sp : AZ} (d : P.funcs[f]? = some fn) (j : (fn.name == "runtime.NumGoroutine") = false) (c : fn.body = some cd) (k : fn.ntmps = nt) (m : sp.ins.length <= nt)
  (i:BZ nt cd=true) (hT:DH P tb) (hF:JD P tb)
  (h:∀(w0:World) (O0:Nat->Prop) (ds:Kk sp.ins),(cx P tb w0 O0 nt).Ok->oks sp.ins ds->sp.pre ds->Ev (cx P tb w0 O0 nt) (TA P fn w0 O0 (sp.out ds)) (.run cd) [] ⟨AM 0 sp.ins ds,[]⟩):Ad P f sp:=by
 refine⟨⟨fn,d,j,by simp[c]⟩,λw O p ds e a l=>?_⟩;refine calls_of_wp d c ((wpIn_wide (n:=0)).1 ?_);have o:=S9 a;rw[k];exact h w O ds ⟨λb g=>g,e,hT,hF⟩ (tS a) l i rfl _ _ (A1a a (by omega))
theorem oW (M:(cx P tb w0 O0 nt).Ok) {fn:Func} {et:TypeId} {e:Ty} {xs:List e.den} {σ:St} {ex:Exit} (j:ex=.ret\/ex=.normal) {rv:ResultVar} (Q:fn.results=#[rv]) (h:OL tb σ rv (.own et e xs)) :
  Ev (cx P tb w0 O0 nt) (TA P fn w0 O0 [.own et e xs]) (.out ex) [] σ:=by
 intro _ _ a w hs;obtain⟨ρ,hs⟩:=hs;have K:Below w0.heap.size w0 w:=⟨hs.frm.os,hs.frm.tape,hs.frm.output,hs.frm.size,hs.frm.block⟩;unfold OL at h;simp only at h;split at h
 .rename_i n X hi R;obtain⟨rfl,c,rfl⟩:=h;cases hn:lk n σ.objs with
  | none=>rw[hn]at c;simp[J0]at c
  | some o =>
   rw[hn]at c;cases o with
   | box d st fs=>simp[J0]at c
   | mapo k v l=>simp[J0]at c
   | frame aj fs=>simp[J0]at c
   | loop L=>simp[J0]at c
   | itr af ai ag ah ad=>simp[J0]at c
   | dfr=>simp[J0]at c
   | nest Y ae k e2 ys hl=>simp[J0]at c
   | arr d e2 ys =>
    simp only[J0]at c;split at c
    .rename_i O;subst O;obtain⟨rfl,G⟩:=Bi c;cases G;obtain⟨u,hu,I⟩:=Uo (P:=P) M.T hs R;obtain⟨Z,t⟩:=I;have A:=hs.objs n _ hn;have p:u=ρ n:=by
      obtain⟨U,m,c0,s,_,aa,S,V,rfl,_,h0,_⟩:=t;have s:plc (ρ n)=_:=s;obtain⟨rfl,rfl⟩:=h0 rfl;obtain⟨_,cells,r,_⟩:=A;have r:w.ownsRow 0 d e2.size (ρ n) ys.length cells:=r;rw[Hf r]at s;have q:m=ys.length:=by
       rcases r.2 with ⟨j,ab⟩|⟨g,cap,W,j,_⟩
       .rw[s]at j;injection j;omega
       rw[s]at j;injection j
      rw[s,q,Nat.sub_zero]
     have B:(results fn a.tmps).run P w=.ok u w:=by
      rw[Ow,Q];have:((#[rv]:Array ResultVar).mapM (J4 a.tmps)).run P w=.ok #[u] w:=by
       rw[AC6];simp[hu]
      simp only[gO,this,Yj,AF6];rfl
     have y:A3n w0 O0 [.own d e2 ys] u w:=by
      intro nm;have z:∀m,HL (EO ⟨[],[]⟩ [(nm,.arr d e2 ys)]) m↔m=nm:=by
       intro m;simp[HL,EO,lk]
      have hk:∀b,¬own O0 σ ρ b->¬own O0 (EO ⟨[],[]⟩ [(nm,.arr d e2 ys)]) (E9 (λ_=>undef) nm u) b:=by
       intro b f J;rcases J with h0|⟨m,hl,q⟩
       .exact f (.inl h0)
       rw[(z m).1 hl,Bt,p]at q;exact f (.inr ⟨n,⟨_,hn⟩,q⟩)
      have H:Cq nm [RV.own d e2 ys]=[(nm,.arr d e2 ys)]:=rfl;rw[H];refine⟨E9 (λ_=>undef) nm u,QS.one (loc:=u) K (λb f=>?_) ?_ ?_⟩
      .rw[p]at f;have:=(hs.free n b ⟨_,hn⟩ f).1;simp only[cx]at this;omega
      .refine⟨(z nm).2 rfl,?_⟩;show DT (plc (E9 (λ_=>undef) nm u nm)) _ _ _ u;rw[Bt,p];rw[p]at t;exact t
      rw[p];obtain⟨q,cells,r,N⟩:=A;refine⟨q,cells,r,λi x hi=>?_⟩;obtain⟨C,D,E,F⟩:=N i x hi;rw[p]at hk;exact⟨C,D,E,F.mono (λb _ f=>hk b f) (λ_ _ _=>rfl)⟩
     rcases j with rfl|rfl
     .exact⟨hs.defers,u,B,u,rfl,y⟩
     exact⟨hs.defers,u,B,u,rfl,y⟩
    cases c
 exact h.elim
end
end
section
open Go Go.RowKit
section
variable {P:Program} {tb:Tb} {w0:World} {O0:Nat->Prop} {nt:Nat} {R:Exit->Act->World->Prop} {k:List DI} {σ σ':St}
theorem i5:(cx P tb w0 O0 nt).tb=tb:=rfl
theorem oX {c:Cx} (a:c.Ok) {id:Nat} {l:List Oper} {vc:Prop} (h:Br c.tb l l σ=some (vc,σ')) (b:vc) (hk:Ev c R (.out .normal) k σ') :
  Ev c R (.run (.region id l.toArray false)) k σ:=A19 a (by
 show EvR _ _ _ (Br c.tb l l σ);rw[h];exact⟨b,hk⟩)
theorem De {c:Cx} {o:Operand} {x y:Code} {b:Bool} (h:Aq σ o=some (.p .bool b)) (a:b=true->Ev c R (.run x) k σ) (hf:b=false->Ev c R (.run y) k σ):Ev c R (.run (.cond o x y)) k σ :=
 A7d (by rw[h];exact⟨a,hf⟩)
theorem oY {c:Cx} {id:Nat} (h:Ev c R (.out .normal) k σ):Ev c R (.out (.exit id)) (.blk id :: k) σ:=S8 (by rw[Bq rfl];exact h)
theorem oZ {c:Cx} {id a:Nat} (b:a≠id) (h:Ev c R (.out (.exit a)) k σ):Ev c R (.out (.exit a)) (.blk id :: k) σ:=S8 (by rw[As b];exact h)
end
inductive B1 where
 | nm (n:Nat)
 | nil
def Dt (ren:List (Nat×B1)):AV->AV->Prop
 | .p t d,.p u a=>BQ u ⟨t,d⟩=some a
 | .raw (.slice none 0 0),.p (.slice e) a=>(a:List e.den)=[]
 | .raw v,.raw u=>v=u
 | .raw (.slice none 0 0),.sr m _ lo hi=>lk m ren=some .nil/\lo=0/\hi=0
 | .sr n e lo hi,.sr m b h c=>lk m ren=some (.nm n)/\e=b/\lo=h/\hi=c
 | .ip t d,.ip u a=>BQ u ⟨t,d⟩=some a
 | .bp n p o,.bp m k j=>lk m ren=some (.nm n)/\p=k/\o=j
 | .fn f,.fn g=>f=g
 | .clo f ns,.clo g i=>f=g/\i.map (λm=>lk m ren)=ns.map λn=>some (.nm n)
 | .mp n,.mp m=>lk m ren=some (.nm n)
 | .yl n,.yl m=>lk m ren=some (.nm n)
 | _,.top=>True
 | _,_=>False
def FI (ren:List (Nat×B1)):List AV->List AV->Prop
 | [],[]=>True
 | x :: l,y :: r=>(x.cells=y.cells/\Dt ren x y)/\FI ren l r
 | _,_=>False
def II (ren:List (Nat×B1)):AV->AV->Prop
 | .ag l,.ag r=>FI ren l r
 | x,y=>Dt ren x y
def JG (ren:List (Nat×B1)):List AV->List AV->Prop
 | [],[]=>True
 | x :: l,y :: r=>II ren x y/\JG ren l r
 | _,_=>False
def Bj (ren:List (Nat×B1)):AV->AV->Prop
 | .tup l,.tup r=>JG ren l r
 | x,y=>II ren x y
def K8 (ren:List (Nat×B1)):Option AV->AV->Prop
 | some x,y=>Bj ren x y
 | none,.top=>True
 | none,_=>False
def FJ (env:List (Nat×AV)) (ren:List (Nat×B1)):List (Nat×AV)->Prop
 | []=>True
 | (s,y) :: r=>K8 ren (lk s env) y/\FJ env ren r
def IJ (ren:List (Nat×B1)):Option Obj->Obj->Prop
 | some (.arr et e xs),.arr a c ys=>et=a/\BQ (.slice c) ⟨.slice e,xs⟩=some ys
 | some (.box et st fs),.box a q d=>et=a/\st=q/\FI ren fs d
 | some (.nest et n k e xs h),.nest a o b c ys m=>(et=a/\n=o/\h=m)/\BQ (.slice (.prod b (.slice c))) ⟨.slice (.prod k (.slice e)),xs⟩=some ys
 | some (.mapo k v l),.mapo b f l'=>BQ (.slice (.prod b f)) ⟨.slice (.prod k v),l⟩=some l'
 | some (.frame r fs),.frame s d=>r=s/\FJ fs ren d
 | some (.itr k v l lf i),.itr b f l' p j=>BQ (.slice (.prod b f)) ⟨.slice (.prod k v),l⟩=some l'/\lf=p/\i=j
 | some (.loop L),.loop g=>L=g
 | some .dfr,.dfr=>True
 | _,_=>False
def Gd (objs:List (Nat×Obj)) (ren:List (Nat×B1)) (o:Obj):Option B1->Prop
 | some (.nm n)=>IJ ren (lk n objs) o
 | some .nil=>match o with
  | .arr _ e ys=>(ys:List e.den)=[]
  | .box _ _ _=>False
  | .nest _ _ k e ys _=>(ys:List (k.den×List e.den))=[]
  | .mapo _ _ _=>False
  | .frame _ _=>False
  | .itr _ _ _ _ _=>False
  | .loop _=>False
  | .dfr=>False
 | none=>False
def Ae (objs:List (Nat×Obj)) (ren:List (Nat×B1)):List (Nat×Obj)->Prop
 | []=>True
 | (m,o) :: r=>Gd objs ren o (lk m ren)/\Ae objs ren r
def B9:List (Nat×B1)->Bool
 | []=>true
 | (_,.nm n) :: r=>(r.all λp=>match p.2 with|.nm a=>a != n|.nil=>true)&&B9 r
 | (_,.nil) :: r=>B9 r
def MC {α:Type}:List (Nat×α)->Bool
 | []=>true
 | (n,_) :: r=>(r.all λp=>p.1 != n)&&MC r
section
variable {ren:List (Nat×B1)} {V V':Vw}
structure MD (ren:List (Nat×B1)) (V V':Vw):Prop where
 w:V'.w=V.w
 O:∀b,¬V.O b->¬V'.O b
 ρ:∀m n,lk m ren=some (.nm n)->V'.ρ m=V.ρ n
 nil:∀m,lk m ren=some .nil->V'.ρ m=.slice none 0 0
 L:∀m f,lk m ren=some f->V'.L m
theorem MD.vrep (h:MD ren V V') {t:Ty} {v:Value} {d:t.den} (c:BS V.w V.O t v d):BS V'.w V'.O t v d :=
 BS.mono (λb _ a=>h.O b a) (λb _ _=>by rw[h.w]) c
theorem MD.rep (h:MD ren V V') {t:Ty} {cs:List Value} {d:t.den} (c:B0 V.w V.O t cs d):B0 V'.w V'.O t cs d :=
 c.mono (λb _ a=>h.O b a) (λb _ _=>by rw[h.w])
theorem MD.map (h:MD ren V V'):∀ {b ns:List Nat},b.map (λm=>lk m ren)=ns.map (λn=>some (B1.nm n))->b.map V'.ρ=ns.map V.ρ/\∀m∈b,∃n∈ns,lk m ren=some (.nm n)
 | [],[],_=>⟨rfl,λ_ h=>by cases h⟩
 | [],_ :: _,a=>by simp at a
 | _ :: _,[],a=>by simp at a
 | m :: b,n :: ns,a=>by
  simp only[UY,AEU]at a;obtain⟨h1,c⟩:=h.map a.2;refine⟨by simp only[UY,h1,h.ρ _ _ a.1],λx hx=>?_⟩;grind
theorem Zk (h:MD ren V V') {x y:AV} {v:Value} (b:Dt ren x y) (hx:VX V x v):VX V' y v/\(∀t d,y=.p t d->(∀u f,x≠.p u f)->v.oneCell'=true->B0 V'.w V'.O t [v] d):=by
 unfold Dt at b;split at b
 .have:=A9 b;injection this with h1 c
  subst h1;cases c;exact⟨h.vrep hx,λ_ _ _ r=>absurd rfl (r _ _)⟩
 .have hx:v=_:=hx;subst hx;have g:=b;have i:∀(O:Nat->Prop) (e:Ty),B0 V'.w O (.slice e) [.slice none 0 0] ([]:List e.den):=λO e=>⟨none,0,rfl,by simp,by simp[AQ],.inl rfl⟩;rename_i e f;have g:f=([]:List e.den):=g;subst g;refine⟨⟨_,i _ _,rfl⟩,λt d a _ _=>?_⟩;grind
 .subst b;exact⟨hx,λt d a=>by cases a⟩
 .rename_i m e lo hi;obtain⟨h1,rfl,rfl⟩:=b;have hx:v=_:=hx;subst hx;refine⟨⟨h.L _ _ h1,?_⟩,λt d a=>by cases a⟩;rw[h.nil _ h1];exact⟨none,0,0,rfl,by omega,by omega,none,0,rfl,by omega,λ_=>⟨rfl,rfl⟩,λh=>by omega⟩
 .obtain⟨h1,rfl,rfl,rfl⟩:=b;refine⟨⟨h.L _ _ h1,?_⟩,λt d a=>by cases a⟩;rw[h.ρ _ _ h1];exact hx.2
 .have:=A9 b;injection this with h1 c
  subst h1;cases c;obtain⟨ad,cs,a,l,o,i⟩:=hx;exact⟨⟨ad,cs,a,h.O _ l,λj u q=>by rw[h.w];exact o j u q,h.rep i⟩,λt d a=>by cases a⟩
 .obtain⟨h1,rfl,rfl⟩:=b;refine⟨⟨h.L _ _ h1,?_⟩,λt d a=>by cases a⟩;rw[h.ρ _ _ h1];exact hx.2
 .subst b;exact⟨hx,λt d a=>by cases a⟩
 .obtain⟨rfl,hl⟩:=b;obtain⟨h1,c⟩:=h.map hl;refine⟨⟨?_,λm b=>?_⟩,λt d a=>by cases a⟩
  .rw[h1];exact hx.1
  obtain⟨n,hn,k⟩:=c m b;refine⟨h.L _ _ k,?_⟩;rw[h.ρ _ _ k];exact(hx.2 n hn).2
 .refine⟨⟨h.L _ _ b,?_⟩,λt d a=>by cases a⟩;rw[h.ρ _ _ b];exact hx.2
 .refine⟨⟨h.L _ _ b,?_⟩,λt d a=>by cases a⟩;rw[h.ρ _ _ b];exact hx.2
 .exact⟨trivial,λt d a=>by cases a⟩
 exact b.elim
theorem A1b (h:MD ren V V') {x y:AV} {cs:List Value} (c:x.cells=y.cells) (a:Dt ren x y) (hx:Nv V x cs):Nv V' y cs:=by
 by_cases hp:∃t d,x=.p t d
 .obtain⟨t,d,rfl⟩:=hp;have hx:B0 V.w V.O t cs d:=hx;cases y<;>simp only[Dt]at a<;>try exact a.elim
  .have:=A9 a;injection this with h1 b
   subst h1;cases b;exact h.rep hx
  have hl:=hx.length;simp only[AV.cells]at c;rw[c]at hl;obtain⟨v,rfl⟩:=ABO.1 hl;exact⟨v,rfl,hx.one v (by simp),trivial⟩
 have j:∃v,cs=[v]/\v.oneCell'=true/\VX V x v:=by
  cases x;case p t d=>exact absurd ⟨t,d,rfl⟩ hp
  all_goals exact hx
 obtain⟨v,rfl,h1,b⟩:=j;obtain⟨g,i⟩:=Zk h a b;cases y;case p t d=>exact i t d rfl (λu f e=>hp ⟨u,f,e⟩) h1
 all_goals exact⟨v,rfl,h1,g⟩
theorem Ox (h:MD ren V V'):∀ {l r:List AV} {cs:List Value},FI ren l r->Dd V l cs->Dd V' r cs
 | [],[],cs,_,hx=>hx
 | [],_ :: _,cs,a,_=>a.elim
 | _ :: _,[],cs,a,_=>a.elim
 | x :: l,y :: r,cs,a,hx=>by
  obtain⟨c1,c2,rfl,h1,b⟩:=hx;exact⟨c1,c2,rfl,A1b h a.1.1 a.1.2 h1,Ox h a.2 b⟩
theorem Li:∀ {l r:List AV},FI ren l r->l.length=r.length
 | [],[],_=>rfl
 | [],_ :: _,a=>a.elim
 | _ :: _,[],a=>a.elim
 | _ :: _,_ :: _,a=>by simp[Li a.2]
theorem Zl (h:MD ren V V') {x y:AV} {v:Value} (a:II ren x y) (hx:Sw V x v):Sw V' y v:=by
 cases x;case ag l =>
  cases y;case ag r =>
   obtain⟨cs,e,h1⟩:=hx;exact⟨cs,e,Ox h a h1⟩
  all_goals simp only[II,Dt]at a
  all_goals first|exact a.elim|exact trivial
 all_goals
  simp only[Sw]at hx;have a:Dt ren _ y:=a;exact Sw.of1 (Zk h a hx).1
theorem i6 (h:MD ren V V'):∀ {l r:List AV} {b:List Value},JG ren l r->IB V l b->IB V' r b
 | [],[],b,_,hx=>hx
 | [],_ :: _,b,a,_=>a.elim
 | _ :: _,[],b,a,_=>a.elim
 | x :: l,y :: r,b,a,hx=>by
  obtain⟨v,d,rfl,h1,c⟩:=hx;exact⟨v,d,rfl,Zl h a.1 h1,i6 h a.2 c⟩
theorem NP (h:MD ren V V') {x y:AV} {v:Value} (a:Bj ren x y) (hx:B3 V x v):B3 V' y v:=by
 cases x;case tup l =>
  cases y;case tup r =>
   obtain⟨b,e,h1⟩:=hx;exact⟨b,e,i6 h a h1⟩
  all_goals simp only[Bj,II,Dt]at a
  all_goals first|exact a.elim|exact trivial
 all_goals
  simp only[Bj]at a;exact A36 (Zl h a hx)
theorem DL {objs:List (Nat×Obj)} {m:Nat} {o:Obj}:∀ {l:List (Nat×Obj)},Ae objs ren l->lk m l=some o->Gd objs ren o (lk m ren)
 | (j,x) :: l,h,hl=>by
  simp only[lk]at hl;split at hl
  .rename_i e;cases hl;subst e;exact h.1
  exact DL h.2 hl
theorem ME {env:List (Nat×AV)} {s:Nat} {y:AV}:∀ {l:List (Nat×AV)},FJ env ren l->lk s l=some y->K8 ren (lk s env) y
 | (j,x) :: l,h,hl=>by
  simp only[lk]at hl;split at hl
  .rename_i e;cases hl;subst e;exact h.1
  exact ME h.2 hl
theorem Up:∀ {l:List (Nat×B1)} {m c n:Nat},B9 l=true->lk m l=some (.nm n)->lk c l=some (.nm n)->m=c
 | (j,f) :: l,m,c,n,a,h1,b=>by
  simp only[lk]at h1 b;have e:B9 l=true:=by
   cases f<;>simp only[B9,An]at a
   .exact a.2
   exact a
  have g:∀q,f=.nm n->lk q l=some (.nm n)->False:=by
   intro q hf d;subst hf;simp only[B9,An,OR]at a;have:=a.1 _ (F2 d);simp at this
  split at h1
  .grind
  split at b
  .grind
  exact Up e h1 b
def AC7 (n:Nat):Option B1->Bool
 | some (.nm m)=>m==n
 | _=>false
def AAR (pin:List (Nat×Value)) (ren:List (Nat×B1)):Bool:=pin.all λp=>AC7 p.1 (lk p.1 ren)
theorem Rp {V V':Vw} (a:MD ren V V') {M:List (Nat×Obj)} (ae:∀n x,lk n M=some x->A4 V x (V.ρ n)) {o:Obj} {m:Nat} (hf:Gd M ren o (lk m ren)):A4 V' o (V'.ρ m):=by
 cases I:lk m ren with
 | none=>rw[I]at hf;exact hf.elim
 | some f =>
  rw[I]at hf;cases f with
  | nil =>
   rw[a.nil m I];cases o with
   | box et st fs=>exact hf.elim
   | mapo k v l=>exact hf.elim
   | frame t fs=>exact hf.elim
   | loop L=>exact hf.elim
   | itr B E C D A=>exact hf.elim
   | dfr=>exact hf.elim
   | nest et ah k e ys hl =>
    have hf:ys=([]:List (k.den×List e.den)):=hf;subst hf;exact⟨_,[],[],.inr ⟨rfl,rfl,rfl⟩,by simp[AQ],rfl,AF4 _ 0 et _,λi x u h=>by simp at h,λi j b u v h=>by simp at h,λi b u h=>by simp at h⟩
   | arr et e ys =>
    have hf:ys=([]:List e.den):=hf;subst hf;exact⟨by simp[AQ],[],AF4 _ 0 et e.size,Ht _ _ _ _⟩
  | nm n =>
   rw[a.ρ m n I];simp only[Gd]at hf;cases hn:lk n M with
   | none=>rw[hn]at hf;simp only[IJ]at hf
   | some x =>
    rw[hn]at hf;have q:=ae n x hn;cases x with
    | arr et e xs =>
     cases o with
     | box c st fs=>exact hf.elim
     | mapo k v l=>exact hf.elim
     | frame t fs=>exact hf.elim
     | loop L=>exact hf.elim
     | itr B E C D A=>exact hf.elim
     | dfr=>exact hf.elim
     | nest _ _ _ _ _ _=>exact hf.elim
     | arr c p ys =>
      obtain⟨rfl,g⟩:=hf;obtain⟨rfl,d⟩:=Bi g;cases d;obtain⟨ab,cells,ad,Z⟩:=q;refine⟨ab,cells,by rw[a.w];exact ad,λi z hi=>?_⟩;obtain⟨J,Q,R,S⟩:=Z i z hi;exact⟨J,Q,R,a.rep S⟩
    | box et st fs =>
     cases o with
     | arr c p ys=>exact hf.elim
     | mapo k v l=>exact hf.elim
     | frame t fs=>exact hf.elim
     | loop L=>exact hf.elim
     | itr B E C D A=>exact hf.elim
     | dfr=>exact hf.elim
     | nest _ _ _ _ _ _=>exact hf.elim
     | box c ar T =>
      obtain⟨rfl,rfl,G⟩:=hf;obtain⟨h0,b,cs,F,hh,Y⟩:=q;exact⟨λaf=>by rw[<-Li G];exact h0 af,b,cs,F,by rw[a.w];exact hh,Ox a G Y⟩
    | nest et ah k e xs h =>
     cases o with
     | nest c ap N p ys ao =>
      obtain⟨⟨rfl,rfl,rfl⟩,g⟩:=hf;have g:=A9 g;injection g with h1 y
      injection h1 with h1
      injection h1 with h1 d
      injection d with d
      subst h1;subst d;cases y;exact A0Z a.w a.O q
     | mapo k v l=>exact hf.elim
     | box c st fs=>exact hf.elim
     | arr c p ys=>exact hf.elim
     | frame t fs=>exact hf.elim
     | loop L=>exact hf.elim
     | itr B E C D A=>exact hf.elim
     | dfr=>exact hf.elim
    | mapo k v l =>
     cases o with
     | mapo N al l' =>
      have g:=A9 hf;injection g with h1 y
      injection h1 with h1
      injection h1 with h1 d
      subst h1;subst d;cases y;obtain⟨b,J,cl,F,hh,aa,X⟩:=q;exact⟨b,J,cl,F,by rw[a.w];exact hh,aa.mono (λb _ K=>a.O b K) (λb _ _=>by rw[a.w]),X⟩
     | box c st fs=>exact hf.elim
     | arr c p ys=>exact hf.elim
     | frame t fs=>exact hf.elim
     | loop L=>exact hf.elim
     | itr B E C D A=>exact hf.elim
     | dfr=>exact hf.elim
     | nest _ _ _ _ _ _=>exact hf.elim
    | frame t fs =>
     cases o with
     | frame au T =>
      obtain⟨rfl,G⟩:=hf;obtain⟨h0,h1⟩:=q;refine⟨h0,λs v ag=>?_⟩;have H:=ME G ag;cases hx:lk s fs with
      | none =>
       rw[hx]at H;cases v<;>simp only[K8]at H;exact trivial
      | some x =>
       rw[hx]at H;exact NP a H (h1 s x hx)
     | mapo k v l=>exact hf.elim
     | box c st fs=>exact hf.elim
     | arr c p ys=>exact hf.elim
     | loop L=>exact hf.elim
     | itr B E C D A=>exact hf.elim
     | dfr=>exact hf.elim
     | nest _ _ _ _ _ _=>exact hf.elim
    | itr k v l lf am =>
     cases o with
     | itr N al l' aq an =>
      obtain⟨hf,rfl,rfl⟩:=hf;have g:=A9 hf;injection g with h1 y
      injection h1 with h1
      injection h1 with h1 d
      subst h1;subst d;cases y;obtain⟨r,F,b,ai,cl,ak,aj,h1,y,d,U,W⟩:=q;exact⟨r,F,b,ai,cl,ak,aj,by rw[a.w];exact h1,a.O b y,by rw[a.w];exact d,U.mono (λb _ K=>a.O b K) (λb _ _=>by rw[a.w]),W⟩
     | mapo k v l=>exact hf.elim
     | box c st fs=>exact hf.elim
     | arr c p ys=>exact hf.elim
     | frame t fs=>exact hf.elim
     | loop L=>exact hf.elim
     | dfr=>exact hf.elim
     | nest _ _ _ _ _ _=>exact hf.elim
    | loop L =>
     cases o with
     | loop P =>
      have hf:L=P:=hf;subst hf;obtain⟨b,hl,hh⟩:=q;exact⟨b,hl,by rw[a.w];exact hh⟩
     | itr B E C D A=>exact hf.elim
     | mapo k v l=>exact hf.elim
     | box c st fs=>exact hf.elim
     | arr c p ys=>exact hf.elim
     | frame t fs=>exact hf.elim
     | dfr=>exact hf.elim
     | nest _ _ _ _ _ _=>exact hf.elim
    | dfr =>
     cases o with
     | dfr =>
      obtain⟨b,hl,hh⟩:=q;exact⟨b,hl,by rw[a.w];exact hh⟩
     | nest _ _ _ _ _ _=>exact hf.elim
     | mapo k v l=>exact hf.elim
     | box c st fs=>exact hf.elim
     | arr c p ys=>exact hf.elim
     | frame t fs=>exact hf.elim
     | loop L=>exact hf.elim
     | itr B E C D A=>exact hf.elim
def CS (objs:List (Nat×Obj)) (ren:List (Nat×B1)):Bool:=ren.all λp=>(lk p.1 objs).isSome
theorem AD {c:Cx} {σ σ':St} (ren:List (Nat×B1)) (h1:B9 ren=true) (l:CS σ'.objs ren=true) (u:Ae σ.objs ren σ'.objs) (D:FJ σ.env ren σ'.env) (hp:AAR c.ds.pin ren=true:=by rfl):Ent c σ σ':=by
 rintro a w ⟨ρ,hs⟩
 let ρ':Nat->Value:=λm=>match lk m ren with|some (.nm n)=>ρ n|_=>.slice none 0 0
 have t:∀m n,lk m ren=some (.nm n)->ρ' m=ρ n:=λm n d=>by simp[ρ',d]
 have r:∀m,lk m ren=some .nil->ρ' m=.slice none 0 0:=λm d=>by simp[ρ',d]
 have B:∀m f,lk m ren=some f->HL σ' m:=λm f d=>by
  simp only[CS,OR]at l;have:=l _ (F2 d);exact AB3.1 this
 have i:∀m b,HL σ' m->bk (ρ' m) b->∃n,lk m ren=some (.nm n)/\HL σ n/\bk (ρ n) b:=by
  rintro m b ⟨o,d⟩ e;have hf:=DL u d;cases h:lk m ren with
  | none=>rw[h]at hf;exact hf.elim
  | some f =>
   cases f with
   | nil=>rw[r m h]at e;simp[bk,blk]at e
   | nm n =>
    rw[h]at hf;rw[t m n h]at e;refine⟨n,rfl,?_,e⟩;cases hn:lk n σ.objs with
    | none=>simp only[Gd,hn,IJ]at hf
    | some x=>exact⟨x,hn⟩
 have q:MD ren (vw w c.O0 σ ρ) (vw w c.O0 σ' ρ'):=by
  refine⟨rfl,λb e j=>?_,t,r,B⟩;rcases j with h0|⟨m,hl,d⟩
  .exact e (.inl h0)
  obtain⟨n,_,hn,g⟩:=i m b hl d;exact e (.inr ⟨n,hn,g⟩)
 refine⟨ρ',hs.frm,hs.nt,hs.defers,λp y=>?_,λm o d=>?_,λm b hl e=>?_,λm H b hl E e j=>?_,λs v G=>?_⟩
 .obtain⟨J,K,L⟩:=hs.pin p y;simp only[AAR,OR]at hp;have k:=hp p y;unfold AC7 at k;split at k
  .grind
  cases k
 .exact Rp q hs.objs (DL u d)
 .obtain⟨n,_,hn,g⟩:=i m b hl e;exact hs.free n b hn g
 .obtain⟨n,z,hn,g⟩:=i m b hl e;obtain⟨I,A,F,C⟩:=i H b E j;have:=hs.dist n I b hn F g C;subst this;exact Up h1 z A
 have d:=ME D G;cases hx:lk s σ.env with
 | none =>
  rw[hx]at d;cases v<;>simp only[K8]at d;exact trivial
 | some x =>
  rw[hx]at d;exact NP q d (hs.env s x hx)
end
end
section
open Go
theorem G9 (b:Bool):Rh true (some (.p .bool b))=some b:=by cases b<;>rfl
theorem F5 (b:Bool):Rh false (some (.p .bool b))=some (!b):=by cases b<;>rfl
theorem NQ:IntKind.i64.min=-9223372036854775808:=by decide
theorem NR:IntKind.i64.max=9223372036854775807:=by decide
theorem NS:IntKind.u64.min=0:=by decide
theorem NT:IntKind.u64.max=18446744073709551615:=by decide
theorem Rq:IntKind.u8.min=0:=by decide
theorem Rr:IntKind.u8.max=255:=by decide
theorem NU (n:Int):Kh .i64 n↔-9223372036854775808<=n/\n<=9223372036854775807:=by unfold Kh;rw[NQ,NR]
theorem JH (n:Int):Kh .u64 n↔0<=n/\n<=18446744073709551615:=by unfold Kh;rw[NS,NT]
theorem Vl (n:Int):Kh .u8 n↔0<=n/\n<=255:=by unfold Kh;rw[Rq,Rr]
theorem QX {α:Type} (x:α):sub [x] 0 1=[x]:=rfl
theorem IK {α:Type} (xs:List α) (n:Nat):sub xs 0 n=xs.take n:=by simp[sub]
theorem A3z (n:Nat):((n:Int)).toNat=n:=UQ n
theorem F6 (n:Nat):(0<=(n:Int))=True:=eq_true (ZX n)
end
section
open Go Go.RowKit
section
variable {tb:Tb} {σ σ':St}
def gW (σ σ':St):Prop:=∀n o,lk n σ.objs=some o->lk n σ'.objs=some o
theorem A3A (h:gW σ σ') {e:Ty} {lo hi n:Nat} {d:List e.den} (hs:RZ e lo hi (lk n σ.objs)=some d):RZ e lo hi (lk n σ'.objs)=some d:=by
 cases hn:lk n σ.objs with
 | none=>rw[hn]at hs;simp[RZ]at hs
 | some o=>rw[h n o hn,<-hn];exact hs
theorem A1c (h:gW σ σ') {e:Ty} {i n:Nat} {d:List e.den} (hs:Rd e i (lk n σ.objs)=some d):Rd e i (lk n σ'.objs)=some d:=by
 cases hn:lk n σ.objs with
 | none=>rw[hn]at hs;simp[Rd]at hs
 | some o=>rw[h n o hn,<-hn];exact hs
theorem J5 (h:gW σ σ') {l:Bool} {t:Ty} {x:AV} {d:t.den} (hs:E6 l σ t x=some d):E6 l σ' t x=some d:=by
 unfold E6 at hs ⊢;split at hs
 .exact hs
 .grind [A3A]
 .grind [A1c]
 .exact hs
 cases hs
theorem Zm (h:gW σ σ') {l:Bool}:∀ {fs:List AV} {t:Ty} {d:t.den},Kl l σ fs t=some d->Kl l σ' fs t=some d
 | [],t,d,hs=>by simp[Kl]at hs
 | [x],t,d,hs=>by grind [Kl,J5]
 | x :: y :: r,t,d,hs=>by
  cases t<;>simp only[Kl]at hs ⊢<;>try(cases hs;done)
  rename_i a b;cases h1:E6 l σ a x with
  | none=>rw[h1]at hs;simp[Lx]at hs
  | some e =>
   cases c:Kl l σ (y :: r) b with
   | none=>rw[h1,c]at hs;simp[Lx]at hs
   | some f =>
    rw[J5 h h1,Zm h c];rw[h1,c]at hs;exact hs
theorem FK (h:gW σ σ') {l:Bool} {t:Ty} {x:AV} {d:t.den} (hs:ND l σ t x=some d):ND l σ' t x=some d:=by
 unfold ND at hs ⊢;split at hs
 .exact Zm h hs
 exact J5 h hs
def Ops (σ σ':St) (xs:List Operand):Prop:=∀x∈xs,∀v,Aq σ x=some v->Aq σ' x=some v
theorem QY (h:gW σ σ') {e:Ty} {x:AV} {d:List e.den} (hs:Py σ e x=some d):Py σ' e x=some d:=by
 unfold Py at hs ⊢;split at hs
 .rename_i n a lo hi;cases hn:lk n σ.objs with
  | none =>
   rw[hn]at hs;have hs:E6 true σ (.slice e) (.sr n a lo hi)=some d:=by simpa[Cp,ND] using hs
   simp only[E6,hn]at hs;split at hs<;>simp[RZ]at hs
  | some o =>
   rw[h n o hn];rw[hn]at hs;split at hs
   .cases hs
   grind [FK]
 exact FK h hs
theorem Vm (h:gW σ σ') {l:Bool}:∀ {ts:List Ty} {xs:List Operand} {ds:Kk ts},Ops σ σ' xs->GQ l σ ts xs=some ds->GQ l σ' ts xs=some ds
 | [],[],ds,_,hs=>hs
 | [],_ :: _,ds,_,hs=>by simp[GQ]at hs
 | _ :: _,[],ds,_,hs=>by simp[GQ]at hs
 | t :: ts,x :: xs,ds,a,hs=>by
  simp only[GQ]at hs ⊢;cases hx:Aq σ x with
  | none=>rw[hx]at hs;cases hs
  | some v =>
   rw[a x (by simp) v hx];rw[hx]at hs;simp only at hs ⊢;split at hs
   .rename_i y ys b c;rw[FK h b,Vm h (λz d=>a z (by simp[d])) c];exact hs
   cases hs
theorem TB (h:gW σ σ') {e:Ty}:∀ {parts:List (Nat×Operand)} {k:Nat} {xs:List e.den},Ops σ σ' (parts.map (·.2))->E8 σ e k parts=some xs->E8 σ' e k parts=some xs
 | [],k,xs,_,hs=>hs
 | (i,x) :: r,k,xs,a,hs=>by
  simp only[E8]at hs ⊢;split at hs
  .rename_i c;rw[Bq c];cases hx:Aq σ x with
   | none=>rw[hx]at hs;cases hs
   | some v =>
    rw[a x (by simp) v hx];rw[hx]at hs;simp only at hs ⊢;split at hs
    .rename_i y ys d f;rw[FK h d,TB h (λz b=>a z (by simp at b ⊢;exact .inr b)) f];exact hs
    cases hs
  cases hs
theorem i7 (h:gW σ σ') {z:Option AV} {x:Operand} {v:AV} (c:∀v,Aq σ x=some v->Aq σ' x=some v) (hs:Fv σ z (Aq σ x)=some v):Fv σ' z (Aq σ' x)=some v:=by
 cases hx:Aq σ x with
 | none=>rw[hx]at hs;unfold Fv at hs;split at hs<;>simp at *
 | some a =>
  rw[c a hx];rw[hx]at hs;unfold Fv at hs ⊢;split at hs
  .rename_i t _ l b;cases b;simp only[ON]at hs ⊢;grind [FK]
  exact hs
theorem QZ (h:gW σ σ') {offs:List (Nat×Nat)}:∀ {parts:List (Nat×Operand)} {fs a:List AV},Ops σ σ' (parts.map (·.2))->Dm σ offs fs parts=some a->Dm σ' offs fs parts=some a
 | [],fs,a,_,hs=>hs
 | (i,x) :: r,fs,a,b,hs=>by
  simp only[Dm]at hs ⊢;cases hx:Fv σ fs[i]? (Aq σ x) with
  | none=>rw[hx]at hs;cases hs
  | some v =>
   rw[i7 h (b x (by simp)) hx];rw[hx]at hs;simp only at hs ⊢;split at hs
   .rename_i d;rw[Bq d];exact QZ h (λz c=>b z (by simp at c ⊢;exact .inr c)) hs
   cases hs
theorem Vn:∀ {xs:List Operand} {ns:List Nat},Ops σ σ' xs->H7 σ xs=some ns->H7 σ' xs=some ns
 | [],ns,_,hs=>hs
 | x :: r,ns,a,hs=>by
  simp only[H7]at hs ⊢;split at hs
  .rename_i n d h1 b;rw[a x (by simp) _ h1,Vn (λz c=>a z (by simp[c])) b];exact hs
  cases hs
theorem Uq (h:gW σ σ') {d:Nat} {op:Op} {r:Prop×AV×List (Nat×Obj)} (j:Ops σ σ' op.operands.toList) (hs:aq tb σ d op=some r):aq tb σ' d op=some r:=by
 have one:∀ {x:Operand} {f:Option AV->BV},x∈op.operands.toList->f none=none->f (Aq σ x)=some r->f (Aq σ' x)=some r:=by
  intro x f hx hn hf;cases A:Aq σ x with
  | none=>rw[A,hn]at hf;cases hf
  | some v=>rw[j x hx v A,<-A];exact hf
 have K:∀ {x y:Operand} {f:Option AV->Option AV->BV},x∈op.operands.toList->y∈op.operands.toList->(∀b,f none b=none)->(∀a,f a none=none)->f (Aq σ x) (Aq σ y)=some r->f (Aq σ' x) (Aq σ' y)=some r:=by
  intro x y f hx C h1 F hf;cases A:Aq σ x with
  | none=>rw[A,h1]at hf;cases hf
  | some v =>
   cases I:Aq σ y with
   | none=>rw[I,F]at hf;cases hf
   | some w=>rw[j x hx v A,j y C w I,<-A,<-I];exact hf
 cases op<;>simp only[aq]at hs ⊢<;>try(cases hs;done)
 case move x=>exact one (f:=G2) (by simp[Op.operands]) rfl hs
 case assign x=>exact one (f:=G2) (by simp[Op.operands]) rfl hs
 case pick c x y =>
  cases E:Aq σ c with
  | none=>rw[E]at hs;simp[Le]at hs
  | some aa =>
   have e1:=j c (by simp[Op.operands]) aa E;rw[E]at hs;rw[e1];unfold Le at hs ⊢;split at hs
   .rename_i D;cases D;exact one (f:=G2) (by simp[Op.operands]) rfl hs
   .rename_i D;cases D;exact one (f:=G2) (by simp[Op.operands]) rfl hs
   cases hs
 case alloc t=>exact hs
 case box t x=>exact one (f:=Tw d t (lk t tb.ty)) (by simp[Op.operands]) (by cases lk t tb.ty<;>simp[Tw]) hs
 case build t parts =>
  unfold JW at hs ⊢;split at hs
  .rename_i u offs el b D;cases hp:Dm σ offs (zfs u) parts.toList with
   | none=>rw[hp]at hs;simp[G2]at hs
   | some fs =>
    rw[QZ h (by simpa[Op.operands] using j) hp];rw[hp]at hs;exact hs
  cases hs
 case buildSlice t n parts =>
  cases U:lk d tb.nests with
  | some am =>
   rw[U]at hs;simp only[Gw]at hs ⊢;unfold JZ at hs ⊢;split at hs
   .rename_i x ao offs el b hp D;cases hx:Aq σ x with
    | none=>rw[hx]at hs;unfold JY at hs;split at hs<;>first|(cases hs;done)|(rename_i F;cases F)
    | some av =>
     rw[j x (by simp[Op.operands,hp]) av hx];rw[hx]at hs;unfold JY at hs ⊢;split at hs
     .rename_i k e au aw al;unfold Kn at hs;split at hs
      .rename_i Y Q;rw[J5 h Q];exact hs
      .rename_i Y ak l Q;split at hs
       .rename_i S;rw[J5 h Q];simp only[Kn,S,ZU];exact hs
       cases hs
      cases hs
     cases hs
   cases hs
  | none =>
  rw[U]at hs;simp only[Gw]at hs ⊢;unfold Bc at hs ⊢;split at hs
  .rename_i e offs el b D;cases hp:E8 σ e 0 parts.toList with
   | none=>rw[hp]at hs;simp[Bh]at hs
   | some xs =>
    rw[TB h (by simpa[Op.operands] using j) hp];rw[hp]at hs;exact hs
  cases hs
 case load t x =>
  cases hx:Aq σ x with
  | none=>rw[hx]at hs;simp[Jw]at hs
  | some v =>
   rw[j x (by simp[Op.operands]) v hx];rw[hx]at hs;unfold Jw at hs ⊢;split at hs
   .rename_i ti n ai off O G;cases hn:lk n σ.objs with
    | none=>rw[hn]at hs;simp[EZ]at hs
    | some o=>rw[h n o hn,<-hn];exact hs
   .rename_i ti n e i ai off O G;cases hn:lk n σ.objs with
    | none=>rw[hn]at hs;simp[Ea]at hs
    | some o=>rw[h n o hn,<-hn];exact hs
   .exact hs
   cases hs
 case nilCheck x=>exact one (f:=VW) (by simp[Op.operands]) (by simp[VW]) hs
 case binOp op t x y an=>exact K (f:=Re op (lk t tb.ty)) (by simp[Op.operands]) (by simp[Op.operands]) (λb=>by simp[Re]) (λa=>by cases a<;>simp[Re]) hs
 case unOp op t x=>exact one (f:=qUn op) (by simp[Op.operands]) (by cases op<;>simp[qUn]) hs
 case convert s t x=>exact one (f:=Jx (lk s tb.ty) (lk t tb.ty)) (by simp[Op.operands]) (by cases lk s tb.ty<;>cases lk t tb.ty<;>simp[Jx]) hs
 case makeSlice t l c=>exact K (f:=JA tb d (lk t tb.ty)) (by simp[Op.operands]) (by simp[Op.operands]) (λb=>by cases lk t tb.ty<;>simp[JA]) (λa=>by cases lk t tb.ty<;>simp[JA]) hs
 case slice t x lo hi ah =>
  cases ah with
  | some m =>
   cases lo with
   | some _=>cases hi<;>simp[aq]at hs
   | none =>
    cases hi with
    | none=>simp[aq]at hs
    | some h1 =>
     simp only[aq]at hs ⊢;cases hx:Aq σ x with
     | none=>rw[hx]at hs;cases hl:lk t tb.ty<;>rw[hl]at hs<;>simp[Dn]at hs
     | some v =>
      cases hh:Aq σ h1 with
      | none=>rw[hx,hh]at hs;cases hl:lk t tb.ty<;>rw[hl]at hs<;>simp[Dn]at hs
      | some A =>
       cases H:Aq σ m with
       | none=>rw[hx,hh,H]at hs;cases hl:lk t tb.ty<;>rw[hl]at hs<;>simp[Dn]at hs
       | some ag =>
        rw[j x (by simp[Op.operands]) v hx,j h1 (by simp[Op.operands]) A hh,j m (by simp[Op.operands]) ag H];rw[hx,hh,H]at hs;exact hs
  | none =>
   simp only[aq]at hs ⊢;have X:∀ {y:Option Operand},(∀z,y=some z->z∈(Op.slice t x lo hi none).operands.toList)->∀w,G0 σ y=some w->G0 σ' y=some w:=by
    intro y C w I;cases y with
    | none=>exact I
    | some z =>
     simp only[G0,ON]at I ⊢;obtain⟨v,A,rfl⟩:=I;exact⟨v,j z (C z rfl) v A,rfl⟩
   cases hx:Aq σ x with
   | none=>rw[hx]at hs;cases hl:lk t tb.ty<;>rw[hl]at hs<;>simp[FO]at hs
   | some v =>
    cases h1:G0 σ lo with
    | none=>rw[h1]at hs;cases hl:lk t tb.ty<;>rw[hl]at hs<;>simp[FO]at hs
    | some a =>
     cases F:G0 σ hi with
     | none=>rw[F]at hs;cases hl:lk t tb.ty<;>rw[hl]at hs<;>simp[FO]at hs
     | some b =>
      rw[j x (by simp[Op.operands]) v hx,X (by rintro z rfl;simp[Op.operands]) a h1,X (by rintro z rfl;simp[Op.operands]) b F];rw[hx,h1,F]at hs;exact hs
 case fieldAddr s x f=>exact one (f:=HO f (lk s tb.ty)) (by simp[Op.operands]) (by cases lk s tb.ty<;>simp[HO]) hs
 case indexAddr t x i=>exact K (f:=Fy (lk t tb.ty)) (by simp[Op.operands]) (by simp[Op.operands]) (λb=>by cases lk t tb.ty<;>simp[Fy]) (λa=>by cases lk t tb.ty<;>simp[Fy]) hs
 case index t x i=>exact K (f:=ET (lk t tb.ty)) (by simp[Op.operands]) (by simp[Op.operands]) (λb=>by cases lk t tb.ty<;>simp[ET]) (λa=>by cases lk t tb.ty<;>simp[ET]) hs
 case extract x i=>exact one (f:=Eb i) (by simp[Op.operands]) (by simp[Eb]) hs
 case makeFunc fn first Z =>
  unfold cE at hs ⊢;split at hs
  .rename_i f hf;cases E:H7 σ Z.toList with
   | none=>rw[E]at hs;simp[QA]at hs
   | some ns =>
    rw[Vn (λz J=>j z (by simp[Op.operands]at J ⊢;exact .inr J)) E];rw[E]at hs;exact hs
  cases hs
 case makeMap t res =>
  cases res with
  | some z=>simp[aq]at hs
  | none=>simp only[aq]at hs ⊢;exact hs
 case lookup t x i ok =>
  cases hx:Aq σ x with
  | none=>rw[hx]at hs;simp[JC]at hs
  | some xv =>
   cases hi:Aq σ i with
   | none=>rw[hx,hi]at hs;simp[JC]at hs
   | some W =>
    rw[j x (by simp[Op.operands]) xv hx,j i (by simp[Op.operands]) W hi];rw[hx,hi]at hs;unfold JC at hs ⊢;split at hs
    .rename_i k e _ _ n z O G ad;cases G;cases ad;cases hn:lk n σ.objs with
     | none=>rw[hn]at hs;simp[H8]at hs
     | some o =>
      rw[hn]at hs;rw[h n o hn];unfold H8 at hs ⊢;split at hs
      .rename_i af ar l j;cases j;split at hs
       .rename_i E;rw[Bq E];cases hk:ND false σ af W with
        | none=>rw[hk]at hs;simp[Kr]at hs
        | some kd=>rw[FK h hk];rw[hk]at hs;exact hs
       cases hs
      cases hs
    cases hs
 case call c =>
  obtain⟨callee,args,argTypes⟩:=c;have B:∀x∈args.toList,x∈(Op.call ⟨callee,args,argTypes⟩).operands.toList:=λx hx=>by
   have:x∈args:=by simpa using hx
   cases callee<;>simp[Op.operands,Call.operands,this]
  cases callee with
  | invoke r m=>simp[Dp]at hs
  | value g =>
   simp only[Dp]at hs ⊢;cases L:Aq σ g with
   | none=>rw[L]at hs;simp[Lz]at hs
   | some ab =>
    rw[j g (by simp[Op.operands,Call.operands]) ab L];rw[L]at hs;unfold Lz at hs ⊢;split at hs
    .rename_i f D;cases V:lk f tb.fns with
     | none=>rw[V]at hs;simp[Jb]at hs
     | some sp =>
      rw[V]at hs;simp only[Jb]at hs ⊢;cases R:GQ sp.lend σ sp.ins args.toList with
      | none=>rw[R]at hs;simp[Kq]at hs
      | some ds =>
       rw[Vm h (λx hx=>j x (B x hx)) R];rw[R]at hs;exact hs
    cases hs
  | builtin b =>
   simp only[Dp]at hs ⊢;obtain⟨args⟩:=args;obtain⟨argTypes⟩:=argTypes;simp only at hs B ⊢;unfold Ed at hs ⊢;split at hs
   .exact one (f:=Tx (lk _ tb.ty)) (B _ (by simp)) (by cases lk _ tb.ty<;>simp[Tx]) hs
   .rename_i x y t u;cases hx:Aq σ x with
    | none=>rw[hx]at hs;simp[DZ]at hs
    | some xv =>
     cases C:Aq σ y with
     | none=>rw[hx,C]at hs;simp[DZ]at hs
     | some N =>
      rw[j x (B _ (by simp)) xv hx,j y (B _ (by simp)) N C];rw[hx,C]at hs;unfold DZ at hs ⊢;split at hs
      .split at hs
       .rename_i M;simp only[M,ZU];rename_i O G;cases G;rw[M]at hs;cases hl:lk u tb.ty with
        | none=>rw[hl]at hs;simp[Ec]at hs
        | some ti =>
         rw[hl]at hs;unfold Ec at hs ⊢;split at hs
         .rename_i e offs el b D;cases A:Py σ e N with
          | none=>rw[A]at hs;cases T:lk el tb.ty<;>rw[T]at hs<;>simp[FD]at hs
          | some ys =>
           rw[A]at hs;rw[QY h A];exact hs
         cases hs
       cases hs
      .split at hs
       .rename_i M;simp only[M,ZU];rename_i O G;cases G;rw[M]at hs;cases hl:lk u tb.ty with
        | none=>rw[hl]at hs;simp[Ja]at hs
        | some ti =>
         rw[hl]at hs;unfold Ja at hs ⊢;split at hs
         .rename_i e offs el b D;split at hs
          .rename_i S;simp only[S,ZU];cases A:Py σ _ N with
           | none=>rw[A]at hs;cases T:lk el tb.ty<;>rw[T]at hs<;>simp[Kp]at hs
           | some ys =>
            rw[A]at hs;rw[QY h A];exact hs
          cases hs
         cases hs
       cases hs
      cases hs
   .exact K (f:=Rf) (B _ (by simp)) (B _ (by simp)) (λb=>by simp[Rf]) (λa=>by cases a<;>simp[Rf]) hs
   .exact K (f:=Rg) (B _ (by simp)) (B _ (by simp)) (λb=>by simp[Rg]) (λa=>by cases a<;>simp[Rg]) hs
   .rename_i x y z t u ap;cases hx:Aq σ x with
    | none=>rw[hx]at hs;simp[JB]at hs
    | some xv =>
     cases C:Aq σ y with
     | none=>rw[hx,C]at hs;simp[JB]at hs
     | some N =>
      cases J:Aq σ z with
      | none=>rw[hx,C,J]at hs;simp[JB]at hs
      | some aj =>
       rw[j x (B _ (by simp)) xv hx,j y (B _ (by simp)) N C,j z (B _ (by simp)) aj J,<-hx,<-C,<-J];exact hs
   .rename_i ts x y z u r;have L:∀(r:List Operand) (k:IntKind) (o:Option Int) (m:Int),(∀q∈r,∀v,Aq σ q=some v->Aq σ' q=some v)->FZ σ k o r=some m->FZ σ' k o r=some m:=by
     intro r;induction r with
     | nil=>intro k o m _ h;cases o<;>(simp[FZ]at h;try exact Yp some h)
     | cons q r ae =>
      intro k o m P h;cases o with
      | none=>simp[FZ]at h
      | some a =>
       simp only[FZ]at h ⊢;cases A:Aq σ q with
       | none=>rw[A]at h;cases r<;>simp[OE,FZ]at h
       | some v =>
        rw[A]at h;rw[P q (by simp) v A];exact ae k _ m (λp hp=>P p (by simp[hp])) h
    cases hx:Aq σ x with
    | none=>rw[hx]at hs;simp[OG]at hs
    | some xv =>
     rw[hx]at hs;rw[j x (B _ (by simp)) xv hx];unfold OG at hs ⊢;split at hs
     .rename_i k a D;cases D;cases H:FZ σ k (some a) (y :: z :: u :: r) with
      | none=>rw[H]at hs;simp[P6]at hs
      | some m =>
       rw[H]at hs;rw[L _ _ _ _ (λq P=>j q (B _ (GO _ P))) H];exact hs
     cases hs
   cases hs
end
end
end Go.Proofs.YtapkhdkbkodbjaaGreat.Fw
