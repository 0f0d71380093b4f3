/- One operation, a sequence, loops, the entry and the end of a function: the rules. -/
import Derived.Test.YtaoonfcjbmcmpaaGreatDoorFZD
import Derived.Deep.LoopGhost
import Derived.ControlIn
set_option linter.unusedVariables false
set_option linter.unusedSimpArgs false
namespace Go.Proofs.YtaoonfcjbmcmpaaGreatDoor.Fw
section
open Go Go.RowKit
abbrev ACd:=@Go.wpIn_region_list
structure Cx where
 P:Program
 tb:Tb
 w0:World
 K:Nat->Prop
 O0:Nat->Prop
 nt:Nat
 
 ds:Fp:={}
 
 r:Option Nat:=none
structure Cx.Ok (c:Cx):Prop where
 K:∀b,c.K b->b<c.w0.heap.size
 O:∀b,c.O0 b->b<c.w0.heap.size
 T:DG c.P c.tb
 F:KH c.P c.tb
 G:GW c.w0 c.K c.O0
def Cx.sat (c:Cx) (σ:St) (a:Act) (w:World):Prop:=∃ρ,Bx c.w0 c.K c.O0 c.nt c.ds σ ρ a w
section
variable {c:Cx}
theorem rK (hc:c.Ok) {σ:St} {ρ:Nat->Value} {a:Act} {w:World} (h:Bx c.w0 c.K c.O0 c.nt c.ds σ ρ a w):A0a c.P c.tb w c.O0 σ ρ a where
 hT:=hc.T
 hF:=hc.F
 hG:=hc.G.mono (λb hk ho=>⟨AAf (hc.K b hk) h.frm.size,λhb=>by
  rcases hb with h0|⟨n,hn,hb⟩
  .exact ho h0
  exact(h.free n b hn hb).1 hk⟩) h.frm.block
 obj:=h.objs
 own:=by
  intro b hb;rcases hb with h0|⟨n,⟨o,ho⟩,hb⟩
  .exact AAf (hc.O b h0) h.frm.size
  exact(h.objs n o ho).block_lt hb
 ev:=Ck h.env
theorem kT (e:c.Ok) {σ σ':St} {ρ:Nat->Value} {a:Act} {w:World} (hs:Bx c.w0 c.K c.O0 c.nt c.ds σ ρ a w) {o:Oper} {vc:Prop} (h:GV c.tb σ o.dst o.op=some (vc,σ')) (n:vc) (l:∀d,o.dst=some d->d<c.nt)
  {next:Act->World->Prop} {Q:Exit->Act->World->Prop} (j:∀k w',c.sat σ' k w'->next k w'):o.wpIn (FR c.r) 0 c.P a w next Q:=by
 obtain⟨dst,op,type,pos,after,guard⟩:=o;simp only at h l;cases op<;>simp only[GV]at h<;>try(cases h;done)
 case store t x y =>
  cases dst with
  | some d=>simp[Db]at h
  | none =>
   simp only[Db]at h;obtain⟨w',ρ',f,i⟩:=Ym (P:=c.P) hs e.K e.O e.T h n;exact Mp (w':=w') (by simp[execOp,f]) (j _ _ ⟨ρ',i⟩)
 case mapUpdate t m x y =>
  cases dst with
  | some d=>simp[Db]at h
  | none =>
   simp only[Db]at h;obtain⟨w',f,i⟩:=S2 (P:=c.P) hs e.K e.T h;exact Mp (w':=w') (by simp[execOp,f]) (j _ _ ⟨ρ,i⟩)
 case call cl =>
  obtain⟨callee,args,argTypes⟩:=cl;cases callee with
  | value g=>simp[Da]at h
  | invoke r m=>simp[Da]at h
  | builtin b =>
   simp only[Da]at h;obtain⟨args⟩:=args;obtain⟨argTypes⟩:=argTypes;simp only at h;unfold D8 at h;split at h
   .rename_i x y t u;obtain⟨z,w',ρ',f,i⟩:=Yl (P:=c.P) (ty:=type) hs e.K e.O e.T l h n;exact Aa (u:=z) (w':=w') (by simp[execOp,resolve,invoke,builtin,f]) (j _ _ ⟨ρ',i⟩)
   cases h
theorem QZ (b:c.Ok) {σ σ':St} {a:Act} {w:World} (hs:c.sat σ a w) {o:Oper} {vc:Prop} (h:Hf c.tb o σ=some (vc,σ')) (k:vc) (g:∀d,o.dst=some d->d<c.nt)
  {next:Act->World->Prop} {Q:Exit->Act->World->Prop} (j:∀f w',c.sat σ' f w'->next f w'):o.wpIn (FR c.r) 0 c.P a w next Q:=by
 obtain⟨ρ,hs⟩:=hs;have hs:=JE (l:=Cy σ o.op) hs;unfold Hf Oq at h;generalize DB (Cy σ o.op) σ=σ1 at h hs;cases e:aq c.tb σ1 (o.dst.getD 0) o.op with
 | some r =>
  obtain⟨n,v,obs⟩:=r;rw[e]at h;simp only[Lp]at h;split at h
  .rename_i i;cases h;exact aM (rK b hs) e k i λu ρ' w' m=>j _ _ ⟨ρ',hs.add b.K b.O g i m⟩
  cases h
 | none =>
  rw[e]at h;exact kT b hs h k g j
theorem Ge {ops:Array Oper} {σ:St} {a:Act} {w:World} (hs:c.sat σ a w) {o:Oper} {b:Bool} (h:EH ops.toList σ o.guard=some b):Region.wanted o (yielded ops a.tmps)=b:=by
 obtain⟨ρ,hs⟩:=hs;unfold EH at h;split at h
 .rename_i e;cases h;simp[Region.wanted,e]
 rename_i j q e;cases f:(ops.toList[j]?).bind (·.dst) with
 | none=>rw[f]at h;simp[JC]at h
 | some g =>
  rw[f]at h;simp only[JC]at h;cases i:lk g σ.env with
  | none=>rw[i]at h;simp[Nt]at h
  | some v =>
   rw[i]at h;unfold Nt at h;split at h
   .rename_i l m;cases m;cases h;have d:=hs.env g _ i;have d:=Dq d;have p:(ops[j]?).bind (·.dst)=some g:=by simpa using f
    have n:a.tmps[g]?=some (.bool l):=by
     by_cases k:g<a.tmps.size
     .have:a.tmps.getD g undef=a.tmps[g]:=by simp[Array.getD,k]
      rw[this]at d;rw[AA8 k,d]
     have:a.tmps.getD g undef=undef:=by simp[Array.getD,k]
     rw[this]at d;cases d
    simp only[Region.wanted,e,yielded,p,Option.bind_some,n];cases l<;>cases q<;>rfl
   cases h
theorem LA {σ:St} {a:Act} {w:World} (b:c.Ok) (hs:c.sat σ a w) {dst:Option Nat} (e:∀d,dst=some d->d<c.nt):c.sat (σ.add (.raw undef) [] dst) (a.put dst undef) w:=by
 obtain⟨ρ,hs⟩:=hs;exact⟨ρ,hs.add b.K b.O e (by simp[BS]) (QS.still rfl)⟩
def IX (nt:Nat) (o:Oper):Bool :=
 match o.dst with
 | some d=>decide (d<nt)
 | none=>true
theorem BB {nt:Nat} {o:Oper} (h:IX nt o=true):∀d,o.dst=some d->d<nt:=by grind [IX]
theorem N0 (d:c.Ok) {ops:Array Oper} {Q:Exit->Act->World->Prop} {r:List Oper}:∀(l:List Oper) {σ σ':St} {vc:Prop} {a:Act} {w:World},c.sat σ a w->(∀o∈l,IX c.nt o=true)->Bu c.tb ops.toList l σ=some (vc,σ')->vc ->
  (∀g w',c.sat σ' g w'->wpListIn (FR c.r) 0 c.P ops Q r g w')->wpListIn (FR c.r) 0 c.P ops Q (l++r) a w
 | [],σ,σ',vc,a,w,hs,e,h,f,i=>by grind [Bu]
 | o :: l,σ,σ',vc,a,w,hs,e,h,f,i=>by
  simp only[Bu]at h;cases j:EH ops.toList σ o.guard with
  | none=>rw[j]at h;simp[evG]at h
  | some b =>
   rw[j]at h;have s:=Ge hs j;have q:=BB (e o sa);rw[ABe];unfold wpListIn;cases b with
   | true =>
    simp only[evG]at h;rw[At s];cases n:Hf c.tb o σ with
    | none=>rw[n]at h;simp[evK]at h
    | some r =>
     obtain⟨v,σ1⟩:=r;rw[n]at h;simp only[evK]at h;cases m:Bu c.tb ops.toList l σ1 with
     | none=>rw[m]at h;simp[SV]at h
     | some u =>
      obtain⟨x,σ2⟩:=u;rw[m]at h;simp only[SV]at h;cases h;exact QZ d hs n f.1 q λg w' t=>N0 d l t (λp k=>e p (by simp[k])) m f.2 i
   | false =>
    simp only[evG]at h;rw[As (by simp[s])];refine⟨λ_ _=>trivial,?_⟩;exact N0 d l (LA d hs q) (λp k=>e p (by simp[k])) h f i
theorem Ms (e:c.Ok) {ops:Array Oper} {Q:Exit->Act->World->Prop}:∀(l:List Oper) {σ σ':St} {vc:Prop} {a:Act} {w:World},c.sat σ a w->(∀o∈l,IX c.nt o=true)->Bu c.tb ops.toList l σ=some (vc,σ')->vc ->
  (∀i w',c.sat σ' i w'->Q .normal i w')->wpListIn (FR c.r) 0 c.P ops Q l a w
 | [],σ,σ',vc,a,w,hs,f,h,g,d=>by
  simp only[Bu]at h;cases h;exact d _ _ hs
 | o :: l,σ,σ',vc,a,w,hs,f,h,g,d=>by
  simp only[Bu]at h;cases j:EH ops.toList σ o.guard with
  | none=>rw[j]at h;simp[evG]at h
  | some b =>
   rw[j]at h;have s:=Ge hs j;have q:=BB (f o sa);unfold wpListIn;cases b with
   | true =>
    simp only[evG]at h;rw[At s];cases n:Hf c.tb o σ with
    | none=>rw[n]at h;simp[evK]at h
    | some r =>
     obtain⟨v,σ1⟩:=r;rw[n]at h;simp only[evK]at h;cases m:Bu c.tb ops.toList l σ1 with
     | none=>rw[m]at h;simp[SV]at h
     | some u =>
      obtain⟨x,σ2⟩:=u;rw[m]at h;simp only[SV]at h;cases h;exact QZ e hs n g.1 q λi w' t=>Ms e l t (λp k=>f p (by simp[k])) m g.2 d
   | false =>
    simp only[evG]at h;rw[As (by simp[s])];refine⟨λ_ _=>trivial,?_⟩;exact Ms e l (LA e hs q) (λp k=>f p (by simp[k])) h g d
end
end
section
open Go Go.RowKit
inductive Cl where
 | seq (c:Code)
 | blk (id:Nat)
 
 | inv (post:St->Prop)
def CN (nt:Nat):Code->Bool
 | .region _ ops _=>ops.toList.all (IX nt)
 | .seq a b=>CN nt a&&CN nt b
 | .cond _ a b=>CN nt a&&CN nt b
 | .block _ b=>CN nt b
 | .loop b=>CN nt b
 | .scope b=>CN nt b
 | _=>true
def Cz (nt:Nat):List Cl->Bool
 | []=>true
 | .seq c :: k=>CN nt c&&Cz nt k
 | _ :: k=>Cz nt k
def aQ (c:Cx) (R:Exit->Act->World->Prop):List Cl->Exit->Act->World->Prop
 | [],e,a,w=>R e a w
 | .seq y :: k,.normal,a,w=>y.wpIn (FR c.r) 0 c.P (aQ c R k) a w
 | .seq _ :: k,e,a,w=>aQ c R k e a w
 | .blk id :: k,.exit b,a,w=>if b=id then aQ c R k .normal a w else aQ c R k (.exit b) a w
 | .blk _ :: k,e,a,w=>aQ c R k e a w
 | .inv post :: _,.normal,a,w=>∃σ,c.sat σ a w/\post σ
 | .inv _ :: k,e,a,w=>aQ c R k e a w
inductive Yn where
 | run (cd:Code)
 | out (e:Exit)
def nwp (c:Cx) (R:Exit->Act->World->Prop) (k:List Cl):Yn->Act->World->Prop
 | .run cd,a,w=>cd.wpIn (FR c.r) 0 c.P (aQ c R k) a w
 | .out e,a,w=>aQ c R k e a w
def Jq (nt:Nat):Yn->Bool
 | .run cd=>CN nt cd
 | .out _=>true
def Ev (c:Cx) (R:Exit->Act->World->Prop) (n:Yn) (k:List Cl) (σ:St):Prop :=
 Jq c.nt n=true->Cz c.nt k=true->∀a w,c.sat σ a w->nwp c R k n a w
theorem Pi {F:Fence} {j:Nat} {P:Program} {Q:Exit->Act->World->Prop} {a:Act} {w:World} {c:Code} (b:Nat->Act->World->Prop) (i:Nat) (o:b i a w)
  (round:∀n a w,b n a w->c.wpIn F j P (Exit.then (λg w'=>∃f,f<n/\b f g w') Q) a w):(Code.loop c).wpIn F j P Q a w:=by
 refine wpIn_loop (λa w=>∃n,b n a w) (λa w=>leastOf (λn=>b n a w)) ⟨i,o⟩ ?_;intro a w k;refine wpIn_mono (round _ a w (leastOf_spec k).1) ?_;intro e g w' d;cases e with
 | normal =>
  obtain⟨f,m,h⟩:=d;exact show (∃n,b n g w')/\leastOf (λn=>b n g w')<leastOf (λn=>b n a w) from ⟨⟨f,h⟩,ABQ ((leastOf_spec ⟨f,h⟩).2 f h) m⟩
 | exit id=>exact d
 | goto l=>exact d
 | ret=>exact d
 | panic p=>exact d
 | outgrown=>exact d
def qC (c:Cx) (σ σ':St):Prop:=∀a w,c.sat σ a w->c.sat σ' a w
section
variable {c:Cx} {R:Exit->Act->World->Prop} {k:List Cl} {σ σ':St}
theorem Ev.ent {n:Yn} (h:Ev c R n k σ') (e:qC c σ σ'):Ev c R n k σ:=λb d a w hs=>h b d a w (e a w hs)
theorem x5 {x y:Code} (h:Ev c R (.run x) (.seq y :: k) σ):Ev c R (.run (.seq x y)) k σ:=by
 intro b d a w hs;simp only[Jq,CN,AT]at b;refine wpIn_seq (wpIn_mono (h b.1 (by simp[Cz,b.2,d]) a w hs) ?_);intro e g w' f;cases e<;>exact f
theorem aR (h:Ev c R (.out .normal) k σ):Ev c R (.run .skip) k σ:=λ_ b a w hs=>wpIn_skip (h rfl b a w hs)
theorem x6 (h:Ev c R (.out .ret) k σ):Ev c R (.run .ret) k σ:=λ_ b a w hs=>wpIn_ret (h rfl b a w hs)
theorem rO {id:Nat} (h:Ev c R (.out (.exit id)) k σ):Ev c R (.run (.exit id)) k σ:=λ_ b a w hs=>wpIn_exit (h rfl b a w hs)
theorem kU {id:Nat} {b:Code} (h:Ev c R (.run b) (.blk id :: k) σ):Ev c R (.run (.block id b)) k σ:=by
 intro d f a w hs;refine wpIn_block (wpIn_mono (h (by simpa[Jq,CN] using d) (by simpa[Cz] using f) a w hs) ?_);intro e i w' g;cases e<;>exact g
def EvR (c:Cx) (R:Exit->Act->World->Prop) (k:List Cl):Cr->Prop
 | some (vc,σ)=>vc/\Ev c R (.out .normal) k σ
 | none=>False
theorem eP (g:c.Ok) {id:Nat} {ops:Array Oper} (h:EvR c R k (Bu c.tb ops.toList ops.toList σ)):Ev c R (.run (.region id ops false)) k σ:=by
 intro d f a w hs;cases b:Bu c.tb ops.toList ops.toList σ with
 | none=>rw[b]at h;exact h.elim
 | some r =>
  obtain⟨vc,σ'⟩:=r;rw[b]at h;simp only[Jq,CN,IS]at d;exact ACd (Ms g ops.toList hs d b h.1 λe w' i=>h.2 rfl f e w' i)
def EvC (c:Cx) (R:Exit->Act->World->Prop) (x y:Code) (k:List Cl) (σ:St):Option AV->Prop
 | some (.p .bool b)=>(b=true->Ev c R (.run x) k σ)/\(b=false->Ev c R (.run y) k σ)
 | _=>False
theorem rQ {o:Operand} {x y:Code} (h:EvC c R x y k σ (Ae σ o)):Ev c R (.run (.cond o x y)) k σ:=by
 intro e i a w hs;simp only[Jq,CN,AT]at e;obtain⟨ρ,g⟩:=hs;have l:=Ck g.env;cases f:Ae σ o with
 | none=>rw[f]at h;exact h.elim
 | some v =>
  have m:=l o v f;rw[f]at h;unfold EvC at h;split at h
  .rename_i b j;cases j;have d:=Dq m;exact wpIn_cond_split d (λd=>h.1 d e.1 i a w ⟨ρ,g⟩) (λd=>h.2 d e.2 i a w ⟨ρ,g⟩)
  exact h.elim
theorem G8 {y:Code} (h:Ev c R (.run y) k σ):Ev c R (.out .normal) (.seq y :: k) σ:=by
 intro _ b a w hs;simp only[Cz,AT]at b;exact h b.1 b.2 a w hs
theorem Wa {id:Nat} {y:Code} (h:Ev c R (.out (.exit id)) k σ):Ev c R (.out (.exit id)) (.seq y :: k) σ:=by
 intro _ b a w hs;simp only[Cz,AT]at b;exact h rfl b.2 a w hs
theorem Yo {y:Code} (h:Ev c R (.out .ret) k σ):Ev c R (.out .ret) (.seq y :: k) σ:=by
 intro _ b a w hs;simp only[Cz,AT]at b;exact h rfl b.2 a w hs
theorem Yp {id:Nat} (h:Ev c R (.out .normal) k σ):Ev c R (.out .normal) (.blk id :: k) σ:=λ_ b a w hs=>h rfl (by simpa[Cz] using b) a w hs
theorem O7 {id b:Nat} (h:if b=id then Ev c R (.out .normal) k σ else Ev c R (.out (.exit b)) k σ):Ev c R (.out (.exit b)) (.blk id :: k) σ:=by
 intro _ d a w hs;have d:Cz c.nt k=true:=by simpa[Cz] using d
 show (if b=id then aQ c R k .normal a w else aQ c R k (.exit b) a w);split at h
 .rename_i e;rw[At e];exact h rfl d a w hs
 rename_i e;rw[As e];exact h rfl d a w hs
theorem Yq {id:Nat} (h:Ev c R (.out .ret) k σ):Ev c R (.out .ret) (.blk id :: k) σ:=λ_ b a w hs=>h rfl (by simpa[Cz] using b) a w hs
theorem AB {post:St->Prop} (h:post σ):Ev c R (.out .normal) (.inv post :: k) σ:=λ_ _ _ _ hs=>⟨σ,hs,h⟩
theorem Wb {id:Nat} {post:St->Prop} (h:Ev c R (.out (.exit id)) k σ):Ev c R (.out (.exit id)) (.inv post :: k) σ:=λ_ b a w hs=>h rfl (by simpa[Cz] using b) a w hs
theorem Yr {post:St->Prop} (h:Ev c R (.out .ret) k σ):Ev c R (.out .ret) (.inv post :: k) σ:=λ_ b a w hs=>h rfl (by simpa[Cz] using b) a w hs
def A0b (c:Cx) {ι:Type} (I:ι->St) (μ:ι->Nat) (i:ι) (σ:St):Prop:=∃j,μ j<μ i/\qC c σ (I j)
theorem AJ {ι:Type} (d:ι->St) (f:ι->Nat) (i0:ι) {b:Code} (m:qC c σ (d i0)) (p:∀i,Ev c R (.run b) (.inv (A0b c d f i) :: k) (d i)):Ev c R (.run (.loop b)) k σ:=by
 intro g o a w hs;have g:CN c.nt b=true:=by simpa[Jq,CN] using g
 refine Pi (λn a w=>∃i,f i=n/\c.sat (d i) a w) (f i0) ⟨i0,rfl,m a w hs⟩ ?_;rintro n a w ⟨i,rfl,hs⟩;refine wpIn_mono (p i g (by simpa[Cz] using o) a w hs) ?_;intro e l w' h;cases e with
 | normal =>
  obtain⟨σ',s,j,r,q⟩:=h;exact⟨f j,r,j,rfl,q l w' s⟩
 | _=>exact h
theorem Mt {ι:Type} (d:ι->St) {x y:Code} (h:Ev c R (.run x) (.inv (fun σ'=>∃i,qC c σ' (d i)) :: .seq y :: k) σ) (n:∀i,Ev c R (.run y) k (d i)):Ev c R (.run (.seq x y)) k σ:=by
 intro b g a w hs;simp only[Jq,CN,AT]at b;refine wpIn_seq (wpIn_mono (h b.1 (by simp[Cz,b.2,g]) a w hs) ?_);intro e f w' j;cases e with
 | normal =>
  obtain⟨σ',m,i,l⟩:=j;exact n i b.2 g f w' (l f w' m)
 | _=>exact j
end
end
section
open Go Go.RowKit
def AP:Nat->(ts:List Ty)->H4 ts->List (Nat×AV)
 | _,[],_=>[]
 | s,t :: ts,d=>(s,.p t d.1) :: AP (s+1) ts d.2
def Gf (σ:St) (ty:Ty):Option AV->Option AV
 | some (.bp n a off)=>match DW ty a off (lk n σ.objs) with
  | some (_,v,_)=>some v
  | none=>none
 | _=>none
def IY (tb:Tb) (σ:St):ResultVar->Option AV
 | .tmp t=>lk t σ.env
 | .cell a t=>match lk t tb.ty with
  | some ti=>Gf σ ti.ty (lk a σ.env)
  | none=>none
def LB:Option AV->List Nat
 | some v=>v.names
 | none=>[]
def GP (σ:St) (t:Ty):Option AV->Option t.den
 | some v=>IQ false σ t v
 | none=>none
def kV (σ:St) (et:TypeId) (e:Ty):Option Obj->Option (List e.den)
 | some (.arr b a xs)=>if b=et then BR (.slice e) ⟨.slice a,xs⟩ else none
 | _=>none
def Qa (tb:Tb) (σ:St) (a:ResultVar):RV->Prop
 | .p t d=>GP (DB (LB (IY tb σ a)) σ) t (IY tb (DB (LB (IY tb σ a)) σ) a)=some d
 | .own et e xs=>match IY tb σ a with
  | some (.sr n b 0 hi)=>b=e/\kV σ et e (lk n σ.objs)=some xs/\hi=xs.length
  | _=>False
def Lt (tb:Tb) (σ:St):List ResultVar->List RV->Prop
 | [],[]=>True
 | [a],[r]=>Qa tb σ a r
 | a :: c,.p t d :: b=>Qa tb σ a (.p t d)/\Lt tb σ c b
 | _,_=>False
section
variable {P:Program} {tb:Tb} {w0:World} {O0:Nat->Prop} {nt:Nat} {ds:Fp}
def cx (P:Program) (tb:Tb) (w0:World) (O0:Nat->Prop) (nt:Nat):Cx:={ P:=P,tb:=tb,w0:=w0,K:=λb=>b<w0.heap.size,O0:=O0,nt:=nt }
theorem S4:∀(ts:List Ty) (a:List Value) (ds:H4 ts) (k:Nat) (w:World) (O:Nat->Prop),Lr w O ts a ds->∀s v,lk s (AP k ts ds)=some v->k<=s/\∃u,a[s-k]?=some u/\∃t d,v=.p t d/\BG w O t u d
 | [],a,ds,k,w,O,h,s,v,hs=>by simp[AP,lk]at hs
 | t :: ts,a,ds,k,w,O,h,s,v,hs=>by
  obtain⟨u,r,rfl,c,b⟩:=h;simp only[AP,lk]at hs;split at hs
  .grind
  obtain⟨e,i,f,g⟩:=S4 ts r ds.2 (k+1) w O b s v hs;grind
theorem O8:∀ {ts:List Ty} {a:List Value} {ds:H4 ts} {w:World} {O:Nat->Prop},Lr w O ts a ds->a.length=ts.length
 | [],a,ds,w,O,h=>by have h:a=[]:=h;subst h;rfl
 | t :: ts,a,ds,w,O,h=>by
  obtain⟨u,r,rfl,c,b⟩:=h;simp[O8 b]
theorem eQ {ts:List Ty} {a:List Value} {ds:H4 ts} (h:Lr w0 O0 ts a ds) (q:a.length<=nt) :
  (cx P tb w0 O0 nt).sat ⟨AP 0 ts ds,[]⟩ { tmps:=a.toArray++Array.replicate (nt-a.toArray.size) undef,defers:=[] } w0:=by
 refine⟨λ_=>undef,⟨rfl,rfl,rfl,If _,λ_ _=>rfl⟩,by simp[cx];omega,rfl,(λp hp=>by simp[cx]at hp),λn o h=>by simp[lk]at h,λn b ⟨o,h⟩=>by simp[lk]at h,λn m b ⟨o,h⟩=>by simp[lk]at h,λs v hs=>?_⟩;obtain⟨_,u,c,t,d,rfl,g⟩:=S4 ts a ds 0 w0 O0 h s v hs;have e:s<a.length:=by grind
 have k:(a.toArray++Array.replicate (nt-a.toArray.size) undef).getD s undef=u:=by
  have c:a[s]?=some u:=by simpa using c
  have:a[s]=u:=by rw[DO e]at c;injection c
  simp[Array.getElem?_append,e,this]
 rw[k];refine BG.mono (λb _ i j=>?_) (λ_ _ _=>rfl) g;rcases j with f|⟨n,⟨o,l⟩,_⟩
 .exact i f
 simp[lk]at l
def Jr (tmps:Array Value):ResultVar->Sem Value
 | .tmp t=>pure (tmps.getD t undef)
 | .cell a t=>do loadVar t (<-asAddr (tmps.getD a undef))
theorem Qb (fn:Func) (tmps:Array Value):results fn tmps=(do let a <-fn.results.mapM (Jr tmps);pure (if h:a.size=1 then a[0] else .tuple a)):=by
 unfold results
 congr 1
theorem Uw (hT:DG P tb) {K:Nat->Prop} {σ:St} {ρ:Nat->Value} {a:Act} {w:World} (hs:Bx w0 K O0 nt ds σ ρ a w) {g:ResultVar} {v:AV} (h:IY tb σ g=some v) :
  ∃u,(Jr a.tmps g).run P w=.ok u w/\Bn (vw w O0 σ ρ) v u:=by
 cases g with
 | tmp t =>
  simp only[IY]at h;exact⟨_,by simp[Jr],hs.env t v h⟩
 | cell x t =>
  simp only[IY]at h;cases e:lk t tb.ty with
  | none=>rw[e]at h;simp at h
  | some ti =>
   rw[e]at h;simp only at h;cases f:lk x σ.env with
   | none=>rw[f]at h;simp[Gf]at h
   | some xv =>
    rw[f]at h;unfold Gf at h;split at h
    .rename_i n o off k;cases k;have i:=hs.env x _ f;split at h
     .rename_i vc q obs l;cases h;have m:IR σ (some ti) (some (.bp n o off))=some (vc,v,obs):=l;obtain⟨_,u,d,j⟩:=j5 (hT _ _ e) hs.objs m i;obtain⟨p,b,_,c⟩:=i;rw[c]at d;have c:a.tmps.getD x undef=.pointer (some ⟨b,off,none⟩):=c;refine⟨u,?_,j⟩;simp only[Instr.loadAt,Instr.sureAddr,AAF,ABm,AAh]at d;simp only[Jr,c,asAddr,AAF,ABm,AAh,d]
     cases h
    cases h
theorem rR (hT:DG P tb) {K:Nat->Prop} {σ:St} {ρ:Nat->Value} {a:Act} {w:World} (hs:Bx w0 K O0 nt ds σ ρ a w) {c:ResultVar} {t:Ty} {d:t.den} (h:Qa tb σ c (.p t d)) :
  ∃u,(Jr a.tmps c).run P w=.ok u w/\BG w O0 t u d:=by
 unfold Qa at h;have f:=JE (l:=LB (IY tb σ c)) hs;generalize DB (LB (IY tb σ c)) σ=σ1 at h f;cases e:IY tb σ1 c with
 | none=>rw[e]at h;simp[GP]at h
 | some v =>
  rw[e]at h;simp only[GP]at h;obtain⟨u,g,i⟩:=Uw hT f e;have j:=Hh (V:=vw w O0 σ1 ρ) (O':=O0) (λb k m=>k (.inl m)) (λh=>by cases h) f.objs h i;exact⟨u,g,j⟩
theorem kW (hT:DG P tb) {K:Nat->Prop} {σ:St} {ρ:Nat->Value} {a:Act} {w:World} (hs:Bx w0 K O0 nt ds σ ρ a w):∀ {f:List ResultVar} {c:List RV},(∀r∈c,∃t d,r=.p t d)->Lt tb σ f c ->
  ∃e:List Value,(f.mapM (Jr a.tmps)).run P w=.ok e w/\e.length=c.length /\
   ∀nm V,V.w=w->(∀b,V.O b->O0 b)->G4 V (Gx nm c) e
 | [],[],_,_=>⟨[],by simp,rfl,λ_ _ _ _=>rfl⟩
 | [],_ :: _,_,h=>by simp[Lt]at h
 | _ :: _,[],_,h=>by simp[Lt]at h
 | n :: f,r :: c,hp,h=>by
  obtain⟨t,d,rfl⟩:=hp r sa;have g:Qa tb σ n (.p t d)/\Lt tb σ f c:=by
   cases f with
   | nil =>
    cases c with
    | nil=>exact⟨h,trivial⟩
    | cons v x=>exact⟨h.1,h.2⟩
   | cons y z=>exact⟨h.1,h.2⟩
  obtain⟨u,o,q⟩:=rR hT hs g.1;obtain⟨e,s,i,j⟩:=kW hT hs (λr l=>hp r (by simp[l])) g.2;refine⟨u :: e,?_,by simp[i],λnm V m k=>⟨u,e,rfl,?_,j _ V m k⟩⟩
  .simp_all
  show BG V.w V.O t u d;grind [BG.mono]
def S5 (P:Program) (fn:Func) (w0:World) (O0:Nat->Prop) (outs:List RV):Exit->Act->World->Prop :=
 bodyPost P fn λe w'=>∃u,e=.returned u/\q7 w0 O0 outs u w'
theorem kX (y:(cx P tb w0 O0 nt).Ok) {fn:Func} {outs:List RV} {σ:St} {e:Exit} (z:e=.ret\/e=.normal) (hp:∀r∈outs,∃t d,r=.p t d) (h:Lt tb σ fn.results.toList outs) :
  Ev (cx P tb w0 O0 nt) (S5 P fn w0 O0 outs) (.out e) [] σ:=by
 intro _ _ a w hs;obtain⟨ρ,hs⟩:=hs;obtain⟨f,j,g,m⟩:=kW y.T hs hp h;have j:(fn.results.toList.mapM (Jr a.tmps)).run P w=.ok f w:=j;have x:Below w0.heap.size w0 w:=⟨hs.frm.os,hs.frm.tape,hs.frm.output,hs.frm.size,hs.frm.block⟩;have E:∃v,(results fn a.tmps).run P w=.ok v w/\q7 w0 O0 outs v w:=by
  have B:(fn.results.mapM (Jr a.tmps)).run P w=.ok f.toArray w:=by
   rw[ABI]
   simp_all
  refine⟨if h:f.toArray.size=1 then f.toArray[0] else .tuple f.toArray,?_,λnm=>⟨λ_=>undef,?_⟩⟩
  .rw[Qb];simp only[AAF,B,AAh,ABm]
  have A:Cv nm outs=[]:=by
   clear h j g m;induction outs generalizing nm with
   | nil=>rfl
   | cons r G F =>
    obtain⟨t,d,rfl⟩:=hp r sa;simp only[Cv,Oj,AAK];exact F (λr D=>hp r (by simp[D])) (nm+10000)
  rw[A];refine⟨x,λ_ _=>rfl,?_,(λ_ _ h=>by cases h),(λ_ _ _ h=>by cases h),(λ_ _ _ _ _ h=>by cases h)⟩;have c:=m nm (vw w O0 (Du ⟨[],[]⟩ []) (λ_=>undef)) rfl (λb s=>by
   rcases s with q|⟨n,⟨o,C⟩,_⟩
   .exact q
   simp[Du,lk]at C)
  match outs,hp,f,g,c with
  | [],_,f,g,c =>
   have c:f=[]:=c;subst c;exact(rfl:_=_)
  | [r],hp,f,g,c =>
   obtain⟨u,l,rfl,i,k⟩:=c;have k:l=[]:=k;subst k;simp only[F3];exact jT i
  | H :: I :: G,hp,f,g,c =>
   have:¬f.toArray.size=1:=by simp at g ⊢;omega
   rw[dif_neg this];exact⟨f,rfl,c⟩
 obtain⟨v,c,i⟩:=E;rcases z with rfl|rfl
 .exact⟨hs.defers,v,c,v,rfl,i⟩
 exact⟨hs.defers,v,c,v,rfl,i⟩
end
end
section
open Go Go.RowKit
def Ty.ok:(t:Ty)->t.den->Prop
 | .int k,d=>Gm k d
 | .bool,_=>True
 | .str,d=>ByteArray.size d<=AN
 | .slice e,d=>List.length d<=AN/\∀x∈(d:List e.den),e.ok x
 | .prod a b,d=>a.ok d.1/\b.ok d.2
 | .agg t,d=>t.ok d
 | .ref k,d=>wU k d
theorem G9 {w:World} {O:Nat->Prop}:∀ {t:Ty} {cs:List Value} {d:t.den},Bl w O t cs d->t.ok d
 | .int _,_,_,h=>h.2
 | .bool,_,_,_=>trivial
 | .str,_,_,h=>h.2
 | .ref _,_,_,h=>h.2
 | .slice e,_,d,h=>by
  obtain⟨a,c,_,_,f,g⟩:=h;refine⟨f,λx j=>?_⟩;rcases g with g|⟨ad,_,_,l⟩
  .subst g;simp at j
  obtain⟨i,hi,rfl⟩:=AAN.1 j;obtain⟨es,_,_,m⟩:=l i _ (DO hi);exact G9 m
 | .prod a b,_,_,h=>by
  obtain⟨c1,c2,_,k,f⟩:=h;exact⟨G9 k,G9 f⟩
 | .agg t,cs,d,h=>by
  have h:Bl w O t cs d:=h;exact(G9 h:t.ok d)
def oks:(ts:List Ty)->H4 ts->Prop
 | [],_=>True
 | t :: ts,d=>t.ok d.1/\oks ts d.2
theorem aU {w:World} {O:Nat->Prop}:∀ {ts:List Ty} {a:List Value} {ds:H4 ts},Lr w O ts a ds->oks ts ds
 | [],_,_,_=>trivial
 | t :: ts,a,ds,h=>by
  obtain⟨v,r,rfl,⟨cs,b,_⟩,c⟩:=h;exact⟨G9 b,aU c⟩
section
variable {P:Program} {tb:Tb} {w0:World} {O0:Nat->Prop} {nt:Nat}
theorem w5 {f : FuncId} {fn : Func} {cd : Code} {a : Spec} (e : P.funcs[f]? = some fn) (k : (fn.name == "runtime.NumGoroutine") = false) (d : fn.body = some cd) (l : fn.ntmps = nt) (o : a.ins.length <= nt)
  (j:CN nt cd=true) (hT:DG P tb) (hF:KH P tb)
  (h:∀(w0:World) (O0:Nat->Prop) (ds:H4 a.ins),(cx P tb w0 O0 nt).Ok->oks a.ins ds->a.pre ds->Ev (cx P tb w0 O0 nt) (S5 P fn w0 O0 (a.out ds)) (.run cd) [] ⟨AP 0 a.ins ds,[]⟩):Ap P f a:=by
 refine⟨⟨fn,e,k,by simp[d]⟩,λw O q ds g hG c m=>?_⟩;refine calls_of_wp e d ((wpIn_wide (n:=0)).1 ?_);have p:=O8 c;rw[l];exact h w O ds ⟨λb i=>i,g,hT,hF,hG⟩ (aU c) m j rfl _ _ (eQ c oa)
end
end
section
open Go Go.RowKit
section
variable {P:Program} {tb:Tb} {w0:World} {O0:Nat->Prop} {nt:Nat} {R:Exit->Act->World->Prop} {k:List Cl} {σ σ':St}
theorem Wc:(cx P tb w0 O0 nt).tb=tb:=rfl
theorem Ys {c:Cx} (a:c.Ok) {id:Nat} {l:List Oper} {vc:Prop} (h:Bu c.tb l l σ=some (vc,σ')) (d:vc) (b:Ev c R (.out .normal) k σ') :
  Ev c R (.run (.region id l.toArray false)) k σ:=eP a (by
 show EvR _ _ _ (Bu c.tb l l σ);rw[h];exact⟨d,b⟩)
theorem DK {c:Cx} {o:Operand} {x y:Code} {b:Bool} (h:Ae σ o=some (.p .bool b)) (d:b=true->Ev c R (.run x) k σ) (a:b=false->Ev c R (.run y) k σ):Ev c R (.run (.cond o x y)) k σ :=
 rQ (by rw[h];exact⟨d,a⟩)
theorem Yt {c:Cx} {id:Nat} (h:Ev c R (.out .normal) k σ):Ev c R (.out (.exit id)) (.blk id :: k) σ:=O7 (by rw[At rfl];exact h)
theorem Yu {c:Cx} {id a:Nat} (b:a≠id) (h:Ev c R (.out (.exit a)) k σ):Ev c R (.out (.exit a)) (.blk id :: k) σ:=O7 (by rw[As b];exact h)
end
inductive CB where
 | nm (n:Nat)
 | nil
mutual
def C0 (ren:List (Nat×CB)):AV->AV->Prop
 | .p t d,.p u d'=>BR u ⟨t,d⟩=some d'
 | .raw (.slice none 0 0),.p (.slice e) d'=>(d':List e.den)=[]
 | .raw v,.raw u=>v=u
 | .raw (.slice none 0 0),.sr m _ lo hi=>lk m ren=some .nil/\lo=0/\hi=0
 | .sr n e lo hi,.sr m e' lo' hi'=>lk m ren=some (.nm n)/\e=e'/\lo=lo'/\hi=hi'
 | .ip t d,.ip u d'=>BR u ⟨t,d⟩=some d'
 | .bp n p o,.bp m p' o'=>lk m ren=some (.nm n)/\p=p'/\o=o'
 | .fn f,.fn g=>f=g
 | .clo f ns,.clo g ms=>f=g/\ms.map (λm=>lk m ren)=ns.map λn=>some (.nm n)
 | .mp n,.mp m=>lk m ren=some (.nm n)
 | .yl n,.yl m=>lk m ren=some (.nm n)
 | .ag l,.ag r=>matchAVs ren l r
 | _,.top=>True
 | _,_=>False
def matchAVs (ren:List (Nat×CB)):List AV->List AV->Prop
 | [],[]=>True
 | x :: l,y :: r=>(x.cells=y.cells/\C0 ren x y)/\matchAVs ren l r
 | _,_=>False
end
def IE (ren:List (Nat×CB)):AV->AV->Prop
 | .ag l,.ag r=>matchAVs ren l r
 | x,y=>C0 ren x y
def Hn (ren:List (Nat×CB)):List AV->List AV->Prop
 | [],[]=>True
 | x :: l,y :: r=>IE ren x y/\Hn ren l r
 | _,_=>False
def CK (ren:List (Nat×CB)):AV->AV->Prop
 | .tup l,.tup r=>Hn ren l r
 | x,y=>IE ren x y
def JF (ren:List (Nat×CB)):Option AV->AV->Prop
 | some x,y=>CK ren x y
 | none,.top=>True
 | none,_=>False
def Ee (env:List (Nat×AV)) (ren:List (Nat×CB)):List (Nat×AV)->Prop
 | []=>True
 | (s,y) :: r=>JF ren (lk s env) y/\Ee env ren r
def HA (ren:List (Nat×CB)):Option Obj->Obj->Prop
 | some (.arr et e xs),.arr a c ys=>et=a/\BR (.slice c) ⟨.slice e,xs⟩=some ys
 | some (.box et x fs),.box a y d=>et=a/\x=y/\matchAVs ren fs d
 | some (.nest et o k e xs h),.nest a p b c ys n=>(et=a/\o=p/\h=n)/\BR (.slice (.prod b (.slice c))) ⟨.slice (.prod k (.slice e)),xs⟩=some ys
 | some (.mapo k v l),.mapo b f l'=>BR (.slice (.prod b f)) ⟨.slice (.prod k v),l⟩=some l'
 | some (.frame z fs),.frame A d=>z=A/\Ee fs ren d
 | some (.itr k v l q j),.itr b f l' r m=>BR (.slice (.prod b f)) ⟨.slice (.prod k v),l⟩=some l'/\q=r/\j=m
 | some (.loop L),.loop i=>L=i
 | some .dfr,.dfr=>True
 | some (.sit s u),.sit t w=>s=t/\u=w
 | some (.gen G),.gen g=>G=g
 | _,_=>False
def Fg (objs:List (Nat×Obj)) (ren:List (Nat×CB)) (o:Obj):Option CB->Prop
 | some (.nm n)=>HA ren (lk n objs) o
 | some .nil=>match o with
  | .arr _ e ys=>(ys:List e.den)=[]
  | .box _ _ _=>False
  | .nest _ _ k e ys _=>(ys:List (k.den×List e.den))=[]
  | .mapo _ _ _=>False
  | .frame _ _=>False
  | .itr _ _ _ _ _=>False
  | .loop _=>False
  | .dfr=>False
  | .sit a b=>False
  | .gen _=>False
 | none=>False
def Ao (objs:List (Nat×Obj)) (ren:List (Nat×CB)):List (Nat×Obj)->Prop
 | []=>True
 | (m,o) :: r=>Fg objs ren o (lk m ren)/\Ao objs ren r
def CZ:List (Nat×CB)->Bool
 | []=>true
 | (_,.nm n) :: r=>(r.all λp=>match p.2 with|.nm a=>a != n|.nil=>true)&&CZ r
 | (_,.nil) :: r=>CZ r
def Qc {α:Type}:List (Nat×α)->Bool
 | []=>true
 | (n,_) :: r=>(r.all λp=>p.1 != n)&&Qc r
section
variable {ren:List (Nat×CB)} {V V':Vw}
structure Jz (ren:List (Nat×CB)) (V V':Vw):Prop where
 w:V'.w=V.w
 O:∀b,¬V.O b->¬V'.O b
 ρ:∀m n,lk m ren=some (.nm n)->V'.ρ m=V.ρ n
 nil:∀m,lk m ren=some .nil->V'.ρ m=.slice none 0 0
 L:∀m f,lk m ren=some f->V'.L m
theorem Jz.vrep (h:Jz ren V V') {t:Ty} {v:Value} {d:t.den} (c:BG V.w V.O t v d):BG V'.w V'.O t v d :=
 BG.mono (λb _ a=>h.O b a) (λb _ _=>by rw[h.w]) c
theorem Jz.rep (h:Jz ren V V') {t:Ty} {cs:List Value} {d:t.den} (c:Bl V.w V.O t cs d):Bl V'.w V'.O t cs d :=
 c.mono (λb _ a=>h.O b a) (λb _ _=>by rw[h.w])
theorem Jz.map (h:Jz ren V V'):∀ {b ns:List Nat},b.map (λm=>lk m ren)=ns.map (λn=>some (CB.nm n))->b.map V'.ρ=ns.map V.ρ/\∀m∈b,∃n∈ns,lk m ren=some (.nm n)
 | [],[],_=>⟨rfl,λ_ h=>by cases h⟩
 | [],_ :: _,a=>by simp at a
 | _ :: _,[],a=>by simp at a
 | m :: b,n :: ns,a=>by
  simp only[oR,AAY]at a;obtain⟨c,d⟩:=h.map a.2;refine⟨by simp only[oR,c,h.ρ _ _ a.1],λx e=>?_⟩;grind
theorem S6 (h:Jz ren V V') {x y:AV} {v:Value} (b:C0 ren x y) (c:KC V x v):KC V' y v/\(∀t d,y=.p t d->(∀u i,x≠.p u i)->v.oneCell'=true->Bl V'.w V'.O t [v] d):=by
 unfold C0 at b;split at b
 .have:=BH b;injection this with f g
  subst f;cases g;exact⟨h.vrep c,λ_ _ _ B=>absurd rfl (B _ _)⟩
 .have c:v=_:=c;subst c;have k:=b;have l:∀(O:Nat->Prop) (e:Ty),Bl V'.w O (.slice e) [.slice none 0 0] ([]:List e.den):=λO e=>⟨none,0,rfl,by simp,by simp[AN],.inl rfl⟩;rename_i e i;have k:i=([]:List e.den):=k;subst k;refine⟨⟨_,l _ _,rfl⟩,λt d a _ _=>?_⟩;grind
 .subst b;exact⟨c,λt d a=>by cases a⟩
 .rename_i m e lo hi;obtain⟨f,rfl,rfl⟩:=b;have c:v=_:=c;subst c;refine⟨⟨h.L _ _ f,?_⟩,λt d a=>by cases a⟩;rw[h.nil _ f];exact⟨none,0,0,rfl,by omega,by omega,none,0,rfl,by omega,λ_=>⟨rfl,rfl⟩,λh=>by omega⟩
 .obtain⟨f,rfl,rfl,rfl⟩:=b;refine⟨⟨h.L _ _ f,?_⟩,λt d a=>by cases a⟩;rw[h.ρ _ _ f];exact c.2
 .have:=BH b;injection this with f g
  subst f;cases g;obtain⟨ad,cs,a,q,r,l⟩:=c;exact⟨⟨ad,cs,a,h.O _ q,λj u s=>by rw[h.w];exact r j u s,h.rep l⟩,λt d a=>by cases a⟩
 .obtain⟨f,rfl,rfl⟩:=b;refine⟨⟨h.L _ _ f,?_⟩,λt d a=>by cases a⟩;rw[h.ρ _ _ f];exact c.2
 .subst b;exact⟨c,λt d a=>by cases a⟩
 .obtain⟨rfl,z⟩:=b;obtain⟨f,g⟩:=h.map z;refine⟨⟨?_,λm b=>?_⟩,λt d a=>by cases a⟩
  .rw[f];exact c.1
  obtain⟨n,A,o⟩:=g m b;refine⟨h.L _ _ o,?_⟩;rw[h.ρ _ _ o];exact(c.2 n A).2
 .refine⟨⟨h.L _ _ b,?_⟩,λt d a=>by cases a⟩;rw[h.ρ _ _ b];exact c.2
 .refine⟨⟨h.L _ _ b,?_⟩,λt d a=>by cases a⟩;rw[h.ρ _ _ b];exact c.2
 .exact(show False from c).elim
 .exact⟨trivial,λt d a=>by cases a⟩
 exact b.elim
theorem Yv (h:Jz ren V V') {x y:AV} {cs:List Value} (n:SZ x=false) (i:x.cells=y.cells) (c:C0 ren x y) (a:Fa V x cs):Fa V' y cs:=by
 by_cases hp:∃t d,x=.p t d
 .obtain⟨t,d,rfl⟩:=hp;have a:Bl V.w V.O t cs d:=a;cases y<;>simp only[C0]at c<;>try exact c.elim
  .have:=BH c;injection this with b f
   subst b;cases f;exact h.rep a
  have j:=a.length;simp only[AV.cells]at i;rw[i]at j;obtain⟨v,rfl⟩:=AAR.1 j;exact⟨v,rfl,a.one v sa,trivial⟩
 have o:∃v,cs=[v]/\v.oneCell'=true/\KC V x v:=by
  cases x;case p t d=>exact absurd ⟨t,d,rfl⟩ hp
  case ag l=>cases n
  all_goals exact a
 obtain⟨v,rfl,b,f⟩:=o;obtain⟨g,m⟩:=S6 h c f;cases y;case p t d=>exact m t d rfl (λu k e=>hp ⟨u,k,e⟩) b
 case ag l=>exact(show False from g).elim
 all_goals exact⟨v,rfl,b,g⟩
theorem eU (h:Jz ren V V'):(∀(x y:AV) (cs:List Value),x.cells=y.cells->C0 ren x y->Fa V x cs->Fa V' y cs)/\∀(l r:List AV) (cs:List Value),matchAVs ren l r->AVCs V l cs->AVCs V' r cs:=by
 have key:∀n:Nat,(∀(x y:AV) (cs:List Value),SizeOf.sizeOf x<n->x.cells=y.cells->C0 ren x y->Fa V x cs->Fa V' y cs)/\∀(l r:List AV) (cs:List Value),SizeOf.sizeOf l<n->matchAVs ren l r->AVCs V l cs->AVCs V' r cs:=by
  intro n;induction n with
  | zero=>exact⟨λ_ _ _ h=>by omega,λ_ _ _ h=>by omega⟩
  | succ n d =>
   refine⟨λx y cs c f a b=>?_,λl r cs c a b=>?_⟩
   .cases g:SZ x with
    | false=>exact Yv h g f a b
    | true =>
     cases x<;>simp[SZ]at g;rename_i l;simp only[AV.ag.sizeOf_spec]at c;cases y<;>simp only[C0]at a<;>try exact a.elim
     .rename_i r;exact(d.2 l r cs oa a b:AVCs V' r cs)
     have i:=b.length;rw[f]at i;obtain⟨v,rfl⟩:=AAR.1 (i.trans rfl);exact⟨v,rfl,b.one v sa,trivial⟩
   match l,r with
   | [],[]=>exact b
   | [],_ :: _=>simp only[matchAVs]at a
   | _ :: _,[]=>simp only[matchAVs]at a
   | x :: l,y :: r =>
    simp only[matchAVs]at a;obtain⟨c1,c2,e,j,k⟩:=b;simp only[AC7]at c;exact⟨c1,c2,e,d.1 x y c1 oa a.1.1 a.1.2 j,d.2 l r c2 oa a.2 k⟩
 exact⟨λx y cs=>(key _).1 x y cs (ABd _),λl r cs=>(key _).2 l r cs (ABd _)⟩
theorem Qd (h:Jz ren V V') {l r:List AV} {cs:List Value} (a:matchAVs ren l r) (b:AVCs V l cs):AVCs V' r cs:=(eU h).2 l r cs a b
theorem Js:∀ {l r:List AV},matchAVs ren l r->l.length=r.length
 | [],[],_=>rfl
 | [],_ :: _,a=>a.elim
 | _ :: _,[],a=>a.elim
 | _ :: _,_ :: _,a=>by simp[Js a.2]
theorem S7 (h:Jz ren V V') {x y:AV} {v:Value} (a:IE ren x y) (b:Ot V x v):Ot V' y v:=by
 cases x;case ag l =>
  cases y;case ag r =>
   obtain⟨cs,e,c⟩:=b;exact⟨cs,e,Qd h a c⟩
  all_goals simp only[IE,C0]at a
  all_goals first|exact a.elim|exact trivial
 all_goals
  simp only[Ot]at b;have a:C0 ren _ y:=a;exact Ot.of1 (S6 h a b).1
theorem Wd (h:Jz ren V V'):∀ {l r:List AV} {b:List Value},Hn ren l r->G4 V l b->G4 V' r b
 | [],[],b,_,c=>c
 | [],_ :: _,b,a,_=>a.elim
 | _ :: _,[],b,a,_=>a.elim
 | x :: l,y :: r,b,a,c=>by
  obtain⟨v,f,rfl,d,e⟩:=c;exact⟨v,f,rfl,S7 h a.1 d,Wd h a.2 e⟩
theorem LC (h:Jz ren V V') {x y:AV} {v:Value} (a:CK ren x y) (b:Bn V x v):Bn V' y v:=by
 cases x;case tup l =>
  cases y;case tup r =>
   obtain⟨d,e,c⟩:=b;exact⟨d,e,Wd h a c⟩
  all_goals simp only[CK,IE,C0]at a
  all_goals first|exact a.elim|exact trivial
 all_goals
  simp only[CK]at a;exact jT (S7 h a b)
theorem C1 {objs:List (Nat×Obj)} {m:Nat} {o:Obj}:∀ {l:List (Nat×Obj)},Ao objs ren l->lk m l=some o->Fg objs ren o (lk m ren)
 | (j,x) :: l,h,a=>by
  simp only[lk]at a;split at a
  .rename_i e;cases a;subst e;exact h.1
  exact C1 h.2 a
theorem KL {env:List (Nat×AV)} {s:Nat} {y:AV}:∀ {l:List (Nat×AV)},Ee env ren l->lk s l=some y->JF ren (lk s env) y
 | (j,x) :: l,h,a=>by
  simp only[lk]at a;split at a
  .rename_i e;cases a;subst e;exact h.1
  exact KL h.2 a
theorem Pt:∀ {l:List (Nat×CB)} {m d n:Nat},CZ l=true->lk m l=some (.nm n)->lk d l=some (.nm n)->m=d
 | (j,f) :: l,m,d,n,a,b,c=>by
  simp only[lk]at b c;have h:CZ l=true:=by
   cases f<;>simp only[CZ,AT]at a
   .exact a.2
   exact a
  have i:∀q,f=.nm n->lk q l=some (.nm n)->False:=by
   intro q e g;subst e;simp only[CZ,AT,IS]at a;have:=a.1 _ (FM g);simp at this
  split at b
  .grind
  split at c
  .grind
  exact Pt h b c
def A0d (n:Nat):Option CB->Bool
 | some (.nm m)=>m==n
 | _=>false
def x7 (pin:List (Nat×Value)) (ren:List (Nat×CB)):Bool:=pin.all λp=>A0d p.1 (lk p.1 ren)
theorem N1 {V V':Vw} (c:Jz ren V V') {Y:List (Nat×Obj)} (ao:∀n x,lk n Y=some x->Av V x (V.ρ n)) {o:Obj} {m:Nat} (a:Fg Y ren o (lk m ren)):Av V' o (V'.ρ m):=by
 cases T:lk m ren with
 | none=>rw[T]at a;exact a.elim
 | some f =>
  rw[T]at a;cases f with
  | nil =>
   rw[c.nil m T];cases o with
   | box et B fs=>exact a.elim
   | mapo k v l=>exact a.elim
   | frame C fs=>exact a.elim
   | loop L=>exact a.elim
   | itr H K I J F=>exact a.elim
   | dfr=>exact a.elim
   | sit q t=>exact a.elim
   | gen G=>exact a.elim
   | nest et ar k e ys N =>
    have a:ys=([]:List (k.den×List e.den)):=a;subst a;exact⟨_,[],[],.inr ⟨rfl,rfl,rfl⟩,by simp[AN],rfl,AB5 _ 0 et _,λi x u h=>by simp at h,λi j b u v h=>by simp at h,λi b u h=>by simp at h⟩
   | arr et e ys =>
    have a:ys=([]:List e.den):=a;subst a;exact⟨by simp[AN],[],AB5 _ 0 et e.size,E3 _ _ _ _⟩
  | nm n =>
   rw[c.ρ m n T];simp only[Fg]at a;cases W:lk n Y with
   | none=>rw[W]at a;simp only[HA]at a
   | some x =>
    rw[W]at a;have A:=ao n x W;cases x with
    | arr et e xs =>
     cases o with
     | box g B fs=>exact a.elim
     | mapo k v l=>exact a.elim
     | frame C fs=>exact a.elim
     | loop L=>exact a.elim
     | itr H K I J F=>exact a.elim
     | dfr=>exact a.elim
     | sit q t=>exact a.elim
     | gen G=>exact a.elim
     | nest _ _ _ _ _ _=>exact a.elim
     | arr g y ys =>
      obtain⟨rfl,D⟩:=a;obtain⟨rfl,p⟩:=Bz D;cases p;obtain⟨am,cells,an,ak⟩:=A;refine⟨am,cells,by rw[c.w];exact an,λi z hi=>?_⟩;obtain⟨es,g1,ad,ae⟩:=ak i z hi;exact⟨es,g1,ad,c.rep ae⟩
    | box et B fs =>
     cases o with
     | arr g y ys=>exact a.elim
     | mapo k v l=>exact a.elim
     | frame C fs=>exact a.elim
     | loop L=>exact a.elim
     | itr H K I J F=>exact a.elim
     | dfr=>exact a.elim
     | sit q t=>exact a.elim
     | gen G=>exact a.elim
     | nest _ _ _ _ _ _=>exact a.elim
     | box g bg af =>
      obtain⟨rfl,rfl,R⟩:=a;obtain⟨U,b,cs,Q,E,aj⟩:=A;exact⟨λap=>by rw[<-Js R];exact U ap,b,cs,Q,by rw[c.w];exact E,Qd c R aj⟩
    | nest et ar k e xs h =>
     cases o with
     | nest g bd Z y ys bc =>
      obtain⟨⟨rfl,rfl,rfl⟩,D⟩:=a;have D:=BH D;injection D with d M
      injection d with d
      injection d with d p
      injection p with p
      subst d;subst p;cases M;exact eH c.w c.O A
     | mapo k v l=>exact a.elim
     | box g B fs=>exact a.elim
     | arr g y ys=>exact a.elim
     | frame C fs=>exact a.elim
     | loop L=>exact a.elim
     | itr H K I J F=>exact a.elim
     | dfr=>exact a.elim
     | sit q t=>exact a.elim
     | gen G=>exact a.elim
    | mapo k v l =>
     cases o with
     | mapo Z az l' =>
      have D:=BH a;injection D with d M
      injection d with d
      injection d with d p
      subst d;subst p;cases M;obtain⟨b,es,cl,Q,E,al,ai⟩:=A;exact⟨b,es,cl,Q,by rw[c.w];exact E,al.mono (λb _ P=>c.O b P) (λb _ _=>by rw[c.w]),ai⟩
     | box g B fs=>exact a.elim
     | arr g y ys=>exact a.elim
     | frame C fs=>exact a.elim
     | loop L=>exact a.elim
     | itr H K I J F=>exact a.elim
     | dfr=>exact a.elim
     | sit q t=>exact a.elim
     | gen G=>exact a.elim
     | nest _ _ _ _ _ _=>exact a.elim
    | frame C fs =>
     cases o with
     | frame bh af =>
      obtain⟨rfl,R⟩:=a;obtain⟨U,d⟩:=A;refine⟨U,λs v aq=>?_⟩;have S:=KL R aq;cases X:lk s fs with
      | none =>
       rw[X]at S;cases v<;>simp only[JF]at S;exact trivial
      | some x =>
       rw[X]at S;exact LC c S (d s x X)
     | mapo k v l=>exact a.elim
     | box g B fs=>exact a.elim
     | arr g y ys=>exact a.elim
     | loop L=>exact a.elim
     | itr H K I J F=>exact a.elim
     | dfr=>exact a.elim
     | sit q t=>exact a.elim
     | gen G=>exact a.elim
     | nest _ _ _ _ _ _=>exact a.elim
    | itr k v l be ba =>
     cases o with
     | itr Z az l' bf bb =>
      obtain⟨a,rfl,rfl⟩:=a;have D:=BH a;injection D with d M
      injection d with d
      injection d with d p
      subst d;subst p;cases M;obtain⟨r,Q,b,au,cl,ax,aw,d,M,p,ag,ah⟩:=A;exact⟨r,Q,b,au,cl,ax,aw,by rw[c.w];exact d,c.O b M,by rw[c.w];exact p,ag.mono (λb _ P=>c.O b P) (λb _ _=>by rw[c.w]),ah⟩
     | mapo k v l=>exact a.elim
     | box g B fs=>exact a.elim
     | arr g y ys=>exact a.elim
     | frame C fs=>exact a.elim
     | loop L=>exact a.elim
     | dfr=>exact a.elim
     | sit q t=>exact a.elim
     | gen G=>exact a.elim
     | nest _ _ _ _ _ _=>exact a.elim
    | loop L =>
     cases o with
     | loop ab =>
      have a:L=ab:=a;subst a;obtain⟨b,N,E⟩:=A;exact⟨b,N,by rw[c.w];exact E⟩
     | itr H K I J F=>exact a.elim
     | mapo k v l=>exact a.elim
     | box g B fs=>exact a.elim
     | arr g y ys=>exact a.elim
     | frame C fs=>exact a.elim
     | dfr=>exact a.elim
     | sit q t=>exact a.elim
     | gen G=>exact a.elim
     | nest _ _ _ _ _ _=>exact a.elim
    | dfr =>
     cases o with
     | dfr =>
      obtain⟨b,N,E⟩:=A;exact⟨b,N,by rw[c.w];exact E⟩
     | nest _ _ _ _ _ _=>exact a.elim
     | mapo k v l=>exact a.elim
     | box g B fs=>exact a.elim
     | arr g y ys=>exact a.elim
     | frame C fs=>exact a.elim
     | loop L=>exact a.elim
     | itr H K I J F=>exact a.elim
     | sit q t=>exact a.elim
     | gen G=>exact a.elim
    | sit q t =>
     cases o with
     | sit av ay =>
      obtain⟨rfl,rfl⟩:q=av/\t=ay:=a;obtain⟨b,N,E⟩:=A;exact⟨b,N,by rw[c.w];exact E⟩
     | nest _ _ _ _ _ _=>exact a.elim
     | mapo k v l=>exact a.elim
     | box g B fs=>exact a.elim
     | arr g y ys=>exact a.elim
     | frame C fs=>exact a.elim
     | loop L=>exact a.elim
     | itr H K I J F=>exact a.elim
     | dfr=>exact a.elim
     | gen G=>exact a.elim
    | gen G =>
     cases o with
     | gen aa =>
      obtain rfl:G=aa:=a;exact G.keeps _ _ _ _ _ (λb _ P=>c.O b P) (λb _ _=>by rw[c.w]) (λb _=>by rw[c.w]) A
     | nest _ _ _ _ _ _=>exact a.elim
     | mapo k v l=>exact a.elim
     | box g B fs=>exact a.elim
     | arr g y ys=>exact a.elim
     | frame C fs=>exact a.elim
     | loop L=>exact a.elim
     | itr H K I J F=>exact a.elim
     | dfr=>exact a.elim
     | sit q t=>exact a.elim
def Ct (objs:List (Nat×Obj)) (ren:List (Nat×CB)):Bool:=ren.all λp=>(lk p.1 objs).isSome
theorem AC {c:Cx} {σ σ':St} (ren:List (Nat×CB)) (E:CZ ren=true) (u:Ct σ'.objs ren=true) (B:Ao σ.objs ren σ'.objs) (J:Ee σ.env ren σ'.env) (hp:x7 c.ds.pin ren=true:=by rfl):qC c σ σ':=by
 rintro a w ⟨ρ,hs⟩
 let ρ':Nat->Value:=λm=>match lk m ren with|some (.nm n)=>ρ n|_=>.slice none 0 0
 have A:∀m n,lk m ren=some (.nm n)->ρ' m=ρ n:=λm n d=>by simp[ρ',d]
 have z:∀m,lk m ren=some .nil->ρ' m=.slice none 0 0:=λm d=>by simp[ρ',d]
 have H:∀m f,lk m ren=some f->GL σ' m:=λm f d=>by
  simp only[Ct,IS]at u;have:=u _ (FM d);exact ABa.1 this
 have l:∀m b,GL σ' m->bk (ρ' m) b->∃n,lk m ren=some (.nm n)/\GL σ n/\bk (ρ n) b:=by
  rintro m b ⟨o,d⟩ e;have j:=C1 B d;cases k:lk m ren with
  | none=>rw[k]at j;exact j.elim
  | some f =>
   cases f with
   | nil=>rw[z m k]at e;simp[bk,blk]at e
   | nm n =>
    rw[k]at j;rw[A m n k]at e;refine⟨n,rfl,?_,e⟩;cases g:lk n σ.objs with
    | none=>simp only[Fg,g,HA]at j
    | some x=>exact⟨x,g⟩
 have y:Jz ren (vw w c.O0 σ ρ) (vw w c.O0 σ' ρ'):=by
  refine⟨rfl,λb e q=>?_,A,z,H⟩;rcases q with D|⟨m,i,d⟩
  .exact e (.inl D)
  obtain⟨n,_,g,h⟩:=l m b i d;exact e (.inr ⟨n,g,h⟩)
 refine⟨ρ',hs.frm,hs.nt,hs.defers,λp C=>?_,λm o d=>?_,λm b i e=>?_,λm N b i K e q=>?_,λs v M=>?_⟩
 .obtain⟨g1,P,Q⟩:=hs.pin p C;simp only[x7,IS]at hp;have r:=hp p C;unfold A0d at r;split at r
  .grind
  cases r
 .exact N1 y hs.objs (C1 B d)
 .obtain⟨n,_,g,h⟩:=l m b i e;exact hs.free n b g h
 .obtain⟨n,F,g,h⟩:=l m b i e;obtain⟨O,G,L,I⟩:=l N b K q;have:=hs.dist n O b g L h I;subst this;exact Pt E F G
 have d:=KL J M;cases t:lk s σ.env with
 | none =>
  rw[t]at d;cases v<;>simp only[JF]at d;exact trivial
 | some x =>
  rw[t]at d;exact LC y d (hs.env s x t)
end
end
theorem F5 (b:Bool):Nt true (some (.p .bool b))=some b:=by cases b<;>rfl
theorem FO (b:Bool):Nt false (some (.p .bool b))=some (!b):=by cases b<;>rfl
theorem LD:IntKind.i64.min=-9223372036854775808:=by decide
theorem LE:IntKind.i64.max=9223372036854775807:=by decide
theorem LF:IntKind.u64.min=0:=by decide
theorem LG:IntKind.u64.max=18446744073709551615:=by decide
theorem N2:IntKind.u8.min=0:=by decide
theorem N3:IntKind.u8.max=255:=by decide
theorem Fz (n:Int):Gm .i64 n↔-9223372036854775808<=n/\n<=9223372036854775807:=by unfold Gm;rw[LD,LE]
theorem Gg (n:Int):Gm .u64 n↔0<=n/\n<=18446744073709551615:=by unfold Gm;rw[LF,LG]
theorem Qf (n:Int):Gm .u8 n↔0<=n/\n<=255:=by unfold Gm;rw[N2,N3]
theorem Mu {α:Type} (x:α):sub [x] 0 1=[x]:=rfl
theorem HB {α:Type} (xs:List α) (n:Nat):sub xs 0 n=xs.take n:=by simp[sub]
theorem kY (n:Nat):((n:Int)).toNat=n:=AA4 n
theorem FP (n:Nat):(0<=(n:Int))=True:=eq_true (AAg n)
section
open Go Go.RowKit
section
variable {tb:Tb} {σ σ':St}
def V9 (σ σ':St):Prop:=∀n o,lk n σ.objs=some o->lk n σ'.objs=some o
theorem kZ (h:V9 σ σ') {e:Ty} {lo hi n:Nat} {d:List e.den} (hs:Lk e lo hi (lk n σ.objs)=some d):Lk e lo hi (lk n σ'.objs)=some d:=by
 cases a:lk n σ.objs with
 | none=>rw[a]at hs;simp[Lk]at hs
 | some o=>rw[h n o a,<-a];exact hs
theorem eX (h:V9 σ σ') {e:Ty} {i n:Nat} {d:List e.den} (hs:Np e i (lk n σ.objs)=some d):Np e i (lk n σ'.objs)=some d:=by
 cases a:lk n σ.objs with
 | none=>rw[a]at hs;simp[Np]at hs
 | some o=>rw[h n o a,<-a];exact hs
theorem IZ (h:V9 σ σ') {l:Bool} {t:Ty} {x:AV} {d:t.den} (hs:EU l σ t x=some d):EU l σ' t x=some d:=by
 unfold EU at hs ⊢;split at hs
 .exact hs
 .grind [kZ]
 .grind [eX]
 .exact hs
 cases hs
theorem S8 (h:V9 σ σ') {l:Bool}:∀ {fs:List AV} {t:Ty} {d:t.den},I3 l σ fs t=some d->I3 l σ' fs t=some d
 | [],t,d,hs=>by simp[I3]at hs
 | [x],t,d,hs=>by grind [I3,IZ]
 | x :: y :: r,t,d,hs=>by
  cases t<;>simp only[I3]at hs ⊢<;>try(cases hs;done)
  rename_i a b;cases c:EU l σ a x with
  | none=>rw[c]at hs;simp[J5]at hs
  | some f =>
   cases e:I3 l σ (y :: r) b with
   | none=>rw[c,e]at hs;simp[J5]at hs
   | some g =>
    rw[IZ h c,S8 h e];rw[c,e]at hs;exact hs
theorem Ef (h:V9 σ σ') {l:Bool} {t:Ty} {x:AV} {d:t.den} (hs:IQ l σ t x=some d):IQ l σ' t x=some d:=by
 unfold IQ at hs ⊢;split at hs
 .exact S8 h hs
 exact IZ h hs
def x8 (σ σ':St) (xs:List Operand):Prop:=∀x∈xs,∀v,Ae σ x=some v->Ae σ' x=some v
theorem Mv (h:V9 σ σ') {e:Ty} {x:AV} {d:List e.den} (hs:K5 σ e x=some d):K5 σ' e x=some d:=by
 unfold K5 at hs ⊢;split at hs
 .rename_i n b lo hi;cases a:lk n σ.objs with
  | none =>
   rw[a]at hs;have hs:EU true σ (.slice e) (.sr n b lo hi)=some d:=by simpa[Ci,IQ] using hs
   simp only[EU,a]at hs;split at hs<;>simp[Lk]at hs
  | some o =>
   rw[h n o a];rw[a]at hs;split at hs
   .cases hs
   grind [Ef]
 exact Ef h hs
theorem Qg (h:V9 σ σ') {l:Bool}:∀ {ts:List Ty} {xs:List Operand} {ds:H4 ts},x8 σ σ' xs->Fb l σ ts xs=some ds->Fb l σ' ts xs=some ds
 | [],[],ds,_,hs=>hs
 | [],_ :: _,ds,_,hs=>by simp[Fb]at hs
 | _ :: _,[],ds,_,hs=>by simp[Fb]at hs
 | t :: ts,x :: xs,ds,b,hs=>by
  simp only[Fb]at hs ⊢;cases a:Ae σ x with
  | none=>rw[a]at hs;cases hs
  | some v =>
   rw[b x sa v a];rw[a]at hs;simp only at hs ⊢;split at hs
   .rename_i y ys c d;rw[Ef h c,Qg h (λz e=>b z (by simp[e])) d];exact hs
   cases hs
theorem O9 (h:V9 σ σ') {e:Ty}:∀ {parts:List (Nat×Operand)} {k:Nat} {xs:List e.den},x8 σ σ' (parts.map (·.2))->EW σ e k parts=some xs->EW σ' e k parts=some xs
 | [],k,xs,_,hs=>hs
 | (i,x) :: r,k,xs,b,hs=>by
  simp only[EW]at hs ⊢;split at hs
  .rename_i d;rw[At d];cases a:Ae σ x with
   | none=>rw[a]at hs;cases hs
   | some v =>
    rw[b x sa v a];rw[a]at hs;simp only at hs ⊢;split at hs
    .rename_i y ys f g;rw[Ef h f,O9 h (λz c=>b z (by simp at c ⊢;exact .inr c)) g];exact hs
    cases hs
  cases hs
theorem We (h:V9 σ σ') {z:Option AV} {x:Operand} {v:AV} (d:∀v,Ae σ x=some v->Ae σ' x=some v) (hs:FH σ z (Ae σ x)=some v):FH σ' z (Ae σ' x)=some v:=by
 cases b:Ae σ x with
 | none=>rw[b]at hs;unfold FH at hs;split at hs<;>simp at *
 | some a =>
  rw[d a b];rw[b]at hs;unfold FH at hs ⊢;split at hs
  .rename_i t _ l c;cases c;simp only[GO]at hs ⊢;grind [Ef]
  exact hs
theorem Mw (h:V9 σ σ') {offs:List (Nat×Nat)}:∀ {parts:List (Nat×Operand)} {fs a:List AV},x8 σ σ' (parts.map (·.2))->DV σ offs fs parts=some a->DV σ' offs fs parts=some a
 | [],fs,a,_,hs=>hs
 | (i,x) :: r,fs,a,c,hs=>by
  simp only[DV]at hs ⊢;cases b:FH σ fs[i]? (Ae σ x) with
  | none=>rw[b]at hs;cases hs
  | some v =>
   rw[We h (c x sa) b];rw[b]at hs;simp only at hs ⊢;split at hs
   .rename_i e;rw[At e];exact Mw h (λz d=>c z (by simp at d ⊢;exact .inr d)) hs
   cases hs
theorem Qh:∀ {xs:List Operand} {ns:List Nat},x8 σ σ' xs->Gz σ xs=some ns->Gz σ' xs=some ns
 | [],ns,_,hs=>hs
 | x :: r,ns,a,hs=>by
  simp only[Gz]at hs ⊢;split at hs
  .rename_i n e b c;rw[a x sa _ b,Qh (λz d=>a z (by simp[d])) c];exact hs
  cases hs
theorem Pu (h:V9 σ σ') {d:Nat} {op:Op} {r:Prop×AV×List (Nat×Obj)} (A:x8 σ σ' op.operands.toList) (hs:aq tb σ d op=some r):aq tb σ' d op=some r:=by
 have one:∀ {x:Operand} {f:Option AV->BU},x∈op.operands.toList->f none=none->f (Ae σ x)=some r->f (Ae σ' x)=some r:=by
  intro x f j E F;cases B:Ae σ x with
  | none=>rw[B,E]at F;cases F
  | some v=>rw[A x j v B,<-B];exact F
 have P:∀ {x y:Operand} {f:Option AV->Option AV->BU},x∈op.operands.toList->y∈op.operands.toList->(∀b,f none b=none)->(∀a,f a none=none)->f (Ae σ x) (Ae σ y)=some r->f (Ae σ' x) (Ae σ' y)=some r:=by
  intro x y f j G J K F;cases B:Ae σ x with
  | none=>rw[B,J]at F;cases F
  | some v =>
   cases N:Ae σ y with
   | none=>rw[N,K]at F;cases F
   | some w=>rw[A x j v B,A y G w N,<-B,<-N];exact F
 cases op<;>simp only[aq]at hs ⊢<;>try(cases hs;done)
 case move x=>exact one (f:=F4) (by simp[Op.operands]) rfl hs
 case assign x=>exact one (f:=F4) (by simp[Op.operands]) rfl hs
 case pick c x y =>
  cases I:Ae σ c with
  | none=>rw[I]at hs;simp[Jn]at hs
  | some ai =>
   have aj:=A c (by simp[Op.operands]) ai I;rw[I]at hs;rw[aj];unfold Jn at hs ⊢;split at hs
   .rename_i H;cases H;exact one (f:=F4) (by simp[Op.operands]) rfl hs
   .rename_i H;cases H;exact one (f:=F4) (by simp[Op.operands]) rfl hs
   cases hs
 case alloc t=>exact hs
 case box t x=>exact one (f:=Pe d t (lk t tb.ty)) (by simp[Op.operands]) (by cases lk t tb.ty<;>simp[Pe]) hs
 case build t parts =>
  unfold H6 at hs ⊢;split at hs
  .rename_i u offs el b H;cases hp:DV σ offs (Pd (p9 d tb.pure) u) parts.toList with
   | none=>rw[hp]at hs;simp[F4]at hs
   | some fs =>
    rw[Mw h (by simpa[Op.operands] using A) hp];rw[hp]at hs;exact hs
  cases hs
 case buildSlice t n parts =>
  cases ab:lk d tb.nests with
  | some ba =>
   rw[ab]at hs;simp only[Fx]at hs ⊢;unfold H8 at hs ⊢;split at hs
   .rename_i x bc offs el b hp H;cases j:Ae σ x with
    | none=>rw[j]at hs;unfold H7 at hs;split at hs<;>first|(cases hs;done)|(rename_i K;cases K)
    | some av =>
     rw[A x (by simp[Op.operands,hp]) av j];rw[j]at hs;unfold H7 at hs ⊢;split at hs
     .rename_i k e bd be ay;unfold I5 at hs;split at hs
      .rename_i a0 W;rw[IZ h W];exact hs
      .rename_i a0 ax l W;split at hs
       .rename_i Y;rw[IZ h W];simp only[I5,Y,AAH];exact hs
       cases hs
      cases hs
     cases hs
   cases hs
  | none =>
  rw[ab]at hs;simp only[Fx]at hs ⊢;unfold Bd at hs ⊢;split at hs
  .rename_i e offs el b H;cases hp:EW σ e 0 parts.toList with
   | none=>rw[hp]at hs;simp[Bj]at hs
   | some xs =>
    rw[O9 h (by simpa[Op.operands] using A) hp];rw[hp]at hs;exact hs
  cases hs
 case load t x =>
  cases j:Ae σ x with
  | none=>rw[j]at hs;simp[IR]at hs
  | some v =>
   rw[A x (by simp[Op.operands]) v j];rw[j]at hs;unfold IR at hs ⊢;split at hs
   .rename_i ti n au off T L;cases E:lk n σ.objs with
    | none=>rw[E]at hs;simp[DW]at hs
    | some o=>rw[h n o E,<-E];exact hs
   .rename_i ti n e i au off T L;cases E:lk n σ.objs with
    | none=>rw[E]at hs;simp[DX]at hs
    | some o=>rw[h n o E,<-E];exact hs
   .exact hs
   cases hs
 case nilCheck x=>exact one (f:=QH) (by simp[Op.operands]) (by simp[QH]) hs
 case binOp op t x y bb=>exact P (f:=Nq op (lk t tb.ty)) (by simp[Op.operands]) (by simp[Op.operands]) (λb=>by simp[Nq]) (λa=>by cases a<;>simp[Nq]) hs
 case unOp op t x=>exact one (f:=jR op) (by simp[Op.operands]) (by cases op<;>simp[jR]) hs
 case convert s t x=>exact one (f:=IT (lk s tb.ty) (lk t tb.ty)) (by simp[Op.operands]) (by cases lk s tb.ty<;>cases lk t tb.ty<;>simp[IT]) hs
 case makeSlice t l c=>exact P (f:=Hc tb d (lk t tb.ty)) (by simp[Op.operands]) (by simp[Op.operands]) (λb=>by cases lk t tb.ty<;>simp[Hc]) (λa=>by cases lk t tb.ty<;>simp[Hc]) hs
 case slice t x lo hi ar =>
  cases ar with
  | some m =>
   cases lo with
   | some _=>cases hi<;>simp[aq]at hs
   | none =>
    cases hi with
    | none=>simp[aq]at hs
    | some J =>
     simp only[aq]at hs ⊢;cases j:Ae σ x with
     | none=>rw[j]at hs;cases C:lk t tb.ty<;>rw[C]at hs<;>simp[DY]at hs
     | some v =>
      cases U:Ae σ J with
      | none=>rw[j,U]at hs;cases C:lk t tb.ty<;>rw[C]at hs<;>simp[DY]at hs
      | some B =>
       cases M:Ae σ m with
       | none=>rw[j,U,M]at hs;cases C:lk t tb.ty<;>rw[C]at hs<;>simp[DY]at hs
       | some ap =>
        rw[A x (by simp[Op.operands]) v j,A J (by simp[Op.operands]) B U,A m (by simp[Op.operands]) ap M];rw[j,U,M]at hs;exact hs
  | none =>
   simp only[aq]at hs ⊢;have af:∀ {y:Option Operand},(∀z,y=some z->z∈(Op.slice t x lo hi none).operands.toList)->∀w,F2 σ y=some w->F2 σ' y=some w:=by
    intro y G w N;cases y with
    | none=>exact N
    | some z =>
     simp only[F2,GO]at N ⊢;obtain⟨v,B,rfl⟩:=N;exact⟨v,A z (G z rfl) v B,rfl⟩
   cases j:Ae σ x with
   | none=>rw[j]at hs;cases C:lk t tb.ty<;>rw[C]at hs<;>simp[Eq]at hs
   | some v =>
    cases J:F2 σ lo with
    | none=>rw[J]at hs;cases C:lk t tb.ty<;>rw[C]at hs<;>simp[Eq]at hs
    | some a =>
     cases K:F2 σ hi with
     | none=>rw[K]at hs;cases C:lk t tb.ty<;>rw[C]at hs<;>simp[Eq]at hs
     | some b =>
      rw[A x (by simp[Op.operands]) v j,af (by rintro z rfl;simp[Op.operands]) a J,af (by rintro z rfl;simp[Op.operands]) b K];rw[j,J,K]at hs;exact hs
 case fieldAddr s x f=>exact one (f:=GN f (lk s tb.ty)) (by simp[Op.operands]) (by cases lk s tb.ty<;>simp[GN]) hs
 case indexAddr t x i=>exact P (f:=FI (lk t tb.ty)) (by simp[Op.operands]) (by simp[Op.operands]) (λb=>by cases lk t tb.ty<;>simp[FI]) (λa=>by cases lk t tb.ty<;>simp[FI]) hs
 case index t x i=>exact P (f:=Dy (lk t tb.ty)) (by simp[Op.operands]) (by simp[Op.operands]) (λb=>by cases lk t tb.ty<;>simp[Dy]) (λa=>by cases lk t tb.ty<;>simp[Dy]) hs
 case extract x i=>exact one (f:=D3 i) (by simp[Op.operands]) (by simp[D3]) hs
 case makeFunc fn first ah =>
  unfold Ua at hs ⊢;split at hs
  .rename_i f F;split at hs;case isFalse=>cases hs
   rename_i am;cases I:Gz σ ah.toList with
   | none=>rw[I]at hs;simp[MX]at hs
   | some ns =>
    rw[At am,Qh (λz O=>A z (by simp[Op.operands]at O ⊢;exact .inr O)) I];rw[I]at hs;exact hs
  .rename_i f x F az;exact one (f:=UZ f) (by simp[Op.operands,F]) rfl hs
  cases hs
 case makeMap t res =>
  cases res with
  | some z=>exact one (f:=Dn tb d (lk t tb.ty)) (by simp[Op.operands]) (by simp[Dn]) hs
  | none=>simp only[aq]at hs ⊢;exact hs
 case lookup t x i ok =>
  cases j:Ae σ x with
  | none=>rw[j]at hs;simp[He]at hs
  | some xv =>
   cases hi:Ae σ i with
   | none=>rw[j,hi]at hs;simp[He]at hs
   | some ae =>
    rw[A x (by simp[Op.operands]) xv j,A i (by simp[Op.operands]) ae hi];rw[j,hi]at hs;unfold He at hs ⊢;split at hs
    .rename_i k e _ _ n z T L al;cases L;cases al;cases E:lk n σ.objs with
     | none=>rw[E]at hs;simp[G0]at hs
     | some o =>
      rw[E]at hs;rw[h n o E];unfold G0 at hs ⊢;split at hs
      .rename_i ao vt l A;cases A;split at hs
       .rename_i I;rw[At I];cases Z:IQ false σ ao ae with
        | none=>rw[Z]at hs;simp[I9]at hs
        | some kd=>rw[Ef h Z];rw[Z]at hs;exact hs
       cases hs
      cases hs
    cases hs
 case call c =>
  obtain⟨callee,args,argTypes⟩:=c;have D:∀x∈args.toList,x∈(Op.call ⟨callee,args,argTypes⟩).operands.toList:=λx j=>by
   have:x∈args:=by simpa using j
   cases callee<;>simp[Op.operands,Call.operands,this]
  cases callee with
  | invoke r m=>simp[DZ]at hs
  | value g =>
   simp only[DZ]at hs ⊢;cases Q:Ae σ g with
   | none=>rw[Q]at hs;simp[J7]at hs
   | some ak =>
    rw[A g (by simp[Op.operands,Call.operands]) ak Q];rw[Q]at hs;unfold J7 at hs ⊢;split at hs
    .rename_i f H;cases ad:lk f tb.fns with
     | none=>rw[ad]at hs;simp[IA]at hs
     | some ag =>
      rw[ad]at hs;simp only[IA]at hs ⊢;cases X:Fb ag.lend σ ag.ins args.toList with
      | none=>rw[X]at hs;simp[I8]at hs
      | some ds =>
       rw[Qg h (λx j=>A x (D x j)) X];rw[X]at hs;exact hs
    cases hs
  | builtin b =>
   simp only[DZ]at hs ⊢;obtain⟨args⟩:=args;obtain⟨argTypes⟩:=argTypes;simp only at hs D ⊢;unfold D5 at hs ⊢;split at hs
   .exact one (f:=Pf (lk _ tb.ty)) (D _ sa) (by cases lk _ tb.ty<;>simp[Pf]) hs
   .rename_i x y t u;cases j:Ae σ x with
    | none=>rw[j]at hs;simp[DI]at hs
    | some xv =>
     cases G:Ae σ y with
     | none=>rw[j,G]at hs;simp[DI]at hs
     | some S =>
      rw[A x (D _ sa) xv j,A y (D _ sa) S G];rw[j,G]at hs;unfold DI at hs ⊢;split at hs
      .split at hs
       .rename_i R;simp only[R,AAH];rename_i T L;cases L;rw[R]at hs;cases C:lk u tb.ty with
        | none=>rw[C]at hs;simp[D4]at hs
        | some ti =>
         rw[C]at hs;unfold D4 at hs ⊢;split at hs
         .rename_i e offs el b H;cases B:K5 σ e S with
          | none=>rw[B]at hs;cases aa:lk el tb.ty<;>rw[aa]at hs<;>simp[EZ]at hs
          | some ys =>
           rw[B]at hs;rw[Mv h B];exact hs
         cases hs
       cases hs
      .split at hs
       .rename_i R;simp only[R,AAH];rename_i T L;cases L;rw[R]at hs;cases C:lk u tb.ty with
        | none=>rw[C]at hs;simp[H9]at hs
        | some ti =>
         rw[C]at hs;unfold H9 at hs ⊢;split at hs
         .rename_i e offs el b H;split at hs
          .rename_i Y;simp only[Y,AAH];cases B:K5 σ _ S with
           | none=>rw[B]at hs;cases aa:lk el tb.ty<;>rw[aa]at hs<;>simp[I7]at hs
           | some ys =>
            rw[B]at hs;rw[Mv h B];exact hs
          cases hs
         cases hs
       cases hs
      cases hs
   .exact P (f:=Nr) (D _ sa) (D _ sa) (λb=>by simp[Nr]) (λa=>by cases a<;>simp[Nr]) hs
   .exact P (f:=Ns) (D _ sa) (D _ sa) (λb=>by simp[Ns]) (λa=>by cases a<;>simp[Ns]) hs
   .rename_i x y z t u t3;cases j:Ae σ x with
    | none=>rw[j]at hs;simp[Hd]at hs
    | some xv =>
     cases G:Ae σ y with
     | none=>rw[j,G]at hs;simp[Hd]at hs
     | some S =>
      cases O:Ae σ z with
      | none=>rw[j,G,O]at hs;simp[Hd]at hs
      | some aw =>
       rw[A x (D _ sa) xv j,A y (D _ sa) S G,A z (D _ sa) aw O,<-j,<-G,<-O];exact hs
   .rename_i ts x y z u r;have Q:∀(r:List Operand) (k:IntKind) (o:Option Int) (m:Int),(∀q∈r,∀v,Ae σ q=some v->Ae σ' q=some v)->E1 σ k o r=some m->E1 σ' k o r=some m:=by
     intro r;induction r with
     | nil=>intro k o m _ h;cases o<;>(simp[E1]at h;try exact p7 some h)
     | cons q r an =>
      intro k o m V h;cases o with
      | none=>simp[E1]at h
      | some a =>
       simp only[E1]at h ⊢;cases B:Ae σ q with
       | none=>rw[B]at h;cases r<;>simp[Lm,E1]at h
       | some v =>
        rw[B]at h;rw[V q sa v B];exact an k _ m (λp hp=>V p (by simp[hp])) h
    cases j:Ae σ x with
    | none=>rw[j]at hs;simp[Ln]at hs
    | some xv =>
     rw[j]at hs;rw[A x (D _ sa) xv j];unfold Ln at hs ⊢;split at hs
     .rename_i k a H;cases H;cases M:E1 σ k (some a) (y :: z :: u :: r) with
      | none=>rw[M]at hs;simp[MW]at hs
      | some m =>
       rw[M]at hs;rw[Q _ _ _ _ (λq V=>A q (D _ (AAp _ V))) M];exact hs
     cases hs
   cases hs
end
end
end Go.Proofs.YtaoonfcjbmcmpaaGreatDoor.Fw
