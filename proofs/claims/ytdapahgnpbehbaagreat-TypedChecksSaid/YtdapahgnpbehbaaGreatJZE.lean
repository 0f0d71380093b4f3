/- One operation, a sequence, loops, the entry and the end of a function: the rules. -/
/- One step; operations in the order of the text. -/
import Derived.Test.YtdapahgnpbehbaaGreatJZD
import Derived.Deep.LoopGhost
import Derived.ControlIn
set_option linter.unusedVariables false
set_option linter.unusedSimpArgs false
namespace Go.Proofs.YtdapahgnpbehbaaGreat.Fw
section
open Go Go.RowKit
structure Cx where
 P:Program
 tb:Tb
 w0:World
 K:Nat→Prop
 O0:Nat→Prop
 nt:Nat
 /-- the frame's deferred calls; names that stay -/
 ds:Fp:={}
 /-- the round's loop -/
 r:Option Nat:=none
structure Cx.Ok (c:Cx):Prop where
 K:∀b,c.K b→b<c.w0.heap.size
 O:∀b,c.O0 b→b<c.w0.heap.size
 T:DT c.P c.tb
 F:Lt c.P c.tb
def Cx.sat (c:Cx) (σ:St) (a:Act) (w:World):Prop:=∃ρ,Be c.w0 c.K c.O0 c.nt c.ds σ ρ a w
section
variable {c:Cx}
theorem qX (hc:c.Ok) {σ:St} {ρ:Nat→Value} {a:Act} {w:World} (h:Be c.w0 c.K c.O0 c.nt c.ds σ ρ a w):yM c.P c.tb w c.O0 σ ρ a where
 hT:=hc.T
 hF:=hc.F
 obj:=h.objs
 own:=by
  intro b hb
  rcases hb with h0|⟨n,⟨o,ho⟩,hb⟩
  ·exact Nat.lt_of_lt_of_le (hc.O b h0) h.frm.size
  ·exact(h.objs n o ho).block_lt hb
 ev:=Df h.env
theorem lM (hc:c.Ok) {σ σ':St} {ρ:Nat→Value} {a:Act} {w:World} (hs:Be c.w0 c.K c.O0 c.nt c.ds σ ρ a w) {o:Oper} {vc:Prop} (h:EL c.tb σ o.dst o.op=some (vc,σ')) (hvc:vc) (hd:∀d,o.dst=some d→d<c.nt)
  {next:Act→World→Prop} {Q:Exit→Act→World→Prop} (hn:∀a' w',c.sat σ' a' w'→next a' w'):o.wpIn (FR c.r) 0 c.P a w next Q:=by
 obtain⟨dst,op,type,pos,after,guard⟩:=o
 simp only at h hd
 cases op<;>simp only[EL]at h<;>try(cases h;done)
 case store t x y =>
  cases dst with
  | some d=>simp[Cj]at h
  | none =>
   simp only[Cj]at h
   obtain⟨w',ρ',h1,h2⟩:=YT (P:=c.P) hs hc.K hc.O hc.T h hvc
   exact Z0 (w':=w') (by simp[execOp,h1]) (hn _ _ ⟨ρ',h2⟩)
 case mapUpdate t m x y =>
  cases dst with
  | some d=>simp[Cj]at h
  | none =>
   simp only[Cj]at h
   obtain⟨w',h1,h2⟩:=gR (P:=c.P) hs hc.K hc.T h
   exact Z0 (w':=w') (by simp[execOp,h1]) (hn _ _ ⟨ρ,h2⟩)
 case call cl =>
  obtain⟨callee,args,argTypes⟩:=cl
  cases callee with
  | value g=>simp[CL]at h
  | invoke r m=>simp[CL]at h
  | builtin b =>
   simp only[CL]at h
   obtain⟨args⟩:=args
   obtain⟨argTypes⟩:=argTypes
   simp only at h
   unfold CQ at h
   split at h
   ·rename_i x y t u
    obtain⟨z,w',ρ',h1,h2⟩:=YS (P:=c.P) (ty:=type) hs hc.K hc.O hc.T hd h hvc
    exact Ai (u:=z) (w':=w') (by simp[execOp,resolve,invoke,builtin,h1]) (hn _ _ ⟨ρ',h2⟩)
   ·cases h
theorem M3 (hc:c.Ok) {σ σ':St} {a:Act} {w:World} (hs:c.sat σ a w) {o:Oper} {vc:Prop} (h:Eh c.tb o σ=some (vc,σ')) (hvc:vc) (hd:∀d,o.dst=some d→d<c.nt)
  {next:Act→World→Prop} {Q:Exit→Act→World→Prop} (hn:∀a' w',c.sat σ' a' w'→next a' w'):o.wpIn (FR c.r) 0 c.P a w next Q:=by
 obtain⟨ρ,hs⟩:=hs
 have hs:=JZ (l:=Bm σ o.op) hs
 unfold Eh KA at h
 generalize CA (Bm σ o.op) σ=σ1 at h hs
 cases hq:aq c.tb σ1 (o.dst.getD 0) o.op with
 | some r =>
  obtain⟨vc',v,obs⟩:=r
  rw[hq]at h
  simp only[Hb]at h
  split at h
  ·rename_i hf
   cases h
   exact Zx (qX hc hs) hq hvc hf fun u ρ' w' hqs=>hn _ _ ⟨ρ',hs.add hc.K hc.O hd hf hqs⟩
  ·cases h
 | none =>
  rw[hq]at h
  exact lM hc hs h hvc hd hn
theorem HK {ops:Array Oper} {σ:St} {a:Act} {w:World} (hs:c.sat σ a w) {o:Oper} {b:Bool} (h:DK ops.toList σ o.guard=some b):Region.wanted o (yielded ops a.tmps)=b:=by
 obtain⟨ρ,hs⟩:=hs
 unfold DK at h
 split at h
 ·rename_i hg
  cases h
  simp[Region.wanted,hg]
 ·rename_i j want hg
  cases hj:(ops.toList[j]?).bind (·.dst) with
  | none=>rw[hj]at h;simp[Gn]at h
  | some g =>
   rw[hj]at h
   simp only[Gn]at h
   cases hl:lk g σ.env with
   | none=>rw[hl]at h;simp[Nv]at h
   | some v =>
    rw[hl]at h
    unfold Nv at h
    split at h
    ·rename_i bb he
     cases he
     cases h
     have hv:=hs.env g _ hl
     have hv:=D6 hv
     have hj':(ops[j]?).bind (·.dst)=some g:=by simpa using hj
     have hget:a.tmps[g]?=some (.bool bb):=by
      by_cases hlt:g<a.tmps.size
      ·have:a.tmps.getD g undef=a.tmps[g]:=by simp[Array.getD,hlt]
       rw[this]at hv
       rw[Array.getElem?_eq_getElem hlt,hv]
      ·have:a.tmps.getD g undef=undef:=by simp[Array.getD,hlt]
       rw[this]at hv
       cases hv
     simp only[Region.wanted,hg,yielded,hj',Option.bind_some,hget]
     cases bb<;>cases want<;>rfl
    ·cases h
theorem LL {σ:St} {a:Act} {w:World} (hc:c.Ok) (hs:c.sat σ a w) {dst:Option Nat} (hd:∀d,dst=some d→d<c.nt):c.sat (σ.add (.raw undef) [] dst) (a.put dst undef) w:=by
 obtain⟨ρ,hs⟩:=hs
 exact⟨ρ,hs.add hc.K hc.O hd (by simp[BJ]) (QS.still rfl)⟩
def IK (nt:Nat) (o:Oper):Bool :=
 match o.dst with
 | some d=>decide (d<nt)
 | none=>true
theorem Bh {nt:Nat} {o:Oper} (h:IK nt o=true):∀d,o.dst=some d→d<nt:=by
 intro d hd
 simpa[IK,hd] using h
theorem OB (hc:c.Ok) {ops:Array Oper} {Q:Exit→Act→World→Prop} {r:List Oper}:∀(l:List Oper) {σ σ':St} {vc:Prop} {a:Act} {w:World},c.sat σ a w→(∀o∈l,IK c.nt o=true)→BX c.tb ops.toList l σ=some (vc,σ')→vc →
  (∀a' w',c.sat σ' a' w'→wpListIn (FR c.r) 0 c.P ops Q r a' w')→wpListIn (FR c.r) 0 c.P ops Q (l++r) a w
 | [],σ,σ',vc,a,w,hs,hd,h,hvc,hQ=>by
  simp only[BX]at h
  cases h
  exact hQ _ _ hs
 | o :: l,σ,σ',vc,a,w,hs,hd,h,hvc,hQ=>by
  simp only[BX]at h
  cases hg:DK ops.toList σ o.guard with
  | none=>rw[hg]at h;simp[evG]at h
  | some b =>
   rw[hg]at h
   have hw:=HK hs hg
   have hdo:=Bh (hd o (by simp))
   rw[List.cons_append]
   unfold wpListIn
   cases b with
   | true =>
    simp only[evG]at h
    rw[if_pos hw]
    cases hst:Eh c.tb o σ with
    | none=>rw[hst]at h;simp[evK]at h
    | some r =>
     obtain⟨vc1,σ1⟩:=r
     rw[hst]at h
     simp only[evK]at h
     cases hr:BX c.tb ops.toList l σ1 with
     | none=>rw[hr]at h;simp[Pw]at h
     | some r2 =>
      obtain⟨vc2,σ2⟩:=r2
      rw[hr]at h
      simp only[Pw]at h
      cases h
      exact M3 hc hs hst hvc.1 hdo fun a' w' hs'=>OB hc l hs' (fun o' ho'=>hd o' (by simp[ho'])) hr hvc.2 hQ
   | false =>
    simp only[evG]at h
    rw[if_neg (by simp[hw])]
    refine⟨fun _ _=>trivial,?_⟩
    exact OB hc l (LL hc hs hdo) (fun o' ho'=>hd o' (by simp[ho'])) h hvc hQ
theorem M4 (hc:c.Ok) {ops:Array Oper} {Q:Exit→Act→World→Prop}:∀(l:List Oper) {σ σ':St} {vc:Prop} {a:Act} {w:World},c.sat σ a w→(∀o∈l,IK c.nt o=true)→BX c.tb ops.toList l σ=some (vc,σ')→vc →
  (∀a' w',c.sat σ' a' w'→Q .normal a' w')→wpListIn (FR c.r) 0 c.P ops Q l a w
 | [],σ,σ',vc,a,w,hs,hd,h,hvc,hQ=>by
  simp only[BX]at h
  cases h
  exact hQ _ _ hs
 | o :: l,σ,σ',vc,a,w,hs,hd,h,hvc,hQ=>by
  simp only[BX]at h
  cases hg:DK ops.toList σ o.guard with
  | none=>rw[hg]at h;simp[evG]at h
  | some b =>
   rw[hg]at h
   have hw:=HK hs hg
   have hdo:=Bh (hd o (by simp))
   unfold wpListIn
   cases b with
   | true =>
    simp only[evG]at h
    rw[if_pos hw]
    cases hst:Eh c.tb o σ with
    | none=>rw[hst]at h;simp[evK]at h
    | some r =>
     obtain⟨vc1,σ1⟩:=r
     rw[hst]at h
     simp only[evK]at h
     cases hr:BX c.tb ops.toList l σ1 with
     | none=>rw[hr]at h;simp[Pw]at h
     | some r2 =>
      obtain⟨vc2,σ2⟩:=r2
      rw[hr]at h
      simp only[Pw]at h
      cases h
      exact M3 hc hs hst hvc.1 hdo fun a' w' hs'=>M4 hc l hs' (fun o' ho'=>hd o' (by simp[ho'])) hr hvc.2 hQ
   | false =>
    simp only[evG]at h
    rw[if_neg (by simp[hw])]
    refine⟨fun _ _=>trivial,?_⟩
    exact M4 hc l (LL hc hs hdo) (fun o' ho'=>hd o' (by simp[ho'])) h hvc hQ
end
end
/- The executor on code: what is still to do is a list; loops stop it. -/
section
open Go Go.RowKit
inductive DU where
 | seq (c:Code)
 | blk (id:Nat)
 /-- a round's end -/
 | inv (post:St→Prop)
def CC (nt:Nat):Code→Bool
 | .region _ ops _=>ops.toList.all (IK nt)
 | .seq a b=>CC nt a&&CC nt b
 | .cond _ a b=>CC nt a&&CC nt b
 | .block _ b=>CC nt b
 | .loop b=>CC nt b
 | .scope b=>CC nt b
 | _=>true
def Ck (nt:Nat):List DU→Bool
 | []=>true
 | .seq c :: k=>CC nt c&&Ck nt k
 | _ :: k=>Ck nt k
def Q0 (c:Cx) (R:Exit→Act→World→Prop):List DU→Exit→Act→World→Prop
 | [],e,a,w=>R e a w
 | .seq y :: k,.normal,a,w=>y.wpIn (FR c.r) 0 c.P (Q0 c R k) a w
 | .seq _ :: k,e,a,w=>Q0 c R k e a w
 | .blk id :: k,.exit id',a,w=>if id'=id then Q0 c R k .normal a w else Q0 c R k (.exit id') a w
 | .blk _ :: k,e,a,w=>Q0 c R k e a w
 | .inv post :: _,.normal,a,w=>∃σ,c.sat σ a w∧post σ
 | .inv _ :: k,e,a,w=>Q0 c R k e a w
inductive Z3 where
 | run (cd:Code)
 | out (e:Exit)
def nwp (c:Cx) (R:Exit→Act→World→Prop) (k:List DU):Z3→Act→World→Prop
 | .run cd,a,w=>cd.wpIn (FR c.r) 0 c.P (Q0 c R k) a w
 | .out e,a,w=>Q0 c R k e a w
def IL (nt:Nat):Z3→Bool
 | .run cd=>CC nt cd
 | .out _=>true
def Ev (c:Cx) (R:Exit→Act→World→Prop) (n:Z3) (k:List DU) (σ:St):Prop :=
 IL c.nt n=true→Ck c.nt k=true→∀a w,c.sat σ a w→nwp c R k n a w
theorem Py {F:Fence} {rm:Nat} {P:Program} {Q:Exit→Act→World→Prop} {a:Act} {w:World} {c:Code} (I:Nat→Act→World→Prop) (n₀:Nat) (h₀:I n₀ a w)
  (round:∀n a w,I n a w→c.wpIn F rm P (Exit.then (fun a' w'=>∃n',n'<n∧I n' a' w') Q) a w):(Code.loop c).wpIn F rm P Q a w:=by
 refine wpIn_loop (fun a w=>∃n,I n a w) (fun a w=>leastOf (fun n=>I n a w)) ⟨n₀,h₀⟩ ?_
 intro a w hI
 refine wpIn_mono (round _ a w (leastOf_spec hI).1) ?_
 intro e a' w' hq
 cases e with
 | normal =>
  obtain⟨n',hlt,hI'⟩:=hq
  exact show (∃n,I n a' w')∧leastOf (fun n=>I n a' w')<leastOf (fun n=>I n a w) from ⟨⟨n',hI'⟩,Nat.lt_of_le_of_lt ((leastOf_spec ⟨n',hI'⟩).2 n' hI') hlt⟩
 | exit id=>exact hq
 | goto l=>exact hq
 | ret=>exact hq
 | panic ch=>exact hq
 | outgrown=>exact hq
def pZ (c:Cx) (σ σ':St):Prop:=∀a w,c.sat σ a w→c.sat σ' a w
section
variable {c:Cx} {R:Exit→Act→World→Prop} {k:List DU} {σ σ':St}
theorem Ev.ent {n:Z3} (h:Ev c R n k σ') (he:pZ c σ σ'):Ev c R n k σ:=fun h1 h2 a w hs=>h h1 h2 a w (he a w hs)
theorem w6 {x y:Code} (h:Ev c R (.run x) (.seq y :: k) σ):Ev c R (.run (.seq x y)) k σ:=by
 intro h1 h2 a w hs
 simp only[IL,CC,Bool.and_eq_true]at h1
 refine wpIn_seq (wpIn_mono (h h1.1 (by simp[Ck,h1.2,h2]) a w hs) ?_)
 intro e a' w' hq
 cases e<;>exact hq
theorem Z4 (h:Ev c R (.out .normal) k σ):Ev c R (.run .skip) k σ:=fun _ h2 a w hs=>wpIn_skip (h rfl h2 a w hs)
theorem w7 (h:Ev c R (.out .ret) k σ):Ev c R (.run .ret) k σ:=fun _ h2 a w hs=>wpIn_ret (h rfl h2 a w hs)
theorem qY {id:Nat} (h:Ev c R (.out (.exit id)) k σ):Ev c R (.run (.exit id)) k σ:=fun _ h2 a w hs=>wpIn_exit (h rfl h2 a w hs)
theorem lN {id:Nat} {b:Code} (h:Ev c R (.run b) (.blk id :: k) σ):Ev c R (.run (.block id b)) k σ:=by
 intro h1 h2 a w hs
 refine wpIn_block (wpIn_mono (h (by simpa[IL,CC] using h1) (by simpa[Ck] using h2) a w hs) ?_)
 intro e a' w' hq
 cases e<;>exact hq
def EvR (c:Cx) (R:Exit→Act→World→Prop) (k:List DU):Cn→Prop
 | some (vc,σ)=>vc∧Ev c R (.out .normal) k σ
 | none=>False
theorem gS (hc:c.Ok) {id:Nat} {ops:Array Oper} (h:EvR c R k (BX c.tb ops.toList ops.toList σ)):Ev c R (.run (.region id ops false)) k σ:=by
 intro h1 h2 a w hs
 cases hr:BX c.tb ops.toList ops.toList σ with
 | none=>rw[hr]at h;exact h.elim
 | some r =>
  obtain⟨vc,σ'⟩:=r
  rw[hr]at h
  simp only[IL,CC,List.all_eq_true]at h1
  exact wpIn_region_list (M4 hc ops.toList hs h1 hr h.1 fun a' w' hs'=>h.2 rfl h2 a' w' hs')
def EvC (c:Cx) (R:Exit→Act→World→Prop) (x y:Code) (k:List DU) (σ:St):Option AV→Prop
 | some (.p .bool b)=>(b=true→Ev c R (.run x) k σ)∧(b=false→Ev c R (.run y) k σ)
 | _=>False
theorem qZ {o:Operand} {x y:Code} (h:EvC c R x y k σ (Ae σ o)):Ev c R (.run (.cond o x y)) k σ:=by
 intro h1 h2 a w hs
 simp only[IL,CC,Bool.and_eq_true]at h1
 obtain⟨ρ,hs'⟩:=hs
 have hev:=Df hs'.env
 cases ho:Ae σ o with
 | none=>rw[ho]at h;exact h.elim
 | some v =>
  have hv:=hev o v ho
  rw[ho]at h
  unfold EvC at h
  split at h
  ·rename_i b he
   cases he
   have hb:=D6 hv
   exact wpIn_cond_split hb (fun hb=>h.1 hb h1.1 h2 a w ⟨ρ,hs'⟩) (fun hb=>h.2 hb h1.2 h2 a w ⟨ρ,hs'⟩)
  ·exact h.elim
theorem He {y:Code} (h:Ev c R (.run y) k σ):Ev c R (.out .normal) (.seq y :: k) σ:=by
 intro _ h2 a w hs
 simp only[Ck,Bool.and_eq_true]at h2
 exact h h2.1 h2.2 a w hs
theorem WJ {id:Nat} {y:Code} (h:Ev c R (.out (.exit id)) k σ):Ev c R (.out (.exit id)) (.seq y :: k) σ:=by
 intro _ h2 a w hs
 simp only[Ck,Bool.and_eq_true]at h2
 exact h rfl h2.2 a w hs
theorem YU {y:Code} (h:Ev c R (.out .ret) k σ):Ev c R (.out .ret) (.seq y :: k) σ:=by
 intro _ h2 a w hs
 simp only[Ck,Bool.and_eq_true]at h2
 exact h rfl h2.2 a w hs
theorem YV {id:Nat} (h:Ev c R (.out .normal) k σ):Ev c R (.out .normal) (.blk id :: k) σ:=fun _ h2 a w hs=>h rfl (by simpa[Ck] using h2) a w hs
theorem PM {id id':Nat} (h:if id'=id then Ev c R (.out .normal) k σ else Ev c R (.out (.exit id')) k σ):Ev c R (.out (.exit id')) (.blk id :: k) σ:=by
 intro _ h2 a w hs
 have h2:Ck c.nt k=true:=by simpa[Ck] using h2
 show (if id'=id then Q0 c R k .normal a w else Q0 c R k (.exit id') a w)
 split at h
 ·rename_i he;rw[if_pos he];exact h rfl h2 a w hs
 ·rename_i he;rw[if_neg he];exact h rfl h2 a w hs
theorem YW {id:Nat} (h:Ev c R (.out .ret) k σ):Ev c R (.out .ret) (.blk id :: k) σ:=fun _ h2 a w hs=>h rfl (by simpa[Ck] using h2) a w hs
theorem AB {post:St→Prop} (h:post σ):Ev c R (.out .normal) (.inv post :: k) σ:=fun _ _ _ _ hs=>⟨σ,hs,h⟩
theorem WK {id:Nat} {post:St→Prop} (h:Ev c R (.out (.exit id)) k σ):Ev c R (.out (.exit id)) (.inv post :: k) σ:=fun _ h2 a w hs=>h rfl (by simpa[Ck] using h2) a w hs
theorem YX {post:St→Prop} (h:Ev c R (.out .ret) k σ):Ev c R (.out .ret) (.inv post :: k) σ:=fun _ h2 a w hs=>h rfl (by simpa[Ck] using h2) a w hs
def yN (c:Cx) {ι:Type} (I:ι→St) (μ:ι→Nat) (i:ι) (σ:St):Prop:=∃j,μ j<μ i∧pZ c σ (I j)
theorem AJ {ι:Type} (I:ι→St) (μ:ι→Nat) (i0:ι) {b:Code} (h0:pZ c σ (I i0)) (hb:∀i,Ev c R (.run b) (.inv (yN c I μ i) :: k) (I i)):Ev c R (.run (.loop b)) k σ:=by
 intro h1 h2 a w hs
 have h1:CC c.nt b=true:=by simpa[IL,CC] using h1
 refine Py (fun n a w=>∃i,μ i=n∧c.sat (I i) a w) (μ i0) ⟨i0,rfl,h0 a w hs⟩ ?_
 rintro n a w ⟨i,rfl,hs⟩
 refine wpIn_mono (hb i h1 (by simpa[Ck] using h2) a w hs) ?_
 intro e a' w' hq
 cases e with
 | normal =>
  obtain⟨σ',hs',j,hj,he⟩:=hq
  exact⟨μ j,hj,j,rfl,he a' w' hs'⟩
 | _=>exact hq
theorem M5 {ι:Type} (J:ι→St) {x y:Code} (h:Ev c R (.run x) (.inv (fun σ'=>∃i,pZ c σ' (J i)) :: .seq y :: k) σ) (hy:∀i,Ev c R (.run y) k (J i)):Ev c R (.run (.seq x y)) k σ:=by
 intro h1 h2 a w hs
 simp only[IL,CC,Bool.and_eq_true]at h1
 refine wpIn_seq (wpIn_mono (h h1.1 (by simp[Ck,h1.2,h2]) a w hs) ?_)
 intro e a' w' hq
 cases e with
 | normal =>
  obtain⟨σ',hs',i,he⟩:=hq
  exact hy i h1.2 h2 a' w' (he a' w' hs')
 | _=>exact hq
end
end
/- A call: how it begins and how it ends. -/
section
open Go Go.RowKit
def AM:Nat→(ts:List Ty)→KU ts→List (Nat×AV)
 | _,[],_=>[]
 | s,t :: ts,d=>(s,.p t d.1) :: AM (s+1) ts d.2
def Ja (σ:St) (ty:Ty):Option AV→Option AV
 | some (.bp n path off)=>match DM ty path off (lk n σ.objs) with
  | some (_,v,_)=>some v
  | none=>none
 | _=>none
def Hf (tb:Tb) (σ:St):ResultVar→Option AV
 | .tmp t=>lk t σ.env
 | .cell a t=>match lk t tb.ty with
  | some ti=>Ja σ ti.ty (lk a σ.env)
  | none=>none
def LM:Option AV→List Nat
 | some v=>v.names
 | none=>[]
def Ih (σ:St) (t:Ty):Option AV→Option t.den
 | some v=>Iz false σ t v
 | none=>none
def GX (σ:St) (et:TypeId) (e:Ty):Option Obj→Option (List e.den)
 | some (.arr et' e' xs)=>if et'=et then BH (.slice e) ⟨.slice e',xs⟩ else none
 | _=>none
def IM (tb:Tb) (σ:St) (rv:ResultVar):RV→Prop
 | .p t d=>Ih (CA (LM (Hf tb σ rv)) σ) t (Hf tb (CA (LM (Hf tb σ rv)) σ) rv)=some d
 | .own et e xs=>match Hf tb σ rv with
  | some (.sr n e' 0 hi)=>e'=e∧GX σ et e (lk n σ.objs)=some xs∧hi=xs.length
  | _=>False
def M6 (tb:Tb) (σ:St):List ResultVar→List RV→Prop
 | [],[]=>True
 | [rv],[r]=>IM tb σ rv r
 | rv :: rvs,.p t d :: rs=>IM tb σ rv (.p t d)∧M6 tb σ rvs rs
 | _,_=>False
section
variable {P:Program} {tb:Tb} {w0:World} {O0:Nat→Prop} {nt:Nat} {ds:Fp}
def cx (P:Program) (tb:Tb) (w0:World) (O0:Nat→Prop) (nt:Nat):Cx:={ P:=P,tb:=tb,w0:=w0,K:=fun b=>b<w0.heap.size,O0:=O0,nt:=nt }
theorem TH:∀(ts:List Ty) (vs:List Value) (ds:KU ts) (k:Nat) (w:World) (O:Nat→Prop),O6 w O ts vs ds→∀s v,lk s (AM k ts ds)=some v→k≤s∧∃u,vs[s-k]?=some u∧∃t d,v=.p t d∧BR w O t u d
 | [],vs,ds,k,w,O,h,s,v,hs=>by simp[AM,lk]at hs
 | t :: ts,vs,ds,k,w,O,h,s,v,hs=>by
  obtain⟨u,r,rfl,h1,h2⟩:=h
  simp only[AM,lk]at hs
  split at hs
  ·rename_i e
   cases hs
   subst e
   exact⟨Nat.le_refl _,u,by simp,t,ds.1,rfl,h1⟩
  ·obtain⟨h3,u',h4,h5⟩:=TH ts r ds.2 (k+1) w O h2 s v hs
   refine⟨by omega,u',?_,h5⟩
   rw[show s-k=(s-(k+1))+1 by omega]
   simpa using h4
theorem PN:∀ {ts:List Ty} {vs:List Value} {ds:KU ts} {w:World} {O:Nat→Prop},O6 w O ts vs ds→vs.length=ts.length
 | [],vs,ds,w,O,h=>by have h:vs=[]:=h;subst h;rfl
 | t :: ts,vs,ds,w,O,h=>by
  obtain⟨u,r,rfl,h1,h2⟩:=h
  simp[PN h2]
theorem gT {ts:List Ty} {vs:List Value} {ds:KU ts} (h:O6 w0 O0 ts vs ds) (hnt:vs.length≤nt) :
  (cx P tb w0 O0 nt).sat ⟨AM 0 ts ds,[]⟩ { tmps:=vs.toArray++Array.replicate (nt-vs.toArray.size) undef,defers:=[] } w0:=by
 refine⟨fun _=>undef,⟨rfl,rfl,rfl,Nat.le_refl _,fun _ _=>rfl⟩,by simp[cx];omega,rfl,(fun p hp=>by simp[cx]at hp),fun n o h=>by simp[lk]at h,fun n b ⟨o,h⟩=>by simp[lk]at h,fun n m b ⟨o,h⟩=>by simp[lk]at h,fun s v hs=>?_⟩
 obtain⟨_,u,h1,t,d,rfl,h2⟩:=TH ts vs ds 0 w0 O0 h s v hs
 have hlt:s<vs.length:=by
  have:=(List.getElem?_eq_some_iff.1 h1).1
  simpa using this
 have hget:(vs.toArray++Array.replicate (nt-vs.toArray.size) undef).getD s undef=u:=by
  have h1:vs[s]?=some u:=by simpa using h1
  have:vs[s]=u:=by rw[List.getElem?_eq_getElem hlt]at h1;injection h1
  simp[Array.getElem?_append,hlt,this]
 rw[hget]
 refine BR.mono (fun b _ hb hb'=>?_) (fun _ _ _=>rfl) h2
 rcases hb' with h0|⟨n,⟨o,ho⟩,_⟩
 ·exact hb h0
 ·simp[lk]at ho
def I9 (tmps:Array Value):ResultVar→Sem Value
 | .tmp t=>pure (tmps.getD t undef)
 | .cell a t=>do loadVar t (←asAddr (tmps.getD a undef))
theorem MF (fn:Func) (tmps:Array Value):results fn tmps=(do let vs ←fn.results.mapM (I9 tmps);pure (if h:vs.size=1 then vs[0] else .tuple vs)):=by
 unfold results
 congr 1
theorem QN (hT:DT P tb) {K:Nat→Prop} {σ:St} {ρ:Nat→Value} {a:Act} {w:World} (hs:Be w0 K O0 nt ds σ ρ a w) {rv:ResultVar} {v:AV} (h:Hf tb σ rv=some v) :
  ∃u,(I9 a.tmps rv).run P w=.ok u w∧Bp (vw w O0 σ ρ) v u:=by
 cases rv with
 | tmp t =>
  simp only[Hf]at h
  exact⟨_,by simp[I9],hs.env t v h⟩
 | cell x t =>
  simp only[Hf]at h
  cases ht:lk t tb.ty with
  | none=>rw[ht]at h;simp at h
  | some ti =>
   rw[ht]at h
   simp only at h
   cases hx:lk x σ.env with
   | none=>rw[hx]at h;simp[Ja]at h
   | some xv =>
    rw[hx]at h
    unfold Ja at h
    split at h
    ·rename_i n path off he
     cases he
     have hxv:=hs.env x _ hx
     split at h
     ·rename_i vc v' obs hq
      cases h
      have hq':G2 σ (some ti) (some (.bp n path off))=some (vc,v,obs):=hq
      obtain⟨_,u,h1,h2⟩:=k5 (hT _ _ ht) hs.objs hq' hxv
      obtain⟨hL,b,_,hxe⟩:=hxv
      rw[hxe]at h1
      have hxe:a.tmps.getD x undef=.pointer (some ⟨b,off,none⟩):=hxe
      refine⟨u,?_,h2⟩
      simp only[Instr.loadAt,Instr.sureAddr,Sem.run_bind,Sem.run_pure,Result.andThen_ok]at h1
      simp only[I9,hxe,asAddr,Sem.run_bind,Sem.run_pure,Result.andThen_ok,h1]
     ·cases h
    ·cases h
theorem q9 (hT:DT P tb) {K:Nat→Prop} {σ:St} {ρ:Nat→Value} {a:Act} {w:World} (hs:Be w0 K O0 nt ds σ ρ a w) {rv:ResultVar} {t:Ty} {d:t.den} (h:IM tb σ rv (.p t d)) :
  ∃u,(I9 a.tmps rv).run P w=.ok u w∧BR w O0 t u d:=by
 unfold IM at h
 have hs1:=JZ (l:=LM (Hf tb σ rv)) hs
 generalize CA (LM (Hf tb σ rv)) σ=σ1 at h hs1
 cases hr:Hf tb σ1 rv with
 | none=>rw[hr]at h;simp[Ih]at h
 | some v =>
  rw[hr]at h
  simp only[Ih]at h
  obtain⟨u,h1,h2⟩:=QN hT hs1 hr
  have h3:=I6 (V:=vw w O0 σ1 ρ) (O':=O0) (fun b hb hb'=>hb (.inl hb')) (fun h=>by cases h) hs1.objs h h2
  exact⟨u,h1,h3⟩
theorem lO (hT:DT P tb) {K:Nat→Prop} {σ:St} {ρ:Nat→Value} {a:Act} {w:World} (hs:Be w0 K O0 nt ds σ ρ a w):∀ {rvs:List ResultVar} {rs:List RV},(∀r∈rs,∃t d,r=.p t d)→M6 tb σ rvs rs →
  ∃us:List Value,(rvs.mapM (I9 a.tmps)).run P w=.ok us w∧us.length=rs.length ∧
   ∀nm V,V.w=w→(∀b,V.O b→O0 b)→I3 V (I1 nm rs) us
 | [],[],_,_=>⟨[],by simp,rfl,fun _ _ _ _=>rfl⟩
 | [],_ :: _,_,h=>by simp[M6]at h
 | _ :: _,[],_,h=>by simp[M6]at h
 | rv :: rvs,r :: rs,hp,h=>by
  obtain⟨t,d,rfl⟩:=hp r (by simp)
  have h12:IM tb σ rv (.p t d)∧M6 tb σ rvs rs:=by
   cases rvs with
   | nil =>
    cases rs with
    | nil=>exact⟨h,trivial⟩
    | cons r' rs'=>exact⟨h.1,h.2⟩
   | cons rv' rvs'=>exact⟨h.1,h.2⟩
  obtain⟨u,h1,h2⟩:=q9 hT hs h12.1
  obtain⟨us,h3,h4,h5⟩:=lO hT hs (fun r hr=>hp r (by simp[hr])) h12.2
  refine⟨u :: us,?_,by simp[h4],fun nm V hw hO=>⟨u,us,rfl,?_,h5 _ V hw hO⟩⟩
  ·rw[List.mapM_cons]
   simp only[Sem.run_bind,h1,Result.andThen_ok,h3,Sem.run_pure]
  ·show BR V.w V.O t u d
   rw[hw]
   exact BR.mono (fun b _ hb hb'=>hb (hO b hb')) (fun _ _ _=>rfl) h2
def Z5 (P:Program) (fn:Func) (w0:World) (O0:Nat→Prop) (outs:List RV):Exit→Act→World→Prop :=
 bodyPost P fn fun e w'=>∃u,e=.returned u∧lE w0 O0 outs u w'
theorem lP (hc:(cx P tb w0 O0 nt).Ok) {fn:Func} {outs:List RV} {σ:St} {e:Exit} (he:e=.ret∨e=.normal) (hp:∀r∈outs,∃t d,r=.p t d) (h:M6 tb σ fn.results.toList outs) :
  Ev (cx P tb w0 O0 nt) (Z5 P fn w0 O0 outs) (.out e) [] σ:=by
 intro _ _ a w hs
 obtain⟨ρ,hs⟩:=hs
 obtain⟨us,h1,h2,h3⟩:=lO hc.T hs hp h
 have h1:(fn.results.toList.mapM (I9 a.tmps)).run P w=.ok us w:=h1
 have hbelow:Below w0.heap.size w0 w:=⟨hs.frm.os,hs.frm.tape,hs.frm.output,hs.frm.size,hs.frm.block⟩
 have hres:∃v,(results fn a.tmps).run P w=.ok v w∧lE w0 O0 outs v w:=by
  have hm:(fn.results.mapM (I9 a.tmps)).run P w=.ok us.toArray w:=by
   rw[Array.mapM_eq_mapM_toList]
   simp only[Sem.run_map,h1,Result.andThen_ok]
  refine⟨if h:us.toArray.size=1 then us.toArray[0] else .tuple us.toArray,?_,fun nm=>⟨fun _=>undef,?_⟩⟩
  ·rw[MF]
   simp only[Sem.run_bind,hm,Result.andThen_ok,Sem.run_pure]
  ·have hflat:CM nm outs=[]:=by
    clear h h1 h2 h3
    induction outs generalizing nm with
    | nil=>rfl
    | cons r rs ih =>
     obtain⟨t,d,rfl⟩:=hp r (by simp)
     simp only[CM,KW,List.nil_append]
     exact ih (fun r hr=>hp r (by simp[hr])) (nm+10000)
   rw[hflat]
   refine⟨hbelow,fun _ _=>rfl,?_,(fun _ _ h=>by cases h),(fun _ _ _ h=>by cases h),(fun _ _ _ _ _ h=>by cases h)⟩
   have h4:=h3 nm (vw w O0 (EA ⟨[],[]⟩ []) (fun _=>undef)) rfl (fun b hb=>by
    rcases hb with h0|⟨n,⟨o,ho⟩,_⟩
    ·exact h0
    ·simp[EA,lk]at ho)
   match outs,hp,us,h2,h4 with
   | [],_,us,h2,h4 =>
    have h4:us=[]:=h4
    subst h4
    exact(rfl:_=_)
   | [r],hp,us,h2,h4 =>
    obtain⟨u,l,rfl,h5,h6⟩:=h4
    have h6:l=[]:=h6
    subst h6
    simp only[G0]
    exact kT h5
   | r1 :: r2 :: rs,hp,us,h2,h4 =>
    have:¬us.toArray.size=1:=by simp at h2 ⊢;omega
    rw[dif_neg this]
    exact⟨us,rfl,h4⟩
 obtain⟨v,h4,h5⟩:=hres
 rcases he with rfl|rfl
 ·exact⟨hs.defers,v,h4,v,rfl,h5⟩
 ·exact⟨hs.defers,v,h4,v,rfl,h5⟩
end
end
/- A function's contract from the executor; one state inside another. -/
section
open Go Go.RowKit
def Ty.ok:(t:Ty)→t.den→Prop
 | .int k,d=>J3 k d
 | .bool,_=>True
 | .str,d=>ByteArray.size d≤AO
 | .slice e,d=>List.length d≤AO∧∀x∈(d:List e.den),e.ok x
 | .prod a b,d=>a.ok d.1∧b.ok d.2
 | .agg t,d=>t.ok d
 | .ref _,_=>True
theorem Hg {w:World} {O:Nat→Prop}:∀ {t:Ty} {cs:List Value} {d:t.den},Bi w O t cs d→t.ok d
 | .int _,_,_,h=>h.2
 | .bool,_,_,_=>trivial
 | .str,_,_,h=>h.2
 | .ref _,_,_,_=>trivial
 | .slice e,_,d,h=>by
  obtain⟨a,c,_,_,h2,h3⟩:=h
  refine⟨h2,fun x hx=>?_⟩
  rcases h3 with h3|⟨ad,_,_,hel⟩
  ·subst h3;simp at hx
  ·obtain⟨i,hi,rfl⟩:=List.mem_iff_getElem.1 hx
   obtain⟨es,_,_,hr⟩:=hel i _ (List.getElem?_eq_getElem hi)
   exact Hg hr
 | .prod a b,_,_,h=>by
  obtain⟨c1,c2,_,h1,h2⟩:=h
  exact⟨Hg h1,Hg h2⟩
 | .agg t,cs,d,h=>by
  have h:Bi w O t cs d:=h
  exact(Hg h:t.ok d)
def oks:(ts:List Ty)→KU ts→Prop
 | [],_=>True
 | t :: ts,d=>t.ok d.1∧oks ts d.2
theorem Z6 {w:World} {O:Nat→Prop}:∀ {ts:List Ty} {vs:List Value} {ds:KU ts},O6 w O ts vs ds→oks ts ds
 | [],_,_,_=>trivial
 | t :: ts,vs,ds,h=>by
  obtain⟨v,r,rfl,⟨cs,h1,_⟩,h2⟩:=h
  exact⟨Hg h1,Z6 h2⟩
section
variable {P:Program} {tb:Tb} {w0:World} {O0:Nat→Prop} {nt:Nat}
theorem AW {f : FuncId} {fn : Func} {cd : Code} {sp : Ah} (hfn : P.funcs[f]? = some fn) (hname : (fn.name == "runtime.NumGoroutine") = false) (hbody : fn.body = some cd) (hnt : fn.ntmps = nt) (hlen : sp.ins.length ≤ nt)
  (hcode:CC nt cd=true) (hT:DT P tb) (hF:Lt P tb)
  (h:∀(w0:World) (O0:Nat→Prop) (ds:KU sp.ins),(cx P tb w0 O0 nt).Ok→oks sp.ins ds→sp.pre ds→Ev (cx P tb w0 O0 nt) (Z5 P fn w0 O0 (sp.out ds)) (.run cd) [] ⟨AM 0 sp.ins ds,[]⟩):Ao P f sp:=by
 refine⟨⟨fn,hfn,hname,by simp[hbody]⟩,fun w O vs ds hO hargs hpre=>?_⟩
 refine calls_of_wp hfn hbody ((wpIn_wide (n:=0)).1 ?_)
 have hvl:=PN hargs
 rw[hnt]
 exact h w O ds ⟨fun b hb=>hb,hO,hT,hF⟩ (Z6 hargs) hpre hcode rfl _ _ (gT hargs (by omega))
theorem Hh (hc:(cx P tb w0 O0 nt).Ok) {fn:Func} {et:TypeId} {e:Ty} {xs:List e.den} {σ:St} {ex:Exit} (he:ex=.ret∨ex=.normal) {rv:ResultVar} (hr:fn.results=#[rv]) (h:IM tb σ rv (.own et e xs)) :
  Ev (cx P tb w0 O0 nt) (Z5 P fn w0 O0 [.own et e xs]) (.out ex) [] σ:=by
 intro _ _ a w hs
 obtain⟨ρ,hs⟩:=hs
 have hbelow:Below w0.heap.size w0 w:=⟨hs.frm.os,hs.frm.tape,hs.frm.output,hs.frm.size,hs.frm.block⟩
 unfold IM at h
 simp only at h
 split at h
 ·rename_i n e' hi hrv
  obtain⟨rfl,h2,rfl⟩:=h
  cases hn:lk n σ.objs with
  | none=>rw[hn]at h2;simp[GX]at h2
  | some o =>
   rw[hn]at h2
   cases o with
   | box et' st fs=>simp[GX]at h2
   | mapo k v l=>simp[GX]at h2
   | frame tm fs=>simp[GX]at h2
   | loop L=>simp[GX]at h2
   | itr ik iv il ilf icu=>simp[GX]at h2
   | dfr=>simp[GX]at h2
   | nest et2 iet k e2 ys hl=>simp[GX]at h2
   | arr et' e2 ys =>
    simp only[GX]at h2
    split at h2
    ·rename_i het
     subst het
     obtain⟨rfl,h3⟩:=Ba h2
     cases h3
     obtain⟨u,hu,hav⟩:=QN (P:=P) hc.T hs hrv
     obtain⟨hL,hsl⟩:=hav
     have hobj:=hs.objs n _ hn
     have hloc:u=ρ n:=by
      obtain⟨a0,m,c0,hρ,_,hle,a',c',rfl,_,h0,_⟩:=hsl
      have hρ:plc (ρ n)=_:=hρ
      obtain⟨rfl,rfl⟩:=h0 rfl
      obtain⟨_,cells,how,_⟩:=hobj
      have how:w.ownsRow 0 et' e2.size (ρ n) ys.length cells:=how
      rw[HI how]at hρ
      have hm:m=ys.length:=by
       rcases how.2 with ⟨he,hnn⟩|⟨g,cap,cur,he,_⟩
       ·rw[hρ]at he;injection he;omega
       ·rw[hρ]at he;injection he
      rw[hρ,hm,Nat.sub_zero]
     have hres:(results fn a.tmps).run P w=.ok u w:=by
      rw[MF,hr]
      have:((#[rv]:Array ResultVar).mapM (I9 a.tmps)).run P w=.ok #[u] w:=by
       rw[Array.mapM_eq_mapM_toList]
       simp[hu]
      simp only[Sem.run_bind,this,Result.andThen_ok,Sem.run_pure]
      rfl
     have hR:lE w0 O0 [.own et' e2 ys] u w:=by
      intro nm
      have hlv:∀m,GN (EA ⟨[],[]⟩ [(nm,.arr et' e2 ys)]) m↔m=nm:=by
       intro m
       simp[GN,EA,lk]
      have hk:∀b,¬own O0 σ ρ b→¬own O0 (EA ⟨[],[]⟩ [(nm,.arr et' e2 ys)]) (EB (fun _=>undef) nm u) b:=by
       intro b hb hb'
       rcases hb' with h0|⟨m,hl,hm⟩
       ·exact hb (.inl h0)
       ·rw[(hlv m).1 hl,BZ,hloc]at hm
        exact hb (.inr ⟨n,⟨_,hn⟩,hm⟩)
      have hO1:CM nm [RV.own et' e2 ys]=[(nm,.arr et' e2 ys)]:=rfl
      rw[hO1]
      refine⟨EB (fun _=>undef) nm u,QS.one (loc:=u) hbelow (fun b hb=>?_) ?_ ?_⟩
      ·rw[hloc]at hb
       have:=(hs.free n b ⟨_,hn⟩ hb).1
       simp only[cx]at this
       omega
      ·refine⟨(hlv nm).2 rfl,?_⟩
       show Co (plc (EB (fun _=>undef) nm u nm)) _ _ _ u
       rw[BZ,hloc]
       rw[hloc]at hsl
       exact hsl
      ·rw[hloc]
       obtain⟨hm,cells,how,hel⟩:=hobj
       refine⟨hm,cells,how,fun i x hi=>?_⟩
       obtain⟨es,g1,g2,g3⟩:=hel i x hi
       rw[hloc]at hk
       exact⟨es,g1,g2,g3.mono (fun b _ hb=>hk b hb) (fun _ _ _=>rfl)⟩
     rcases he with rfl|rfl
     ·exact⟨hs.defers,u,hres,u,rfl,hR⟩
     ·exact⟨hs.defers,u,hres,u,rfl,hR⟩
    ·cases h2
 ·exact h.elim
end
end
/- The executor's rules in the form in which they are used; one state inside another. -/
section
open Go Go.RowKit
section
variable {P:Program} {tb:Tb} {w0:World} {O0:Nat→Prop} {nt:Nat} {R:Exit→Act→World→Prop} {k:List DU} {σ σ':St}
theorem PO:(cx P tb w0 O0 nt).tb=tb:=rfl
theorem YY {c:Cx} (hc:c.Ok) {id:Nat} {l:List Oper} {vc:Prop} (h:BX c.tb l l σ=some (vc,σ')) (hvc:vc) (hk:Ev c R (.out .normal) k σ') :
  Ev c R (.run (.region id l.toArray false)) k σ:=gS hc (by
 show EvR _ _ _ (BX c.tb l l σ)
 rw[h]
 exact⟨hvc,hk⟩)
theorem DV {c:Cx} {o:Operand} {x y:Code} {b:Bool} (h:Ae σ o=some (.p .bool b)) (ht:b=true→Ev c R (.run x) k σ) (hf:b=false→Ev c R (.run y) k σ):Ev c R (.run (.cond o x y)) k σ :=
 qZ (by rw[h];exact⟨ht,hf⟩)
theorem YZ {c:Cx} {id:Nat} (h:Ev c R (.out .normal) k σ):Ev c R (.out (.exit id)) (.blk id :: k) σ:=PM (by rw[if_pos rfl];exact h)
theorem Ya {c:Cx} {id id':Nat} (hne:id'≠id) (h:Ev c R (.out (.exit id')) k σ):Ev c R (.out (.exit id')) (.blk id :: k) σ:=PM (by rw[if_neg hne];exact h)
end
/-! ### Entailment -/
inductive CD where
 | nm (n:Nat)
 | nil
def Cl (ren:List (Nat×CD)):AV→AV→Prop
 | .p t d,.p u d'=>BH u ⟨t,d⟩=some d'
 | .raw (.slice none 0 0),.p (.slice e) d'=>(d':List e.den)=[]
 | .raw v,.raw u=>v=u
 | .raw (.slice none 0 0),.sr m _ lo hi=>lk m ren=some .nil∧lo=0∧hi=0
 | .sr n e lo hi,.sr m e' lo' hi'=>lk m ren=some (.nm n)∧e=e'∧lo=lo'∧hi=hi'
 | .ip t d,.ip u d'=>BH u ⟨t,d⟩=some d'
 | .bp n p o,.bp m p' o'=>lk m ren=some (.nm n)∧p=p'∧o=o'
 | .fn f,.fn g=>f=g
 | .clo f ns,.clo g ms=>f=g∧ms.map (fun m=>lk m ren)=ns.map fun n=>some (.nm n)
 | .mp n,.mp m=>lk m ren=some (.nm n)
 | .yl n,.yl m=>lk m ren=some (.nm n)
 | _,.top=>True
 | _,_=>False
def DW (ren:List (Nat×CD)):List AV→List AV→Prop
 | [],[]=>True
 | x :: l,y :: r=>(x.cells=y.cells∧Cl ren x y)∧DW ren l r
 | _,_=>False
def Fa (ren:List (Nat×CD)):AV→AV→Prop
 | .ag l,.ag r=>DW ren l r
 | x,y=>Cl ren x y
def Fb (ren:List (Nat×CD)):List AV→List AV→Prop
 | [],[]=>True
 | x :: l,y :: r=>Fa ren x y∧Fb ren l r
 | _,_=>False
def BV (ren:List (Nat×CD)):AV→AV→Prop
 | .tup l,.tup r=>Fb ren l r
 | x,y=>Fa ren x y
def Gp (ren:List (Nat×CD)):Option AV→AV→Prop
 | some x,y=>BV ren x y
 | none,.top=>True
 | none,_=>False
def Du (env:List (Nat×AV)) (ren:List (Nat×CD)):List (Nat×AV)→Prop
 | []=>True
 | (s,y) :: r=>Gp ren (lk s env) y∧Du env ren r
def GC (ren:List (Nat×CD)):Option Obj→Obj→Prop
 | some (.arr et e xs),.arr et' e' ys=>et=et'∧BH (.slice e') ⟨.slice e,xs⟩=some ys
 | some (.box et st fs),.box et' st' gs=>et=et'∧st=st'∧DW ren fs gs
 | some (.nest et iet k e xs h),.nest et' iet' k' e' ys h'=>(et=et'∧iet=iet'∧h=h')∧BH (.slice (.prod k' (.slice e'))) ⟨.slice (.prod k (.slice e)),xs⟩=some ys
 | some (.mapo k v l),.mapo k' v' l'=>BH (.slice (.prod k' v')) ⟨.slice (.prod k v),l⟩=some l'
 | some (.frame tm fs),.frame tm' gs=>tm=tm'∧Du fs ren gs
 | some (.itr k v l lf cu),.itr k' v' l' lf' cu'=>BH (.slice (.prod k' v')) ⟨.slice (.prod k v),l⟩=some l'∧lf=lf'∧cu=cu'
 | some (.loop L),.loop L'=>L=L'
 | some .dfr,.dfr=>True
 | _,_=>False
def Eu (objs:List (Nat×Obj)) (ren:List (Nat×CD)) (o:Obj):Option CD→Prop
 | some (.nm n)=>GC ren (lk n objs) o
 | some .nil=>match o with
  | .arr _ e ys=>(ys:List e.den)=[]
  | .box _ _ _=>False
  | .nest _ _ k e ys _=>(ys:List (k.den×List e.den))=[]
  | .mapo _ _ _=>False
  | .frame _ _=>False
  | .itr _ _ _ _ _=>False
  | .loop _=>False
  | .dfr=>False
 | none=>False
def Ag (objs:List (Nat×Obj)) (ren:List (Nat×CD)):List (Nat×Obj)→Prop
 | []=>True
 | (m,o) :: r=>Eu objs ren o (lk m ren)∧Ag objs ren r
def B2:List (Nat×CD)→Bool
 | []=>true
 | (_,.nm n) :: r=>(r.all fun p=>match p.2 with|.nm n'=>n' != n|.nil=>true)&&B2 r
 | (_,.nil) :: r=>B2 r
def OC {α:Type}:List (Nat×α)→Bool
 | []=>true
 | (n,_) :: r=>(r.all fun p=>p.1 != n)&&OC r
section
variable {ren:List (Nat×CD)} {V V':Vw}
structure Kg (ren:List (Nat×CD)) (V V':Vw):Prop where
 w:V'.w=V.w
 O:∀b,¬V.O b→¬V'.O b
 ρ:∀m n,lk m ren=some (.nm n)→V'.ρ m=V.ρ n
 nil:∀m,lk m ren=some .nil→V'.ρ m=.slice none 0 0
 L:∀m f,lk m ren=some f→V'.L m
theorem Kg.vrep (h:Kg ren V V') {t:Ty} {v:Value} {d:t.den} (hr:BR V.w V.O t v d):BR V'.w V'.O t v d :=
 BR.mono (fun b _ hb=>h.O b hb) (fun b _ _=>by rw[h.w]) hr
theorem Kg.rep (h:Kg ren V V') {t:Ty} {cs:List Value} {d:t.den} (hr:Bi V.w V.O t cs d):Bi V'.w V'.O t cs d :=
 hr.mono (fun b _ hb=>h.O b hb) (fun b _ _=>by rw[h.w])
theorem Kg.map (h:Kg ren V V'):∀ {ms ns:List Nat},ms.map (fun m=>lk m ren)=ns.map (fun n=>some (CD.nm n))→ms.map V'.ρ=ns.map V.ρ∧∀m∈ms,∃n∈ns,lk m ren=some (.nm n)
 | [],[],_=>⟨rfl,fun _ h=>by cases h⟩
 | [],_ :: _,he=>by simp at he
 | _ :: _,[],he=>by simp at he
 | m :: ms,n :: ns,he=>by
  simp only[List.map_cons,List.cons.injEq]at he
  obtain⟨h1,h2⟩:=h.map he.2
  refine⟨by simp only[List.map_cons,h1,h.ρ _ _ he.1],fun x hx=>?_⟩
  rcases List.mem_cons.1 hx with rfl|hx
  ·exact⟨n,by simp,he.1⟩
  ·obtain⟨y,hy,hxy⟩:=h2 x hx
   exact⟨y,by simp[hy],hxy⟩
theorem TJ (h:Kg ren V V') {x y:AV} {v:Value} (hm:Cl ren x y) (hx:Qn V x v):Qn V' y v∧(∀t d,y=.p t d→(∀u d',x≠.p u d')→v.oneCell'=true→Bi V'.w V'.O t [v] d):=by
 unfold Cl at hm
 split at hm
 ·have:=A1 hm
  injection this with h1 h2
  subst h1
  cases h2
  exact⟨h.vrep hx,fun _ _ _ hne=>absurd rfl (hne _ _)⟩
 ·have hx:v=_:=hx
  subst hx
  have hd:=hm
  have hr:∀(O:Nat→Prop) (e:Ty),Bi V'.w O (.slice e) [.slice none 0 0] ([]:List e.den):=fun O e=>⟨none,0,rfl,by simp,by simp[AO],.inl rfl⟩
  rename_i e d'
  have hd:d'=([]:List e.den):=hd
  subst hd
  refine⟨⟨_,hr _ _,rfl⟩,fun t d he _ _=>?_⟩
  injection he with h1 h2
  subst h1
  cases h2
  exact hr _ _
 ·subst hm
  exact⟨hx,fun t d he=>by cases he⟩
 ·rename_i m e lo hi
  obtain⟨h1,rfl,rfl⟩:=hm
  have hx:v=_:=hx
  subst hx
  refine⟨⟨h.L _ _ h1,?_⟩,fun t d he=>by cases he⟩
  rw[h.nil _ h1]
  exact⟨none,0,0,rfl,by omega,by omega,none,0,rfl,by omega,fun _=>⟨rfl,rfl⟩,fun h=>by omega⟩
 ·obtain⟨h1,rfl,rfl,rfl⟩:=hm
  refine⟨⟨h.L _ _ h1,?_⟩,fun t d he=>by cases he⟩
  rw[h.ρ _ _ h1]
  exact hx.2
 ·have:=A1 hm
  injection this with h1 h2
  subst h1
  cases h2
  obtain⟨ad,cs,he,hO,hc,hr⟩:=hx
  exact⟨⟨ad,cs,he,h.O _ hO,fun j u hj=>by rw[h.w];exact hc j u hj,h.rep hr⟩,fun t d he=>by cases he⟩
 ·obtain⟨h1,rfl,rfl⟩:=hm
  refine⟨⟨h.L _ _ h1,?_⟩,fun t d he=>by cases he⟩
  rw[h.ρ _ _ h1]
  exact hx.2
 ·subst hm
  exact⟨hx,fun t d he=>by cases he⟩
 ·obtain⟨rfl,hl⟩:=hm
  obtain⟨h1,h2⟩:=h.map hl
  refine⟨⟨?_,fun m hm=>?_⟩,fun t d he=>by cases he⟩
  ·rw[h1];exact hx.1
  ·obtain⟨n,hn,hmn⟩:=h2 m hm
   refine⟨h.L _ _ hmn,?_⟩
   rw[h.ρ _ _ hmn]
   exact(hx.2 n hn).2
 ·refine⟨⟨h.L _ _ hm,?_⟩,fun t d he=>by cases he⟩
  rw[h.ρ _ _ hm]
  exact hx.2
 ·refine⟨⟨h.L _ _ hm,?_⟩,fun t d he=>by cases he⟩
  rw[h.ρ _ _ hm]
  exact hx.2
 ·exact⟨trivial,fun t d he=>by cases he⟩
 ·exact hm.elim
theorem gU (h:Kg ren V V') {x y:AV} {cs:List Value} (hcell:x.cells=y.cells) (hm:Cl ren x y) (hx:Lm V x cs):Lm V' y cs:=by
 by_cases hp:∃t d,x=.p t d
 ·obtain⟨t,d,rfl⟩:=hp
  have hx:Bi V.w V.O t cs d:=hx
  cases y<;>simp only[Cl]at hm<;>try exact hm.elim
  ·have:=A1 hm
   injection this with h1 h2
   subst h1
   cases h2
   exact h.rep hx
  ·have hl:=hx.length
   simp only[AV.cells]at hcell
   rw[hcell]at hl
   obtain⟨v,rfl⟩:=List.length_eq_one_iff.1 hl
   exact⟨v,rfl,hx.one v (by simp),trivial⟩
 ·have hx':∃v,cs=[v]∧v.oneCell'=true∧Qn V x v:=by
   cases x
   case p t d=>exact absurd ⟨t,d,rfl⟩ hp
   all_goals exact hx
  obtain⟨v,rfl,h1,h2⟩:=hx'
  obtain⟨h3,h4⟩:=TJ h hm h2
  cases y
  case p t d=>exact h4 t d rfl (fun u d' e=>hp ⟨u,d',e⟩) h1
  all_goals exact⟨v,rfl,h1,h3⟩
theorem MG (h:Kg ren V V'):∀ {l r:List AV} {cs:List Value},DW ren l r→DF V l cs→DF V' r cs
 | [],[],cs,_,hx=>hx
 | [],_ :: _,cs,hm,_=>hm.elim
 | _ :: _,[],cs,hm,_=>hm.elim
 | x :: l,y :: r,cs,hm,hx=>by
  obtain⟨c1,c2,rfl,h1,h2⟩:=hx
  exact⟨c1,c2,rfl,gU h hm.1.1 hm.1.2 h1,MG h hm.2 h2⟩
theorem KD:∀ {l r:List AV},DW ren l r→l.length=r.length
 | [],[],_=>rfl
 | [],_ :: _,hm=>hm.elim
 | _ :: _,[],hm=>hm.elim
 | _ :: _,_ :: _,hm=>by simp[KD hm.2]
theorem TK (h:Kg ren V V') {x y:AV} {v:Value} (hm:Fa ren x y) (hx:Ox V x v):Ox V' y v:=by
 cases x
 case ag l =>
  cases y
  case ag r =>
   obtain⟨cs,e,h1⟩:=hx
   exact⟨cs,e,MG h hm h1⟩
  all_goals simp only[Fa,Cl]at hm
  all_goals first|exact hm.elim|exact trivial
 all_goals
  simp only[Ox]at hx
  have hm:Cl ren _ y:=hm
  exact Ox.of1 (TJ h hm hx).1
theorem WL (h:Kg ren V V'):∀ {l r:List AV} {vs:List Value},Fb ren l r→I3 V l vs→I3 V' r vs
 | [],[],vs,_,hx=>hx
 | [],_ :: _,vs,hm,_=>hm.elim
 | _ :: _,[],vs,hm,_=>hm.elim
 | x :: l,y :: r,vs,hm,hx=>by
  obtain⟨v,vs',rfl,h1,h2⟩:=hx
  exact⟨v,vs',rfl,TK h hm.1 h1,WL h hm.2 h2⟩
theorem LN (h:Kg ren V V') {x y:AV} {v:Value} (hm:BV ren x y) (hx:Bp V x v):Bp V' y v:=by
 cases x
 case tup l =>
  cases y
  case tup r =>
   obtain⟨vs,e,h1⟩:=hx
   exact⟨vs,e,WL h hm h1⟩
  all_goals simp only[BV,Fa,Cl]at hm
  all_goals first|exact hm.elim|exact trivial
 all_goals
  simp only[BV]at hm
  exact kT (TK h hm hx)
theorem Cy {objs:List (Nat×Obj)} {m:Nat} {o:Obj}:∀ {l:List (Nat×Obj)},Ag objs ren l→lk m l=some o→Eu objs ren o (lk m ren)
 | (j,x) :: l,h,hl=>by
  simp only[lk]at hl
  split at hl
  ·rename_i e
   cases hl
   subst e
   exact h.1
  ·exact Cy h.2 hl
theorem Kh {env:List (Nat×AV)} {s:Nat} {y:AV}:∀ {l:List (Nat×AV)},Du env ren l→lk s l=some y→Gp ren (lk s env) y
 | (j,x) :: l,h,hl=>by
  simp only[lk]at hl
  split at hl
  ·rename_i e
   cases hl
   subst e
   exact h.1
  ·exact Kh h.2 hl
theorem QO:∀ {l:List (Nat×CD)} {m m' n:Nat},B2 l=true→lk m l=some (.nm n)→lk m' l=some (.nm n)→m=m'
 | (j,f) :: l,m,m',n,hr,h1,h2=>by
  simp only[lk]at h1 h2
  have hrest:B2 l=true:=by
   cases f<;>simp only[B2,Bool.and_eq_true]at hr
   ·exact hr.2
   ·exact hr
  have hall:∀q,f=.nm n→lk q l=some (.nm n)→False:=by
   intro q hf hq
   subst hf
   simp only[B2,Bool.and_eq_true,List.all_eq_true]at hr
   have:=hr.1 _ (FY hq)
   simp at this
  split at h1
  ·rename_i e1
   cases h1
   split at h2
   ·rename_i e2;rw[e1,e2]
   ·exact(hall _ rfl h2).elim
  ·split at h2
   ·cases h2
    exact(hall _ rfl h1).elim
   ·exact QO hrest h1 h2
def yO (n:Nat):Option CD→Bool
 | some (.nm m)=>m==n
 | _=>false
def yP (pin:List (Nat×Value)) (ren:List (Nat×CD)):Bool:=pin.all fun p=>yO p.1 (lk p.1 ren)
theorem OD {V V':Vw} (hV:Kg ren V V') {src:List (Nat×Obj)} (hsrc:∀n x,lk n src=some x→Aw V x (V.ρ n)) {o:Obj} {m:Nat} (hf:Eu src ren o (lk m ren)):Aw V' o (V'.ρ m):=by
 cases hr:lk m ren with
 | none=>rw[hr]at hf;exact hf.elim
 | some f =>
  rw[hr]at hf
  cases f with
  | nil =>
   rw[hV.nil m hr]
   cases o with
   | box et st fs=>exact hf.elim
   | mapo k v l=>exact hf.elim
   | frame tm fs=>exact hf.elim
   | loop L=>exact hf.elim
   | itr ik iv il ilf icu=>exact hf.elim
   | dfr=>exact hf.elim
   | nest et iet k e ys hl =>
    have hf:ys=([]:List (k.den×List e.den)):=hf
    subst hf
    exact⟨_,[],[],.inr ⟨rfl,rfl,rfl⟩,by simp[AO],rfl,World.ownsRow_nil _ 0 et _,fun i x u h=>by simp at h,fun i j b u v h=>by simp at h,fun i b u h=>by simp at h⟩
   | arr et e ys =>
    have hf:ys=([]:List e.den):=hf
    subst hf
    exact⟨by simp[AO],[],World.ownsRow_nil _ 0 et e.size,HS _ _ _ _⟩
  | nm n =>
   rw[hV.ρ m n hr]
   simp only[Eu]at hf
   cases hn:lk n src with
   | none=>rw[hn]at hf;simp only[GC]at hf
   | some x =>
    rw[hn]at hf
    have hob:=hsrc n x hn
    cases x with
    | arr et e xs =>
     cases o with
     | box et' st fs=>exact hf.elim
     | mapo k v l=>exact hf.elim
     | frame tm fs=>exact hf.elim
     | loop L=>exact hf.elim
     | itr ik iv il ilf icu=>exact hf.elim
     | dfr=>exact hf.elim
     | nest _ _ _ _ _ _=>exact hf.elim
     | arr et' e' ys =>
      obtain⟨rfl,hc⟩:=hf
      obtain⟨rfl,h3⟩:=Ba hc
      cases h3
      obtain⟨hmx,cells,how,hel⟩:=hob
      refine⟨hmx,cells,by rw[hV.w];exact how,fun i z hi=>?_⟩
      obtain⟨es,g1,g2,g3⟩:=hel i z hi
      exact⟨es,g1,g2,hV.rep g3⟩
    | box et st fs =>
     cases o with
     | arr et' e' ys=>exact hf.elim
     | mapo k v l=>exact hf.elim
     | frame tm fs=>exact hf.elim
     | loop L=>exact hf.elim
     | itr ik iv il ilf icu=>exact hf.elim
     | dfr=>exact hf.elim
     | nest _ _ _ _ _ _=>exact hf.elim
     | box et' st' gs =>
      obtain⟨rfl,rfl,hg⟩:=hf
      obtain⟨h0,b,cs,hloc,hh,hcs⟩:=hob
      exact⟨fun hst=>by rw[←KD hg];exact h0 hst,b,cs,hloc,by rw[hV.w];exact hh,MG hV hg hcs⟩
    | nest et iet k e xs h =>
     cases o with
     | nest et' iet' k' e' ys h' =>
      obtain⟨⟨rfl,rfl,rfl⟩,hc⟩:=hf
      have hc:=A1 hc
      injection hc with h1 h2
      injection h1 with h1
      injection h1 with h1 h3
      injection h3 with h3
      subst h1
      subst h3
      cases h2
      exact gH hV.w hV.O hob
     | mapo k v l=>exact hf.elim
     | box et' st fs=>exact hf.elim
     | arr et' e' ys=>exact hf.elim
     | frame tm fs=>exact hf.elim
     | loop L=>exact hf.elim
     | itr ik iv il ilf icu=>exact hf.elim
     | dfr=>exact hf.elim
    | mapo k v l =>
     cases o with
     | mapo k' v' l' =>
      have hc:=A1 hf
      injection hc with h1 h2
      injection h1 with h1
      injection h1 with h1 h3
      subst h1
      subst h3
      cases h2
      obtain⟨b,es,cl,hloc,hh,hes,hbn⟩:=hob
      exact⟨b,es,cl,hloc,by rw[hV.w];exact hh,hes.mono (fun b _ hb=>hV.O b hb) (fun b _ _=>by rw[hV.w]),hbn⟩
     | box et' st fs=>exact hf.elim
     | arr et' e' ys=>exact hf.elim
     | frame tm fs=>exact hf.elim
     | loop L=>exact hf.elim
     | itr ik iv il ilf icu=>exact hf.elim
     | dfr=>exact hf.elim
     | nest _ _ _ _ _ _=>exact hf.elim
    | frame tm fs =>
     cases o with
     | frame tm' gs =>
      obtain⟨rfl,hg⟩:=hf
      obtain⟨h0,h1⟩:=hob
      refine⟨h0,fun s v hv=>?_⟩
      have hm:=Kh hg hv
      cases hx:lk s fs with
      | none =>
       rw[hx]at hm
       cases v<;>simp only[Gp]at hm
       exact trivial
      | some x =>
       rw[hx]at hm
       exact LN hV hm (h1 s x hx)
     | mapo k v l=>exact hf.elim
     | box et' st fs=>exact hf.elim
     | arr et' e' ys=>exact hf.elim
     | loop L=>exact hf.elim
     | itr ik iv il ilf icu=>exact hf.elim
     | dfr=>exact hf.elim
     | nest _ _ _ _ _ _=>exact hf.elim
    | itr k v l lf cu =>
     cases o with
     | itr k' v' l' lf' cu' =>
      obtain⟨hf,rfl,rfl⟩:=hf
      have hc:=A1 hf
      injection hc with h1 h2
      injection h1 with h1
      injection h1 with h1 h3
      subst h1
      subst h3
      cases h2
      obtain⟨r,hloc,b,ms,cl,si,se,h1,h2,h3,h4,h5⟩:=hob
      exact⟨r,hloc,b,ms,cl,si,se,by rw[hV.w];exact h1,hV.O b h2,by rw[hV.w];exact h3,h4.mono (fun b _ hb=>hV.O b hb) (fun b _ _=>by rw[hV.w]),h5⟩
     | mapo k v l=>exact hf.elim
     | box et' st fs=>exact hf.elim
     | arr et' e' ys=>exact hf.elim
     | frame tm fs=>exact hf.elim
     | loop L=>exact hf.elim
     | dfr=>exact hf.elim
     | nest _ _ _ _ _ _=>exact hf.elim
    | loop L =>
     cases o with
     | loop L' =>
      have hf:L=L':=hf
      subst hf
      obtain⟨b,hl,hh⟩:=hob
      exact⟨b,hl,by rw[hV.w];exact hh⟩
     | itr ik iv il ilf icu=>exact hf.elim
     | mapo k v l=>exact hf.elim
     | box et' st fs=>exact hf.elim
     | arr et' e' ys=>exact hf.elim
     | frame tm fs=>exact hf.elim
     | dfr=>exact hf.elim
     | nest _ _ _ _ _ _=>exact hf.elim
    | dfr =>
     cases o with
     | dfr =>
      obtain⟨b,hl,hh⟩:=hob
      exact⟨b,hl,by rw[hV.w];exact hh⟩
     | nest _ _ _ _ _ _=>exact hf.elim
     | mapo k v l=>exact hf.elim
     | box et' st fs=>exact hf.elim
     | arr et' e' ys=>exact hf.elim
     | frame tm fs=>exact hf.elim
     | loop L=>exact hf.elim
     | itr ik iv il ilf icu=>exact hf.elim
def CR (objs:List (Nat×Obj)) (ren:List (Nat×CD)):Bool:=ren.all fun p=>(lk p.1 objs).isSome
theorem AC {c:Cx} {σ σ':St} (ren:List (Nat×CD)) (h1:B2 ren=true) (h2:CR σ'.objs ren=true) (ho:Ag σ.objs ren σ'.objs) (he:Du σ.env ren σ'.env) (hp:yP c.ds.pin ren=true:=by rfl):pZ c σ σ':=by
 rintro a w ⟨ρ,hs⟩
 let ρ':Nat→Value:=fun m=>match lk m ren with|some (.nm n)=>ρ n|_=>.slice none 0 0
 have hnm:∀m n,lk m ren=some (.nm n)→ρ' m=ρ n:=fun m n hm=>by simp[ρ',hm]
 have hnil:∀m,lk m ren=some .nil→ρ' m=.slice none 0 0:=fun m hm=>by simp[ρ',hm]
 have hL:∀m f,lk m ren=some f→GN σ' m:=fun m f hm=>by
  simp only[CR,List.all_eq_true]at h2
  have:=h2 _ (FY hm)
  exact Option.isSome_iff_exists.1 this
 have src:∀m b,GN σ' m→bk (ρ' m) b→∃n,lk m ren=some (.nm n)∧GN σ n∧bk (ρ n) b:=by
  rintro m b ⟨o,hm⟩ hb
  have hf:=Cy ho hm
  cases hr:lk m ren with
  | none=>rw[hr]at hf;exact hf.elim
  | some f =>
   cases f with
   | nil=>rw[hnil m hr]at hb;simp[bk,blk]at hb
   | nm n =>
    rw[hr]at hf
    rw[hnm m n hr]at hb
    refine⟨n,rfl,?_,hb⟩
    cases hn:lk n σ.objs with
    | none=>simp only[Eu,hn,GC]at hf
    | some x=>exact⟨x,hn⟩
 have hV:Kg ren (vw w c.O0 σ ρ) (vw w c.O0 σ' ρ'):=by
  refine⟨rfl,fun b hb hb'=>?_,hnm,hnil,hL⟩
  rcases hb' with h0|⟨m,hl,hm⟩
  ·exact hb (.inl h0)
  ·obtain⟨n,_,hn,hbn⟩:=src m b hl hm
   exact hb (.inr ⟨n,hn,hbn⟩)
 refine⟨ρ',hs.frm,hs.nt,hs.defers,fun p hpp=>?_,fun m o hm=>?_,fun m b hl hb=>?_,fun m m' b hl hl' hb hb'=>?_,fun s v hv=>?_⟩
 ·obtain⟨g1,g2,g3⟩:=hs.pin p hpp
  simp only[yP,List.all_eq_true]at hp
  have hq:=hp p hpp
  unfold yO at hq
  split at hq
  ·rename_i n hn
   have:n=p.1:=by simpa using hq
   subst this
   exact⟨hL _ _ hn,(hnm _ _ hn).trans g2,g3⟩
  ·cases hq
 ·exact OD hV hs.objs (Cy ho hm)
 ·obtain⟨n,_,hn,hbn⟩:=src m b hl hb
  exact hs.free n b hn hbn
 ·obtain⟨n,h3,hn,hbn⟩:=src m b hl hb
  obtain⟨n',h4,hn',hbn'⟩:=src m' b hl' hb'
  have:=hs.dist n n' b hn hn' hbn hbn'
  subst this
  exact QO h1 h3 h4
 ·have hm:=Kh he hv
  cases hx:lk s σ.env with
  | none =>
   rw[hx]at hm
   cases v<;>simp only[Gp]at hm
   exact trivial
  | some x =>
   rw[hx]at hm
   exact LN hV hm (hs.env s x hx)
end
end
/- Small rules for the executor's own spelling. -/
section
open Go
theorem Da (b:Bool):Nv true (some (.p .bool b))=some b:=by cases b<;>rfl
theorem Cz (b:Bool):Nv false (some (.p .bool b))=some (!b):=by cases b<;>rfl
theorem HL:IntKind.i64.min=-9223372036854775808:=by decide
theorem HN:IntKind.i64.max=9223372036854775807:=by decide
theorem HO:IntKind.u64.min=0:=by decide
theorem HP:IntKind.u64.max=18446744073709551615:=by decide
theorem Jb:IntKind.u8.min=0:=by decide
theorem Jc:IntKind.u8.max=255:=by decide
theorem GQ (n:Int):J3 .i64 n↔-9223372036854775808≤n∧n≤9223372036854775807:=by unfold J3;rw[HL,HN]
theorem Fc (n:Int):J3 .u64 n↔0≤n∧n≤18446744073709551615:=by unfold J3;rw[HO,HP]
theorem Ki (n:Int):J3 .u8 n↔0≤n∧n≤255:=by unfold J3;rw[Jb,Jc]
theorem QQQ {α:Type} (x:α):sub [x] 0 1=[x]:=rfl
theorem Ej {α:Type} (xs:List α) (n:Nat):sub xs 0 n=xs.take n:=by simp[sub]
theorem WM (n:Nat):((n:Int)).toNat=n:=Int.toNat_natCast n
theorem C0 (n:Nat):(0≤(n:Int))=True:=eq_true (Int.natCast_nonneg n)
end
/- An operation sees no more than it looks at: more slots, more objects do not change what it does. -/
section
open Go Go.RowKit
section
variable {tb:Tb} {σ σ':St}
def YJ (σ σ':St):Prop:=∀n o,lk n σ.objs=some o→lk n σ'.objs=some o
theorem lQ (h:YJ σ σ') {e:Ty} {lo hi n:Nat} {d:List e.den} (hs:L6 e lo hi (lk n σ.objs)=some d):L6 e lo hi (lk n σ'.objs)=some d:=by
 cases hn:lk n σ.objs with
 | none=>rw[hn]at hs;simp[L6]at hs
 | some o=>rw[h n o hn,←hn];exact hs
theorem gV (h:YJ σ σ') {e:Ty} {i n:Nat} {d:List e.den} (hs:Li e i (lk n σ.objs)=some d):Li e i (lk n σ'.objs)=some d:=by
 cases hn:lk n σ.objs with
 | none=>rw[hn]at hs;simp[Li]at hs
 | some o=>rw[h n o hn,←hn];exact hs
theorem HT (h:YJ σ σ') {l:Bool} {t:Ty} {x:AV} {d:t.den} (hs:Dc l σ t x=some d):Dc l σ' t x=some d:=by
 unfold Dc at hs ⊢
 split at hs
 ·exact hs
 ·split at hs
  ·rename_i hc
   rw[if_pos hc]
   exact lQ h hs
  ·cases hs
 ·split at hs
  ·rename_i hc
   rw[if_pos hc]
   exact gV h hs
  ·cases hs
 ·exact hs
 ·cases hs
theorem TL (h:YJ σ σ') {l:Bool}:∀ {fs:List AV} {t:Ty} {d:t.den},H9 l σ fs t=some d→H9 l σ' fs t=some d
 | [],t,d,hs=>by simp[H9]at hs
 | [x],t,d,hs=>by
  simp only[H9]at hs ⊢
  exact HT h hs
 | x :: y :: r,t,d,hs=>by
  cases t<;>simp only[H9]at hs ⊢<;>try(cases hs;done)
  rename_i a b
  cases h1:Dc l σ a x with
  | none=>rw[h1]at hs;simp[ID]at hs
  | some d1 =>
   cases h2:H9 l σ (y :: r) b with
   | none=>rw[h1,h2]at hs;simp[ID]at hs
   | some d2 =>
    rw[HT h h1,TL h h2]
    rw[h1,h2]at hs
    exact hs
theorem Fd (h:YJ σ σ') {l:Bool} {t:Ty} {x:AV} {d:t.den} (hs:Iz l σ t x=some d):Iz l σ' t x=some d:=by
 unfold Iz at hs ⊢
 split at hs
 ·exact TL h hs
 ·exact HT h hs
def w8 (σ σ':St) (xs:List Operand):Prop:=∀x∈xs,∀v,Ae σ x=some v→Ae σ' x=some v
theorem Kj (h:YJ σ σ') {e:Ty} {x:AV} {d:List e.den} (hs:Lq σ e x=some d):Lq σ' e x=some d:=by
 unfold Lq at hs ⊢
 split at hs
 ·rename_i n e' lo hi
  cases hn:lk n σ.objs with
  | none =>
   rw[hn]at hs
   have hs:Dc true σ (.slice e) (.sr n e' lo hi)=some d:=by simpa[B8,Iz] using hs
   simp only[Dc,hn]at hs
   split at hs<;>simp[L6]at hs
  | some o =>
   rw[h n o hn]
   rw[hn]at hs
   split at hs
   ·cases hs
   ·rename_i hc
    rw[if_neg hc]
    exact Fd h hs
 ·exact Fd h hs
theorem Q1 (h:YJ σ σ') {l:Bool}:∀ {ts:List Ty} {xs:List Operand} {ds:KU ts},w8 σ σ' xs→Eg l σ ts xs=some ds→Eg l σ' ts xs=some ds
 | [],[],ds,_,hs=>hs
 | [],_ :: _,ds,_,hs=>by simp[Eg]at hs
 | _ :: _,[],ds,_,hs=>by simp[Eg]at hs
 | t :: ts,x :: xs,ds,ho,hs=>by
  simp only[Eg]at hs ⊢
  cases hx:Ae σ x with
  | none=>rw[hx]at hs;cases hs
  | some v =>
   rw[ho x (by simp) v hx]
   rw[hx]at hs
   simp only at hs ⊢
   split at hs
   ·rename_i y ys hy hys
    rw[Fd h hy,Q1 h (fun z hz=>ho z (by simp[hz])) hys]
    exact hs
   ·cases hs
theorem PP (h:YJ σ σ') {e:Ty}:∀ {parts:List (Nat×Operand)} {k:Nat} {xs:List e.den},w8 σ σ' (parts.map (·.2))→Dd σ e k parts=some xs→Dd σ' e k parts=some xs
 | [],k,xs,_,hs=>hs
 | (i,x) :: r,k,xs,ho,hs=>by
  simp only[Dd]at hs ⊢
  split at hs
  ·rename_i hik
   rw[if_pos hik]
   cases hx:Ae σ x with
   | none=>rw[hx]at hs;cases hs
   | some v =>
    rw[ho x (by simp) v hx]
    rw[hx]at hs
    simp only at hs ⊢
    split at hs
    ·rename_i y ys hy hys
     rw[Fd h hy,PP h (fun z hz=>ho z (by simp at hz ⊢;exact .inr hz)) hys]
     exact hs
    ·cases hs
  ·cases hs
theorem WN (h:YJ σ σ') {z:Option AV} {x:Operand} {v:AV} (ho:∀v,Ae σ x=some v→Ae σ' x=some v) (hs:EJ σ z (Ae σ x)=some v):EJ σ' z (Ae σ' x)=some v:=by
 cases hx:Ae σ x with
 | none=>rw[hx]at hs;unfold EJ at hs;split at hs<;>simp at *
 | some a =>
  rw[ho a hx]
  rw[hx]at hs
  unfold EJ at hs ⊢
  split at hs
  ·rename_i t _ l he
   cases he
   simp only[Option.map_eq_some_iff]at hs ⊢
   obtain⟨d,hd,rfl⟩:=hs
   exact⟨d,Fd h hd,rfl⟩
  ·exact hs
theorem M7 (h:YJ σ σ') {offs:List (Nat×Nat)}:∀ {parts:List (Nat×Operand)} {fs gs:List AV},w8 σ σ' (parts.map (·.2))→Cg σ offs fs parts=some gs→Cg σ' offs fs parts=some gs
 | [],fs,gs,_,hs=>hs
 | (i,x) :: r,fs,gs,ho,hs=>by
  simp only[Cg]at hs ⊢
  cases hx:EJ σ fs[i]? (Ae σ x) with
  | none=>rw[hx]at hs;cases hs
  | some v =>
   rw[WN h (ho x (by simp)) hx]
   rw[hx]at hs
   simp only at hs ⊢
   split at hs
   ·rename_i hc
    rw[if_pos hc]
    exact M7 h (fun z hz=>ho z (by simp at hz ⊢;exact .inr hz)) hs
   ·cases hs
theorem Q2:∀ {xs:List Operand} {ns:List Nat},w8 σ σ' xs→Fz σ xs=some ns→Fz σ' xs=some ns
 | [],ns,_,hs=>hs
 | x :: r,ns,ho,hs=>by
  simp only[Fz]at hs ⊢
  split at hs
  ·rename_i n ns' h1 h2
   rw[ho x (by simp) _ h1,Q2 (fun z hz=>ho z (by simp[hz])) h2]
   exact hs
  ·cases hs
theorem QP (h:YJ σ σ') {d:Nat} {op:Op} {r:Prop×AV×List (Nat×Obj)} (ho:w8 σ σ' op.operands.toList) (hs:aq tb σ d op=some r):aq tb σ' d op=some r:=by
 have one:∀ {x:Operand} {f:Option AV→BS},x∈op.operands.toList→f none=none→f (Ae σ x)=some r→f (Ae σ' x)=some r:=by
  intro x f hx hn hf
  cases hv:Ae σ x with
  | none=>rw[hv,hn]at hf;cases hf
  | some v=>rw[ho x hx v hv,←hv];exact hf
 have two:∀ {x y:Operand} {f:Option AV→Option AV→BS},x∈op.operands.toList→y∈op.operands.toList→(∀b,f none b=none)→(∀a,f a none=none)→f (Ae σ x) (Ae σ y)=some r→f (Ae σ' x) (Ae σ' y)=some r:=by
  intro x y f hx hy h1 h2 hf
  cases hv:Ae σ x with
  | none=>rw[hv,h1]at hf;cases hf
  | some v =>
   cases hw:Ae σ y with
   | none=>rw[hw,h2]at hf;cases hf
   | some w=>rw[ho x hx v hv,ho y hy w hw,←hv,←hw];exact hf
 cases op<;>simp only[aq]at hs ⊢<;>try(cases hs;done)
 case move x=>exact one (f:=FO) (by simp[Op.operands]) rfl hs
 case assign x=>exact one (f:=FO) (by simp[Op.operands]) rfl hs
 case pick c x y =>
  cases hc:Ae σ c with
  | none=>rw[hc]at hs;simp[HV]at hs
  | some cv =>
   have e1:=ho c (by simp[Op.operands]) cv hc
   rw[hc]at hs
   rw[e1]
   unfold HV at hs ⊢
   split at hs
   ·rename_i he
    cases he
    exact one (f:=FO) (by simp[Op.operands]) rfl hs
   ·rename_i he
    cases he
    exact one (f:=FO) (by simp[Op.operands]) rfl hs
   ·cases hs
 case alloc t=>exact hs
 case box t x=>exact one (f:=L7 d t (lk t tb.ty)) (by simp[Op.operands]) (by cases lk t tb.ty<;>simp[L7]) hs
 case build t parts =>
  unfold F4 at hs ⊢
  split at hs
  ·rename_i u offs el b he
   cases hp:Cg σ offs (YI u) parts.toList with
   | none=>rw[hp]at hs;simp[FO]at hs
   | some fs =>
    rw[M7 h (by simpa[Op.operands] using ho) hp]
    rw[hp]at hs
    exact hs
  ·cases hs
 case buildSlice t n parts =>
  cases hnl:lk d tb.nests with
  | some iet =>
   rw[hnl]at hs
   simp only[EU]at hs ⊢
   unfold F6 at hs ⊢
   split at hs
   ·rename_i x t1 offs el b hp he
    cases hx:Ae σ x with
    | none=>rw[hx]at hs;unfold F5 at hs;split at hs<;>first|(cases hs;done)|(rename_i h2;cases h2)
    | some av =>
     rw[ho x (by simp[Op.operands,hp]) av hx]
     rw[hx]at hs
     unfold F5 at hs ⊢
     split at hs
     ·rename_i k e x1 y1 hav
      unfold Gf at hs
      split at hs
      ·rename_i a0 ha0
       rw[HT h ha0]
       exact hs
      ·rename_i a0 e' l ha0
       split at hs
       ·rename_i hee
        rw[HT h ha0]
        simp only[Gf,hee,if_true]
        exact hs
       ·cases hs
      ·cases hs
     ·cases hs
   ·cases hs
  | none =>
  rw[hnl]at hs
  simp only[EU]at hs ⊢
  unfold A2 at hs ⊢
  split at hs
  ·rename_i e offs el b he
   cases hp:Dd σ e 0 parts.toList with
   | none=>rw[hp]at hs;simp[A5]at hs
   | some xs =>
    rw[PP h (by simpa[Op.operands] using ho) hp]
    rw[hp]at hs
    exact hs
  ·cases hs
 case load t x =>
  cases hx:Ae σ x with
  | none=>rw[hx]at hs;simp[G2]at hs
  | some v =>
   rw[ho x (by simp[Op.operands]) v hx]
   rw[hx]at hs
   unfold G2 at hs ⊢
   split at hs
   ·rename_i ti n path off he1 he2
    cases hn:lk n σ.objs with
    | none=>rw[hn]at hs;simp[DM]at hs
    | some o=>rw[h n o hn,←hn];exact hs
   ·rename_i ti n e i path off he1 he2
    cases hn:lk n σ.objs with
    | none=>rw[hn]at hs;simp[DN]at hs
    | some o=>rw[h n o hn,←hn];exact hs
   ·exact hs
   ·cases hs
 case nilCheck x=>exact one (f:=Mo) (by simp[Op.operands]) (by simp[Mo]) hs
 case binOp op t x y t'=>exact two (f:=Lj op (lk t tb.ty)) (by simp[Op.operands]) (by simp[Op.operands]) (fun b=>by simp[Lj]) (fun a=>by cases a<;>simp[Lj]) hs
 case unOp op t x=>exact one (f:=Zq op) (by simp[Op.operands]) (by cases op<;>simp[Zq]) hs
 case convert s t x=>exact one (f:=G7 (lk s tb.ty) (lk t tb.ty)) (by simp[Op.operands]) (by cases lk s tb.ty<;>cases lk t tb.ty<;>simp[G7]) hs
 case makeSlice t l c=>exact two (f:=GT tb d (lk t tb.ty)) (by simp[Op.operands]) (by simp[Op.operands]) (fun b=>by cases lk t tb.ty<;>simp[GT]) (fun a=>by cases lk t tb.ty<;>simp[GT]) hs
 case slice t x lo hi mx =>
  cases mx with
  | some m =>
   cases lo with
   | some _=>cases hi<;>simp[aq]at hs
   | none =>
    cases hi with
    | none=>simp[aq]at hs
    | some h1 =>
     simp only[aq]at hs ⊢
     cases hx:Ae σ x with
     | none=>rw[hx]at hs;cases hl:lk t tb.ty<;>rw[hl]at hs<;>simp[Ci]at hs
     | some v =>
      cases hh:Ae σ h1 with
      | none=>rw[hx,hh]at hs;cases hl:lk t tb.ty<;>rw[hl]at hs<;>simp[Ci]at hs
      | some hv =>
       cases hm:Ae σ m with
       | none=>rw[hx,hh,hm]at hs;cases hl:lk t tb.ty<;>rw[hl]at hs<;>simp[Ci]at hs
       | some mv =>
        rw[ho x (by simp[Op.operands]) v hx,ho h1 (by simp[Op.operands]) hv hh,ho m (by simp[Op.operands]) mv hm]
        rw[hx,hh,hm]at hs
        exact hs
  | none =>
   simp only[aq]at hs ⊢
   have opt:∀ {y:Option Operand},(∀z,y=some z→z∈(Op.slice t x lo hi none).operands.toList)→∀w,E2 σ y=some w→E2 σ' y=some w:=by
    intro y hy w hw
    cases y with
    | none=>exact hw
    | some z =>
     simp only[E2,Option.map_eq_some_iff]at hw ⊢
     obtain⟨v,hv,rfl⟩:=hw
     exact⟨v,ho z (hy z rfl) v hv,rfl⟩
   cases hx:Ae σ x with
   | none=>rw[hx]at hs;cases hl:lk t tb.ty<;>rw[hl]at hs<;>simp[D9]at hs
   | some v =>
    cases h1:E2 σ lo with
    | none=>rw[h1]at hs;cases hl:lk t tb.ty<;>rw[hl]at hs<;>simp[D9]at hs
    | some a =>
     cases h2:E2 σ hi with
     | none=>rw[h2]at hs;cases hl:lk t tb.ty<;>rw[hl]at hs<;>simp[D9]at hs
     | some b =>
      rw[ho x (by simp[Op.operands]) v hx,opt (by rintro z rfl;simp[Op.operands]) a h1,opt (by rintro z rfl;simp[Op.operands]) b h2]
      rw[hx,h1,h2]at hs
      exact hs
 case fieldAddr s x f=>exact one (f:=Et f (lk s tb.ty)) (by simp[Op.operands]) (by cases lk s tb.ty<;>simp[Et]) hs
 case indexAddr t x i=>exact two (f:=EK (lk t tb.ty)) (by simp[Op.operands]) (by simp[Op.operands]) (fun b=>by cases lk t tb.ty<;>simp[EK]) (fun a=>by cases lk t tb.ty<;>simp[EK]) hs
 case index t x i=>exact two (f:=Cs (lk t tb.ty)) (by simp[Op.operands]) (by simp[Op.operands]) (fun b=>by cases lk t tb.ty<;>simp[Cs]) (fun a=>by cases lk t tb.ty<;>simp[Cs]) hs
 case extract x i=>exact one (f:=Ct i) (by simp[Op.operands]) (by simp[Ct]) hs
 case makeFunc fn first captured =>
  unfold Pu at hs ⊢
  split at hs
  ·rename_i f hf
   cases hc:Fz σ captured.toList with
   | none=>rw[hc]at hs;simp[J5]at hs
   | some ns =>
    rw[Q2 (fun z hz=>ho z (by simp[Op.operands]at hz ⊢;exact .inr hz)) hc]
    rw[hc]at hs
    exact hs
  ·cases hs
 case makeMap t res =>
  cases res with
  | some z=>simp[aq]at hs
  | none=>simp only[aq]at hs ⊢;exact hs
 case lookup t x i ok =>
  cases hx:Ae σ x with
  | none=>rw[hx]at hs;simp[GV]at hs
  | some xv =>
   cases hi:Ae σ i with
   | none=>rw[hx,hi]at hs;simp[GV]at hs
   | some iv =>
    rw[ho x (by simp[Op.operands]) xv hx,ho i (by simp[Op.operands]) iv hi]
    rw[hx,hi]at hs
    unfold GV at hs ⊢
    split at hs
    ·rename_i k e _ _ n z he1 he2 he3
     cases he2;cases he3
     cases hn:lk n σ.objs with
     | none=>rw[hn]at hs;simp[FU]at hs
     | some o =>
      rw[hn]at hs
      rw[h n o hn]
      unfold FU at hs ⊢
      split at hs
      ·rename_i kt vt l ho
       cases ho
       split at hs
       ·rename_i hc
        rw[if_pos hc]
        cases hk:Iz false σ kt iv with
        | none=>rw[hk]at hs;simp[Gi]at hs
        | some kd=>rw[Fd h hk];rw[hk]at hs;exact hs
       ·cases hs
      ·cases hs
    ·cases hs
 case call c =>
  obtain⟨callee,args,argTypes⟩:=c
  have hargs:∀x∈args.toList,x∈(Op.call ⟨callee,args,argTypes⟩).operands.toList:=fun x hx=>by
   have:x∈args:=by simpa using hx
   cases callee<;>simp[Op.operands,Call.operands,this]
  cases callee with
  | invoke r m=>simp[B5]at hs
  | value g =>
   simp only[B5]at hs ⊢
   cases hg:Ae σ g with
   | none=>rw[hg]at hs;simp[IE]at hs
   | some gv =>
    rw[ho g (by simp[Op.operands,Call.operands]) gv hg]
    rw[hg]at hs
    unfold IE at hs ⊢
    split at hs
    ·rename_i f he
     cases hsp:lk f tb.fns with
     | none=>rw[hsp]at hs;simp[F8]at hs
     | some sp =>
      rw[hsp]at hs
      simp only[F8]at hs ⊢
      cases hds:Eg sp.lend σ sp.ins args.toList with
      | none=>rw[hds]at hs;simp[Gh]at hs
      | some ds =>
       rw[Q1 h (fun x hx=>ho x (hargs x hx)) hds]
       rw[hds]at hs
       exact hs
    ·cases hs
  | builtin b =>
   simp only[B5]at hs ⊢
   obtain⟨args⟩:=args
   obtain⟨argTypes⟩:=argTypes
   simp only at hs hargs ⊢
   unfold B9 at hs ⊢
   split at hs
   ·exact one (f:=L8 (lk _ tb.ty)) (hargs _ (by simp)) (by cases lk _ tb.ty<;>simp[L8]) hs
   ·rename_i x y t u
    cases hx:Ae σ x with
    | none=>rw[hx]at hs;simp[Bw]at hs
    | some xv =>
     cases hy:Ae σ y with
     | none=>rw[hx,hy]at hs;simp[Bw]at hs
     | some yv =>
      rw[ho x (hargs _ (by simp)) xv hx,ho y (hargs _ (by simp)) yv hy]
      rw[hx,hy]at hs
      unfold Bw at hs ⊢
      split at hs
      ·split at hs
       ·rename_i htu
        simp only[htu,if_true]
        rename_i he1 he2
        cases he2
        rw[htu]at hs
        cases hl:lk u tb.ty with
        | none=>rw[hl]at hs;simp[Cu]at hs
        | some ti =>
         rw[hl]at hs
         unfold Cu at hs ⊢
         split at hs
         ·rename_i e offs el b he
          cases hv:Lq σ e yv with
          | none=>rw[hv]at hs;cases hl2:lk el tb.ty<;>rw[hl2]at hs<;>simp[DP]at hs
          | some ys =>
           rw[hv]at hs
           rw[Kj h hv]
           exact hs
         ·cases hs
       ·cases hs
      ·split at hs
       ·rename_i htu
        simp only[htu,if_true]
        rename_i he1 he2
        cases he2
        rw[htu]at hs
        cases hl:lk u tb.ty with
        | none=>rw[hl]at hs;simp[F7]at hs
        | some ti =>
         rw[hl]at hs
         unfold F7 at hs ⊢
         split at hs
         ·rename_i e offs el b he
          split at hs
          ·rename_i hee
           simp only[hee,if_true]
           cases hv:Lq σ _ yv with
           | none=>rw[hv]at hs;cases hl2:lk el tb.ty<;>rw[hl2]at hs<;>simp[Gg]at hs
           | some ys =>
            rw[hv]at hs
            rw[Kj h hv]
            exact hs
          ·cases hs
         ·cases hs
       ·cases hs
      ·cases hs
   ·exact two (f:=Lk) (hargs _ (by simp)) (hargs _ (by simp)) (fun b=>by simp[Lk]) (fun a=>by cases a<;>simp[Lk]) hs
   ·exact two (f:=Ll) (hargs _ (by simp)) (hargs _ (by simp)) (fun b=>by simp[Ll]) (fun a=>by cases a<;>simp[Ll]) hs
   ·rename_i x y z t u t3
    cases hx:Ae σ x with
    | none=>rw[hx]at hs;simp[GU]at hs
    | some xv =>
     cases hy:Ae σ y with
     | none=>rw[hx,hy]at hs;simp[GU]at hs
     | some yv =>
      cases hz:Ae σ z with
      | none=>rw[hx,hy,hz]at hs;simp[GU]at hs
      | some zv =>
       rw[ho x (hargs _ (by simp)) xv hx,ho y (hargs _ (by simp)) yv hy,ho z (hargs _ (by simp)) zv hz,←hx,←hy,←hz]
       exact hs
   ·cases hs
end
end
end Go.Proofs.YtdapahgnpbehbaaGreat.Fw
