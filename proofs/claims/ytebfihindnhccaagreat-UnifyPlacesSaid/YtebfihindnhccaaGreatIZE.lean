/- One operation, a sequence, loops, the entry and the end of a function: the rules. -/
/- One step; operations in the order of the text. -/
import Derived.Test.YtebfihindnhccaaGreatIZD
import Derived.Deep.LoopGhost
import Derived.ControlIn
set_option linter.unusedVariables false
set_option linter.unusedSimpArgs false
namespace Go.Proofs.YtebfihindnhccaaGreat.Fw
section
open Go Go.RowKit
structure Cx where
 P:Program
 tb:Tb
 w0:World
 K:Nat→Prop
 O0:Nat→Prop
 nt:Nat
 /-- the frame's deferred calls; names that stay -/
 ds:Fp:={}
 /-- the round's loop -/
 r:Option Nat:=none
structure Cx.Ok (c:Cx):Prop where
 K:∀b,c.K b→b<c.w0.heap.size
 O:∀b,c.O0 b→b<c.w0.heap.size
 T:Dp c.P c.tb
 F:MY c.P c.tb
def Cx.sat (c:Cx) (σ:St) (a:Act) (w:World):Prop:=∃ρ,Bq c.w0 c.K c.O0 c.nt c.ds σ ρ a w
section
variable {c:Cx}
theorem A0b (hc:c.Ok) {σ:St} {ρ:Nat→Value} {a:Act} {w:World} (h:Bq c.w0 c.K c.O0 c.nt c.ds σ ρ a w):A4g c.P c.tb w c.O0 σ ρ a where
 hT:=hc.T
 hF:=hc.F
 obj:=h.objs
 own:=by
  intro b hb
  rcases hb with h0|⟨n,⟨o,ho⟩,hb⟩
  ·exact Nat.lt_of_lt_of_le (hc.O b h0) h.frm.size
  ·exact(h.objs n o ho).block_lt hb
 ev:=F1 h.env
theorem uK (hc:c.Ok) {σ σ':St} {ρ:Nat→Value} {a:Act} {w:World} (hs:Bq c.w0 c.K c.O0 c.nt c.ds σ ρ a w) {o:Oper} {vc:Prop} (h:E7 c.tb σ o.dst o.op=some (vc,σ')) (hvc:vc) (hd:∀d,o.dst=some d→d<c.nt)
  {next:Act→World→Prop} {Q:Exit→Act→World→Prop} (hn:∀a' w',c.sat σ' a' w'→next a' w'):o.wpIn (FR c.r) 0 c.P a w next Q:=by
 obtain⟨dst,op,type,pos,after,guard⟩:=o
 simp only at h hd
 cases op<;>simp only[E7]at h<;>try(cases h;done)
 case store t x y =>
  cases dst with
  | some d=>simp[DZ]at h
  | none =>
   simp only[DZ]at h
   obtain⟨w',ρ',h1,h2⟩:=cN (P:=c.P) hs hc.K hc.O hc.T h hvc
   exact gH (w':=w') (by simp[execOp,h1]) (hn _ _ ⟨ρ',h2⟩)
 case mapUpdate t m x y =>
  cases dst with
  | some d=>simp[DZ]at h
  | none =>
   simp only[DZ]at h
   obtain⟨w',h1,h2⟩:=pS (P:=c.P) hs hc.K hc.T h
   exact gH (w':=w') (by simp[execOp,h1]) (hn _ _ ⟨ρ,h2⟩)
 case call cl =>
  obtain⟨callee,args,argTypes⟩:=cl
  cases callee with
  | value g=>simp[Cp]at h
  | invoke r m=>simp[Cp]at h
  | builtin b =>
   simp only[Cp]at h
   obtain⟨args⟩:=args
   obtain⟨argTypes⟩:=argTypes
   simp only at h
   unfold DK at h
   split at h
   ·rename_i x y t u
    obtain⟨z,w',ρ',h1,h2⟩:=cM (P:=c.P) (ty:=type) hs hc.K hc.O hc.T hd h hvc
    exact A3 (u:=z) (w':=w') (by simp[execOp,resolve,invoke,builtin,h1]) (hn _ _ ⟨ρ',h2⟩)
   ·cases h
theorem Nv (hc:c.Ok) {σ σ':St} {a:Act} {w:World} (hs:c.sat σ a w) {o:Oper} {vc:Prop} (h:Fq c.tb o σ=some (vc,σ')) (hvc:vc) (hd:∀d,o.dst=some d→d<c.nt)
  {next:Act→World→Prop} {Q:Exit→Act→World→Prop} (hn:∀a' w',c.sat σ' a' w'→next a' w'):o.wpIn (FR c.r) 0 c.P a w next Q:=by
 obtain⟨ρ,hs⟩:=hs
 have hs:=JW (l:=B4 σ o.op) hs
 unfold Fq Ni at h
 generalize CZ (B4 σ o.op) σ=σ1 at h hs
 cases hq:aq c.tb σ1 (o.dst.getD 0) o.op with
 | some r =>
  obtain⟨vc',v,obs⟩:=r
  rw[hq]at h
  simp only[J4]at h
  split at h
  ·rename_i hf
   cases h
   exact gE (A0b hc hs) hq hvc hf fun u ρ' w' hqs=>hn _ _ ⟨ρ',hs.add hc.K hc.O hd hf hqs⟩
  ·cases h
 | none =>
  rw[hq]at h
  exact uK hc hs h hvc hd hn
theorem Gq {ops:Array Oper} {σ:St} {a:Act} {w:World} (hs:c.sat σ a w) {o:Oper} {b:Bool} (h:EU ops.toList σ o.guard=some b):Region.wanted o (yielded ops a.tmps)=b:=by
 obtain⟨ρ,hs⟩:=hs
 unfold EU at h
 split at h
 ·rename_i hg
  cases h
  simp[Region.wanted,hg]
 ·rename_i j want hg
  cases hj:(ops.toList[j]?).bind (·.dst) with
  | none=>rw[hj]at h;simp[JT]at h
  | some g =>
   rw[hj]at h
   simp only[JT]at h
   cases hl:lk g σ.env with
   | none=>rw[hl]at h;simp[PC]at h
   | some v =>
    rw[hl]at h
    unfold PC at h
    split at h
    ·rename_i bb he
     cases he
     cases h
     have hv:=hs.env g _ hl
     have hv:=Dw hv
     have hj':(ops[j]?).bind (·.dst)=some g:=by simpa using hj
     have hget:a.tmps[g]?=some (.bool bb):=by
      by_cases hlt:g<a.tmps.size
      ·have:a.tmps.getD g undef=a.tmps[g]:=by simp[Array.getD,hlt]
       rw[this]at hv
       rw[Array.getElem?_eq_getElem hlt,hv]
      ·have:a.tmps.getD g undef=undef:=by simp[Array.getD,hlt]
       rw[this]at hv
       cases hv
     simp only[Region.wanted,hg,yielded,hj',Option.bind_some,hget]
     cases bb<;>cases want<;>rfl
    ·cases h
theorem Ll {σ:St} {a:Act} {w:World} (hc:c.Ok) (hs:c.sat σ a w) {dst:Option Nat} (hd:∀d,dst=some d→d<c.nt):c.sat (σ.add (.raw undef) [] dst) (a.put dst undef) w:=by
 obtain⟨ρ,hs⟩:=hs
 exact⟨ρ,hs.add hc.K hc.O hd (by simp[BT]) (QS.still rfl)⟩
def HD (nt:Nat) (o:Oper):Bool :=
 match o.dst with
 | some d=>decide (d<nt)
 | none=>true
theorem Cb {nt:Nat} {o:Oper} (h:HD nt o=true):∀d,o.dst=some d→d<nt:=by
 intro d hd
 simpa[HD,hd] using h
theorem PH (hc:c.Ok) {ops:Array Oper} {Q:Exit→Act→World→Prop} {r:List Oper}:∀(l:List Oper) {σ σ':St} {vc:Prop} {a:Act} {w:World},c.sat σ a w→(∀o∈l,HD c.nt o=true)→Bi c.tb ops.toList l σ=some (vc,σ')→vc →
  (∀a' w',c.sat σ' a' w'→wpListIn (FR c.r) 0 c.P ops Q r a' w')→wpListIn (FR c.r) 0 c.P ops Q (l++r) a w
 | [],σ,σ',vc,a,w,hs,hd,h,hvc,hQ=>by
  simp only[Bi]at h
  cases h
  exact hQ _ _ hs
 | o :: l,σ,σ',vc,a,w,hs,hd,h,hvc,hQ=>by
  simp only[Bi]at h
  cases hg:EU ops.toList σ o.guard with
  | none=>rw[hg]at h;simp[evG]at h
  | some b =>
   rw[hg]at h
   have hw:=Gq hs hg
   have hdo:=Cb (hd o (by simp))
   rw[List.cons_append]
   unfold wpListIn
   cases b with
   | true =>
    simp only[evG]at h
    rw[if_pos hw]
    cases hst:Fq c.tb o σ with
    | none=>rw[hst]at h;simp[evK]at h
    | some r =>
     obtain⟨vc1,σ1⟩:=r
     rw[hst]at h
     simp only[evK]at h
     cases hr:Bi c.tb ops.toList l σ1 with
     | none=>rw[hr]at h;simp[Uc]at h
     | some r2 =>
      obtain⟨vc2,σ2⟩:=r2
      rw[hr]at h
      simp only[Uc]at h
      cases h
      exact Nv hc hs hst hvc.1 hdo fun a' w' hs'=>PH hc l hs' (fun o' ho'=>hd o' (by simp[ho'])) hr hvc.2 hQ
   | false =>
    simp only[evG]at h
    rw[if_neg (by simp[hw])]
    refine⟨fun _ _=>trivial,?_⟩
    exact PH hc l (Ll hc hs hdo) (fun o' ho'=>hd o' (by simp[ho'])) h hvc hQ
theorem Nw (hc:c.Ok) {ops:Array Oper} {Q:Exit→Act→World→Prop}:∀(l:List Oper) {σ σ':St} {vc:Prop} {a:Act} {w:World},c.sat σ a w→(∀o∈l,HD c.nt o=true)→Bi c.tb ops.toList l σ=some (vc,σ')→vc →
  (∀a' w',c.sat σ' a' w'→Q .normal a' w')→wpListIn (FR c.r) 0 c.P ops Q l a w
 | [],σ,σ',vc,a,w,hs,hd,h,hvc,hQ=>by
  simp only[Bi]at h
  cases h
  exact hQ _ _ hs
 | o :: l,σ,σ',vc,a,w,hs,hd,h,hvc,hQ=>by
  simp only[Bi]at h
  cases hg:EU ops.toList σ o.guard with
  | none=>rw[hg]at h;simp[evG]at h
  | some b =>
   rw[hg]at h
   have hw:=Gq hs hg
   have hdo:=Cb (hd o (by simp))
   unfold wpListIn
   cases b with
   | true =>
    simp only[evG]at h
    rw[if_pos hw]
    cases hst:Fq c.tb o σ with
    | none=>rw[hst]at h;simp[evK]at h
    | some r =>
     obtain⟨vc1,σ1⟩:=r
     rw[hst]at h
     simp only[evK]at h
     cases hr:Bi c.tb ops.toList l σ1 with
     | none=>rw[hr]at h;simp[Uc]at h
     | some r2 =>
      obtain⟨vc2,σ2⟩:=r2
      rw[hr]at h
      simp only[Uc]at h
      cases h
      exact Nv hc hs hst hvc.1 hdo fun a' w' hs'=>Nw hc l hs' (fun o' ho'=>hd o' (by simp[ho'])) hr hvc.2 hQ
   | false =>
    simp only[evG]at h
    rw[if_neg (by simp[hw])]
    refine⟨fun _ _=>trivial,?_⟩
    exact Nw hc l (Ll hc hs hdo) (fun o' ho'=>hd o' (by simp[ho'])) h hvc hQ
end
end
/- The executor on code: what is still to do is a list; loops stop it. -/
section
open Go Go.RowKit
inductive D0 where
 | seq (c:Code)
 | blk (id:Nat)
 /-- a round's end -/
 | inv (post:St→Prop)
def Bz (nt:Nat):Code→Bool
 | .region _ ops _=>ops.toList.all (HD nt)
 | .seq a b=>Bz nt a&&Bz nt b
 | .cond _ a b=>Bz nt a&&Bz nt b
 | .block _ b=>Bz nt b
 | .loop b=>Bz nt b
 | .scope b=>Bz nt b
 | _=>true
def Cr (nt:Nat):List D0→Bool
 | []=>true
 | .seq c :: k=>Bz nt c&&Cr nt k
 | _ :: k=>Cr nt k
def RZ (c:Cx) (R:Exit→Act→World→Prop):List D0→Exit→Act→World→Prop
 | [],e,a,w=>R e a w
 | .seq y :: k,.normal,a,w=>y.wpIn (FR c.r) 0 c.P (RZ c R k) a w
 | .seq _ :: k,e,a,w=>RZ c R k e a w
 | .blk id :: k,.exit id',a,w=>if id'=id then RZ c R k .normal a w else RZ c R k (.exit id') a w
 | .blk _ :: k,e,a,w=>RZ c R k e a w
 | .inv post :: _,.normal,a,w=>∃σ,c.sat σ a w∧post σ
 | .inv _ :: k,e,a,w=>RZ c R k e a w
inductive gJ where
 | run (cd:Code)
 | out (e:Exit)
def nwp (c:Cx) (R:Exit→Act→World→Prop) (k:List D0):gJ→Act→World→Prop
 | .run cd,a,w=>cd.wpIn (FR c.r) 0 c.P (RZ c R k) a w
 | .out e,a,w=>RZ c R k e a w
def Hv (nt:Nat):gJ→Bool
 | .run cd=>Bz nt cd
 | .out _=>true
def Ev (c:Cx) (R:Exit→Act→World→Prop) (n:gJ) (k:List D0) (σ:St):Prop :=
 Hv c.nt n=true→Cr c.nt k=true→∀a w,c.sat σ a w→nwp c R k n a w
theorem RK {F:Fence} {rm:Nat} {P:Program} {Q:Exit→Act→World→Prop} {a:Act} {w:World} {c:Code} (I:Nat→Act→World→Prop) (n₀:Nat) (h₀:I n₀ a w)
  (round:∀n a w,I n a w→c.wpIn F rm P (Exit.then (fun a' w'=>∃n',n'<n∧I n' a' w') Q) a w):(Code.loop c).wpIn F rm P Q a w:=by
 refine wpIn_loop (fun a w=>∃n,I n a w) (fun a w=>leastOf (fun n=>I n a w)) ⟨n₀,h₀⟩ ?_
 intro a w hI
 refine wpIn_mono (round _ a w (leastOf_spec hI).1) ?_
 intro e a' w' hq
 cases e with
 | normal =>
  obtain⟨n',hlt,hI'⟩:=hq
  exact show (∃n,I n a' w')∧leastOf (fun n=>I n a' w')<leastOf (fun n=>I n a w) from ⟨⟨n',hI'⟩,Nat.lt_of_le_of_lt ((leastOf_spec ⟨n',hI'⟩).2 n' hI') hlt⟩
 | exit id=>exact hq
 | goto l=>exact hq
 | ret=>exact hq
 | panic ch=>exact hq
 | outgrown=>exact hq
def Ent (c:Cx) (σ σ':St):Prop:=∀a w,c.sat σ a w→c.sat σ' a w
section
variable {c:Cx} {R:Exit→Act→World→Prop} {k:List D0} {σ σ':St}
theorem Ev.ent {n:gJ} (h:Ev c R n k σ') (he:Ent c σ σ'):Ev c R n k σ:=fun h1 h2 a w hs=>h h1 h2 a w (he a w hs)
theorem A3k {x y:Code} (h:Ev c R (.run x) (.seq y :: k) σ):Ev c R (.run (.seq x y)) k σ:=by
 intro h1 h2 a w hs
 simp only[Hv,Bz,Bool.and_eq_true]at h1
 refine wpIn_seq (wpIn_mono (h h1.1 (by simp[Cr,h1.2,h2]) a w hs) ?_)
 intro e a' w' hq
 cases e<;>exact hq
theorem A0d (h:Ev c R (.out .normal) k σ):Ev c R (.run .skip) k σ:=fun _ h2 a w hs=>wpIn_skip (h rfl h2 a w hs)
theorem A3l (h:Ev c R (.out .ret) k σ):Ev c R (.run .ret) k σ:=fun _ h2 a w hs=>wpIn_ret (h rfl h2 a w hs)
theorem A0e {id:Nat} (h:Ev c R (.out (.exit id)) k σ):Ev c R (.run (.exit id)) k σ:=fun _ h2 a w hs=>wpIn_exit (h rfl h2 a w hs)
theorem uL {id:Nat} {b:Code} (h:Ev c R (.run b) (.blk id :: k) σ):Ev c R (.run (.block id b)) k σ:=by
 intro h1 h2 a w hs
 refine wpIn_block (wpIn_mono (h (by simpa[Hv,Bz] using h1) (by simpa[Cr] using h2) a w hs) ?_)
 intro e a' w' hq
 cases e<;>exact hq
def EvR (c:Cx) (R:Exit→Act→World→Prop) (k:List D0):Cj→Prop
 | some (vc,σ)=>vc∧Ev c R (.out .normal) k σ
 | none=>False
theorem pU (hc:c.Ok) {id:Nat} {ops:Array Oper} (h:EvR c R k (Bi c.tb ops.toList ops.toList σ)):Ev c R (.run (.region id ops false)) k σ:=by
 intro h1 h2 a w hs
 cases hr:Bi c.tb ops.toList ops.toList σ with
 | none=>rw[hr]at h;exact h.elim
 | some r =>
  obtain⟨vc,σ'⟩:=r
  rw[hr]at h
  simp only[Hv,Bz,List.all_eq_true]at h1
  exact wpIn_region_list (Nw hc ops.toList hs h1 hr h.1 fun a' w' hs'=>h.2 rfl h2 a' w' hs')
def EvC (c:Cx) (R:Exit→Act→World→Prop) (x y:Code) (k:List D0) (σ:St):Option AV→Prop
 | some (.p .bool b)=>(b=true→Ev c R (.run x) k σ)∧(b=false→Ev c R (.run y) k σ)
 | _=>False
theorem A0f {o:Operand} {x y:Code} (h:EvC c R x y k σ (Av σ o)):Ev c R (.run (.cond o x y)) k σ:=by
 intro h1 h2 a w hs
 simp only[Hv,Bz,Bool.and_eq_true]at h1
 obtain⟨ρ,hs'⟩:=hs
 have hev:=F1 hs'.env
 cases ho:Av σ o with
 | none=>rw[ho]at h;exact h.elim
 | some v =>
  have hv:=hev o v ho
  rw[ho]at h
  unfold EvC at h
  split at h
  ·rename_i b he
   cases he
   have hb:=Dw hv
   exact wpIn_cond_split hb (fun hb=>h.1 hb h1.1 h2 a w ⟨ρ,hs'⟩) (fun hb=>h.2 hb h1.2 h2 a w ⟨ρ,hs'⟩)
  ·exact h.elim
theorem cO {y:Code} (h:Ev c R (.run y) k σ):Ev c R (.out .normal) (.seq y :: k) σ:=by
 intro _ h2 a w hs
 simp only[Cr,Bool.and_eq_true]at h2
 exact h h2.1 h2.2 a w hs
theorem Yu {id:Nat} {y:Code} (h:Ev c R (.out (.exit id)) k σ):Ev c R (.out (.exit id)) (.seq y :: k) σ:=by
 intro _ h2 a w hs
 simp only[Cr,Bool.and_eq_true]at h2
 exact h rfl h2.2 a w hs
theorem cQ {y:Code} (h:Ev c R (.out .ret) k σ):Ev c R (.out .ret) (.seq y :: k) σ:=by
 intro _ h2 a w hs
 simp only[Cr,Bool.and_eq_true]at h2
 exact h rfl h2.2 a w hs
theorem cR {id:Nat} (h:Ev c R (.out .normal) k σ):Ev c R (.out .normal) (.blk id :: k) σ:=fun _ h2 a w hs=>h rfl (by simpa[Cr] using h2) a w hs
theorem Qh {id id':Nat} (h:if id'=id then Ev c R (.out .normal) k σ else Ev c R (.out (.exit id')) k σ):Ev c R (.out (.exit id')) (.blk id :: k) σ:=by
 intro _ h2 a w hs
 have h2:Cr c.nt k=true:=by simpa[Cr] using h2
 show (if id'=id then RZ c R k .normal a w else RZ c R k (.exit id') a w)
 split at h
 ·rename_i he;rw[if_pos he];exact h rfl h2 a w hs
 ·rename_i he;rw[if_neg he];exact h rfl h2 a w hs
theorem cS {id:Nat} (h:Ev c R (.out .ret) k σ):Ev c R (.out .ret) (.blk id :: k) σ:=fun _ h2 a w hs=>h rfl (by simpa[Cr] using h2) a w hs
theorem AB {post:St→Prop} (h:post σ):Ev c R (.out .normal) (.inv post :: k) σ:=fun _ _ _ _ hs=>⟨σ,hs,h⟩
theorem Yv {id:Nat} {post:St→Prop} (h:Ev c R (.out (.exit id)) k σ):Ev c R (.out (.exit id)) (.inv post :: k) σ:=fun _ h2 a w hs=>h rfl (by simpa[Cr] using h2) a w hs
theorem cU {post:St→Prop} (h:Ev c R (.out .ret) k σ):Ev c R (.out .ret) (.inv post :: k) σ:=fun _ h2 a w hs=>h rfl (by simpa[Cr] using h2) a w hs
def A4h (c:Cx) {ι:Type} (I:ι→St) (μ:ι→Nat) (i:ι) (σ:St):Prop:=∃j,μ j<μ i∧Ent c σ (I j)
theorem AL {ι:Type} (I:ι→St) (μ:ι→Nat) (i0:ι) {b:Code} (h0:Ent c σ (I i0)) (hb:∀i,Ev c R (.run b) (.inv (A4h c I μ i) :: k) (I i)):Ev c R (.run (.loop b)) k σ:=by
 intro h1 h2 a w hs
 have h1:Bz c.nt b=true:=by simpa[Hv,Bz] using h1
 refine RK (fun n a w=>∃i,μ i=n∧c.sat (I i) a w) (μ i0) ⟨i0,rfl,h0 a w hs⟩ ?_
 rintro n a w ⟨i,rfl,hs⟩
 refine wpIn_mono (hb i h1 (by simpa[Cr] using h2) a w hs) ?_
 intro e a' w' hq
 cases e with
 | normal =>
  obtain⟨σ',hs',j,hj,he⟩:=hq
  exact⟨μ j,hj,j,rfl,he a' w' hs'⟩
 | _=>exact hq
end
end
/- A call: how it begins and how it ends. -/
section
open Go Go.RowKit
def AN:Nat→(ts:List Ty)→KP ts→List (Nat×AV)
 | _,[],_=>[]
 | s,t :: ts,d=>(s,.p t d.1) :: AN (s+1) ts d.2
def JY (σ:St) (ty:Ty):Option AV→Option AV
 | some (.bp n path off)=>match Ef ty path off (lk n σ.objs) with
  | some (_,v,_)=>some v
  | none=>none
 | _=>none
def Iq (tb:Tb) (σ:St):ResultVar→Option AV
 | .tmp t=>lk t σ.env
 | .cell a t=>match lk t tb.ty with
  | some ti=>JY σ ti.ty (lk a σ.env)
  | none=>none
def Lm:Option AV→List Nat
 | some v=>v.names
 | none=>[]
def IM (σ:St) (t:Ty):Option AV→Option t.den
 | some v=>Ml false σ t v
 | none=>none
def Ir (σ:St) (et:TypeId) (e:Ty):Option Obj→Option (List e.den)
 | some (.arr et' e' xs)=>if et'=et then BL (.slice e) ⟨.slice e',xs⟩ else none
 | _=>none
def Kh (tb:Tb) (σ:St) (rv:ResultVar):RV→Prop
 | .p t d=>IM (CZ (Lm (Iq tb σ rv)) σ) t (Iq tb (CZ (Lm (Iq tb σ rv)) σ) rv)=some d
 | .own et e xs=>match Iq tb σ rv with
  | some (.sr n e' 0 hi)=>e'=e∧Ir σ et e (lk n σ.objs)=some xs∧hi=xs.length
  | _=>False
def Nx (tb:Tb) (σ:St):List ResultVar→List RV→Prop
 | [],[]=>True
 | [rv],[r]=>Kh tb σ rv r
 | rv :: rvs,.p t d :: rs=>Kh tb σ rv (.p t d)∧Nx tb σ rvs rs
 | _,_=>False
section
variable {P:Program} {tb:Tb} {w0:World} {O0:Nat→Prop} {nt:Nat} {ds:Fp}
def cx (P:Program) (tb:Tb) (w0:World) (O0:Nat→Prop) (nt:Nat):Cx:={ P:=P,tb:=tb,w0:=w0,K:=fun b=>b<w0.heap.size,O0:=O0,nt:=nt }
theorem VH:∀(ts:List Ty) (vs:List Value) (ds:KP ts) (k:Nat) (w:World) (O:Nat→Prop),QY w O ts vs ds→∀s v,lk s (AN k ts ds)=some v→k≤s∧∃u,vs[s-k]?=some u∧∃t d,v=.p t d∧Bk w O t u d
 | [],vs,ds,k,w,O,h,s,v,hs=>by simp[AN,lk]at hs
 | t :: ts,vs,ds,k,w,O,h,s,v,hs=>by
  obtain⟨u,r,rfl,h1,h2⟩:=h
  simp only[AN,lk]at hs
  split at hs
  ·rename_i e
   cases hs
   subst e
   exact⟨Nat.le_refl _,u,by simp,t,ds.1,rfl,h1⟩
  ·obtain⟨h3,u',h4,h5⟩:=VH ts r ds.2 (k+1) w O h2 s v hs
   refine⟨by omega,u',?_,h5⟩
   rw[show s-k=(s-(k+1))+1 by omega]
   simpa using h4
theorem Qi:∀ {ts:List Ty} {vs:List Value} {ds:KP ts} {w:World} {O:Nat→Prop},QY w O ts vs ds→vs.length=ts.length
 | [],vs,ds,w,O,h=>by have h:vs=[]:=h;subst h;rfl
 | t :: ts,vs,ds,w,O,h=>by
  obtain⟨u,r,rfl,h1,h2⟩:=h
  simp[Qi h2]
theorem pV {ts:List Ty} {vs:List Value} {ds:KP ts} (h:QY w0 O0 ts vs ds) (hnt:vs.length≤nt) :
  (cx P tb w0 O0 nt).sat ⟨AN 0 ts ds,[]⟩ { tmps:=vs.toArray++Array.replicate (nt-vs.toArray.size) undef,defers:=[] } w0:=by
 refine⟨fun _=>undef,⟨rfl,rfl,rfl,Nat.le_refl _,fun _ _=>rfl⟩,by simp[cx];omega,rfl,(fun p hp=>by simp[cx]at hp),fun n o h=>by simp[lk]at h,fun n b ⟨o,h⟩=>by simp[lk]at h,fun n m b ⟨o,h⟩=>by simp[lk]at h,fun s v hs=>?_⟩
 obtain⟨_,u,h1,t,d,rfl,h2⟩:=VH ts vs ds 0 w0 O0 h s v hs
 have hlt:s<vs.length:=by
  have:=(List.getElem?_eq_some_iff.1 h1).1
  simpa using this
 have hget:(vs.toArray++Array.replicate (nt-vs.toArray.size) undef).getD s undef=u:=by
  have h1:vs[s]?=some u:=by simpa using h1
  have:vs[s]=u:=by rw[List.getElem?_eq_getElem hlt]at h1;injection h1
  simp[Array.getElem?_append,hlt,this]
 rw[hget]
 refine Bk.mono (fun b _ hb hb'=>?_) (fun _ _ _=>rfl) h2
 rcases hb' with h0|⟨n,⟨o,ho⟩,_⟩
 ·exact hb h0
 ·simp[lk]at ho
def It (tmps:Array Value):ResultVar→Sem Value
 | .tmp t=>pure (tmps.getD t undef)
 | .cell a t=>do loadVar t (←asAddr (tmps.getD a undef))
theorem Mt (fn:Func) (tmps:Array Value):results fn tmps=(do let vs ←fn.results.mapM (It tmps);pure (if h:vs.size=1 then vs[0] else .tuple vs)):=by
 unfold results
 congr 1
theorem Ra (hT:Dp P tb) {K:Nat→Prop} {σ:St} {ρ:Nat→Value} {a:Act} {w:World} (hs:Bq w0 K O0 nt ds σ ρ a w) {rv:ResultVar} {v:AV} (h:Iq tb σ rv=some v) :
  ∃u,(It a.tmps rv).run P w=.ok u w∧B5 (vw w O0 σ ρ) v u:=by
 cases rv with
 | tmp t =>
  simp only[Iq]at h
  exact⟨_,by simp[It],hs.env t v h⟩
 | cell x t =>
  simp only[Iq]at h
  cases ht:lk t tb.ty with
  | none=>rw[ht]at h;simp at h
  | some ti =>
   rw[ht]at h
   simp only at h
   cases hx:lk x σ.env with
   | none=>rw[hx]at h;simp[JY]at h
   | some xv =>
    rw[hx]at h
    unfold JY at h
    split at h
    ·rename_i n path off he
     cases he
     have hxv:=hs.env x _ hx
     split at h
     ·rename_i vc v' obs hq
      cases h
      have hq':Ik σ (some ti) (some (.bp n path off))=some (vc,v,obs):=hq
      obtain⟨_,u,h1,h2⟩:=t4 (hT _ _ ht) hs.objs hq' hxv
      obtain⟨hL,b,_,hxe⟩:=hxv
      rw[hxe]at h1
      have hxe:a.tmps.getD x undef=.pointer (some ⟨b,off,none⟩):=hxe
      refine⟨u,?_,h2⟩
      simp only[Instr.loadAt,Instr.sureAddr,Sem.run_bind,Sem.run_pure,Result.andThen_ok]at h1
      simp only[It,hxe,asAddr,Sem.run_bind,Sem.run_pure,Result.andThen_ok,h1]
     ·cases h
    ·cases h
theorem A0g (hT:Dp P tb) {K:Nat→Prop} {σ:St} {ρ:Nat→Value} {a:Act} {w:World} (hs:Bq w0 K O0 nt ds σ ρ a w) {rv:ResultVar} {t:Ty} {d:t.den} (h:Kh tb σ rv (.p t d)) :
  ∃u,(It a.tmps rv).run P w=.ok u w∧Bk w O0 t u d:=by
 unfold Kh at h
 have hs1:=JW (l:=Lm (Iq tb σ rv)) hs
 generalize CZ (Lm (Iq tb σ rv)) σ=σ1 at h hs1
 cases hr:Iq tb σ1 rv with
 | none=>rw[hr]at h;simp[IM]at h
 | some v =>
  rw[hr]at h
  simp only[IM]at h
  obtain⟨u,h1,h2⟩:=Ra hT hs1 hr
  have h3:=MV (V:=vw w O0 σ1 ρ) (O':=O0) (fun b hb hb'=>hb (.inl hb')) (fun h=>by cases h) hs1.objs h h2
  exact⟨u,h1,h3⟩
theorem uM (hT:Dp P tb) {K:Nat→Prop} {σ:St} {ρ:Nat→Value} {a:Act} {w:World} (hs:Bq w0 K O0 nt ds σ ρ a w):∀ {rvs:List ResultVar} {rs:List RV},(∀r∈rs,∃t d,r=.p t d)→Nx tb σ rvs rs →
  ∃us:List Value,(rvs.mapM (It a.tmps)).run P w=.ok us w∧us.length=rs.length ∧
   ∀nm V,V.w=w→(∀b,V.O b→O0 b)→Io V (MS nm rs) us
 | [],[],_,_=>⟨[],by simp,rfl,fun _ _ _ _=>rfl⟩
 | [],_ :: _,_,h=>by simp[Nx]at h
 | _ :: _,[],_,h=>by simp[Nx]at h
 | rv :: rvs,r :: rs,hp,h=>by
  obtain⟨t,d,rfl⟩:=hp r (by simp)
  have h12:Kh tb σ rv (.p t d)∧Nx tb σ rvs rs:=by
   cases rvs with
   | nil =>
    cases rs with
    | nil=>exact⟨h,trivial⟩
    | cons r' rs'=>exact⟨h.1,h.2⟩
   | cons rv' rvs'=>exact⟨h.1,h.2⟩
  obtain⟨u,h1,h2⟩:=A0g hT hs h12.1
  obtain⟨us,h3,h4,h5⟩:=uM hT hs (fun r hr=>hp r (by simp[hr])) h12.2
  refine⟨u :: us,?_,by simp[h4],fun nm V hw hO=>⟨u,us,rfl,?_,h5 _ V hw hO⟩⟩
  ·rw[List.mapM_cons]
   simp only[Sem.run_bind,h1,Result.andThen_ok,h3,Sem.run_pure]
  ·show Bk V.w V.O t u d
   rw[hw]
   exact Bk.mono (fun b _ hb hb'=>hb (hO b hb')) (fun _ _ _=>rfl) h2
def Yw (P:Program) (fn:Func) (w0:World) (O0:Nat→Prop) (outs:List RV):Exit→Act→World→Prop :=
 bodyPost P fn fun e w'=>∃u,e=.returned u∧uC w0 O0 outs u w'
theorem uN (hc:(cx P tb w0 O0 nt).Ok) {fn:Func} {outs:List RV} {σ:St} {e:Exit} (he:e=.ret∨e=.normal) (hp:∀r∈outs,∃t d,r=.p t d) (h:Nx tb σ fn.results.toList outs) :
  Ev (cx P tb w0 O0 nt) (Yw P fn w0 O0 outs) (.out e) [] σ:=by
 intro _ _ a w hs
 obtain⟨ρ,hs⟩:=hs
 obtain⟨us,h1,h2,h3⟩:=uM hc.T hs hp h
 have h1:(fn.results.toList.mapM (It a.tmps)).run P w=.ok us w:=h1
 have hbelow:Below w0.heap.size w0 w:=⟨hs.frm.os,hs.frm.tape,hs.frm.output,hs.frm.size,hs.frm.block⟩
 have hres:∃v,(results fn a.tmps).run P w=.ok v w∧uC w0 O0 outs v w:=by
  have hm:(fn.results.mapM (It a.tmps)).run P w=.ok us.toArray w:=by
   rw[Array.mapM_eq_mapM_toList]
   simp only[Sem.run_map,h1,Result.andThen_ok]
  refine⟨if h:us.toArray.size=1 then us.toArray[0] else .tuple us.toArray,?_,fun nm=>⟨fun _=>undef,?_⟩⟩
  ·rw[Mt]
   simp only[Sem.run_bind,hm,Result.andThen_ok,Sem.run_pure]
  ·have hflat:Cl nm outs=[]:=by
    clear h h1 h2 h3
    induction outs generalizing nm with
    | nil=>rfl
    | cons r rs ih =>
     obtain⟨t,d,rfl⟩:=hp r (by simp)
     simp only[Cl,QQ,List.nil_append]
     exact ih (fun r hr=>hp r (by simp[hr])) (nm+10000)
   rw[hflat]
   refine⟨hbelow,fun _ _=>rfl,?_,(fun _ _ h=>by cases h),(fun _ _ _ h=>by cases h),(fun _ _ _ _ _ h=>by cases h)⟩
   have h4:=h3 nm (vw w O0 (Dz ⟨[],[]⟩ []) (fun _=>undef)) rfl (fun b hb=>by
    rcases hb with h0|⟨n,⟨o,ho⟩,_⟩
    ·exact h0
    ·simp[Dz,lk]at ho)
   match outs,hp,us,h2,h4 with
   | [],_,us,h2,h4 =>
    have h4:us=[]:=h4
    subst h4
    exact(rfl:_=_)
   | [r],hp,us,h2,h4 =>
    obtain⟨u,l,rfl,h5,h6⟩:=h4
    have h6:l=[]:=h6
    subst h6
    simp only[Ij]
    exact pP h5
   | r1 :: r2 :: rs,hp,us,h2,h4 =>
    have:¬us.toArray.size=1:=by simp at h2 ⊢;omega
    rw[dif_neg this]
    exact⟨us,rfl,h4⟩
 obtain⟨v,h4,h5⟩:=hres
 rcases he with rfl|rfl
 ·exact⟨hs.defers,v,h4,v,rfl,h5⟩
 ·exact⟨hs.defers,v,h4,v,rfl,h5⟩
end
end
/- A function's contract from the executor; one state inside another. -/
section
open Go Go.RowKit
def Ty.ok:(t:Ty)→t.den→Prop
 | .int k,d=>Lc k d
 | .bool,_=>True
 | .str,d=>ByteArray.size d≤AP
 | .slice e,d=>List.length d≤AP∧∀x∈(d:List e.den),e.ok x
 | .prod a b,d=>a.ok d.1∧b.ok d.2
 | .agg t,d=>t.ok d
 | .ref _,_=>True
theorem HE {w:World} {O:Nat→Prop}:∀ {t:Ty} {cs:List Value} {d:t.den},Bj w O t cs d→t.ok d
 | .int _,_,_,h=>h.2
 | .bool,_,_,_=>trivial
 | .str,_,_,h=>h.2
 | .ref _,_,_,_=>trivial
 | .slice e,_,d,h=>by
  obtain⟨a,c,_,_,h2,h3⟩:=h
  refine⟨h2,fun x hx=>?_⟩
  rcases h3 with h3|⟨ad,_,_,hel⟩
  ·subst h3;simp at hx
  ·obtain⟨i,hi,rfl⟩:=List.mem_iff_getElem.1 hx
   obtain⟨es,_,_,hr⟩:=hel i _ (List.getElem?_eq_getElem hi)
   exact HE hr
 | .prod a b,_,_,h=>by
  obtain⟨c1,c2,_,h1,h2⟩:=h
  exact⟨HE h1,HE h2⟩
 | .agg t,cs,d,h=>by
  have h:Bj w O t cs d:=h
  exact(HE h:t.ok d)
def oks:(ts:List Ty)→KP ts→Prop
 | [],_=>True
 | t :: ts,d=>t.ok d.1∧oks ts d.2
theorem gK {w:World} {O:Nat→Prop}:∀ {ts:List Ty} {vs:List Value} {ds:KP ts},QY w O ts vs ds→oks ts ds
 | [],_,_,_=>trivial
 | t :: ts,vs,ds,h=>by
  obtain⟨v,r,rfl,⟨cs,h1,_⟩,h2⟩:=h
  exact⟨HE h1,gK h2⟩
section
variable {P:Program} {tb:Tb} {w0:World} {O0:Nat→Prop} {nt:Nat}
theorem AU {f : FuncId} {fn : Func} {cd : Code} {sp : Af} (hfn : P.funcs[f]? = some fn) (hname : (fn.name == "runtime.NumGoroutine") = false) (hbody : fn.body = some cd) (hnt : fn.ntmps = nt) (hlen : sp.ins.length ≤ nt)
  (hcode:Bz nt cd=true) (hT:Dp P tb) (hF:MY P tb)
  (h:∀(w0:World) (O0:Nat→Prop) (ds:KP sp.ins),(cx P tb w0 O0 nt).Ok→oks sp.ins ds→sp.pre ds→Ev (cx P tb w0 O0 nt) (Yw P fn w0 O0 (sp.out ds)) (.run cd) [] ⟨AN 0 sp.ins ds,[]⟩):Al P f sp:=by
 refine⟨⟨fn,hfn,hname,by simp[hbody]⟩,fun w O vs ds hO hargs hpre=>?_⟩
 refine calls_of_wp hfn hbody ((wpIn_wide (n:=0)).1 ?_)
 have hvl:=Qi hargs
 rw[hnt]
 exact h w O ds ⟨fun b hb=>hb,hO,hT,hF⟩ (gK hargs) hpre hcode rfl _ _ (pV hargs (by omega))
theorem SO (hc:(cx P tb w0 O0 nt).Ok) {fn:Func} {et:TypeId} {e:Ty} {xs:List e.den} {σ:St} {ex:Exit} (he:ex=.ret∨ex=.normal) {rv:ResultVar} (hr:fn.results=#[rv]) (h:Kh tb σ rv (.own et e xs)) :
  Ev (cx P tb w0 O0 nt) (Yw P fn w0 O0 [.own et e xs]) (.out ex) [] σ:=by
 intro _ _ a w hs
 obtain⟨ρ,hs⟩:=hs
 have hbelow:Below w0.heap.size w0 w:=⟨hs.frm.os,hs.frm.tape,hs.frm.output,hs.frm.size,hs.frm.block⟩
 unfold Kh at h
 simp only at h
 split at h
 ·rename_i n e' hi hrv
  obtain⟨rfl,h2,rfl⟩:=h
  cases hn:lk n σ.objs with
  | none=>rw[hn]at h2;simp[Ir]at h2
  | some o =>
   rw[hn]at h2
   cases o with
   | box et' st fs=>simp[Ir]at h2
   | mapo k v l=>simp[Ir]at h2
   | frame tm fs=>simp[Ir]at h2
   | loop L=>simp[Ir]at h2
   | dfr=>simp[Ir]at h2
   | nest et2 iet k e2 ys hl=>simp[Ir]at h2
   | arr et' e2 ys =>
    simp only[Ir]at h2
    split at h2
    ·rename_i het
     subst het
     obtain⟨rfl,h3⟩:=BW h2
     cases h3
     obtain⟨u,hu,hav⟩:=Ra (P:=P) hc.T hs hrv
     obtain⟨hL,hsl⟩:=hav
     have hobj:=hs.objs n _ hn
     have hloc:u=ρ n:=by
      obtain⟨a0,m,c0,hρ,_,hle,a',c',rfl,_,h0,_⟩:=hsl
      have hρ:plc (ρ n)=_:=hρ
      obtain⟨rfl,rfl⟩:=h0 rfl
      obtain⟨_,cells,how,_⟩:=hobj
      have how:w.ownsRow 0 et' e2.size (ρ n) ys.length cells:=how
      rw[Gn how]at hρ
      have hm:m=ys.length:=by
       rcases how.2 with ⟨he,hnn⟩|⟨g,cap,cur,he,_⟩
       ·rw[hρ]at he;injection he;omega
       ·rw[hρ]at he;injection he
      rw[hρ,hm,Nat.sub_zero]
     have hres:(results fn a.tmps).run P w=.ok u w:=by
      rw[Mt,hr]
      have:((#[rv]:Array ResultVar).mapM (It a.tmps)).run P w=.ok #[u] w:=by
       rw[Array.mapM_eq_mapM_toList]
       simp[hu]
      simp only[Sem.run_bind,this,Result.andThen_ok,Sem.run_pure]
      rfl
     have hR:uC w0 O0 [.own et' e2 ys] u w:=by
      intro nm
      have hlv:∀m,GZ (Dz ⟨[],[]⟩ [(nm,.arr et' e2 ys)]) m↔m=nm:=by
       intro m
       simp[GZ,Dz,lk]
      have hk:∀b,¬own O0 σ ρ b→¬own O0 (Dz ⟨[],[]⟩ [(nm,.arr et' e2 ys)]) (EV (fun _=>undef) nm u) b:=by
       intro b hb hb'
       rcases hb' with h0|⟨m,hl,hm⟩
       ·exact hb (.inl h0)
       ·rw[(hlv m).1 hl,Ba,hloc]at hm
        exact hb (.inr ⟨n,⟨_,hn⟩,hm⟩)
      have hO1:Cl nm [RV.own et' e2 ys]=[(nm,.arr et' e2 ys)]:=rfl
      rw[hO1]
      refine⟨EV (fun _=>undef) nm u,QS.one (loc:=u) hbelow (fun b hb=>?_) ?_ ?_⟩
      ·rw[hloc]at hb
       have:=(hs.free n b ⟨_,hn⟩ hb).1
       simp only[cx]at this
       omega
      ·refine⟨(hlv nm).2 rfl,?_⟩
       show DC (plc (EV (fun _=>undef) nm u nm)) _ _ _ u
       rw[Ba,hloc]
       rw[hloc]at hsl
       exact hsl
      ·rw[hloc]
       obtain⟨hm,cells,how,hel⟩:=hobj
       refine⟨hm,cells,how,fun i x hi=>?_⟩
       obtain⟨es,g1,g2,g3⟩:=hel i x hi
       rw[hloc]at hk
       exact⟨es,g1,g2,g3.mono (fun b _ hb=>hk b hb) (fun _ _ _=>rfl)⟩
     rcases he with rfl|rfl
     ·exact⟨hs.defers,u,hres,u,rfl,hR⟩
     ·exact⟨hs.defers,u,hres,u,rfl,hR⟩
    ·cases h2
 ·exact h.elim
end
end
/- The executor's rules in the form in which they are used; one state inside another. -/
section
open Go Go.RowKit
section
variable {P:Program} {tb:Tb} {w0:World} {O0:Nat→Prop} {nt:Nat} {R:Exit→Act→World→Prop} {k:List D0} {σ σ':St}
theorem Yx:(cx P tb w0 O0 nt).tb=tb:=rfl
theorem cV {c:Cx} (hc:c.Ok) {id:Nat} {l:List Oper} {vc:Prop} (h:Bi c.tb l l σ=some (vc,σ')) (hvc:vc) (hk:Ev c R (.out .normal) k σ') :
  Ev c R (.run (.region id l.toArray false)) k σ:=pU hc (by
 show EvR _ _ _ (Bi c.tb l l σ)
 rw[h]
 exact⟨hvc,hk⟩)
theorem Yy {c:Cx} {o:Operand} {x y:Code} {b:Bool} (h:Av σ o=some (.p .bool b)) (ht:b=true→Ev c R (.run x) k σ) (hf:b=false→Ev c R (.run y) k σ):Ev c R (.run (.cond o x y)) k σ :=
 A0f (by rw[h];exact⟨ht,hf⟩)
theorem cW {c:Cx} {id:Nat} (h:Ev c R (.out .normal) k σ):Ev c R (.out (.exit id)) (.blk id :: k) σ:=Qh (by rw[if_pos rfl];exact h)
theorem cX {c:Cx} {id id':Nat} (hne:id'≠id) (h:Ev c R (.out (.exit id')) k σ):Ev c R (.out (.exit id')) (.blk id :: k) σ:=Qh (by rw[if_neg hne];exact h)
end
/-! ### Entailment -/
inductive Br where
 | nm (n:Nat)
 | nil
def Qj:List AV→Bool
 | []=>true
 | .p _ _ :: r=>Qj r
 | _ :: _=>false
def BD (ren:List (Nat×Br)):AV→AV→Prop
 | .p t d,.p u d'=>BL u ⟨t,d⟩=some d'
 | .raw (.slice none 0 0),.p (.slice e) d'=>(d':List e.den)=[]
 | .raw v,.raw u=>v=u
 | .raw (.slice none 0 0),.sr m _ lo hi=>lk m ren=some .nil∧lo=0∧hi=0
 | .sr n e lo hi,.sr m e' lo' hi'=>lk m ren=some (.nm n)∧e=e'∧lo=lo'∧hi=hi'
 | .ip t d,.ip u d'=>BL u ⟨t,d⟩=some d'
 | .bp n p o,.bp m p' o'=>lk m ren=some (.nm n)∧p=p'∧o=o'
 | .fn f,.fn g=>f=g
 | .clo f ns,.clo g ms=>f=g∧ms.map (fun m=>lk m ren)=ns.map fun n=>some (.nm n)
 | .mp n,.mp m=>lk m ren=some (.nm n)
 | .yl n,.yl m=>lk m ren=some (.nm n)
 | .tup l,.tup r=>l=r∧Qj l=true
 | _,.top=>True
 | _,_=>False
def FW (ren:List (Nat×Br)):List AV→List AV→Prop
 | [],[]=>True
 | x :: l,y :: r=>(x.cells=y.cells∧BD ren x y)∧FW ren l r
 | _,_=>False
def JZ (ren:List (Nat×Br)):Option AV→AV→Prop
 | some x,y=>BD ren x y
 | none,.top=>True
 | none,_=>False
def FX (env:List (Nat×AV)) (ren:List (Nat×Br)):List (Nat×AV)→Prop
 | []=>True
 | (s,y) :: r=>JZ ren (lk s env) y∧FX env ren r
def HF (ren:List (Nat×Br)):Option Obj→Obj→Prop
 | some (.arr et e xs),.arr et' e' ys=>et=et'∧BL (.slice e') ⟨.slice e,xs⟩=some ys
 | some (.box et st fs),.box et' st' gs=>et=et'∧st=st'∧FW ren fs gs
 | some (.nest et iet k e xs h),.nest et' iet' k' e' ys h'=>(et=et'∧iet=iet'∧h=h')∧BL (.slice (.prod k' (.slice e'))) ⟨.slice (.prod k (.slice e)),xs⟩=some ys
 | some (.mapo k v l),.mapo k' v' l'=>BL (.slice (.prod k' v')) ⟨.slice (.prod k v),l⟩=some l'
 | some (.frame tm fs),.frame tm' gs=>tm=tm'∧FX fs ren gs
 | some (.loop L),.loop L'=>L=L'
 | some .dfr,.dfr=>True
 | _,_=>False
def F2 (objs:List (Nat×Obj)) (ren:List (Nat×Br)) (o:Obj):Option Br→Prop
 | some (.nm n)=>HF ren (lk n objs) o
 | some .nil=>match o with
  | .arr _ e ys=>(ys:List e.den)=[]
  | .box _ _ _=>False
  | .nest _ _ k e ys _=>(ys:List (k.den×List e.den))=[]
  | .mapo _ _ _=>False
  | .frame _ _=>False
  | .loop _=>False
  | .dfr=>False
 | none=>False
def Ae (objs:List (Nat×Obj)) (ren:List (Nat×Br)):List (Nat×Obj)→Prop
 | []=>True
 | (m,o) :: r=>F2 objs ren o (lk m ren)∧Ae objs ren r
def Bv:List (Nat×Br)→Bool
 | []=>true
 | (_,.nm n) :: r=>(r.all fun p=>match p.2 with|.nm n'=>n' != n|.nil=>true)&&Bv r
 | (_,.nil) :: r=>Bv r
def PI {α:Type}:List (Nat×α)→Bool
 | []=>true
 | (n,_) :: r=>(r.all fun p=>p.1 != n)&&PI r
section
variable {ren:List (Nat×Br)} {V V':Vw}
structure MN (ren:List (Nat×Br)) (V V':Vw):Prop where
 w:V'.w=V.w
 O:∀b,¬V.O b→¬V'.O b
 ρ:∀m n,lk m ren=some (.nm n)→V'.ρ m=V.ρ n
 nil:∀m,lk m ren=some .nil→V'.ρ m=.slice none 0 0
 L:∀m f,lk m ren=some f→V'.L m
theorem MN.vrep (h:MN ren V V') {t:Ty} {v:Value} {d:t.den} (hr:Bk V.w V.O t v d):Bk V'.w V'.O t v d :=
 Bk.mono (fun b _ hb=>h.O b hb) (fun b _ _=>by rw[h.w]) hr
theorem MN.rep (h:MN ren V V') {t:Ty} {cs:List Value} {d:t.den} (hr:Bj V.w V.O t cs d):Bj V'.w V'.O t cs d :=
 hr.mono (fun b _ hb=>h.O b hb) (fun b _ _=>by rw[h.w])
theorem MN.map (h:MN ren V V'):∀ {ms ns:List Nat},ms.map (fun m=>lk m ren)=ns.map (fun n=>some (Br.nm n))→ms.map V'.ρ=ns.map V.ρ∧∀m∈ms,∃n∈ns,lk m ren=some (.nm n)
 | [],[],_=>⟨rfl,fun _ h=>by cases h⟩
 | [],_ :: _,he=>by simp at he
 | _ :: _,[],he=>by simp at he
 | m :: ms,n :: ns,he=>by
  simp only[List.map_cons,List.cons.injEq]at he
  obtain⟨h1,h2⟩:=h.map he.2
  refine⟨by simp only[List.map_cons,h1,h.ρ _ _ he.1],fun x hx=>?_⟩
  rcases List.mem_cons.1 hx with rfl|hx
  ·exact⟨n,by simp,he.1⟩
  ·obtain⟨y,hy,hxy⟩:=h2 x hx
   exact⟨y,by simp[hy],hxy⟩
theorem VI (h:MN ren V V') {x y:AV} {v:Value} (hm:BD ren x y) (hx:R7 V x v):R7 V' y v∧(∀t d,y=.p t d→(∀u d',x≠.p u d')→v.oneCell'=true→Bj V'.w V'.O t [v] d):=by
 unfold BD at hm
 split at hm
 ·have:=A6 hm
  injection this with h1 h2
  subst h1
  cases h2
  exact⟨h.vrep hx,fun _ _ _ hne=>absurd rfl (hne _ _)⟩
 ·have hx:v=_:=hx
  subst hx
  have hd:=hm
  have hr:∀(O:Nat→Prop) (e:Ty),Bj V'.w O (.slice e) [.slice none 0 0] ([]:List e.den):=fun O e=>⟨none,0,rfl,by simp,by simp[AP],.inl rfl⟩
  rename_i e d'
  have hd:d'=([]:List e.den):=hd
  subst hd
  refine⟨⟨_,hr _ _,rfl⟩,fun t d he _ _=>?_⟩
  injection he with h1 h2
  subst h1
  cases h2
  exact hr _ _
 ·subst hm
  exact⟨hx,fun t d he=>by cases he⟩
 ·rename_i m e lo hi
  obtain⟨h1,rfl,rfl⟩:=hm
  have hx:v=_:=hx
  subst hx
  refine⟨⟨h.L _ _ h1,?_⟩,fun t d he=>by cases he⟩
  rw[h.nil _ h1]
  exact⟨none,0,0,rfl,by omega,by omega,none,0,rfl,by omega,fun _=>⟨rfl,rfl⟩,fun h=>by omega⟩
 ·obtain⟨h1,rfl,rfl,rfl⟩:=hm
  refine⟨⟨h.L _ _ h1,?_⟩,fun t d he=>by cases he⟩
  rw[h.ρ _ _ h1]
  exact hx.2
 ·have:=A6 hm
  injection this with h1 h2
  subst h1
  cases h2
  obtain⟨ad,cs,he,hO,hc,hr⟩:=hx
  exact⟨⟨ad,cs,he,h.O _ hO,fun j u hj=>by rw[h.w];exact hc j u hj,h.rep hr⟩,fun t d he=>by cases he⟩
 ·obtain⟨h1,rfl,rfl⟩:=hm
  refine⟨⟨h.L _ _ h1,?_⟩,fun t d he=>by cases he⟩
  rw[h.ρ _ _ h1]
  exact hx.2
 ·subst hm
  exact⟨hx,fun t d he=>by cases he⟩
 ·obtain⟨rfl,hl⟩:=hm
  obtain⟨h1,h2⟩:=h.map hl
  refine⟨⟨?_,fun m hm=>?_⟩,fun t d he=>by cases he⟩
  ·rw[h1];exact hx.1
  ·obtain⟨n,hn,hmn⟩:=h2 m hm
   refine⟨h.L _ _ hmn,?_⟩
   rw[h.ρ _ _ hmn]
   exact(hx.2 n hn).2
 ·refine⟨⟨h.L _ _ hm,?_⟩,fun t d he=>by cases he⟩
  rw[h.ρ _ _ hm]
  exact hx.2
 ·refine⟨⟨h.L _ _ hm,?_⟩,fun t d he=>by cases he⟩
  rw[h.ρ _ _ hm]
  exact hx.2
 ·exact(show False from hx).elim
 ·exact⟨trivial,fun t d he=>by cases he⟩
 ·exact hm.elim
theorem Yz (h:MN ren V V'):∀ {l:List AV} {vs:List Value},Qj l=true→Io V l vs→Io V' l vs
 | [],_,_,hx=>hx
 | .p t d :: r,vs,hp,hx=>by
  obtain⟨v,l,rfl,h1,h2⟩:=hx
  exact⟨v,l,rfl,h.vrep h1,Yz h hp h2⟩
 | .raw _ :: _,_,hp,_=>by cases hp
 | .sr _ _ _ _ :: _,_,hp,_=>by cases hp
 | .ep _ _ _ _ _ :: _,_,hp,_=>by cases hp
 | .nin _ _ _ _ :: _,_,hp,_=>by cases hp
 | .ip _ _ :: _,_,hp,_=>by cases hp
 | .bp _ _ _ :: _,_,hp,_=>by cases hp
 | .fn _ :: _,_,hp,_=>by cases hp
 | .clo _ _ :: _,_,hp,_=>by cases hp
 | .mp _ :: _,_,hp,_=>by cases hp
 | .yl _ :: _,_,hp,_=>by cases hp
 | .ag _ :: _,_,hp,_=>by cases hp
 | .tup _ :: _,_,hp,_=>by cases hp
 | .top :: _,_,hp,_=>by cases hp
theorem pW (h:MN ren V V') {x y:AV} {cs:List Value} (hcell:x.cells=y.cells) (hm:BD ren x y) (hx:MU V x cs):MU V' y cs:=by
 by_cases hp:∃t d,x=.p t d
 ·obtain⟨t,d,rfl⟩:=hp
  have hx:Bj V.w V.O t cs d:=hx
  cases y<;>simp only[BD]at hm<;>try exact hm.elim
  ·have:=A6 hm
   injection this with h1 h2
   subst h1
   cases h2
   exact h.rep hx
  ·have hl:=hx.length
   simp only[AV.cells]at hcell
   rw[hcell]at hl
   obtain⟨v,rfl⟩:=List.length_eq_one_iff.1 hl
   exact⟨v,rfl,hx.one v (by simp),trivial⟩
 ·have hx':∃v,cs=[v]∧v.oneCell'=true∧R7 V x v:=by
   cases x
   case p t d=>exact absurd ⟨t,d,rfl⟩ hp
   all_goals exact hx
  obtain⟨v,rfl,h1,h2⟩:=hx'
  obtain⟨h3,h4⟩:=VI h hm h2
  cases y
  case p t d=>exact h4 t d rfl (fun u d' e=>hp ⟨u,d',e⟩) h1
  all_goals exact⟨v,rfl,h1,h3⟩
theorem SP (h:MN ren V V'):∀ {l r:List AV} {cs:List Value},FW ren l r→DQ V l cs→DQ V' r cs
 | [],[],cs,_,hx=>hx
 | [],_ :: _,cs,hm,_=>hm.elim
 | _ :: _,[],cs,hm,_=>hm.elim
 | x :: l,y :: r,cs,hm,hx=>by
  obtain⟨c1,c2,rfl,h1,h2⟩:=hx
  exact⟨c1,c2,rfl,pW h hm.1.1 hm.1.2 h1,SP h hm.2 h2⟩
theorem J7:∀ {l r:List AV},FW ren l r→l.length=r.length
 | [],[],_=>rfl
 | [],_ :: _,hm=>hm.elim
 | _ :: _,[],hm=>hm.elim
 | _ :: _,_ :: _,hm=>by simp[J7 hm.2]
theorem Ln (h:MN ren V V') {x y:AV} {v:Value} (hm:BD ren x y) (hx:B5 V x v):B5 V' y v:=by
 cases x
 case ag l=>cases y<;>simp only[BD]at hm<;>first|exact hm.elim|exact trivial
 case tup l =>
  cases y
  case tup r =>
   obtain⟨rfl,hp⟩:=hm
   obtain⟨vs,e,h1⟩:=hx
   exact⟨vs,e,Yz h hp h1⟩
  all_goals simp only[BD]at hm
  all_goals first|exact hm.elim|exact trivial
 all_goals
  simp only[B5]at hx
  exact pP (VI h hm hx).1
theorem Cs {objs:List (Nat×Obj)} {m:Nat} {o:Obj}:∀ {l:List (Nat×Obj)},Ae objs ren l→lk m l=some o→F2 objs ren o (lk m ren)
 | (j,x) :: l,h,hl=>by
  simp only[lk]at hl
  split at hl
  ·rename_i e
   cases hl
   subst e
   exact h.1
  ·exact Cs h.2 hl
theorem Ki {env:List (Nat×AV)} {s:Nat} {y:AV}:∀ {l:List (Nat×AV)},FX env ren l→lk s l=some y→JZ ren (lk s env) y
 | (j,x) :: l,h,hl=>by
  simp only[lk]at hl
  split at hl
  ·rename_i e
   cases hl
   subst e
   exact h.1
  ·exact Ki h.2 hl
theorem Rb:∀ {l:List (Nat×Br)} {m m' n:Nat},Bv l=true→lk m l=some (.nm n)→lk m' l=some (.nm n)→m=m'
 | (j,f) :: l,m,m',n,hr,h1,h2=>by
  simp only[lk]at h1 h2
  have hrest:Bv l=true:=by
   cases f<;>simp only[Bv,Bool.and_eq_true]at hr
   ·exact hr.2
   ·exact hr
  have hall:∀q,f=.nm n→lk q l=some (.nm n)→False:=by
   intro q hf hq
   subst hf
   simp only[Bv,Bool.and_eq_true,List.all_eq_true]at hr
   have:=hr.1 _ (FT hq)
   simp at this
  split at h1
  ·rename_i e1
   cases h1
   split at h2
   ·rename_i e2;rw[e1,e2]
   ·exact(hall _ rfl h2).elim
  ·split at h2
   ·cases h2
    exact(hall _ rfl h1).elim
   ·exact Rb hrest h1 h2
def A4i (n:Nat):Option Br→Bool
 | some (.nm m)=>m==n
 | _=>false
def A4j (pin:List (Nat×Value)) (ren:List (Nat×Br)):Bool:=pin.all fun p=>A4i p.1 (lk p.1 ren)
theorem PJ {V V':Vw} (hV:MN ren V V') {src:List (Nat×Obj)} (hsrc:∀n x,lk n src=some x→A4 V x (V.ρ n)) {o:Obj} {m:Nat} (hf:F2 src ren o (lk m ren)):A4 V' o (V'.ρ m):=by
 cases hr:lk m ren with
 | none=>rw[hr]at hf;exact hf.elim
 | some f =>
  rw[hr]at hf
  cases f with
  | nil =>
   rw[hV.nil m hr]
   cases o with
   | box et st fs=>exact hf.elim
   | mapo k v l=>exact hf.elim
   | frame tm fs=>exact hf.elim
   | loop L=>exact hf.elim
   | dfr=>exact hf.elim
   | nest et iet k e ys hl =>
    have hf:ys=([]:List (k.den×List e.den)):=hf
    subst hf
    exact⟨_,[],[],.inr ⟨rfl,rfl,rfl⟩,by simp[AP],rfl,World.ownsRow_nil _ 0 et _,fun i x u h=>by simp at h,fun i j b u v h=>by simp at h,fun i b u h=>by simp at h⟩
   | arr et e ys =>
    have hf:ys=([]:List e.den):=hf
    subst hf
    exact⟨by simp[AP],[],World.ownsRow_nil _ 0 et e.size,Gw _ _ _ _⟩
  | nm n =>
   rw[hV.ρ m n hr]
   simp only[F2]at hf
   cases hn:lk n src with
   | none=>rw[hn]at hf;simp only[HF]at hf
   | some x =>
    rw[hn]at hf
    have hob:=hsrc n x hn
    cases x with
    | arr et e xs =>
     cases o with
     | box et' st fs=>exact hf.elim
     | mapo k v l=>exact hf.elim
     | frame tm fs=>exact hf.elim
     | loop L=>exact hf.elim
     | dfr=>exact hf.elim
     | nest _ _ _ _ _ _=>exact hf.elim
     | arr et' e' ys =>
      obtain⟨rfl,hc⟩:=hf
      obtain⟨rfl,h3⟩:=BW hc
      cases h3
      obtain⟨hmx,cells,how,hel⟩:=hob
      refine⟨hmx,cells,by rw[hV.w];exact how,fun i z hi=>?_⟩
      obtain⟨es,g1,g2,g3⟩:=hel i z hi
      exact⟨es,g1,g2,hV.rep g3⟩
    | box et st fs =>
     cases o with
     | arr et' e' ys=>exact hf.elim
     | mapo k v l=>exact hf.elim
     | frame tm fs=>exact hf.elim
     | loop L=>exact hf.elim
     | dfr=>exact hf.elim
     | nest _ _ _ _ _ _=>exact hf.elim
     | box et' st' gs =>
      obtain⟨rfl,rfl,hg⟩:=hf
      obtain⟨h0,b,cs,hloc,hh,hcs⟩:=hob
      exact⟨fun hst=>by rw[←J7 hg];exact h0 hst,b,cs,hloc,by rw[hV.w];exact hh,SP hV hg hcs⟩
    | nest et iet k e xs h =>
     cases o with
     | nest et' iet' k' e' ys h' =>
      obtain⟨⟨rfl,rfl,rfl⟩,hc⟩:=hf
      have hc:=A6 hc
      injection hc with h1 h2
      injection h1 with h1
      injection h1 with h1 h3
      injection h3 with h3
      subst h1
      subst h3
      cases h2
      exact pJ hV.w hV.O hob
     | mapo k v l=>exact hf.elim
     | box et' st fs=>exact hf.elim
     | arr et' e' ys=>exact hf.elim
     | frame tm fs=>exact hf.elim
     | loop L=>exact hf.elim
     | dfr=>exact hf.elim
    | mapo k v l =>
     cases o with
     | mapo k' v' l' =>
      have hc:=A6 hf
      injection hc with h1 h2
      injection h1 with h1
      injection h1 with h1 h3
      subst h1
      subst h3
      cases h2
      obtain⟨b,es,cl,hloc,hh,hes⟩:=hob
      exact⟨b,es,cl,hloc,by rw[hV.w];exact hh,hes.mono (fun b _ hb=>hV.O b hb) (fun b _ _=>by rw[hV.w])⟩
     | box et' st fs=>exact hf.elim
     | arr et' e' ys=>exact hf.elim
     | frame tm fs=>exact hf.elim
     | loop L=>exact hf.elim
     | dfr=>exact hf.elim
     | nest _ _ _ _ _ _=>exact hf.elim
    | frame tm fs =>
     cases o with
     | frame tm' gs =>
      obtain⟨rfl,hg⟩:=hf
      obtain⟨h0,h1⟩:=hob
      refine⟨h0,fun s v hv=>?_⟩
      have hm:=Ki hg hv
      cases hx:lk s fs with
      | none =>
       rw[hx]at hm
       cases v<;>simp only[JZ]at hm
       exact trivial
      | some x =>
       rw[hx]at hm
       exact Ln hV hm (h1 s x hx)
     | mapo k v l=>exact hf.elim
     | box et' st fs=>exact hf.elim
     | arr et' e' ys=>exact hf.elim
     | loop L=>exact hf.elim
     | dfr=>exact hf.elim
     | nest _ _ _ _ _ _=>exact hf.elim
    | loop L =>
     cases o with
     | loop L' =>
      have hf:L=L':=hf
      subst hf
      obtain⟨b,hl,hh⟩:=hob
      exact⟨b,hl,by rw[hV.w];exact hh⟩
     | mapo k v l=>exact hf.elim
     | box et' st fs=>exact hf.elim
     | arr et' e' ys=>exact hf.elim
     | frame tm fs=>exact hf.elim
     | dfr=>exact hf.elim
     | nest _ _ _ _ _ _=>exact hf.elim
    | dfr =>
     cases o with
     | dfr =>
      obtain⟨b,hl,hh⟩:=hob
      exact⟨b,hl,by rw[hV.w];exact hh⟩
     | nest _ _ _ _ _ _=>exact hf.elim
     | mapo k v l=>exact hf.elim
     | box et' st fs=>exact hf.elim
     | arr et' e' ys=>exact hf.elim
     | frame tm fs=>exact hf.elim
     | loop L=>exact hf.elim
def CG (objs:List (Nat×Obj)) (ren:List (Nat×Br)):Bool:=ren.all fun p=>(lk p.1 objs).isSome
theorem AC {c:Cx} {σ σ':St} (ren:List (Nat×Br)) (h1:Bv ren=true) (h2:CG σ'.objs ren=true) (ho:Ae σ.objs ren σ'.objs) (he:FX σ.env ren σ'.env) (hp:A4j c.ds.pin ren=true:=by rfl):Ent c σ σ':=by
 rintro a w ⟨ρ,hs⟩
 let ρ':Nat→Value:=fun m=>match lk m ren with|some (.nm n)=>ρ n|_=>.slice none 0 0
 have hnm:∀m n,lk m ren=some (.nm n)→ρ' m=ρ n:=fun m n hm=>by simp[ρ',hm]
 have hnil:∀m,lk m ren=some .nil→ρ' m=.slice none 0 0:=fun m hm=>by simp[ρ',hm]
 have hL:∀m f,lk m ren=some f→GZ σ' m:=fun m f hm=>by
  simp only[CG,List.all_eq_true]at h2
  have:=h2 _ (FT hm)
  exact Option.isSome_iff_exists.1 this
 have src:∀m b,GZ σ' m→bk (ρ' m) b→∃n,lk m ren=some (.nm n)∧GZ σ n∧bk (ρ n) b:=by
  rintro m b ⟨o,hm⟩ hb
  have hf:=Cs ho hm
  cases hr:lk m ren with
  | none=>rw[hr]at hf;exact hf.elim
  | some f =>
   cases f with
   | nil=>rw[hnil m hr]at hb;simp[bk,blk]at hb
   | nm n =>
    rw[hr]at hf
    rw[hnm m n hr]at hb
    refine⟨n,rfl,?_,hb⟩
    cases hn:lk n σ.objs with
    | none=>simp only[F2,hn,HF]at hf
    | some x=>exact⟨x,hn⟩
 have hV:MN ren (vw w c.O0 σ ρ) (vw w c.O0 σ' ρ'):=by
  refine⟨rfl,fun b hb hb'=>?_,hnm,hnil,hL⟩
  rcases hb' with h0|⟨m,hl,hm⟩
  ·exact hb (.inl h0)
  ·obtain⟨n,_,hn,hbn⟩:=src m b hl hm
   exact hb (.inr ⟨n,hn,hbn⟩)
 refine⟨ρ',hs.frm,hs.nt,hs.defers,fun p hpp=>?_,fun m o hm=>?_,fun m b hl hb=>?_,fun m m' b hl hl' hb hb'=>?_,fun s v hv=>?_⟩
 ·obtain⟨g1,g2,g3⟩:=hs.pin p hpp
  simp only[A4j,List.all_eq_true]at hp
  have hq:=hp p hpp
  unfold A4i at hq
  split at hq
  ·rename_i n hn
   have:n=p.1:=by simpa using hq
   subst this
   exact⟨hL _ _ hn,(hnm _ _ hn).trans g2,g3⟩
  ·cases hq
 ·exact PJ hV hs.objs (Cs ho hm)
 ·obtain⟨n,_,hn,hbn⟩:=src m b hl hb
  exact hs.free n b hn hbn
 ·obtain⟨n,h3,hn,hbn⟩:=src m b hl hb
  obtain⟨n',h4,hn',hbn'⟩:=src m' b hl' hb'
  have:=hs.dist n n' b hn hn' hbn hbn'
  subst this
  exact Rb h1 h3 h4
 ·have hm:=Ki he hv
  cases hx:lk s σ.env with
  | none =>
   rw[hx]at hm
   cases v<;>simp only[JZ]at hm
   exact trivial
  | some x =>
   rw[hx]at hm
   exact Ln hV hm (hs.env s x hx)
end
end
/- Small rules for the executor's own spelling. -/
section
open Go
theorem GK (b:Bool):PC true (some (.p .bool b))=some b:=by cases b<;>rfl
theorem FY (b:Bool):PC false (some (.p .bool b))=some (!b):=by cases b<;>rfl
theorem Lo:IntKind.i64.min=-9223372036854775808:=by decide
theorem Lp:IntKind.i64.max=9223372036854775807:=by decide
theorem Lq:IntKind.u64.min=0:=by decide
theorem Lr:IntKind.u64.max=18446744073709551615:=by decide
theorem PK:IntKind.u8.min=0:=by decide
theorem PM:IntKind.u8.max=255:=by decide
theorem Ls (n:Int):Lc .i64 n↔-9223372036854775808≤n∧n≤9223372036854775807:=by unfold Lc;rw[Lo,Lp]
theorem Hw (n:Int):Lc .u64 n↔0≤n∧n≤18446744073709551615:=by unfold Lc;rw[Lq,Lr]
theorem SQ (n:Int):Lc .u8 n↔0≤n∧n≤255:=by unfold Lc;rw[PK,PM]
theorem Ny {α:Type} (x:α):sub [x] 0 1=[x]:=rfl
theorem HG {α:Type} (xs:List α) (n:Nat):sub xs 0 n=xs.take n:=by simp[sub]
theorem uP (n:Nat):((n:Int)).toNat=n:=Int.toNat_natCast n
theorem FZ (n:Nat):(0≤(n:Int))=True:=eq_true (Int.natCast_nonneg n)
end
/- An operation sees no more than it looks at: more slots, more objects do not change what it does. -/
section
open Go Go.RowKit
section
variable {tb:Tb} {σ σ':St}
def YU (σ σ':St):Prop:=∀n o,lk n σ.objs=some o→lk n σ'.objs=some o
theorem uQ (h:YU σ σ') {e:Ty} {lo hi n:Nat} {d:List e.den} (hs:QP e lo hi (lk n σ.objs)=some d):QP e lo hi (lk n σ'.objs)=some d:=by
 cases hn:lk n σ.objs with
 | none=>rw[hn]at hs;simp[QP]at hs
 | some o=>rw[h n o hn,←hn];exact hs
theorem pX (h:YU σ σ') {e:Ty} {i n:Nat} {d:List e.den} (hs:O8 e i (lk n σ.objs)=some d):O8 e i (lk n σ'.objs)=some d:=by
 cases hn:lk n σ.objs with
 | none=>rw[hn]at hs;simp[O8]at hs
 | some o=>rw[h n o hn,←hn];exact hs
theorem Lt (h:YU σ σ') {l:Bool} {t:Ty} {x:AV} {d:t.den} (hs:Ex l σ t x=some d):Ex l σ' t x=some d:=by
 unfold Ex at hs ⊢
 split at hs
 ·exact hs
 ·split at hs
  ·rename_i hc
   rw[if_pos hc]
   exact uQ h hs
  ·cases hs
 ·split at hs
  ·rename_i hc
   rw[if_pos hc]
   exact pX h hs
  ·cases hs
 ·exact hs
 ·cases hs
theorem VJ (h:YU σ σ') {l:Bool}:∀ {fs:List AV} {t:Ty} {d:t.den},JK l σ fs t=some d→JK l σ' fs t=some d
 | [],t,d,hs=>by simp[JK]at hs
 | [x],t,d,hs=>by
  simp only[JK]at hs ⊢
  exact Lt h hs
 | x :: y :: r,t,d,hs=>by
  cases t<;>simp only[JK]at hs ⊢<;>try(cases hs;done)
  rename_i a b
  cases h1:Ex l σ a x with
  | none=>rw[h1]at hs;simp[KQ]at hs
  | some d1 =>
   cases h2:JK l σ (y :: r) b with
   | none=>rw[h1,h2]at hs;simp[KQ]at hs
   | some d2 =>
    rw[Lt h h1,VJ h h2]
    rw[h1,h2]at hs
    exact hs
theorem Er (h:YU σ σ') {l:Bool} {t:Ty} {x:AV} {d:t.den} (hs:Ml l σ t x=some d):Ml l σ' t x=some d:=by
 unfold Ml at hs ⊢
 split at hs
 ·exact VJ h hs
 ·exact Lt h hs
def Ops (σ σ':St) (xs:List Operand):Prop:=∀x∈xs,∀v,Av σ x=some v→Av σ' x=some v
theorem Nz (h:YU σ σ') {e:Ty} {x:AV} {d:List e.den} (hs:RF σ e x=some d):RF σ' e x=some d:=by
 unfold RF at hs ⊢
 split at hs
 ·rename_i n e' lo hi
  cases hn:lk n σ.objs with
  | none =>
   rw[hn]at hs
   have hs:Ex true σ (.slice e) (.sr n e' lo hi)=some d:=by simpa[CX,Ml] using hs
   simp only[Ex,hn]at hs
   split at hs<;>simp[QP]at hs
  | some o =>
   rw[h n o hn]
   rw[hn]at hs
   split at hs
   ·cases hs
   ·rename_i hc
    rw[if_neg hc]
    exact Er h hs
 ·exact Er h hs
theorem SR (h:YU σ σ') {l:Bool}:∀ {ts:List Ty} {xs:List Operand} {ds:KP ts},Ops σ σ' xs→Fm l σ ts xs=some ds→Fm l σ' ts xs=some ds
 | [],[],ds,_,hs=>hs
 | [],_ :: _,ds,_,hs=>by simp[Fm]at hs
 | _ :: _,[],ds,_,hs=>by simp[Fm]at hs
 | t :: ts,x :: xs,ds,ho,hs=>by
  simp only[Fm]at hs ⊢
  cases hx:Av σ x with
  | none=>rw[hx]at hs;cases hs
  | some v =>
   rw[ho x (by simp) v hx]
   rw[hx]at hs
   simp only at hs ⊢
   split at hs
   ·rename_i y ys hy hys
    rw[Er h hy,SR h (fun z hz=>ho z (by simp[hz])) hys]
    exact hs
   ·cases hs
theorem Qk (h:YU σ σ') {e:Ty}:∀ {parts:List (Nat×Operand)} {k:Nat} {xs:List e.den},Ops σ σ' (parts.map (·.2))→Ee σ e k parts=some xs→Ee σ' e k parts=some xs
 | [],k,xs,_,hs=>hs
 | (i,x) :: r,k,xs,ho,hs=>by
  simp only[Ee]at hs ⊢
  split at hs
  ·rename_i hik
   rw[if_pos hik]
   cases hx:Av σ x with
   | none=>rw[hx]at hs;cases hs
   | some v =>
    rw[ho x (by simp) v hx]
    rw[hx]at hs
    simp only at hs ⊢
    split at hs
    ·rename_i y ys hy hys
     rw[Er h hy,Qk h (fun z hz=>ho z (by simp at hz ⊢;exact .inr hz)) hys]
     exact hs
    ·cases hs
  ·cases hs
theorem Y0 (h:YU σ σ') {z:Option AV} {x:Operand} {v:AV} (ho:∀v,Av σ x=some v→Av σ' x=some v) (hs:FM σ z (Av σ x)=some v):FM σ' z (Av σ' x)=some v:=by
 cases hx:Av σ x with
 | none=>rw[hx]at hs;unfold FM at hs;split at hs<;>simp at *
 | some a =>
  rw[ho a hx]
  rw[hx]at hs
  unfold FM at hs ⊢
  split at hs
  ·rename_i t _ l he
   cases he
   simp only[Option.map_eq_some_iff]at hs ⊢
   obtain⟨d,hd,rfl⟩:=hs
   exact⟨d,Er h hd,rfl⟩
  ·exact hs
theorem N0 (h:YU σ σ') {offs:List (Nat×Nat)}:∀ {parts:List (Nat×Operand)} {fs gs:List AV},Ops σ σ' (parts.map (·.2))→DW σ offs fs parts=some gs→DW σ' offs fs parts=some gs
 | [],fs,gs,_,hs=>hs
 | (i,x) :: r,fs,gs,ho,hs=>by
  simp only[DW]at hs ⊢
  cases hx:FM σ fs[i]? (Av σ x) with
  | none=>rw[hx]at hs;cases hs
  | some v =>
   rw[Y0 h (ho x (by simp)) hx]
   rw[hx]at hs
   simp only at hs ⊢
   split at hs
   ·rename_i hc
    rw[if_pos hc]
    exact N0 h (fun z hz=>ho z (by simp at hz ⊢;exact .inr hz)) hs
   ·cases hs
theorem SS:∀ {xs:List Operand} {ns:List Nat},Ops σ σ' xs→G7 σ xs=some ns→G7 σ' xs=some ns
 | [],ns,_,hs=>hs
 | x :: r,ns,ho,hs=>by
  simp only[G7]at hs ⊢
  split at hs
  ·rename_i n ns' h1 h2
   rw[ho x (by simp) _ h1,SS (fun z hz=>ho z (by simp[hz])) h2]
   exact hs
  ·cases hs
theorem Rc (h:YU σ σ') {d:Nat} {op:Op} {r:Prop×AV×List (Nat×Obj)} (ho:Ops σ σ' op.operands.toList) (hs:aq tb σ d op=some r):aq tb σ' d op=some r:=by
 have one:∀ {x:Operand} {f:Option AV→BU},x∈op.operands.toList→f none=none→f (Av σ x)=some r→f (Av σ' x)=some r:=by
  intro x f hx hn hf
  cases hv:Av σ x with
  | none=>rw[hv,hn]at hf;cases hf
  | some v=>rw[ho x hx v hv,←hv];exact hf
 have two:∀ {x y:Operand} {f:Option AV→Option AV→BU},x∈op.operands.toList→y∈op.operands.toList→(∀b,f none b=none)→(∀a,f a none=none)→f (Av σ x) (Av σ y)=some r→f (Av σ' x) (Av σ' y)=some r:=by
  intro x y f hx hy h1 h2 hf
  cases hv:Av σ x with
  | none=>rw[hv,h1]at hf;cases hf
  | some v =>
   cases hw:Av σ y with
   | none=>rw[hw,h2]at hf;cases hf
   | some w=>rw[ho x hx v hv,ho y hy w hw,←hv,←hw];exact hf
 cases op<;>simp only[aq]at hs ⊢<;>try(cases hs;done)
 case move x=>exact one (f:=GH) (by simp[Op.operands]) rfl hs
 case assign x=>exact one (f:=GH) (by simp[Op.operands]) rfl hs
 case pick c x y =>
  cases hc:Av σ c with
  | none=>rw[hc]at hs;simp[J3]at hs
  | some cv =>
   have e1:=ho c (by simp[Op.operands]) cv hc
   rw[hc]at hs
   rw[e1]
   unfold J3 at hs ⊢
   split at hs
   ·rename_i he
    cases he
    exact one (f:=GH) (by simp[Op.operands]) rfl hs
   ·rename_i he
    cases he
    exact one (f:=GH) (by simp[Op.operands]) rfl hs
   ·cases hs
 case alloc t=>exact hs
 case box t x=>exact one (f:=RG d t (lk t tb.ty)) (by simp[Op.operands]) (by cases lk t tb.ty<;>simp[RG]) hs
 case build t parts =>
  unfold IE at hs ⊢
  split at hs
  ·rename_i u offs el b he
   cases hp:DW σ offs (pI u) parts.toList with
   | none=>rw[hp]at hs;simp[GH]at hs
   | some fs =>
    rw[N0 h (by simpa[Op.operands] using ho) hp]
    rw[hp]at hs
    exact hs
  ·cases hs
 case buildSlice t n parts =>
  cases hnl:lk d tb.nests with
  | some iet =>
   rw[hnl]at hs
   simp only[GB]at hs ⊢
   unfold IH at hs ⊢
   split at hs
   ·rename_i x t1 offs el b hp he
    cases hx:Av σ x with
    | none=>rw[hx]at hs;unfold IG at hs;split at hs<;>first|(cases hs;done)|(rename_i h2;cases h2)
    | some av =>
     rw[ho x (by simp[Op.operands,hp]) av hx]
     rw[hx]at hs
     unfold IG at hs ⊢
     split at hs
     ·rename_i k e x1 y1 hav
      unfold KR at hs
      split at hs
      ·rename_i a0 ha0
       rw[Lt h ha0]
       exact hs
      ·cases hs
     ·cases hs
   ·cases hs
  | none =>
  rw[hnl]at hs
  simp only[GB]at hs ⊢
  unfold BS at hs ⊢
  split at hs
  ·rename_i e offs el b he
   cases hp:Ee σ e 0 parts.toList with
   | none=>rw[hp]at hs;simp[BV]at hs
   | some xs =>
    rw[Qk h (by simpa[Op.operands] using ho) hp]
    rw[hp]at hs
    exact hs
  ·cases hs
 case load t x =>
  cases hx:Av σ x with
  | none=>rw[hx]at hs;simp[Ik]at hs
  | some v =>
   rw[ho x (by simp[Op.operands]) v hx]
   rw[hx]at hs
   unfold Ik at hs ⊢
   split at hs
   ·rename_i ti n path off he1 he2
    cases hn:lk n σ.objs with
    | none=>rw[hn]at hs;simp[Ef]at hs
    | some o=>rw[h n o hn,←hn];exact hs
   ·rename_i ti n e i path off he1 he2
    cases hn:lk n σ.objs with
    | none=>rw[hn]at hs;simp[Eg]at hs
    | some o=>rw[h n o hn,←hn];exact hs
   ·exact hs
   ·cases hs
 case nilCheck x=>exact one (f:=R6) (by simp[Op.operands]) (by simp[R6]) hs
 case binOp op t x y t'=>exact two (f:=O9 op (lk t tb.ty)) (by simp[Op.operands]) (by simp[Op.operands]) (fun b=>by simp[O9]) (fun a=>by cases a<;>simp[O9]) hs
 case unOp op t x=>exact one (f:=tS op) (by simp[Op.operands]) (by cases op<;>simp[tS]) hs
 case convert s t x=>exact one (f:=Il (lk s tb.ty) (lk t tb.ty)) (by simp[Op.operands]) (by cases lk s tb.ty<;>cases lk t tb.ty<;>simp[Il]) hs
 case makeSlice t l c=>exact two (f:=Hs tb d (lk t tb.ty)) (by simp[Op.operands]) (by simp[Op.operands]) (fun b=>by cases lk t tb.ty<;>simp[Hs]) (fun a=>by cases lk t tb.ty<;>simp[Hs]) hs
 case slice t x lo hi mx =>
  cases mx with
  | some m=>simp[aq]at hs
  | none =>
   simp only[aq]at hs ⊢
   have opt:∀ {y:Option Operand},(∀z,y=some z→z∈(Op.slice t x lo hi none).operands.toList)→∀w,GG σ y=some w→GG σ' y=some w:=by
    intro y hy w hw
    cases y with
    | none=>exact hw
    | some z =>
     simp only[GG,Option.map_eq_some_iff]at hw ⊢
     obtain⟨v,hv,rfl⟩:=hw
     exact⟨v,ho z (hy z rfl) v hv,rfl⟩
   cases hx:Av σ x with
   | none=>rw[hx]at hs;cases hl:lk t tb.ty<;>rw[hl]at hs<;>simp[Ey]at hs
   | some v =>
    cases h1:GG σ lo with
    | none=>rw[h1]at hs;cases hl:lk t tb.ty<;>rw[hl]at hs<;>simp[Ey]at hs
    | some a =>
     cases h2:GG σ hi with
     | none=>rw[h2]at hs;cases hl:lk t tb.ty<;>rw[hl]at hs<;>simp[Ey]at hs
     | some b =>
      rw[ho x (by simp[Op.operands]) v hx,opt (by rintro z rfl;simp[Op.operands]) a h1,opt (by rintro z rfl;simp[Op.operands]) b h2]
      rw[hx,h1,h2]at hs
      exact hs
 case fieldAddr s x f=>exact one (f:=Gb f (lk s tb.ty)) (by simp[Op.operands]) (by cases lk s tb.ty<;>simp[Gb]) hs
 case indexAddr t x i=>exact two (f:=FO (lk t tb.ty)) (by simp[Op.operands]) (by simp[Op.operands]) (fun b=>by cases lk t tb.ty<;>simp[FO]) (fun a=>by cases lk t tb.ty<;>simp[FO]) hs
 case index t x i=>exact two (f:=EA (lk t tb.ty)) (by simp[Op.operands]) (by simp[Op.operands]) (fun b=>by cases lk t tb.ty<;>simp[EA]) (fun a=>by cases lk t tb.ty<;>simp[EA]) hs
 case extract x i=>exact one (f:=EE i) (by simp[Op.operands]) (by simp[EE]) hs
 case makeFunc fn first captured =>
  unfold Wm at hs ⊢
  split at hs
  ·rename_i f hf
   cases hc:G7 σ captured.toList with
   | none=>rw[hc]at hs;simp[Nb]at hs
   | some ns =>
    rw[SS (fun z hz=>ho z (by simp[Op.operands]at hz ⊢;exact .inr hz)) hc]
    rw[hc]at hs
    exact hs
  ·cases hs
 case makeMap t res =>
  cases res with
  | some z=>simp[aq]at hs
  | none=>simp only[aq]at hs ⊢;exact hs
 case lookup t x i ok =>
  cases hx:Av σ x with
  | none=>rw[hx]at hs;simp[Ht]at hs
  | some xv =>
   cases hi:Av σ i with
   | none=>rw[hx,hi]at hs;simp[Ht]at hs
   | some iv =>
    rw[ho x (by simp[Op.operands]) xv hx,ho i (by simp[Op.operands]) iv hi]
    rw[hx,hi]at hs
    unfold Ht at hs ⊢
    split at hs
    ·rename_i k e _ _ n z he1 he2 he3
     cases he2;cases he3
     cases hn:lk n σ.objs with
     | none=>rw[hn]at hs;simp[G8]at hs
     | some o =>
      rw[hn]at hs
      rw[h n o hn]
      unfold G8 at hs ⊢
      split at hs
      ·rename_i kt vt l ho
       cases ho
       split at hs
       ·rename_i hc
        rw[if_pos hc]
        cases hk:Ml false σ kt iv with
        | none=>rw[hk]at hs;simp[JO]at hs
        | some kd=>rw[Er h hk];rw[hk]at hs;exact hs
       ·cases hs
      ·cases hs
    ·cases hs
 case call c =>
  obtain⟨callee,args,argTypes⟩:=c
  have hargs:∀x∈args.toList,x∈(Op.call ⟨callee,args,argTypes⟩).operands.toList:=fun x hx=>by
   have:x∈args:=by simpa using hx
   cases callee<;>simp[Op.operands,Call.operands,this]
  cases callee with
  | invoke r m=>simp[Cg]at hs
  | value g =>
   simp only[Cg]at hs ⊢
   cases hg:Av σ g with
   | none=>rw[hg]at hs;simp[KT]at hs
   | some gv =>
    rw[ho g (by simp[Op.operands,Call.operands]) gv hg]
    rw[hg]at hs
    unfold KT at hs ⊢
    split at hs
    ·rename_i f he
     cases hsp:lk f tb.fns with
     | none=>rw[hsp]at hs;simp[II]at hs
     | some sp =>
      rw[hsp]at hs
      simp only[II]at hs ⊢
      cases hds:Fm sp.lend σ sp.ins args.toList with
      | none=>rw[hds]at hs;simp[JN]at hs
      | some ds =>
       rw[SR h (fun x hx=>ho x (hargs x hx)) hds]
       rw[hds]at hs
       exact hs
    ·cases hs
  | builtin b =>
   simp only[Cg]at hs ⊢
   obtain⟨args⟩:=args
   obtain⟨argTypes⟩:=argTypes
   simp only at hs hargs ⊢
   unfold Cn at hs ⊢
   split at hs
   ·exact one (f:=RH (lk _ tb.ty)) (hargs _ (by simp)) (by cases lk _ tb.ty<;>simp[RH]) hs
   ·rename_i x y t u
    cases hx:Av σ x with
    | none=>rw[hx]at hs;simp[CP]at hs
    | some xv =>
     cases hy:Av σ y with
     | none=>rw[hx,hy]at hs;simp[CP]at hs
     | some yv =>
      rw[ho x (hargs _ (by simp)) xv hx,ho y (hargs _ (by simp)) yv hy]
      rw[hx,hy]at hs
      unfold CP at hs ⊢
      split at hs
      ·split at hs
       ·rename_i htu
        simp only[htu,if_true]
        rename_i he1 he2
        cases he2
        rw[htu]at hs
        cases hl:lk u tb.ty with
        | none=>rw[hl]at hs;simp[EF]at hs
        | some ti =>
         rw[hl]at hs
         unfold EF at hs ⊢
         split at hs
         ·rename_i e offs el b he
          cases hv:RF σ e yv with
          | none=>rw[hv]at hs;cases hl2:lk el tb.ty<;>rw[hl2]at hs<;>simp[El]at hs
          | some ys =>
           rw[hv]at hs
           rw[Nz h hv]
           exact hs
         ·cases hs
       ·cases hs
      ·cases hs
   ·exact two (f:=PA) (hargs _ (by simp)) (hargs _ (by simp)) (fun b=>by simp[PA]) (fun a=>by cases a<;>simp[PA]) hs
   ·exact two (f:=PB) (hargs _ (by simp)) (hargs _ (by simp)) (fun b=>by simp[PB]) (fun a=>by cases a<;>simp[PB]) hs
   ·cases hs
end
end
end Go.Proofs.YtebfihindnhccaaGreat.Fw
