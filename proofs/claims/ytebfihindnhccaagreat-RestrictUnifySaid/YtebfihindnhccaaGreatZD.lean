/- Calls by contract; stores; appends. -/
/- One operation that only adds: its contract. -/
import Derived.Test.YtebfihindnhccaaGreatZC
import Derived.CallsIn
import Derived.TacticsIn
import Derived.OrdersIn
import Derived.RangeFuncCalls
set_option linter.unusedVariables false
set_option linter.unusedSimpArgs false
section
namespace Go.Proofs.YtebfihindnhccaaGreat.Fw
open Go Go.RowKit
def VReps (w : World) (O : Nat → Prop) : (ts : List Ty) → List Value → dens ts → Prop
 | [], vs, _ => vs = []
 | t :: ts, vs, ds => ∃ (v : Value) (r : List Value), vs = v :: r ∧ VRep w O t v ds.1 ∧ VReps w O ts r ds.2
/-! ### The fence that lets everything in: in a round of a range over a function ('r'), or not -/
def FR (r : Option Nat) : Fence := { fn := fun _ => True, depth := none, alive := false, round := r }
theorem callsIn_FR {r : Option Nat} {n : Nat} {P : Program} {f : FuncId} {args : Array Value} {w : World} {R : Ending → World → Prop} (h : Calls P f args w R) : CallsIn (FR r) n P f args w R := by
 cases r with
 | none => exact callsIn_wide.2 h
 | some l => exact ((callsIn_wide.2 h : CallsIn Fence.wide n P f args w R).inRound l : CallsIn _ n P f args w R)
theorem semAt_plain (r : Option Nat) (ρ : Operand → Value) (o : Oper) (h : ∀ c, o.op ≠ .defer c) : o.semAt r ρ = execOp ρ o := by
 cases r with
 | none => exact Oper.semAt_none ρ o
 | some l => exact Oper.semAt_some l ρ o h
def ResR (w : World) (O : Nat → Prop) (outs : List RV) (u : Value) (w' : World) : Prop :=
 ∀ nm : Nat, ∃ ρ', QS w O ⟨[], []⟩ (fun _ => undef) (resAV nm outs) (rvObjs nm outs) u ρ' w'
def CallOk (P : Program) (f : FuncId) (sp : Spec) : Prop :=
 ∀ (w : World) (O : Nat → Prop) (vs : List Value) (ds : dens sp.ins), (∀ b, O b → b < w.heap.size) → VReps w O sp.ins vs ds → sp.pre ds →
  Calls P f vs.toArray w fun e w' => ∃ u, e = .returned u ∧ ResR w O (sp.out ds) u w'
def FnOk (P : Program) (f : FuncId) (sp : Spec) : Prop :=
 (∃ fn : Func, P.funcs[f]? = some fn ∧ (fn.name == "runtime.NumGoroutine") = false ∧ fn.body.isNone = false) ∧ CallOk P f sp
def FnsOk (P : Program) (tb : Tb) : Prop := ∀ f sp, lk f tb.fns = some sp → FnOk P f sp
theorem flat_rep {w w' : World} {O O' : Nat → Prop} : ∀ {t : Ty} {cs : List Value} {d : t.den}, t.flat = true → Rep w O t cs d → Rep w' O' t cs d
 | .int _, _, _, _, h => h
 | .bool, _, _, _, h => h
 | .str, _, _, _, h => h
 | .ref _, _, _, _, h => h
 | .slice _, _, _, hf, _ => by simp [Ty.flat] at hf
 | .prod a b, _, _, hf, h => by
  simp only [Ty.flat, Bool.and_eq_true] at hf
  obtain ⟨c1, c2, rfl, h1, h2⟩ := h
  exact ⟨c1, c2, rfl, flat_rep hf.1 h1, flat_rep hf.2 h2⟩
 | .agg t, cs, d, hf, h => by
  simp only [Ty.flat] at hf
  have h : Rep w O t cs d := h
  exact (flat_rep hf h : Rep w' O' t cs d)
theorem flat_vrep {w w' : World} {O O' : Nat → Prop} {t : Ty} {v : Value} {d : t.den} (hf : t.flat = true) (h : VRep w O t v d) : VRep w' O' t v d :=
 let ⟨cs, h1, h2⟩ := h
 ⟨cs, flat_rep hf h1, h2⟩
theorem rvObjs_flat : ∀ {l : List RV} (nm : Nat), l.all RV.flat = true → rvObjs nm l = []
 | [], _, _ => rfl
 | .p t d :: l, nm, h => by
  simp only [List.all_cons, Bool.and_eq_true] at h
  simp [rvObjs, rvObj, rvObjs_flat (nm + 10000) h.2]
 | .own _ _ _ :: l, nm, h => by simp [RV.flat] at h
theorem rvAV_p {r : RV} (h : r.flat = true) (nm : Nat) : ∃ t d, rvAV nm r = .p t d ∧ t.flat = true := by
 cases r with
 | p t d => exact ⟨t, d, rfl, h⟩
 | own _ _ _ => simp [RV.flat] at h
theorem flat_s {V V' : Vw} : ∀ {l : List RV} {nm : Nat} {vs : List Value}, l.all RV.flat = true → AV1s V (rvAVs nm l) vs → AV1s V' (rvAVs nm l) vs
 | [], _, _, _, h => h
 | r :: l, nm, vs, hf, h => by
  simp only [List.all_cons, Bool.and_eq_true] at hf
  obtain ⟨v, vs', rfl, h1, h2⟩ := h
  obtain ⟨t, d, e, ht⟩ := rvAV_p hf.1 nm
  refine ⟨v, vs', rfl, ?_, flat_s hf.2 h2⟩
  rw [e] at h1 ⊢
  exact flat_vrep ht h1
theorem flat_res {V V' : Vw} {l : List RV} {nm : Nat} {u : Value} (hf : l.all RV.flat = true) (h : AVR V (resAV nm l) u) : AVR V' (resAV nm l) u := by
 match l, hf, h with
 | [], _, h => exact h
 | [r], hf, h =>
  simp only [List.all_cons, List.all_nil, Bool.and_true] at hf
  obtain ⟨t, d, e, ht⟩ := rvAV_p hf nm
  simp only [resAV] at h ⊢
  rw [e] at h ⊢
  exact flat_vrep ht h
 | r1 :: r2 :: l, hf, h =>
  obtain ⟨vs, rfl, h1⟩ := h
  exact ⟨vs, rfl, flat_s hf h1⟩
section
variable {P : Program} {tb : Tb} {w : World} {O0 : Nat → Prop} {σ : St} {ρ : Nat → Value} {vc : Prop} {v : AV} {obs : List (Nat × Obj)}
theorem QS.call {outs : List RV} {nm : Nat} {u : Value} {ρ' : Nat → Value} {w' : World} (hf : fresh (rvObjs nm outs) σ = true)
  (h : QS w (own O0 σ ρ) ⟨[], []⟩ (fun _ => undef) (resAV nm outs) (rvObjs nm outs) u ρ' w') :
  QS w O0 σ ρ (resAV nm outs) (rvObjs nm outs) u (fun n => if (lk n (rvObjs nm outs)).isSome then ρ' n else ρ n) w' := by
 have hlive : ∀ n, liv (plus ⟨[], []⟩ (rvObjs nm outs)) n ↔ ∃ o, lk n (rvObjs nm outs) = some o := fun n => by simp [liv, plus]
 have hk : Keeps (vw w' (own O0 σ ρ) (plus ⟨[], []⟩ (rvObjs nm outs)) ρ') (vw w' O0 (plus σ (rvObjs nm outs)) (fun n => if (lk n (rvObjs nm outs)).isSome then ρ' n else ρ n)) := by
  refine ⟨?_, ?_, ?_, fun _ _ _ => rfl⟩
  ·intro b _ hb hb'
   rcases hb' with h0 | ⟨n, hl, hn⟩
   ·exact hb (.inl (.inl h0))
   ·rcases liv_plus hl with ⟨o, ho⟩ | ⟨hno, hl'⟩
    ·refine hb (.inr ⟨n, (hlive n).2 ⟨o, ho⟩, ?_⟩)
     simpa [ho] using hn
    ·refine hb (.inl (.inr ⟨n, hl', ?_⟩))
     simpa [hno] using hn
  ·intro n hn
   obtain ⟨o, ho⟩ := (hlive n).1 hn
   exact ⟨o, by simp [plus, lk_append, ho]⟩
  ·intro n hn
   obtain ⟨o, ho⟩ := (hlive n).1 hn
   simp [vw, ho]
 refine ⟨h.below, fun n hn => by simp [hn], h.av.keeps hk, fun n o ho => ?_, fun n o b ho hb => ?_, fun n m o o' b ho ho' hb hb' => ?_⟩
 ·simp only [ho, Option.isSome_some, if_true]
  exact (h.obj n o ho).keeps hk (fun _ _ => rfl)
 ·simp only [ho, Option.isSome_some, if_true] at hb
  exact h.new n o b ho hb
 ·simp only [ho, ho', Option.isSome_some, if_true] at hb hb'
  exact h.dist n m o o' b ho ho' hb hb'
theorem argsT_r {V : Vw} {O' : Nat → Prop} {l : Bool} (hO : ∀ b, ¬ V.O b → ¬ O' b) (hsr : l = true → ∀ b, ¬ O' b) (hobj : ∀ n o, lk n σ.objs = some o → ObjR V o (V.ρ n)) {ev : Operand → Value} (hev : OpsR V σ ev) :
  ∀ {ts : List Ty} {xs : List Operand} {ds : dens ts}, argsT l σ ts xs = some ds → VReps V.w O' ts (xs.map ev) ds
 | [], [], ds, h => rfl
 | [], _ :: _, ds, h => by simp [argsT] at h
 | _ :: _, [], ds, h => by simp [argsT] at h
 | t :: ts, x :: xs, ds, h => by
  simp only [argsT] at h
  cases hx : opv σ x with
  | none => rw [hx] at h; cases h
  | some av =>
   rw [hx] at h
   simp only at h
   split at h
   ·rename_i y ys hy hys
    cases h
    exact ⟨ev x, xs.map ev, rfl, asT_r hO hsr hobj hy (hev x av hx), argsT_r hO hsr hobj hev hys⟩
   ·cases h
theorem q_call (hfns : FnsOk P tb) (hobj : ∀ n o, lk n σ.objs = some o → ObjR (vw w O0 σ ρ) o (ρ n)) (hown : ∀ b, own O0 σ ρ b → b < w.heap.size) {a : Act} (hev : OpsR (vw w O0 σ ρ) σ a.eval) {d : Nat} {xs : List Operand} {g : Operand}
  {o : Oper} {ts : Array TypeId} (ho : o.op = .call { callee := .value g, args := xs.toArray, argTypes := ts })
  (h : qCall tb σ d xs (opv σ g) = some (vc, v, obs)) (hvc : vc) (hf : fresh obs σ = true) {next : Act → World → Prop} {Q : Exit → Act → World → Prop} {r : Option Nat}
  (hn : ∀ u ρ' w', QS w O0 σ ρ v obs u ρ' w' → next (a.put o.dst u) w') : o.wpIn (FR r) 0 P a w next Q := by
 cases hg : opv σ g with
 | none => rw [hg] at h; simp [qCall] at h
 | some gv =>
  rw [hg] at h
  have hgv := hev g gv hg
  unfold qCall at h
  split at h
  ·rename_i f he
   cases he
   have hge : a.eval g = .func (.func f) #[] #[] := hgv
   cases hsp : lk f tb.fns with
   | none => rw [hsp] at h; simp [qCall2] at h
   | some sp =>
    rw [hsp] at h
    simp only [qCall2] at h
    cases hds : argsT sp.lend σ sp.ins xs with
    | none => rw [hds] at h; simp [qCall3] at h
    | some ds =>
     rw [hds] at h
     simp only [qCall3] at h
     split at h
     ·rename_i hl
      cases h
      obtain ⟨⟨fn, hfn, hname, hbody⟩, hok⟩ := hfns f sp hsp
      have hrun : (execOp a.eval o).run P w = .ok (.enter f (xs.map a.eval).toArray) w := by
       have h1 : ¬ fn.name = "runtime.NumGoroutine" := by simpa using hname
       have h2 : ¬ fn.body = none := by intro e; simp [e] at hbody
       simp [execOp, ho, resolve, Deferred.ofValue, hge, invoke, callFunc, hfn, h1, h2]
      refine ⟨fun _ _ => trivial, ?_⟩
      rw [semAt_plain _ _ _ (fun c e => by rw [ho] at e; cases e), hrun, Oper.uponIn_enter]
      refine ⟨fun h => (by simp [FR] at h), callsIn_FR ?_⟩
      by_cases hlend : sp.lend = true
      ·rw [hlend] at hds
       have hflat : (sp.out ds).all RV.flat = true := by
        rcases hl with hl | hl
        ·rw [hlend] at hl; cases hl
        ·exact hl
       have hargs := argsT_r (V := vw w O0 σ ρ) (O' := fun _ => False) (fun _ _ h => h) (fun _ _ h => h) hobj hev hds
       refine (hok w (fun _ => False) _ ds (fun _ h => h.elim) hargs hvc).mono fun e w' hh => ?_
       obtain ⟨u, rfl, hres⟩ := hh
       obtain ⟨ρ', hq⟩ := hres d
       refine hn u ρ w' ?_
       rw [rvObjs_flat d hflat] at hq ⊢
       exact ⟨hq.below, fun _ _ => rfl, flat_res hflat hq.av, (fun _ _ h => by cases h), (fun _ _ _ h => by cases h), (fun _ _ _ _ _ h => by cases h)⟩
      ·have hlend' : sp.lend = false := by simpa using hlend
       rw [hlend'] at hds
       have hargs := argsT_r (V := vw w O0 σ ρ) (O' := own O0 σ ρ) (fun _ h => h) (fun h => by cases h) hobj hev hds
       refine (hok w (own O0 σ ρ) _ ds hown hargs hvc).mono fun e w' hh => ?_
       obtain ⟨u, rfl, hres⟩ := hh
       obtain ⟨ρ', hq⟩ := hres d
       exact hn u _ w' (QS.call hf hq)
     ·cases h
  ·cases h
end
end Go.Proofs.YtebfihindnhccaaGreat.Fw
end
/- One operation that only adds: all of them. -/
section
namespace Go.Proofs.YtebfihindnhccaaGreat.Fw
open Go Go.RowKit
section
variable {P : Program} {tb : Tb} {w : World} {O0 : Nat → Prop} {σ : St} {ρ : Nat → Value} {vc : Prop} {v : AV} {obs : List (Nat × Obj)}
theorem wp_value {o : Oper} {a : Act} {u : Value} {w' : World} {next : Act → World → Prop} {Q : Exit → Act → World → Prop} {r : Option Nat} (h : (execOp a.eval o).run P w = .ok (.value u) w') (hn : next (a.put o.dst u) w') (hnd : ∀ c, o.op ≠ .defer c := by intro c e; cases e) : o.wpIn (FR r) 0 P a w next Q := by
 refine ⟨fun _ _ => trivial, ?_⟩
 rw [semAt_plain _ _ _ hnd, h]
 exact hn
theorem const_ok {V : Vw} (x : Value) : AVR V (constAV x) x := by
 unfold constAV
 split
 ·rename_i k n
  split
  ·rename_i h; exact int_vrep h
  ·exact (rfl : (Value.int k n) = _)
 ·exact bool_vrep _
 ·rename_i s
  split
  ·rename_i h; exact str_vrep h
  ·exact (rfl : (Value.string s) = _)
 ·exact (rfl : x = x)
theorem opv_ok {V : Vw} {a : Act} (h : ∀ s v, lk s σ.env = some v → AVR V v (a.tmps.getD s undef)) : OpsR V σ a.eval := by
 intro x v hx
 cases x with
 | tmp t => exact h t v hx
 | const c => simp only [opv] at hx; cases hx; exact const_ok c
 | global g => simp [opv] at hx
 | func f => simp only [opv] at hx; cases hx; rfl
structure Ctx1 (P : Program) (tb : Tb) (w : World) (O0 : Nat → Prop) (σ : St) (ρ : Nat → Value) (a : Act) : Prop where
 hT : TbOk P tb
 hF : FnsOk P tb
 obj : ∀ n o, lk n σ.objs = some o → ObjR (vw w O0 σ ρ) o (ρ n)
 own : ∀ b, own O0 σ ρ b → b < w.heap.size
 ev : OpsR (vw w O0 σ ρ) σ a.eval
theorem QS.toP {d n : Nat} {el : TypeId} {e : Ty} {xs : List e.den} {u : Value} {ρ' : Nat → Value} {w' : World} (hown : ∀ b, own O0 σ ρ b → b < w.heap.size) (hf : fresh [(d, .arr el e xs)] σ = true)
  (hq : QS w O0 σ ρ (.sr d e 0 n) [(d, .arr el e xs)] u ρ' w') (hn : n = xs.length) : QS w O0 σ ρ (.p (.slice e) xs) [] u ρ w' where
 below := hq.below
 rho := fun _ _ => rfl
 av := by
  have hO : ∀ b, ¬ own O0 (plus σ [(d, .arr el e xs)]) ρ' b → ¬ own O0 (plus σ []) ρ b := by
   intro b hb hb'
   rcases hb' with h0 | ⟨m, ⟨o, hm⟩, hmb⟩
   ·exact hb (.inl h0)
   ·have hm : lk m σ.objs = some o := hm
    have hne : lk m [(d, Obj.arr el e xs)] = none := by
     cases h' : lk m [(d, Obj.arr el e xs)] with
     | none => rfl
     | some o' => have := fresh_spec hf h'; rw [this] at hm; cases hm
    refine hb (.inr ⟨m, ⟨o, by simp only [plus, lk_append, hne]; simpa using hm⟩, ?_⟩)
    rw [hq.rho m hne]
    exact hmb
  have hd : lk d [(d, Obj.arr el e xs)] = some (.arr el e xs) := by simp [lk]
  have hb : ∀ b, bk (ρ' d) b → ¬ own O0 (plus σ []) ρ b := fun b hb hb' => by
   have h1 := hq.new d _ b hd hb
   have h2 := hown b hb'
   omega
  have hr := sr_rep (V := vw w' O0 (plus σ [(d, .arr el e xs)]) ρ') hO (fun b hb' => hb b (.inl hb')) (hq.obj d _ hd) hq.av.2
  rw [hn, sub_all] at hr
  obtain ⟨_, _, _, _, _, _, a', c', hve, _⟩ := hq.av.2
  exact ⟨[u], hr, by rw [hve]; rfl⟩
 obj := fun _ _ h => by cases h
 new := fun _ _ _ h => by cases h
 dist := fun _ _ _ _ _ h => by cases h
theorem q_buildSliceB {id : TypeId} {ti : TI} (hT : TIok P tb id ti) (hTb : TbOk P tb) (hobj : ∀ n o, lk n σ.objs = some o → ObjR (vw w O0 σ ρ) o (ρ n)) (hown : ∀ b, own O0 σ ρ b → b < w.heap.size) {ev : Operand → Value} (hev : OpsR (vw w O0 σ ρ) σ ev) {pu : Bool} {d n : Nat} {parts : List (Nat × Operand)}
  (h : qBuildSlice pu σ d n parts (some ti) = some (vc, v, obs)) (hvc : vc) (hf : fresh obs σ = true) :
  ∃ u ρ' w', (Instr.buildSlice id n (parts.map fun p => (p.1, ev p.2)).toArray).run P w = .ok u w' ∧ QS w O0 σ ρ v obs u ρ' w' := by
 cases pu with
 | false => exact q_buildSlice hT hTb hobj hev h hvc hf
 | true =>
  unfold qBuildSlice at h
  split at h
  ·rename_i e offs el b he
   cases hp : partsT σ e 0 parts with
   | none => rw [hp] at h; simp [qBuildSlice2] at h
   | some xs =>
    rw [hp] at h
    simp only [qBuildSlice2, if_true] at h
    cases h
    obtain ⟨d', hd'⟩ : ∃ d', lk d' σ.objs = none := by
     have : ∀ l : List (Nat × Obj), ∃ m, ∀ k, m ≤ k → lk k l = none := by
      intro l
      induction l with
      | nil => exact ⟨0, fun _ _ => rfl⟩
      | cons x l ih =>
       obtain ⟨m, hm⟩ := ih
       refine ⟨max m (x.1 + 1), fun k hk => ?_⟩
       have : ¬ k = x.1 := by omega
       obtain ⟨j, o⟩ := x
       simp only [lk, this, if_false]
       exact hm k (by omega)
     obtain ⟨m, hm⟩ := this σ.objs
     exact ⟨m, hm m (Nat.le_refl m)⟩
    have hf' : fresh [(d', .arr el e xs)] σ = true := by simp [fresh, hd']
    have hq : qBuildSlice false σ d' n parts (some ti) = some (xs.length = n ∧ n * e.size ≤ 16777216, .sr d' e 0 n, [(d', .arr el e xs)]) := by
     unfold qBuildSlice
     rw [he]
     simp only
     rw [hp]
     simp [qBuildSlice2]
    obtain ⟨u, ρ', w', h1, h2⟩ := q_buildSlice hT hTb hobj hev hq hvc hf'
    exact ⟨u, ρ, w', h1, h2.toP hown hf' hvc.1.symm⟩
  ·cases h
theorem aq_wp {a : Act} (hc : Ctx1 P tb w O0 σ ρ a) {o : Oper} (h : aq tb σ (o.dst.getD 0) o.op = some (vc, v, obs)) (hvc : vc) (hf : fresh obs σ = true)
  {next : Act → World → Prop} {Q : Exit → Act → World → Prop} {r : Option Nat} (hn : ∀ u ρ' w', QS w O0 σ ρ v obs u ρ' w' → next (a.put o.dst u) w') : o.wpIn (FR r) 0 P a w next Q := by
 obtain ⟨hT, hF, hobj, hown, hev⟩ := hc
 have hL : ∀ n, (vw w O0 σ ρ).L n → ∃ o, ObjR (vw w O0 σ ρ) o ((vw w O0 σ ρ).ρ n) := fun n ⟨o, ho⟩ => ⟨o, hobj n o ho⟩
 obtain ⟨dst, op, type, pos, after, guard⟩ := o
 simp only at h hn
 cases op <;> simp only [aq] at h <;> try (cases h; done)
 case move x =>
  cases hx : opv σ x with
  | none => rw [hx] at h; cases h
  | some xv =>
   rw [hx] at h; simp only [qmap] at h; cases h
   exact wp_value (u := a.eval x) (by simp [execOp]) (hn _ _ _ (QS.still (hev x _ hx)))
 case assign x =>
  cases hx : opv σ x with
  | none => rw [hx] at h; cases h
  | some xv =>
   rw [hx] at h; simp only [qmap] at h; cases h
   exact wp_value (u := a.eval x) (by simp [execOp]) (hn _ _ _ (QS.still (hev x _ hx)))
 case pick c x y =>
  cases hc : opv σ c with
  | none => rw [hc] at h; simp [qPick] at h
  | some cv =>
   rw [hc] at h
   have hcv := hev c cv hc
   unfold qPick at h
   split at h
   ·rename_i he
    cases he
    have hb := vrep_bool hcv
    cases hx : opv σ x with
    | none => rw [hx] at h; simp [qmap] at h
    | some xv =>
     rw [hx] at h; simp only [qmap] at h; cases h
     exact wp_value (u := a.eval x) (by simp [execOp, hb, asBool]) (hn _ _ _ (QS.still (hev x _ hx)))
   ·rename_i he
    cases he
    have hb := vrep_bool hcv
    cases hy : opv σ y with
    | none => rw [hy] at h; simp [qmap] at h
    | some yv =>
     rw [hy] at h; simp only [qmap] at h; cases h
     exact wp_value (u := a.eval y) (by simp [execOp, hb, asBool]) (hn _ _ _ (QS.still (hev y _ hy)))
   ·cases h
 case alloc t =>
  cases ht : lk t tb.ty with
  | none => rw [ht] at h; simp [qAlloc] at h
  | some ti =>
   rw [ht] at h
   obtain ⟨u, ρ', w', h1, h2⟩ := q_alloc (w := w) (O0 := O0) (ρ := ρ) (hT _ _ ht) h hf
   exact wp_value (u := u) (w' := w') (by simp [execOp, h1]) (hn _ _ _ h2)
 case box t x =>
  cases ht : lk t tb.ty with
  | none => rw [ht] at h; simp [qBox] at h
  | some ti =>
   cases hx : opv σ x with
   | none => rw [ht, hx] at h; simp [qBox] at h
   | some xv =>
    rw [ht, hx] at h
    obtain ⟨u, ρ', w', h1, h2⟩ := q_box (hT _ _ ht) h (hev x _ hx) hf
    exact wp_value (u := u) (w' := w') (by simp [execOp, h1]) (hn _ _ _ h2)
 case build t parts =>
  cases ht : lk t tb.ty with
  | none => rw [ht] at h; simp [qBuild] at h
  | some ti =>
   rw [ht] at h
   obtain ⟨rfl, u, h1, h2⟩ := q_build (hT _ _ ht) hobj hev h
   have h1 : (Instr.build t (parts.map fun p => (p.1, a.eval p.2))).run P w = .ok u w := by
    rw [← h1]
    congr 2
    apply Array.ext'
    simp
   exact wp_value (u := u) (w' := w) (by simp [execOp, h1]) (hn _ _ _ (QS.still h2))
 case buildSlice t n parts =>
  cases ht : lk t tb.ty with
  | none => rw [ht] at h; simp [qBuildSlice] at h
  | some ti =>
   rw [ht] at h
   obtain ⟨u, ρ', w', h1, h2⟩ := q_buildSliceB (hT _ _ ht) hT hobj hown hev h hvc hf
   have h1 : (Instr.buildSlice t n (parts.map fun p => (p.1, a.eval p.2))).run P w = .ok u w' := by
    rw [← h1]
    congr 2
    apply Array.ext'
    simp
   exact wp_value (u := u) (w' := w') (by simp [execOp, h1]) (hn _ _ _ h2)
 case load t x =>
  cases ht : lk t tb.ty with
  | none => rw [ht] at h; simp [qLoad] at h
  | some ti =>
   cases hx : opv σ x with
   | none => rw [ht, hx] at h; simp [qLoad] at h
   | some xv =>
    rw [ht, hx] at h
    obtain ⟨rfl, u, h1, h2⟩ := q_load (hT _ _ ht) hobj h (hev x _ hx)
    exact wp_value (u := u) (w' := w) (by simp [execOp, h1]) (hn _ _ _ (QS.still h2))
 case nilCheck x =>
  cases hx : opv σ x with
  | none => rw [hx] at h; simp [qNil] at h
  | some xv =>
   rw [hx] at h
   obtain ⟨rfl, ⟨ad, he⟩, h2⟩ := q_nil h (hev x _ hx)
   exact wp_value (u := a.eval x) (w' := w) (by simp [execOp, he]) (hn _ _ _ (QS.still h2))
 case binOp op t x y t' =>
  cases hx : opv σ x with
  | none => rw [hx] at h; simp [qBin] at h
  | some xv =>
   cases hy : opv σ y with
   | none => rw [hx, hy] at h; cases xv <;> simp [qBin] at h
   | some yv =>
    rw [hx, hy] at h
    obtain ⟨rfl, h1, u, h2, h3⟩ := q_bin (P := P) (t := t) (fun hb => by
     cases ht : lk t tb.ty with
     | none => rw [ht] at hb; cases hb
     | some ti =>
      have h0 := (hT _ _ ht).2
      rw [ht] at hb
      unfold boolT at hb
      split at hb
      ·rename_i e; cases e; exact h0
      ·cases hb) w h hvc (hev x _ hx) (hev y _ hy)
    exact wp_value (u := u) (w' := w) (by simp [execOp, h1, h2]) (hn _ _ _ (QS.still h3))
 case unOp op t x =>
  cases hx : opv σ x with
  | none => rw [hx] at h; cases op <;> simp [qUn] at h
  | some xv =>
   rw [hx] at h
   obtain ⟨rfl, u, h2, h3⟩ := q_un (P := P) w h hvc (hev x _ hx)
   exact wp_value (u := u) (w' := w) (by simp [execOp, h2]) (hn _ _ _ (QS.still h3))
 case convert s t x =>
  cases hs : lk s tb.ty with
  | none => rw [hs] at h; simp [qConv] at h
  | some si =>
   cases ht : lk t tb.ty with
   | none => rw [hs, ht] at h; simp [qConv] at h
   | some ti =>
    cases hx : opv σ x with
    | none => rw [hs, ht, hx] at h; simp [qConv] at h
    | some xv =>
     rw [hs, ht, hx] at h
     obtain ⟨rfl, u, h2, h3⟩ := q_conv (P := P) (hT _ _ hs) (hT _ _ ht) w h hvc (hev x _ hx)
     exact wp_value (u := u) (w' := w) (by simp [execOp, h2]) (hn _ _ _ (QS.still h3))
 case makeSlice t l c =>
  cases ht : lk t tb.ty with
  | none => rw [ht] at h; simp [qMake] at h
  | some ti =>
   cases hx : opv σ l with
   | none => rw [ht, hx] at h; simp [qMake] at h
   | some lv =>
    cases hy : opv σ c with
    | none => rw [ht, hx, hy] at h; simp [qMake] at h
    | some cv =>
     rw [ht, hx, hy] at h
     obtain ⟨u, ρ', w', h1, h2⟩ := q_make (hT _ _ ht) hT h hvc (hev l _ hx) (hev c _ hy) hf
     exact wp_value (u := u) (w' := w') (by simp [execOp, h1]) (hn _ _ _ h2)
 case slice t x lo hi mx =>
  cases mx with
  | some m => simp [aq] at h
  | none =>
   simp only [aq] at h
   cases ht : lk t tb.ty with
   | none => rw [ht] at h; simp [qSlice] at h
   | some ti =>
    cases hx : opv σ x with
    | none => rw [ht, hx] at h; simp [qSlice] at h
    | some xv =>
     have hbnd : ∀ {y : Option Operand} {y' : Option AV}, optAV σ y = some y' → BndAV (V := vw w O0 σ ρ) y' (y.map a.eval) := by
      intro y y' hy
      cases y with
      | none => simp only [optAV] at hy; cases hy; trivial
      | some z =>
       simp only [optAV, Option.map_eq_some_iff] at hy
       obtain ⟨zv, hz, rfl⟩ := hy
       exact hev z zv hz
     cases hlo : optAV σ lo with
     | none => rw [ht, hx, hlo] at h; simp [qSlice] at h
     | some lov =>
      cases hhi : optAV σ hi with
      | none => rw [ht, hx, hlo, hhi] at h; simp [qSlice] at h
      | some hiv =>
       rw [ht, hx, hlo, hhi] at h
       obtain ⟨rfl, u, h2, h3⟩ := q_slice (P := P) (V := vw w O0 σ ρ) (hT _ _ ht) hT h hvc (hev x _ hx) (hbnd hlo) (hbnd hhi)
       have h2 : (Instr.sliceAt t (a.eval x) (lo.map a.eval) (hi.map a.eval) none).run P w = .ok u w := h2
       exact wp_value (u := u) (w' := w) (by simp [execOp, h2]) (hn _ _ _ (QS.still h3))
 case fieldAddr s x f =>
  cases hs : lk s tb.ty with
  | none => rw [hs] at h; simp [qField] at h
  | some ti =>
   cases hx : opv σ x with
   | none => rw [hs, hx] at h; simp [qField] at h
   | some xv =>
    rw [hs, hx] at h
    obtain ⟨rfl, u, h2, h3⟩ := q_field (P := P) (hT _ _ hs) w h (hev x _ hx)
    exact wp_value (u := u) (w' := w) (by simp [execOp, h2]) (hn _ _ _ (QS.still h3))
 case indexAddr t x i =>
  cases ht : lk t tb.ty with
  | none => rw [ht] at h; simp [qIndex] at h
  | some ti =>
   cases hx : opv σ x with
   | none => rw [ht, hx] at h; simp [qIndex] at h
   | some xv =>
    cases hi : opv σ i with
    | none => rw [ht, hx, hi] at h; simp [qIndex] at h
    | some iv =>
     rw [ht, hx, hi] at h
     obtain ⟨rfl, u, h2, h3⟩ := q_index (P := P) (V := vw w O0 σ ρ) (hT _ _ ht) hT h hvc (hev x _ hx) (hev i _ hi) hL
     have h2 : (Instr.indexAt t (a.eval x) (a.eval i)).run P w = .ok u w := h2
     exact wp_value (u := u) (w' := w) (by simp [execOp, h2]) (hn _ _ _ (QS.still h3))
 case index t x i =>
  cases ht : lk t tb.ty with
  | none => rw [ht] at h; simp [qIndexS] at h
  | some ti =>
   cases hx : opv σ x with
   | none => rw [ht, hx] at h; simp [qIndexS] at h
   | some xv =>
    cases hi : opv σ i with
    | none => rw [ht, hx, hi] at h; simp [qIndexS] at h
    | some iv =>
     rw [ht, hx, hi] at h
     obtain ⟨rfl, u, h2, h3⟩ := q_indexS (P := P) (hT _ _ ht) w h hvc (hev x _ hx) (hev i _ hi)
     exact wp_value (u := u) (w' := w) (by simp [execOp, h2]) (hn _ _ _ (QS.still h3))
 case extract x i =>
  cases hx : opv σ x with
  | none => rw [hx] at h; simp [qExtract] at h
  | some xv =>
   rw [hx] at h
   obtain ⟨rfl, u, h2, h3⟩ := q_extract (P := P) w h (hev x _ hx)
   exact wp_value (u := u) (w' := w) (by simp [execOp, h2]) (hn _ _ _ (QS.still h3))
 case makeFunc fn first captured =>
  obtain ⟨rfl, u, h2, h3⟩ := q_clo (P := P) hev h
  have h2 : (Instr.makeFunc fn (first.map a.eval) (captured.map a.eval)).run P w = .ok u w := by
   rw [← h2]
   congr 2 <;> (apply Array.ext'; simp)
  exact wp_value (u := u) (w' := w) (by simp [execOp, h2]) (hn _ _ _ (QS.still h3))
 case makeMap t res =>
  cases res with
  | some z => simp [aq] at h
  | none =>
   simp only [aq] at h
   cases ht : lk t tb.ty with
   | none => rw [ht] at h; simp [qMakeMap] at h
   | some ti =>
    rw [ht] at h
    obtain ⟨u, ρ', w', h1, h2⟩ := q_makeMap (w := w) (O0 := O0) (ρ := ρ) (hT _ _ ht) h hf
    exact wp_value (u := u) (w' := w') (by simp [execOp, h1]) (hn _ _ _ h2)
 case lookup t x i ok =>
  cases ht : lk t tb.ty with
  | none => rw [ht] at h; simp [qLook] at h
  | some ti =>
   cases hx : opv σ x with
   | none => rw [ht, hx] at h; simp [qLook] at h
   | some xv =>
    cases hi : opv σ i with
    | none => rw [ht, hx, hi] at h; simp [qLook] at h
    | some iv =>
     rw [ht, hx, hi] at h
     obtain ⟨rfl, u, h2, h3⟩ := q_look (P := P) (hT _ _ ht) hT hobj h (hev x _ hx) (hev i _ hi)
     exact wp_value (u := u) (w' := w) (by simp [execOp, h2]) (hn _ _ _ (QS.still h3))
 case call c =>
  obtain ⟨callee, args, argTypes⟩ := c
  cases callee with
  | invoke r m => simp [qCallee] at h
  | value g =>
   simp only [qCallee] at h
   exact q_call hF hobj hown hev (xs := args.toList) (ts := argTypes) (o := ⟨dst, .call ⟨.value g, args, argTypes⟩, type, pos, after, guard⟩) (by simp) h hvc hf hn
  | builtin b =>
   simp only [qCallee] at h
   obtain ⟨args⟩ := args
   obtain ⟨argTypes⟩ := argTypes
   simp only at h
   unfold qBuiltin at h
   split at h
   ·rename_i x t
    cases ht : lk t tb.ty with
    | none => rw [ht] at h; simp [qLen] at h
    | some ti =>
     cases hx : opv σ x with
     | none => rw [ht, hx] at h; simp [qLen] at h
     | some xv =>
      rw [ht, hx] at h
      obtain ⟨rfl, u, h2, h3⟩ := q_len (P := P) (ty := type) (V := vw w O0 σ ρ) hL (hT _ _ ht) w h (hev x _ hx)
      exact wp_value (u := u) (w' := w) (by simp [execOp, resolve, invoke, builtin, h2]) (hn _ _ _ (QS.still h3))
   ·rename_i x y t u
    cases hx : opv σ x with
    | none => rw [hx] at h; simp [qAppend] at h
    | some xv =>
     cases hy : opv σ y with
     | none => rw [hx, hy] at h; simp [qAppend] at h
     | some yv =>
      rw [hx, hy] at h
      obtain ⟨z, ρ', w', h1, h2⟩ := q_append (ty := type) hT hobj h hvc (hev x _ hx) (hev y _ hy) hf
      exact wp_value (u := z) (w' := w') (by simp [execOp, resolve, invoke, builtin, h1]) (hn _ _ _ h2)
   ·rename_i x y t u
    cases hx : opv σ x with
    | none => rw [hx] at h; simp [qMin] at h
    | some xv =>
     cases hy : opv σ y with
     | none => rw [hx, hy] at h; simp [qMin] at h
     | some yv =>
      rw [hx, hy] at h
      obtain ⟨rfl, z, h1, h2⟩ := q_min (P := P) (ts := #[t, u]) (ty := type) w h (hev x _ hx) (hev y _ hy)
      exact wp_value (u := z) (w' := w) (by simp [execOp, resolve, invoke, builtin, h1]) (hn _ _ _ (QS.still h2))
   ·rename_i x y t u
    cases hx : opv σ x with
    | none => rw [hx] at h; simp [qMax] at h
    | some xv =>
     cases hy : opv σ y with
     | none => rw [hx, hy] at h; simp [qMax] at h
     | some yv =>
      rw [hx, hy] at h
      obtain ⟨rfl, z, h1, h2⟩ := q_max (P := P) (ts := #[t, u]) (ty := type) w h (hev x _ hx) (hev y _ hy)
      exact wp_value (u := z) (w' := w) (by simp [execOp, resolve, invoke, builtin, h1]) (hn _ _ _ (QS.still h2))
   ·cases h
end
end Go.Proofs.YtebfihindnhccaaGreat.Fw
end
/- Steps that turn memory, and an owned array given up: the abstract state holds behind them. -/
section
namespace Go.Proofs.YtebfihindnhccaaGreat.Fw
open Go Go.RowKit
section
variable {w0 : World} {K O0 : Nat → Prop} {nt : Nat} {ds : Fp} {σ : St} {ρ : Nat → Value} {a : Act} {w : World}
theorem liv_upd {n : Nat} {o : Obj} {env : List (Nat × AV)} (m : Nat) : liv ⟨env, upd n o σ.objs⟩ m ↔ liv σ m := by
 constructor
 ·rintro ⟨x, hx⟩
  rw [lk_upd] at hx
  split at hx
  ·rename_i e
   subst e
   simp only [Option.map_eq_some_iff] at hx
   obtain ⟨y, hy, _⟩ := hx
   exact ⟨y, hy⟩
  ·exact ⟨x, hx⟩
 ·rintro ⟨x, hx⟩
  by_cases e : m = n
  ·subst e
   exact ⟨o, by simp [lk_upd, hx]⟩
  ·exact ⟨x, by simp [lk_upd, e, hx]⟩
theorem SatR.upd (h : SatR w0 K O0 nt ds σ ρ a w) (hK : ∀ b, K b → b < w0.heap.size) {n : Nat} {o o' : Obj} (hn : lk n σ.objs = some o) {g : Nat} (hb : blk (ρ n) = some g) {w' : World} (hg : w.grownBy w' (some g))
  (ho : ObjR (vw w' O0 σ ρ) o' (ρ n)) : SatR w0 K O0 nt ds ⟨σ.env, Fw.upd n o' σ.objs⟩ ρ a w' := by
 have hliv : liv ⟨σ.env, Fw.upd n o' σ.objs⟩ = liv σ := funext fun m => propext (liv_upd m)
 have hvw : vw w' O0 ⟨σ.env, Fw.upd n o' σ.objs⟩ ρ = vw w' O0 σ ρ := by
  have hown : own O0 ⟨σ.env, Fw.upd n o' σ.objs⟩ ρ = own O0 σ ρ := by
   funext b
   simp only [own, hliv]
  simp only [vw, hliv, hown]
 have hgown : own O0 σ ρ g := .inr ⟨n, ⟨o, hn⟩, .inl hb⟩
 have hk : Keeps (vw w O0 σ ρ) (vw w' O0 σ ρ) := ⟨fun _ _ h => h, fun _ h => h, fun _ _ => rfl, fun b hlt hO => hg.block b hlt (fun e => by injection e with e; subst e; exact hO hgown)⟩
 refine ⟨⟨hg.os.trans h.frm.os, hg.tape.trans h.frm.tape, hg.output.trans h.frm.output, Nat.le_trans h.frm.size hg.size, fun k hk' => ?_⟩, h.nt, h.defers, fun p hp => by rw [hliv]; exact h.pin p hp, ?_, ?_, ?_, ?_⟩
 ·refine (hg.block k (Nat.lt_of_lt_of_le (hK k hk') h.frm.size) (fun e => ?_)).trans (h.frm.block k hk')
  injection e with e
  subst e
  exact (h.free n k ⟨o, hn⟩ (.inl hb)).1 hk'
 ·intro m x hm
  rw [hvw]
  rw [lk_upd] at hm
  split at hm
  ·rename_i e
   subst e
   rw [hn] at hm
   simp only [Option.map_some] at hm
   cases hm
   exact ho
  ·rename_i e
   refine (h.objs m x hm).keeps hk fun b hb' => ?_
   refine hg.block b ((h.objs m x hm).block_lt hb') (fun e' => ?_)
   injection e' with e'
   subst e'
   exact e (h.dist m n b ⟨x, hm⟩ ⟨o, hn⟩ hb' (.inl hb))
 ·intro m b hl hb'
  rw [hliv] at hl
  exact h.free m b hl hb'
 ·intro m m' b hl hl' h1 h2
  rw [hliv] at hl hl'
  exact h.dist m m' b hl hl' h1 h2
 ·intro s v hs
  rw [hvw]
  exact (h.env s v hs).keeps hk
/-! ### What does not look at n -/
theorem lk_drpEnv (n s : Nat) : ∀ l : List (Nat × AV), lk s (drpEnv n l) = (lk s l).map (AV.drp n)
 | [] => rfl
 | (j, v) :: l => by
  simp only [drpEnv, lk]
  split
  ·rfl
  ·exact lk_drpEnv n s l
def Obj.drp (n : Nat) : Obj → Obj
 | .arr et e xs => .arr et e xs
 | .box et st fs => .box et st (AV.drps n fs)
 | .mapo k v l => .mapo k v l
 | .frame tm fs => .frame tm (drpEnv n fs)
 | .loop L => .loop L
 | .dfr => .dfr
theorem lk_drpObjs (n s : Nat) : ∀ l : List (Nat × Obj), lk s (drpObjs n l) = (lk s l).map (Obj.drp n)
 | [] => rfl
 | (j, .arr et e xs) :: l => by
  simp only [drpObjs, lk]
  split
  ·rfl
  ·exact lk_drpObjs n s l
 | (j, .box et st fs) :: l => by
  simp only [drpObjs, lk]
  split
  ·rfl
  ·exact lk_drpObjs n s l
 | (j, .mapo k v x) :: l => by
  simp only [drpObjs, lk]
  split
  ·rfl
  ·exact lk_drpObjs n s l
 | (j, .frame tm fs) :: l => by
  simp only [drpObjs, lk]
  split
  ·rfl
  ·exact lk_drpObjs n s l
 | (j, .loop L) :: l => by
  simp only [drpObjs, lk]
  split
  ·rfl
  ·exact lk_drpObjs n s l
 | (j, .dfr) :: l => by
  simp only [drpObjs, lk]
  split
  ·rfl
  ·exact lk_drpObjs n s l
def Vw.but (V : Vw) (n : Nat) : Vw := ⟨V.w, V.O, fun m => V.L m ∧ m ≠ n, V.ρ⟩
theorem av1_drp {V : Vw} {n : Nat} (hn : ∃ a m c, V.ρ n = .slice a m c) {x : AV} {v : Value} (h : AV1 V x v) : AV1 (V.but n) (x.drp n) v := by
 cases x
 case sr m e lo hi =>
  simp only [AV.drp]
  split
  ·trivial
  ·rename_i hne; exact ⟨⟨h.1, hne⟩, h.2⟩
 case ep m e i path off =>
  simp only [AV.drp]
  split
  ·trivial
  ·rename_i hne; exact ⟨⟨h.1, hne⟩, h.2⟩
 case bp m path off =>
  simp only [AV.drp]
  refine ⟨⟨h.1, fun e => ?_⟩, h.2⟩
  subst e
  obtain ⟨a, m', c, hs⟩ := hn
  obtain ⟨_, b, hb, _⟩ := h
  rw [hs] at hb
  cases hb
 case clo f ns =>
  simp only [AV.drp]
  refine ⟨h.1, fun m hm => ?_⟩
  obtain ⟨h1, b, hb⟩ := h.2 m hm
  refine ⟨⟨h1, fun e => ?_⟩, b, hb⟩
  subst e
  obtain ⟨a, m', c, hs⟩ := hn
  rw [hs] at hb
  cases hb
 case mp m =>
  simp only [AV.drp]
  refine ⟨⟨h.1, fun e => ?_⟩, h.2⟩
  subst e
  obtain ⟨a, m', c, hs⟩ := hn
  obtain ⟨_, b, hb, _⟩ := h
  rw [hs] at hb
  cases hb
 case yl m =>
  simp only [AV.drp]
  refine ⟨⟨h.1, fun e => ?_⟩, h.2⟩
  subst e
  obtain ⟨a, m', c, hs⟩ := hn
  obtain ⟨_, b, hb, _⟩ := h
  rw [hs] at hb
  cases hb
 case ag l => exact h.elim
 case tup l => exact h.elim
 all_goals simp only [AV.drp]; exact h
theorem avc_drp {V : Vw} {n : Nat} (hn : ∃ a m c, V.ρ n = .slice a m c) {x : AV} {cs : List Value} (h : AVC V x cs) : AVC (V.but n) (x.drp n) cs := by
 cases x
 case p t d => simp only [AV.drp]; exact h
 case ag l => obtain ⟨v, _, _, hf⟩ := h; exact hf.elim
 case tup l => obtain ⟨v, _, _, hf⟩ := h; exact hf.elim
 all_goals
  obtain ⟨v, rfl, h1, h2⟩ := h
  have h3 := av1_drp hn h2
  simp only [AV.drp] at h3 ⊢
  first
   | exact ⟨v, rfl, h1, h3⟩
   | (split at h3 <;> rename_i hc <;> first | (rw [if_pos hc]; exact ⟨v, rfl, h1, h3⟩) | (rw [if_neg hc]; exact ⟨v, rfl, h1, h3⟩))
theorem avcs_drp {V : Vw} {n : Nat} (hn : ∃ a m c, V.ρ n = .slice a m c) : ∀ {l : List AV} {cs : List Value}, AVCs V l cs → AVCs (V.but n) (AV.drps n l) cs
 | [], cs, h => (h : cs = [])
 | x :: r, cs, h => by
  obtain ⟨c1, c2, rfl, h1, h2⟩ := h
  simp only [AV.drps]
  exact ⟨c1, c2, rfl, avc_drp hn h1, avcs_drp hn h2⟩
theorem av1s_drp {V : Vw} {n : Nat} (hn : ∃ a m c, V.ρ n = .slice a m c) : ∀ {l : List AV} {vs : List Value}, AV1s V l vs → AV1s (V.but n) (AV.drps n l) vs
 | [], vs, h => (h : vs = [])
 | x :: r, vs, h => by
  obtain ⟨v, vs', rfl, h1, h2⟩ := h
  simp only [AV.drps]
  exact ⟨v, vs', rfl, av1_drp hn h1, av1s_drp hn h2⟩
theorem avr1 {V : Vw} {x : AV} {v : Value} (h : AV1 V x v) : AVR V x v := by
 cases x
 case ag l => exact h.elim
 case tup l => exact h.elim
 all_goals exact h
theorem avr_drp {V : Vw} {n : Nat} (hn : ∃ a m c, V.ρ n = .slice a m c) {x : AV} {v : Value} (h : AVR V x v) : AVR (V.but n) (x.drp n) v := by
 cases x
 case ag l => obtain ⟨cs, h1, h2⟩ := h; simp only [AV.drp]; exact ⟨cs, h1, avcs_drp hn h2⟩
 case tup l => obtain ⟨vs, h1, h2⟩ := h; simp only [AV.drp]; exact ⟨vs, h1, av1s_drp hn h2⟩
 all_goals exact avr1 (av1_drp hn h)
theorem drps_length (n : Nat) : ∀ l : List AV, (AV.drps n l).length = l.length
 | [] => rfl
 | _ :: r => by simp [AV.drps, drps_length n r]
theorem liv_app {n : Nat} {o' : Obj} {env : List (Nat × AV)} (m : Nat) : liv ⟨env, upd n o' (drpObjs n σ.objs)⟩ m ↔ liv σ m := by
 constructor
 ·rintro ⟨x, hx⟩
  rw [lk_upd, lk_drpObjs, lk_drpObjs] at hx
  split at hx
  ·rename_i e
   subst e
   simp only [Option.map_map, Option.map_eq_some_iff] at hx
   obtain ⟨y, hy, _⟩ := hx
   exact ⟨y, hy⟩
  ·simp only [Option.map_eq_some_iff] at hx
   obtain ⟨y, hy, _⟩ := hx
   exact ⟨y, hy⟩
 ·rintro ⟨x, hx⟩
  by_cases e : m = n
  ·subst e
   exact ⟨o', by simp [lk_upd, lk_drpObjs, hx]⟩
  ·exact ⟨x.drp n, by simp [lk_upd, lk_drpObjs, e, hx]⟩
theorem SatR.app (h : SatR w0 K O0 nt ds σ ρ a w) (hK : ∀ b, K b → b < w0.heap.size) (hO : ∀ b, O0 b → b < w0.heap.size) {n : Nat} (hfx : fixN n = false) {et : TypeId} {e : Ty} {xs ys : List e.den} (hn : lk n σ.objs = some (.arr et e xs)) {loc : Value} {w' : World} {cells : List Value}
  (hg : w.grownBy w' (blk (ρ n))) (hloc : blk loc = blk (ρ n) ∨ ∀ b, blk loc = some b → w.heap.size ≤ b) (hm : ys.length ≤ maxN)
  (how : w'.ownsRow 0 et e.size loc ys.length cells) (hel : Elems w (own O0 σ ρ) e cells ys) {d : Nat} (hd : d < nt) {hi : Nat} (hhi : hi = ys.length) :
  SatR w0 K O0 nt ds ⟨(d, .sr n e 0 hi) :: drpEnv n σ.env, Fw.upd n (.arr et e ys) (drpObjs n σ.objs)⟩ (upρ ρ n loc) (a.put (some d) loc) w' := by
 subst hhi
 have hns : ∃ a m c, (vw w O0 σ ρ).ρ n = .slice a m c := by
  obtain ⟨_, cells', how', _⟩ := h.objs n _ hn
  rcases how'.2 with ⟨he, _⟩ | ⟨g, cap, cur, he, _⟩
  ·exact ⟨_, _, _, he⟩
  ·exact ⟨_, _, _, he⟩
 let σ' : St := ⟨(d, .sr n e 0 ys.length) :: drpEnv n σ.env, Fw.upd n (.arr et e ys) (drpObjs n σ.objs)⟩
 have hliv : ∀ m, liv σ' m ↔ liv σ m := fun m => liv_app m
 have hbl : ∀ b, bk loc b ↔ blk loc = some b := fun b => by
  rcases how.2 with ⟨he, _⟩ | ⟨g, cap, cur, he, _⟩
  ·rw [he]; exact bk_slice
  ·rw [he]; exact bk_slice
 have hbn : ∀ b, bk (ρ n) b ↔ blk (ρ n) = some b := fun b => by
  obtain ⟨a2, m2, c2, h4⟩ := hns
  have h4 : ρ n = _ := h4
  rw [h4]; exact bk_slice
 have hnew : ∀ b, bk loc b → own O0 σ ρ b ∨ w.heap.size ≤ b := by
  intro b hb
  replace hb := (hbl b).1 hb
  rcases hloc with h1 | h1
  ·exact .inl (.inr ⟨n, ⟨_, hn⟩, .inl (by rw [← h1]; exact hb)⟩)
  ·exact .inr (h1 b hb)
 have hk : Keeps ((vw w O0 σ ρ).but n) (vw w' O0 σ' (upρ ρ n loc)) := by
  refine ⟨?_, fun m hm => (hliv m).2 hm.1, fun m hm => ?_, ?_⟩
  ·intro b hlt hb hb'
   rcases hb' with h0 | ⟨m, hl, hbm⟩
   ·exact hb (.inl h0)
   ·by_cases hmn : m = n
    ·subst hmn
     rw [upρ_same] at hbm
     rcases hnew b hbm with h1 | h1
     ·exact hb h1
     ·have hlt : b < w.heap.size := hlt
      omega
    ·have : upρ ρ n loc m = ρ m := by simp [upρ, hmn]
     rw [this] at hbm
     exact hb (.inr ⟨m, (hliv m).1 hl, hbm⟩)
  ·have : m ≠ n := hm.2
   show upρ ρ n loc m = ρ m
   simp [upρ, this]
  ·intro b hlt hb
   exact hg.block b hlt (fun e' => hb (.inr ⟨n, ⟨_, hn⟩, .inl e'.symm⟩))
 refine ⟨⟨hg.os.trans h.frm.os, hg.tape.trans h.frm.tape, hg.output.trans h.frm.output, Nat.le_trans h.frm.size hg.size, fun k hk' => ?_⟩, by rw [put_size]; exact h.nt, by rw [put_defers]; exact h.defers, fun p hp => ?_, ?_, ?_, ?_, ?_⟩
 ·refine (hg.block k (Nat.lt_of_lt_of_le (hK k hk') h.frm.size) (fun e' => ?_)).trans (h.frm.block k hk')
  exact (h.free n k ⟨_, hn⟩ (.inl e'.symm)).1 hk'
 ·obtain ⟨h1, h2, h3⟩ := h.pin p hp
  have hne : p.1 ≠ n := by
   intro e2
   obtain ⟨a2, m2, c2, h4⟩ := hns
   have h4 : ρ n = _ := h4
   rw [← e2, h2] at h4
   rw [h4] at h3
   rcases h3 with h3 | h3
   ·cases h3
   ·rw [e2, hfx] at h3; cases h3
  exact ⟨(hliv p.1).2 h1, by simp [upρ, hne, h2], h3⟩
 ·intro m x hm'
  show ObjR (vw w' O0 σ' (upρ ρ n loc)) x (upρ ρ n loc m)
  rw [lk_upd] at hm'
  split at hm'
  ·rename_i e'
   subst e'
   rw [lk_drpObjs, hn] at hm'
   simp only [Option.map_some] at hm'
   cases hm'
   rw [upρ_same]
   exact ⟨hm, cells, how, hel.keeps (V := (vw w O0 σ ρ).but m) hk⟩
  ·rename_i e'
   rw [lk_drpObjs] at hm'
   simp only [Option.map_eq_some_iff] at hm'
   obtain ⟨y, hy, rfl⟩ := hm'
   have : upρ ρ n loc m = ρ m := by simp [upρ, e']
   rw [this]
   have hb : ∀ b, bk (ρ m) b → w'.heap[b]? = w.heap[b]? := fun b hb' => by
    refine hg.block b ((h.objs m y hy).block_lt hb') (fun e2 => ?_)
    exact e' (h.dist m n b ⟨y, hy⟩ ⟨_, hn⟩ hb' (.inl e2.symm))
   have hobj := h.objs m y hy
   cases y with
   | arr et' e2 zs => exact ObjR.keeps (V := (vw w O0 σ ρ).but n) hk hb hobj
   | box et' st fs =>
    obtain ⟨h0, b, cs, hl, hh, hcs⟩ := hobj
    exact ObjR.keeps (V := (vw w O0 σ ρ).but n) (o := .box et' st (AV.drps n fs)) hk hb ⟨fun hst => by rw [drps_length]; exact h0 hst, b, cs, hl, hh, avcs_drp hns hcs⟩
   | mapo k v l => exact ObjR.keeps (V := (vw w O0 σ ρ).but n) hk hb hobj
   | frame tm fs =>
    obtain ⟨h0, h1⟩ := hobj
    refine ObjR.keeps (V := (vw w O0 σ ρ).but n) (o := .frame tm (drpEnv n fs)) hk hb ⟨h0, fun s z hz => ?_⟩
    rw [lk_drpEnv] at hz
    simp only [Option.map_eq_some_iff] at hz
    obtain ⟨y, hy, rfl⟩ := hz
    exact avr_drp hns (h1 s y hy)
   | loop L => exact ObjR.keeps (V := (vw w O0 σ ρ).but n) hk hb hobj
   | dfr => exact ObjR.keeps (V := (vw w O0 σ ρ).but n) hk hb hobj
 ·intro m b hl hb
  replace hl := (hliv m).1 hl
  by_cases e' : m = n
  ·subst e'
   rw [upρ_same] at hb
   rcases hloc with h1 | h1
   ·exact h.free m b hl (.inl (by rw [← h1]; exact (hbl b).1 hb))
   ·have := h1 b ((hbl b).1 hb)
    have := h.frm.size
    exact ⟨fun hk' => by have := hK b hk'; omega, fun hk' => by have := hO b hk'; omega⟩
  ·have : upρ ρ n loc m = ρ m := by simp [upρ, e']
   rw [this] at hb
   exact h.free m b hl hb
 ·have key : ∀ m b, liv σ m → m ≠ n → bk (ρ m) b → bk loc b → False := by
   intro m b hl hmn hb hb'
   rcases hloc with h1 | h1
   ·exact hmn (h.dist m n b hl ⟨_, hn⟩ hb (.inl (by rw [← h1]; exact (hbl b).1 hb')))
   ·have h2 := h1 b ((hbl b).1 hb')
    obtain ⟨y, hy⟩ := hl
    have := (h.objs m y hy).block_lt hb
    have : b < w.heap.size := this
    omega
  intro m m' b hl hl' h1 h2
  replace hl := (hliv m).1 hl
  replace hl' := (hliv m').1 hl'
  by_cases e1 : m = n <;> by_cases e2 : m' = n
  ·rw [e1, e2]
  ·subst e1
   have : upρ ρ m loc m' = ρ m' := by simp [upρ, e2]
   rw [this] at h2
   rw [upρ_same] at h1
   exact (key m' b hl' e2 h2 h1).elim
  ·subst e2
   have : upρ ρ m' loc m = ρ m := by simp [upρ, e1]
   rw [this] at h1
   rw [upρ_same] at h2
   exact (key m b hl e1 h1 h2).elim
  ·have e3 : upρ ρ n loc m = ρ m := by simp [upρ, e1]
   have e4 : upρ ρ n loc m' = ρ m' := by simp [upρ, e2]
   rw [e3] at h1
   rw [e4] at h2
   exact h.dist m m' b hl hl' h1 h2
 ·intro s v hs
  show AVR (vw w' O0 σ' (upρ ρ n loc)) v _
  rw [put_get a d loc s (by rw [h.nt]; exact hd)]
  simp only [lk] at hs
  split at hs
  ·rename_i es
   cases hs
   rw [if_pos es]
   refine ⟨(hliv n).2 ⟨_, hn⟩, ?_⟩
   show SliceV (upρ ρ n loc n) e.size 0 ys.length loc
   rw [upρ_same]
   rcases how.2 with ⟨rfl, hnn⟩ | ⟨g, cap, cur, rfl, _, _, hcap, _⟩
   ·exact ⟨none, 0, 0, rfl, by omega, by omega, none, 0, by rw [hnn], by omega, fun _ => ⟨rfl, rfl⟩, fun h => by omega⟩
   ·exact ⟨some ⟨g, 0, none⟩, ys.length, cap, rfl, by omega, by omega, some ⟨g, 0, none⟩, cap, by simp, by omega, fun _ => ⟨rfl, rfl⟩, fun _ => by simp [add_zero']⟩
  ·rename_i es
   rw [if_neg es]
   rw [lk_drpEnv] at hs
   simp only [Option.map_eq_some_iff] at hs
   obtain ⟨y, hy, rfl⟩ := hs
   exact (avr_drp hns (h.env s y hy)).keeps hk
end
end Go.Proofs.YtebfihindnhccaaGreat.Fw
end
/- Stores. -/
section
namespace Go.Proofs.YtebfihindnhccaaGreat.Fw
open Go Go.RowKit
theorem cell1_size {t : Ty} (h : t.cell1 = true) : t.size = 1 := by cases t <;> simp [Ty.cell1] at h <;> rfl
theorem fits_size {V : Vw} {ty : Ty} {x : AV} {es : List Value} (hx : AVC V x es) (hf : fitsO ty x = true) : es.length = ty.size := by
 by_cases ht : x = .top
 ·subst ht
  obtain ⟨v, rfl, _⟩ := hx
  simp only [fitsO] at hf
  rw [cell1_size hf]; rfl
 ·have hf : fitsT ty x = true := by cases x <;> first | exact hf | exact absurd rfl ht
  exact (fits_r hx hf).1
theorem storeB_ok {V : Vw} {ty : Ty} {st : Bool} {fs fs' : List AV} {path : List Nat} {off : Nat} {u v : AV} {cs vs : List Value} (hcs : AVCs V fs cs) (hst : st = false → fs.length = 1)
  (h : storeB st fs v path = some fs') (ho : offB fs path = some off) (hl : loadB st fs path = some u) (hu : fitsO ty u = true) (hv : fitsT ty v = true)
  (hag : ∀ l, v = .ag l → AVCs V l vs) (hc : (∀ l, v ≠ .ag l) → AVC V v vs) (hlen : vs.length = ty.size) :
  off + vs.length ≤ cs.length ∧ AVCs V fs' (splice cs off vs) ∧ (st = false → fs'.length = 1) := by
 unfold storeB at h
 split at h
 ·simp only [offB] at ho
  cases ho
  simp only [loadB] at hl
  cases st with
  | true =>
   simp only [if_true] at h hl
   cases hl
   have hsz : cs.length = ty.size := by
    have := hcs.length
    cases ty <;> simp only [fitsO, fitsT] at hu <;> try (cases hu; done)
    simp only [beq_iff_eq] at hu
    simp only [Ty.size]
    omega
   rw [splice_all (by omega)]
   split at h
   ·rename_i u' d
    cases h
    have h1 : AVC V (.p (.agg u') d) vs := hc (by simp)
    have h1 : Rep V.w V.O u' vs d := h1
    exact ⟨by omega, pfs_c V u' d vs h1, by simp⟩
   ·rename_i l
    cases h
    exact ⟨by omega, hag _ rfl, by simp⟩
   ·cases h
  | false =>
   simp only [Bool.false_eq_true, if_false] at h hl
   split at h
   ·rename_i hna
    have hna : ∀ l, v ≠ .ag l := fun l e => by subst e; simp [notAg] at hna
    cases h
    obtain ⟨x, rfl⟩ := List.length_eq_one_iff.1 (hst rfl)
    simp at hl
    subst hl
    obtain ⟨c1, c2, rfl, h1, h2⟩ := hcs
    have h2 : c2 = [] := h2
    subst h2
    have h3 := fits_size h1 hu
    rw [List.append_nil, splice_all (by omega)]
    exact ⟨by omega, ⟨vs, [], by simp, hc hna, rfl⟩, by simp⟩
   ·cases h
 ·rename_i k
  split at h
  ·rename_i hcond
   simp only [Bool.and_eq_true] at hcond
   obtain ⟨rfl, hna⟩ := hcond
   have hna : ∀ l, v ≠ .ag l := fun l e => by subst e; simp [notAg] at hna
   cases h
   simp only [loadB, if_true] at hl
   obtain ⟨h1, h2⟩ := hcs.get hl
   have h3 := fits_size h2 hu
   have h4 := h2.length
   have hoff : off = nthOff fs k := by
    simp only [offB, hl] at ho
    cases u <;> simp only [offP, Option.map_some, List.isEmpty_nil, if_true] at ho <;> cases ho <;> rfl
   subst hoff
   have hvc := hc hna
   have h5 := hvc.length
   exact ⟨by omega, hcs.set hl hvc (by omega), by simp⟩
  ·cases h
 ·rename_i k r hr
  cases st with
  | false => simp at h
  | true =>
   simp only [if_true] at h
   split at h
   ·rename_i t d u' x hk
    simp only [Option.map_eq_some_iff] at h
    obtain ⟨y, hy, rfl⟩ := h
    simp only [offB, hk, Option.map_eq_some_iff] at ho
    obtain ⟨o', ho', rfl⟩ := ho
    obtain ⟨h1, h2⟩ := hcs.get hk
    have h2' : Rep V.w V.O t _ d := h2
    have hvc : Rep V.w V.O u' vs x := hc (by simp)
    obtain ⟨h5, h6⟩ := setP_rep hy ho' h2' hvc
    have hl2 := h2.length
    simp only [AV.cells] at h1 hl2 h6 h5
    have hset := hcs.set (y := .p t y) hk (h5 : Rep V.w V.O t _ y) rfl
    rw [splice_splice _ _ _ _ _ (by omega) h1] at hset
    exact ⟨by omega, hset, by simp⟩
   ·cases h
section
variable {P : Program} {tb : Tb} {w0 : World} {K O0 : Nat → Prop} {nt : Nat} {ds : Fp} {σ σ' : St} {ρ : Nat → Value} {a : Act} {w : World} {vc : Prop}
theorem keeps_grown {n : Nat} {o : Obj} (hn : lk n σ.objs = some o) {g : Nat} (hb : blk (ρ n) = some g) {w' : World} (hg : w.grownBy w' (some g)) : Keeps (vw w O0 σ ρ) (vw w' O0 σ ρ) :=
 ⟨fun _ _ h => h, fun _ h => h, fun _ _ => rfl, fun b hlt hO => hg.block b hlt (fun e => by injection e with e; subst e; exact hO (.inr ⟨n, ⟨o, hn⟩, .inl hb⟩))⟩
theorem grown_setRow (w : World) (g : Nat) (cs : Array Value) : w.grownBy (w.setRow g cs) (some g) :=
 ⟨rfl, rfl, rfl, by simp, fun k _ hk => setRow_other w g k cs (fun e => hk (by rw [e]))⟩
theorem run_storeAt {id : TypeId} {ti : TI} (hT : TIok P tb id ti) {g off : Nat} {cs : List Value} {et : TypeId} {xv : Value} (hh : w.heap[g]? = some (.cells cs.toArray et (0, 0))) (hs : xv.cells.size = ti.ty.size)
  (hl : off + xv.cells.toList.length ≤ cs.length) (h1 : ∀ u ∈ xv.cells.toList, u.oneCell' = true) :
  (Instr.storeAt id (.pointer (some ⟨g, off, none⟩)) xv).run P w = .ok () (w.setRow g (splice cs off xv.cells.toList).toArray) := by
 have hst := run_storeCells_at P g off et xv.cells.toList 0 cs.toArray w hh (by simpa using hl) h1
 simp only [Nat.add_zero] at hst
 have hne : ¬ xv.cells.size ≠ ti.ty.size := by omega
 simp only [Instr.storeAt, Instr.sureAddr, storeVar, Sem.run_bind, Sem.run_pure, Result.andThen_ok, run_sizeOf w hT, if_neg hne, hst]
 rfl
theorem wp_skip {o : Oper} {w' : World} {next : Act → World → Prop} {Q : Exit → Act → World → Prop} {r : Option Nat} (h : (execOp a.eval o).run P w = .ok .skip w') (hn : next (a.put o.dst undef) w') (hnd : ∀ c, o.op ≠ .defer c := by intro c e; cases e) : o.wpIn (FR r) 0 P a w next Q := by
 refine ⟨fun _ _ => trivial, ?_⟩
 rw [semAt_plain _ _ _ hnd, h]
 exact hn
theorem store_sat (hs : SatR w0 K O0 nt ds σ ρ a w) (hK : ∀ b, K b → b < w0.heap.size) (hT : TbOk P tb) {id : TypeId} {x y : Operand} (h : lStore σ (lk id tb.ty) (opv σ x) (opv σ y) = some (vc, σ')) (hvc : vc) :
  ∃ w', (Instr.storeAt id (a.eval x) (a.eval y)).run P w = .ok () w' ∧ SatR w0 K O0 nt ds σ' ρ a w' := by
 have hev : OpsR (vw w O0 σ ρ) σ a.eval := opv_ok hs.env
 unfold lStore at h
 split at h
 ·rename_i ti n path off v ht hx hy
  have hxv := hev x _ hx
  have hyv := hev y _ hy
  cases hn : lk n σ.objs with
  | none => rw [hn] at h; simp [lStoreB] at h
  | some o =>
   rw [hn] at h
   cases o with
   | arr et e xs => simp [lStoreB] at h
   | mapo k v l => simp [lStoreB] at h
   | frame tm fs => simp [lStoreB] at h
   | loop L => simp [lStoreB] at h
   | dfr => simp [lStoreB] at h
   | box et st fs =>
    simp only [lStoreB] at h
    cases hlb : loadB st fs path with
    | none => rw [hlb] at h; simp [lStoreB2] at h
    | some u =>
     cases hsb : storeB st fs v path with
     | none => rw [hlb, hsb] at h; simp [lStoreB2] at h
     | some fs' =>
      rw [hlb, hsb] at h
      simp only [lStoreB2] at h
      split at h
      ·rename_i hcond
       obtain ⟨hu, hv, ho, _⟩ := hcond
       cases h
       obtain ⟨hst, b, cs, hloc, hheap, hcs⟩ := hs.objs n _ hn
       obtain ⟨hL, b', hρ, hxe⟩ := hxv
       have hρ : ρ n = _ := hρ
       rw [hloc] at hρ
       injection hρ with hρ
       injection hρ with hρ
       injection hρ with hρ
       subst hρ
       have hfc := fits_c hyv hv (one_of_simple hyv hv)
       have hag : ∀ l, v = .ag l → AVCs (vw w O0 σ ρ) l (a.eval y).cells.toList := by
        intro l e
        subst e
        obtain ⟨cs', he, hcs'⟩ := hyv
        rw [he]
        simpa [Value.cells] using hcs'
       obtain ⟨h1, h2, h3⟩ := storeB_ok hcs hst hsb ho hlb hu hv hag (fun hna => hfc.2 hna) (by simpa using hfc.1)
       have hone : ∀ z ∈ (a.eval y).cells.toList, z.oneCell' = true := by
        by_cases hna : ∃ l, v = .ag l
        ·obtain ⟨l, e⟩ := hna
         exact (hag l e).one
        ·exact (hfc.2 (fun l e => hna ⟨l, e⟩)).one
       have hrun := run_storeAt (hT _ _ ht) hheap hfc.1 h1 hone
       rw [hxe]
       refine ⟨_, hrun, ?_⟩
       have hb : blk (ρ n) = some b := by rw [hloc]; rfl
       refine hs.upd hK hn hb (grown_setRow w b _) ⟨h3, b, _, hloc, setRow_heap w b _ _ et _ hheap, ?_⟩
       exact h2.keeps (keeps_grown hn hb (grown_setRow w b _))
      ·cases h
 ·rename_i ti n e i path off v ht hx hy
  have hxv := hev x _ hx
  have hyv := hev y _ hy
  cases hn : lk n σ.objs with
  | none => rw [hn] at h; simp [lStoreE] at h
  | some o =>
   rw [hn] at h
   cases o with
   | box et st fs => simp [lStoreE] at h
   | mapo k v l => simp [lStoreE] at h
   | frame tm fs => simp [lStoreE] at h
   | loop L => simp [lStoreE] at h
   | dfr => simp [lStoreE] at h
   | arr et e' xs =>
    simp only [lStoreE] at h
    cases hc : castTo (.slice e) ⟨.slice e', xs⟩ with
    | none => rw [hc] at h; simp [lStoreE3] at h
    | some ys =>
     obtain ⟨rfl, h2⟩ := castTo_slice hc
     cases h2
     rw [hc] at h
     cases has : asT false σ ti.ty v with
     | none => rw [has] at h; simp [lStoreE3] at h
     | some wd =>
      rw [has] at h
      simp only [lStoreE3] at h
      cases hsp : setP path e' (xs.getD i e'.dflt) ⟨ti.ty, wd⟩ with
      | none => rw [hsp] at h; simp [lStoreE4] at h
      | some z =>
       rw [hsp] at h
       simp only [lStoreE4] at h
       split at h
       ·rename_i hoff
        cases h
        obtain ⟨hmx, cells, how, hel⟩ := hs.objs n _ hn
        obtain ⟨hL, g, m, c, hρ, hlt, hxe⟩ := hxv
        have hρ : ρ n = _ := hρ
        have how : w.ownsRow 0 et e'.size (ρ n) xs.length cells := how
        have hel : Elems w (own O0 σ ρ) e' cells xs := hel
        have hvr := asT_r (V := vw w O0 σ ρ) (O' := own O0 σ ρ) (fun _ h => h) (fun h => by cases h) hs.objs has hyv
        obtain ⟨hsz, hrep⟩ := size_wrap hvr
        obtain ⟨hlen, how2⟩ := how
        rcases how2 with ⟨he, _⟩ | ⟨g', cap, cur, he, hg0, hheap, hcap, hcapm, hcur, htake⟩
        ·rw [hρ] at he; cases he
        ·rw [hρ] at he
         injection he with he1 he2 he3
         injection he1 with he1
         injection he1 with he1
         subst he1
         subst he2
         have hxi : xs[i]? = some (xs.getD i e'.dflt) := by
          rw [List.getElem?_eq_getElem hlt, List.getD_eq_getElem?_getD, List.getElem?_eq_getElem hlt]; rfl
         obtain ⟨es, hes, hec, her⟩ := hel i _ hxi
         obtain ⟨h5, h6⟩ := setP_rep hsp hoff her hrep
         have hcl : cells.length = xs.length * e'.size := hlen
         have hi1 : (i + 1) * e'.size ≤ xs.length * e'.size := Nat.mul_le_mul_right _ hlt
         have hic : xs.length * e'.size ≤ cap * e'.size := Nat.mul_le_mul_right _ hcap
         rw [Nat.succ_mul] at hi1
         have hb1 : i * e'.size + off + (a.eval y).cells.toList.length ≤ cur.toList.length := by
          have hl1 : cur.toList.length = cap * e'.size := by rw [← hcur]; simp
          have hl2 : (a.eval y).cells.toList.length = ti.ty.size := by rw [← hsz]; simp
          omega
         have hheap' : w.heap[g]? = some (.cells cur.toList.toArray et (0, 0)) := by simpa using hheap
         have hrun := run_storeAt (hT _ _ ht) hheap' hsz hb1 hrep.one
         rw [hxe]
         refine ⟨_, hrun, ?_⟩
         have hb : blk (ρ n) = some g := by rw [hρ]; rfl
         have hspl : (splice cur.toList (i * e'.size + off) (a.eval y).cells.toList).length = cur.size := by rw [splice_length hb1]; simp
         have htk : (splice cur.toList (i * e'.size + off) (a.eval y).cells.toList).take (xs.length * e'.size) = splice cells (i * e'.size + off) (a.eval y).cells.toList := by
          rw [← htake]
          apply List.ext_getElem?
          intro j
          simp only [splice, List.append_assoc, List.getElem?_take, List.getElem?_append, List.length_take, List.getElem?_drop, List.take_take]
          have q1 : min (i * e'.size + off) cur.toList.length = i * e'.size + off := by omega
          have q2 : min (i * e'.size + off) (xs.length * e'.size) = i * e'.size + off := by omega
          have q3 : min (xs.length * e'.size) cur.toList.length = xs.length * e'.size := by
           have hl1 : cur.toList.length = cap * e'.size := by rw [← hcur]; simp
           omega
          simp only [q1, q2, q3]
          by_cases c1 : j < i * e'.size + off
          ·simp [c1, show j < xs.length * e'.size by omega]
          ·by_cases c2 : j - (i * e'.size + off) < (a.eval y).cells.toList.length
           ·simp only [c1, c2, if_false, if_true, show j < xs.length * e'.size by omega]
           ·simp only [c1, c2, if_false]
            by_cases c3 : j < xs.length * e'.size
            ·rw [if_pos c3, if_pos (by omega)]
            ·rw [if_neg c3, if_neg (by omega)]
         refine hs.upd hK hn hb (grown_setRow w g _) ⟨by simpa using hmx, splice cells (i * e'.size + off) (a.eval y).cells.toList, ⟨?_, .inr ⟨g, cap, _, by rw [hρ, he3]; simp, Nat.zero_le _, setRow_heap w g _ _ et _ hheap, by simpa using hcap, hcapm, by simp [hspl, hcur], ?_⟩⟩, ?_⟩
         ·rw [splice_length (by omega)]; simpa using hlen
         ·simpa using htk
         ·have hk := keeps_grown (O0 := O0) hn hb (grown_setRow w g (splice cur.toList (i * e'.size + off) (a.eval y).cells.toList).toArray)
          have hnew : Elems (vw w O0 σ ρ).w (vw w O0 σ ρ).O e' (splice cells (i * e'.size + off) (a.eval y).cells.toList) (xs.set i z) := by
           intro k q hq
           rw [List.getElem?_set] at hq
           split at hq
           ·rename_i hik
            subst hik
            cases hq
            refine ⟨splice es off (a.eval y).cells.toList, by rw [splice_length h6]; exact hes, fun j u hj => ?_, h5⟩
            simp only [splice, List.append_assoc, List.getElem?_append, List.length_take, List.getElem?_take, List.getElem?_drop] at hj ⊢
            have q1 : min off es.length = off := by omega
            have q2 : min (i * e'.size + off) cells.length = i * e'.size + off := by omega
            simp only [q1] at hj
            simp only [q2]
            by_cases c1 : j < off
            ·simp only [c1, if_true] at hj
             simp only [show i * e'.size + j < i * e'.size + off by omega, if_true]
             exact hec _ _ hj
            ·simp only [c1, if_false] at hj
             simp only [show ¬ i * e'.size + j < i * e'.size + off by omega, if_false]
             rw [show i * e'.size + j - (i * e'.size + off) = j - off by omega]
             by_cases c2 : j - off < (a.eval y).cells.toList.length
             ·simp only [c2, if_true] at hj ⊢
              exact hj
             ·simp only [c2, if_false] at hj ⊢
              have := hec _ _ hj
              rw [← this]
              congr 1
              omega
           ·rename_i hik
            obtain ⟨es', g1, g2, g3⟩ := hel k q hq
            refine ⟨es', g1, fun j u hj => ?_, g3⟩
            have hj' := (List.getElem?_eq_some_iff.1 hj).1
            have hcc := g2 j u hj
            simp only [splice, List.append_assoc, List.getElem?_append, List.length_take, List.getElem?_take, List.getElem?_drop]
            have q2 : min (i * e'.size + off) cells.length = i * e'.size + off := by omega
            simp only [q2]
            rcases Nat.lt_or_ge k i with hki | hki
            ·have : (k + 1) * e'.size ≤ i * e'.size := Nat.mul_le_mul_right _ hki
             rw [Nat.succ_mul] at this
             simp only [show k * e'.size + j < i * e'.size + off by omega, if_true]
             exact hcc
            ·have : (i + 1) * e'.size ≤ k * e'.size := Nat.mul_le_mul_right _ (by omega)
             rw [Nat.succ_mul] at this
             simp only [show ¬ k * e'.size + j < i * e'.size + off by omega, if_false, show ¬ k * e'.size + j - (i * e'.size + off) < (a.eval y).cells.toList.length by omega]
             rw [← hcc]
             congr 1
             omega
          exact hnew.keeps hk
       ·cases h
 ·cases h
theorem mapUp_sat (hs : SatR w0 K O0 nt ds σ ρ a w) (hK : ∀ b, K b → b < w0.heap.size) (hTb : TbOk P tb) {t : TypeId} {m x y : Operand} (h : lMapUp tb σ (lk t tb.ty) (opv σ m) (opv σ x) (opv σ y) = some (vc, σ')) :
  ∃ w', (Instr.mapUpdate t (a.eval m) (a.eval x) (a.eval y)).run P w = .ok () w' ∧ SatR w0 K O0 nt ds σ' ρ a w' := by
 have hev : OpsR (vw w O0 σ ρ) σ a.eval := opv_ok hs.env
 unfold lMapUp at h
 split at h
 ·rename_i k e _ _ n xv yv ht hm hx hy
  have hxv := hev x _ hx
  have hyv := hev y _ hy
  obtain ⟨hL, b, hρ, hme⟩ := hev m _ hm
  have hρ : ρ n = _ := hρ
  cases hn : lk n σ.objs with
  | none => rw [hn] at h; simp [lMapUp2] at h
  | some o =>
   rw [hn] at h
   cases o with
   | mapo kt vt l =>
    cases htk : lk k tb.ty with
    | none => simp [lMapUp2, htk] at h
    | some tk =>
     simp only [lMapUp2, htk, Option.map_some, Option.some.injEq] at h
     split at h
     ·rename_i hc
      obtain ⟨rfl, hel⟩ := hc
      cases hkx : asT false σ tk.ty xv with
      | none => rw [hkx] at h; simp [lMapUp3] at h
      | some kd =>
       cases hvy : asT false σ vt yv with
       | none => rw [hkx, hvy] at h; simp [lMapUp3] at h
       | some vd =>
        rw [hkx, hvy] at h
        simp only [lMapUp3] at h
        split at h
        ·rename_i hkt
         cases h
         have h1 := asT_r (V := vw w O0 σ ρ) (O' := own O0 σ ρ) (fun _ h => h) (fun h => by cases h) hs.objs hkx hxv
         have h2 := asT_r (V := vw w O0 σ ρ) (O' := own O0 σ ρ) (fun _ h => h) (fun h => by cases h) hs.objs hvy hyv
         obtain ⟨b', es', cl', hloc, hrun, ⟨o', ho'⟩, hents⟩ := map_up (w := w) (V := vw w O0 σ ρ) hTb (hTb _ _ ht) (n := n) rfl rfl htk rfl (hs.objs n _ hn) hel hkt h1 h2
         have hloc : ρ n = _ := hloc
         rw [hρ] at hloc
         injection hloc with hloc
         injection hloc with hloc
         subst hloc
         rw [hme]
         refine ⟨_, hrun, ?_⟩
         have hblk : blk (ρ n) = some b := by rw [hρ]; rfl
         have hg : w.grownBy { w with heap := w.heap.setIfInBounds b (.map es' cl') } (some b) :=
          ⟨rfl, rfl, rfl, by simp, fun i _ hi => (MapKept.heap_set ho').2 i (fun e => hi (by rw [e]))⟩
         refine hs.upd hK hn hblk hg ⟨b, es', cl', hρ, (MapKept.heap_set ho').1, ?_⟩
         exact hents.mono (fun _ _ h => h) (fun b2 hlt hO => hg.block b2 hlt (fun e => by injection e with e; subst e; exact hO (.inr ⟨n, ⟨_, hn⟩, .inl hblk⟩)))
        ·cases h
     ·cases h
   | _ => simp [lMapUp2] at h
 ·cases h
end
end Go.Proofs.YtebfihindnhccaaGreat.Fw
end
/- append onto an owned array; an owned array given up. -/
section
namespace Go.Proofs.YtebfihindnhccaaGreat.Fw
open Go Go.RowKit
section
variable {P : Program} {tb : Tb} {w0 : World} {K O0 : Nat → Prop} {nt : Nat} {ds : Fp} {σ σ' : St} {ρ : Nat → Value} {a : Act} {w : World} {vc : Prop} {id : TypeId}
theorem own_blk {w : World} {base : Nat} {et : TypeId} {sz n : Nat} {s : Value} {xs : List Value} (h : w.ownsRow base et sz s n xs) : s.ownBlock = blk s := by
 rcases h.2 with ⟨rfl, _⟩ | ⟨g, cap, cur, rfl, _⟩ <;> rfl
theorem append_where (hTb : TbOk P tb) {el : TypeId} {e : Ty} (hu : P.underlying id = some (.slice el)) {te : TI} (hte : lk el tb.ty = some te) (hee : te.ty = e) {base ty : Nat} {s xv : Value} {n : Nat} {xs news : List Value}
  (hown : w.ownsRow base el e.size s n xs) {O : Nat → Prop} {ys : List e.den} (hsrc : Src w O e xv ys news) (hvc : (n + ys.length) * te.bytes ≤ maxN) {s' : Value} {w' : World}
  (hr : (Builtin.append_ #[id, id] ty #[s, xv]).run P w = .ok s' w') : blk s' = blk s ∨ ∀ b, blk s' = some b → w.heap.size ≤ b := by
 subst hee
 obtain ⟨⟨⟨_, hbpos, _⟩, i, z, hi, hsz, hby, hz, hzc⟩, _⟩ := hTb _ _ hte
 have hnm : n + ys.length ≤ maxN := by
  have : (n + ys.length) * 1 ≤ (n + ys.length) * te.bytes := Nat.mul_le_mul_left _ hbpos
  omega
 have hmx : maxN = 140737488355328 := rfl
 obtain ⟨⟨a, c, rfl, hac⟩, hlen, hel, hone, hmax⟩ := hsrc
 have hs : (sizeOf el).run P w = .ok te.ty.size w := run_sizeOf w (hTb _ _ hte)
 have newb : ∀ {l cp : Nat} {W : World}, Result.ok (Value.slice (some ⟨w.heap.size, 0, none⟩) l cp) W = Result.ok s' w' → blk s' = blk s ∨ ∀ b, blk s' = some b → w.heap.size ≤ b := by
  intro l cp W he
  injection he with h1 h2
  subst h1
  exact .inr (fun b hb => by simp [blk] at hb; omega)
 have main : ∀ (ad : Addr) (m : Nat) (nw : List Value), nw.length = m * te.ty.size → (∀ (j : Nat) (u : Value), nw[j]? = some u → w.cell? (ad.add j) = some u) → (∀ u ∈ nw, u.oneCell' = true) → n + m ≤ maxN → (n + m) * te.bytes ≤ maxN →
   (Builtin.append_ #[id, id] ty #[s, .slice (some ad) m c]).run P w = .ok s' w' → blk s' = blk s ∨ ∀ b, blk s' = some b → w.heap.size ≤ b := by
  intro ad m nw hl hc h1 hle hb hr
  rcases hown.2 with ⟨rfl, rfl⟩ | ⟨g, cap, cur, rfl, hbg, hg, hnc, hcm, hcs, htake⟩
  ·by_cases hm : m = 0
   ·subst hm
    have : nw = [] := List.eq_nil_of_length_eq_zero (by simpa using hl)
    simp [Builtin.append_, run_underlying hu, hs, Builtin.lenOf, Builtin.firstCells, loadCells, loadCellsFrom] at hr
    rw [← hr.1]
    exact .inl rfl
   ·have := run_append_nil (P := P) w id ty el i z hu hi hz ad m c nw (by rw [hsz]; exact hl) hc (by omega) (by omega) (by rw [hby]; simp at hb; omega)
    rw [this] at hr
    exact newb hr
  ·by_cases hroom : n + m ≤ cap
   ·have hfit : n * i.size + nw.length ≤ cur.size := by
     rw [hl, hsz, hcs, ← Nat.add_mul]; exact Nat.mul_le_mul_right _ hroom
    have := run_append_room (P := P) w id ty el i hu hi g n cap cur hg ad m c nw (by rw [hsz]; exact hl) hc h1 hroom hfit
    rw [this] at hr
    injection hr with h2 h3
    subst h2
    exact .inl rfl
   ·have holds : ∀ j u, xs[j]? = some u → w.cell? ((⟨g, 0, none⟩ : Addr).add j) = some u := hown.cells (g := g) rfl
    have := run_append_grow (P := P) w id ty el i z hu hi hz ⟨g, 0, none⟩ n cap xs (by rw [hsz]; exact hown.1) holds ad m c nw (by rw [hsz]; exact hl) hc (by omega) (by omega) (by rw [hby]; exact growslice_fits (by omega) (by omega))
    rw [this] at hr
    exact newb hr
 rcases hac with rfl | ⟨ad, rfl, hc⟩
 ·have hn0 : news = [] := List.eq_nil_of_length_eq_zero (by simpa using hlen)
  subst hn0
  cases a with
  | none =>
   have := append_none (P := P) (ty := ty) hu hs hown c
   rw [show ([] : List te.ty.den).length = 0 from rfl, this] at hr
   injection hr with h2 h3
   subst h2
   exact .inl rfl
  | some ad => exact main ad 0 [] (by simp) (by simp) (by simp) (by simpa using hnm) (by simpa using hvc) hr
 ·exact main ad ys.length news hlen hc hone hnm hvc hr
theorem elems_append {w : World} {O : Nat → Prop} {e : Ty} {c1 c2 : List Value} {xs ys : List e.den} (h1 : Elems w O e c1 xs) (h2 : Elems w O e c2 ys) (hl : c1.length = xs.length * e.size) : Elems w O e (c1 ++ c2) (xs ++ ys) := by
 intro i x hi
 rw [List.getElem?_append] at hi
 split at hi
 ·obtain ⟨es, g1, g2, g3⟩ := h1 i x hi
  refine ⟨es, g1, fun j u hj => ?_, g3⟩
  have := g2 j u hj
  rw [List.getElem?_append_left (List.getElem?_eq_some_iff.1 this).1]
  exact this
 ·rename_i hlt
  obtain ⟨es, g1, g2, g3⟩ := h2 _ x hi
  refine ⟨es, g1, fun j u hj => ?_, g3⟩
  have hmul : xs.length * e.size ≤ i * e.size := Nat.mul_le_mul_right _ (by omega)
  rw [List.getElem?_append_right (by omega), hl]
  have := g2 j u hj
  rw [Nat.sub_mul] at this
  rw [← this]
  congr 1
  omega
theorem elems_take {w : World} {O : Nat → Prop} {e : Ty} {c : List Value} {xs : List e.den} (h : Elems w O e c xs) (n : Nat) : Elems w O e (c.take (n * e.size)) (xs.take n) := by
 intro i x hi
 rw [List.getElem?_take] at hi
 split at hi
 ·rename_i hlt
  obtain ⟨es, g1, g2, g3⟩ := h i x hi
  refine ⟨es, g1, fun j u hj => ?_, g3⟩
  have hj' := (List.getElem?_eq_some_iff.1 hj).1
  have : (i + 1) * e.size ≤ n * e.size := Nat.mul_le_mul_right _ hlt
  rw [Nat.succ_mul] at this
  rw [List.getElem?_take, if_pos (by omega)]
  exact g2 j u hj
 ·cases hi
theorem append_sat (hs : SatR w0 K O0 nt ds σ ρ a w) (hK : ∀ b, K b → b < w0.heap.size) (hO : ∀ b, O0 b → b < w0.heap.size) (hT : TbOk P tb) {d : Option Nat} (hd : ∀ k, d = some k → k < nt) {t u ty : TypeId} {x y : Operand}
  (h : lAppend tb σ d t u (opv σ x) (opv σ y) = some (vc, σ')) (hvc : vc) :
  ∃ z w' ρ', (Builtin.append_ #[t, u] ty #[a.eval x, a.eval y]).run P w = .ok z w' ∧ SatR w0 K O0 nt ds σ' ρ' (a.put d z) w' := by
 have hev : OpsR (vw w O0 σ ρ) σ a.eval := opv_ok hs.env
 unfold lAppend at h
 split at h
 ·rename_i n e hi v hx hy
  split at h
  ·rename_i d
   split at h
   ·rename_i htu
    obtain ⟨htu, hfx⟩ := htu
    subst htu
    cases hti : lk t tb.ty with
    | none => rw [hti] at h; simp [lAppend2] at h
    | some ti =>
     rw [hti] at h
     unfold lAppend2 at h
     split at h
     ·rename_i e' offs el b he
      cases he
      split at h
      ·rename_i hee
       subst hee
       obtain ⟨hu, hsz, te, hte, hte2⟩ := slice_tab (hT _ _ hti) hT
       rw [hte] at h
       cases hn : lk n σ.objs with
       | none => rw [hn] at h; cases hys : asT true σ (.slice e') v <;> rw [hys] at h <;> simp [lAppend3] at h
       | some o =>
        rw [hn] at h
        cases o with
        | box et st fs => cases hys : asT true σ (.slice e') v <;> rw [hys] at h <;> simp [lAppend3] at h
        | mapo k1 v1 l => cases hys : asT true σ (.slice e') v <;> rw [hys] at h <;> simp [lAppend3] at h
        | frame tm fs => cases hys : asT true σ (.slice e') v <;> rw [hys] at h <;> simp [lAppend3] at h
        | loop L => cases hys : asT true σ (.slice e') v <;> rw [hys] at h <;> simp [lAppend3] at h
        | dfr => cases hys : asT true σ (.slice e') v <;> rw [hys] at h <;> simp [lAppend3] at h
        | arr et e2 xs =>
         simp only [lAppend3] at h
         split at h
         ·rename_i hetel
          subst hetel
          cases hc : castTo (.slice e') ⟨.slice e2, xs⟩ with
          | none => rw [hc] at h; simp [lAppend4] at h
          | some zs =>
           obtain ⟨rfl, h2⟩ := castTo_slice hc
           cases h2
           rw [hc] at h
           cases hys : asT true σ (.slice e2) v with
           | none => rw [hys] at h; simp [lAppend4] at h
           | some ys =>
            rw [hys] at h
            simp only [lAppend4] at h
            cases h
            obtain ⟨news, hsrc⟩ := asT_src hs.objs hys (hev y _ hy)
            obtain ⟨hmx, cells, how, hel⟩ := hs.objs n _ hn
            have how : w.ownsRow 0 et e2.size (ρ n) xs.length cells := how
            have hel : Elems w (own O0 σ ρ) e2 cells xs := hel
            obtain ⟨hL, a0, m, c, hρ, hlo, hhi, a', c', hxe, hc', h0, h1⟩ := hev x _ hx
            have hρ : ρ n = .slice a0 m c := hρ
            obtain ⟨rfl, rfl⟩ := h0 rfl
            simp only [Nat.sub_zero] at hxe
            have hlen0 := how.1
            have hhx : hi ≤ xs.length := by
             rcases how.2 with ⟨he, hnn⟩ | ⟨g, cap, cur, he, _⟩
             ·rw [hρ] at he; injection he; omega
             ·rw [hρ] at he; injection he; omega
            have hmul : hi * e2.size ≤ xs.length * e2.size := Nat.mul_le_mul_right _ hhx
            have hpre : w.ownsRow 0 et e2.size (a.eval x) hi (cells.take (hi * e2.size)) := by
             rw [hxe]
             refine ⟨by rw [List.length_take]; omega, ?_⟩
             rcases how.2 with ⟨he, hnn⟩ | ⟨g, cap, cur, he, r1, r2, r3, r4, r5, r6⟩
             ·rw [hρ] at he
              injection he with e1 e2 e3
              subst e1; subst e3
              have : hi = 0 := by omega
              subst this
              exact .inl ⟨rfl, rfl⟩
             ·rw [hρ] at he
              injection he with e1 e2 e3
              subst e1; subst e3
              refine .inr ⟨g, c', cur, rfl, r1, r2, by omega, r4, r5, ?_⟩
              rw [← r6, List.take_take, Nat.min_eq_left hmul]
            have hvc' : (hi + ys.length) * te.bytes ≤ maxN := hvc
            obtain ⟨z, w', hrun, hown', hgr, hmax⟩ := append_own (ty := ty) hT hu hte hte2 hpre hsrc hvc' (Nat.zero_le _)
            have hwh := append_where (ty := ty) hT hu hte hte2 hpre hsrc hvc' hrun
            have hblk : blk (a.eval x) = blk (ρ n) := by
             rw [hxe, hρ]
             cases a' <;> rfl
            rw [hblk] at hwh
            rw [own_blk hpre, hblk] at hgr
            refine ⟨z, w', upρ ρ n z, hrun, ?_⟩
            have hl2 : (xs.take hi ++ ys).length = hi + ys.length := by simp; omega
            exact hs.app hK hO hfx hn hgr hwh (by rw [hl2]; exact hmax) (by rw [hl2]; exact hown') (elems_append (elems_take hel hi) hsrc.elems (by rw [List.length_take, List.length_take]; rw [Nat.min_eq_left hhx]; omega)) (hd d rfl) hl2.symm
         ·cases h
      ·cases h
     ·cases h
   ·cases h
  ·cases h
 ·cases h
/-! ### An owned array given up -/
theorem lk_frzEnv (n : Nat) (e : Ty) (xs : List e.den) (s : Nat) : ∀ l : List (Nat × AV), lk s (frzEnv n e xs l) = (lk s l).map (AV.frz n e xs)
 | [] => rfl
 | (j, v) :: l => by
  simp only [frzEnv, lk]
  split
  ·rfl
  ·exact lk_frzEnv n e xs s l
def Obj.frz (n : Nat) (e : Ty) (xs : List e.den) : Obj → Obj
 | .arr et e' ys => .arr et e' ys
 | .box et st fs => .box et st (AV.frzs n e xs fs)
 | .mapo k v l => .mapo k v l
 | .frame tm fs => .frame tm (frzEnv n e xs fs)
 | .loop L => .loop L
 | .dfr => .dfr
theorem lk_frzObjs (n : Nat) (e : Ty) (xs : List e.den) (s : Nat) : ∀ l : List (Nat × Obj), lk s (frzObjs n e xs l) = (lk s l).map (Obj.frz n e xs)
 | [] => rfl
 | (j, .arr et e' ys) :: l => by
  simp only [frzObjs, lk]
  split
  ·rfl
  ·exact lk_frzObjs n e xs s l
 | (j, .box et st fs) :: l => by
  simp only [frzObjs, lk]
  split
  ·rfl
  ·exact lk_frzObjs n e xs s l
 | (j, .mapo k v x) :: l => by
  simp only [frzObjs, lk]
  split
  ·rfl
  ·exact lk_frzObjs n e xs s l
 | (j, .frame tm fs) :: l => by
  simp only [frzObjs, lk]
  split
  ·rfl
  ·exact lk_frzObjs n e xs s l
 | (j, .loop L) :: l => by
  simp only [frzObjs, lk]
  split
  ·rfl
  ·exact lk_frzObjs n e xs s l
 | (j, .dfr) :: l => by
  simp only [frzObjs, lk]
  split
  ·rfl
  ·exact lk_frzObjs n e xs s l
theorem frzs_length (n : Nat) (e : Ty) (xs : List e.den) : ∀ l : List AV, (AV.frzs n e xs l).length = l.length
 | [] => rfl
 | _ :: r => by simp [AV.frzs, frzs_length n e xs r]
section
variable {V V' : Vw} {n : Nat} {et : TypeId} {e : Ty} {xs : List e.den}
structure Frz (V V' : Vw) (n : Nat) : Prop where
 w : V'.w = V.w
 ρ : V'.ρ = V.ρ
 L : ∀ m, V.L m → m ≠ n → V'.L m
 O : ∀ b, ¬ V.O b → ¬ V'.O b
 n : ∀ b, bk (V.ρ n) b → ¬ V'.O b
theorem Frz.keeps (h : Frz V V' n) : Keeps (V.but n) V' := ⟨fun b _ hb => h.O b hb, fun m hm => h.L m hm.1 hm.2, fun m _ => by rw [h.ρ]; rfl, fun b _ _ => by rw [h.w]; rfl⟩
theorem av1_frz (h : Frz V V' n) (ho : ObjR V (.arr et e xs) (V.ρ n)) {x : AV} {v : Value} (hx : AV1 V x v) : AV1 V' (x.frz n e xs) v ∧ ((∀ t d, x ≠ .p t d) → ∀ t d, x.frz n e xs = .p t d → t.wrap [v] = v ∧ Rep V'.w V'.O t [v] d) := by
 have hk := h.keeps
 have hns : ∃ a m c, V.ρ n = .slice a m c := by
  obtain ⟨_, cells', how', _⟩ := ho
  rcases how'.2 with ⟨he, _⟩ | ⟨g, cap, cur, he, _⟩
  ·exact ⟨_, _, _, he⟩
  ·exact ⟨_, _, _, he⟩
 cases x
 case sr m e' lo hi =>
  simp only [AV.frz]
  split
  ·rename_i hmn
   subst hmn
   split
   ·rename_i hee
    subst hee
    obtain ⟨hL, hv⟩ := hx
    have hr := sr_rep (V := V) (O' := V'.O) h.O (fun b hb => h.n b (.inl hb)) ho hv
    rw [← h.w] at hr
    obtain ⟨_, _, _, _, _, _, a', c', hve, _⟩ := hv
    refine ⟨⟨[v], hr, by rw [hve]; rfl⟩, fun _ t d h => ?_⟩
    injection h with h1 h2
    subst h1
    cases h2
    exact ⟨by rw [hve]; rfl, hr⟩
   ·exact ⟨trivial, fun _ t d h => by cases h⟩
  ·rename_i hmn
   have := av1_drp hns hx
   simp only [AV.drp, if_neg hmn] at this
   exact ⟨this.keeps hk, fun _ t d h => by cases h⟩
 case ep m e' i path off =>
  have := av1_drp hns hx
  simp only [AV.drp] at this
  simp only [AV.frz]
  split
  ·exact ⟨trivial, fun _ t d h => by cases h⟩
  ·rename_i hmn
   rw [if_neg hmn] at this
   exact ⟨this.keeps hk, fun _ t d h => by cases h⟩
 case p t d => exact ⟨(av1_drp hns hx).keeps hk, fun hp => absurd rfl (hp t d)⟩
 all_goals
  have := av1_drp hns hx
  simp only [AV.drp] at this
  simp only [AV.frz]
  exact ⟨this.keeps hk, fun _ t d h => by cases h⟩
theorem avc_frz (h : Frz V V' n) (ho : ObjR V (.arr et e xs) (V.ρ n)) {x : AV} {cs : List Value} (hx : AVC V x cs) : AVC V' (x.frz n e xs) cs := by
 by_cases hp : ∃ t d, x = .p t d
 ·obtain ⟨t, d, rfl⟩ := hp
  simp only [AV.frz]
  have hx : Rep V.w V.O t cs d := hx
  have : Rep V'.w V'.O t cs d := hx.mono (fun b _ hb => h.O b hb) (fun b _ _ => by rw [h.w])
  exact this
 ·have hx' : ∃ v, cs = [v] ∧ v.oneCell' = true ∧ AV1 V x v := by
   cases x
   case p t d => exact absurd ⟨t, d, rfl⟩ hp
   all_goals exact hx
  obtain ⟨v, rfl, h1, h2⟩ := hx'
  obtain ⟨h3, h4⟩ := av1_frz h ho h2
  have h4 := h4 (fun t d e => hp ⟨t, d, e⟩)
  generalize hy : x.frz n e xs = y at h3 h4
  cases y
  case p t d => exact (h4 t d rfl).2
  all_goals exact ⟨v, rfl, h1, h3⟩
theorem avcs_frz (h : Frz V V' n) (ho : ObjR V (.arr et e xs) (V.ρ n)) : ∀ {l : List AV} {cs : List Value}, AVCs V l cs → AVCs V' (AV.frzs n e xs l) cs
 | [], cs, hx => (hx : cs = [])
 | x :: r, cs, hx => by
  obtain ⟨c1, c2, rfl, h1, h2⟩ := hx
  simp only [AV.frzs]
  exact ⟨c1, c2, rfl, avc_frz h ho h1, avcs_frz h ho h2⟩
theorem av1s_frz (h : Frz V V' n) (ho : ObjR V (.arr et e xs) (V.ρ n)) : ∀ {l : List AV} {vs : List Value}, AV1s V l vs → AV1s V' (AV.frzs n e xs l) vs
 | [], vs, hx => (hx : vs = [])
 | x :: r, vs, hx => by
  obtain ⟨v, vs', rfl, h1, h2⟩ := hx
  simp only [AV.frzs]
  exact ⟨v, vs', rfl, (av1_frz h ho h1).1, av1s_frz h ho h2⟩
theorem avr_frz (h : Frz V V' n) (ho : ObjR V (.arr et e xs) (V.ρ n)) {x : AV} {v : Value} (hx : AVR V x v) : AVR V' (x.frz n e xs) v := by
 cases x
 case ag l => obtain ⟨cs, h1, h2⟩ := hx; simp only [AV.frz]; exact ⟨cs, h1, avcs_frz h ho h2⟩
 case tup l => obtain ⟨vs, h1, h2⟩ := hx; simp only [AV.frz]; exact ⟨vs, h1, av1s_frz h ho h2⟩
 all_goals
  simp only [AVR] at hx
  exact avr1 (av1_frz h ho hx).1
end
theorem frz_sat (hs : SatR w0 K O0 nt ds σ ρ a w) (n : Nat) : SatR w0 K O0 nt ds (frz n σ) ρ a w := by
 unfold frz
 split
 ·exact hs
 rename_i hfx
 cases hn : lk n σ.objs with
 | none => exact hs
 | some ob =>
 cases ob with
 | box et st fs => exact hs
 | mapo k v l => exact hs
 | frame tm fs => exact hs
 | loop L => exact hs
 | dfr => exact hs
 | arr et e xs =>
 simp only [frz1]
 have hobjs : ∀ m x, lk m (frzObjs n e xs (del n σ.objs)) = some x → m ≠ n ∧ ∃ y, lk m σ.objs = some y ∧ x = y.frz n e xs := by
  intro m x hm
  rw [lk_frzObjs, lk_del] at hm
  split at hm
  ·simp at hm
  ·rename_i hne
   simp only [Option.map_eq_some_iff] at hm
   obtain ⟨y, hy, rfl⟩ := hm
   exact ⟨hne, y, hy, rfl⟩
 have hliv : ∀ m, liv ⟨frzEnv n e xs σ.env, frzObjs n e xs (del n σ.objs)⟩ m ↔ (liv σ m ∧ m ≠ n) := by
  intro m
  constructor
  ·rintro ⟨x, hx⟩
   obtain ⟨h1, y, h2, _⟩ := hobjs m x hx
   exact ⟨⟨y, h2⟩, h1⟩
  ·rintro ⟨⟨x, hx⟩, hne⟩
   exact ⟨x.frz n e xs, by simp [lk_frzObjs, lk_del, hne, hx]⟩
 have hF : Frz (vw w O0 σ ρ) (vw w O0 ⟨frzEnv n e xs σ.env, frzObjs n e xs (del n σ.objs)⟩ ρ) n := by
  refine ⟨rfl, rfl, fun m h1 h2 => (hliv m).2 ⟨h1, h2⟩, fun b hb hb' => ?_, fun b hb hb' => ?_⟩
  ·rcases hb' with h0 | ⟨m, hl, hm⟩
   ·exact hb (.inl h0)
   ·exact hb (.inr ⟨m, ((hliv m).1 hl).1, hm⟩)
  ·have hb : bk (ρ n) b := hb
   rcases hb' with h0 | ⟨m, hl, hm⟩
   ·exact (hs.free n b ⟨_, hn⟩ hb).2 h0
   ·exact ((hliv m).1 hl).2 (hs.dist m n b ((hliv m).1 hl).1 ⟨_, hn⟩ hm hb)
 have ho := hs.objs n _ hn
 have hpin : ∀ p ∈ ds.pin, liv ⟨frzEnv n e xs σ.env, frzObjs n e xs (del n σ.objs)⟩ p.1 ∧ ρ p.1 = p.2 ∧ (nosl p.2 = true ∨ fixN p.1 = true) := by
  intro p hp
  obtain ⟨h1, h2, h3⟩ := hs.pin p hp
  refine ⟨(hliv p.1).2 ⟨h1, fun e2 => ?_⟩, h2, h3⟩
  obtain ⟨_, cells', how', _⟩ := hs.objs n _ hn
  rw [← e2] at how'
  have how' : w.ownsRow 0 et e.size (ρ p.1) xs.length cells' := how'
  have h3 : nosl p.2 = true := h3.resolve_right (by rw [e2]; exact hfx)
  rcases how'.2 with ⟨he, _⟩ | ⟨g, cap, cur, he, _⟩ <;> rw [h2] at he <;> rw [he] at h3 <;> cases h3
 refine ⟨hs.frm, hs.nt, hs.defers, hpin, ?_, ?_, ?_, ?_⟩
 ·intro m x hm
  obtain ⟨hne, y, hy, rfl⟩ := hobjs m x hm
  have hob := hs.objs m y hy
  cases y with
  | arr et' e2 zs => exact ObjR.keeps (V := (vw w O0 σ ρ).but n) hF.keeps (fun _ _ => rfl) hob
  | box et' st fs =>
   obtain ⟨h0, b, cs, hl, hh, hcs⟩ := hob
   exact ⟨fun hst => by rw [frzs_length]; exact h0 hst, b, cs, hl, hh, avcs_frz hF ho hcs⟩
  | mapo k v l => exact ObjR.keeps (V := (vw w O0 σ ρ).but n) hF.keeps (fun _ _ => rfl) hob
  | frame tm fs =>
   obtain ⟨h0, h1⟩ := hob
   refine ⟨h0, fun s z hz => ?_⟩
   simp only [lk_frzEnv, Option.map_eq_some_iff] at hz
   obtain ⟨y, hy, rfl⟩ := hz
   exact avr_frz hF ho (h1 s y hy)
  | loop L => exact ObjR.keeps (V := (vw w O0 σ ρ).but n) hF.keeps (fun _ _ => rfl) hob
  | dfr => exact ObjR.keeps (V := (vw w O0 σ ρ).but n) hF.keeps (fun _ _ => rfl) hob
 ·intro m b hl hb
  exact hs.free m b ((hliv m).1 hl).1 hb
 ·intro m m' b hl hl' h1 h2
  exact hs.dist m m' b ((hliv m).1 hl).1 ((hliv m').1 hl').1 h1 h2
 ·intro s v hv
  simp only [lk_frzEnv, Option.map_eq_some_iff] at hv
  obtain ⟨y, hy, rfl⟩ := hv
  exact avr_frz hF ho (hs.env s y hy)
theorem frzAll_sat : ∀ {l : List Nat} {σ : St}, SatR w0 K O0 nt ds σ ρ a w → SatR w0 K O0 nt ds (frzAll l σ) ρ a w
 | [], _, h => h
 | n :: r, σ, h => frzAll_sat (l := r) (σ := frz n σ) (frz_sat h n)
end
end Go.Proofs.YtebfihindnhccaaGreat.Fw
end
