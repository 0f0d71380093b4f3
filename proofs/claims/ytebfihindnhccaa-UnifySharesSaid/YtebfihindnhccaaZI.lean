/- Range over a function; scopes; several steps in one. -/
/- Range over a function: a call of yield; a round; the statement; the end of a function that holds one. -/
import Derived.Test.YtebfihindnhccaaZH
import Derived.RangeFuncFrom
import Derived.Scope
set_option linter.unusedVariables false
set_option linter.unusedSimpArgs false
section
namespace Go.Proofs.Ytebfihindnhccaa.Fw
open Go Go.RowKit
/-! ### A call of yield -/
section
variable {c : Cx} {R : Exit → Act → World → Prop} {k : List Kont} {σ : St}
def isYl (n : Nat) : Option AV → Bool
 | some (.yl m) => m == n
 | _ => false
end
/-! ### A round -/
def parEnv : List Nat → List AV → List (Nat × AV) → List (Nat × AV)
 | p :: ps, x :: xs, e => parEnv ps xs ((p, x) :: e)
 | _, _, e => e
def cY (P : Program) (tb : Tb) (w0 : World) (K O0 : Nat → Prop) (nt l : Nat) (pin : List (Nat × Value)) : Cx := { P := P, tb := tb, w0 := w0, K := K, O0 := O0, nt := nt, ds := { pin := pin }, r := some l }
theorem cY_tb {P : Program} {tb : Tb} {w0 : World} {K O0 : Nat → Prop} {nt l : Nat} {pin : List (Nat × Value)} : (cY P tb w0 K O0 nt l pin).tb = tb := rfl
section
variable {P : Program} {tb : Tb} {w0 : World} {K O0 : Nat → Prop} {nt l : Nat} {stay : List Nat} {ρ0 : Nat → Value} {post : AV → List (Nat × Obj) → Prop} {σ : St} {pin : List (Nat × Value)}
end
end Go.Proofs.Ytebfihindnhccaa.Fw
end
/- Range over a function, second part: the statement; the end of a function that holds one. -/
section
namespace Go.Proofs.Ytebfihindnhccaa.Fw
open Go Go.RowKit
def Cx.marked (c : Cx) (dn b : Nat) : Cx := { c with ds := { ds := ⟨.collected b, #[]⟩ :: c.ds.ds, pin := (dn, .pointer (some ⟨b, 0, none⟩)) :: c.ds.pin } }
theorem marked_tb {c : Cx} {dn b : Nat} : (c.marked dn b).tb = c.tb := rfl
/-- The state in which the iterator is called. -/
def rangeSt (σ : St) (yn dn fr : Nat) (L : Go.Loop) (tm : Array Value) : St := ⟨σ.env, (yn, .loop L) :: (dn, .dfr) :: (fr, .frame tm σ.env) :: σ.objs⟩
section
variable {c : Cx} {R : Exit → Act → World → Prop} {k : List Kont} {σ : St}
/-! ### The end of a function that holds such a loop -/
end
end Go.Proofs.Ytebfihindnhccaa.Fw
end
/- The rules in their shortest form: what is reckoned is reckoned by themselves. -/
section
namespace Go.Proofs.Ytebfihindnhccaa.Fw
open Go Go.RowKit
section
variable {c : Cx} {R : Exit → Act → World → Prop} {k : List Kont} {σ σ' : St}
theorem rP (lv : List Nat) (hc : c.Ok) {id : Nat} {l : List Oper} {vc : Prop} (hvc : vc) (hk : Ev c R (.out .normal) k σ') (h0 : (l.all fun o => o.guard.isNone) = true := by rfl)
  (h : pruneR lv (evSeq c.tb l l σ) = some (vc, σ') := by simp only [go_sem, Nat.reduceEqDiff, reduceCtorEq, Nat.reduceAdd, Nat.reduceSub, Nat.reduceMul, Nat.reduceLeDiff, Nat.reduceLT, Int.reduceLE, Int.reduceToNat, Int.reduceNeg, ↓reduceIte]; rfl) : Ev c R (.run (.region id l.toArray false)) k σ := evp_regionP lv hc h0 h hvc hk
/-- A test, in words. -/
theorem rC {o : Operand} {x y : Code} {b : Bool} {p q : Prop} (ht : p → Ev c R (.run x) k σ) (hf : q → Ev c R (.run y) k σ) (h : opv σ o = some (.p .bool b) := by simp only [go_sem, Nat.reduceEqDiff, reduceCtorEq, Nat.reduceAdd, Nat.reduceSub, Nat.reduceMul, Nat.reduceLeDiff, Nat.reduceLT, Int.reduceLE, Int.reduceToNat, Int.reduceNeg, ↓reduceIte]; rfl)
  (hp : (b = true) = p := by first | (simp only [decide_eq_true_eq, decide_eq_false_iff_not, Bool.and_eq_true, Bool.or_eq_true, Bool.and_eq_false_imp, Bool.or_eq_false_iff, Bool.not_eq_true', Bool.not_eq_false', beq_iff_eq, beq_eq_false_iff_ne, bne_iff_ne, Bool.not_eq_eq_eq_not, Bool.not_true, Bool.not_false, Int.not_lt, Int.not_le, ne_eq]; rfl) | rfl) (hq : (b = false) = q := by first | (simp only [decide_eq_true_eq, decide_eq_false_iff_not, Bool.and_eq_true, Bool.or_eq_true, Bool.and_eq_false_imp, Bool.or_eq_false_iff, Bool.not_eq_true', Bool.not_eq_false', beq_iff_eq, beq_eq_false_iff_ne, bne_iff_ne, Bool.not_eq_eq_eq_not, Bool.not_true, Bool.not_false, Int.not_lt, Int.not_le, ne_eq]; rfl) | rfl) : Ev c R (.run (.cond o x y)) k σ :=
 ev_condE h (fun e => ht (hp ▸ e)) (fun e => hf (hq ▸ e))
/-- The rest of a region. -/
theorem rL (lv : List Nat) (hc : c.Ok) {ops : List Oper} {l : List Oper} {vc : Prop} (hvc : vc) (hk : Ev c R (.out .normal) k σ') (h : pruneR lv (evSeq c.tb ops l σ) = some (vc, σ') := by simp only [go_sem, Nat.reduceEqDiff, reduceCtorEq, Nat.reduceAdd, Nat.reduceSub, Nat.reduceMul, Nat.reduceLeDiff, Nat.reduceLT, Int.reduceLE, Int.reduceToNat, Int.reduceNeg, ↓reduceIte]; rfl) : EvL c R k ops.toArray l σ := evLp_all lv hc h hvc hk
theorem rN (n : Nat) (hc : c.Ok) {ops : List Oper} {l : List Oper} {vc : Prop} (hvc : vc) (hk : EvL c R k ops.toArray (l.drop n) σ') (h : evSeq c.tb ops (l.take n) σ = some (vc, σ') := by simp only [List.take_succ_cons, List.take_zero, go_sem, Nat.reduceEqDiff, reduceCtorEq, Nat.reduceAdd, Nat.reduceSub, Nat.reduceMul, Nat.reduceLeDiff, Nat.reduceLT, Int.reduceLE, Int.reduceToNat, Int.reduceNeg, ↓reduceIte]; rfl) : EvL c R k ops.toArray l σ := evL_seq hc n (by simpa using h) hvc hk
theorem cP (n : Nat) (hc : c.Ok) {id : Nat} {l : List Oper} {vc : Prop} (hvc : vc) (hk : EvL c R k l.toArray (l.drop n) σ') (h0 : (l.all fun o => o.guard.isNone) = true := by rfl) (h : evSeq c.tb l (l.take n) σ = some (vc, σ') := by simp only [List.take_succ_cons, List.take_zero, go_sem, Nat.reduceEqDiff, reduceCtorEq, Nat.reduceAdd, Nat.reduceSub, Nat.reduceMul, Nat.reduceLeDiff, Nat.reduceLT, Int.reduceLE, Int.reduceToNat, Int.reduceNeg, ↓reduceIte]; rfl) :
  Ev c R (.run (.region id l.toArray false)) k σ := ev_callP hc n h0 h hvc hk
/-- A call by a contract with memory. -/
theorem rM (hc : c.Ok) {ops : Array Oper} {rest : List Oper} {dst : Option Nat} {g : Operand} {xs : List Operand} {ts : Array TypeId} {ty : TypeId} {pos : String} {after : Array Edge}
  {f : FuncId} {capn : List Nat} {as : List AV} {A : List AV} {objs : List (Nat × Obj)} {stay : List Nat} {post : AV → List (Nat × Obj) → Prop} (hM : CallM c.P f A objs stay post)
  (ren : List (Nat × From)) (hs : List Nat) (hA : matchArgs σ ren (as ++ capn.map fun n => AV.bp n [] 0) A) (hO : matchObjs σ.objs ren objs)
  (hk : ∀ res objs', post res objs' → ∃ (ren2 : List (Nat × From)) (res2 : AV) (objs2 : List (Nat × Obj)), renOk ren2 = true ∧ renIn objs2 ren2 = true ∧ matchObjs objs' ren2 objs2 ∧ matchAV ren2 res res2 ∧
   keepB ren ren2 stay hs = true ∧ freshB (handed ren) objs2 σ.objs = true ∧ EvL c R k ops rest (afterM σ (handed ren) hs dst res2 objs2))
  (hg : calleeOf (opv σ g) = some (f, capn) := by simp only [go_sem, Nat.reduceEqDiff, reduceCtorEq, Nat.reduceAdd, Nat.reduceSub, Nat.reduceMul, Nat.reduceLeDiff, Nat.reduceLT, Int.reduceLE, Int.reduceToNat, Int.reduceNeg, ↓reduceIte]; rfl) (has : opvs σ xs = some as := by simp only [go_sem, Nat.reduceEqDiff, reduceCtorEq, Nat.reduceAdd, Nat.reduceSub, Nat.reduceMul, Nat.reduceLeDiff, Nat.reduceLT, Int.reduceLE, Int.reduceToNat, Int.reduceNeg, ↓reduceIte]; rfl)
  (h1 : renOk ren = true := by rfl) (h2 : renIn objs ren = true := by rfl) (hpin : (c.ds.pin.all fun p => !memB p.1 hs) = true := by rfl) :
  EvL c R k ops (⟨dst, .call ⟨.value g, xs.toArray, ts⟩, ty, pos, after, none⟩ :: rest) σ := evL_call hc hg has hM ren hs h1 h2 hpin hA hO hk
end
end Go.Proofs.Ytebfihindnhccaa.Fw
end
/- Code with labels that nothing jumps to: a scope, a label. -/
section
namespace Go.Proofs.Ytebfihindnhccaa.Fw
open Go Go.RowKit
section
variable {P : Program} {b : Frame} {a : Act} {k : List Item} {cs : List Frame} {w : World}
theorem stepR_scope {c : Code} : step P (lone (b.atR a (.code (.scope c) :: k)) cs w) = .next (lone (b.atR a (.code c :: .inScope c :: k)) cs w) :=
 step_lone_go (by simp [stepG, stepG.exec, Frame.atR])
theorem stepR_inScope {c : Code} : step P (lone (b.atR a (.inScope c :: k)) cs w) = .next (lone (b.atR a k) cs w) :=
 step_lone_go (by simp [stepG, stepG.exec, Frame.atR])
end
theorem wpIn_scope_straight {F : Fence} {n : Nat} {P : Program} {Q : Exit → Act → World → Prop} {a : Act} {w : World} {c : Code} (h : c.wpIn F n P (Exit.noGoto Q) a w) : (Code.scope c).wpIn F n P Q a w := by
 intro b k cs hro hb hr
 have h0 : (lone (b.atR a (.code (.scope c) :: k)) cs w).fenced P F := fenced_calm hb hr rfl
 obtain ⟨e, a₁, w₁, hq, harr⟩ := h b (.inScope c :: k) cs hro hb hr
 cases e with
 | normal => exact ⟨.normal, a₁, w₁, hq, .head h0 stepR_scope (StepsIn.trans harr (.one (fenced_calm hb hr rfl) stepR_inScope))⟩
 | exit id =>
  have hx : exitTo id (.inScope c :: k) = exitTo id k := by simp [exitTo]
  exact ⟨.exit id, a₁, w₁, hq, fun k' hk => .head h0 stepR_scope (harr.1 k' (by rw [hx]; exact hk)),
   fun hr' hk => let ⟨k₁, h1, h2⟩ := harr.2 hr' (by rw [hx]; exact hk); ⟨k₁, h1, .head h0 stepR_scope h2⟩⟩
 | goto l => exact hq.elim
 | ret => exact ⟨_, a₁, w₁, hq, .of_steps (.one h0 stepR_scope) harr⟩
 | panic ch => exact ⟨_, a₁, w₁, hq, .of_steps (.one h0 stepR_scope) harr⟩
 | outgrown => exact ⟨_, a₁, w₁, hq, .of_steps (.one h0 stepR_scope) harr⟩
section
variable {c : Cx} {R : Exit → Act → World → Prop} {k : List Kont} {σ : St}
theorem kwp_goto (hR : ∀ l a w, ¬ R (.goto l) a w) : ∀ (k : List Kont) (l : Nat) (a : Act) (w : World), ¬ kwp c R k (.goto l) a w
 | [], l, a, w => hR l a w
 | .seq _ :: k, l, a, w => kwp_goto hR k l a w
 | .blk _ :: k, l, a, w => kwp_goto hR k l a w
 | .inv _ :: k, l, a, w => kwp_goto hR k l a w
theorem ev_scope (hR : ∀ l a w, ¬ R (.goto l) a w) {b : Code} (h : Ev c R (.run b) k σ) : Ev c R (.run (.scope b)) k σ := by
 intro h1 h2 a w hs
 have h1 : codeOk c.nt b = true := by simpa [nowOk, codeOk] using h1
 refine wpIn_scope_straight (wpIn_mono (h h1 h2 a w hs) ?_)
 intro e a' w' hq
 cases e with
 | goto l => exact absurd hq (kwp_goto hR k l a' w')
 | _ => exact hq
theorem ev_label {l : Nat} (h : Ev c R (.out .normal) k σ) : Ev c R (.run (.label l)) k σ := fun _ h2 a w hs => wpIn_label (h rfl h2 a w hs)
theorem ret_goto {P : Program} {fn : Func} {w0 : World} {O0 : Nat → Prop} {outs : List RV} : ∀ l a w, ¬ RetOk P fn w0 O0 outs (.goto l) a w := fun _ _ _ h => h
end
end Go.Proofs.Ytebfihindnhccaa.Fw
end
/- Several steps of control in one. -/
section
namespace Go.Proofs.Ytebfihindnhccaa.Fw
open Go Go.RowKit
def stepK : Now → List Kont → Option (Now × List Kont)
 | .run (.seq x y), k => some (.run x, .seq y :: k)
 | .run .skip, k => some (.out .normal, k)
 | .run .ret, k => some (.out .ret, k)
 | .run (.exit id), k => some (.out (.exit id), k)
 | .run (.block id b), k => some (.run b, .blk id :: k)
 | .out .normal, .seq y :: k => some (.run y, k)
 | .out .normal, .blk _ :: k => some (.out .normal, k)
 | .out (.exit id), .seq _ :: k => some (.out (.exit id), k)
 | .out (.exit id'), .blk id :: k => if id' = id then some (.out .normal, k) else some (.out (.exit id'), k)
 | .out (.exit id), .inv _ :: k => some (.out (.exit id), k)
 | .out .ret, .seq _ :: k => some (.out .ret, k)
 | .out .ret, .blk _ :: k => some (.out .ret, k)
 | .out .ret, .inv _ :: k => some (.out .ret, k)
 | _, _ => none
def stepsK : Nat → Now → List Kont → Now × List Kont
 | 0, n, k => (n, k)
 | m + 1, n, k => match stepK n k with
  | some (n', k') => stepsK m n' k'
  | none => (n, k)
def stepsK1 (n : Now) (k : List Kont) : Option (Now × List Kont) := match stepK n k with
 | some (n', k') => some (stepsK 200 n' k')
 | none => none
section
variable {c : Cx} {R : Exit → Act → World → Prop} {σ : St}
theorem ev_stepK {n n' : Now} {k k' : List Kont} (e : stepK n k = some (n', k')) (h : Ev c R n' k' σ) : Ev c R n k σ := by
 unfold stepK at e
 split at e <;> first
  | (cases e; done)
  | (split at e <;> (cases e; first | (rename_i hid; rw [hid]; exact ev_exit_eq h) | exact ev_exit_ne (by assumption) h))
  | (cases e; first | exact ev_seq h | exact ev_skip h | exact ev_ret h | exact ev_exit h | exact ev_block h | exact ev_out_seq h | exact ev_out_blk h | exact ev_exit_seq h | exact ev_exit_inv h | exact ev_ret_seq h | exact ev_ret_blk h | exact ev_ret_inv h)
theorem ev_stepsK : ∀ (m : Nat) {n : Now} {k : List Kont}, Ev c R (stepsK m n k).1 (stepsK m n k).2 σ → Ev c R n k σ
 | 0, _, _, h => h
 | m + 1, n, k, h => by
  unfold stepsK at h
  split at h
  ·rename_i n' k' e
   exact ev_stepK e (ev_stepsK m h)
  ·exact h
/-- Steps of control, at least one. -/
theorem eS {n n' : Now} {k k' : List Kont} (e : stepsK1 n k = some (n', k')) (h : Ev c R n' k' σ) : Ev c R n k σ := by
 unfold stepsK1 at e
 split at e
 ·rename_i n1 k1 e1
  refine ev_stepK e1 (ev_stepsK 200 ?_)
  have := Option.some.inj e
  rw [this]
  exact h
 ·cases e
end
/-- A region, by whichever rule fits. -/
inductive RX (c : Cx) (lv : List Nat) (σ : St) (vc : Prop) (σ' : St) : Array Oper → Bool → Prop
 | p {l : List Oper} (h0 : (l.all fun o => o.guard.isNone) = true) (h : pruneR lv (evSeq c.tb l l σ) = some (vc, σ')) : RX c lv σ vc σ' l.toArray false
 | a {l : List Oper} (h0 : seqB l l.length = true) (h : pruneR lv (evM c.tb l true σ.objs [] l 0 [] [] σ) = some (vc, σ')) : RX c lv σ vc σ' l.toArray false
 | d {l : List Oper} (h0 : drawB l l.length = true) (hm : c.P.follows .mixedOrders = true) (h : pruneR lv (evM c.tb l false σ.objs [] l 0 [] [] σ) = some (vc, σ')) : RX c lv σ vc σ' l.toArray true
 | t {l : List Oper} (m : Nat) (h0 : drawB l (l.take (l.length - m)).length = true) (hm : c.P.follows .mixedOrders = true) (h : pruneR lv (evM c.tb l false σ.objs (l.drop (l.length - m)) (l.take (l.length - m)) 0 [] [] σ) = some (vc, σ')) : RX c lv σ vc σ' l.toArray true
theorem rX_of {c : Cx} {R : Exit → Act → World → Prop} {k : List Kont} {σ σ' : St} {lv : List Nat} (hc : c.Ok) {id : Nat} {ops : Array Oper} {dr : Bool} {vc : Prop} (hvc : vc) (hk : Ev c R (.out .normal) k σ') (h : RX c lv σ vc σ' ops dr) : Ev c R (.run (.region id ops dr)) k σ := by
 cases h with
 | p h0 h => exact evp_regionP lv hc h0 h hvc hk
 | a h0 h => exact evp_regionA lv hc h0 h hvc hk
 | d h0 hm h => exact evp_drawA lv hm hc h0 h hvc hk
 | t m h0 hm h => exact evp_drawT lv m hm hc h0 h hvc hk
theorem rX {c : Cx} {R : Exit → Act → World → Prop} {k : List Kont} {σ σ' : St} (lv : List Nat) (hc : c.Ok) {id : Nat} {ops : Array Oper} {dr : Bool} {vc : Prop} (hvc : vc) (hk : Ev c R (.out .normal) k σ')
  (h : RX c lv σ vc σ' ops dr := by
   first
   | exact .p rfl (by simp only [go_sem, Nat.reduceEqDiff, reduceCtorEq, Nat.reduceAdd, Nat.reduceSub, Nat.reduceMul, Nat.reduceLeDiff, Nat.reduceLT, Int.reduceLE, Int.reduceToNat, Int.reduceNeg, ↓reduceIte]; rfl)
   | exact .a (by kernel_rfl) (by simp only [go_sem, Nat.reduceEqDiff, reduceCtorEq, Nat.reduceAdd, Nat.reduceSub, Nat.reduceMul, Nat.reduceLeDiff, Nat.reduceLT, Int.reduceLE, Int.reduceToNat, Int.reduceNeg, ↓reduceIte]; rfl)
   | exact .d (by kernel_rfl) (by exact drawsAny) (by simp only [go_sem, Nat.reduceEqDiff, reduceCtorEq, Nat.reduceAdd, Nat.reduceSub, Nat.reduceMul, Nat.reduceLeDiff, Nat.reduceLT, Int.reduceLE, Int.reduceToNat, Int.reduceNeg, ↓reduceIte]; rfl)
   | exact .t 1 (by kernel_rfl) (by exact drawsAny) (by simp only [List.take_succ_cons, List.drop_succ_cons, List.take_zero, List.drop_zero, go_sem, Nat.reduceEqDiff, reduceCtorEq, Nat.reduceAdd, Nat.reduceSub, Nat.reduceMul, Nat.reduceLeDiff, Nat.reduceLT, Int.reduceLE, Int.reduceToNat, Int.reduceNeg, ↓reduceIte]; rfl)
   | exact .t 2 (by kernel_rfl) (by exact drawsAny) (by simp only [List.take_succ_cons, List.drop_succ_cons, List.take_zero, List.drop_zero, go_sem, Nat.reduceEqDiff, reduceCtorEq, Nat.reduceAdd, Nat.reduceSub, Nat.reduceMul, Nat.reduceLeDiff, Nat.reduceLT, Int.reduceLE, Int.reduceToNat, Int.reduceNeg, ↓reduceIte]; rfl)
   | exact .t 3 (by kernel_rfl) (by exact drawsAny) (by simp only [List.take_succ_cons, List.drop_succ_cons, List.take_zero, List.drop_zero, go_sem, Nat.reduceEqDiff, reduceCtorEq, Nat.reduceAdd, Nat.reduceSub, Nat.reduceMul, Nat.reduceLeDiff, Nat.reduceLT, Int.reduceLE, Int.reduceToNat, Int.reduceNeg, ↓reduceIte]; rfl)) : Ev c R (.run (.region id ops dr)) k σ := rX_of hc hvc hk h
/-! What is reckoned, in one word -/
theorem eN {p : Prop} (h : p := by simp only [go_sem, Nat.reduceEqDiff, reduceCtorEq, Nat.reduceAdd, Nat.reduceSub, Nat.reduceMul, Nat.reduceLeDiff, Nat.reduceLT, Int.reduceLE, Int.reduceToNat, Int.reduceNeg, ↓reduceIte] <;> fail) : p := h
theorem eM {p q : Prop} (hq : q) (h : p = q := by simp only [go_sem, Nat.reduceEqDiff, reduceCtorEq, Nat.reduceAdd, Nat.reduceSub, Nat.reduceMul, Nat.reduceLeDiff, Nat.reduceLT, Int.reduceLE, Int.reduceToNat, Int.reduceNeg, ↓reduceIte]; rfl) : p := h ▸ hq
theorem eR {p : Prop} (h : p := by simp only [retIs, resIs, resV, resLoad, avNames, pureOf, ownOf, go_sem, Nat.reduceEqDiff, reduceCtorEq, Nat.reduceAdd, Nat.reduceSub, Nat.reduceMul, Nat.reduceLeDiff, Nat.reduceLT, Int.reduceLE, Int.reduceToNat, Int.reduceNeg, ↓reduceIte] <;> fail) : p := h
theorem eRM {p q : Prop} (hq : q) (h : p = q := by simp only [retIs, resIs, resV, resLoad, avNames, pureOf, ownOf, go_sem, Nat.reduceEqDiff, reduceCtorEq, Nat.reduceAdd, Nat.reduceSub, Nat.reduceMul, Nat.reduceLeDiff, Nat.reduceLT, Int.reduceLE, Int.reduceToNat, Int.reduceNeg, ↓reduceIte]; rfl) : p := h ▸ hq
theorem eV {p : Prop} (h : p := by (try dsimp only [Ty.den] at *) <;> (repeat' (first | apply And.intro | intro _)) <;> omega) : p := h
end Go.Proofs.Ytebfihindnhccaa.Fw
end
/- A call by contract under a guard that holds. -/
section
namespace Go.Proofs.Ytebfihindnhccaa.Fw
open Go Go.RowKit
section
variable {c : Cx} {R : Exit → Act → World → Prop} {k : List Kont} {σ σ' : St}
theorem ev_front (hc : c.Ok) {id : Nat} {l : List Oper} (n : Nat) {vc : Prop} (h : evSeq c.tb l (l.take n) σ = some (vc, σ')) (hvc : vc) (hk : EvL c R k l.toArray (l.drop n) σ') :
  Ev c R (.run (.region id l.toArray false)) k σ := by
 intro h1 h2 a w hs
 simp only [nowOk, codeOk, List.all_eq_true] at h1
 exact wpIn_region_list (evL_seq hc n (by simpa using h) hvc hk (fun o ho => h1 o ho) h2 a w hs)
theorem evL_callG (hc : c.Ok) {ops : Array Oper} {rest : List Oper} {dst : Option Nat} {g : Operand} {xs : List Operand} {ts : Array TypeId} {ty : TypeId} {pos : String} {after : Array Edge} {gd : Option (Nat × Bool)}
  (hgd : guardOf ops.toList σ gd = some true)
  {f : FuncId} {capn : List Nat} (hg : calleeOf (opv σ g) = some (f, capn)) {as : List AV} (has : opvs σ xs = some as)
  {A : List AV} {objs : List (Nat × Obj)} {stay : List Nat} {post : AV → List (Nat × Obj) → Prop} (hM : CallM c.P f A objs stay post)
  (ren : List (Nat × From)) (hs : List Nat) (h1 : renOk ren = true) (h2 : renIn objs ren = true) (hpin : (c.ds.pin.all fun p => !memB p.1 hs) = true) (hA : matchArgs σ ren (as ++ capn.map fun n => AV.bp n [] 0) A) (hO : matchObjs σ.objs ren objs)
  (hk : ∀ res objs', post res objs' → ∃ (ren2 : List (Nat × From)) (res2 : AV) (objs2 : List (Nat × Obj)), renOk ren2 = true ∧ renIn objs2 ren2 = true ∧ matchObjs objs' ren2 objs2 ∧ matchAV ren2 res res2 ∧
   keepB ren ren2 stay hs = true ∧ freshB (handed ren) objs2 σ.objs = true ∧ EvL c R k ops rest (afterM σ (handed ren) hs dst res2 objs2)) :
  EvL c R k ops (⟨dst, .call ⟨.value g, xs.toArray, ts⟩, ty, pos, after, gd⟩ :: rest) σ := by
 intro hd hko a w hsat
 unfold wpListIn
 rw [if_pos (guard_wanted (o := ⟨dst, .call ⟨.value g, xs.toArray, ts⟩, ty, pos, after, gd⟩) hsat hgd)]
 refine call_wp hc (xs := xs) (ts := ts) rfl rfl hg has hM ren h1 h2 hA hO hs hpin hsat (dstOk_spec (hd _ (by simp))) fun res objs' hp => ?_
 obtain ⟨ren2, res2, objs2, g1, g2, g3, g4, g5, g6, hE⟩ := hk res objs' hp
 exact ⟨ren2, res2, objs2, g1, g2, g3, g4, g5, g6, fun a' w' hs' => hE (fun o ho => hd o (by simp [ho])) hko a' w' hs'⟩
end
end Go.Proofs.Ytebfihindnhccaa.Fw
end
