/- What a canonical feature structure is: its arcs ascend. -/
import Derived.Test.YtfdkpbmofgkaoaaYP8
import Derived.Test.YtfdkpbmofgkaoaaYP1
set_option linter.unusedVariables false
set_option linter.unusedSimpArgs false
namespace Go.Proofs.Ytfdkpbmofgkaoaa.Fw
open Go
theorem cmpL_cons {x y : Int} {xs ys : List Int} (h : cmpL (x :: xs) (y :: ys) = 0) : x = y ∧ cmpL xs ys = 0 := by
  simp only [cmpL] at h
  split at h
  · cases h
  · split at h
    · cases h
    · exact ⟨by omega, h⟩
theorem cmpL_pairs : ∀ {l m : List (Int × Int)} {r s : List Int}, l.length = m.length → cmpL (l.flatMap (fun a => [a.1, a.2]) ++ r) (m.flatMap (fun a => [a.1, a.2]) ++ s) = 0 → l = m ∧ cmpL r s = 0
  | [], [], _, _, _, h => ⟨rfl, by simpa using h⟩
  | [], _ :: _, _, _, hl, _ => by simp at hl
  | _ :: _, [], _, _, hl, _ => by simp at hl
  | (a1, a2) :: l, (b1, b2) :: m, r, s, hl, h => by
    have h : cmpL (a1 :: a2 :: (l.flatMap (fun a => [a.1, a.2]) ++ r)) (b1 :: b2 :: (m.flatMap (fun a => [a.1, a.2]) ++ s)) = 0 := by simpa using h
    obtain ⟨e1, h3⟩ := cmpL_cons h
    obtain ⟨e2, h4⟩ := cmpL_cons h3
    obtain ⟨e3, h5⟩ := cmpL_pairs (l := l) (m := m) (by simpa using hl) h4
    exact ⟨by rw [e1, e2, e3], h5⟩
theorem cmpL_nodes : ∀ {l m : List GNode} {r s : List Int}, l.length = m.length → cmpL (l.flatMap numN ++ r) (m.flatMap numN ++ s) = 0 → l = m ∧ cmpL r s = 0
  | [], [], _, _, _, h => ⟨rfl, by simpa using h⟩
  | [], _ :: _, _, _, hl, _ => by simp at hl
  | _ :: _, [], _, _, hl, _ => by simp at hl
  | (a1, a2) :: l, (b1, b2) :: m, r, s, hl, h => by
    have h : cmpL (a1 :: (a2.length : Int) :: (a2.flatMap (fun a => [a.1, a.2]) ++ (l.flatMap numN ++ r))) (b1 :: (b2.length : Int) :: (b2.flatMap (fun a => [a.1, a.2]) ++ (m.flatMap numN ++ s))) = 0 := by simpa [numN] using h
    obtain ⟨e1, h3⟩ := cmpL_cons h
    obtain ⟨e2, h4⟩ := cmpL_cons h3
    obtain ⟨e3, h5⟩ := cmpL_pairs (l := a2) (m := b2) (by omega) h4
    obtain ⟨e4, h6⟩ := cmpL_nodes (l := l) (m := m) (by simpa using hl) h5
    exact ⟨by rw [e1, e3, e4], h6⟩
theorem compareF_eq {a b : List GNode} (h : compareF a b = 0) : a = b := by
  unfold compareF numbersF at h
  obtain ⟨h1, h2⟩ := cmpL_cons h
  have := cmpL_nodes (l := a) (m := b) (r := []) (s := []) (by omega) (by simpa using h2)
  exact this.1
theorem cmpL_self : ∀ l : List Int, cmpL l l = 0
  | [] => rfl
  | x :: l => by simp [cmpL, cmpL_self l]
theorem compareF_self (a : List GNode) : compareF a a = 0 := cmpL_self _
/-! The sort ascends -/
theorem posF_spec (x : Int × Int) (s : List (Int × Int)) : ∀ n, (∀ j, posF x s n ≤ j → j < n → x.1 < (s.getD j (0, 0)).1) ∧ (0 < posF x s n → (s.getD (posF x s n - 1) (0, 0)).1 ≤ x.1)
  | 0 => ⟨fun j h1 h2 => by omega, fun h => by simp [posF] at h⟩
  | n + 1 => by
    obtain ⟨h1, h2⟩ := posF_spec x s n
    unfold posF
    split
    · rename_i hc
      refine ⟨fun j g1 g2 => ?_, h2⟩
      by_cases e : j = n
      · subst e; exact hc
      · exact h1 j g1 (by omega)
    · rename_i hc
      exact ⟨fun j g1 g2 => by omega, fun _ => by simp only [Nat.add_sub_cancel]; omega⟩
theorem pw_get {l : List (Int × Int)} (h : l.Pairwise (fun a b => a.1 ≤ b.1)) {i j : Nat} (hij : i ≤ j) (hj : j < l.length) : (l.getD i (0, 0)).1 ≤ (l.getD j (0, 0)).1 := by
  rcases Nat.eq_or_lt_of_le hij with rfl | hlt
  · exact Int.le_refl _
  · rw [List.pairwise_iff_getElem] at h
    have := h i j (by omega) hj hlt
    simpa [List.getD_eq_getElem?_getD, hj, show i < l.length by omega] using this
theorem insF_sorted {s : List (Int × Int)} (h : s.Pairwise (fun a b => a.1 ≤ b.1)) (x : Int × Int) : (insF s x).Pairwise (fun a b => a.1 ≤ b.1) := by
  obtain ⟨h1, h2⟩ := posF_spec x s s.length
  have hp := posF_le x s s.length
  unfold insF
  generalize posF x s s.length = p at *
  rw [List.pairwise_append, List.pairwise_append]
  have hlow : ∀ a ∈ s.take p, a.1 ≤ x.1 := fun a ha => by
    obtain ⟨i, hi, rfl⟩ := List.mem_iff_getElem.1 ha
    rw [List.length_take] at hi
    have h3 := pw_get h (i := i) (j := p - 1) (by omega) (by omega)
    have h4 := h2 (by omega)
    have e : (s.take p)[i].1 = (s.getD i (0, 0)).1 := by simp [List.getD_eq_getElem?_getD, show i < s.length by omega]
    rw [e]
    omega
  have hhigh : ∀ b ∈ s.drop p, x.1 ≤ b.1 := fun b hb => by
    obtain ⟨i, hi, rfl⟩ := List.mem_iff_getElem.1 hb
    rw [List.length_drop] at hi
    have h3 := h1 (p + i) (by omega) (by omega)
    have e : (s.drop p)[i].1 = (s.getD (p + i) (0, 0)).1 := by simp [List.getD_eq_getElem?_getD, show p + i < s.length by omega]
    rw [e]
    omega
  refine ⟨⟨h.sublist (List.take_sublist _ _), by simp, fun a ha b hb => ?_⟩, h.sublist (List.drop_sublist _ _), fun a ha b hb => ?_⟩
  · have : b = x := by simpa using hb
    rw [this]
    exact hlow a ha
  · rcases List.mem_append.1 ha with ha | ha
    · exact Int.le_trans (hlow a ha) (hhigh b hb)
    · have : a = x := by simpa using ha
      rw [this]
      exact hhigh b hb
theorem sortedF_sorted (l : List (Int × Int)) : (sortedF l).Pairwise (fun a b => a.1 ≤ b.1) := by
  induction l using list_snoc_ind with
  | h0 => exact List.Pairwise.nil
  | h1 l a ih => rw [sortedF_snoc]; exact insF_sorted ih a
theorem arcsG_nodup {n : Int} : ∀ {l seen : List (Int × Int)}, arcsG n seen l = 0 → (l.map (·.1)).Nodup ∧ ∀ a ∈ l, ∀ b ∈ seen, b.1 ≠ a.1
  | [], _, _ => ⟨by simp, fun a ha => by cases ha⟩
  | x :: l, seen, h => by
    simp only [arcsG] at h
    split at h
    · cases h
    · split at h
      · cases h
      · rename_i h1 h2
        obtain ⟨g1, g2⟩ := arcsG_nodup h
        have h2 : ∀ b ∈ seen, b.1 ≠ x.1 := fun b hb e => h2 (List.any_eq_true.2 ⟨b, hb, by simp [e]⟩)
        refine ⟨?_, fun a ha b hb => ?_⟩
        · rw [List.map_cons, List.nodup_cons]
          refine ⟨fun hm => ?_, g1⟩
          obtain ⟨a, ha, e⟩ := List.mem_map.1 hm
          exact g2 a ha x (by simp) e.symm
        · rcases List.mem_cons.1 ha with rfl | ha
          · exact h2 b hb
          · exact g2 a ha b (by simp [hb])
theorem formG_arcs {m : Int} : ∀ {f : List GNode}, formG m f = 0 → ∀ x ∈ f, arcsF x.2 m = 0
  | [], _, x, hx => by cases hx
  | y :: f, h, x, hx => by
    simp only [formG] at h
    split at h
    · cases h
    · split at h
      · rename_i h1 h2; exact absurd h h2
      · rename_i h1 h2
        rcases List.mem_cons.1 hx with rfl | hx
        · exact Classical.byContradiction h2
        · exact formG_arcs h x hx
theorem strict_of {l : List (Int × Int)} (h : l.Pairwise (fun a b => a.1 ≤ b.1)) (hn : (l.map (·.1)).Nodup) : l.Pairwise (fun a b => a.1 < b.1) := by
  rw [List.Nodup, List.pairwise_map] at hn
  refine (h.and hn).imp fun {a b} hab => ?_
  have h1 := hab.1
  have h2 : ¬ a.1 = b.1 := hab.2
  omega
theorem canonical_good {f : List GNode} (h : canonicalB f = true) : GoodF f ∧ SrtF f ∧ 0 < f.length ∧ lightF f = true := by
  unfold canonicalB at h
  simp only [Bool.and_eq_true, beq_iff_eq] at h
  obtain ⟨⟨hl, _⟩, hc, he⟩ := h
  obtain ⟨hl1, hl2⟩ := light_small hl
  have hsa : SmallA f := fun x hx => Nat.le_trans (hl2 x hx) (by omega)
  have hform : formF f = 0 := by
    unfold canonF at hc
    split at hc
    · assumption
    · exact hc
  obtain ⟨hg, h0⟩ := formF_good hform hsa
  have hcf : (canonF f).1 = fromF f 0 := by unfold canonF; rw [if_pos hform]
  rw [hcf] at he
  have hfe := compareF_eq he
  refine ⟨hg, fun x hx => ⟨?_, hl2 x hx⟩, h0, hl⟩
  rw [← hfe] at hx
  obtain ⟨n, _, rfl⟩ := List.mem_map.1 hx
  rw [srtA_iff]
  have harcs : ((f.getD n.toNat (0, [])).2.map (·.1)).Nodup := by
    by_cases hlt : n.toNat < f.length
    · have hm : f.getD n.toNat (0, []) ∈ f := mem_of_take_succ f (0, []) hlt
      have hfg : formG f.length f = 0 := by
        unfold formF at hform
        split at hform
        · cases hform
        · split at hform
          · cases hform
          · exact hform
      exact (arcsG_nodup (formG_arcs hfg _ hm)).1
    · rw [List.getD_eq_getElem?_getD, List.getElem?_eq_none (by omega)]
      simp
  have hst := strict_of (sortedF_sorted (f.getD n.toNat (0, [])).2) (((sortedF_perm _).map (·.1)).nodup_iff.2 harcs)
  unfold nodeF
  simp only
  rw [List.pairwise_map]
  exact hst.imp fun hab => hab
end Go.Proofs.Ytfdkpbmofgkaoaa.Fw
