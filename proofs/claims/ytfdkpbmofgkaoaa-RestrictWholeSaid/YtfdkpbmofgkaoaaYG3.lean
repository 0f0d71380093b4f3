/- The plain law under graph.canonical: the program's search and the reference's are one, where each node's arcs ascend. -/
import Derived.Test.YtfdkpbmofgkaoaaYR07g
import Derived.Test.YtfdkpbmofgkaoaaYG1
set_option linter.unusedVariables false
set_option linter.unusedSimpArgs false
namespace Go.Proofs.Ytfdkpbmofgkaoaa.Fw
open Go
/-- The search: the nodes in the order in which they are come to. -/
def dfs (f : List GNode) : Nat → List Int → Int → List Int
  | 0, o, _ => o
  | k + 1, o, n => (f.getD n.toNat (0, [])).2.foldl (fun o a => if a.2 ∈ o then o else dfs f k o a.2) (o ++ [n])
def stepD (f : List GNode) (k : Nat) (o : List Int) (a : Int × Int) : List Int := if a.2 ∈ o then o else dfs f k o a.2
theorem dfs_succ (f : List GNode) (k : Nat) (o : List Int) (n : Int) : dfs f (k + 1) o n = (f.getD n.toNat (0, [])).2.foldl (stepD f k) (o ++ [n]) := rfl
structure DOk (f : List GNode) (o : List Int) : Prop where
  nd : o.Nodup
  rng : ∀ x ∈ o, 0 ≤ x ∧ x < (f.length : Int)
theorem DOk.len {f : List GNode} {o : List Int} (h : DOk f o) : o.length ≤ f.length := by
  have h1 : (o.map Int.toNat).Nodup := by
    rw [List.Nodup, List.pairwise_map]
    refine h.nd.imp_of_mem fun {a b} ha hb hne e => hne ?_
    have := h.rng a ha
    have := h.rng b hb
    omega
  have := nodup_len f.length (o.map Int.toNat) h1 (fun j hj => by
    obtain ⟨x, hx, rfl⟩ := List.mem_map.1 hj
    have := h.rng x hx
    omega)
  simpa using this
theorem DOk.snoc {f : List GNode} {o : List Int} (h : DOk f o) {n : Int} (h0 : 0 ≤ n) (h1 : n < f.length) (hn : n ∉ o) : DOk f (o ++ [n]) := by
  refine ⟨?_, fun x hx => ?_⟩
  · rw [List.nodup_append]
    refine ⟨h.nd, by simp, fun a ha b hb => ?_⟩
    have : b = n := by simpa using hb
    subst this
    intro e
    subst e
    exact hn ha
  · rcases List.mem_append.1 hx with hx | hx
    · exact h.rng x hx
    · have : x = n := by simpa using hx
      subst this
      exact ⟨h0, h1⟩
theorem foldD_ok {f : List GNode} {k : Nat} (hv : ∀ (o : List Int) (n : Int), DOk f o → 0 ≤ n → n < f.length → n ∉ o → DOk f (dfs f k o n) ∧ o <+: dfs f k o n) :
    ∀ (l : List (Int × Int)) (o : List Int), (∀ a ∈ l, 0 ≤ a.2 ∧ a.2 < (f.length : Int)) → DOk f o → DOk f (l.foldl (stepD f k) o) ∧ o <+: l.foldl (stepD f k) o
  | [], o, _, h => ⟨h, List.prefix_refl _⟩
  | a :: l, o, hl, h => by
    simp only [List.foldl_cons]
    have hstep : DOk f (stepD f k o a) ∧ o <+: stepD f k o a := by
      unfold stepD
      split
      · exact ⟨h, List.prefix_refl _⟩
      · rename_i hn
        exact hv o a.2 h (hl a (by simp)).1 (hl a (by simp)).2 hn
    obtain ⟨g1, g2⟩ := foldD_ok hv l _ (fun b hb => hl b (by simp [hb])) hstep.1
    exact ⟨g1, hstep.2.trans g2⟩
theorem arcs_in' {f : List GNode} (hf : GoodF f) {n : Int} {a : Int × Int} (ha : a ∈ (f.getD n.toNat (0, [])).2) : 0 ≤ a.2 ∧ a.2 < f.length := by
  by_cases h : n.toNat < f.length
  · have hm : f.getD n.toNat (0, []) ∈ f := by
      rw [List.getD_eq_getElem?_getD, List.getElem?_eq_getElem h]; exact List.getElem_mem h
    exact (hf.2 _ hm).2 a ha
  · rw [List.getD_eq_getElem?_getD, List.getElem?_eq_none (by omega)] at ha
    simp at ha
theorem dfs_ok {f : List GNode} (hf : GoodF f) : ∀ (k : Nat) (o : List Int) (n : Int), DOk f o → 0 ≤ n → n < f.length → n ∉ o → DOk f (dfs f k o n) ∧ o <+: dfs f k o n
  | 0, o, n, h, _, _, _ => ⟨h, List.prefix_refl _⟩
  | k + 1, o, n, h, h0, h1, h2 => by
    obtain ⟨g1, g2⟩ := foldD_ok (dfs_ok hf k) _ _ (fun a ha => arcs_in' hf ha) (h.snoc h0 h1 h2)
    rw [dfs_succ]
    exact ⟨g1, (List.prefix_append o [n]).trans g2⟩
/-- With enough fuel all arcs of what has been come to lead to what has been come to. -/
theorem dfs_closed {f : List GNode} (hf : GoodF f) : ∀ (k : Nat) (o : List Int) (n : Int), DOk f o → 0 ≤ n → n < f.length → n ∉ o → f.length - o.length ≤ k →
    n ∈ dfs f k o n ∧ ∀ x ∈ dfs f k o n, x ∈ o ∨ ∀ a ∈ (f.getD x.toNat (0, [])).2, a.2 ∈ dfs f k o n
  | 0, o, n, h, h0, h1, h2, hk => by
    have := (h.snoc h0 h1 h2).len
    simp only [List.length_append, List.length_singleton] at this
    omega
  | k + 1, o, n, h, h0, h1, h2, hk => by
    have key : ∀ (l : List (Int × Int)) (t : List Int), (∀ a ∈ l, 0 ≤ a.2 ∧ a.2 < (f.length : Int)) → DOk f t → f.length - t.length ≤ k →
        (∀ a ∈ l, a.2 ∈ l.foldl (stepD f k) t) ∧ ∀ x ∈ l.foldl (stepD f k) t, x ∈ t ∨ ∀ a ∈ (f.getD x.toNat (0, [])).2, a.2 ∈ l.foldl (stepD f k) t := by
      intro l
      induction l with
      | nil => exact fun t _ _ _ => ⟨fun a ha => (by cases ha), fun x hx => .inl hx⟩
      | cons a l ih =>
        intro t hl ht hlen
        simp only [List.foldl_cons]
        have hstep : DOk f (stepD f k t a) ∧ t <+: stepD f k t a ∧ a.2 ∈ stepD f k t a ∧ ∀ x ∈ stepD f k t a, x ∈ t ∨ ∀ b ∈ (f.getD x.toNat (0, [])).2, b.2 ∈ stepD f k t a := by
          unfold stepD
          split
          · rename_i hn
            exact ⟨ht, List.prefix_refl _, hn, fun x hx => .inl hx⟩
          · rename_i hn
            have q := hl a (by simp)
            obtain ⟨g1, g2⟩ := dfs_ok hf k t a.2 ht q.1 q.2 hn
            obtain ⟨g3, g4⟩ := dfs_closed hf k t a.2 ht q.1 q.2 hn hlen
            exact ⟨g1, g2, g3, g4⟩
        obtain ⟨g1, g2, g3, g4⟩ := hstep
        have hle := g2.length_le
        obtain ⟨i1, i2⟩ := ih (stepD f k t a) (fun b hb => hl b (by simp [hb])) g1 (by omega)
        obtain ⟨_, j2⟩ := foldD_ok (dfs_ok hf k) l (stepD f k t a) (fun b hb => hl b (by simp [hb])) g1
        refine ⟨fun b hb => ?_, fun x hx => ?_⟩
        · rcases List.mem_cons.1 hb with rfl | hb
          · exact j2.subset g3
          · exact i1 b hb
        · rcases i2 x hx with hx | hx
          · rcases g4 x hx with hx | hx
            · exact .inl hx
            · exact .inr fun b hb => j2.subset (hx b hb)
          · exact .inr hx
    have hs := h.snoc h0 h1 h2
    obtain ⟨g1, g2⟩ := key (f.getD n.toNat (0, [])).2 (o ++ [n]) (fun a ha => arcs_in' hf ha) hs (by simp only [List.length_append, List.length_singleton]; omega)
    obtain ⟨_, g3⟩ := foldD_ok (dfs_ok hf k) (f.getD n.toNat (0, [])).2 (o ++ [n]) (fun a ha => arcs_in' hf ha) hs
    rw [dfs_succ]
    refine ⟨g3.subset (by simp), fun x hx => ?_⟩
    rcases g2 x hx with hx | hx
    · rcases List.mem_append.1 hx with hx | hx
      · exact .inl hx
      · have : x = n := by simpa using hx
        subst this
        exact .inr g1
    · exact .inr hx
/-- A node's number. -/
def idxZ (o : List Int) (x : Int) : Int := if x ∈ o then (o.idxOf x : Int) else 0
def renD (o : List Int) (a : Int × Int) : Int × Int := (a.1, idxZ o a.2)
def nodeD (f : List GNode) (o : List Int) (n : Int) : GNode := ((f.getD n.toNat (0, [])).1, (f.getD n.toNat (0, [])).2.map (renD o))
def canonicalF (f : List GNode) (root : Int) : List GNode := (dfs f f.length [] root).map (nodeD f (dfs f f.length [] root))
/-- Each node's arcs ascend, and are few. -/
def SrtF (f : List GNode) : Prop := ∀ x ∈ f, SrtA x.2 ∧ x.2.length ≤ 12
theorem srt_of {f : List GNode} (hf : SrtF f) (n : Int) : SrtA (f.getD n.toNat (0, [])).2 ∧ (f.getD n.toNat (0, [])).2.length ≤ 12 := by
  by_cases h : n.toNat < f.length
  · have hm : f.getD n.toNat (0, []) ∈ f := by
      rw [List.getD_eq_getElem?_getD, List.getElem?_eq_getElem h]; exact List.getElem_mem h
    exact hf _ hm
  · rw [List.getD_eq_getElem?_getD, List.getElem?_eq_none (by omega)]
    exact ⟨fun i hi => by simp at hi, by simp⟩
theorem sortedF_srt {l : List (Int × Int)} (h : SrtA l) : sortedF l = l := by
  have key : ∀ i, i ≤ l.length → sortedF (l.take i) = l.take i := by
    intro i
    induction i with
    | zero => intro _; rfl
    | succ i ih =>
      intro hi
      rw [take_snoc l (0, 0) (by omega), sortedF_snoc, ih (by omega)]
      have hlen : (l.take i).length = i := by rw [List.length_take]; omega
      have hpos : posF (l.getD i (0, 0)) (l.take i) (l.take i).length = (l.take i).length := by
        rw [hlen]
        cases i with
        | zero => rfl
        | succ i =>
          have h1 := h i (by omega)
          have h2 : (l.take (i + 1)).getD i (0, 0) = l.getD i (0, 0) := by
            simp only [List.getD_eq_getElem?_getD]
            rw [List.getElem?_take]; simp
          simp only [posF]
          rw [h2, if_neg (by omega)]
      unfold insF
      rw [hpos, List.take_length, List.drop_length, List.append_nil]
  have := key l.length (Nat.le_refl _)
  rwa [List.take_length] at this
structure NumOk (f : List GNode) (num o : List Int) : Prop where
  len : num.length = f.length
  get : ∀ j, j < f.length → num.getD j 0 = if (j : Int) ∈ o then (o.idxOf (j : Int) : Int) else -1
theorem NumOk.neg {f : List GNode} {num o : List Int} (h : NumOk f num o) {n : Int} (h0 : 0 ≤ n) (h1 : n < f.length) : num.getD n.toNat 0 < 0 ↔ n ∉ o := by
  have := h.get n.toNat (by omega)
  rw [show ((n.toNat : Nat) : Int) = n by omega] at this
  rw [this]
  split
  · rename_i hm
    constructor
    · intro e; omega
    · intro e; exact absurd hm e
  · rename_i hm
    exact ⟨fun _ => hm, fun _ => by omega⟩
theorem idxOf_mem {o : List Int} {x n : Int} (h : x ∈ o) : (o ++ [n]).idxOf x = o.idxOf x := by rw [List.idxOf_append, if_pos h]
theorem idxOf_new {o : List Int} {n : Int} (h : n ∉ o) : (o ++ [n]).idxOf n = o.length := by rw [List.idxOf_append, if_neg h]; simp
theorem NumOk.snoc {f : List GNode} {num o : List Int} (h : NumOk f num o) {n : Int} (h0 : 0 ≤ n) (h1 : n < f.length) (hn : n ∉ o) : NumOk f (num.set n.toNat (o.length : Int)) (o ++ [n]) := by
  refine ⟨by simpa using h.len, fun j hj => ?_⟩
  have hj' : j < num.length := by rw [h.len]; exact hj
  by_cases e : j = n.toNat
  · subst e
    have en : ((n.toNat : Nat) : Int) = n := by omega
    rw [en]
    simp only [List.getD_eq_getElem?_getD]
    rw [List.getElem?_set_self hj', if_pos (by simp), idxOf_new hn]
    simp
  · have en : ¬ (j : Int) = n := by omega
    simp only [List.getD_eq_getElem?_getD]
    rw [List.getElem?_set_ne (fun e' => e e'.symm)]
    have := h.get j hj
    simp only [List.getD_eq_getElem?_getD] at this
    rw [this]
    by_cases hm : (j : Int) ∈ o
    · rw [if_pos hm, if_pos (by simp [hm]), idxOf_mem hm]
    · rw [if_neg hm, if_neg (by simp [hm, en])]
theorem visitF_dfs {f : List GNode} (hf : GoodF f) (hs : SrtF f) : ∀ (k : Nat) (s : List Int × List Int) (n : Int), NumOk f s.1 s.2 → DOk f s.2 → 0 ≤ n → n < f.length → n ∉ s.2 → (visitF f k s n).2 = dfs f k s.2 n ∧ NumOk f (visitF f k s n).1 (visitF f k s n).2
  | 0, s, n, h, _, _, _, _ => ⟨rfl, h⟩
  | k + 1, s, n, h, hd, h0, h1, h2 => by
    have key : ∀ (l : List (Int × Int)) (t : List Int × List Int), (∀ a ∈ l, 0 ≤ a.2 ∧ a.2 < (f.length : Int)) → NumOk f t.1 t.2 → DOk f t.2 → (l.foldl (stepV f k) t).2 = l.foldl (stepD f k) t.2 ∧ NumOk f (l.foldl (stepV f k) t).1 (l.foldl (stepV f k) t).2 := by
      intro l
      induction l with
      | nil => exact fun t _ ht _ => ⟨rfl, ht⟩
      | cons a l ih =>
        intro t hl ht htd
        simp only [List.foldl_cons]
        have q := hl a (by simp)
        have hq := ht.neg q.1 q.2
        have hstep : (stepV f k t a).2 = stepD f k t.2 a ∧ NumOk f (stepV f k t a).1 (stepV f k t a).2 ∧ DOk f (stepV f k t a).2 := by
          unfold stepV stepD
          by_cases hm : a.2 ∈ t.2
          · rw [if_pos hm, if_neg (by rw [hq]; exact fun e => e hm)]
            exact ⟨rfl, ht, htd⟩
          · rw [if_neg hm, if_pos (by rw [hq]; exact hm)]
            obtain ⟨g1, g2⟩ := visitF_dfs hf hs k t a.2 ht htd q.1 q.2 hm
            exact ⟨g1, g2, by rw [g1]; exact (dfs_ok hf k t.2 a.2 htd q.1 q.2 hm).1⟩
        obtain ⟨g1, g2, g3⟩ := hstep
        obtain ⟨i1, i2⟩ := ih (stepV f k t a) (fun b hb => hl b (by simp [hb])) g2 g3
        rw [g1] at i1
        exact ⟨i1, i2⟩
    rw [visitF_succ, dfs_succ, sortedF_srt (srt_of hs n).1]
    exact key _ (s.1.set n.toNat (s.2.length : Int), s.2 ++ [n]) (fun a ha => arcs_in' hf ha) (h.snoc h0 h1 h2) (hd.snoc h0 h1 h2)
/-- The reference's canonical form is the program's. -/
theorem from_canonical {f : List GNode} (hf : GoodF f) (hs : SrtF f) {root : Int} (h0 : 0 ≤ root) (h1 : root < f.length) : fromF f root = canonicalF f root := by
  have hn0 : NumOk f (List.replicate f.length (-1)) [] := ⟨by simp, fun j hj => by simp [List.getD_eq_getElem?_getD, List.getElem?_replicate, hj]⟩
  have hd0 : DOk f [] := ⟨by simp, fun x hx => by cases hx⟩
  obtain ⟨g1, g2⟩ := visitF_dfs hf hs f.length (List.replicate f.length (-1), []) root hn0 hd0 h0 h1 (by simp)
  have g1 : (travF f root).2 = dfs f f.length [] root := g1
  have g2 : NumOk f (travF f root).1 (travF f root).2 := g2
  have hc := (dfs_closed hf f.length [] root hd0 h0 h1 (by simp) (by simp)).2
  have ho := (dfs_ok hf f.length [] root hd0 h0 h1 (by simp)).1
  unfold fromF canonicalF
  rw [g1] at g2 ⊢
  generalize dfs f f.length [] root = o at *
  refine List.map_congr_left fun x hx => ?_
  unfold nodeF nodeD
  rw [sortedF_srt (srt_of hs x).1]
  refine congrArg _ (List.map_congr_left fun a ha => ?_)
  unfold renA renD idxZ
  have hin : a.2 ∈ o := by
    rcases hc x hx with hx' | hx'
    · cases hx'
    · exact hx' a ha
  have hr := arcs_in' hf ha
  have := g2.get a.2.toNat (by omega)
  rw [show ((a.2.toNat : Nat) : Int) = a.2 by omega] at this
  rw [this, if_pos hin, if_pos hin]
/-! The program's map of numbers -/
def mOf (o : List Int) : List (Int × Int) := (List.range o.length).map fun i => (o.getD i 0, (i : Int))
theorem mOf_snoc (o : List Int) (n : Int) : mOf (o ++ [n]) = mOf o ++ [(n, (o.length : Int))] := by
  unfold mOf
  rw [List.length_append, List.length_singleton, List.range_succ, List.map_append]
  congr 1
  · refine List.map_congr_left fun i hi => ?_
    have : i < o.length := List.mem_range.1 hi
    simp only [List.getD_eq_getElem?_getD]
    rw [List.getElem?_append_left this]
  · simp [List.getD_eq_getElem?_getD]
theorem mfind_app (k : Int) (a b : List (Int × Int)) : mfind T3 T3 k (a ++ b) = (mfind T3 T3 k a).or (mfind T3 T3 k b) := by
  induction a with
  | nil => rfl
  | cons x a ih =>
    simp only [List.cons_append, mfind]
    split
    · rfl
    · exact ih
theorem list_snoc_ind {α : Type} {p : List α → Prop} (h0 : p []) (h1 : ∀ l a, p l → p (l ++ [a])) (l : List α) : p l := by
  have : ∀ n (l : List α), l.length = n → p l := by
    intro n
    induction n with
    | zero => intro l hl; rw [List.length_eq_zero_iff.1 hl]; exact h0
    | succ n ih =>
      intro l hl
      have hne : l ≠ [] := by intro e; subst e; simp at hl
      rw [← List.dropLast_concat_getLast hne]
      exact h1 _ _ (ih _ (by simp [hl]))
  exact this _ l rfl
theorem mfind_mOf (o : List Int) (x : Int) : mfind T3 T3 x (mOf o) = if x ∈ o then some (o.idxOf x : Int) else none := by
  induction o using list_snoc_ind with
  | h0 => rfl
  | h1 o n ih =>
    rw [mOf_snoc, mfind_app, ih]
    by_cases hx : x ∈ o
    · rw [if_pos hx, if_pos (by simp [hx]), idxOf_mem hx]; rfl
    · rw [if_neg hx]
      by_cases hn : x = n
      · subst hn
        rw [if_pos (by simp), idxOf_new hx]
        simp [mfind, eqT]
      · rw [if_neg (by simp [hx, hn])]
        have : ((x == n) = true) ↔ False := by simp [hn]
        simp [mfind, eqT, hn]
theorem mput_none (k v : Int) (l : List (Int × Int)) (h : mfind T3 T3 k l = none) : mput T3 T3 k v l = l ++ [(k, v)] := by
  induction l with
  | nil => rfl
  | cons x l ih =>
    simp only [mfind] at h
    simp only [mput, List.cons_append]
    split at h
    · cases h
    · rename_i hne
      rw [if_neg hne, ih h]
theorem mput_mOf {o : List Int} {n : Int} (hn : n ∉ o) : mput T3 T3 n (o.length : Int) (mOf o) = mOf (o ++ [n]) := by
  rw [mput_none _ _ _ (by rw [mfind_mOf, if_neg hn]), mOf_snoc]
theorem idxZ_eq (o : List Int) (x : Int) : (mfind T3 T3 x (mOf o)).getD 0 = idxZ o x := by
  rw [mfind_mOf]
  unfold idxZ
  split <;> rfl
theorem isSome_mOf (o : List Int) (x : Int) : (mfind T3 T3 x (mOf o)).isSome = decide (x ∈ o) := by
  rw [mfind_mOf]
  split <;> simp [*]
end Go.Proofs.Ytfdkpbmofgkaoaa.Fw
