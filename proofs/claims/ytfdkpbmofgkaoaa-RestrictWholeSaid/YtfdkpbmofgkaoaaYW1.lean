/- The plain laws under RestrictWhole: the first paths lead to their nodes and are shorter than the nodes are many; all nodes of a canonical feature structure are come to. -/
import Derived.Test.YtfdkpbmofgkaoaaYP9
import Derived.Test.YtfdkpbmofgkaoaaYP7
set_option linter.unusedVariables false
set_option linter.unusedSimpArgs false
namespace Go.Proofs.Ytfdkpbmofgkaoaa.Fw
open Go
abbrev arcsAt (f : List GNode) (n : Int) : List (Int × Int) := (f.getD n.toNat (0, [])).2
def walkF (f : List GNode) : Int → List Int → Option Int
  | n, [] => some n
  | n, x :: r => if toF (arcsAt f n) x < 0 then none else walkF f (toF (arcsAt f n) x) r
theorem walkF_snoc (f : List GNode) : ∀ (p : List Int) (n m x : Int), walkF f n p = some m → walkF f n (p ++ [x]) = if toF (arcsAt f m) x < 0 then none else some (toF (arcsAt f m) x)
  | [], n, m, x, h => by
    simp only [walkF, Option.some.injEq] at h
    subst h
    rfl
  | y :: p, n, m, x, h => by
    simp only [walkF, List.cons_append] at h ⊢
    split at h
    · cases h
    · rename_i hc
      rw [if_neg hc]
      exact walkF_snoc f p _ m x h
theorem toF_arc {l : List (Int × Int)} (h : l.Pairwise (fun a b => a.1 < b.1)) {a : Int × Int} (ha : a ∈ l) : toF l a.1 = a.2 := by
  have keep : ∀ (l : List (Int × Int)) (t : Int), (∀ b ∈ l, ¬ b.1 = a.1) → l.foldl (fun t b => if b.1 = a.1 then b.2 else t) t = t := by
    intro l
    induction l with
    | nil => intro t _; rfl
    | cons b l ih =>
      intro t hl
      rw [List.foldl_cons, if_neg (hl b (by simp))]
      exact ih t (fun c hc => hl c (by simp [hc]))
  obtain ⟨l1, l2, rfl⟩ := List.append_of_mem ha
  rw [List.pairwise_append, List.pairwise_cons] at h
  obtain ⟨-, ⟨h2, -⟩, -⟩ := h
  unfold toF
  rw [List.foldl_append, List.foldl_cons, if_pos rfl]
  exact keep l2 _ (fun b hb e => by have := h2 b hb; omega)
/-- The search's paths lead where they ought to. -/
structure WI (f : List GNode) (s : Bfs) : Prop where
  walk : ∀ x ∈ s.2.2, walkF f 0 (s.1.getD x.toNat []) = some x
  len : ∀ p ∈ s.1, p.length < s.2.2.length
theorem bfsA_WI {f : List GNode} (hs : SrtF f) {s : Bfs} (h : BI f s) (hw : WI f s) {n : Int} (hn : n ∈ s.2.2) {a : Int × Int} (ha : a ∈ arcsAt f n) (h0 : 0 ≤ a.2) (h1 : a.2 < f.length) : WI f (bfsA n s a) := by
  obtain ⟨-, -, g3⟩ := bfsA_BI (n := n) h h0 h1
  have hl1 := h.ok.l1
  unfold bfsA at g3 ⊢
  split at g3
  · rename_i hc
    rw [if_pos hc]
    exact hw
  · rename_i hc
    rw [if_neg hc]
    have hto := toF_arc ((srtA_iff _).1 (srt_of hs n).1) ha
    refine ⟨fun x hx => ?_, fun p hp => ?_⟩
    · simp only at g3 hx ⊢
      by_cases hxo : x ∈ s.2.2
      · rw [g3 x hxo]
        exact hw.walk x hxo
      · have hxa : x = a.2 := by
          rcases List.mem_append.1 hx with hx | hx
          · exact absurd hx hxo
          · simpa using hx
        subst hxa
        rw [getD_set_self _ _ _ (by omega), walkF_snoc f _ 0 n a.1 (hw.walk n hn), hto, if_neg (by omega)]
    · simp only at hp ⊢
      rw [List.length_append, List.length_singleton]
      rcases List.mem_or_eq_of_mem_set hp with hp | rfl
      · have := hw.len p hp
        omega
      · rw [List.length_append, List.length_singleton]
        have h2 := h.ok.rng n hn
        have h3 : s.1.getD n.toNat [] ∈ s.1 := mem_of_take_succ s.1 [] (by omega)
        have := hw.len _ h3
        omega
theorem bfsF_WI {f : List GNode} (hf : GoodF f) (hs : SrtF f) {n : Int} : ∀ {l : List (Int × Int)} {s : Bfs}, (∀ a ∈ l, a ∈ arcsAt f n) → BI f s → WI f s → n ∈ s.2.2 →
    WI f (l.foldl (bfsA n) s) ∧ ∀ a ∈ l, a.2 ∈ (l.foldl (bfsA n) s).2.2
  | [], _, _, _, h, _ => ⟨h, fun a ha => by cases ha⟩
  | a :: l, s, hl, hb, h, hn => by
    have q := arcs_in hf (hl a (by simp))
    obtain ⟨g1, g2, _⟩ := bfsA_BI (n := n) hb q.1 q.2
    obtain ⟨i1, i2⟩ := bfsF_WI hf hs (n := n) (l := l) (fun b hb => hl b (by simp [hb])) g1 (bfsA_WI hs hb h hn (hl a (by simp)) q.1 q.2) (g2.subset hn)
    obtain ⟨_, j2, _⟩ := bfsF_BI (n := n) (l := l) (fun b hb => arcs_in hf (hl b (by simp [hb]))) g1
    refine ⟨i1, fun b hb' => ?_⟩
    rcases List.mem_cons.1 hb' with rfl | hb'
    · refine j2.subset ?_
      unfold bfsA
      split
      · rename_i hc
        have := (hb.mem b.2.toNat (by omega)).1 hc
        rwa [show ((b.2.toNat : Nat) : Int) = b.2 by omega] at this
      · simp
    · exact i2 b hb'
theorem bst_WI {f : List GNode} (hf : GoodF f) (hs : SrtF f) (h0 : 0 < f.length) : ∀ i, (∀ j, j < i → j < (bst f j).2.2.length) → WI f (bst f i) ∧ (0 : Int) ∈ (bst f i).2.2 ∧
    ∀ j, j < i → ∀ a ∈ arcsAt f ((bst f i).2.2.getD j 0), a.2 ∈ (bst f i).2.2
  | 0, _ => by
    refine ⟨⟨fun x hx => ?_, fun p hp => ?_⟩, by simp [bst, bfs0], fun j hj => by omega⟩
    · have : x = 0 := by simpa [bst, bfs0] using hx
      subst this
      simp only [bst, bfs0, List.getD_eq_getElem?_getD, List.getElem?_replicate]
      split <;> rfl
    · have : p = [] := List.eq_of_mem_replicate (by simpa [bst, bfs0] using hp : p ∈ List.replicate f.length [])
      subst this
      simp [bst, bfs0]
  | i + 1, hj => by
    obtain ⟨g1, g2, g3⟩ := bst_WI hf hs h0 i (fun j hji => hj j (by omega))
    have hb := bst_BI hf h0 i
    have hi := hj i (by omega)
    have hn : (bst f i).2.2.getD i 0 ∈ (bst f i).2.2 := mem_of_take_succ _ 0 hi
    obtain ⟨k1, k2⟩ := bfsF_WI hf hs (n := (bst f i).2.2.getD i 0) (l := arcsAt f ((bst f i).2.2.getD i 0)) (fun a ha => ha) hb g1 hn
    obtain ⟨_, j2, _⟩ := bfsF_BI (n := (bst f i).2.2.getD i 0) (l := arcsAt f ((bst f i).2.2.getD i 0)) (fun a ha => arcs_in hf ha) hb
    have e : bst f (i + 1) = (arcsAt f ((bst f i).2.2.getD i 0)).foldl (bfsA ((bst f i).2.2.getD i 0)) (bst f i) := rfl
    rw [e]
    refine ⟨k1, j2.subset g2, fun j hji a ha => ?_⟩
    have hjl : j < (bst f i).2.2.length := by omega
    have hget : ((arcsAt f ((bst f i).2.2.getD i 0)).foldl (bfsA ((bst f i).2.2.getD i 0)) (bst f i)).2.2.getD j 0 = (bst f i).2.2.getD j 0 := by
      obtain ⟨t, ht⟩ := j2
      rw [← ht]
      simp only [List.getD_eq_getElem?_getD]
      rw [List.getElem?_append_left hjl]
    rw [hget] at ha
    by_cases hji' : j = i
    · subst hji'
      exact k2 a ha
    · exact j2.subset (g3 j (by omega) a ha)
/-- The search's end. -/
theorem first_law {f : List GNode} (hf : GoodF f) (hs : SrtF f) (h0 : 0 < f.length) : ∃ C : List Int, (0 : Int) ∈ C ∧ (∀ x ∈ C, ∀ a ∈ arcsAt f x, a.2 ∈ C) ∧ (∀ x ∈ C, walkF f 0 ((firstF f).getD x.toNat []) = some x) ∧ ∀ p ∈ firstF f, p.length < f.length := by
  obtain ⟨n, hj, hn⟩ : ∃ n, (∀ j, j < n → j < (bst f j).2.2.length) ∧ (bst f n).2.2.length ≤ n := by
    have key : ∀ m n, m + n = f.length + 1 → (∀ j, j < n → j < (bst f j).2.2.length) → ∃ n, (∀ j, j < n → j < (bst f j).2.2.length) ∧ (bst f n).2.2.length ≤ n := by
      intro m
      induction m with
      | zero =>
        intro n hn hj
        have h1 := hj f.length (by omega)
        have h2 := (bst_BI hf h0 f.length).ok.cnt
        omega
      | succ m ih =>
        intro n hn hj
        by_cases h : (bst f n).2.2.length ≤ n
        · exact ⟨n, hj, h⟩
        · exact ih (n + 1) (by omega) fun j hj' => (Nat.lt_succ_iff_lt_or_eq.1 hj').elim (hj j) (fun e => by rw [e]; omega)
    exact key (f.length + 1) 0 (by omega) (fun j hj => by omega)
  have e : firstF f = (bst f n).1 := by
    unfold firstF
    rw [← bst_bfs hf h0 n hj, bfs_end hn]
  obtain ⟨g1, g2, g3⟩ := bst_WI hf hs h0 n hj
  have hc := (bst_BI hf h0 n).ok.cnt
  refine ⟨(bst f n).2.2, g2, fun x hx a ha => ?_, fun x hx => by rw [e]; exact g1.walk x hx, fun p hp => ?_⟩
  · obtain ⟨j, hj', rfl⟩ := List.mem_iff_getElem.1 hx
    have : (bst f n).2.2[j] = (bst f n).2.2.getD j 0 := by simp [List.getD_eq_getElem?_getD, hj']
    rw [this] at ha
    exact g3 j (by omega) a ha
  · rw [e] at hp
    have := g1.len p hp
    omega
theorem dfs_in {f : List GNode} {C : List Int} (hC : ∀ x ∈ C, ∀ a ∈ arcsAt f x, a.2 ∈ C) : ∀ (k : Nat) (o : List Int) (n : Int), (∀ x ∈ o, x ∈ C) → n ∈ C → ∀ x ∈ dfs f k o n, x ∈ C
  | 0, o, n, ho, _ => ho
  | k + 1, o, n, ho, hn => by
    have key : ∀ (l : List (Int × Int)) (t : List Int), (∀ a ∈ l, a.2 ∈ C) → (∀ x ∈ t, x ∈ C) → ∀ x ∈ l.foldl (stepD f k) t, x ∈ C := by
      intro l
      induction l with
      | nil => exact fun t _ ht => ht
      | cons a l ih =>
        intro t hl ht
        rw [List.foldl_cons]
        refine ih _ (fun b hb => hl b (by simp [hb])) ?_
        unfold stepD
        split
        · exact ht
        · exact dfs_in hC k t a.2 ht (hl a (by simp))
    rw [dfs_succ]
    refine key _ _ (fun a ha => hC n hn a ha) (fun x hx => ?_)
    rcases List.mem_append.1 hx with hx | hx
    · exact ho x hx
    · have : x = n := by simpa using hx
      rw [this]; exact hn
/-- A canonical feature structure is its own canonical form. -/
theorem canonical_fix {f : List GNode} (h : canonicalB f = true) : canonicalF f 0 = f := by
  obtain ⟨hg, hs, h0, _⟩ := canonical_good h
  unfold canonicalB at h
  simp only [Bool.and_eq_true, beq_iff_eq] at h
  obtain ⟨_, hc, he⟩ := h
  have hcf : (canonF f).1 = fromF f 0 := by
    unfold canonF at hc ⊢
    split at hc
    · rename_i hh; rw [if_pos hh]
    · rename_i hh; exact absurd hc hh
  rw [hcf] at he
  rw [← from_canonical hg hs (by omega) (by omega)]
  exact compareF_eq he
/-- All its nodes are come to. -/
theorem canonical_all {f : List GNode} (h : canonicalB f = true) {i : Nat} (hi : i < f.length) : walkF f 0 ((firstF f).getD i []) = some (i : Int) := by
  obtain ⟨hg, hs, h0, _⟩ := canonical_good h
  obtain ⟨C, c1, c2, c3, _⟩ := first_law hg hs h0
  have hfix := canonical_fix h
  have hd0 : DOk f [] := ⟨by simp, fun x hx => by cases hx⟩
  have hd := (dfs_ok hg f.length [] 0 hd0 (by omega) (by omega) (by simp)).1
  have hin := dfs_in c2 f.length [] 0 (fun x hx => by cases hx) c1
  have hlen : (dfs f f.length [] 0).length = f.length := by
    have := congrArg List.length hfix
    simpa [canonicalF] using this
  generalize dfs f f.length [] 0 = o at hd hin hlen
  have hmem : (i : Int) ∈ o := by
    refine Classical.byContradiction fun hn => ?_
    have hnd := hd.snoc (n := (i : Int)) (by omega) (by omega) hn
    have := hnd.len
    rw [List.length_append, List.length_singleton] at this
    omega
  have := c3 _ (hin _ hmem)
  simpa using this
/-! The parts -/
theorem partL_self {acc : Int → Int × Int → Bool} {f : List GNode} (h : ∀ i, i < f.length → ∀ a ∈ (f.getD i (0, [])).2, acc (i : Int) a = true) : partL acc f f.length = f := by
  apply List.ext_getElem
  · exact partL_len _ _ _
  · intro i h1 h2
    have e : f.getD i (0, []) = f[i] := by simp [List.getD_eq_getElem?_getD, h2]
    have := h i h2
    simp only [partL, List.getElem_map, List.getElem_range, partN]
    rw [List.filter_eq_self.2 this, e]
theorem partF_self {acc : Int → Int × Int → Bool} {f : List GNode} (hc : canonicalB f = true) (h : ∀ i, i < f.length → ∀ a ∈ (f.getD i (0, [])).2, acc (i : Int) a = true) : partF acc f = f := by
  unfold partF
  rw [partL_self h]
  exact canonical_fix hc
theorem pdrop_nil {f : List GNode} (hc : canonicalB f = true) : pdropF f [] = f := partF_self hc (fun i _ a _ => rfl)
theorem pdepth_all {f : List GNode} (hc : canonicalB f = true) : pdepthF f (f.length : Int) = f := by
  obtain ⟨hg, hs, h0, _⟩ := canonical_good hc
  obtain ⟨C, _, _, _, c4⟩ := first_law hg hs h0
  refine partF_self hc (fun i hi a _ => ?_)
  have h1 : i < (firstF f).length := by rw [firstF_len hg h0]; exact hi
  have := c4 _ (mem_of_take_succ (firstF f) [] h1)
  simp only [accT, Int.toNat_natCast, decide_eq_true_eq]
  omega
theorem pkeep_nil {f : List GNode} (h0 : 0 < f.length) : pkeepF f [] = [((f.getD 0 (0, [])).1, [])] := by
  unfold pkeepF partF keptF
  have hl : partL (accK (List.foldl (fun m p => kpF f m 0 p) [] [])) f f.length = f.map fun x => (x.1, []) := by
    apply List.ext_getElem
    · rw [partL_len, List.length_map]
    · intro i h1 h2
      have h2' : i < f.length := by simpa using h2
      have e : f.getD i (0, []) = f[i] := by simp [List.getD_eq_getElem?_getD, h2']
      simp only [partL, List.getElem_map, List.getElem_range, partN]
      rw [e]
      congr 1
      exact List.filter_eq_nil_iff.2 fun a _ => by simp [accK, mfind]
  rw [hl]
  unfold canonicalF
  have hd : dfs (f.map fun x => (x.1, [])) (f.map fun x => ((x.1, []) : GNode)).length [] 0 = [0] := by
    obtain ⟨k, hk⟩ : ∃ k, (f.map fun x => ((x.1, []) : GNode)).length = k + 1 := ⟨f.length - 1, by rw [List.length_map]; omega⟩
    rw [hk, dfs_succ]
    have : ((f.map fun x => ((x.1, []) : GNode)).getD (0 : Int).toNat (0, [])).2 = [] := by
      simp [List.getD_eq_getElem?_getD, List.getElem?_map]
      cases f[0]? <;> rfl
    rw [this]
    rfl
  rw [hd]
  simp [nodeD, List.getD_eq_getElem?_getD, List.getElem?_map, h0]
/-! Keep all paths -/
theorem eqT93 (x k : Int × Int) : (eqT T93 x k = true) ↔ x = k := by
  simp only [eqT, Bool.and_eq_true, beq_iff_eq]
  exact ⟨fun h => Prod.ext h.1 h.2, fun h => by rw [h]; exact ⟨rfl, rfl⟩⟩
theorem kfind_mput (x k : Int × Int) (m : KMap) : (mfind T93 .bool x (mput T93 .bool k true m)).getD false = (decide (x = k) || (mfind T93 .bool x m).getD false) := by
  induction m with
  | nil =>
    by_cases h : x = k
    · simp only [mput, mfind]
      rw [if_pos ((eqT93 x k).2 h)]
      simp [h]
    · have h' : ¬ eqT T93 x k = true := fun e => h ((eqT93 x k).1 e)
      simp only [mput, mfind]
      rw [if_neg h']
      simp [h]
  | cons y m ih =>
    simp only [mput]
    by_cases hy : eqT T93 k y.1 = true
    · rw [if_pos hy]
      have hky := (eqT93 k y.1).1 hy
      simp only [mfind]
      by_cases h : x = k
      · rw [if_pos ((eqT93 x k).2 h)]
        simp [h]
      · rw [if_neg (fun e => h ((eqT93 x k).1 e)), if_neg (fun e => h (by rw [hky]; exact (eqT93 x y.1).1 e))]
        simp [h]
    · rw [if_neg hy]
      simp only [mfind]
      by_cases hx : eqT T93 x y.1 = true
      · rw [if_pos hx, if_pos hx]
        have hxy := (eqT93 x y.1).1 hx
        have : ¬ x = k := fun e => hy ((eqT93 k y.1).2 (by rw [← e]; exact hxy))
        simp [this]
      · rw [if_neg hx, if_neg hx, ih]
abbrev has (m : KMap) (k : Int × Int) : Prop := (mfind T93 .bool k m).getD false = true
theorem kpF_mono {f : List GNode} {k : Int × Int} : ∀ (p : List Int) (m : KMap) (n : Int), has m k → has (kpF f m n p) k
  | [], _, _, h => h
  | x :: r, m, n, h => by
    simp only [kpF]
    split
    · exact h
    · refine kpF_mono r _ _ ?_
      unfold has
      rw [kfind_mput, h, Bool.or_true]
theorem kpF_last {f : List GNode} {x : Int} {i : Int} (hx : 0 ≤ toF (arcsAt f i) x) : ∀ (p : List Int) (m : KMap) (n : Int), walkF f n p = some i → has (kpF f m n (p ++ [x])) (i, x)
  | [], m, n, h => by
    simp only [walkF, Option.some.injEq] at h
    subst h
    simp only [List.nil_append, kpF]
    rw [if_neg (fun e => by have hx' : 0 ≤ toF (f.getD n.toNat (0, [])).2 x := hx; omega)]
    unfold has
    rw [kfind_mput]
    simp
  | y :: p, m, n, h => by
    simp only [walkF, List.cons_append, kpF] at h ⊢
    split at h
    · cases h
    · rename_i hc
      rw [if_neg hc]
      exact kpF_last hx p _ _ h
theorem kept_has {f : List GNode} {k : Int × Int} : ∀ (ps : List (List Int)) (m : KMap), (has m k ∨ ∃ p ∈ ps, ∀ m, has (kpF f m 0 p) k) → has (ps.foldl (fun m p => kpF f m 0 p) m) k
  | [], m, h => by
    rcases h with h | ⟨p, hp, _⟩
    · exact h
    · cases hp
  | p :: ps, m, h => by
    rw [List.foldl_cons]
    refine kept_has ps _ ?_
    rcases h with h | ⟨q, hq, hk⟩
    · exact .inl (kpF_mono p m 0 h)
    · rcases List.mem_cons.1 hq with rfl | hq
      · exact .inl (hk m)
      · exact .inr ⟨q, hq, hk⟩
def pathsN (f : List GNode) (i : Nat) : List (List Int) := (f.getD i (0, [])).2.map fun a => (firstF f).getD i [] ++ [a.1]
def pathsA (f : List GNode) (i : Nat) : List (List Int) := (List.range i).flatMap (pathsN f)
theorem pathsA_succ (f : List GNode) (i : Nat) : pathsA f (i + 1) = pathsA f i ++ pathsN f i := by simp [pathsA, List.range_succ]
theorem pkeep_all {f : List GNode} (hc : canonicalB f = true) : pkeepF f (pathsA f f.length) = f := by
  obtain ⟨hg, hs, h0, _⟩ := canonical_good hc
  refine partF_self hc (fun i hi a ha => ?_)
  have hto := toF_arc ((srtA_iff _).1 (srt_of hs (i : Int)).1) (a := a) (by simpa using ha)
  have hin := arcs_in hg (n := (i : Int)) (a := a) (by simpa using ha)
  refine kept_has _ _ (.inr ⟨(firstF f).getD i [] ++ [a.1], ?_, fun m => kpF_last (by show 0 ≤ toF (arcsAt f (i : Int)) a.1; rw [hto]; exact hin.1) _ m 0 (canonical_all hc hi)⟩)
  exact List.mem_flatMap.2 ⟨i, List.mem_range.2 hi, List.mem_map.2 ⟨a, ha, rfl⟩⟩
end Go.Proofs.Ytfdkpbmofgkaoaa.Fw
