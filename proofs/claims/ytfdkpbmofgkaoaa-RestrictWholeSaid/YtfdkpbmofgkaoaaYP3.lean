/- Functions of path: Clone, firsts, First. -/
import Derived.Test.YtfdkpbmofgkaoaaZJ
import Derived.Test.YtfdkpbmofgkaoaaYR08a
import Derived.Test.YtfdkpbmofgkaoaaYG4
set_option linter.unusedVariables false
set_option linter.unusedSimpArgs false
namespace Go.Proofs.Ytfdkpbmofgkaoaa.Fw
open Go
def cloneS : Spec := { ins := [T41], pre := fun (l, _) => List.length l ≤ 100000, out := fun (l, _) => [.own 3 T3 l] }
attribute [local irreducible] Ev
attribute [local go_sem] cx_tb entEnv List.toList_toArray evSeq evG evK vcK guardOf guardT guardB_true guardB_false step1 step0 stepQ takesIn namesParts namesOf namesStore frzAll frz frz1 fixN frzEnv frzObjs drpEnv drpObjs AV.frz AV.frzs AV.drp AV.drps AV.names AV.namess aq qmap qPick qAlloc qBox qBuild qBuildSlice qBuildSlice2 qLoad qLoadB qLoadB2 qLoadE qLoadE2 qLoadE3 qFieldI qOff qPart qField qIndexA qIndex qIndexS qNil qBin qUn qConv qMake qMake2 qSlice qExtract qLen qAppend qAppend2 qAppend3 qMin qMax qCall qCall2 qCall3 qBuiltin qCallee aloud lStoreD lStore lStoreB lStoreB2 lStoreE lStoreE3 lStoreE4 lCallee lBuiltin lAppend lAppend2 lAppend3 lAppend4 opv lk constAV optAV sliceQ bin binI binS zf1 zfs pfs AV.cells nthOff loadB offB storeB notAg fitsT fitsO Ty.cell1 fieldOk partsT partsAg argsT asT asT1 asTs pairO srT castTo_self getF setF getP setP offP offF fldT rvAV rvObj rvAVs rvObjs resAV RV.flat Ty.flat Ty.size St.add upd del fresh Value.oneCell' refZ Ty.dflt sub_all sub_one sub_take sub_end List.take_succ_cons List.take_zero List.length_cons cast0 castS sub_app take_app sub_app1 take_app1 take_one1 natC zero_le_natC i64_min i64_max u64_min u64_max u8_min u8_max inK_i64 inK_u64 inK_u8 Option.map_some Option.map_none Option.bind_some Option.getD_some Option.getD_none Option.isNone_none Option.isNone_some Bool.and_true Bool.true_and Bool.and_false Bool.false_and Bool.not_true Bool.not_false if_true if_false List.length_cons List.length_nil and_true true_and and_self List.all_cons List.all_nil List.append_nil List.nil_append List.cons_append List.getElem?_cons_zero List.getElem?_cons_succ List.getElem?_nil List.map_cons List.map_nil List.set_cons_zero List.set_cons_succ List.isEmpty_nil List.isEmpty_cons decide_true decide_false beq_self_eq_true bne_self_eq_false Nat.zero_add Nat.add_zero Nat.sub_zero Int.toNat_natCast Int.toNat_zero Int.toNat_one List.take_length List.length_append List.length_singleton true_or or_true or_self false_or or_false Ty.agg.injEq Ty.slice.injEq Ty.prod.injEq Ty.int.injEq Option.some.injEq beq_iff_eq evM evMG evMQ opM isPick viewE viewS viewG opTs opTmp consE guardM guardM1 guardM2 sideM sideM2 pickM pickM2 sufB chEq memB dstOf Op.operands Call.operands List.filterMap_cons List.filterMap_nil List.append_eq Bool.cond_false_right Bool.cond_true_left cond_true cond_false implies_true decide_eq_true_eq beq_true beq_false Bool.or_true Bool.or_false Bool.true_or Bool.false_or Option.isSome_some fieldV namesAg namesAgs capNs qClo qClo2 qMakeMap qMakeMap2 qMakeMap3 qLook qLook2 qLook3 qLook4 keyT keyP eqT inB lMapUp lMapUp2 lMapUp3 namesMap argEnv cm_tb List.drop_zero pruneR prune rem1 afterM addDst fgtEnv AV.fgt AV.fgts Obj.fgt restObjs handed memB calleeOf opvs matchArgs matchArg List.any_cons List.any_nil evF evFO evFQ evFK addQ frOk qs List.flatMap_cons List.flatMap_nil List.cons_append tn appN fgtEN List.take_succ_cons List.drop_succ_cons isYl parEnv rangeSt cY_tb marked_tb renOk renIn matchObjs matchEnv matchE matchAV matchAVs matchF matchO
attribute [local go_sem] ty1 ty2 ty3 ty4 ty5 ty9 ty12 ty21 ty22 ty23 ty24 ty25 ty27 ty28 ty29 ty30 ty31 ty32 ty33 ty35 ty36 ty37 ty38 ty39 ty41 ty43 ty44 ty45 ty46 ty47 ty48 ty49 ty50 ty51 ty52 ty53 ty54 ty55 ty56 ty57 ty58 ty59 ty60 ty61 ty62 ty64 ty65 ty66 ty67 ty68 ty69 ty70 ty71 ty72 ty73 ty74 ty75 ty76 ty77 ty79 ty80 ty81 ty83 ty85 ty86 ty87 ty88 ty89 ty90 ty91 ty92 ty93 ty94 ty95 ty96 ty98 ty99 ty101 ty102 ty103 ty104 ty105 ty106 ty107 ty108 ty109 ty111 ty112 ty113 ty114 ty115 ty116 ty117 ty118 ty121 ty122 ty123 ty124 ty125 ty126 ty127 ty128 ty129 ty130 ty131 ty132 ty134 ty135 ty136 ty137 ty138 ty139 ty140 ty141 ty142 ty143 ty145 ty146 ty147 ty148 ty149 ty150 ty151 ty152 ty153 ty154 ty155 ty156 ty157 ty158 ty159 ty160 ty161 ty162 ty163 ty164 ty165 ty167 ty168 ty169 ty170 ty171 ty172 ty173 ty174 ty175 ty176 ty177 ty178 ty179 ty180 ty181 ty182 ty183 ty184 ty185 ty186 ty187 ty188 ty189 ty190 ty191 ty192 ty193 ty194 ty195 ty196 ty197 ty199 ty200 ty201 ty202 ty203 ty204 ty205 ty206 ty207 ty208 ty209 ty210 ty211 ty212 ty214 ty215 ty221 ty224 ty225
set_option maxRecDepth 100000
set_option maxHeartbeats 4000000
theorem clone_ok : FnOk Try.prog 95 cloneS := by
  refine fn_ok Try.func95 (by kernel_rfl) rfl Try.ntmps95 (by decide) (by kernel_rfl) (tyTab_ok []) fns_nil ?_
  rintro w0 O0 ⟨l, u⟩ hc - hl
  have hl : List.length l ≤ 100000 := hl
  simp only [cloneS, entEnv]
  repeat' (first | exact trivial | refine ev_seq ?_ | refine ev_skip ?_ | refine ev_ret ?_ | refine ev_exit ?_ | refine ev_block ?_ | refine ev_out_seq ?_ | refine ev_exit_seq ?_ | refine ev_ret_seq ?_ | refine ev_out_blk ?_ | refine ev_ret_blk ?_ | refine ev_exit_eq ?_ | refine ev_exit_ne (by decide) ?_ | refine ev_exit_inv ?_ | refine ev_ret_inv ?_ | refine ev_out_inv ?_ | refine rP [0, 2, 4] hc ?_ ?_ | refine rA [0, 2, 4] hc ?_ ?_ | refine rD [0, 2, 4] hc ?_ ?_ | refine rT [0, 2, 4] 1 hc ?_ ?_ | refine rT [0, 2, 4] 2 hc ?_ ?_ | refine rT [0, 2, 4] 3 hc ?_ ?_ | (refine rC (fun hcond => ?_) (fun hcond => ?_) <;> try (cases hcond; done)))
  refine cP 1 hc ?_ ?_
  · trivial
  · refine evL_isnil hc false rfl rfl ?_
    intro b hb
    refine rL [0, 4] hc ?_ ?_
    · trivial
    · repeat' (first | exact trivial | refine ev_seq ?_ | refine ev_skip ?_ | refine ev_ret ?_ | refine ev_exit ?_ | refine ev_block ?_ | refine ev_out_seq ?_ | refine ev_exit_seq ?_ | refine ev_ret_seq ?_ | refine ev_out_blk ?_ | refine ev_ret_blk ?_ | refine ev_exit_eq ?_ | refine ev_exit_ne (by decide) ?_ | refine ev_exit_inv ?_ | refine ev_ret_inv ?_ | refine ev_out_inv ?_ | refine rP [0, 2, 4] hc ?_ ?_ | refine rA [0, 2, 4] hc ?_ ?_ | refine rD [0, 2, 4] hc ?_ ?_ | refine rT [0, 2, 4] 1 hc ?_ ?_ | refine rT [0, 2, 4] 2 hc ?_ ?_ | refine rT [0, 2, 4] 3 hc ?_ ?_ | (refine rC (fun hcond => ?_) (fun hcond => ?_) <;> try (cases hcond; done)))
      · have hl0 : l = [] := hb hcond
        subst hl0
        refine Ev.ent (σ' := ⟨[(2, .sr 5 T3 0 0)], [(5, .arr 3 T3 [])]⟩) ?_ (ent_match [(5, .nil)] rfl rfl ?_ ?_)
        · exact ev_fin_own hc (.inl rfl) (rv := .tmp 2) rfl (by simp only [resIs, resV, ownOf, go_sem, Nat.reduceEqDiff, reduceCtorEq, Nat.reduceAdd, Nat.reduceSub, Nat.reduceMul, Nat.reduceLeDiff, Nat.reduceLT, Int.reduceLE, Int.reduceToNat, Int.reduceNeg, ↓reduceIte])
        · simp only [go_sem, Nat.reduceEqDiff, reduceCtorEq, Nat.reduceAdd, Nat.reduceSub, Nat.reduceMul, Nat.reduceLeDiff, Nat.reduceLT, Int.reduceLE, Int.reduceToNat, Int.reduceNeg, ↓reduceIte]
        · simp only [go_sem, Nat.reduceEqDiff, reduceCtorEq, Nat.reduceAdd, Nat.reduceSub, Nat.reduceMul, Nat.reduceLeDiff, Nat.reduceLT, Int.reduceLE, Int.reduceToNat, Int.reduceNeg, ↓reduceIte]
      · simp only [maxN]; omega
      · exact ev_fin_own hc (.inl rfl) (rv := .tmp 2) rfl (by simp only [resIs, resV, ownOf, go_sem, Nat.reduceEqDiff, reduceCtorEq, Nat.reduceAdd, Nat.reduceSub, Nat.reduceMul, Nat.reduceLeDiff, Nat.reduceLT, Int.reduceLE, Int.reduceToNat, Int.reduceNeg, ↓reduceIte])
/-! The plain law -/
def bst (f : List GNode) : Nat → Bfs
  | 0 => bfs0 f.length
  | i + 1 => bfsN f (bst f i) ((bst f i).2.2.getD i 0)
def nodeI (f : List GNode) (i : Nat) : Int := (bst f i).2.2.getD i 0
def pathI (f : List GNode) (i : Nat) : List Int := (bst f i).1.getD (nodeI f i).toNat []
def coll (f : List GNode) : Nat → List (List Int)
  | 0 => List.replicate f.length []
  | i + 1 => (coll f i).set (nodeI f i).toNat (pathI f i)
structure BI (f : List GNode) (s : Bfs) : Prop where
  ok : BOk f s
  mem : ∀ x, x < f.length → (s.2.1.getD x false = true ↔ (x : Int) ∈ s.2.2)
  emp : ∀ x : Nat, (x : Int) ∉ s.2.2 → s.1.getD x [] = []
theorem getD_set_ne {α : Type} (l : List α) (d v : α) {i j : Nat} (h : i ≠ j) : (l.set i v).getD j d = l.getD j d := by
  simp only [List.getD_eq_getElem?_getD]; rw [List.getElem?_set_ne h]
theorem getD_set_self {α : Type} (l : List α) (d v : α) {i : Nat} (h : i < l.length) : (l.set i v).getD i d = v := by
  simp only [List.getD_eq_getElem?_getD]; rw [List.getElem?_set_self h]; rfl
theorem bfsA_BI {f : List GNode} {s : Bfs} (h : BI f s) {n : Int} {a : Int × Int} (h0 : 0 ≤ a.2) (h1 : a.2 < f.length) :
    BI f (bfsA n s a) ∧ s.2.2 <+: (bfsA n s a).2.2 ∧ ∀ x ∈ s.2.2, (bfsA n s a).1.getD x.toNat [] = s.1.getD x.toNat [] := by
  have hok := bfsA_ok (n := n) h.ok h0 h1
  have hl1 := h.ok.l1
  have hl2 := h.ok.l2
  unfold bfsA at hok ⊢
  split at hok
  · rename_i hc
    rw [if_pos hc]
    exact ⟨h, List.prefix_refl _, fun _ _ => rfl⟩
  · rename_i hc
    rw [if_neg hc]
    have hna : a.2 ∉ s.2.2 := fun hm => hc ((h.mem a.2.toNat (by omega)).2 (by rw [show ((a.2.toNat : Nat) : Int) = a.2 by omega]; exact hm))
    refine ⟨⟨hok, fun x hx => ?_, fun x hx => ?_⟩, List.prefix_append _ _, fun x hx => ?_⟩
    · by_cases e : a.2.toNat = x
      · subst e
        simp only
        rw [getD_set_self _ _ _ (by omega)]
        constructor
        · intro _; rw [show ((a.2.toNat : Nat) : Int) = a.2 by omega]; simp
        · intro _; rfl
      · simp only
        rw [getD_set_ne _ _ _ e, h.mem x hx]
        have : ¬ (x : Int) = a.2 := by omega
        simp [this]
    · have hx1 : (x : Int) ∉ s.2.2 ∧ ¬ (x : Int) = a.2 := by simpa using hx
      simp only
      rw [getD_set_ne _ _ _ (by omega)]
      exact h.emp x hx1.1
    · have hr := h.ok.rng x hx
      have : ¬ a.2 = x := fun e => hna (by rw [e]; exact hx)
      simp only
      rw [getD_set_ne _ _ _ (by omega)]
theorem bfsF_BI {f : List GNode} {n : Int} : ∀ {l : List (Int × Int)} {s : Bfs}, (∀ a ∈ l, 0 ≤ a.2 ∧ a.2 < (f.length : Int)) → BI f s →
    BI f (l.foldl (bfsA n) s) ∧ s.2.2 <+: (l.foldl (bfsA n) s).2.2 ∧ ∀ x ∈ s.2.2, (l.foldl (bfsA n) s).1.getD x.toNat [] = s.1.getD x.toNat []
  | [], _, _, h => ⟨h, List.prefix_refl _, fun _ _ => rfl⟩
  | a :: l, s, hl, h => by
    have q := hl a (by simp)
    obtain ⟨g1, g2, g3⟩ := bfsA_BI (n := n) h q.1 q.2
    obtain ⟨i1, i2, i3⟩ := bfsF_BI (n := n) (l := l) (fun b hb => hl b (by simp [hb])) g1
    exact ⟨i1, g2.trans i2, fun x hx => (i3 x (g2.subset hx)).trans (g3 x hx)⟩
theorem bfs0_BI {f : List GNode} (h : 0 < f.length) : BI f (bfs0 f.length) := by
  refine ⟨bfs0_ok h, fun x hx => ?_, fun x _ => ?_⟩
  · by_cases e : x = 0
    · subst e
      simp only [bfs0]
      rw [getD_set_self _ _ _ (by simpa using h)]
      simp
    · simp only [bfs0]
      rw [getD_set_ne _ _ _ (fun e' => e e'.symm)]
      have : ¬ (x : Int) = 0 := by omega
      simp [List.getD_eq_getElem?_getD, List.getElem?_replicate, hx, this, e]
  · simp only [bfs0, List.getD_eq_getElem?_getD, List.getElem?_replicate]
    split <;> rfl
theorem bst_BI {f : List GNode} (hf : GoodF f) (h0 : 0 < f.length) : ∀ i, BI f (bst f i)
  | 0 => bfs0_BI h0
  | i + 1 => (bfsF_BI (fun a ha => arcs_in hf ha) (bst_BI hf h0 i)).1
theorem coll_len (f : List GNode) : ∀ i, (coll f i).length = f.length
  | 0 => by simp [coll]
  | i + 1 => by simp [coll, coll_len f i]
theorem coll_get {f : List GNode} (hf : GoodF f) (h0 : 0 < f.length) : ∀ i, (∀ j, j < i → j < (bst f j).2.2.length) → ∀ x : Nat, (coll f i).getD x [] = if (x : Int) ∈ (bst f i).2.2.take i then (bst f i).1.getD x [] else []
  | 0, _, x => by
    simp only [coll, List.take_zero, List.not_mem_nil, if_false, List.getD_eq_getElem?_getD, List.getElem?_replicate]
    split <;> rfl
  | i + 1, hj, x => by
    have ih := coll_get hf h0 i (fun j hji => hj j (by omega)) x
    have hi := hj i (by omega)
    have hbi := bst_BI hf h0 i
    obtain ⟨g1, g2, g3⟩ := bfsF_BI (n := nodeI f i) (l := (f.getD (nodeI f i).toNat (0, [])).2) (fun a ha => arcs_in hf ha) hbi
    have e1 : bst f (i + 1) = (f.getD (nodeI f i).toNat (0, [])).2.foldl (bfsA (nodeI f i)) (bst f i) := rfl
    rw [← e1] at g1 g2 g3
    have htk : (bst f (i + 1)).2.2.take (i + 1) = (bst f i).2.2.take i ++ [nodeI f i] := by
      obtain ⟨t, ht⟩ := g2
      rw [← ht, List.take_append_of_le_length (by omega), take_snoc _ (0 : Int) hi]
      rfl
    have hmem : nodeI f i ∈ (bst f i).2.2 := mem_of_take_succ _ 0 hi
    have hr := hbi.ok.rng _ hmem
    rw [htk]
    simp only [coll]
    by_cases e : (nodeI f i).toNat = x
    · subst e
      rw [getD_set_self _ _ _ (by rw [coll_len]; omega), show (((nodeI f i).toNat : Nat) : Int) = nodeI f i by omega, if_pos (by simp), g3 _ hmem]
      rfl
    · rw [getD_set_ne _ _ _ e, ih]
      have hne : ¬ (x : Int) = nodeI f i := by omega
      by_cases hx : (x : Int) ∈ (bst f i).2.2.take i
      · rw [if_pos hx, if_pos (by simp [hx])]
        have := g3 _ (List.mem_of_mem_take hx)
        rw [show ((x : Int)).toNat = x by omega] at this
        exact this.symm
      · rw [if_neg hx, if_neg (by simp [hx, hne])]
theorem bst_bfs {f : List GNode} (hf : GoodF f) (h0 : 0 < f.length) : ∀ i, (∀ j, j < i → j < (bst f j).2.2.length) → bfs f (f.length - i) i (bst f i) = bfs f f.length 0 (bfs0 f.length)
  | 0, _ => rfl
  | i + 1, hj => by
    rw [← bst_bfs hf h0 i (fun j hji => hj j (by omega))]
    have hb := (bst_BI hf h0 i).ok
    have := hb.cnt
    exact (bfs_next (hj i (by omega)) (by omega)).symm
/-- What the program collects is the reference's answer. -/
theorem coll_first {f : List GNode} (hf : GoodF f) (h0 : 0 < f.length) {n : Nat} (hj : ∀ j, j < n → j < (bst f j).2.2.length) (hn : (bst f n).2.2.length ≤ n) : coll f n = firstF f := by
  have e : firstF f = (bst f n).1 := by
    unfold firstF
    rw [← bst_bfs hf h0 n hj, bfs_end hn]
  have hb := bst_BI hf h0 n
  rw [e]
  apply List.ext_getElem
  · rw [coll_len, hb.ok.l1]
  · intro x h1 h2
    have hg := coll_get hf h0 n hj x
    rw [List.take_of_length_le hn] at hg
    have e1 : (coll f n).getD x [] = (coll f n)[x] := by simp [List.getD_eq_getElem?_getD, h1]
    have e2 : (bst f n).1.getD x [] = (bst f n).1[x] := by simp [List.getD_eq_getElem?_getD, h2]
    rw [← e1, ← e2, hg]
    split
    · rfl
    · rename_i hx; exact (hb.emp x hx).symm
end Go.Proofs.Ytfdkpbmofgkaoaa.Fw
