/- Functions of grammarlabref08: First. -/
import Derived.Test.YtfdkpbmofgkaoaaYR07f
set_option linter.unusedVariables false
set_option linter.unusedSimpArgs false
namespace Go.Proofs.Ytfdkpbmofgkaoaa.Fw
open Go
/-- The breadth-first search: the paths, what has been seen, the nodes in their order. -/
abbrev Bfs := List (List Int) × List Bool × List Int
def bfsA (n : Int) (s : Bfs) (a : Int × Int) : Bfs :=
  if s.2.1.getD a.2.toNat false = true then s else (s.1.set a.2.toNat (s.1.getD n.toNat [] ++ [a.1]), s.2.1.set a.2.toNat true, s.2.2 ++ [a.2])
def bfsN (f : List GNode) (s : Bfs) (n : Int) : Bfs := (f.getD n.toNat (0, [])).2.foldl (bfsA n) s
def bfs (f : List GNode) : Nat → Nat → Bfs → Bfs
  | 0, _, s => s
  | k + 1, i, s => if i < s.2.2.length then bfs f k (i + 1) (bfsN f s (s.2.2.getD i 0)) else s
def bfs0 (m : Nat) : Bfs := (List.replicate m [], (List.replicate m false).set 0 true, [0])
def firstF (f : List GNode) : List (List Int) := (bfs f f.length 0 (bfs0 f.length)).1
def unseen (l : List Bool) : Nat := l.countP (fun b => !b)
structure BOk (f : List GNode) (s : Bfs) : Prop where
  l1 : s.1.length = f.length
  l2 : s.2.1.length = f.length
  cnt : s.2.2.length + unseen s.2.1 ≤ f.length
  rng : ∀ x ∈ s.2.2, 0 ≤ x ∧ x < (f.length : Int)
  pl : ∀ p ∈ s.1, p.length ≤ s.2.2.length
theorem unseen_set {l : List Bool} {n : Nat} (hn : n < l.length) (h : l.getD n false = false) : unseen (l.set n true) + 1 = unseen l := by
  induction l generalizing n with
  | nil => simp at hn
  | cons x r ih =>
    cases n with
    | zero =>
      have hx : x = false := by simpa using h
      simp [unseen, List.countP_cons, hx]
    | succ n =>
      have h1 := ih (n := n) (by simpa using hn) (by simpa using h)
      simp only [unseen, List.set_cons_succ, List.countP_cons] at h1 ⊢
      omega
theorem getD_len {s : List (List Int)} {m : Nat} (h : ∀ p ∈ s, p.length ≤ m) (n : Nat) : (s.getD n []).length ≤ m := by
  by_cases hn : n < s.length
  · rw [List.getD_eq_getElem?_getD, List.getElem?_eq_getElem hn]
    exact h _ (List.getElem_mem hn)
  · rw [List.getD_eq_getElem?_getD, List.getElem?_eq_none (by omega)]
    simp
theorem bfsA_ok {f : List GNode} {s : Bfs} (h : BOk f s) {n : Int} {a : Int × Int} (h0 : 0 ≤ a.2) (h1 : a.2 < f.length) : BOk f (bfsA n s a) := by
  unfold bfsA
  split
  · exact h
  · rename_i hc
    have hc : s.2.1.getD a.2.toNat false = false := by simpa using hc
    have h2 := unseen_set (l := s.2.1) (n := a.2.toNat) (by rw [h.l2]; omega) hc
    have hcn := h.cnt
    refine ⟨by simpa using h.l1, by simpa using h.l2, ?_, fun x hx => ?_, fun p hp => ?_⟩
    · simp only [List.length_append, List.length_singleton]; omega
    · rcases List.mem_append.1 hx with hx | hx
      · exact h.rng x hx
      · have : x = a.2 := by simpa using hx
        subst this; exact ⟨h0, h1⟩
    · simp only [List.length_append, List.length_singleton]
      rcases List.mem_or_eq_of_mem_set hp with hp | rfl
      · exact Nat.le_succ_of_le (h.pl p hp)
      · have := getD_len h.pl n.toNat
        simp only [List.length_append, List.length_singleton]; omega
theorem bfsF_ok {f : List GNode} {n : Int} : ∀ {l : List (Int × Int)} {s : Bfs}, (∀ a ∈ l, 0 ≤ a.2 ∧ a.2 < (f.length : Int)) → BOk f s → BOk f (l.foldl (bfsA n) s)
  | [], _, _, h => h
  | a :: l, s, hl, h => by
    have := hl a (by simp)
    have h2 := bfsF_ok (n := n) (l := l) (fun b hb => hl b (by simp [hb])) (bfsA_ok (n := n) h this.1 this.2)
    exact h2
theorem arcs_in {f : List GNode} (hf : GoodF f) {n : Int} {a : Int × Int} (ha : a ∈ (f.getD n.toNat (0, [])).2) : 0 ≤ a.2 ∧ a.2 < f.length := by
  by_cases h : n.toNat < f.length
  · have hm : f.getD n.toNat (0, []) ∈ f := by
      rw [List.getD_eq_getElem?_getD, List.getElem?_eq_getElem h]; exact List.getElem_mem h
    exact (hf.2 _ hm).2 a ha
  · rw [List.getD_eq_getElem?_getD, List.getElem?_eq_none (by omega)] at ha
    simp at ha
theorem bfs0_ok {f : List GNode} (h : 0 < f.length) : BOk f (bfs0 f.length) := by
  refine ⟨by simp [bfs0], by simp [bfs0], ?_, fun x hx => ?_, fun p hp => ?_⟩
  · have h2 := unseen_set (l := List.replicate f.length false) (n := 0) (by simpa using h) (by simp [List.getD_eq_getElem?_getD, h])
    have h3 : unseen (List.replicate f.length false) = f.length := by simp [unseen, List.countP_replicate]
    simp only [bfs0, List.length_singleton]
    omega
  · have : x = 0 := by simpa [bfs0] using hx
    subst this; omega
  · have : p = [] := by
      have := List.eq_of_mem_replicate (by simpa [bfs0] using hp : p ∈ List.replicate f.length [])
      exact this
    subst this; simp
theorem bfsA_pre {n : Int} {s : Bfs} {a : Int × Int} {i : Nat} (h : i < s.2.2.length) : i < (bfsA n s a).2.2.length ∧ (bfsA n s a).2.2.getD i 0 = s.2.2.getD i 0 := by
  unfold bfsA
  split
  · exact ⟨h, rfl⟩
  · refine ⟨by simp only [List.length_append]; omega, ?_⟩
    simp only [List.getD_eq_getElem?_getD]
    rw [List.getElem?_append_left h]
theorem bfsF_pre {n : Int} {i : Nat} : ∀ {l : List (Int × Int)} {s : Bfs}, i < s.2.2.length → i < (l.foldl (bfsA n) s).2.2.length ∧ (l.foldl (bfsA n) s).2.2.getD i 0 = s.2.2.getD i 0
  | [], _, h => ⟨h, rfl⟩
  | a :: l, s, h => by
    have h1 := bfsA_pre (n := n) (a := a) h
    have h2 := bfsF_pre (n := n) (l := l) h1.1
    exact ⟨h2.1, h2.2.trans h1.2⟩
theorem bfs_end {f : List GNode} {k i : Nat} {s : Bfs} (h : s.2.2.length ≤ i) : bfs f k i s = s := by
  cases k with
  | zero => rfl
  | succ k => simp only [bfs]; rw [if_neg (by omega)]
theorem bfs_next {f : List GNode} {m i : Nat} {s : Bfs} (h : i < s.2.2.length) (hm : s.2.2.length ≤ m) : bfs f (m - i) i s = bfs f (m - (i + 1)) (i + 1) (bfsN f s (s.2.2.getD i 0)) := by
  obtain ⟨k, hk⟩ : ∃ k, m - i = k + 1 := ⟨m - i - 1, by omega⟩
  have e : m - (i + 1) = k := by omega
  rw [hk, e]
  simp only [bfs]
  rw [if_pos h]
def firstS : Spec := { ins := [T25], pre := fun (f, _) => GoodF f ∧ 0 < f.length, out := fun (f, _) => [.p T50 (firstF f)] }
attribute [local irreducible] Ev
attribute [local go_sem] cx_tb entEnv List.toList_toArray evSeq evG evK vcK guardOf guardT guardB_true guardB_false step1 step0 stepQ takesIn namesParts namesOf namesStore frzAll frz frz1 fixN frzEnv frzObjs drpEnv drpObjs AV.frz AV.frzs AV.drp AV.drps AV.names AV.namess aq qmap qPick qAlloc qBox qBuild qBuildSlice qBuildSlice2 qLoad qLoadB qLoadB2 qLoadE qLoadE2 qLoadE3 qFieldI qOff qPart qField qIndexA qIndex qIndexS qNil qBin qUn qConv qMake qMake2 qSlice qExtract qLen qAppend qAppend2 qAppend3 qMin qMax qCall qCall2 qCall3 qBuiltin qCallee aloud lStoreD lStore lStoreB lStoreB2 lStoreE lStoreE3 lStoreE4 lCallee lBuiltin lAppend lAppend2 lAppend3 lAppend4 opv lk constAV optAV sliceQ bin binI binS zf1 zfs pfs AV.cells nthOff loadB offB storeB notAg fitsT fitsO Ty.cell1 fieldOk partsT partsAg argsT asT asT1 asTs pairO srT castTo_self getF setF getP setP offP offF fldT rvAV rvObj rvAVs rvObjs resAV RV.flat Ty.flat Ty.size St.add upd del fresh Value.oneCell' refZ Ty.dflt sub_all sub_one sub_take sub_end List.take_succ_cons List.take_zero List.length_cons cast0 castS sub_app take_app sub_app1 take_app1 take_one1 natC zero_le_natC i64_min i64_max u64_min u64_max u8_min u8_max inK_i64 inK_u64 inK_u8 Option.map_some Option.map_none Option.bind_some Option.getD_some Option.getD_none Option.isNone_none Option.isNone_some Bool.and_true Bool.true_and Bool.and_false Bool.false_and Bool.not_true Bool.not_false if_true if_false List.length_cons List.length_nil and_true true_and and_self List.all_cons List.all_nil List.append_nil List.nil_append List.cons_append List.getElem?_cons_zero List.getElem?_cons_succ List.getElem?_nil List.map_cons List.map_nil List.set_cons_zero List.set_cons_succ List.isEmpty_nil List.isEmpty_cons decide_true decide_false beq_self_eq_true bne_self_eq_false Nat.zero_add Nat.add_zero Nat.sub_zero Int.toNat_natCast Int.toNat_zero Int.toNat_one List.take_length List.length_append List.length_singleton true_or or_true or_self false_or or_false Ty.agg.injEq Ty.slice.injEq Ty.prod.injEq Ty.int.injEq Option.some.injEq beq_iff_eq evM evMG evMQ opM isPick viewE viewS viewG opTs opTmp consE guardM guardM1 guardM2 sideM sideM2 pickM pickM2 sufB chEq memB dstOf Op.operands Call.operands List.filterMap_cons List.filterMap_nil List.append_eq Bool.cond_false_right Bool.cond_true_left cond_true cond_false implies_true decide_eq_true_eq beq_true beq_false Bool.or_true Bool.or_false Bool.true_or Bool.false_or Option.isSome_some fieldV namesAg namesAgs capNs qClo qClo2 qMakeMap qMakeMap2 qMakeMap3 qLook qLook2 qLook3 qLook4 keyT keyP eqT inB lMapUp lMapUp2 lMapUp3 namesMap argEnv cm_tb List.drop_zero pruneR prune rem1 afterM addDst fgtEnv AV.fgt AV.fgts Obj.fgt restObjs handed memB calleeOf opvs matchArgs matchArg List.any_cons List.any_nil evF evFO evFQ evFK addQ frOk qs List.flatMap_cons List.flatMap_nil List.cons_append tn appN fgtEN List.take_succ_cons List.drop_succ_cons isYl parEnv rangeSt cY_tb marked_tb renOk renIn matchObjs matchEnv matchE matchAV matchAVs matchF matchO
attribute [local go_sem] ty1 ty2 ty3 ty4 ty5 ty9 ty12 ty21 ty22 ty23 ty24 ty25 ty27 ty28 ty29 ty30 ty31 ty32 ty33 ty35 ty36 ty37 ty38 ty39 ty41 ty43 ty44 ty45 ty46 ty47 ty48 ty49 ty50 ty51 ty52 ty53 ty54 ty55 ty56 ty57 ty58 ty59 ty60 ty61 ty62 ty64 ty65 ty66 ty67 ty68 ty69 ty70 ty71 ty72 ty73 ty74 ty75 ty76 ty77 ty79 ty80 ty81 ty83 ty85 ty86 ty87 ty88 ty89 ty90 ty91 ty92 ty93 ty94 ty95 ty96 ty98 ty99 ty101 ty102 ty103 ty104 ty105 ty106 ty107 ty108 ty109 ty111 ty112 ty113 ty114 ty115 ty116 ty117 ty118 ty121 ty122 ty123 ty124 ty125 ty126 ty127 ty128 ty129 ty130 ty131 ty132 ty134 ty135 ty136 ty137 ty138 ty139 ty140 ty141 ty142 ty143 ty145 ty146 ty147 ty148 ty149 ty150 ty151 ty152 ty153 ty154 ty155 ty156 ty157 ty158 ty159 ty160 ty161 ty162 ty163 ty164 ty165 ty167 ty168 ty169 ty170 ty171 ty172 ty173 ty174 ty175 ty176 ty177 ty178 ty179 ty180 ty181 ty182 ty183 ty184 ty185 ty186 ty187 ty188 ty189 ty190 ty191 ty192 ty193 ty194 ty195 ty196 ty197 ty199 ty200 ty201 ty202 ty203 ty204 ty205 ty206 ty207 ty208 ty209 ty210 ty211 ty212 ty214 ty215 ty221 ty224 ty225
set_option maxRecDepth 100000
set_option maxHeartbeats 4000000
theorem first_ok : FnOk Try.prog 29 firstS := by
  refine fn_ok Try.func29 (by kernel_rfl) rfl Try.ntmps29 (by decide) (by kernel_rfl) (tyTab_ok []) fns_nil ?_
  rintro w0 O0 ⟨f, u⟩ hc - ⟨hs, h0⟩
  simp only [firstS, entEnv]
  have hfl : f.length ≤ 100000 := hs.1
  have hb0 := bfs0_ok h0
  repeat' (first | exact trivial | refine ev_seq ?_ | refine ev_skip ?_ | refine ev_ret ?_ | refine ev_exit ?_ | refine ev_block ?_ | refine ev_out_seq ?_ | refine ev_exit_seq ?_ | refine ev_ret_seq ?_ | refine ev_out_blk ?_ | refine ev_ret_blk ?_ | refine ev_exit_eq ?_ | refine ev_exit_ne (by decide) ?_ | refine ev_exit_inv ?_ | refine ev_ret_inv ?_ | refine ev_out_inv ?_ | refine rP [0, 1, 2, 3, 4, 5, 6, 7, 8, 23, 38, 49] hc ?_ ?_ | refine rA [0, 1, 2, 3, 4, 5, 6, 7, 8, 23, 38, 49] hc ?_ ?_ | refine rD [0, 1, 2, 3, 4, 5, 6, 7, 8, 23, 38, 49] hc ?_ ?_ | refine rT [0, 1, 2, 3, 4, 5, 6, 7, 8, 23, 38, 49] 1 hc ?_ ?_ | refine rT [0, 1, 2, 3, 4, 5, 6, 7, 8, 23, 38, 49] 2 hc ?_ ?_ | refine rT [0, 1, 2, 3, 4, 5, 6, 7, 8, 23, 38, 49] 3 hc ?_ ?_ | (refine rC (fun hcond => ?_) (fun hcond => ?_) <;> try (cases hcond; done)))
  · simp only [maxN]; omega
  · simp only [maxN]; omega
  · ((try dsimp only [Ty.den] at *) <;> (repeat' (first | apply And.intro | intro _)) <;> omega)
  · refine ev_loop (ι := {x : Nat × Bfs // BOk f x.2 ∧ x.1 ≤ x.2.2.2.length ∧ bfs f (f.length - x.1) x.1 x.2 = bfs f f.length 0 (bfs0 f.length)}) (fun x => ⟨[(1, .bp 1 [] 0), (3, .sr 12 T41 0 x.1.2.1.length), (4, .sr 16 T4 0 x.1.2.2.1.length), (5, .sr 19 T3 0 x.1.2.2.2.length), (6, .p (.int .i64) (x.1.1 : Int))], [(1, .box 25 true [.p T23 f]), (12, .arr 41 T41 x.1.2.1), (16, .arr 4 T4 x.1.2.2.1), (19, .arr 3 T3 x.1.2.2.2)]⟩) (fun x => f.length - x.1.1) ⟨(0, bfs0 f.length), hb0, by simp [bfs0], rfl⟩ (ent_match [(1, .nm 1), (12, .nm 12), (16, .nm 16), (19, .nm 19)] rfl rfl ?_ ?_) (fun x => ?_)
    · simp only [bfs0]
      simp only [go_sem, Nat.reduceEqDiff, reduceCtorEq, Nat.reduceAdd, Nat.reduceSub, Nat.reduceMul, Nat.reduceLeDiff, Nat.reduceLT, Int.reduceLE, Int.reduceToNat, Int.reduceNeg, ↓reduceIte]
    · simp only [bfs0, List.length_replicate, List.length_set]
      simp only [go_sem, Nat.reduceEqDiff, reduceCtorEq, Nat.reduceAdd, Nat.reduceSub, Nat.reduceMul, Nat.reduceLeDiff, Nat.reduceLT, Int.reduceLE, Int.reduceToNat, Int.reduceNeg, ↓reduceIte]
    · obtain ⟨⟨i, s⟩, hb, hi, hbfs⟩ := x
      simp only at hb hi hbfs
      obtain ⟨out, seen, todo⟩ := s
      have hb1 := hb.l1
      have hb2 := hb.l2
      simp only at hb1 hb2 hi
      show Ev _ _ _ _ ⟨[(1, .bp 1 [] 0), (3, .sr 12 T41 0 out.length), (4, .sr 16 T4 0 seen.length), (5, .sr 19 T3 0 todo.length), (6, .p (.int .i64) (i : Int))], [(1, .box 25 true [.p T23 f]), (12, .arr 41 T41 out), (16, .arr 4 T4 seen), (19, .arr 3 T3 todo)]⟩
      repeat' (first | exact trivial | refine ev_seq ?_ | refine ev_skip ?_ | refine ev_ret ?_ | refine ev_exit ?_ | refine ev_block ?_ | refine ev_out_seq ?_ | refine ev_exit_seq ?_ | refine ev_ret_seq ?_ | refine ev_out_blk ?_ | refine ev_ret_blk ?_ | refine ev_exit_eq ?_ | refine ev_exit_ne (by decide) ?_ | refine ev_exit_inv ?_ | refine ev_ret_inv ?_ | refine ev_out_inv ?_ | refine rP [0, 1, 2, 3, 4, 5, 6, 7, 8, 23, 38, 49] hc ?_ ?_ | refine rA [0, 1, 2, 3, 4, 5, 6, 7, 8, 23, 38, 49] hc ?_ ?_ | refine rD [0, 1, 2, 3, 4, 5, 6, 7, 8, 23, 38, 49] hc ?_ ?_ | refine rT [0, 1, 2, 3, 4, 5, 6, 7, 8, 23, 38, 49] 1 hc ?_ ?_ | refine rT [0, 1, 2, 3, 4, 5, 6, 7, 8, 23, 38, 49] 2 hc ?_ ?_ | refine rT [0, 1, 2, 3, 4, 5, 6, 7, 8, 23, 38, 49] 3 hc ?_ ?_ | (refine rC (fun hcond => ?_) (fun hcond => ?_) <;> try (cases hcond; done)))
      · exact ⟨hcond, hb.rng _ (mem_of_take_succ todo 0 (by ((try dsimp only [Ty.den] at *) <;> (repeat' (first | apply And.intro | intro _)) <;> omega)))⟩
      · have hit : i < todo.length := by ((try dsimp only [Ty.den] at *) <;> (repeat' (first | apply And.intro | intro _)) <;> omega)
        have hn := hb.rng _ (mem_of_take_succ todo 0 hit)
        have hLlen := arcs_len hs (todo.getD i 0)
        have hLin := fun a (ha : a ∈ (f.getD (todo.getD i 0).toNat (0, [])).2) => arcs_in hs ha
        have hbN : bfs f (f.length - (i + 1)) (i + 1) (bfsN f (out, seen, todo) (todo.getD i 0)) = bfs f f.length 0 (bfs0 f.length) := by
          rw [← hbfs]
          refine (bfs_next (s := (out, seen, todo)) hit ?_).symm
          have := hb.cnt
          simp only at this ⊢
          omega
        have hNN : bfsN f (out, seen, todo) (todo.getD i 0) = (f.getD (todo.getD i 0).toNat (0, [])).2.foldl (bfsA (todo.getD i 0)) (out, seen, todo) := rfl
        rw [hNN] at hbN
        obtain ⟨s0, hs0⟩ : ∃ s0 : Bfs, s0 = (out, seen, todo) := ⟨_, rfl⟩
        have hb' : BOk f s0 := by rw [hs0]; exact hb
        have hpre := fun l => bfsF_pre (n := todo.getD i 0) (i := i) (l := l) (s := s0) (by rw [hs0]; exact hit)
        have ht0 : s0.2.2.getD i 0 = todo.getD i 0 := by rw [hs0]
        rw [ht0] at hpre
        rw [← hs0] at hbN
        clear hNN
        generalize hnd : todo.getD i 0 = n at *
        generalize (f.getD n.toNat (0, [])).2 = L at *
        have hfold := fun k => bfsF_ok (n := n) (l := L.take k) (fun a ha => hLin a (List.mem_of_mem_take ha)) hb'
        refine ev_loop (ι := {k : Nat // k ≤ L.length}) (fun k => ⟨[(1, .bp 1 [] 0), (3, .sr 12 T41 0 ((L.take k.1).foldl (bfsA n) s0).1.length), (4, .sr 16 T4 0 ((L.take k.1).foldl (bfsA n) s0).2.1.length), (5, .sr 19 T3 0 ((L.take k.1).foldl (bfsA n) s0).2.2.length), (6, .p (.int .i64) (i : Int)), (7, .p T57 L), (8, .p (.int .i64) (k.1 : Int))], [(1, .box 25 true [.p T23 f]), (12, .arr 41 T41 ((L.take k.1).foldl (bfsA n) s0).1), (16, .arr 4 T4 ((L.take k.1).foldl (bfsA n) s0).2.1), (19, .arr 3 T3 ((L.take k.1).foldl (bfsA n) s0).2.2)]⟩) (fun k => L.length - k.1) ⟨0, by omega⟩ (ent_match [(1, .nm 1), (12, .nm 12), (16, .nm 16), (19, .nm 19)] rfl rfl ?_ ?_) (fun k => ?_)
        · simp only [go_sem, Nat.reduceEqDiff, reduceCtorEq, Nat.reduceAdd, Nat.reduceSub, Nat.reduceMul, Nat.reduceLeDiff, Nat.reduceLT, Int.reduceLE, Int.reduceToNat, Int.reduceNeg, ↓reduceIte]
          simp only [List.foldl_nil]
          rw [hs0]
          exact ⟨rfl, rfl, rfl⟩
        · simp only [go_sem, Nat.reduceEqDiff, reduceCtorEq, Nat.reduceAdd, Nat.reduceSub, Nat.reduceMul, Nat.reduceLeDiff, Nat.reduceLT, Int.reduceLE, Int.reduceToNat, Int.reduceNeg, ↓reduceIte]
          simp only [List.foldl_nil]
          rw [hs0]
          exact ⟨rfl, rfl, rfl⟩
        · obtain ⟨k, hk⟩ := k
          have hbk := hfold k
          have hpk := hpre (L.take k)
          have hnext := fun (h : k < L.length) => fold_take (bfsA n) L (0, 0) s0 h
          simp only
          generalize hsk : (L.take k).foldl (bfsA n) s0 = sk at hbk hpk hnext ⊢
          obtain ⟨out1, seen1, todo1⟩ := sk
          simp only at hpk ⊢
          have hl1 := hbk.l1
          have hl2 := hbk.l2
          have hl3 := hbk.cnt
          simp only at hl1 hl2 hl3
          have hto : ∀ (h : k < L.length), 0 ≤ (L.getD k (0, 0)).2 ∧ (L.getD k (0, 0)).2 < (seen1.length : Int) := fun h => by
            have := hLin _ (mem_of_take_succ L (0, 0) h)
            dsimp only [Ty.den] at *
            omega
          have hpl := getD_len hbk.pl n.toNat
          simp only at hpl
          repeat' (first | exact trivial | refine ev_seq ?_ | refine ev_skip ?_ | refine ev_ret ?_ | refine ev_exit ?_ | refine ev_block ?_ | refine ev_out_seq ?_ | refine ev_exit_seq ?_ | refine ev_ret_seq ?_ | refine ev_out_blk ?_ | refine ev_ret_blk ?_ | refine ev_exit_eq ?_ | refine ev_exit_ne (by decide) ?_ | refine ev_exit_inv ?_ | refine ev_ret_inv ?_ | refine ev_out_inv ?_ | refine rP [0, 1, 2, 3, 4, 5, 6, 7, 8, 23, 38, 49] hc ?_ ?_ | refine rA [0, 1, 2, 3, 4, 5, 6, 7, 8, 23, 38, 49] hc ?_ ?_ | refine rD [0, 1, 2, 3, 4, 5, 6, 7, 8, 23, 38, 49] hc ?_ ?_ | refine rT [0, 1, 2, 3, 4, 5, 6, 7, 8, 23, 38, 49] 1 hc ?_ ?_ | refine rT [0, 1, 2, 3, 4, 5, 6, 7, 8, 23, 38, 49] 2 hc ?_ ?_ | refine rT [0, 1, 2, 3, 4, 5, 6, 7, 8, 23, 38, 49] 3 hc ?_ ?_ | (refine rC (fun hcond => ?_) (fun hcond => ?_) <;> try (cases hcond; done)))
          · exact ⟨hcond, hto (by ((try dsimp only [Ty.den] at *) <;> (repeat' (first | apply And.intro | intro _)) <;> omega))⟩
          · refine ⟨?_, hto ?_⟩ <;> ((try dsimp only [Ty.den] at *) <;> (repeat' (first | apply And.intro | intro _)) <;> omega)
          · rename_i hkL _
            have hkL : k < L.length := by dsimp only [Ty.den] at *; omega
            have hst : (L.take (k + 1)).foldl (bfsA n) s0 = (out1.set (L.getD k (0, 0)).2.toNat (out1.getD n.toNat [] ++ [(L.getD k (0, 0)).1]), seen1.set (L.getD k (0, 0)).2.toNat true, todo1 ++ [(L.getD k (0, 0)).2]) := by
              rw [hnext hkL]
              unfold bfsA
              rw [if_neg (by simp only; rw [hcond]; simp)]
            have htk := hto hkL
            refine ev_mix drawsAny hc 22 [([6, 7, 8, 9, 10, 11, 12, 13], 14), ([15, 16, 17, 18, 19, 20], 21)] [0, 1, 2, 3, 4, 5] (by kernel_rfl) (mix_step (by simp only [go_sem, Nat.reduceEqDiff, reduceCtorEq, Nat.reduceAdd, Nat.reduceSub, Nat.reduceMul, Nat.reduceLeDiff, Nat.reduceLT, Int.reduceLE, Int.reduceToNat, Int.reduceNeg, ↓reduceIte]; rfl) ?_ rfl rfl (by simp only [go_sem, Nat.reduceEqDiff, reduceCtorEq, Nat.reduceAdd, Nat.reduceSub, Nat.reduceMul, Nat.reduceLeDiff, Nat.reduceLT, Int.reduceLE, Int.reduceToNat, Int.reduceNeg, ↓reduceIte]; rfl) (by simp only [go_sem, Nat.reduceEqDiff, reduceCtorEq, Nat.reduceAdd, Nat.reduceSub, Nat.reduceMul, Nat.reduceLeDiff, Nat.reduceLT, Int.reduceLE, Int.reduceToNat, Int.reduceNeg, ↓reduceIte]; rfl) ?_)
            · rw [hpk.2]
              dsimp only [Ty.den] at *
              refine ⟨by omega, ⟨by omega, by omega⟩, by omega⟩
            · refine loud_step hc [63] (by simp only [go_sem, Nat.reduceEqDiff, reduceCtorEq, Nat.reduceAdd, Nat.reduceSub, Nat.reduceMul, Nat.reduceLeDiff, Nat.reduceLT, Int.reduceLE, Int.reduceToNat, Int.reduceNeg, ↓reduceIte]; rfl) (by simp only [go_sem, Nat.reduceEqDiff, reduceCtorEq, Nat.reduceAdd, Nat.reduceSub, Nat.reduceMul, Nat.reduceLeDiff, Nat.reduceLT, Int.reduceLE, Int.reduceToNat, Int.reduceNeg, ↓reduceIte]) rfl rfl rfl (by simp only [go_sem, Nat.reduceEqDiff, reduceCtorEq, Nat.reduceAdd, Nat.reduceSub, Nat.reduceMul, Nat.reduceLeDiff, Nat.reduceLT, Int.reduceLE, Int.reduceToNat, Int.reduceNeg, ↓reduceIte]) rfl ?_ ?_
              · rw [hpk.2]
                simp only [maxN]
                dsimp only [Ty.den] at *
                omega
              · refine mix_step (by simp only [go_sem, Nat.reduceEqDiff, reduceCtorEq, Nat.reduceAdd, Nat.reduceSub, Nat.reduceMul, Nat.reduceLeDiff, Nat.reduceLT, Int.reduceLE, Int.reduceToNat, Int.reduceNeg, ↓reduceIte]; rfl) ?_ rfl rfl (by simp only [go_sem, Nat.reduceEqDiff, reduceCtorEq, Nat.reduceAdd, Nat.reduceSub, Nat.reduceMul, Nat.reduceLeDiff, Nat.reduceLT, Int.reduceLE, Int.reduceToNat, Int.reduceNeg, ↓reduceIte]; rfl) (by simp only [go_sem, Nat.reduceEqDiff, reduceCtorEq, Nat.reduceAdd, Nat.reduceSub, Nat.reduceMul, Nat.reduceLeDiff, Nat.reduceLT, Int.reduceLE, Int.reduceToNat, Int.reduceNeg, ↓reduceIte]; rfl) ?_
                · ((try dsimp only [Ty.den] at *) <;> (repeat' (first | apply And.intro | intro _)) <;> omega)
                · refine loud_step hc [63] (by simp only [go_sem, Nat.reduceEqDiff, reduceCtorEq, Nat.reduceAdd, Nat.reduceSub, Nat.reduceMul, Nat.reduceLeDiff, Nat.reduceLT, Int.reduceLE, Int.reduceToNat, Int.reduceNeg, ↓reduceIte]; rfl) (by simp only [go_sem, Nat.reduceEqDiff, reduceCtorEq, Nat.reduceAdd, Nat.reduceSub, Nat.reduceMul, Nat.reduceLeDiff, Nat.reduceLT, Int.reduceLE, Int.reduceToNat, Int.reduceNeg, ↓reduceIte]) rfl rfl rfl (by simp only [go_sem, Nat.reduceEqDiff, reduceCtorEq, Nat.reduceAdd, Nat.reduceSub, Nat.reduceMul, Nat.reduceLeDiff, Nat.reduceLT, Int.reduceLE, Int.reduceToNat, Int.reduceNeg, ↓reduceIte]) rfl ?_ ?_
                  · rw [hpk.2]
                    simp only [maxN]
                    dsimp only [Ty.den] at *
                    omega
                  · refine mix_last (by simp only [go_sem, Nat.reduceEqDiff, reduceCtorEq, Nat.reduceAdd, Nat.reduceSub, Nat.reduceMul, Nat.reduceLeDiff, Nat.reduceLT, Int.reduceLE, Int.reduceToNat, Int.reduceNeg, ↓reduceIte]; rfl) ?_ rfl (evLp_all [0, 1, 2, 3, 4, 5, 6, 7, 8, 23, 38, 49] hc (by simp only [go_sem, Nat.reduceEqDiff, reduceCtorEq, Nat.reduceAdd, Nat.reduceSub, Nat.reduceMul, Nat.reduceLeDiff, Nat.reduceLT, Int.reduceLE, Int.reduceToNat, Int.reduceNeg, ↓reduceIte]; rfl) ?_ ?_)
                    · ((try dsimp only [Ty.den] at *) <;> (repeat' (first | apply And.intro | intro _)) <;> omega)
                    · dsimp only [Ty.den] at *
                      exact ⟨by omega, by omega⟩
                    · repeat' (first | exact trivial | refine ev_seq ?_ | refine ev_skip ?_ | refine ev_ret ?_ | refine ev_exit ?_ | refine ev_block ?_ | refine ev_out_seq ?_ | refine ev_exit_seq ?_ | refine ev_ret_seq ?_ | refine ev_out_blk ?_ | refine ev_ret_blk ?_ | refine ev_exit_eq ?_ | refine ev_exit_ne (by decide) ?_ | refine ev_exit_inv ?_ | refine ev_ret_inv ?_ | refine ev_out_inv ?_ | refine rP [0, 1, 2, 3, 4, 5, 6, 7, 8, 23, 38, 49] hc ?_ ?_ | refine rA [0, 1, 2, 3, 4, 5, 6, 7, 8, 23, 38, 49] hc ?_ ?_ | refine rD [0, 1, 2, 3, 4, 5, 6, 7, 8, 23, 38, 49] hc ?_ ?_ | refine rT [0, 1, 2, 3, 4, 5, 6, 7, 8, 23, 38, 49] 1 hc ?_ ?_ | refine rT [0, 1, 2, 3, 4, 5, 6, 7, 8, 23, 38, 49] 2 hc ?_ ?_ | refine rT [0, 1, 2, 3, 4, 5, 6, 7, 8, 23, 38, 49] 3 hc ?_ ?_ | (refine rC (fun hcond => ?_) (fun hcond => ?_) <;> try (cases hcond; done)))
                      · simp only [maxN]
                        dsimp only [Ty.den] at *
                        exact ⟨by omega, by omega⟩
                      · ((try dsimp only [Ty.den] at *) <;> (repeat' (first | apply And.intro | intro _)) <;> omega)
                      · refine ⟨⟨k + 1, by omega⟩, by simp only; omega, ent_match [(1, .nm 1), (12, .nm 12), (16, .nm 16), (19, .nm 19)] rfl rfl ?_ ?_⟩
                        · simp only
                          rw [hst]
                          simp only [go_sem, Nat.reduceEqDiff, reduceCtorEq, Nat.reduceAdd, Nat.reduceSub, Nat.reduceMul, Nat.reduceLeDiff, Nat.reduceLT, Int.reduceLE, Int.reduceToNat, Int.reduceNeg, ↓reduceIte]
                          rw [hpk.2]
                        · simp only
                          rw [hst]
                          simp only [go_sem, Nat.reduceEqDiff, reduceCtorEq, Nat.reduceAdd, Nat.reduceSub, Nat.reduceMul, Nat.reduceLeDiff, Nat.reduceLT, Int.reduceLE, Int.reduceToNat, Int.reduceNeg, ↓reduceIte]
                          simp
          · ((try dsimp only [Ty.den] at *) <;> (repeat' (first | apply And.intro | intro _)) <;> omega)
          · rename_i hkL _
            have hkL : k < L.length := by dsimp only [Ty.den] at *; omega
            have hst : (L.take (k + 1)).foldl (bfsA n) s0 = (out1, seen1, todo1) := by
              rw [hnext hkL]
              unfold bfsA
              rw [if_pos (by simp only; rw [hcond])]
            refine ⟨⟨k + 1, by omega⟩, by simp only; omega, ent_match [(1, .nm 1), (12, .nm 12), (16, .nm 16), (19, .nm 19)] rfl rfl ?_ ?_⟩
            · simp only
              rw [hst]
              simp only [go_sem, Nat.reduceEqDiff, reduceCtorEq, Nat.reduceAdd, Nat.reduceSub, Nat.reduceMul, Nat.reduceLeDiff, Nat.reduceLT, Int.reduceLE, Int.reduceToNat, Int.reduceNeg, ↓reduceIte]
            · simp only
              rw [hst]
              simp only [go_sem, Nat.reduceEqDiff, reduceCtorEq, Nat.reduceAdd, Nat.reduceSub, Nat.reduceMul, Nat.reduceLeDiff, Nat.reduceLT, Int.reduceLE, Int.reduceToNat, Int.reduceNeg, ↓reduceIte]
          · ((try dsimp only [Ty.den] at *) <;> (repeat' (first | apply And.intro | intro _)) <;> omega)
          · have hkL : L.take k = L := List.take_of_length_le (by ((try dsimp only [Ty.den] at *) <;> (repeat' (first | apply And.intro | intro _)) <;> omega))
            rw [hkL] at hsk
            rw [hsk] at hbN
            have htl : todo1.length ≤ f.length := by omega
            refine ⟨⟨(i + 1, (out1, seen1, todo1)), hbk, by simp only; omega, hbN⟩, by simp only; dsimp only [Ty.den] at *; omega, ent_match [(1, .nm 1), (12, .nm 12), (16, .nm 16), (19, .nm 19)] rfl rfl ?_ ?_⟩
            · simp only [go_sem, Nat.reduceEqDiff, reduceCtorEq, Nat.reduceAdd, Nat.reduceSub, Nat.reduceMul, Nat.reduceLeDiff, Nat.reduceLT, Int.reduceLE, Int.reduceToNat, Int.reduceNeg, ↓reduceIte]
            · simp only [go_sem, Nat.reduceEqDiff, reduceCtorEq, Nat.reduceAdd, Nat.reduceSub, Nat.reduceMul, Nat.reduceLeDiff, Nat.reduceLT, Int.reduceLE, Int.reduceToNat, Int.reduceNeg, ↓reduceIte]
      · have h1 : firstF f = out := by
          unfold firstF
          rw [← hbfs, bfs_end (by ((try dsimp only [Ty.den] at *) <;> (repeat' (first | apply And.intro | intro _)) <;> omega))]
        exact ev_fin hc [.tmp 2] rfl (.inl rfl) (by simp) (by rw [h1]; simp only [retIs, resIs, resV, resLoad, avNames, pureOf, ownOf, go_sem, Nat.reduceEqDiff, reduceCtorEq, Nat.reduceAdd, Nat.reduceSub, Nat.reduceMul, Nat.reduceLeDiff, Nat.reduceLT, Int.reduceLE, Int.reduceToNat, Int.reduceNeg, ↓reduceIte])
end Go.Proofs.Ytfdkpbmofgkaoaa.Fw
