/- Functions of grammarlabref07: visit. -/
import Derived.Test.YtfdkpbmofgkaoaaYSorted
set_option linter.unusedVariables false
set_option linter.unusedSimpArgs false
namespace Go.Proofs.Ytfdkpbmofgkaoaa.Fw
open Go
attribute [local irreducible] Ev
attribute [local go_sem] cx_tb entEnv List.toList_toArray evSeq evG evK vcK guardOf guardT guardB_true guardB_false step1 step0 stepQ takesIn namesParts namesOf namesStore frzAll frz frz1 fixN frzEnv frzObjs drpEnv drpObjs AV.frz AV.frzs AV.drp AV.drps AV.names AV.namess aq qmap qPick qAlloc qBox qBuild qBuildSlice qBuildSlice2 qLoad qLoadB qLoadB2 qLoadE qLoadE2 qLoadE3 qFieldI qOff qPart qField qIndexA qIndex qIndexS qNil qBin qUn qConv qMake qMake2 qSlice qExtract qLen qAppend qAppend2 qAppend3 qMin qMax qCall qCall2 qCall3 qBuiltin qCallee aloud lStoreD lStore lStoreB lStoreB2 lStoreE lStoreE3 lStoreE4 lCallee lBuiltin lAppend lAppend2 lAppend3 lAppend4 opv lk constAV optAV sliceQ bin binI binS zf1 zfs pfs AV.cells nthOff loadB offB storeB notAg fitsT fitsO Ty.cell1 fieldOk partsT partsAg argsT asT asT1 asTs pairO srT castTo_self getF setF getP setP offP offF fldT rvAV rvObj rvAVs rvObjs resAV RV.flat Ty.flat Ty.size St.add upd del fresh Value.oneCell' refZ Ty.dflt sub_all sub_one sub_take sub_end List.take_succ_cons List.take_zero List.length_cons cast0 castS sub_app take_app sub_app1 take_app1 take_one1 natC zero_le_natC i64_min i64_max u64_min u64_max u8_min u8_max inK_i64 inK_u64 inK_u8 Option.map_some Option.map_none Option.bind_some Option.getD_some Option.getD_none Option.isNone_none Option.isNone_some Bool.and_true Bool.true_and Bool.and_false Bool.false_and Bool.not_true Bool.not_false if_true if_false List.length_cons List.length_nil and_true true_and and_self List.all_cons List.all_nil List.append_nil List.nil_append List.cons_append List.getElem?_cons_zero List.getElem?_cons_succ List.getElem?_nil List.map_cons List.map_nil List.set_cons_zero List.set_cons_succ List.isEmpty_nil List.isEmpty_cons decide_true decide_false beq_self_eq_true bne_self_eq_false Nat.zero_add Nat.add_zero Nat.sub_zero Int.toNat_natCast Int.toNat_zero Int.toNat_one List.take_length List.length_append List.length_singleton true_or or_true or_self false_or or_false Ty.agg.injEq Ty.slice.injEq Ty.prod.injEq Ty.int.injEq Option.some.injEq beq_iff_eq evM evMG evMQ opM isPick viewE viewS viewG opTs opTmp consE guardM guardM1 guardM2 sideM sideM2 pickM pickM2 sufB chEq memB dstOf Op.operands Call.operands List.filterMap_cons List.filterMap_nil List.append_eq Bool.cond_false_right Bool.cond_true_left cond_true cond_false implies_true decide_eq_true_eq beq_true beq_false Bool.or_true Bool.or_false Bool.true_or Bool.false_or Option.isSome_some fieldV namesAg namesAgs capNs qClo qClo2 qMakeMap qMakeMap2 qMakeMap3 qLook qLook2 qLook3 qLook4 keyT keyP eqT inB lMapUp lMapUp2 lMapUp3 namesMap argEnv cm_tb List.drop_zero pruneR prune rem1 afterM addDst fgtEnv AV.fgt AV.fgts Obj.fgt restObjs handed memB calleeOf opvs matchArgs matchArg List.any_cons List.any_nil evF evFO evFQ evFK addQ frOk qs List.flatMap_cons List.flatMap_nil List.cons_append tn appN fgtEN List.take_succ_cons List.drop_succ_cons isYl parEnv rangeSt cY_tb marked_tb renOk renIn matchObjs matchEnv matchE matchAV matchAVs matchF matchO
attribute [local go_sem] ty1 ty2 ty3 ty4 ty5 ty9 ty12 ty21 ty22 ty23 ty24 ty25 ty27 ty28 ty29 ty30 ty31 ty32 ty33 ty35 ty36 ty37 ty38 ty39 ty41 ty43 ty44 ty45 ty46 ty47 ty48 ty49 ty50 ty51 ty52 ty53 ty54 ty55 ty56 ty57 ty58 ty59 ty60 ty61 ty62 ty64 ty65 ty66 ty67 ty68 ty69 ty70 ty71 ty72 ty73 ty74 ty75 ty76 ty77 ty79 ty80 ty81 ty83 ty85 ty86 ty87 ty88 ty89 ty90 ty91 ty92 ty93 ty94 ty95 ty96 ty98 ty99 ty101 ty102 ty103 ty104 ty105 ty106 ty107 ty108 ty109 ty111 ty112 ty113 ty114 ty115 ty116 ty117 ty118 ty121 ty122 ty123 ty124 ty125 ty126 ty127 ty128 ty129 ty130 ty131 ty132 ty134 ty135 ty136 ty137 ty138 ty139 ty140 ty141 ty142 ty143 ty145 ty146 ty147 ty148 ty149 ty150 ty151 ty152 ty153 ty154 ty155 ty156 ty157 ty158 ty159 ty160 ty161 ty162 ty163 ty164 ty165 ty167 ty168 ty169 ty170 ty171 ty172 ty173 ty174 ty175 ty176 ty177 ty178 ty179 ty180 ty181 ty182 ty183 ty184 ty185 ty186 ty187 ty188 ty189 ty190 ty191 ty192 ty193 ty194 ty195 ty196 ty197 ty199 ty200 ty201 ty202 ty203 ty204 ty205 ty206 ty207 ty208 ty209 ty210 ty211 ty212 ty214 ty215 ty221 ty224 ty225
attribute [local go_sem] sortedS
set_option maxRecDepth 100000
abbrev GNode := Int × List (Int × Int)
def visitF (f : List GNode) : Nat → List Int × List Int → Int → List Int × List Int
  | 0, s, _ => s
  | k + 1, s, n => (sortedF (f.getD n.toNat (0, [])).2).foldl (fun s a => if s.1.getD a.2.toNat 0 < 0 then visitF f k s a.2 else s) (s.1.set n.toNat (s.2.length : Int), s.2 ++ [n])
def negC (l : List Int) : Nat := l.countP (fun x => decide (x < 0))
def GoodF (f : List GNode) : Prop := f.length ≤ 100000 ∧ ∀ x ∈ f, x.2.length ≤ 100000 ∧ ∀ a ∈ x.2, 0 ≤ a.2 ∧ a.2 < (f.length : Int)
/-- A traversal's state. -/
def TrOk (f : List GNode) (s : List Int × List Int) : Prop := s.1.length = f.length ∧ s.2.length + negC s.1 ≤ f.length
theorem negC_set {l : List Int} {n : Nat} {v : Int} (hn : n < l.length) (hneg : l.getD n 0 < 0) (hv : 0 ≤ v) : negC (l.set n v) + 1 = negC l := by
  induction l generalizing n with
  | nil => simp at hn
  | cons x r ih =>
    cases n with
    | zero =>
      have hx : x < 0 := by simpa using hneg
      have : ¬ v < 0 := by omega
      simp [negC, List.countP_cons, hx, this]
    | succ n =>
      have h1 := ih (n := n) (by simpa using hn) (by simpa using hneg)
      simp only [negC, List.set_cons_succ, List.countP_cons] at h1 ⊢
      omega
theorem tr_set {f : List GNode} {s : List Int × List Int} {n : Int} (h : TrOk f s) (hn0 : 0 ≤ n) (hn : n < f.length) (hneg : s.1.getD n.toNat 0 < 0) :
    TrOk f (s.1.set n.toNat (s.2.length : Int), s.2 ++ [n]) ∧ negC (s.1.set n.toNat (s.2.length : Int)) + 1 = negC s.1 := by
  obtain ⟨h1, h2⟩ := h
  have h3 := negC_set (l := s.1) (n := n.toNat) (v := (s.2.length : Int)) (by omega) hneg (by omega)
  refine ⟨⟨by simpa using h1, ?_⟩, h3⟩
  simp only [List.length_append, List.length_singleton]
  omega
theorem insF_perm (s : List (Int × Int)) (x : Int × Int) : (insF s x).Perm (x :: s) := by
  unfold insF
  refine (List.perm_append_comm.append_right _).trans ?_
  simp
theorem foldl_insF_perm : ∀ (l s : List (Int × Int)), (l.foldl insF s).Perm (l ++ s)
  | [], s => List.Perm.refl _
  | x :: l, s => by
    refine (foldl_insF_perm l (insF s x)).trans ?_
    refine (List.Perm.append_left l (insF_perm s x)).trans ?_
    exact List.perm_middle
theorem sortedF_perm (l : List (Int × Int)) : (sortedF l).Perm l := by
  have := foldl_insF_perm l []
  simpa [sortedF] using this
theorem arcs_len {f : List GNode} (hf : GoodF f) (n : Int) : List.length (f.getD n.toNat (0, [])).2 ≤ 100000 := by
  by_cases h : n.toNat < f.length
  · have hm : f.getD n.toNat (0, []) ∈ f := by
      rw [List.getD_eq_getElem?_getD, List.getElem?_eq_getElem h]; exact List.getElem_mem h
    exact (hf.2 _ hm).1
  · rw [List.getD_eq_getElem?_getD, List.getElem?_eq_none (by omega)]
    simp
theorem arcs_of {f : List GNode} (hf : GoodF f) {n : Int} {a : Int × Int} (ha : a ∈ sortedF (f.getD n.toNat (0, [])).2) : 0 ≤ a.2 ∧ a.2 < f.length := by
  have ha := (sortedF_perm _).mem_iff.1 ha
  by_cases h : n.toNat < f.length
  · have hm : f.getD n.toNat (0, []) ∈ f := by
      rw [List.getD_eq_getElem?_getD, List.getElem?_eq_getElem h]; exact List.getElem_mem h
    exact (hf.2 _ hm).2 a ha
  · rw [List.getD_eq_getElem?_getD, List.getElem?_eq_none (by omega)] at ha
    simp at ha
def stepV (f : List GNode) (k : Nat) (s : List Int × List Int) (a : Int × Int) : List Int × List Int := if s.1.getD a.2.toNat 0 < 0 then visitF f k s a.2 else s
theorem visitF_succ (f : List GNode) (k : Nat) (s : List Int × List Int) (n : Int) : visitF f (k + 1) s n = (sortedF (f.getD n.toNat (0, [])).2).foldl (stepV f k) (s.1.set n.toNat (s.2.length : Int), s.2 ++ [n]) := rfl
theorem fold_ok {f : List GNode} {k : Nat} (hv : ∀ (s : List Int × List Int) (n : Int), TrOk f s → 0 ≤ n → n < f.length → s.1.getD n.toNat 0 < 0 → TrOk f (visitF f k s n) ∧ negC (visitF f k s n).1 ≤ negC s.1) :
    ∀ (l : List (Int × Int)) (t : List Int × List Int), (∀ a ∈ l, 0 ≤ a.2 ∧ a.2 < (f.length : Int)) → TrOk f t → TrOk f (l.foldl (stepV f k) t) ∧ negC (l.foldl (stepV f k) t).1 ≤ negC t.1
  | [], t, _, ht => ⟨ht, Nat.le_refl _⟩
  | a :: l, t, hl, ht => by
    simp only [List.foldl_cons]
    by_cases hc : t.1.getD a.2.toNat 0 < 0
    · obtain ⟨g1, g2⟩ := hv t a.2 ht (hl a (by simp)).1 (hl a (by simp)).2 hc
      have e : stepV f k t a = visitF f k t a.2 := if_pos hc
      rw [e]
      obtain ⟨g3, g4⟩ := fold_ok hv l _ (fun b hb => hl b (by simp [hb])) g1
      exact ⟨g3, Nat.le_trans g4 g2⟩
    · have e : stepV f k t a = t := if_neg hc
      rw [e]
      exact fold_ok hv l t (fun b hb => hl b (by simp [hb])) ht
theorem visitF_ok {f : List GNode} (hf : GoodF f) : ∀ (k : Nat) (s : List Int × List Int) (n : Int), TrOk f s → 0 ≤ n → n < f.length → s.1.getD n.toNat 0 < 0 → TrOk f (visitF f k s n) ∧ negC (visitF f k s n).1 ≤ negC s.1
  | 0, s, n, h, _, _, _ => ⟨h, Nat.le_refl _⟩
  | k + 1, s, n, h, h0, h1, h2 => by
    obtain ⟨h3, h4⟩ := tr_set h h0 h1 h2
    obtain ⟨g1, g2⟩ := fold_ok (visitF_ok hf k) _ _ (fun a ha => arcs_of hf ha) h3
    rw [visitF_succ]
    exact ⟨g1, by simp only at g2 h4; omega⟩
theorem fold_take {α β : Type} (g : β → α → β) (l : List α) (d : α) (t : β) {i : Nat} (hi : i < l.length) : (l.take (i + 1)).foldl g t = g ((l.take i).foldl g t) (l.getD i d) := by
  rw [take_snoc l d hi, List.foldl_append]; rfl
/-- The traversal's objects. -/
def wObjs (f : List GNode) (s : List Int × List Int) : List (Nat × Obj) := [(1, .box 156 true [.p T25 f, .sr 2 T3 0 s.1.length, .sr 3 T3 0 s.2.length]), (2, .arr 3 T3 s.1), (3, .arr 3 T3 s.2)]
theorem visit_ok (f : List GNode) (hf : GoodF f) : ∀ (k : Nat) (s : List Int × List Int) (n : Int), TrOk f s → 0 ≤ n → n < f.length → s.1.getD n.toNat 0 < 0 → negC s.1 ≤ k →
    CallM Try.prog 91 [.bp 1 [] 0, .p T3 n] (wObjs f s) [1] (fun res objs' => res = .raw (.tuple #[]) ∧ objs' = wObjs f (visitF f k s n)) := by
  intro k
  induction k with
  | zero =>
    intro s n h0 h1 h2 h3 h4
    obtain ⟨_, h5⟩ := tr_set h0 h1 h2 h3
    omega
  | succ k ih =>
    intro s n htr hn0 hn1 hneg hk
    obtain ⟨num, ord⟩ := s
    obtain ⟨htr', hcnt⟩ := tr_set htr hn0 hn1 hneg
    obtain ⟨hl1, hl2⟩ := htr
    simp only at hl1 hl2 hneg htr' hcnt hk
    refine fnM_ok Try.func91 (by kernel_rfl) rfl Try.ntmps91 (by simp only [List.length_cons, List.length_nil]; omega) (by kernel_rfl) rfl rfl (tyTab_ok [(92, sortedS)]) (fns_cons sorted_ok fns_nil) ?_
    intro w0 K O0 ρ0 hc hok1 hok2
    simp only [wObjs, argEnv]
    repeat' (first | exact trivial | refine ev_seq ?_ | refine ev_skip ?_ | refine ev_ret ?_ | refine ev_exit ?_ | refine ev_block ?_ | refine ev_out_seq ?_ | refine ev_exit_seq ?_ | refine ev_ret_seq ?_ | refine ev_out_blk ?_ | refine ev_ret_blk ?_ | refine ev_exit_eq ?_ | refine ev_exit_ne (by decide) ?_ | refine ev_exit_inv ?_ | refine ev_ret_inv ?_ | refine ev_out_inv ?_ | refine rP [0, 1, 4, 5, 40, 54] hc ?_ ?_ | refine rA [0, 1, 4, 5, 40, 54] hc ?_ ?_ | refine rD [0, 1, 4, 5, 40, 54] hc ?_ ?_ | refine rT [0, 1, 4, 5, 40, 54] 1 hc ?_ ?_ | refine rT [0, 1, 4, 5, 40, 54] 2 hc ?_ ?_ | refine rT [0, 1, 4, 5, 40, 54] 3 hc ?_ ?_ | (refine rC (fun hcond => ?_) (fun hcond => ?_) <;> try (cases hcond; done)))
    · ((try dsimp only [Ty.den] at *) <;> (repeat' (first | apply And.intro | intro _)) <;> omega)
    · have := hf.1
      simp only [maxN]; omega
    · have hm := arcs_len hf n
      exact ⟨⟨hn0, hn1⟩, Nat.le_trans hm (by omega)⟩
    · have harcs := fun a (ha : a ∈ sortedF (f.getD n.toNat (0, [])).2) => arcs_of hf ha
      have hLlen : (sortedF (f.getD n.toNat (0, [])).2).length ≤ 100000 := by rw [sortedF_len]; exact arcs_len hf n
      generalize hL : sortedF (f.getD n.toNat (0, [])).2 = L at harcs hLlen
      generalize hs1 : (num.set n.toNat (ord.length : Int), ord ++ [n]) = s1 at htr'
      have hfold : ∀ i, TrOk f ((L.take i).foldl (stepV f k) s1) ∧ negC ((L.take i).foldl (stepV f k) s1).1 ≤ negC s1.1 := fun i => fold_ok (visitF_ok hf k) _ _ (fun a ha => harcs a (List.mem_of_mem_take ha)) htr'
      have hn1 : num.set n.toNat (ord.length : Int) = s1.1 := by rw [← hs1]
      have ho1 : ord ++ [n] = s1.2 := by rw [← hs1]
      rw [hn1] at hcnt
      refine ev_loop (ι := {i : Nat // i ≤ L.length}) (fun i => ⟨[(0, .bp 1 [] 0), (1, .p T3 n), (4, .p T57 L), (5, .p (.int .i64) (i.1 : Int))], wObjs f ((L.take i.1).foldl (stepV f k) s1)⟩) (fun i => L.length - i.1) ⟨0, by omega⟩ (ent_frz [36] (by simp only [go_sem, Nat.reduceEqDiff, reduceCtorEq, Nat.reduceAdd, Nat.reduceSub, Nat.reduceMul, Nat.reduceLeDiff, Nat.reduceLT, Int.reduceLE, Int.reduceToNat, Int.reduceNeg, ↓reduceIte]; rfl) (ent_match [(1, .nm 1), (2, .nm 2), (3, .nm 3)] rfl rfl ?_ ?_)) (fun i => ?_)
      · simp only [wObjs]
        simp only [go_sem, Nat.reduceEqDiff, reduceCtorEq, Nat.reduceAdd, Nat.reduceSub, Nat.reduceMul, Nat.reduceLeDiff, Nat.reduceLT, Int.reduceLE, Int.reduceToNat, Int.reduceNeg, ↓reduceIte]
        simp only [List.foldl_nil]
        rw [← hs1]
        simp
      · simp only [go_sem, Nat.reduceEqDiff, reduceCtorEq, Nat.reduceAdd, Nat.reduceSub, Nat.reduceMul, Nat.reduceLeDiff, Nat.reduceLT, Int.reduceLE, Int.reduceToNat, Int.reduceNeg, ↓reduceIte]
      · obtain ⟨i, hi⟩ := i
        obtain ⟨hti, hci⟩ := hfold i
        have hnext := fun (h : i < L.length) => fold_take (stepV f k) L (0, 0) s1 h
        generalize hsi : (L.take i).foldl (stepV f k) s1 = si at hti hci hnext
        simp only [wObjs]
        repeat' (first | exact trivial | refine ev_seq ?_ | refine ev_skip ?_ | refine ev_ret ?_ | refine ev_exit ?_ | refine ev_block ?_ | refine ev_out_seq ?_ | refine ev_exit_seq ?_ | refine ev_ret_seq ?_ | refine ev_out_blk ?_ | refine ev_ret_blk ?_ | refine ev_exit_eq ?_ | refine ev_exit_ne (by decide) ?_ | refine ev_exit_inv ?_ | refine ev_ret_inv ?_ | refine ev_out_inv ?_ | refine rP [0, 1, 4, 5, 40, 54] hc ?_ ?_ | refine rA [0, 1, 4, 5, 40, 54] hc ?_ ?_ | refine rD [0, 1, 4, 5, 40, 54] hc ?_ ?_ | refine rT [0, 1, 4, 5, 40, 54] 1 hc ?_ ?_ | refine rT [0, 1, 4, 5, 40, 54] 2 hc ?_ ?_ | refine rT [0, 1, 4, 5, 40, 54] 3 hc ?_ ?_ | (refine rC (fun hcond => ?_) (fun hcond => ?_) <;> try (cases hcond; done)))
        · have hiL : i < L.length := by ((try dsimp only [Ty.den] at *) <;> (repeat' (first | apply And.intro | intro _)) <;> omega)
          have := harcs _ (mem_of_take_succ L (0, 0) hiL)
          obtain ⟨h1, h2⟩ := hti
          refine ⟨by ((try dsimp only [Ty.den] at *) <;> (repeat' (first | apply And.intro | intro _)) <;> omega), this.1, ?_⟩
          rw [h1]
          exact this.2
        · have hiL : i < L.length := by ((try dsimp only [Ty.den] at *) <;> (repeat' (first | apply And.intro | intro _)) <;> omega)
          have hr := harcs _ (mem_of_take_succ L (0, 0) hiL)
          refine cP 6 hc ?_ ?_
          · ((try dsimp only [Ty.den] at *) <;> (repeat' (first | apply And.intro | intro _)) <;> omega)
          · refine rM hc (ih si (L.getD i (0, 0)).2 hti hr.1 hr.2 (by simpa using hcond) (by omega)) [(1, .nm 1), (2, .nm 2), (3, .nm 3)] [2, 3] ?_ ?_ ?_
            · simp only [go_sem, Nat.reduceEqDiff, reduceCtorEq, Nat.reduceAdd, Nat.reduceSub, Nat.reduceMul, Nat.reduceLeDiff, Nat.reduceLT, Int.reduceLE, Int.reduceToNat, Int.reduceNeg, ↓reduceIte]
            · simp only [wObjs]
              simp only [go_sem, Nat.reduceEqDiff, reduceCtorEq, Nat.reduceAdd, Nat.reduceSub, Nat.reduceMul, Nat.reduceLeDiff, Nat.reduceLT, Int.reduceLE, Int.reduceToNat, Int.reduceNeg, ↓reduceIte]
            · rintro _ _ ⟨rfl, rfl⟩
              refine ⟨[(1, .nm 1), (2, .nm 2), (3, .nm 3)], .raw (.tuple #[]), wObjs f (visitF f k si (L.getD i (0, 0)).2), rfl, rfl, ?_, ?_, rfl, rfl, evL_end ?_⟩
              · simp only [wObjs]
                simp only [go_sem, Nat.reduceEqDiff, reduceCtorEq, Nat.reduceAdd, Nat.reduceSub, Nat.reduceMul, Nat.reduceLeDiff, Nat.reduceLT, Int.reduceLE, Int.reduceToNat, Int.reduceNeg, ↓reduceIte]
              · simp only [go_sem, Nat.reduceEqDiff, reduceCtorEq, Nat.reduceAdd, Nat.reduceSub, Nat.reduceMul, Nat.reduceLeDiff, Nat.reduceLT, Int.reduceLE, Int.reduceToNat, Int.reduceNeg, ↓reduceIte]
              · repeat' (first | exact trivial | refine ev_seq ?_ | refine ev_skip ?_ | refine ev_ret ?_ | refine ev_exit ?_ | refine ev_block ?_ | refine ev_out_seq ?_ | refine ev_exit_seq ?_ | refine ev_ret_seq ?_ | refine ev_out_blk ?_ | refine ev_ret_blk ?_ | refine ev_exit_eq ?_ | refine ev_exit_ne (by decide) ?_ | refine ev_exit_inv ?_ | refine ev_ret_inv ?_ | refine ev_out_inv ?_ | refine rP [0, 1, 4, 5, 40, 54] hc ?_ ?_ | refine rA [0, 1, 4, 5, 40, 54] hc ?_ ?_ | refine rD [0, 1, 4, 5, 40, 54] hc ?_ ?_ | refine rT [0, 1, 4, 5, 40, 54] 1 hc ?_ ?_ | refine rT [0, 1, 4, 5, 40, 54] 2 hc ?_ ?_ | refine rT [0, 1, 4, 5, 40, 54] 3 hc ?_ ?_ | (refine rC (fun hcond => ?_) (fun hcond => ?_) <;> try (cases hcond; done)))
                · ((try dsimp only [Ty.den] at *) <;> (repeat' (first | apply And.intro | intro _)) <;> omega)
                · have e : stepV f k si (L.getD i (0, 0)) = visitF f k si (L.getD i (0, 0)).2 := if_pos (by simpa using hcond)
                  refine ⟨⟨i + 1, by omega⟩, by simp only; omega, ent_match [(1, .nm 1), (2, .nm 2), (3, .nm 3)] rfl rfl ?_ ?_⟩
                  · simp only [wObjs, hnext hiL, e]
                    simp only [go_sem, Nat.reduceEqDiff, reduceCtorEq, Nat.reduceAdd, Nat.reduceSub, Nat.reduceMul, Nat.reduceLeDiff, Nat.reduceLT, Int.reduceLE, Int.reduceToNat, Int.reduceNeg, ↓reduceIte]
                  · simp only [go_sem, Nat.reduceEqDiff, reduceCtorEq, Nat.reduceAdd, Nat.reduceSub, Nat.reduceMul, Nat.reduceLeDiff, Nat.reduceLT, Int.reduceLE, Int.reduceToNat, Int.reduceNeg, ↓reduceIte]
        · ((try dsimp only [Ty.den] at *) <;> (repeat' (first | apply And.intro | intro _)) <;> omega)
        · have hiL : i < L.length := by ((try dsimp only [Ty.den] at *) <;> (repeat' (first | apply And.intro | intro _)) <;> omega)
          have e : stepV f k si (L.getD i (0, 0)) = si := if_neg (by simpa using hcond)
          refine ⟨⟨i + 1, by omega⟩, by simp only; omega, ent_match [(1, .nm 1), (2, .nm 2), (3, .nm 3)] rfl rfl ?_ ?_⟩
          · simp only [hnext hiL, e]
            simp only [go_sem, Nat.reduceEqDiff, reduceCtorEq, Nat.reduceAdd, Nat.reduceSub, Nat.reduceMul, Nat.reduceLeDiff, Nat.reduceLT, Int.reduceLE, Int.reduceToNat, Int.reduceNeg, ↓reduceIte]
          · simp only [go_sem, Nat.reduceEqDiff, reduceCtorEq, Nat.reduceAdd, Nat.reduceSub, Nat.reduceMul, Nat.reduceLeDiff, Nat.reduceLT, Int.reduceLE, Int.reduceToNat, Int.reduceNeg, ↓reduceIte]
        · have hk : L.take i = L := List.take_of_length_le (by ((try dsimp only [Ty.den] at *) <;> (repeat' (first | apply And.intro | intro _)) <;> omega))
          rw [hk] at hsi
          have h1 : visitF f (k + 1) (num, ord) n = si := by rw [visitF_succ, hL, ← hsi, ← hs1]
          rw [h1]
          exact ev_finM hc [] rfl (.inr rfl) (.raw (.tuple #[])) rfl ⟨rfl, rfl⟩
end Go.Proofs.Ytfdkpbmofgkaoaa.Fw
