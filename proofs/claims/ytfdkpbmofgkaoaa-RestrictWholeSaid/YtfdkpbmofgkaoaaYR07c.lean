/- Functions of grammarlabref07: numbers. -/
import Derived.Test.YtfdkpbmofgkaoaaZJ
set_option linter.unusedVariables false
set_option linter.unusedSimpArgs false
namespace Go.Proofs.Ytfdkpbmofgkaoaa.Fw
open Go
attribute [local irreducible] Ev
attribute [local go_sem] cx_tb entEnv List.toList_toArray evSeq evG evK vcK guardOf guardT guardB_true guardB_false step1 step0 stepQ takesIn namesParts namesOf namesStore frzAll frz frz1 fixN frzEnv frzObjs drpEnv drpObjs AV.frz AV.frzs AV.drp AV.drps AV.names AV.namess aq qmap qPick qAlloc qBox qBuild qBuildSlice qBuildSlice2 qLoad qLoadB qLoadB2 qLoadE qLoadE2 qLoadE3 qFieldI qOff qPart qField qIndexA qIndex qIndexS qNil qBin qUn qConv qMake qMake2 qSlice qExtract qLen qAppend qAppend2 qAppend3 qMin qMax qCall qCall2 qCall3 qBuiltin qCallee aloud lStoreD lStore lStoreB lStoreB2 lStoreE lStoreE3 lStoreE4 lCallee lBuiltin lAppend lAppend2 lAppend3 lAppend4 opv lk constAV optAV sliceQ bin binI binS zf1 zfs pfs AV.cells nthOff loadB offB storeB notAg fitsT fitsO Ty.cell1 fieldOk partsT partsAg argsT asT asT1 asTs pairO srT castTo_self getF setF getP setP offP offF fldT rvAV rvObj rvAVs rvObjs resAV RV.flat Ty.flat Ty.size St.add upd del fresh Value.oneCell' refZ Ty.dflt sub_all sub_one sub_take sub_end List.take_succ_cons List.take_zero List.length_cons cast0 castS sub_app take_app sub_app1 take_app1 take_one1 natC zero_le_natC i64_min i64_max u64_min u64_max u8_min u8_max inK_i64 inK_u64 inK_u8 Option.map_some Option.map_none Option.bind_some Option.getD_some Option.getD_none Option.isNone_none Option.isNone_some Bool.and_true Bool.true_and Bool.and_false Bool.false_and Bool.not_true Bool.not_false if_true if_false List.length_cons List.length_nil and_true true_and and_self List.all_cons List.all_nil List.append_nil List.nil_append List.cons_append List.getElem?_cons_zero List.getElem?_cons_succ List.getElem?_nil List.map_cons List.map_nil List.set_cons_zero List.set_cons_succ List.isEmpty_nil List.isEmpty_cons decide_true decide_false beq_self_eq_true bne_self_eq_false Nat.zero_add Nat.add_zero Nat.sub_zero Int.toNat_natCast Int.toNat_zero Int.toNat_one List.take_length List.length_append List.length_singleton true_or or_true or_self false_or or_false Ty.agg.injEq Ty.slice.injEq Ty.prod.injEq Ty.int.injEq Option.some.injEq beq_iff_eq evM evMG evMQ opM isPick viewE viewS viewG opTs opTmp consE guardM guardM1 guardM2 sideM sideM2 pickM pickM2 sufB chEq memB dstOf Op.operands Call.operands List.filterMap_cons List.filterMap_nil List.append_eq Bool.cond_false_right Bool.cond_true_left cond_true cond_false implies_true decide_eq_true_eq beq_true beq_false Bool.or_true Bool.or_false Bool.true_or Bool.false_or Option.isSome_some fieldV namesAg namesAgs capNs qClo qClo2 qMakeMap qMakeMap2 qMakeMap3 qLook qLook2 qLook3 qLook4 keyT keyP eqT inB lMapUp lMapUp2 lMapUp3 namesMap argEnv cm_tb List.drop_zero pruneR prune rem1 afterM addDst fgtEnv AV.fgt AV.fgts Obj.fgt restObjs handed memB calleeOf opvs matchArgs matchArg List.any_cons List.any_nil evF evFO evFQ evFK addQ frOk qs List.flatMap_cons List.flatMap_nil List.cons_append tn appN fgtEN List.take_succ_cons List.drop_succ_cons isYl parEnv rangeSt cY_tb marked_tb renOk renIn matchObjs matchEnv matchE matchAV matchAVs matchF matchO
attribute [local go_sem] ty1 ty2 ty3 ty4 ty5 ty9 ty12 ty21 ty22 ty23 ty24 ty25 ty27 ty28 ty29 ty30 ty31 ty32 ty33 ty35 ty36 ty37 ty38 ty39 ty41 ty43 ty44 ty45 ty46 ty47 ty48 ty49 ty50 ty51 ty52 ty53 ty54 ty55 ty56 ty57 ty58 ty59 ty60 ty61 ty62 ty64 ty65 ty66 ty67 ty68 ty69 ty70 ty71 ty72 ty73 ty74 ty75 ty76 ty77 ty79 ty80 ty81 ty83 ty85 ty86 ty87 ty88 ty89 ty90 ty91 ty92 ty93 ty94 ty95 ty96 ty98 ty99 ty101 ty102 ty103 ty104 ty105 ty106 ty107 ty108 ty109 ty111 ty112 ty113 ty114 ty115 ty116 ty117 ty118 ty121 ty122 ty123 ty124 ty125 ty126 ty127 ty128 ty129 ty130 ty131 ty132 ty134 ty135 ty136 ty137 ty138 ty139 ty140 ty141 ty142 ty143 ty145 ty146 ty147 ty148 ty149 ty150 ty151 ty152 ty153 ty154 ty155 ty156 ty157 ty158 ty159 ty160 ty161 ty162 ty163 ty164 ty165 ty167 ty168 ty169 ty170 ty171 ty172 ty173 ty174 ty175 ty176 ty177 ty178 ty179 ty180 ty181 ty182 ty183 ty184 ty185 ty186 ty187 ty188 ty189 ty190 ty191 ty192 ty193 ty194 ty195 ty196 ty197 ty199 ty200 ty201 ty202 ty203 ty204 ty205 ty206 ty207 ty208 ty209 ty210 ty211 ty212 ty214 ty215 ty221 ty224 ty225
set_option maxRecDepth 100000
def numN (n : Int × List (Int × Int)) : List Int := n.1 :: (n.2.length : Int) :: n.2.flatMap fun a => [a.1, a.2]
def numbersF (f : List (Int × List (Int × Int))) : List Int := (f.length : Int) :: f.flatMap numN
def numP (l : List (Int × List (Int × Int))) (k : Nat) : List Int := (l.length : Int) :: (l.take k).flatMap numN
def numQ (l : List (Int × List (Int × Int))) (k j : Nat) : List Int := numP l k ++ [(l.getD k (0, [])).1, ((l.getD k (0, [])).2.length : Int)] ++ ((l.getD k (0, [])).2.take j).flatMap fun a => [a.1, a.2]
theorem pairs_len : ∀ l : List (Int × Int), (l.flatMap fun a => [a.1, a.2]).length = 2 * l.length
  | [] => rfl
  | x :: l => by simp [pairs_len l]; omega
theorem numN_len (n : Int × List (Int × Int)) : (numN n).length = 2 + 2 * n.2.length := by
  have := pairs_len n.2
  simp only [numN, List.length_cons]; omega
theorem flat_len : ∀ l : List (Int × List (Int × Int)), (∀ n ∈ l, n.2.length ≤ 100000) → (l.flatMap numN).length ≤ l.length * 200002
  | [], _ => by simp
  | x :: l, h => by
    have h1 := h x (by simp)
    have h2 := flat_len l (fun n hn => h n (by simp [hn]))
    have h3 := numN_len x
    simp only [List.flatMap_cons, List.length_append, List.length_cons]
    omega
theorem numP_len {l : List (Int × List (Int × Int))} (h : ∀ n ∈ l, n.2.length ≤ 100000) {k : Nat} (hk : k ≤ l.length) : (numP l k).length ≤ 1 + k * 200002 := by
  have h1 := flat_len (l.take k) (fun n hn => h n (List.mem_of_mem_take hn))
  rw [List.length_take, Nat.min_eq_left hk] at h1
  simp only [numP, List.length_cons]
  omega
theorem numQ_len {l : List (Int × List (Int × Int))} (h : ∀ n ∈ l, n.2.length ≤ 100000) {k j : Nat} (hk : k < l.length) (hj : j ≤ (l.getD k (0, [])).2.length) : (numQ l k j).length ≤ 3 + k * 200002 + 2 * j := by
  have h1 := numP_len h (Nat.le_of_lt hk)
  have h2 := pairs_len ((l.getD k (0, [])).2.take j)
  rw [List.length_take, Nat.min_eq_left hj] at h2
  simp only [numQ, List.length_append, List.length_cons, List.length_nil]
  omega
theorem numP_succ {l : List (Int × List (Int × Int))} {k : Nat} (hk : k < l.length) : numP l (k + 1) = numQ l k (l.getD k (0, [])).2.length := by
  unfold numP numQ
  rw [take_snoc l (0, []) hk, List.flatMap_append, List.take_length]
  simp [numN, numP]
theorem numQ_succ {l : List (Int × List (Int × Int))} {k j : Nat} (hj : j < (l.getD k (0, [])).2.length) : numQ l k (j + 1) = numQ l k j ++ [((l.getD k (0, [])).2.getD j (0, 0)).1, ((l.getD k (0, [])).2.getD j (0, 0)).2] := by
  unfold numQ
  rw [take_snoc _ (0, 0) hj, List.flatMap_append]
  simp
def numbersS : Spec := { ins := [T25], pre := fun (f, _) => f.length ≤ 100000 ∧ ∀ n ∈ f, n.2.length ≤ 100000, out := fun (f, _) => [.p T41 (numbersF f)] }
theorem numbers_ok : FnOk Try.prog 66 numbersS := by
  refine fn_ok Try.func66 (by kernel_rfl) rfl Try.ntmps66 (by decide) (by kernel_rfl) (tyTab_ok []) fns_nil ?_
  rintro w0 O0 ⟨l, u⟩ hc ⟨hl, -⟩ ⟨hp1, hp2⟩
  simp only [numbersS, entEnv]
  repeat' (first | exact trivial | refine ev_seq ?_ | refine ev_skip ?_ | refine ev_ret ?_ | refine ev_exit ?_ | refine ev_block ?_ | refine ev_out_seq ?_ | refine ev_exit_seq ?_ | refine ev_ret_seq ?_ | refine ev_out_blk ?_ | refine ev_ret_blk ?_ | refine ev_exit_eq ?_ | refine ev_exit_ne (by decide) ?_ | refine ev_exit_inv ?_ | refine ev_ret_inv ?_ | refine ev_out_inv ?_ | refine rP [0, 1, 2, 3, 4, 5, 6, 15, 38] hc ?_ ?_ | refine rA [0, 1, 2, 3, 4, 5, 6, 15, 38] hc ?_ ?_ | refine rD [0, 1, 2, 3, 4, 5, 6, 15, 38] hc ?_ ?_ | refine rT [0, 1, 2, 3, 4, 5, 6, 15, 38] 1 hc ?_ ?_ | refine rT [0, 1, 2, 3, 4, 5, 6, 15, 38] 2 hc ?_ ?_ | refine rT [0, 1, 2, 3, 4, 5, 6, 15, 38] 3 hc ?_ ?_ | (refine rC (fun hcond => ?_) (fun hcond => ?_) <;> try (cases hcond; done)))
  refine ev_loop (ι := {k : Nat // k ≤ l.length}) (fun k => ⟨[(0, .p T25 l), (1, .bp 1 [] 0), (3, .sr 10 T3 0 (numP l k.1).length), (4, .p (.int .i64) (k.1 : Int))], [(1, .box 25 true [.p T23 l]), (10, .arr 3 T3 (numP l k.1))]⟩) (fun k => l.length - k.1) ⟨0, by simp⟩ (ent_match [(1, .nm 1), (10, .nm 10)] rfl rfl ?_ ?_) (fun k => ?_)
  · simp only [go_sem, Nat.reduceEqDiff, reduceCtorEq, Nat.reduceAdd, Nat.reduceSub, Nat.reduceMul, Nat.reduceLeDiff, Nat.reduceLT, Int.reduceLE, Int.reduceToNat, Int.reduceNeg, ↓reduceIte]
    rfl
  · simp only [go_sem, Nat.reduceEqDiff, reduceCtorEq, Nat.reduceAdd, Nat.reduceSub, Nat.reduceMul, Nat.reduceLeDiff, Nat.reduceLT, Int.reduceLE, Int.reduceToNat, Int.reduceNeg, ↓reduceIte]
    rfl
  · obtain ⟨k, hk⟩ := k
    have hn1 := numP_len hp2 hk
    repeat' (first | exact trivial | refine ev_seq ?_ | refine ev_skip ?_ | refine ev_ret ?_ | refine ev_exit ?_ | refine ev_block ?_ | refine ev_out_seq ?_ | refine ev_exit_seq ?_ | refine ev_ret_seq ?_ | refine ev_out_blk ?_ | refine ev_ret_blk ?_ | refine ev_exit_eq ?_ | refine ev_exit_ne (by decide) ?_ | refine ev_exit_inv ?_ | refine ev_ret_inv ?_ | refine ev_out_inv ?_ | refine rP [0, 1, 2, 3, 4, 5, 6, 15, 38] hc ?_ ?_ | refine rA [0, 1, 2, 3, 4, 5, 6, 15, 38] hc ?_ ?_ | refine rD [0, 1, 2, 3, 4, 5, 6, 15, 38] hc ?_ ?_ | refine rT [0, 1, 2, 3, 4, 5, 6, 15, 38] 1 hc ?_ ?_ | refine rT [0, 1, 2, 3, 4, 5, 6, 15, 38] 2 hc ?_ ?_ | refine rT [0, 1, 2, 3, 4, 5, 6, 15, 38] 3 hc ?_ ?_ | (refine rC (fun hcond => ?_) (fun hcond => ?_) <;> try (cases hcond; done)))
    · ((try dsimp only [Ty.den] at *) <;> (repeat' (first | apply And.intro | intro _)) <;> omega)
    · refine ⟨by ((try dsimp only [Ty.den] at *) <;> (repeat' (first | apply And.intro | intro _)) <;> omega), ?_⟩
      simp only [maxN]; ((try dsimp only [Ty.den] at *) <;> (repeat' (first | apply And.intro | intro _)) <;> omega)
    · have hkl : k < l.length := by ((try dsimp only [Ty.den] at *) <;> (repeat' (first | apply And.intro | intro _)) <;> omega)
      have hp3 := hp2 _ (mem_of_take_succ l (0, []) hkl)
      refine ev_loop (ι := {j : Nat // j ≤ (l.getD k (0, [])).2.length}) (fun j => ⟨[(0, .p T25 l), (1, .bp 1 [] 0), (3, .sr 10 T3 0 (numQ l k j.1).length), (4, .p (.int .i64) (k : Int)), (5, .p T57 (l.getD k (0, [])).2), (6, .p (.int .i64) (j.1 : Int))], [(1, .box 25 true [.p T23 l]), (10, .arr 3 T3 (numQ l k j.1))]⟩) (fun j => (l.getD k (0, [])).2.length - j.1) ⟨0, by simp⟩ (ent_match [(1, .nm 1), (10, .nm 10)] rfl rfl ?_ ?_) (fun j => ?_)
      · simp only [go_sem, Nat.reduceEqDiff, reduceCtorEq, Nat.reduceAdd, Nat.reduceSub, Nat.reduceMul, Nat.reduceLeDiff, Nat.reduceLT, Int.reduceLE, Int.reduceToNat, Int.reduceNeg, ↓reduceIte]
        simp [numQ]
      · simp only [go_sem, Nat.reduceEqDiff, reduceCtorEq, Nat.reduceAdd, Nat.reduceSub, Nat.reduceMul, Nat.reduceLeDiff, Nat.reduceLT, Int.reduceLE, Int.reduceToNat, Int.reduceNeg, ↓reduceIte]
        simp [numQ]
      · obtain ⟨j, hj⟩ := j
        have hn2 := numQ_len hp2 hkl hj
        repeat' (first | exact trivial | refine ev_seq ?_ | refine ev_skip ?_ | refine ev_ret ?_ | refine ev_exit ?_ | refine ev_block ?_ | refine ev_out_seq ?_ | refine ev_exit_seq ?_ | refine ev_ret_seq ?_ | refine ev_out_blk ?_ | refine ev_ret_blk ?_ | refine ev_exit_eq ?_ | refine ev_exit_ne (by decide) ?_ | refine ev_exit_inv ?_ | refine ev_ret_inv ?_ | refine ev_out_inv ?_ | refine rP [0, 1, 2, 3, 4, 5, 6, 15, 38] hc ?_ ?_ | refine rA [0, 1, 2, 3, 4, 5, 6, 15, 38] hc ?_ ?_ | refine rD [0, 1, 2, 3, 4, 5, 6, 15, 38] hc ?_ ?_ | refine rT [0, 1, 2, 3, 4, 5, 6, 15, 38] 1 hc ?_ ?_ | refine rT [0, 1, 2, 3, 4, 5, 6, 15, 38] 2 hc ?_ ?_ | refine rT [0, 1, 2, 3, 4, 5, 6, 15, 38] 3 hc ?_ ?_ | (refine rC (fun hcond => ?_) (fun hcond => ?_) <;> try (cases hcond; done)))
        · refine ⟨by ((try dsimp only [Ty.den] at *) <;> (repeat' (first | apply And.intro | intro _)) <;> omega), by ((try dsimp only [Ty.den] at *) <;> (repeat' (first | apply And.intro | intro _)) <;> omega), ?_⟩
          simp only [maxN]; ((try dsimp only [Ty.den] at *) <;> (repeat' (first | apply And.intro | intro _)) <;> omega)
        · ((try dsimp only [Ty.den] at *) <;> (repeat' (first | apply And.intro | intro _)) <;> omega)
        · have hjl : j < (l.getD k (0, [])).2.length := by ((try dsimp only [Ty.den] at *) <;> (repeat' (first | apply And.intro | intro _)) <;> omega)
          refine ⟨⟨j + 1, by ((try dsimp only [Ty.den] at *) <;> (repeat' (first | apply And.intro | intro _)) <;> omega)⟩, by simp only; ((try dsimp only [Ty.den] at *) <;> (repeat' (first | apply And.intro | intro _)) <;> omega), ent_match [(1, .nm 1), (10, .nm 10)] rfl rfl ?_ ?_⟩
          · simp only [go_sem, Nat.reduceEqDiff, reduceCtorEq, Nat.reduceAdd, Nat.reduceSub, Nat.reduceMul, Nat.reduceLeDiff, Nat.reduceLT, Int.reduceLE, Int.reduceToNat, Int.reduceNeg, ↓reduceIte]
            exact (numQ_succ hjl).symm
          · simp only [go_sem, Nat.reduceEqDiff, reduceCtorEq, Nat.reduceAdd, Nat.reduceSub, Nat.reduceMul, Nat.reduceLeDiff, Nat.reduceLT, Int.reduceLE, Int.reduceToNat, Int.reduceNeg, ↓reduceIte]
            have := congrArg List.length (numQ_succ (l := l) hjl)
            rw [List.length_append] at this
            exact this.symm
        · ((try dsimp only [Ty.den] at *) <;> (repeat' (first | apply And.intro | intro _)) <;> omega)
        · have hjk : j = (l.getD k (0, [])).2.length := by ((try dsimp only [Ty.den] at *) <;> (repeat' (first | apply And.intro | intro _)) <;> omega)
          subst hjk
          refine ⟨⟨k + 1, by ((try dsimp only [Ty.den] at *) <;> (repeat' (first | apply And.intro | intro _)) <;> omega)⟩, by simp only; ((try dsimp only [Ty.den] at *) <;> (repeat' (first | apply And.intro | intro _)) <;> omega), ent_match [(1, .nm 1), (10, .nm 10)] rfl rfl ?_ ?_⟩
          · simp only [go_sem, Nat.reduceEqDiff, reduceCtorEq, Nat.reduceAdd, Nat.reduceSub, Nat.reduceMul, Nat.reduceLeDiff, Nat.reduceLT, Int.reduceLE, Int.reduceToNat, Int.reduceNeg, ↓reduceIte]
            exact (numP_succ hkl).symm
          · simp only [go_sem, Nat.reduceEqDiff, reduceCtorEq, Nat.reduceAdd, Nat.reduceSub, Nat.reduceMul, Nat.reduceLeDiff, Nat.reduceLT, Int.reduceLE, Int.reduceToNat, Int.reduceNeg, ↓reduceIte]
            exact congrArg List.length (numP_succ hkl).symm
    · have hk : l.take k = l := List.take_of_length_le (by ((try dsimp only [Ty.den] at *) <;> (repeat' (first | apply And.intro | intro _)) <;> omega))
      have h1 : numP l k = numbersF l := by unfold numP numbersF; rw [hk]
      exact ev_fin hc [.tmp 2] rfl (.inl rfl) (by simp) (by simp only [retIs, resIs, resV, resLoad, avNames, pureOf, ownOf, go_sem, Nat.reduceEqDiff, reduceCtorEq, Nat.reduceAdd, Nat.reduceSub, Nat.reduceMul, Nat.reduceLeDiff, Nat.reduceLT, Int.reduceLE, Int.reduceToNat, Int.reduceNeg, ↓reduceIte]; exact h1)
end Go.Proofs.Ytfdkpbmofgkaoaa.Fw
