/- The law RestrictWhole. -/
import Derived.Test.YtfdkpbmofgkaoaaYW1
set_option linter.unusedVariables false
set_option linter.unusedSimpArgs false
namespace Go.Proofs.Ytfdkpbmofgkaoaa.Fw
open Go
def law9S : Spec := { ins := [T25], pre := fun _ => True, out := fun _ => [.p .bool true] }
attribute [local go_sem] law9S
def pathsP (f : List GNode) (i k : Nat) : List (List Int) := pathsA f i ++ ((f.getD i (0, [])).2.take k).map fun a => (firstF f).getD i [] ++ [a.1]
theorem pathsP_zero (f : List GNode) (i : Nat) : pathsP f i 0 = pathsA f i := by simp [pathsP]
theorem pathsP_succ (f : List GNode) (i : Nat) {k : Nat} (h : k < (f.getD i (0, [])).2.length) : pathsP f i (k + 1) = pathsP f i k ++ [(firstF f).getD i [] ++ [((f.getD i (0, [])).2.getD k (0, 0)).1]] := by
  unfold pathsP
  rw [take_snoc _ (0, 0) h, List.map_append, List.append_assoc]
  rfl
theorem pathsP_all (f : List GNode) (i : Nat) {k : Nat} (h : (f.getD i (0, [])).2.length ≤ k) : pathsP f i k = pathsA f (i + 1) := by
  unfold pathsP
  rw [List.take_of_length_le h, pathsA_succ]
  rfl
theorem pathsA_len {f : List GNode} (h : ∀ x ∈ f, x.2.length ≤ 12) : ∀ i, (pathsA f i).length ≤ 12 * i
  | 0 => by simp [pathsA]
  | i + 1 => by
    rw [pathsA_succ, List.length_append]
    have h1 := pathsA_len h i
    have h2 : (pathsN f i).length ≤ 12 := by
      unfold pathsN
      rw [List.length_map]
      by_cases hi : i < f.length
      · exact h _ (mem_of_take_succ f (0, []) hi)
      · rw [List.getD_eq_getElem?_getD, List.getElem?_eq_none (by omega)]
        simp
    omega
theorem pathsP_len {f : List GNode} (h : ∀ x ∈ f, x.2.length ≤ 12) (i k : Nat) : (pathsP f i k).length ≤ 12 * i + k := by
  unfold pathsP
  have h1 := pathsA_len h i
  have h2 := List.length_take_le k (f.getD i (0, [])).2
  rw [List.length_append, List.length_map]
  omega
attribute [local irreducible] Ev
attribute [local go_sem] cx_tb entEnv List.toList_toArray evSeq evG evK vcK guardOf guardT guardB_true guardB_false step1 step0 stepQ takesIn namesParts namesOf namesStore frzAll frz frz1 fixN frzEnv frzObjs drpEnv drpObjs AV.frz AV.frzs AV.drp AV.drps AV.names AV.namess aq qmap qPick qAlloc qBox qBuild qBuildSlice qBuildSlice2 qLoad qLoadB qLoadB2 qLoadE qLoadE2 qLoadE3 qFieldI qOff qPart qField qIndexA qIndex qIndexS qNil qBin qUn qConv qMake qMake2 qSlice qExtract qLen qAppend qAppend2 qAppend3 qMin qMax qCall qCall2 qCall3 qBuiltin qCallee aloud lStoreD lStore lStoreB lStoreB2 lStoreE lStoreE3 lStoreE4 lCallee lBuiltin lAppend lAppend2 lAppend3 lAppend4 opv lk constAV optAV sliceQ bin binI binS zf1 zfs pfs AV.cells nthOff loadB offB storeB notAg fitsT fitsO Ty.cell1 fieldOk partsT partsAg argsT asT asT1 asTs pairO srT castTo_self getF setF getP setP offP offF fldT rvAV rvObj rvAVs rvObjs resAV RV.flat Ty.flat Ty.size St.add upd del fresh Value.oneCell' refZ Ty.dflt sub_all sub_one sub_take sub_end List.take_succ_cons List.take_zero List.length_cons cast0 castS sub_app take_app sub_app1 take_app1 take_one1 natC zero_le_natC i64_min i64_max u64_min u64_max u8_min u8_max inK_i64 inK_u64 inK_u8 Option.map_some Option.map_none Option.bind_some Option.getD_some Option.getD_none Option.isNone_none Option.isNone_some Bool.and_true Bool.true_and Bool.and_false Bool.false_and Bool.not_true Bool.not_false if_true if_false List.length_cons List.length_nil and_true true_and and_self List.all_cons List.all_nil List.append_nil List.nil_append List.cons_append List.getElem?_cons_zero List.getElem?_cons_succ List.getElem?_nil List.map_cons List.map_nil List.set_cons_zero List.set_cons_succ List.isEmpty_nil List.isEmpty_cons decide_true decide_false beq_self_eq_true bne_self_eq_false Nat.zero_add Nat.add_zero Nat.sub_zero Int.toNat_natCast Int.toNat_zero Int.toNat_one List.take_length List.length_append List.length_singleton true_or or_true or_self false_or or_false Ty.agg.injEq Ty.slice.injEq Ty.prod.injEq Ty.int.injEq Option.some.injEq beq_iff_eq evM evMG evMQ opM isPick viewE viewS viewG opTs opTmp consE guardM guardM1 guardM2 sideM sideM2 pickM pickM2 sufB chEq memB dstOf Op.operands Call.operands List.filterMap_cons List.filterMap_nil List.append_eq Bool.cond_false_right Bool.cond_true_left cond_true cond_false implies_true decide_eq_true_eq beq_true beq_false Bool.or_true Bool.or_false Bool.true_or Bool.false_or Option.isSome_some fieldV namesAg namesAgs capNs qClo qClo2 qMakeMap qMakeMap2 qMakeMap3 qLook qLook2 qLook3 qLook4 keyT keyP eqT inB lMapUp lMapUp2 lMapUp3 namesMap argEnv cm_tb List.drop_zero pruneR prune rem1 afterM addDst fgtEnv AV.fgt AV.fgts Obj.fgt restObjs handed memB calleeOf opvs matchArgs matchArg List.any_cons List.any_nil evF evFO evFQ evFK addQ frOk qs List.flatMap_cons List.flatMap_nil List.cons_append tn appN fgtEN List.take_succ_cons List.drop_succ_cons isYl parEnv rangeSt cY_tb marked_tb renOk renIn matchObjs matchEnv matchE matchAV matchAVs matchF matchO
attribute [local go_sem] ty1 ty2 ty3 ty4 ty5 ty9 ty12 ty21 ty22 ty23 ty24 ty25 ty27 ty28 ty29 ty30 ty31 ty32 ty33 ty35 ty36 ty37 ty38 ty39 ty41 ty43 ty44 ty45 ty46 ty47 ty48 ty49 ty50 ty51 ty52 ty53 ty54 ty55 ty56 ty57 ty58 ty59 ty60 ty61 ty62 ty64 ty65 ty66 ty67 ty68 ty69 ty70 ty71 ty72 ty73 ty74 ty75 ty76 ty77 ty79 ty80 ty81 ty83 ty85 ty86 ty87 ty88 ty89 ty90 ty91 ty92 ty93 ty94 ty95 ty96 ty98 ty99 ty101 ty102 ty103 ty104 ty105 ty106 ty107 ty108 ty109 ty111 ty112 ty113 ty114 ty115 ty116 ty117 ty118 ty121 ty122 ty123 ty124 ty125 ty126 ty127 ty128 ty129 ty130 ty131 ty132 ty134 ty135 ty136 ty137 ty138 ty139 ty140 ty141 ty142 ty143 ty145 ty146 ty147 ty148 ty149 ty150 ty151 ty152 ty153 ty154 ty155 ty156 ty157 ty158 ty159 ty160 ty161 ty162 ty163 ty164 ty165 ty167 ty168 ty169 ty170 ty171 ty172 ty173 ty174 ty175 ty176 ty177 ty178 ty179 ty180 ty181 ty182 ty183 ty184 ty185 ty186 ty187 ty188 ty189 ty190 ty191 ty192 ty193 ty194 ty195 ty196 ty197 ty199 ty200 ty201 ty202 ty203 ty204 ty205 ty206 ty207 ty208 ty209 ty210 ty211 ty212 ty214 ty215 ty221 ty224 ty225
attribute [local go_sem] canonical15S exS pdropS equalS pdepthS pkeepS firstS atomS
set_option maxRecDepth 100000
set_option maxHeartbeats 4000000
theorem law9_ok : FnOk Try.prog 9 law9S := by
  refine fn_ok Try.func9 (by kernel_rfl) rfl Try.ntmps9 (by decide) (by kernel_rfl) (tyTab_ok [(20, canonical15S), (21, exS), (22, pdropS), (27, pdepthS), (25, pkeepS), (29, firstS), (16, equalS), (15, atomS)] [48]) (fns_cons canonical15_ok (fns_cons ex_ok (fns_cons pdrop_ok (fns_cons pdepth_ok (fns_cons pkeep_ok (fns_cons first_ok (fns_cons equal_ok (fns_cons atom_ok fns_nil)))))))) ?_
  rintro w0 O0 ⟨f, u⟩ hc - -
  simp only [law9S, entEnv]
  repeat' (first | exact trivial | refine ev_seq ?_ | refine ev_skip ?_ | refine ev_ret ?_ | refine ev_exit ?_ | refine ev_block ?_ | refine ev_out_seq ?_ | refine ev_exit_seq ?_ | refine ev_ret_seq ?_ | refine ev_out_blk ?_ | refine ev_ret_blk ?_ | refine ev_exit_eq ?_ | refine ev_exit_ne (by decide) ?_ | refine ev_exit_inv ?_ | refine ev_ret_inv ?_ | refine ev_out_inv ?_ | refine rP [0, 1, 2, 3, 4, 5, 6, 9, 17, 28] hc ?_ ?_ | refine rA [0, 1, 2, 3, 4, 5, 6, 9, 17, 28] hc ?_ ?_ | refine rD [0, 1, 2, 3, 4, 5, 6, 9, 17, 28] hc ?_ ?_ | refine rT [0, 1, 2, 3, 4, 5, 6, 9, 17, 28] 1 hc ?_ ?_ | refine rT [0, 1, 2, 3, 4, 5, 6, 9, 17, 28] 2 hc ?_ ?_ | refine rT [0, 1, 2, 3, 4, 5, 6, 9, 17, 28] 3 hc ?_ ?_ | (refine rC (fun hcond => ?_) (fun hcond => ?_) <;> try (cases hcond; done)))
  · exact ev_fin hc [.tmp 2] rfl (.inl rfl) (by simp) (by simp only [retIs, resIs, resV, resLoad, avNames, pureOf, ownOf, go_sem, Nat.reduceEqDiff, reduceCtorEq, Nat.reduceAdd, Nat.reduceSub, Nat.reduceMul, Nat.reduceLeDiff, Nat.reduceLT, Int.reduceLE, Int.reduceToNat, Int.reduceNeg, ↓reduceIte])
  · obtain ⟨h1, h2, h3, _⟩ := canonical_good hcond
    exact ⟨h1, h3⟩
  · have hcan := hcond
    obtain ⟨hg, hs, h0, hli⟩ := canonical_good hcan
    obtain ⟨hli1, hli2⟩ := light_small hli
    have hfl := firstF_len hg h0
    refine ev_loop (ι := {i : Nat // i ≤ f.length}) (fun i => ⟨[(1, .bp 1 [] 0), (3, .sr 51 T41 0 (pathsA f i.1).length), (4, .p T50 (firstF f)), (5, .p (.int .i64) (i.1 : Int))], [(1, .box 25 true [.p T23 f]), (51, .arr 41 T41 (pathsA f i.1))]⟩) (fun i => f.length - i.1) ⟨0, by omega⟩ (ent_match [(1, .nm 1), (51, .nil)] rfl rfl ?_ ?_) (fun i => ?_)
    · simp only [go_sem, Nat.reduceEqDiff, reduceCtorEq, Nat.reduceAdd, Nat.reduceSub, Nat.reduceMul, Nat.reduceLeDiff, Nat.reduceLT, Int.reduceLE, Int.reduceToNat, Int.reduceNeg, ↓reduceIte]
      rfl
    · simp only [go_sem, Nat.reduceEqDiff, reduceCtorEq, Nat.reduceAdd, Nat.reduceSub, Nat.reduceMul, Nat.reduceLeDiff, Nat.reduceLT, Int.reduceLE, Int.reduceToNat, Int.reduceNeg, ↓reduceIte]
      rfl
    · obtain ⟨i, hi⟩ := i
      have hpl := pathsA_len hli2 i
      simp only
      repeat' (first | exact trivial | refine ev_seq ?_ | refine ev_skip ?_ | refine ev_ret ?_ | refine ev_exit ?_ | refine ev_block ?_ | refine ev_out_seq ?_ | refine ev_exit_seq ?_ | refine ev_ret_seq ?_ | refine ev_out_blk ?_ | refine ev_ret_blk ?_ | refine ev_exit_eq ?_ | refine ev_exit_ne (by decide) ?_ | refine ev_exit_inv ?_ | refine ev_ret_inv ?_ | refine ev_out_inv ?_ | refine rP [0, 1, 2, 3, 4, 5, 6, 9, 17, 28] hc ?_ ?_ | refine rA [0, 1, 2, 3, 4, 5, 6, 9, 17, 28] hc ?_ ?_ | refine rD [0, 1, 2, 3, 4, 5, 6, 9, 17, 28] hc ?_ ?_ | refine rT [0, 1, 2, 3, 4, 5, 6, 9, 17, 28] 1 hc ?_ ?_ | refine rT [0, 1, 2, 3, 4, 5, 6, 9, 17, 28] 2 hc ?_ ?_ | refine rT [0, 1, 2, 3, 4, 5, 6, 9, 17, 28] 3 hc ?_ ?_ | (refine rC (fun hcond => ?_) (fun hcond => ?_) <;> try (cases hcond; done)))
      · have hif : i < f.length := by ((try dsimp only [Ty.den] at *) <;> (repeat' (first | apply And.intro | intro _)) <;> omega)
        have hA12 : (f.getD i (0, [])).2.length ≤ 12 := hli2 _ (mem_of_take_succ f (0, []) hif)
        have hfi : ((firstF f).getD i []).length < f.length := by
          obtain ⟨_, _, _, _, c4⟩ := first_law hg hs h0
          exact c4 _ (mem_of_take_succ (firstF f) [] (by omega))
        refine ev_loop (ι := {k : Nat // k ≤ (f.getD i (0, [])).2.length}) (fun k => ⟨[(1, .bp 1 [] 0), (3, .sr 51 T41 0 (pathsP f i k.1).length), (4, .p T50 (firstF f)), (5, .p (.int .i64) (i : Int)), (6, .p (.int .i64) (k.1 : Int))], [(1, .box 25 true [.p T23 f]), (51, .arr 41 T41 (pathsP f i k.1))]⟩) (fun k => (f.getD i (0, [])).2.length - k.1) ⟨0, by omega⟩ (ent_match [(1, .nm 1), (51, .nm 51)] rfl rfl ?_ ?_) (fun k => ?_)
        · simp only [pathsP_zero]
          simp only [go_sem, Nat.reduceEqDiff, reduceCtorEq, Nat.reduceAdd, Nat.reduceSub, Nat.reduceMul, Nat.reduceLeDiff, Nat.reduceLT, Int.reduceLE, Int.reduceToNat, Int.reduceNeg, ↓reduceIte]
        · simp only [pathsP_zero]
          simp only [go_sem, Nat.reduceEqDiff, reduceCtorEq, Nat.reduceAdd, Nat.reduceSub, Nat.reduceMul, Nat.reduceLeDiff, Nat.reduceLT, Int.reduceLE, Int.reduceToNat, Int.reduceNeg, ↓reduceIte]
        · obtain ⟨k, hk⟩ := k
          have hpp := pathsP_len hli2 i k
          simp only
          repeat' (first | exact trivial | refine ev_seq ?_ | refine ev_skip ?_ | refine ev_ret ?_ | refine ev_exit ?_ | refine ev_block ?_ | refine ev_out_seq ?_ | refine ev_exit_seq ?_ | refine ev_ret_seq ?_ | refine ev_out_blk ?_ | refine ev_ret_blk ?_ | refine ev_exit_eq ?_ | refine ev_exit_ne (by decide) ?_ | refine ev_exit_inv ?_ | refine ev_ret_inv ?_ | refine ev_out_inv ?_ | refine rP [0, 1, 2, 3, 4, 5, 6, 9, 17, 28] hc ?_ ?_ | refine rA [0, 1, 2, 3, 4, 5, 6, 9, 17, 28] hc ?_ ?_ | refine rD [0, 1, 2, 3, 4, 5, 6, 9, 17, 28] hc ?_ ?_ | refine rT [0, 1, 2, 3, 4, 5, 6, 9, 17, 28] 1 hc ?_ ?_ | refine rT [0, 1, 2, 3, 4, 5, 6, 9, 17, 28] 2 hc ?_ ?_ | refine rT [0, 1, 2, 3, 4, 5, 6, 9, 17, 28] 3 hc ?_ ?_ | (refine rC (fun hcond => ?_) (fun hcond => ?_) <;> try (cases hcond; done)))
          · ((try dsimp only [Ty.den] at *) <;> (repeat' (first | apply And.intro | intro _)) <;> omega)
          · have hkA : k < (f.getD i (0, [])).2.length := by ((try dsimp only [Ty.den] at *) <;> (repeat' (first | apply And.intro | intro _)) <;> omega)
            refine ev_mix drawsAny hc 21 [([1, 2, 3, 4, 5], 6), ([7, 8, 9, 10, 11, 12, 13, 14, 15, 16, 17], 18), ([], 19), ([0], 20)] [] (by kernel_rfl) (mix_step (by simp only [go_sem, Nat.reduceEqDiff, reduceCtorEq, Nat.reduceAdd, Nat.reduceSub, Nat.reduceMul, Nat.reduceLeDiff, Nat.reduceLT, Int.reduceLE, Int.reduceToNat, Int.reduceNeg, ↓reduceIte]; rfl) ?_ rfl rfl (by simp only [go_sem, Nat.reduceEqDiff, reduceCtorEq, Nat.reduceAdd, Nat.reduceSub, Nat.reduceMul, Nat.reduceLeDiff, Nat.reduceLT, Int.reduceLE, Int.reduceToNat, Int.reduceNeg, ↓reduceIte]; rfl) (by simp only [go_sem, Nat.reduceEqDiff, reduceCtorEq, Nat.reduceAdd, Nat.reduceSub, Nat.reduceMul, Nat.reduceLeDiff, Nat.reduceLT, Int.reduceLE, Int.reduceToNat, Int.reduceNeg, ↓reduceIte]; rfl) ?_)
            · exact ⟨by rw [hfl]; ((try dsimp only [Ty.den] at *) <;> (repeat' (first | apply And.intro | intro _)) <;> omega), by ((try dsimp only [Ty.den] at *) <;> (repeat' (first | apply And.intro | intro _)) <;> omega), hcond⟩
            · refine loud_step hc [32] (by simp only [go_sem, Nat.reduceEqDiff, reduceCtorEq, Nat.reduceAdd, Nat.reduceSub, Nat.reduceMul, Nat.reduceLeDiff, Nat.reduceLT, Int.reduceLE, Int.reduceToNat, Int.reduceNeg, ↓reduceIte]; rfl) (by simp only [go_sem, Nat.reduceEqDiff, reduceCtorEq, Nat.reduceAdd, Nat.reduceSub, Nat.reduceMul, Nat.reduceLeDiff, Nat.reduceLT, Int.reduceLE, Int.reduceToNat, Int.reduceNeg, ↓reduceIte]) rfl rfl rfl (by simp only [go_sem, Nat.reduceEqDiff, reduceCtorEq, Nat.reduceAdd, Nat.reduceSub, Nat.reduceMul, Nat.reduceLeDiff, Nat.reduceLT, Int.reduceLE, Int.reduceToNat, Int.reduceNeg, ↓reduceIte]) rfl ?_ ?_
              · simp only [maxN]; omega
              · refine mix_step (by simp only [go_sem, Nat.reduceEqDiff, reduceCtorEq, Nat.reduceAdd, Nat.reduceSub, Nat.reduceMul, Nat.reduceLeDiff, Nat.reduceLT, Int.reduceLE, Int.reduceToNat, Int.reduceNeg, ↓reduceIte]; rfl) ?_ rfl rfl (by simp only [go_sem, Nat.reduceEqDiff, reduceCtorEq, Nat.reduceAdd, Nat.reduceSub, Nat.reduceMul, Nat.reduceLeDiff, Nat.reduceLT, Int.reduceLE, Int.reduceToNat, Int.reduceNeg, ↓reduceIte]; rfl) (by simp only [go_sem, Nat.reduceEqDiff, reduceCtorEq, Nat.reduceAdd, Nat.reduceSub, Nat.reduceMul, Nat.reduceLeDiff, Nat.reduceLT, Int.reduceLE, Int.reduceToNat, Int.reduceNeg, ↓reduceIte]; rfl) ?_
                · exact ⟨by ((try dsimp only [Ty.den] at *) <;> (repeat' (first | apply And.intro | intro _)) <;> omega), hcond⟩
                · refine loud_step hc [32] (by simp only [go_sem, Nat.reduceEqDiff, reduceCtorEq, Nat.reduceAdd, Nat.reduceSub, Nat.reduceMul, Nat.reduceLeDiff, Nat.reduceLT, Int.reduceLE, Int.reduceToNat, Int.reduceNeg, ↓reduceIte]; rfl) (by simp only [go_sem, Nat.reduceEqDiff, reduceCtorEq, Nat.reduceAdd, Nat.reduceSub, Nat.reduceMul, Nat.reduceLeDiff, Nat.reduceLT, Int.reduceLE, Int.reduceToNat, Int.reduceNeg, ↓reduceIte]) rfl rfl rfl (by simp only [go_sem, Nat.reduceEqDiff, reduceCtorEq, Nat.reduceAdd, Nat.reduceSub, Nat.reduceMul, Nat.reduceLeDiff, Nat.reduceLT, Int.reduceLE, Int.reduceToNat, Int.reduceNeg, ↓reduceIte]) rfl ?_ ?_
                  · simp only [maxN]; omega
                  · refine mix_step (by simp only [go_sem, Nat.reduceEqDiff, reduceCtorEq, Nat.reduceAdd, Nat.reduceSub, Nat.reduceMul, Nat.reduceLeDiff, Nat.reduceLT, Int.reduceLE, Int.reduceToNat, Int.reduceNeg, ↓reduceIte]; rfl) ?_ rfl rfl (by simp only [go_sem, Nat.reduceEqDiff, reduceCtorEq, Nat.reduceAdd, Nat.reduceSub, Nat.reduceMul, Nat.reduceLeDiff, Nat.reduceLT, Int.reduceLE, Int.reduceToNat, Int.reduceNeg, ↓reduceIte]; rfl) (by simp only [go_sem, Nat.reduceEqDiff, reduceCtorEq, Nat.reduceAdd, Nat.reduceSub, Nat.reduceMul, Nat.reduceLeDiff, Nat.reduceLT, Int.reduceLE, Int.reduceToNat, Int.reduceNeg, ↓reduceIte]; rfl) ?_
                    · trivial
                    · refine loud_step hc [32] (by simp only [go_sem, Nat.reduceEqDiff, reduceCtorEq, Nat.reduceAdd, Nat.reduceSub, Nat.reduceMul, Nat.reduceLeDiff, Nat.reduceLT, Int.reduceLE, Int.reduceToNat, Int.reduceNeg, ↓reduceIte]; rfl) (by simp only [go_sem, Nat.reduceEqDiff, reduceCtorEq, Nat.reduceAdd, Nat.reduceSub, Nat.reduceMul, Nat.reduceLeDiff, Nat.reduceLT, Int.reduceLE, Int.reduceToNat, Int.reduceNeg, ↓reduceIte]) rfl rfl rfl (by simp only [go_sem, Nat.reduceEqDiff, reduceCtorEq, Nat.reduceAdd, Nat.reduceSub, Nat.reduceMul, Nat.reduceLeDiff, Nat.reduceLT, Int.reduceLE, Int.reduceToNat, Int.reduceNeg, ↓reduceIte]) rfl ?_ ?_
                      · trivial
                      · refine mix_step (by simp only [go_sem, Nat.reduceEqDiff, reduceCtorEq, Nat.reduceAdd, Nat.reduceSub, Nat.reduceMul, Nat.reduceLeDiff, Nat.reduceLT, Int.reduceLE, Int.reduceToNat, Int.reduceNeg, ↓reduceIte]; rfl) ?_ rfl rfl (by simp only [go_sem, Nat.reduceEqDiff, reduceCtorEq, Nat.reduceAdd, Nat.reduceSub, Nat.reduceMul, Nat.reduceLeDiff, Nat.reduceLT, Int.reduceLE, Int.reduceToNat, Int.reduceNeg, ↓reduceIte]; rfl) (by simp only [go_sem, Nat.reduceEqDiff, reduceCtorEq, Nat.reduceAdd, Nat.reduceSub, Nat.reduceMul, Nat.reduceLeDiff, Nat.reduceLT, Int.reduceLE, Int.reduceToNat, Int.reduceNeg, ↓reduceIte]; rfl) ?_
                        · trivial
                        · refine loud_step hc [51] (by simp only [go_sem, Nat.reduceEqDiff, reduceCtorEq, Nat.reduceAdd, Nat.reduceSub, Nat.reduceMul, Nat.reduceLeDiff, Nat.reduceLT, Int.reduceLE, Int.reduceToNat, Int.reduceNeg, ↓reduceIte]; rfl) (by simp only [go_sem, Nat.reduceEqDiff, reduceCtorEq, Nat.reduceAdd, Nat.reduceSub, Nat.reduceMul, Nat.reduceLeDiff, Nat.reduceLT, Int.reduceLE, Int.reduceToNat, Int.reduceNeg, ↓reduceIte]) rfl rfl rfl (by simp only [go_sem, Nat.reduceEqDiff, reduceCtorEq, Nat.reduceAdd, Nat.reduceSub, Nat.reduceMul, Nat.reduceLeDiff, Nat.reduceLT, Int.reduceLE, Int.reduceToNat, Int.reduceNeg, ↓reduceIte]) rfl ?_ ?_
                          · simp only [maxN]; omega
                          · refine mix_last (by simp only [go_sem, Nat.reduceEqDiff, reduceCtorEq, Nat.reduceAdd, Nat.reduceSub, Nat.reduceMul, Nat.reduceLeDiff, Nat.reduceLT, Int.reduceLE, Int.reduceToNat, Int.reduceNeg, ↓reduceIte]; rfl) ?_ rfl (evLp_all [0, 1, 2, 3, 4, 5, 6, 9, 17, 28] hc (by simp only [go_sem, Nat.reduceEqDiff, reduceCtorEq, Nat.reduceAdd, Nat.reduceSub, Nat.reduceMul, Nat.reduceLeDiff, Nat.reduceLT, Int.reduceLE, Int.reduceToNat, Int.reduceNeg, ↓reduceIte]; rfl) ?_ ?_)
                            · trivial
                            · trivial
                            · repeat' (first | exact trivial | refine ev_seq ?_ | refine ev_skip ?_ | refine ev_ret ?_ | refine ev_exit ?_ | refine ev_block ?_ | refine ev_out_seq ?_ | refine ev_exit_seq ?_ | refine ev_ret_seq ?_ | refine ev_out_blk ?_ | refine ev_ret_blk ?_ | refine ev_exit_eq ?_ | refine ev_exit_ne (by decide) ?_ | refine ev_exit_inv ?_ | refine ev_ret_inv ?_ | refine ev_out_inv ?_ | refine rP [0, 1, 2, 3, 4, 5, 6, 9, 17, 28] hc ?_ ?_ | refine rA [0, 1, 2, 3, 4, 5, 6, 9, 17, 28] hc ?_ ?_ | refine rD [0, 1, 2, 3, 4, 5, 6, 9, 17, 28] hc ?_ ?_ | refine rT [0, 1, 2, 3, 4, 5, 6, 9, 17, 28] 1 hc ?_ ?_ | refine rT [0, 1, 2, 3, 4, 5, 6, 9, 17, 28] 2 hc ?_ ?_ | refine rT [0, 1, 2, 3, 4, 5, 6, 9, 17, 28] 3 hc ?_ ?_ | (refine rC (fun hcond => ?_) (fun hcond => ?_) <;> try (cases hcond; done)))
                              · ((try dsimp only [Ty.den] at *) <;> (repeat' (first | apply And.intro | intro _)) <;> omega)
                              · refine ⟨⟨k + 1, by omega⟩, by simp only; omega, ent_match [(1, .nm 1), (51, .nm 51)] rfl rfl ?_ ?_⟩
                                · simp only [pathsP_succ f i hkA]
                                  simp only [go_sem, Nat.reduceEqDiff, reduceCtorEq, Nat.reduceAdd, Nat.reduceSub, Nat.reduceMul, Nat.reduceLeDiff, Nat.reduceLT, Int.reduceLE, Int.reduceToNat, Int.reduceNeg, ↓reduceIte]
                                · simp only [pathsP_succ f i hkA]
                                  simp only [go_sem, Nat.reduceEqDiff, reduceCtorEq, Nat.reduceAdd, Nat.reduceSub, Nat.reduceMul, Nat.reduceLeDiff, Nat.reduceLT, Int.reduceLE, Int.reduceToNat, Int.reduceNeg, ↓reduceIte]
          · ((try dsimp only [Ty.den] at *) <;> (repeat' (first | apply And.intro | intro _)) <;> omega)
          · rw [pathsP_all f i (by ((try dsimp only [Ty.den] at *) <;> (repeat' (first | apply And.intro | intro _)) <;> omega))]
            refine ⟨⟨i + 1, by omega⟩, by simp only; omega, ent_match [(1, .nm 1), (51, .nm 51)] rfl rfl ?_ ?_⟩
            · simp only [go_sem, Nat.reduceEqDiff, reduceCtorEq, Nat.reduceAdd, Nat.reduceSub, Nat.reduceMul, Nat.reduceLeDiff, Nat.reduceLT, Int.reduceLE, Int.reduceToNat, Int.reduceNeg, ↓reduceIte]
            · simp only [go_sem, Nat.reduceEqDiff, reduceCtorEq, Nat.reduceAdd, Nat.reduceSub, Nat.reduceMul, Nat.reduceLeDiff, Nat.reduceLT, Int.reduceLE, Int.reduceToNat, Int.reduceNeg, ↓reduceIte]
      · have hif : i = f.length := by ((try dsimp only [Ty.den] at *) <;> (repeat' (first | apply And.intro | intro _)) <;> omega)
        subst hif
        refine Ev.ent ?_ (ent_frz [51] (by simp only [go_sem, Nat.reduceEqDiff, reduceCtorEq, Nat.reduceAdd, Nat.reduceSub, Nat.reduceMul, Nat.reduceLeDiff, Nat.reduceLT, Int.reduceLE, Int.reduceToNat, Int.reduceNeg, ↓reduceIte]; rfl) (fun _ _ h => h))
        repeat' (first | exact trivial | refine ev_seq ?_ | refine ev_skip ?_ | refine ev_ret ?_ | refine ev_exit ?_ | refine ev_block ?_ | refine ev_out_seq ?_ | refine ev_exit_seq ?_ | refine ev_ret_seq ?_ | refine ev_out_blk ?_ | refine ev_ret_blk ?_ | refine ev_exit_eq ?_ | refine ev_exit_ne (by decide) ?_ | refine ev_exit_inv ?_ | refine ev_ret_inv ?_ | refine ev_out_inv ?_ | refine rP [0, 1, 2, 3, 4, 5, 6, 9, 17, 28] hc ?_ ?_ | refine rA [0, 1, 2, 3, 4, 5, 6, 9, 17, 28] hc ?_ ?_ | refine rD [0, 1, 2, 3, 4, 5, 6, 9, 17, 28] hc ?_ ?_ | refine rT [0, 1, 2, 3, 4, 5, 6, 9, 17, 28] 1 hc ?_ ?_ | refine rT [0, 1, 2, 3, 4, 5, 6, 9, 17, 28] 2 hc ?_ ?_ | refine rT [0, 1, 2, 3, 4, 5, 6, 9, 17, 28] 3 hc ?_ ?_ | (refine rC (fun hcond => ?_) (fun hcond => ?_) <;> try (cases hcond; done)))
        · have hsm : SmallF f := ⟨by omega, fun x hx => by have := hli2 x hx; omega⟩
          have hat : SmallF [((f.getD 0 (0, [])).1, ([] : List (Int × Int)))] := ⟨by simp, fun x hx => by
            have : x = ((f.getD 0 (0, [])).1, []) := by simpa using hx
            rw [this]
            simp⟩
          rw [pdrop_nil hcan, pdepth_all hcan, pkeep_all hcan, pkeep_nil h0]
          exact ⟨⟨hg, hs, h0⟩, ⟨hsm, hsm⟩, fun _ => ⟨hg, hs, h0⟩, fun _ => ⟨hsm, hsm⟩, fun _ => ⟨hg, hs, h0⟩, fun _ => ⟨hsm, hsm⟩, fun _ => ⟨hg, hs, h0⟩, fun _ => Int.ofNat_lt.2 h0, fun _ => ⟨hat, hat⟩⟩
        · rw [pdrop_nil hcan, pdepth_all hcan, pkeep_all hcan, pkeep_nil h0, compareF_self, compareF_self]
          exact ev_fin hc [.tmp 2] rfl (.inl rfl) (by simp) (by simp only [retIs, resIs, resV, resLoad, avNames, pureOf, ownOf, go_sem, Nat.reduceEqDiff, reduceCtorEq, Nat.reduceAdd, Nat.reduceSub, Nat.reduceMul, Nat.reduceLeDiff, Nat.reduceLT, Int.reduceLE, Int.reduceToNat, Int.reduceNeg, ↓reduceIte])
end Go.Proofs.Ytfdkpbmofgkaoaa.Fw
