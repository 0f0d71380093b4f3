/- Functions of grammarlabref15: Depth. -/
import Derived.Test.YtfdkpbmofgkaoaaYP5
import Derived.Test.YtfdkpbmofgkaoaaYR15b
set_option linter.unusedVariables false
set_option linter.unusedSimpArgs false
namespace Go.Proofs.Ytfdkpbmofgkaoaa.Fw
open Go
attribute [local irreducible] Ev
attribute [local go_sem] cx_tb entEnv List.toList_toArray evSeq evG evK vcK guardOf guardT guardB_true guardB_false step1 step0 stepQ takesIn namesParts namesOf namesStore frzAll frz frz1 fixN frzEnv frzObjs drpEnv drpObjs AV.frz AV.frzs AV.drp AV.drps AV.names AV.namess aq qmap qPick qAlloc qBox qBuild qBuildSlice qBuildSlice2 qLoad qLoadB qLoadB2 qLoadE qLoadE2 qLoadE3 qFieldI qOff qPart qField qIndexA qIndex qIndexS qNil qBin qUn qConv qMake qMake2 qSlice qExtract qLen qAppend qAppend2 qAppend3 qMin qMax qCall qCall2 qCall3 qBuiltin qCallee aloud lStoreD lStore lStoreB lStoreB2 lStoreE lStoreE3 lStoreE4 lCallee lBuiltin lAppend lAppend2 lAppend3 lAppend4 opv lk constAV optAV sliceQ bin binI binS zf1 zfs pfs AV.cells nthOff loadB offB storeB notAg fitsT fitsO Ty.cell1 fieldOk partsT partsAg argsT asT asT1 asTs pairO srT castTo_self getF setF getP setP offP offF fldT rvAV rvObj rvAVs rvObjs resAV RV.flat Ty.flat Ty.size St.add upd del fresh Value.oneCell' refZ Ty.dflt sub_all sub_one sub_take sub_end List.take_succ_cons List.take_zero List.length_cons cast0 castS sub_app take_app sub_app1 take_app1 take_one1 natC zero_le_natC i64_min i64_max u64_min u64_max u8_min u8_max inK_i64 inK_u64 inK_u8 Option.map_some Option.map_none Option.bind_some Option.getD_some Option.getD_none Option.isNone_none Option.isNone_some Bool.and_true Bool.true_and Bool.and_false Bool.false_and Bool.not_true Bool.not_false if_true if_false List.length_cons List.length_nil and_true true_and and_self List.all_cons List.all_nil List.append_nil List.nil_append List.cons_append List.getElem?_cons_zero List.getElem?_cons_succ List.getElem?_nil List.map_cons List.map_nil List.set_cons_zero List.set_cons_succ List.isEmpty_nil List.isEmpty_cons decide_true decide_false beq_self_eq_true bne_self_eq_false Nat.zero_add Nat.add_zero Nat.sub_zero Int.toNat_natCast Int.toNat_zero Int.toNat_one List.take_length List.length_append List.length_singleton true_or or_true or_self false_or or_false Ty.agg.injEq Ty.slice.injEq Ty.prod.injEq Ty.int.injEq Option.some.injEq beq_iff_eq evM evMG evMQ opM isPick viewE viewS viewG opTs opTmp consE guardM guardM1 guardM2 sideM sideM2 pickM pickM2 sufB chEq memB dstOf Op.operands Call.operands List.filterMap_cons List.filterMap_nil List.append_eq Bool.cond_false_right Bool.cond_true_left cond_true cond_false implies_true decide_eq_true_eq beq_true beq_false Bool.or_true Bool.or_false Bool.true_or Bool.false_or Option.isSome_some fieldV namesAg namesAgs capNs qClo qClo2 qMakeMap qMakeMap2 qMakeMap3 qLook qLook2 qLook3 qLook4 keyT keyP eqT inB lMapUp lMapUp2 lMapUp3 namesMap argEnv cm_tb List.drop_zero pruneR prune rem1 afterM addDst fgtEnv AV.fgt AV.fgts Obj.fgt restObjs handed memB calleeOf opvs matchArgs matchArg List.any_cons List.any_nil evF evFO evFQ evFK addQ frOk qs List.flatMap_cons List.flatMap_nil List.cons_append tn appN fgtEN List.take_succ_cons List.drop_succ_cons isYl parEnv rangeSt cY_tb marked_tb renOk renIn matchObjs matchEnv matchE matchAV matchAVs matchF matchO
attribute [local go_sem] ty1 ty2 ty3 ty4 ty5 ty9 ty12 ty21 ty22 ty23 ty24 ty25 ty27 ty28 ty29 ty30 ty31 ty32 ty33 ty35 ty36 ty37 ty38 ty39 ty41 ty43 ty44 ty45 ty46 ty47 ty48 ty49 ty50 ty51 ty52 ty53 ty54 ty55 ty56 ty57 ty58 ty59 ty60 ty61 ty62 ty64 ty65 ty66 ty67 ty68 ty69 ty70 ty71 ty72 ty73 ty74 ty75 ty76 ty77 ty79 ty80 ty81 ty83 ty85 ty86 ty87 ty88 ty89 ty90 ty91 ty92 ty93 ty94 ty95 ty96 ty98 ty99 ty101 ty102 ty103 ty104 ty105 ty106 ty107 ty108 ty109 ty111 ty112 ty113 ty114 ty115 ty116 ty117 ty118 ty121 ty122 ty123 ty124 ty125 ty126 ty127 ty128 ty129 ty130 ty131 ty132 ty134 ty135 ty136 ty137 ty138 ty139 ty140 ty141 ty142 ty143 ty145 ty146 ty147 ty148 ty149 ty150 ty151 ty152 ty153 ty154 ty155 ty156 ty157 ty158 ty159 ty160 ty161 ty162 ty163 ty164 ty165 ty167 ty168 ty169 ty170 ty171 ty172 ty173 ty174 ty175 ty176 ty177 ty178 ty179 ty180 ty181 ty182 ty183 ty184 ty185 ty186 ty187 ty188 ty189 ty190 ty191 ty192 ty193 ty194 ty195 ty196 ty197 ty199 ty200 ty201 ty202 ty203 ty204 ty205 ty206 ty207 ty208 ty209 ty210 ty211 ty212 ty214 ty215 ty221 ty224 ty225
attribute [local go_sem] canon15S firstS depth15S
set_option maxRecDepth 100000
set_option maxHeartbeats 4000000
theorem depthL_len (fi : List (List Int)) (d : Int) (f : List GNode) (i : Nat) : (depthL fi d f i).length = i := by simp [depthL]
theorem depthL_succ (fi : List (List Int)) (d : Int) (f : List GNode) (i : Nat) : depthL fi d f (i + 1) = depthL fi d f i ++ [depthN fi d f i] := by simp [depthL, List.range_succ]
theorem depthL_good {f : List GNode} (hf : GoodF f) (fi : List (List Int)) (d : Int) : GoodF (depthL fi d f f.length) := by
  refine ⟨by rw [depthL_len]; exact hf.1, fun x hx => ?_⟩
  obtain ⟨i, hi, rfl⟩ := List.mem_map.1 hx
  have hi : i < f.length := List.mem_range.1 hi
  obtain ⟨h1, h2⟩ := hf.2 _ (mem_of_take_succ f (0, []) hi)
  rw [depthL_len]
  unfold depthN
  split
  · exact ⟨h1, h2⟩
  · exact ⟨by simp, fun a ha => by cases ha⟩
theorem depth15_ok : FnOk Try.prog 28 depth15S := by
  refine fn_ok Try.func28 (by kernel_rfl) rfl Try.ntmps28 (by decide) (by kernel_rfl) (tyTab_ok [(50, canon15S), (29, firstS)]) (fns_cons canon15_ok (fns_cons first_ok fns_nil)) ?_
  rintro w0 O0 ⟨f, d, u⟩ hc - ⟨hf, h0⟩
  simp only [depth15S, entEnv]
  have hfl := hf.1
  have hfi := firstF_len hf h0
  have hdf : depthF f d = rcanonF (depthL (firstF f) d f f.length) := rfl
  rw [hdf]
  have hgood := depthL_good hf (firstF f) d
  repeat' (first | exact trivial | refine ev_seq ?_ | refine ev_skip ?_ | refine ev_ret ?_ | refine ev_exit ?_ | refine ev_block ?_ | refine ev_out_seq ?_ | refine ev_exit_seq ?_ | refine ev_ret_seq ?_ | refine ev_out_blk ?_ | refine ev_ret_blk ?_ | refine ev_exit_eq ?_ | refine ev_exit_ne (by decide) ?_ | refine ev_exit_inv ?_ | refine ev_ret_inv ?_ | refine ev_out_inv ?_ | refine rP [0, 1, 2, 4, 5, 6, 7, 8, 15, 31] hc ?_ ?_ | refine rA [0, 1, 2, 4, 5, 6, 7, 8, 15, 31] hc ?_ ?_ | refine rD [0, 1, 2, 4, 5, 6, 7, 8, 15, 31] hc ?_ ?_ | refine rT [0, 1, 2, 4, 5, 6, 7, 8, 15, 31] 1 hc ?_ ?_ | refine rT [0, 1, 2, 4, 5, 6, 7, 8, 15, 31] 2 hc ?_ ?_ | refine rT [0, 1, 2, 4, 5, 6, 7, 8, 15, 31] 3 hc ?_ ?_ | (refine rC (fun hcond => ?_) (fun hcond => ?_) <;> try (cases hcond; done)))
  · exact ⟨hf, h0⟩
  · generalize firstF f = fi at *
    refine ev_loop (ι := {i : Nat // i ≤ f.length}) (fun i => ⟨[(1, .p T3 d), (2, .bp 2 [] 0), (4, .bp 4 [] 0), (5, .p T50 fi), (6, .bp 6 [] 0), (7, .p (.int .i64) (i.1 : Int))], [(6, .box 25 true [.sr 43 T59 0 i.1]), (4, .box 25 true [.raw (.slice none 0 0)]), (2, .box 25 true [.p T23 f]), (43, .arr 59 T59 (depthL fi d f i.1))]⟩) (fun i => f.length - i.1) ⟨0, by omega⟩ (ent_match [(6, .nm 6), (4, .nm 4), (2, .nm 2), (43, .nil)] rfl rfl ?_ ?_) (fun i => ?_)
    · simp only [go_sem, Nat.reduceEqDiff, reduceCtorEq, Nat.reduceAdd, Nat.reduceSub, Nat.reduceMul, Nat.reduceLeDiff, Nat.reduceLT, Int.reduceLE, Int.reduceToNat, Int.reduceNeg, ↓reduceIte]
      rfl
    · simp only [go_sem, Nat.reduceEqDiff, reduceCtorEq, Nat.reduceAdd, Nat.reduceSub, Nat.reduceMul, Nat.reduceLeDiff, Nat.reduceLT, Int.reduceLE, Int.reduceToNat, Int.reduceNeg, ↓reduceIte]
    · obtain ⟨i, hi⟩ := i
      have hsu := depthL_succ fi d f i
      have htk : (depthL fi d f i).take i = depthL fi d f i := List.take_of_length_le (Nat.le_of_eq (depthL_len _ _ _ _))
      repeat' (first | exact trivial | refine ev_seq ?_ | refine ev_skip ?_ | refine ev_ret ?_ | refine ev_exit ?_ | refine ev_block ?_ | refine ev_out_seq ?_ | refine ev_exit_seq ?_ | refine ev_ret_seq ?_ | refine ev_out_blk ?_ | refine ev_ret_blk ?_ | refine ev_exit_eq ?_ | refine ev_exit_ne (by decide) ?_ | refine ev_exit_inv ?_ | refine ev_ret_inv ?_ | refine ev_out_inv ?_ | refine rP [0, 1, 2, 4, 5, 6, 7, 8, 15, 31] hc ?_ ?_ | refine rA [0, 1, 2, 4, 5, 6, 7, 8, 15, 31] hc ?_ ?_ | refine rD [0, 1, 2, 4, 5, 6, 7, 8, 15, 31] hc ?_ ?_ | refine rT [0, 1, 2, 4, 5, 6, 7, 8, 15, 31] 1 hc ?_ ?_ | refine rT [0, 1, 2, 4, 5, 6, 7, 8, 15, 31] 2 hc ?_ ?_ | refine rT [0, 1, 2, 4, 5, 6, 7, 8, 15, 31] 3 hc ?_ ?_ | (refine rC (fun hcond => ?_) (fun hcond => ?_) <;> try (cases hcond; done)))
      · ((try dsimp only [Ty.den] at *) <;> (repeat' (first | apply And.intro | intro _)) <;> omega)
      · ((try dsimp only [Ty.den] at *) <;> (repeat' (first | apply And.intro | intro _)) <;> omega)
      · ((try dsimp only [Ty.den] at *) <;> (repeat' (first | apply And.intro | intro _)) <;> omega)
      · simp only [maxN]; omega
      · ((try dsimp only [Ty.den] at *) <;> (repeat' (first | apply And.intro | intro _)) <;> omega)
      · refine ⟨⟨i + 1, by omega⟩, by simp only; omega, ent_match [(6, .nm 6), (4, .nm 4), (2, .nm 2), (43, .nm 43)] rfl rfl ?_ ?_⟩
        · simp only
          rw [hsu]
          have e : depthN fi d f i = ((f.getD i (0, [])).1, (f.getD i (0, [])).2) := by
            unfold depthN
            rw [if_pos hcond]
          rw [e]
          simp only [go_sem, Nat.reduceEqDiff, reduceCtorEq, Nat.reduceAdd, Nat.reduceSub, Nat.reduceMul, Nat.reduceLeDiff, Nat.reduceLT, Int.reduceLE, Int.reduceToNat, Int.reduceNeg, ↓reduceIte]
          rw [htk]
        · simp only [go_sem, Nat.reduceEqDiff, reduceCtorEq, Nat.reduceAdd, Nat.reduceSub, Nat.reduceMul, Nat.reduceLeDiff, Nat.reduceLT, Int.reduceLE, Int.reduceToNat, Int.reduceNeg, ↓reduceIte]
      · simp only [maxN]; omega
      · ((try dsimp only [Ty.den] at *) <;> (repeat' (first | apply And.intro | intro _)) <;> omega)
      · refine ⟨⟨i + 1, by omega⟩, by simp only; omega, ent_match [(6, .nm 6), (4, .nm 4), (2, .nm 2), (43, .nm 43)] rfl rfl ?_ ?_⟩
        · simp only
          rw [hsu]
          have e : depthN fi d f i = ((f.getD i (0, [])).1, []) := by
            unfold depthN
            rw [if_neg (by omega)]
          rw [e]
          simp only [go_sem, Nat.reduceEqDiff, reduceCtorEq, Nat.reduceAdd, Nat.reduceSub, Nat.reduceMul, Nat.reduceLeDiff, Nat.reduceLT, Int.reduceLE, Int.reduceToNat, Int.reduceNeg, ↓reduceIte]
          rw [htk]
        · simp only [go_sem, Nat.reduceEqDiff, reduceCtorEq, Nat.reduceAdd, Nat.reduceSub, Nat.reduceMul, Nat.reduceLeDiff, Nat.reduceLT, Int.reduceLE, Int.reduceToNat, Int.reduceNeg, ↓reduceIte]
      · have hif : i = List.length f := by ((try dsimp only [Ty.den] at *) <;> (repeat' (first | apply And.intro | intro _)) <;> omega)
        subst hif
        refine Ev.ent ?_ (ent_frz [43] (by simp only [go_sem, Nat.reduceEqDiff, reduceCtorEq, Nat.reduceAdd, Nat.reduceSub, Nat.reduceMul, Nat.reduceLeDiff, Nat.reduceLT, Int.reduceLE, Int.reduceToNat, Int.reduceNeg, ↓reduceIte]; rfl) (fun _ _ h => h))
        rw [htk]
        repeat' (first | exact trivial | refine ev_seq ?_ | refine ev_skip ?_ | refine ev_ret ?_ | refine ev_exit ?_ | refine ev_block ?_ | refine ev_out_seq ?_ | refine ev_exit_seq ?_ | refine ev_ret_seq ?_ | refine ev_out_blk ?_ | refine ev_ret_blk ?_ | refine ev_exit_eq ?_ | refine ev_exit_ne (by decide) ?_ | refine ev_exit_inv ?_ | refine ev_ret_inv ?_ | refine ev_out_inv ?_ | refine rP [0, 1, 2, 4, 5, 6, 7, 8, 15, 31] hc ?_ ?_ | refine rA [0, 1, 2, 4, 5, 6, 7, 8, 15, 31] hc ?_ ?_ | refine rD [0, 1, 2, 4, 5, 6, 7, 8, 15, 31] hc ?_ ?_ | refine rT [0, 1, 2, 4, 5, 6, 7, 8, 15, 31] 1 hc ?_ ?_ | refine rT [0, 1, 2, 4, 5, 6, 7, 8, 15, 31] 2 hc ?_ ?_ | refine rT [0, 1, 2, 4, 5, 6, 7, 8, 15, 31] 3 hc ?_ ?_ | (refine rC (fun hcond => ?_) (fun hcond => ?_) <;> try (cases hcond; done)))
        · exact hgood
        · exact ev_fin hc [.cell 4 25] rfl (.inl rfl) (by simp) (by simp only [retIs, resIs, resV, resLoad, avNames, pureOf, ownOf, go_sem, Nat.reduceEqDiff, reduceCtorEq, Nat.reduceAdd, Nat.reduceSub, Nat.reduceMul, Nat.reduceLeDiff, Nat.reduceLT, Int.reduceLE, Int.reduceToNat, Int.reduceNeg, ↓reduceIte])
/-- The program's Depth is the reference's. -/
theorem pdepth_eq {f : List GNode} (hf : GoodF f) (hs : SrtF f) (h0 : 0 < f.length) (d : Int) : pdepthF f d = depthF f d := by
  have e : partL (accT (firstF f) d) f f.length = depthL (firstF f) d f f.length := by
    unfold partL depthL
    refine List.map_congr_left fun i hi => ?_
    unfold partN depthN accT
    rw [show ((i : Int)).toNat = i by omega]
    by_cases h : (((firstF f).getD i []).length : Int) < d
    · simp only [h, decide_true, if_true]
      rw [List.filter_eq_self.2 (fun _ _ => rfl)]
    · simp only [h, decide_false, if_false]
      rw [List.filter_eq_nil_iff.2 (fun _ _ => by simp)]
  obtain ⟨h1, h2⟩ := part_good hf hs (accT (firstF f) d)
  have h3 : (depthL (firstF f) d f f.length).length = f.length := depthL_len _ _ _ _
  unfold pdepthF partF depthF rcanonF
  rw [e] at h1 h2 ⊢
  rw [if_neg (by omega), from_canonical h1 h2 (by omega) (by omega)]
end Go.Proofs.Ytfdkpbmofgkaoaa.Fw
