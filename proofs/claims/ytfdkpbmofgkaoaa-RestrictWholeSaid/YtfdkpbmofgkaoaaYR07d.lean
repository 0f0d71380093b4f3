/- Functions of grammarlabref07: Compare, Equal. -/
import Derived.Test.YtfdkpbmofgkaoaaYR07c
set_option linter.unusedVariables false
set_option linter.unusedSimpArgs false
namespace Go.Proofs.Ytfdkpbmofgkaoaa.Fw
open Go
attribute [local irreducible] Ev
attribute [local go_sem] cx_tb entEnv List.toList_toArray evSeq evG evK vcK guardOf guardT guardB_true guardB_false step1 step0 stepQ takesIn namesParts namesOf namesStore frzAll frz frz1 fixN frzEnv frzObjs drpEnv drpObjs AV.frz AV.frzs AV.drp AV.drps AV.names AV.namess aq qmap qPick qAlloc qBox qBuild qBuildSlice qBuildSlice2 qLoad qLoadB qLoadB2 qLoadE qLoadE2 qLoadE3 qFieldI qOff qPart qField qIndexA qIndex qIndexS qNil qBin qUn qConv qMake qMake2 qSlice qExtract qLen qAppend qAppend2 qAppend3 qMin qMax qCall qCall2 qCall3 qBuiltin qCallee aloud lStoreD lStore lStoreB lStoreB2 lStoreE lStoreE3 lStoreE4 lCallee lBuiltin lAppend lAppend2 lAppend3 lAppend4 opv lk constAV optAV sliceQ bin binI binS zf1 zfs pfs AV.cells nthOff loadB offB storeB notAg fitsT fitsO Ty.cell1 fieldOk partsT partsAg argsT asT asT1 asTs pairO srT castTo_self getF setF getP setP offP offF fldT rvAV rvObj rvAVs rvObjs resAV RV.flat Ty.flat Ty.size St.add upd del fresh Value.oneCell' refZ Ty.dflt sub_all sub_one sub_take sub_end List.take_succ_cons List.take_zero List.length_cons cast0 castS sub_app take_app sub_app1 take_app1 take_one1 natC zero_le_natC i64_min i64_max u64_min u64_max u8_min u8_max inK_i64 inK_u64 inK_u8 Option.map_some Option.map_none Option.bind_some Option.getD_some Option.getD_none Option.isNone_none Option.isNone_some Bool.and_true Bool.true_and Bool.and_false Bool.false_and Bool.not_true Bool.not_false if_true if_false List.length_cons List.length_nil and_true true_and and_self List.all_cons List.all_nil List.append_nil List.nil_append List.cons_append List.getElem?_cons_zero List.getElem?_cons_succ List.getElem?_nil List.map_cons List.map_nil List.set_cons_zero List.set_cons_succ List.isEmpty_nil List.isEmpty_cons decide_true decide_false beq_self_eq_true bne_self_eq_false Nat.zero_add Nat.add_zero Nat.sub_zero Int.toNat_natCast Int.toNat_zero Int.toNat_one List.take_length List.length_append List.length_singleton true_or or_true or_self false_or or_false Ty.agg.injEq Ty.slice.injEq Ty.prod.injEq Ty.int.injEq Option.some.injEq beq_iff_eq evM evMG evMQ opM isPick viewE viewS viewG opTs opTmp consE guardM guardM1 guardM2 sideM sideM2 pickM pickM2 sufB chEq memB dstOf Op.operands Call.operands List.filterMap_cons List.filterMap_nil List.append_eq Bool.cond_false_right Bool.cond_true_left cond_true cond_false implies_true decide_eq_true_eq beq_true beq_false Bool.or_true Bool.or_false Bool.true_or Bool.false_or Option.isSome_some fieldV namesAg namesAgs capNs qClo qClo2 qMakeMap qMakeMap2 qMakeMap3 qLook qLook2 qLook3 qLook4 keyT keyP eqT inB lMapUp lMapUp2 lMapUp3 namesMap argEnv cm_tb List.drop_zero pruneR prune rem1 afterM addDst fgtEnv AV.fgt AV.fgts Obj.fgt restObjs handed memB calleeOf opvs matchArgs matchArg List.any_cons List.any_nil evF evFO evFQ evFK addQ frOk qs List.flatMap_cons List.flatMap_nil List.cons_append tn appN fgtEN List.take_succ_cons List.drop_succ_cons isYl parEnv rangeSt cY_tb marked_tb renOk renIn matchObjs matchEnv matchE matchAV matchAVs matchF matchO
attribute [local go_sem] ty1 ty2 ty3 ty4 ty5 ty9 ty12 ty21 ty22 ty23 ty24 ty25 ty27 ty28 ty29 ty30 ty31 ty32 ty33 ty35 ty36 ty37 ty38 ty39 ty41 ty43 ty44 ty45 ty46 ty47 ty48 ty49 ty50 ty51 ty52 ty53 ty54 ty55 ty56 ty57 ty58 ty59 ty60 ty61 ty62 ty64 ty65 ty66 ty67 ty68 ty69 ty70 ty71 ty72 ty73 ty74 ty75 ty76 ty77 ty79 ty80 ty81 ty83 ty85 ty86 ty87 ty88 ty89 ty90 ty91 ty92 ty93 ty94 ty95 ty96 ty98 ty99 ty101 ty102 ty103 ty104 ty105 ty106 ty107 ty108 ty109 ty111 ty112 ty113 ty114 ty115 ty116 ty117 ty118 ty121 ty122 ty123 ty124 ty125 ty126 ty127 ty128 ty129 ty130 ty131 ty132 ty134 ty135 ty136 ty137 ty138 ty139 ty140 ty141 ty142 ty143 ty145 ty146 ty147 ty148 ty149 ty150 ty151 ty152 ty153 ty154 ty155 ty156 ty157 ty158 ty159 ty160 ty161 ty162 ty163 ty164 ty165 ty167 ty168 ty169 ty170 ty171 ty172 ty173 ty174 ty175 ty176 ty177 ty178 ty179 ty180 ty181 ty182 ty183 ty184 ty185 ty186 ty187 ty188 ty189 ty190 ty191 ty192 ty193 ty194 ty195 ty196 ty197 ty199 ty200 ty201 ty202 ty203 ty204 ty205 ty206 ty207 ty208 ty209 ty210 ty211 ty212 ty214 ty215 ty221 ty224 ty225
attribute [local go_sem] numbersS
set_option maxRecDepth 100000
def cmpL : List Int → List Int → Int
  | x :: xs, y :: ys => if x < y then -1 else if y < x then 1 else cmpL xs ys
  | _, _ => 0
theorem cmpL_step (xs ys : List Int) {k : Nat} (h1 : k < xs.length) (h2 : k < ys.length) : cmpL (xs.drop k) (ys.drop k) = if xs.getD k 0 < ys.getD k 0 then -1 else if ys.getD k 0 < xs.getD k 0 then 1 else cmpL (xs.drop (k + 1)) (ys.drop (k + 1)) := by
  rw [List.drop_eq_getElem_cons h1, List.drop_eq_getElem_cons h2, List.getD_eq_getElem?_getD, List.getElem?_eq_getElem h1, List.getD_eq_getElem?_getD, List.getElem?_eq_getElem h2]
  rfl
theorem cmpL_end (xs ys : List Int) {k : Nat} (h : xs.length ≤ k ∨ ys.length ≤ k) : cmpL (xs.drop k) (ys.drop k) = 0 := by
  rcases h with h | h
  · rw [List.drop_eq_nil_of_le h]; simp [cmpL]
  · rw [List.drop_eq_nil_of_le h]; simp [cmpL]
def compareF (a b : List (Int × List (Int × Int))) : Int := cmpL (numbersF a) (numbersF b)
def SmallF (f : List (Int × List (Int × Int))) : Prop := f.length ≤ 100000 ∧ ∀ n ∈ f, n.2.length ≤ 100000
def compareS : Spec := { ins := [T25, T25], pre := fun (a, b, _) => SmallF a ∧ SmallF b, out := fun (a, b, _) => [.p T3 (compareF a b)] }
theorem numbersF_len {f : List (Int × List (Int × Int))} (h : SmallF f) : (numbersF f).length ≤ 1 + f.length * 200002 := by
  have := flat_len f h.2
  simp only [numbersF, List.length_cons]; omega
theorem compare_ok : FnOk Try.prog 42 compareS := by
  refine fn_ok Try.func42 (by kernel_rfl) rfl Try.ntmps42 (by decide) (by kernel_rfl) (tyTab_ok [(66, numbersS)]) (fns_cons numbers_ok fns_nil) ?_
  rintro w0 O0 ⟨a, b, u⟩ hc - ⟨⟨ha1, ha2⟩, ⟨hb1, hb2⟩⟩
  have hla := numbersF_len ⟨ha1, ha2⟩
  have hlb := numbersF_len ⟨hb1, hb2⟩
  simp only [compareS, entEnv]
  repeat' (first | exact trivial | refine ev_seq ?_ | refine ev_skip ?_ | refine ev_ret ?_ | refine ev_exit ?_ | refine ev_block ?_ | refine ev_out_seq ?_ | refine ev_exit_seq ?_ | refine ev_ret_seq ?_ | refine ev_out_blk ?_ | refine ev_ret_blk ?_ | refine ev_exit_eq ?_ | refine ev_exit_ne (by decide) ?_ | refine ev_exit_inv ?_ | refine ev_ret_inv ?_ | refine ev_out_inv ?_ | refine rP [0, 1, 2, 3, 4, 5, 6, 7, 21, 32, 41] hc ?_ ?_ | refine rA [0, 1, 2, 3, 4, 5, 6, 7, 21, 32, 41] hc ?_ ?_ | refine rD [0, 1, 2, 3, 4, 5, 6, 7, 21, 32, 41] hc ?_ ?_ | refine rT [0, 1, 2, 3, 4, 5, 6, 7, 21, 32, 41] 1 hc ?_ ?_ | refine rT [0, 1, 2, 3, 4, 5, 6, 7, 21, 32, 41] 2 hc ?_ ?_ | refine rT [0, 1, 2, 3, 4, 5, 6, 7, 21, 32, 41] 3 hc ?_ ?_ | (refine rC (fun hcond => ?_) (fun hcond => ?_) <;> try (cases hcond; done)))
  · exact ⟨ha1, ha2⟩
  · exact ⟨hb1, hb2⟩
  · refine ev_loop (ι := {k : Nat // cmpL ((numbersF a).drop k) ((numbersF b).drop k) = compareF a b}) (fun k => ⟨[(5, .p T41 (numbersF a)), (6, .p T41 (numbersF b)), (7, .p (.int .i64) (k.1 : Int))], []⟩) (fun k => (numbersF a).length - k.1) ⟨0, by simp [compareF]⟩ (ent_match [] rfl rfl ?_ ?_) (fun k => ?_)
    · simp only [go_sem, Nat.reduceEqDiff, reduceCtorEq, Nat.reduceAdd, Nat.reduceSub, Nat.reduceMul, Nat.reduceLeDiff, Nat.reduceLT, Int.reduceLE, Int.reduceToNat, Int.reduceNeg, ↓reduceIte]
    · simp only [go_sem, Nat.reduceEqDiff, reduceCtorEq, Nat.reduceAdd, Nat.reduceSub, Nat.reduceMul, Nat.reduceLeDiff, Nat.reduceLT, Int.reduceLE, Int.reduceToNat, Int.reduceNeg, ↓reduceIte]
    · obtain ⟨k, hk⟩ := k
      repeat' (first | exact trivial | refine ev_seq ?_ | refine ev_skip ?_ | refine ev_ret ?_ | refine ev_exit ?_ | refine ev_block ?_ | refine ev_out_seq ?_ | refine ev_exit_seq ?_ | refine ev_ret_seq ?_ | refine ev_out_blk ?_ | refine ev_ret_blk ?_ | refine ev_exit_eq ?_ | refine ev_exit_ne (by decide) ?_ | refine ev_exit_inv ?_ | refine ev_ret_inv ?_ | refine ev_out_inv ?_ | refine rP [0, 1, 2, 3, 4, 5, 6, 7, 21, 32, 41] hc ?_ ?_ | refine rA [0, 1, 2, 3, 4, 5, 6, 7, 21, 32, 41] hc ?_ ?_ | refine rD [0, 1, 2, 3, 4, 5, 6, 7, 21, 32, 41] hc ?_ ?_ | refine rT [0, 1, 2, 3, 4, 5, 6, 7, 21, 32, 41] 1 hc ?_ ?_ | refine rT [0, 1, 2, 3, 4, 5, 6, 7, 21, 32, 41] 2 hc ?_ ?_ | refine rT [0, 1, 2, 3, 4, 5, 6, 7, 21, 32, 41] 3 hc ?_ ?_ | (refine rC (fun hcond => ?_) (fun hcond => ?_) <;> try (cases hcond; done)))
      · ((try dsimp only [Ty.den] at *) <;> (repeat' (first | apply And.intro | intro _)) <;> omega)
      · obtain ⟨h1, h2⟩ : k < (numbersF a).length ∧ k < (numbersF b).length := by ((try dsimp only [Ty.den] at *) <;> (repeat' (first | apply And.intro | intro _)) <;> omega)
        have h3 : compareF a b = -1 := by rw [← hk, cmpL_step _ _ h1 h2, if_pos hcond]
        exact ev_fin hc [.tmp 4] rfl (.inl rfl) (by simp) (by rw [h3]; simp only [retIs, resIs, resV, resLoad, avNames, pureOf, ownOf, go_sem, Nat.reduceEqDiff, reduceCtorEq, Nat.reduceAdd, Nat.reduceSub, Nat.reduceMul, Nat.reduceLeDiff, Nat.reduceLT, Int.reduceLE, Int.reduceToNat, Int.reduceNeg, ↓reduceIte])
      · ((try dsimp only [Ty.den] at *) <;> (repeat' (first | apply And.intro | intro _)) <;> omega)
      · obtain ⟨h1, h2⟩ : k < (numbersF a).length ∧ k < (numbersF b).length := by ((try dsimp only [Ty.den] at *) <;> (repeat' (first | apply And.intro | intro _)) <;> omega)
        have h3 : compareF a b = 1 := by rw [← hk, cmpL_step _ _ h1 h2, if_neg (by ((try dsimp only [Ty.den] at *) <;> (repeat' (first | apply And.intro | intro _)) <;> omega)), if_pos hcond]
        exact ev_fin hc [.tmp 4] rfl (.inl rfl) (by simp) (by rw [h3]; simp only [retIs, resIs, resV, resLoad, avNames, pureOf, ownOf, go_sem, Nat.reduceEqDiff, reduceCtorEq, Nat.reduceAdd, Nat.reduceSub, Nat.reduceMul, Nat.reduceLeDiff, Nat.reduceLT, Int.reduceLE, Int.reduceToNat, Int.reduceNeg, ↓reduceIte])
      · ((try dsimp only [Ty.den] at *) <;> (repeat' (first | apply And.intro | intro _)) <;> omega)
      · obtain ⟨h1, h2⟩ : k < (numbersF a).length ∧ k < (numbersF b).length := by ((try dsimp only [Ty.den] at *) <;> (repeat' (first | apply And.intro | intro _)) <;> omega)
        refine ⟨⟨k + 1, ?_⟩, by simp only; ((try dsimp only [Ty.den] at *) <;> (repeat' (first | apply And.intro | intro _)) <;> omega), ent_match [] rfl rfl ?_ ?_⟩
        · rw [← hk, cmpL_step _ _ h1 h2, if_neg (by ((try dsimp only [Ty.den] at *) <;> (repeat' (first | apply And.intro | intro _)) <;> omega)), if_neg (by ((try dsimp only [Ty.den] at *) <;> (repeat' (first | apply And.intro | intro _)) <;> omega))]
        · simp only [go_sem, Nat.reduceEqDiff, reduceCtorEq, Nat.reduceAdd, Nat.reduceSub, Nat.reduceMul, Nat.reduceLeDiff, Nat.reduceLT, Int.reduceLE, Int.reduceToNat, Int.reduceNeg, ↓reduceIte]
        · simp only [go_sem, Nat.reduceEqDiff, reduceCtorEq, Nat.reduceAdd, Nat.reduceSub, Nat.reduceMul, Nat.reduceLeDiff, Nat.reduceLT, Int.reduceLE, Int.reduceToNat, Int.reduceNeg, ↓reduceIte]
      · have h3 : compareF a b = 0 := by
          rw [← hk]
          apply cmpL_end
          by_cases h : k < (numbersF a).length
          · right; have := hcond (by ((try dsimp only [Ty.den] at *) <;> (repeat' (first | apply And.intro | intro _)) <;> omega)); ((try dsimp only [Ty.den] at *) <;> (repeat' (first | apply And.intro | intro _)) <;> omega)
          · left; ((try dsimp only [Ty.den] at *) <;> (repeat' (first | apply And.intro | intro _)) <;> omega)
        exact ev_fin hc [.tmp 4] rfl (.inl rfl) (by simp) (by rw [h3]; simp only [retIs, resIs, resV, resLoad, avNames, pureOf, ownOf, go_sem, Nat.reduceEqDiff, reduceCtorEq, Nat.reduceAdd, Nat.reduceSub, Nat.reduceMul, Nat.reduceLeDiff, Nat.reduceLT, Int.reduceLE, Int.reduceToNat, Int.reduceNeg, ↓reduceIte])
def equalS : Spec := { ins := [T25, T25], pre := fun (a, b, _) => SmallF a ∧ SmallF b, out := fun (a, b, _) => [.p .bool (compareF a b == 0)] }
end Go.Proofs.Ytfdkpbmofgkaoaa.Fw
