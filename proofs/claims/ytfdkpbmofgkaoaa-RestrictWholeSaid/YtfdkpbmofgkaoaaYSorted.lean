/- The contract of functions of the program: Sorted. -/
import Derived.Test.YtfdkpbmofgkaoaaZJ
set_option linter.unusedVariables false
set_option linter.unusedSimpArgs false
namespace Go.Proofs.Ytfdkpbmofgkaoaa.Fw
open Go
attribute [local irreducible] Ev
attribute [local go_sem] cx_tb entEnv List.toList_toArray evSeq evG evK vcK guardOf guardT guardB_true guardB_false step1 step0 stepQ takesIn namesParts namesOf namesStore frzAll frz frz1 fixN frzEnv frzObjs drpEnv drpObjs AV.frz AV.frzs AV.drp AV.drps AV.names AV.namess aq qmap qPick qAlloc qBox qBuild qBuildSlice qBuildSlice2 qLoad qLoadB qLoadB2 qLoadE qLoadE2 qLoadE3 qFieldI qOff qPart qField qIndexA qIndex qIndexS qNil qBin qUn qConv qMake qMake2 qSlice qExtract qLen qAppend qAppend2 qAppend3 qMin qMax qCall qCall2 qCall3 qBuiltin qCallee aloud lStoreD lStore lStoreB lStoreB2 lStoreE lStoreE3 lStoreE4 lCallee lBuiltin lAppend lAppend2 lAppend3 lAppend4 opv lk constAV optAV sliceQ bin binI binS zf1 zfs pfs AV.cells nthOff loadB offB storeB notAg fitsT fitsO Ty.cell1 fieldOk partsT partsAg argsT asT asT1 asTs pairO srT castTo_self getF setF getP setP offP offF fldT rvAV rvObj rvAVs rvObjs resAV RV.flat Ty.flat Ty.size St.add upd del fresh Value.oneCell' refZ Ty.dflt sub_all sub_one sub_take sub_end List.take_succ_cons List.take_zero List.length_cons cast0 castS sub_app take_app sub_app1 take_app1 take_one1 natC zero_le_natC i64_min i64_max u64_min u64_max u8_min u8_max inK_i64 inK_u64 inK_u8 Option.map_some Option.map_none Option.bind_some Option.getD_some Option.getD_none Option.isNone_none Option.isNone_some Bool.and_true Bool.true_and Bool.and_false Bool.false_and Bool.not_true Bool.not_false if_true if_false List.length_cons List.length_nil and_true true_and and_self List.all_cons List.all_nil List.append_nil List.nil_append List.cons_append List.getElem?_cons_zero List.getElem?_cons_succ List.getElem?_nil List.map_cons List.map_nil List.set_cons_zero List.set_cons_succ List.isEmpty_nil List.isEmpty_cons decide_true decide_false beq_self_eq_true bne_self_eq_false Nat.zero_add Nat.add_zero Nat.sub_zero Int.toNat_natCast Int.toNat_zero Int.toNat_one List.take_length List.length_append List.length_singleton true_or or_true or_self false_or or_false Ty.agg.injEq Ty.slice.injEq Ty.prod.injEq Ty.int.injEq Option.some.injEq beq_iff_eq evM evMG evMQ opM isPick viewE viewS viewG opTs opTmp consE guardM guardM1 guardM2 sideM sideM2 pickM pickM2 sufB chEq memB dstOf Op.operands Call.operands List.filterMap_cons List.filterMap_nil List.append_eq Bool.cond_false_right Bool.cond_true_left cond_true cond_false implies_true decide_eq_true_eq beq_true beq_false Bool.or_true Bool.or_false Bool.true_or Bool.false_or Option.isSome_some fieldV namesAg namesAgs capNs qClo qClo2 qMakeMap qMakeMap2 qMakeMap3 qLook qLook2 qLook3 qLook4 keyT keyP eqT inB lMapUp lMapUp2 lMapUp3 namesMap argEnv cm_tb List.drop_zero pruneR prune rem1 afterM addDst fgtEnv AV.fgt AV.fgts Obj.fgt restObjs handed memB calleeOf opvs matchArgs matchArg List.any_cons List.any_nil evF evFO evFQ evFK addQ frOk qs List.flatMap_cons List.flatMap_nil List.cons_append tn appN fgtEN List.take_succ_cons List.drop_succ_cons isYl parEnv rangeSt cY_tb marked_tb renOk renIn matchObjs matchEnv matchE matchAV matchAVs matchF matchO
attribute [local go_sem] ty1 ty2 ty3 ty4 ty5 ty9 ty12 ty21 ty22 ty23 ty24 ty25 ty27 ty28 ty29 ty30 ty31 ty32 ty33 ty35 ty36 ty37 ty38 ty39 ty41 ty43 ty44 ty45 ty46 ty47 ty48 ty49 ty50 ty51 ty52 ty53 ty54 ty55 ty56 ty57 ty58 ty59 ty60 ty61 ty62 ty64 ty65 ty66 ty67 ty68 ty69 ty70 ty71 ty72 ty73 ty74 ty75 ty76 ty77 ty79 ty80 ty81 ty83 ty85 ty86 ty87 ty88 ty89 ty90 ty91 ty92 ty93 ty94 ty95 ty96 ty98 ty99 ty101 ty102 ty103 ty104 ty105 ty106 ty107 ty108 ty109 ty111 ty112 ty113 ty114 ty115 ty116 ty117 ty118 ty121 ty122 ty123 ty124 ty125 ty126 ty127 ty128 ty129 ty130 ty131 ty132 ty134 ty135 ty136 ty137 ty138 ty139 ty140 ty141 ty142 ty143 ty145 ty146 ty147 ty148 ty149 ty150 ty151 ty152 ty153 ty154 ty155 ty156 ty157 ty158 ty159 ty160 ty161 ty162 ty163 ty164 ty165 ty167 ty168 ty169 ty170 ty171 ty172 ty173 ty174 ty175 ty176 ty177 ty178 ty179 ty180 ty181 ty182 ty183 ty184 ty185 ty186 ty187 ty188 ty189 ty190 ty191 ty192 ty193 ty194 ty195 ty196 ty197 ty199 ty200 ty201 ty202 ty203 ty204 ty205 ty206 ty207 ty208 ty209 ty210 ty211 ty212 ty214 ty215 ty221 ty224 ty225
set_option maxRecDepth 100000
def posF (x : Int × Int) (s : List (Int × Int)) : Nat → Nat
  | 0 => 0
  | n + 1 => if x.1 < (s.getD n (0, 0)).1 then posF x s n else n + 1
def insF (s : List (Int × Int)) (x : Int × Int) : List (Int × Int) := s.take (posF x s s.length) ++ [x] ++ s.drop (posF x s s.length)
def sortedF (l : List (Int × Int)) : List (Int × Int) := l.foldl insF []
theorem posF_le (x : Int × Int) (s : List (Int × Int)) : ∀ n, posF x s n ≤ n
  | 0 => Nat.le_refl _
  | n + 1 => by
    unfold posF
    have := posF_le x s n
    split <;> omega
theorem insF_len (s : List (Int × Int)) (x : Int × Int) : (insF s x).length = s.length + 1 := by
  have := posF_le x s s.length
  simp [insF]; omega
theorem sortedF_snoc (l : List (Int × Int)) (x : Int × Int) : sortedF (l ++ [x]) = insF (sortedF l) x := by simp [sortedF]
theorem foldl_insF_len : ∀ (l s : List (Int × Int)), (l.foldl insF s).length = s.length + l.length
  | [], s => by simp
  | x :: l, s => by simp [foldl_insF_len l, insF_len]; omega
theorem sortedF_len (l : List (Int × Int)) : (sortedF l).length = l.length := by simp [sortedF, foldl_insF_len]
def sortedS : Spec := { ins := [T57], pre := fun (l, _) => l.length ≤ 1000000, out := fun (l, _) => [.own 61 T61 (sortedF l)] }
theorem sorted_ok : FnOk Try.prog 92 sortedS := by
  refine fn_ok Try.func92 (by kernel_rfl) rfl Try.ntmps92 (by decide) (by kernel_rfl) (tyTab_ok []) fns_nil ?_
  rintro w0 O0 ⟨l, u⟩ hc hok hpre
  simp only [sortedS] at hpre
  simp only [sortedS, entEnv]
  repeat' (first | exact trivial | refine ev_seq ?_ | refine ev_skip ?_ | refine ev_ret ?_ | refine ev_exit ?_ | refine ev_block ?_ | refine ev_out_seq ?_ | refine ev_exit_seq ?_ | refine ev_ret_seq ?_ | refine ev_out_blk ?_ | refine ev_ret_blk ?_ | refine ev_exit_eq ?_ | refine ev_exit_ne (by decide) ?_ | refine ev_exit_inv ?_ | refine ev_ret_inv ?_ | refine ev_out_inv ?_ | refine rP [0, 2, 3, 4, 5, 6, 10, 30] hc ?_ ?_ | refine rA [0, 2, 3, 4, 5, 6, 10, 30] hc ?_ ?_ | refine rD [0, 2, 3, 4, 5, 6, 10, 30] hc ?_ ?_ | refine rT [0, 2, 3, 4, 5, 6, 10, 30] 1 hc ?_ ?_ | refine rT [0, 2, 3, 4, 5, 6, 10, 30] 2 hc ?_ ?_ | refine rT [0, 2, 3, 4, 5, 6, 10, 30] 3 hc ?_ ?_ | (refine rC (fun hcond => ?_) (fun hcond => ?_) <;> try (cases hcond; done)))
  refine ev_loop (ι := {p : Nat // p ≤ l.length}) (fun k => ⟨[(0, .p T57 l), (3, .sr 10 T61 0 (sortedF (l.take k.1)).length), (4, .p (.int .i64) (k.1 : Int))], [(10, .arr 61 T61 (sortedF (l.take k.1)))]⟩) (fun k => l.length - k.1) ⟨0, by omega⟩ (ent_match [(10, .nil)] rfl rfl ?_ ?_) (fun k => ?_)
  · simp only [go_sem, Nat.reduceEqDiff, reduceCtorEq, Nat.reduceAdd, Nat.reduceSub, Nat.reduceMul, Nat.reduceLeDiff, Nat.reduceLT, Int.reduceLE, Int.reduceToNat, Int.reduceNeg, ↓reduceIte]
    rfl
  · simp only [go_sem, Nat.reduceEqDiff, reduceCtorEq, Nat.reduceAdd, Nat.reduceSub, Nat.reduceMul, Nat.reduceLeDiff, Nat.reduceLT, Int.reduceLE, Int.reduceToNat, Int.reduceNeg, ↓reduceIte]
    rfl
  · obtain ⟨k, hI⟩ := k
    have hlen : (sortedF (l.take k)).length = k := by rw [sortedF_len, List.length_take]; exact Nat.min_eq_left hI
    repeat' (first | exact trivial | refine ev_seq ?_ | refine ev_skip ?_ | refine ev_ret ?_ | refine ev_exit ?_ | refine ev_block ?_ | refine ev_out_seq ?_ | refine ev_exit_seq ?_ | refine ev_ret_seq ?_ | refine ev_out_blk ?_ | refine ev_ret_blk ?_ | refine ev_exit_eq ?_ | refine ev_exit_ne (by decide) ?_ | refine ev_exit_inv ?_ | refine ev_ret_inv ?_ | refine ev_out_inv ?_ | refine rP [0, 2, 3, 4, 5, 6, 10, 30] hc ?_ ?_ | refine rA [0, 2, 3, 4, 5, 6, 10, 30] hc ?_ ?_ | refine rD [0, 2, 3, 4, 5, 6, 10, 30] hc ?_ ?_ | refine rT [0, 2, 3, 4, 5, 6, 10, 30] 1 hc ?_ ?_ | refine rT [0, 2, 3, 4, 5, 6, 10, 30] 2 hc ?_ ?_ | refine rT [0, 2, 3, 4, 5, 6, 10, 30] 3 hc ?_ ?_ | (refine rC (fun hcond => ?_) (fun hcond => ?_) <;> try (cases hcond; done)))
    · refine ev_loop (ι := {q : Nat // q ≤ (sortedF (l.take k)).length ∧ posF (l.getD k (0,0)) (sortedF (l.take k)) q = posF (l.getD k (0,0)) (sortedF (l.take k)) (sortedF (l.take k)).length}) (fun q => ⟨[(0, .p T57 l), (3, .sr 10 T61 0 (sortedF (l.take k)).length), (4, .p (.int .i64) (k : Int)), (5, .p (.int .i64) (q.1 : Int))], [(10, .arr 61 T61 (sortedF (l.take k)))]⟩) (fun q => q.1) ⟨(sortedF (l.take k)).length, by simp⟩ (ent_match [(10, .nm 10)] rfl rfl ?_ ?_) (fun q => ?_)
      · simp only [go_sem, Nat.reduceEqDiff, reduceCtorEq, Nat.reduceAdd, Nat.reduceSub, Nat.reduceMul, Nat.reduceLeDiff, Nat.reduceLT, Int.reduceLE, Int.reduceToNat, Int.reduceNeg, ↓reduceIte]
      · simp only [go_sem, Nat.reduceEqDiff, reduceCtorEq, Nat.reduceAdd, Nat.reduceSub, Nat.reduceMul, Nat.reduceLeDiff, Nat.reduceLT, Int.reduceLE, Int.reduceToNat, Int.reduceNeg, ↓reduceIte]
      · obtain ⟨q, hq, hp⟩ := q
        have hkl : k < l.length := by omega
        have e1 := l.length_take_le k
        have e2 : (List.take q (sortedF (List.take k l))).length = q := by rw [List.length_take]; exact Nat.min_eq_left hq
        repeat' (first | exact trivial | refine ev_seq ?_ | refine ev_skip ?_ | refine ev_ret ?_ | refine ev_exit ?_ | refine ev_block ?_ | refine ev_out_seq ?_ | refine ev_exit_seq ?_ | refine ev_ret_seq ?_ | refine ev_out_blk ?_ | refine ev_ret_blk ?_ | refine ev_exit_eq ?_ | refine ev_exit_ne (by decide) ?_ | refine ev_exit_inv ?_ | refine ev_ret_inv ?_ | refine ev_out_inv ?_ | refine rP [0, 2, 3, 4, 5, 6, 10, 30] hc ?_ ?_ | refine rA [0, 2, 3, 4, 5, 6, 10, 30] hc ?_ ?_ | refine rD [0, 2, 3, 4, 5, 6, 10, 30] hc ?_ ?_ | refine rT [0, 2, 3, 4, 5, 6, 10, 30] 1 hc ?_ ?_ | refine rT [0, 2, 3, 4, 5, 6, 10, 30] 2 hc ?_ ?_ | refine rT [0, 2, 3, 4, 5, 6, 10, 30] 3 hc ?_ ?_ | (refine rC (fun hcond => ?_) (fun hcond => ?_) <;> try (cases hcond; done)))
        · ((try dsimp only [Ty.den] at *) <;> (repeat' (first | apply And.intro | intro _)) <;> omega)
        · ((try dsimp only [Ty.den] at *) <;> (repeat' (first | apply And.intro | intro _)) <;> omega)
        · obtain ⟨h1, h2⟩ := hcond
          obtain ⟨q, rfl⟩ : ∃ r, q = r + 1 := ⟨q - 1, by omega⟩
          have h3 : ((q + 1 : Nat) : Int) - 1 = (q : Int) := by omega
          refine ⟨⟨q, by omega, ?_⟩, Nat.lt_succ_self q, ent_match [(10, .nm 10)] rfl rfl ?_ ?_⟩
          · rw [← hp]
            simp only [posF]
            rw [h3, Int.toNat_natCast] at h2
            rw [if_pos h2]
          · simp only [go_sem, Nat.reduceEqDiff, reduceCtorEq, Nat.reduceAdd, Nat.reduceSub, Nat.reduceMul, Nat.reduceLeDiff, Nat.reduceLT, Int.reduceLE, Int.reduceToNat, Int.reduceNeg, ↓reduceIte]
          · simp only [go_sem, Nat.reduceEqDiff, reduceCtorEq, Nat.reduceAdd, Nat.reduceSub, Nat.reduceMul, Nat.reduceLeDiff, Nat.reduceLT, Int.reduceLE, Int.reduceToNat, Int.reduceNeg, ↓reduceIte]
            show (q : Int) + 1 - 1 = q
            omega
        · refine ⟨by ((try dsimp only [Ty.den] at *) <;> (repeat' (first | apply And.intro | intro _)) <;> omega), ?_⟩
          rw [e2]; unfold maxN; omega
        · refine ⟨by ((try dsimp only [Ty.den] at *) <;> (repeat' (first | apply And.intro | intro _)) <;> omega), ?_⟩
          rw [e2]; simp only [maxN]; omega
        · refine ⟨by ((try dsimp only [Ty.den] at *) <;> (repeat' (first | apply And.intro | intro _)) <;> omega), ?_⟩
          rw [e2]; simp only [maxN, List.length_drop]; omega
        · ((try dsimp only [Ty.den] at *) <;> (repeat' (first | apply And.intro | intro _)) <;> omega)
        · have hpos : posF (l.getD k (0, 0)) (sortedF (l.take k)) q = q := by
            cases q with
            | zero => rfl
            | succ q =>
              have h3 : ((q + 1 : Nat) : Int) - 1 = (q : Int) := by omega
              have := hcond (by omega)
              rw [h3, Int.toNat_natCast] at this
              simp only [posF]
              rw [if_neg (by omega)]
          have h1 := take_snoc l (0, 0) hkl
          have h2 : sortedF (l.take (k + 1)) = _ := (congrArg sortedF h1).trans (sortedF_snoc _ _)
          unfold insF at h2
          rw [← hp, hpos] at h2
          refine ⟨⟨k + 1, by ((try dsimp only [Ty.den] at *) <;> (repeat' (first | apply And.intro | intro _)) <;> omega)⟩, by simp only; ((try dsimp only [Ty.den] at *) <;> (repeat' (first | apply And.intro | intro _)) <;> omega), ent_match [(10, .nm 37)] rfl rfl ?_ ?_⟩
          · simp only [go_sem, Nat.reduceEqDiff, reduceCtorEq, Nat.reduceAdd, Nat.reduceSub, Nat.reduceMul, Nat.reduceLeDiff, Nat.reduceLT, Int.reduceLE, Int.reduceToNat, Int.reduceNeg, ↓reduceIte]
            exact h2.symm
          · simp only [go_sem, Nat.reduceEqDiff, reduceCtorEq, Nat.reduceAdd, Nat.reduceSub, Nat.reduceMul, Nat.reduceLeDiff, Nat.reduceLT, Int.reduceLE, Int.reduceToNat, Int.reduceNeg, ↓reduceIte]
            have h4 := congrArg List.length h2
            rw [List.length_append, List.length_append] at h4
            exact h4.symm
    · have hk : l.take k = l := List.take_of_length_le (by ((try dsimp only [Ty.den] at *) <;> (repeat' (first | apply And.intro | intro _)) <;> omega))
      refine ev_fin_own hc (.inl rfl) (rv := .tmp 2) rfl ?_
      simp only [resIs, resV, ownOf, go_sem, Nat.reduceEqDiff, reduceCtorEq, Nat.reduceAdd, Nat.reduceSub, Nat.reduceMul, Nat.reduceLeDiff, Nat.reduceLT, Int.reduceLE, Int.reduceToNat, Int.reduceNeg, ↓reduceIte]
      rw [hk]
      first | rfl | exact ⟨rfl, rfl⟩ | exact ⟨rfl, rfl, rfl⟩
end Go.Proofs.Ytfdkpbmofgkaoaa.Fw
