/- Functions of grammarlabref15: canon, Drop. -/
import Derived.Test.YtfdkpbmofgkaoaaYR07h
import Derived.Test.YtfdkpbmofgkaoaaYR15a
set_option linter.unusedVariables false
set_option linter.unusedSimpArgs false
namespace Go.Proofs.Ytfdkpbmofgkaoaa.Fw
open Go
def rcanonF (f : List GNode) : List GNode := if f.length = 0 then [] else fromF f 0
def canon15S : Spec := { ins := [T25], pre := fun (f, _) => GoodF f, out := fun (f, _) => [.p T25 (rcanonF f)] }
attribute [local go_sem] canon15S
attribute [local irreducible] Ev
attribute [local go_sem] cx_tb entEnv List.toList_toArray evSeq evG evK vcK guardOf guardT guardB_true guardB_false step1 step0 stepQ takesIn namesParts namesOf namesStore frzAll frz frz1 fixN frzEnv frzObjs drpEnv drpObjs AV.frz AV.frzs AV.drp AV.drps AV.names AV.namess aq qmap qPick qAlloc qBox qBuild qBuildSlice qBuildSlice2 qLoad qLoadB qLoadB2 qLoadE qLoadE2 qLoadE3 qFieldI qOff qPart qField qIndexA qIndex qIndexS qNil qBin qUn qConv qMake qMake2 qSlice qExtract qLen qAppend qAppend2 qAppend3 qMin qMax qCall qCall2 qCall3 qBuiltin qCallee aloud lStoreD lStore lStoreB lStoreB2 lStoreE lStoreE3 lStoreE4 lCallee lBuiltin lAppend lAppend2 lAppend3 lAppend4 opv lk constAV optAV sliceQ bin binI binS zf1 zfs pfs AV.cells nthOff loadB offB storeB notAg fitsT fitsO Ty.cell1 fieldOk partsT partsAg argsT asT asT1 asTs pairO srT castTo_self getF setF getP setP offP offF fldT rvAV rvObj rvAVs rvObjs resAV RV.flat Ty.flat Ty.size St.add upd del fresh Value.oneCell' refZ Ty.dflt sub_all sub_one sub_take sub_end List.take_succ_cons List.take_zero List.length_cons cast0 castS sub_app take_app sub_app1 take_app1 take_one1 natC zero_le_natC i64_min i64_max u64_min u64_max u8_min u8_max inK_i64 inK_u64 inK_u8 Option.map_some Option.map_none Option.bind_some Option.getD_some Option.getD_none Option.isNone_none Option.isNone_some Bool.and_true Bool.true_and Bool.and_false Bool.false_and Bool.not_true Bool.not_false if_true if_false List.length_cons List.length_nil and_true true_and and_self List.all_cons List.all_nil List.append_nil List.nil_append List.cons_append List.getElem?_cons_zero List.getElem?_cons_succ List.getElem?_nil List.map_cons List.map_nil List.set_cons_zero List.set_cons_succ List.isEmpty_nil List.isEmpty_cons decide_true decide_false beq_self_eq_true bne_self_eq_false Nat.zero_add Nat.add_zero Nat.sub_zero Int.toNat_natCast Int.toNat_zero Int.toNat_one List.take_length List.length_append List.length_singleton true_or or_true or_self false_or or_false Ty.agg.injEq Ty.slice.injEq Ty.prod.injEq Ty.int.injEq Option.some.injEq beq_iff_eq evM evMG evMQ opM isPick viewE viewS viewG opTs opTmp consE guardM guardM1 guardM2 sideM sideM2 pickM pickM2 sufB chEq memB dstOf Op.operands Call.operands List.filterMap_cons List.filterMap_nil List.append_eq Bool.cond_false_right Bool.cond_true_left cond_true cond_false implies_true decide_eq_true_eq beq_true beq_false Bool.or_true Bool.or_false Bool.true_or Bool.false_or Option.isSome_some fieldV namesAg namesAgs capNs qClo qClo2 qMakeMap qMakeMap2 qMakeMap3 qLook qLook2 qLook3 qLook4 keyT keyP eqT inB lMapUp lMapUp2 lMapUp3 namesMap argEnv cm_tb List.drop_zero pruneR prune rem1 afterM addDst fgtEnv AV.fgt AV.fgts Obj.fgt restObjs handed memB calleeOf opvs matchArgs matchArg List.any_cons List.any_nil evF evFO evFQ evFK addQ frOk qs List.flatMap_cons List.flatMap_nil List.cons_append tn appN fgtEN List.take_succ_cons List.drop_succ_cons isYl parEnv rangeSt cY_tb marked_tb renOk renIn matchObjs matchEnv matchE matchAV matchAVs matchF matchO
attribute [local go_sem] ty1 ty2 ty3 ty4 ty5 ty9 ty12 ty21 ty22 ty23 ty24 ty25 ty27 ty28 ty29 ty30 ty31 ty32 ty33 ty35 ty36 ty37 ty38 ty39 ty41 ty43 ty44 ty45 ty46 ty47 ty48 ty49 ty50 ty51 ty52 ty53 ty54 ty55 ty56 ty57 ty58 ty59 ty60 ty61 ty62 ty64 ty65 ty66 ty67 ty68 ty69 ty70 ty71 ty72 ty73 ty74 ty75 ty76 ty77 ty79 ty80 ty81 ty83 ty85 ty86 ty87 ty88 ty89 ty90 ty91 ty92 ty93 ty94 ty95 ty96 ty98 ty99 ty101 ty102 ty103 ty104 ty105 ty106 ty107 ty108 ty109 ty111 ty112 ty113 ty114 ty115 ty116 ty117 ty118 ty121 ty122 ty123 ty124 ty125 ty126 ty127 ty128 ty129 ty130 ty131 ty132 ty134 ty135 ty136 ty137 ty138 ty139 ty140 ty141 ty142 ty143 ty145 ty146 ty147 ty148 ty149 ty150 ty151 ty152 ty153 ty154 ty155 ty156 ty157 ty158 ty159 ty160 ty161 ty162 ty163 ty164 ty165 ty167 ty168 ty169 ty170 ty171 ty172 ty173 ty174 ty175 ty176 ty177 ty178 ty179 ty180 ty181 ty182 ty183 ty184 ty185 ty186 ty187 ty188 ty189 ty190 ty191 ty192 ty193 ty194 ty195 ty196 ty197 ty199 ty200 ty201 ty202 ty203 ty204 ty205 ty206 ty207 ty208 ty209 ty210 ty211 ty212 ty214 ty215 ty221 ty224 ty225
attribute [local go_sem] fromS inS
set_option maxRecDepth 100000
set_option maxHeartbeats 4000000
theorem canon15_ok : FnOk Try.prog 50 canon15S := by
  refine fn_ok Try.func50 (by kernel_rfl) rfl Try.ntmps50 (by decide) (by kernel_rfl) (tyTab_ok [(69, fromS)]) (fns_cons from_ok fns_nil) ?_
  rintro w0 O0 ⟨f, u⟩ hc - hs
  simp only [canon15S, entEnv]
  repeat' (first | exact trivial | refine ev_seq ?_ | refine ev_skip ?_ | refine ev_ret ?_ | refine ev_exit ?_ | refine ev_block ?_ | refine ev_out_seq ?_ | refine ev_exit_seq ?_ | refine ev_ret_seq ?_ | refine ev_out_blk ?_ | refine ev_ret_blk ?_ | refine ev_exit_eq ?_ | refine ev_exit_ne (by decide) ?_ | refine ev_exit_inv ?_ | refine ev_ret_inv ?_ | refine ev_out_inv ?_ | refine rP [0, 1, 2, 6] hc ?_ ?_ | refine rA [0, 1, 2, 6] hc ?_ ?_ | refine rD [0, 1, 2, 6] hc ?_ ?_ | refine rT [0, 1, 2, 6] 1 hc ?_ ?_ | refine rT [0, 1, 2, 6] 2 hc ?_ ?_ | refine rT [0, 1, 2, 6] 3 hc ?_ ?_ | (refine rC (fun hcond => ?_) (fun hcond => ?_) <;> try (cases hcond; done)))
  · have h : rcanonF f = [] := if_pos (by ((try dsimp only [Ty.den] at *) <;> (repeat' (first | apply And.intro | intro _)) <;> omega))
    exact ev_fin hc [.cell 2 25] rfl (.inl rfl) (by simp) (by rw [h]; simp only [retIs, resIs, resV, resLoad, avNames, pureOf, ownOf, go_sem, Nat.reduceEqDiff, reduceCtorEq, Nat.reduceAdd, Nat.reduceSub, Nat.reduceMul, Nat.reduceLeDiff, Nat.reduceLT, Int.reduceLE, Int.reduceToNat, Int.reduceNeg, ↓reduceIte])
  · exact ⟨hs, by ((try dsimp only [Ty.den] at *) <;> (repeat' (first | apply And.intro | intro _)) <;> omega)⟩
  · have h : rcanonF f = fromF f 0 := if_neg (by ((try dsimp only [Ty.den] at *) <;> (repeat' (first | apply And.intro | intro _)) <;> omega))
    exact ev_fin hc [.cell 2 25] rfl (.inl rfl) (by simp) (by rw [h]; simp only [retIs, resIs, resV, resLoad, avNames, pureOf, ownOf, go_sem, Nat.reduceEqDiff, reduceCtorEq, Nat.reduceAdd, Nat.reduceSub, Nat.reduceMul, Nat.reduceLeDiff, Nat.reduceLT, Int.reduceLE, Int.reduceToNat, Int.reduceNeg, ↓reduceIte])
def dropArcs (feats : List Int) (l : List (Int × Int)) : List (Int × Int) := l.filter fun a => !inF feats a.1
def dropN (feats : List Int) (x : GNode) : GNode := (x.1, dropArcs feats x.2)
theorem dropArcs_nil (feats : List Int) : dropArcs feats [] = [] := rfl
theorem dropArcs_len (feats : List Int) (l : List (Int × Int)) : (dropArcs feats l).length ≤ l.length := List.length_filter_le _ _
theorem dropArcs_in {feats : List Int} {l : List (Int × Int)} {k : Nat} (hk : k < l.length) (h : inF feats (l.getD k (0, 0)).1 = true) : dropArcs feats (l.take (k + 1)) = dropArcs feats (l.take k) := by
  rw [take_snoc l (0, 0) hk]
  simp only [dropArcs, List.filter_append, List.filter_cons, h, List.filter_nil]
  simp
theorem dropArcs_out {feats : List Int} {l : List (Int × Int)} {k : Nat} (hk : k < l.length) (h : inF feats (l.getD k (0, 0)).1 = false) : dropArcs feats (l.take (k + 1)) = dropArcs feats (l.take k) ++ [l.getD k (0, 0)] := by
  rw [take_snoc l (0, 0) hk]
  simp only [dropArcs, List.filter_append, List.filter_cons, h, List.filter_nil]
  simp
theorem good_drop {f : List GNode} (h : GoodF f) (feats : List Int) : GoodF (f.map (dropN feats)) := by
  refine ⟨by rw [List.length_map]; exact h.1, fun x hx => ?_⟩
  obtain ⟨y, hy, rfl⟩ := List.mem_map.1 hx
  obtain ⟨h1, h2⟩ := h.2 y hy
  refine ⟨Nat.le_trans (dropArcs_len _ _) h1, fun a ha => ?_⟩
  rw [List.length_map]
  exact h2 a (List.mem_filter.1 ha).1
def dropF (f : List GNode) (feats : List Int) : List GNode := rcanonF (f.map (dropN feats))
def dropS : Spec := { ins := [T25, T41], pre := fun (f, _, _) => GoodF f, out := fun (f, l, _) => [.p T25 (dropF f l)] }
theorem drop_ok : FnOk Try.prog 23 dropS := by
  refine fn_ok Try.func23 (by kernel_rfl) rfl Try.ntmps23 (by decide) (by kernel_rfl) (tyTab_ok [(50, canon15S), (49, inS)]) (fns_cons canon15_ok (fns_cons in_ok fns_nil)) ?_
  rintro w0 O0 ⟨f, feats, u⟩ hc - hs
  simp only [dropS, entEnv]
  have hfl : f.length ≤ 100000 := hs.1
  repeat' (first | exact trivial | refine ev_seq ?_ | refine ev_skip ?_ | refine ev_ret ?_ | refine ev_exit ?_ | refine ev_block ?_ | refine ev_out_seq ?_ | refine ev_exit_seq ?_ | refine ev_ret_seq ?_ | refine ev_out_blk ?_ | refine ev_ret_blk ?_ | refine ev_exit_eq ?_ | refine ev_exit_ne (by decide) ?_ | refine ev_exit_inv ?_ | refine ev_ret_inv ?_ | refine ev_out_inv ?_ | refine rP [0, 1, 2, 4, 5, 6, 7, 8, 13, 31, 46] hc ?_ ?_ | refine rA [0, 1, 2, 4, 5, 6, 7, 8, 13, 31, 46] hc ?_ ?_ | refine rD [0, 1, 2, 4, 5, 6, 7, 8, 13, 31, 46] hc ?_ ?_ | refine rT [0, 1, 2, 4, 5, 6, 7, 8, 13, 31, 46] 1 hc ?_ ?_ | refine rT [0, 1, 2, 4, 5, 6, 7, 8, 13, 31, 46] 2 hc ?_ ?_ | refine rT [0, 1, 2, 4, 5, 6, 7, 8, 13, 31, 46] 3 hc ?_ ?_ | (refine rC (fun hcond => ?_) (fun hcond => ?_) <;> try (cases hcond; done)))
  refine ev_loop (ι := {i : Nat // i ≤ f.length}) (fun i => ⟨[(1, .p T41 feats), (2, .bp 2 [] 0), (4, .bp 4 [] 0), (5, .bp 5 [] 0), (6, .p (.int .i64) (i.1 : Int))], [(2, .box 25 true [.p T23 f]), (4, .box 25 true [.raw (.slice none 0 0)]), (5, .box 25 true [.sr 65 T59 0 i.1]), (65, .arr 59 T59 ((f.take i.1).map (dropN feats)))]⟩) (fun i => f.length - i.1) ⟨0, by omega⟩ (ent_match [(2, .nm 2), (4, .nm 4), (5, .nm 5), (65, .nil)] rfl rfl ?_ ?_) (fun i => ?_)
  · simp only [go_sem, Nat.reduceEqDiff, reduceCtorEq, Nat.reduceAdd, Nat.reduceSub, Nat.reduceMul, Nat.reduceLeDiff, Nat.reduceLT, Int.reduceLE, Int.reduceToNat, Int.reduceNeg, ↓reduceIte]
  · simp only [go_sem, Nat.reduceEqDiff, reduceCtorEq, Nat.reduceAdd, Nat.reduceSub, Nat.reduceMul, Nat.reduceLeDiff, Nat.reduceLT, Int.reduceLE, Int.reduceToNat, Int.reduceNeg, ↓reduceIte]
  · obtain ⟨i, hi⟩ := i
    repeat' (first | exact trivial | refine ev_seq ?_ | refine ev_skip ?_ | refine ev_ret ?_ | refine ev_exit ?_ | refine ev_block ?_ | refine ev_out_seq ?_ | refine ev_exit_seq ?_ | refine ev_ret_seq ?_ | refine ev_out_blk ?_ | refine ev_ret_blk ?_ | refine ev_exit_eq ?_ | refine ev_exit_ne (by decide) ?_ | refine ev_exit_inv ?_ | refine ev_ret_inv ?_ | refine ev_out_inv ?_ | refine rP [0, 1, 2, 4, 5, 6, 7, 8, 13, 31, 46] hc ?_ ?_ | refine rA [0, 1, 2, 4, 5, 6, 7, 8, 13, 31, 46] hc ?_ ?_ | refine rD [0, 1, 2, 4, 5, 6, 7, 8, 13, 31, 46] hc ?_ ?_ | refine rT [0, 1, 2, 4, 5, 6, 7, 8, 13, 31, 46] 1 hc ?_ ?_ | refine rT [0, 1, 2, 4, 5, 6, 7, 8, 13, 31, 46] 2 hc ?_ ?_ | refine rT [0, 1, 2, 4, 5, 6, 7, 8, 13, 31, 46] 3 hc ?_ ?_ | (refine rC (fun hcond => ?_) (fun hcond => ?_) <;> try (cases hcond; done)))
    · ((try dsimp only [Ty.den] at *) <;> (repeat' (first | apply And.intro | intro _)) <;> omega)
    · have hxl : (f.getD i (0, [])).2.length ≤ 100000 := by
        have := arcs_len hs (i : Int)
        simpa using this
      have hdn : dropN feats (f.getD i (0, [])) = ((f.getD i (0, [])).1, dropArcs feats (f.getD i (0, [])).2) := rfl
      have hx : ∀ y, y = f.getD i (0, []) → y.2.length ≤ 100000 := by rintro y rfl; exact hxl
      refine ev_loop (ι := {k : Nat // k ≤ (f.getD i (0, [])).2.length}) (fun k => ⟨[(1, .p T41 feats), (2, .bp 2 [] 0), (4, .bp 4 [] 0), (5, .bp 5 [] 0), (6, .p (.int .i64) (i : Int)), (7, .bp 7 [] 0), (8, .p (.int .i64) (k.1 : Int))], [(2, .box 25 true [.p T23 f]), (4, .box 25 true [.raw (.slice none 0 0)]), (5, .box 25 true [.sr 65 T59 0 i]), (65, .arr 59 T59 ((f.take i).map (dropN feats))), (7, .box 59 true [.p T3 (f.getD i (0, [])).1, .sr 59 T61 0 (dropArcs feats ((f.getD i (0, [])).2.take k.1)).length]), (59, .arr 61 T61 (dropArcs feats ((f.getD i (0, [])).2.take k.1)))]⟩) (fun k => (f.getD i (0, [])).2.length - k.1) ⟨0, by omega⟩ (ent_match [(2, .nm 2), (4, .nm 4), (5, .nm 5), (65, .nm 65), (7, .nm 7), (59, .nil)] rfl rfl ?_ ?_) (fun k => ?_)
      · simp only [go_sem, Nat.reduceEqDiff, reduceCtorEq, Nat.reduceAdd, Nat.reduceSub, Nat.reduceMul, Nat.reduceLeDiff, Nat.reduceLT, Int.reduceLE, Int.reduceToNat, Int.reduceNeg, ↓reduceIte]
        exact ⟨rfl, rfl⟩
      · simp only [go_sem, Nat.reduceEqDiff, reduceCtorEq, Nat.reduceAdd, Nat.reduceSub, Nat.reduceMul, Nat.reduceLeDiff, Nat.reduceLT, Int.reduceLE, Int.reduceToNat, Int.reduceNeg, ↓reduceIte]
      · obtain ⟨k, hk⟩ := k
        repeat' (first | exact trivial | refine ev_seq ?_ | refine ev_skip ?_ | refine ev_ret ?_ | refine ev_exit ?_ | refine ev_block ?_ | refine ev_out_seq ?_ | refine ev_exit_seq ?_ | refine ev_ret_seq ?_ | refine ev_out_blk ?_ | refine ev_ret_blk ?_ | refine ev_exit_eq ?_ | refine ev_exit_ne (by decide) ?_ | refine ev_exit_inv ?_ | refine ev_ret_inv ?_ | refine ev_out_inv ?_ | refine rP [0, 1, 2, 4, 5, 6, 7, 8, 13, 31, 46] hc ?_ ?_ | refine rA [0, 1, 2, 4, 5, 6, 7, 8, 13, 31, 46] hc ?_ ?_ | refine rD [0, 1, 2, 4, 5, 6, 7, 8, 13, 31, 46] hc ?_ ?_ | refine rT [0, 1, 2, 4, 5, 6, 7, 8, 13, 31, 46] 1 hc ?_ ?_ | refine rT [0, 1, 2, 4, 5, 6, 7, 8, 13, 31, 46] 2 hc ?_ ?_ | refine rT [0, 1, 2, 4, 5, 6, 7, 8, 13, 31, 46] 3 hc ?_ ?_ | (refine rC (fun hcond => ?_) (fun hcond => ?_) <;> try (cases hcond; done)))
        · exact hcond
        · exact ⟨by assumption, hcond⟩
        · refine ⟨by assumption, by assumption, ?_⟩
          have h1 := dropArcs_len feats ((f.getD i (0, [])).2.take k)
          have h2 := List.length_take_le k (f.getD i (0, [])).2
          simp only [maxN]
          dsimp only [Ty.den] at *
          omega
        · ((try dsimp only [Ty.den] at *) <;> (repeat' (first | apply And.intro | intro _)) <;> omega)
        · rename_i hkx
          have hkx : k < (f.getD i (0, [])).2.length := by dsimp only [Ty.den] at *; omega
          have hsucc := dropArcs_out hkx hcond
          refine ⟨⟨k + 1, by ((try dsimp only [Ty.den] at *) <;> (repeat' (first | apply And.intro | intro _)) <;> omega)⟩, by simp only; ((try dsimp only [Ty.den] at *) <;> (repeat' (first | apply And.intro | intro _)) <;> omega), ent_match [(2, .nm 2), (4, .nm 4), (5, .nm 5), (65, .nm 65), (7, .nm 7), (59, .nm 59)] rfl rfl ?_ ?_⟩
          · simp only
            rw [hsucc]
            simp only [go_sem, Nat.reduceEqDiff, reduceCtorEq, Nat.reduceAdd, Nat.reduceSub, Nat.reduceMul, Nat.reduceLeDiff, Nat.reduceLT, Int.reduceLE, Int.reduceToNat, Int.reduceNeg, ↓reduceIte]
          · simp only [go_sem, Nat.reduceEqDiff, reduceCtorEq, Nat.reduceAdd, Nat.reduceSub, Nat.reduceMul, Nat.reduceLeDiff, Nat.reduceLT, Int.reduceLE, Int.reduceToNat, Int.reduceNeg, ↓reduceIte]
        · ((try dsimp only [Ty.den] at *) <;> (repeat' (first | apply And.intro | intro _)) <;> omega)
        · refine ⟨⟨k + 1, by ((try dsimp only [Ty.den] at *) <;> (repeat' (first | apply And.intro | intro _)) <;> omega)⟩, by simp only; ((try dsimp only [Ty.den] at *) <;> (repeat' (first | apply And.intro | intro _)) <;> omega), ent_match [(2, .nm 2), (4, .nm 4), (5, .nm 5), (65, .nm 65), (7, .nm 7), (59, .nm 59)] rfl rfl ?_ ?_⟩
          · rename_i hkx
            have hkx : k < (f.getD i (0, [])).2.length := by dsimp only [Ty.den] at *; omega
            simp only
            rw [dropArcs_in hkx hcond]
            simp only [go_sem, Nat.reduceEqDiff, reduceCtorEq, Nat.reduceAdd, Nat.reduceSub, Nat.reduceMul, Nat.reduceLeDiff, Nat.reduceLT, Int.reduceLE, Int.reduceToNat, Int.reduceNeg, ↓reduceIte]
          · simp only [go_sem, Nat.reduceEqDiff, reduceCtorEq, Nat.reduceAdd, Nat.reduceSub, Nat.reduceMul, Nat.reduceLeDiff, Nat.reduceLT, Int.reduceLE, Int.reduceToNat, Int.reduceNeg, ↓reduceIte]
        · simp only [maxN]; omega
        · ((try dsimp only [Ty.den] at *) <;> (repeat' (first | apply And.intro | intro _)) <;> omega)
        · have hkx : (f.getD i (0, [])).2.take k = (f.getD i (0, [])).2 := List.take_of_length_le (by ((try dsimp only [Ty.den] at *) <;> (repeat' (first | apply And.intro | intro _)) <;> omega))
          rename_i hif
          have hif : i < f.length := by dsimp only [Ty.den] at *; omega
          rw [hkx]
          refine ⟨⟨i + 1, by omega⟩, by simp only; omega, ent_match [(2, .nm 2), (4, .nm 4), (5, .nm 5), (65, .nm 65)] rfl rfl ?_ ?_⟩
          · simp only
            rw [take_snoc f (0, []) hif, List.map_append]
            simp only [go_sem, Nat.reduceEqDiff, reduceCtorEq, Nat.reduceAdd, Nat.reduceSub, Nat.reduceMul, Nat.reduceLeDiff, Nat.reduceLT, Int.reduceLE, Int.reduceToNat, Int.reduceNeg, ↓reduceIte]
            have hlen : ((f.take i).map (dropN feats)).length = i := by simp; omega
            rw [List.take_of_length_le (by rw [hlen]; exact Nat.le_refl i)]
            rfl
          · simp only [go_sem, Nat.reduceEqDiff, reduceCtorEq, Nat.reduceAdd, Nat.reduceSub, Nat.reduceMul, Nat.reduceLeDiff, Nat.reduceLT, Int.reduceLE, Int.reduceToNat, Int.reduceNeg, ↓reduceIte]
    · have hif : f.take i = f := List.take_of_length_le (by ((try dsimp only [Ty.den] at *) <;> (repeat' (first | apply And.intro | intro _)) <;> omega))
      rw [hif]
      have hg := good_drop hs feats
      refine Ev.ent ?_ (ent_frz [65] (by simp only [go_sem, Nat.reduceEqDiff, reduceCtorEq, Nat.reduceAdd, Nat.reduceSub, Nat.reduceMul, Nat.reduceLeDiff, Nat.reduceLT, Int.reduceLE, Int.reduceToNat, Int.reduceNeg, ↓reduceIte]; rfl) (fun _ _ h => h))
      have hlen : (f.map (dropN feats)).take i = f.map (dropN feats) := List.take_of_length_le (by simp only [List.length_map]; ((try dsimp only [Ty.den] at *) <;> (repeat' (first | apply And.intro | intro _)) <;> omega))
      repeat' (first | exact trivial | refine ev_seq ?_ | refine ev_skip ?_ | refine ev_ret ?_ | refine ev_exit ?_ | refine ev_block ?_ | refine ev_out_seq ?_ | refine ev_exit_seq ?_ | refine ev_ret_seq ?_ | refine ev_out_blk ?_ | refine ev_ret_blk ?_ | refine ev_exit_eq ?_ | refine ev_exit_ne (by decide) ?_ | refine ev_exit_inv ?_ | refine ev_ret_inv ?_ | refine ev_out_inv ?_ | refine rP [0, 1, 2, 4, 5, 6, 7, 8, 13, 31, 46] hc ?_ ?_ | refine rA [0, 1, 2, 4, 5, 6, 7, 8, 13, 31, 46] hc ?_ ?_ | refine rD [0, 1, 2, 4, 5, 6, 7, 8, 13, 31, 46] hc ?_ ?_ | refine rT [0, 1, 2, 4, 5, 6, 7, 8, 13, 31, 46] 1 hc ?_ ?_ | refine rT [0, 1, 2, 4, 5, 6, 7, 8, 13, 31, 46] 2 hc ?_ ?_ | refine rT [0, 1, 2, 4, 5, 6, 7, 8, 13, 31, 46] 3 hc ?_ ?_ | (refine rC (fun hcond => ?_) (fun hcond => ?_) <;> try (cases hcond; done)))
      · rw [hlen]; exact hg
      · rw [hlen]
        exact ev_fin hc [.cell 4 25] rfl (.inl rfl) (by simp) (by unfold dropF; simp only [retIs, resIs, resV, resLoad, avNames, pureOf, ownOf, go_sem, Nat.reduceEqDiff, reduceCtorEq, Nat.reduceAdd, Nat.reduceSub, Nat.reduceMul, Nat.reduceLeDiff, Nat.reduceLT, Int.reduceLE, Int.reduceToNat, Int.reduceNeg, ↓reduceIte])
end Go.Proofs.Ytfdkpbmofgkaoaa.Fw
