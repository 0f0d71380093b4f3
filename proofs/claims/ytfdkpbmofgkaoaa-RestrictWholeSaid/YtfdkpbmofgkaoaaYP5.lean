/- Functions of restrict: Depth; grammarlabref15: Depth. -/
import Derived.Test.YtfdkpbmofgkaoaaYP4
import Derived.Test.YtfdkpbmofgkaoaaYP1
set_option linter.unusedVariables false
set_option linter.unusedSimpArgs false
namespace Go.Proofs.Ytfdkpbmofgkaoaa.Fw
open Go
def depthN (first : List (List Int)) (d : Int) (f : List GNode) (i : Nat) : GNode := ((f.getD i (0, [])).1, if ((first.getD i []).length : Int) < d then (f.getD i (0, [])).2 else [])
def depthL (first : List (List Int)) (d : Int) (f : List GNode) (i : Nat) : List GNode := (List.range i).map (depthN first d f)
def depthF (f : List GNode) (d : Int) : List GNode := rcanonF (depthL (firstF f) d f f.length)
def depth15S : Spec := { ins := [T25, T3], pre := fun (f, _, _) => GoodF f ∧ 0 < List.length f, out := fun (f, d, _) => [.p T25 (depthF f d)] }
attribute [local go_sem] depth15S
attribute [local irreducible] Ev
attribute [local go_sem] cx_tb entEnv List.toList_toArray evSeq evG evK vcK guardOf guardT guardB_true guardB_false step1 step0 stepQ takesIn namesParts namesOf namesStore frzAll frz frz1 fixN frzEnv frzObjs drpEnv drpObjs AV.frz AV.frzs AV.drp AV.drps AV.names AV.namess aq qmap qPick qAlloc qBox qBuild qBuildSlice qBuildSlice2 qLoad qLoadB qLoadB2 qLoadE qLoadE2 qLoadE3 qFieldI qOff qPart qField qIndexA qIndex qIndexS qNil qBin qUn qConv qMake qMake2 qSlice qExtract qLen qAppend qAppend2 qAppend3 qMin qMax qCall qCall2 qCall3 qBuiltin qCallee aloud lStoreD lStore lStoreB lStoreB2 lStoreE lStoreE3 lStoreE4 lCallee lBuiltin lAppend lAppend2 lAppend3 lAppend4 opv lk constAV optAV sliceQ bin binI binS zf1 zfs pfs AV.cells nthOff loadB offB storeB notAg fitsT fitsO Ty.cell1 fieldOk partsT partsAg argsT asT asT1 asTs pairO srT castTo_self getF setF getP setP offP offF fldT rvAV rvObj rvAVs rvObjs resAV RV.flat Ty.flat Ty.size St.add upd del fresh Value.oneCell' refZ Ty.dflt sub_all sub_one sub_take sub_end List.take_succ_cons List.take_zero List.length_cons cast0 castS sub_app take_app sub_app1 take_app1 take_one1 natC zero_le_natC i64_min i64_max u64_min u64_max u8_min u8_max inK_i64 inK_u64 inK_u8 Option.map_some Option.map_none Option.bind_some Option.getD_some Option.getD_none Option.isNone_none Option.isNone_some Bool.and_true Bool.true_and Bool.and_false Bool.false_and Bool.not_true Bool.not_false if_true if_false List.length_cons List.length_nil and_true true_and and_self List.all_cons List.all_nil List.append_nil List.nil_append List.cons_append List.getElem?_cons_zero List.getElem?_cons_succ List.getElem?_nil List.map_cons List.map_nil List.set_cons_zero List.set_cons_succ List.isEmpty_nil List.isEmpty_cons decide_true decide_false beq_self_eq_true bne_self_eq_false Nat.zero_add Nat.add_zero Nat.sub_zero Int.toNat_natCast Int.toNat_zero Int.toNat_one List.take_length List.length_append List.length_singleton true_or or_true or_self false_or or_false Ty.agg.injEq Ty.slice.injEq Ty.prod.injEq Ty.int.injEq Option.some.injEq beq_iff_eq evM evMG evMQ opM isPick viewE viewS viewG opTs opTmp consE guardM guardM1 guardM2 sideM sideM2 pickM pickM2 sufB chEq memB dstOf Op.operands Call.operands List.filterMap_cons List.filterMap_nil List.append_eq Bool.cond_false_right Bool.cond_true_left cond_true cond_false implies_true decide_eq_true_eq beq_true beq_false Bool.or_true Bool.or_false Bool.true_or Bool.false_or Option.isSome_some fieldV namesAg namesAgs capNs qClo qClo2 qMakeMap qMakeMap2 qMakeMap3 qLook qLook2 qLook3 qLook4 keyT keyP eqT inB lMapUp lMapUp2 lMapUp3 namesMap argEnv cm_tb List.drop_zero pruneR prune rem1 afterM addDst fgtEnv AV.fgt AV.fgts Obj.fgt restObjs handed memB calleeOf opvs matchArgs matchArg List.any_cons List.any_nil evF evFO evFQ evFK addQ frOk qs List.flatMap_cons List.flatMap_nil List.cons_append tn appN fgtEN List.take_succ_cons List.drop_succ_cons isYl parEnv rangeSt cY_tb marked_tb renOk renIn matchObjs matchEnv matchE matchAV matchAVs matchF matchO
attribute [local go_sem] ty1 ty2 ty3 ty4 ty5 ty9 ty12 ty21 ty22 ty23 ty24 ty25 ty27 ty28 ty29 ty30 ty31 ty32 ty33 ty35 ty36 ty37 ty38 ty39 ty41 ty43 ty44 ty45 ty46 ty47 ty48 ty49 ty50 ty51 ty52 ty53 ty54 ty55 ty56 ty57 ty58 ty59 ty60 ty61 ty62 ty64 ty65 ty66 ty67 ty68 ty69 ty70 ty71 ty72 ty73 ty74 ty75 ty76 ty77 ty79 ty80 ty81 ty83 ty85 ty86 ty87 ty88 ty89 ty90 ty91 ty92 ty93 ty94 ty95 ty96 ty98 ty99 ty101 ty102 ty103 ty104 ty105 ty106 ty107 ty108 ty109 ty111 ty112 ty113 ty114 ty115 ty116 ty117 ty118 ty121 ty122 ty123 ty124 ty125 ty126 ty127 ty128 ty129 ty130 ty131 ty132 ty134 ty135 ty136 ty137 ty138 ty139 ty140 ty141 ty142 ty143 ty145 ty146 ty147 ty148 ty149 ty150 ty151 ty152 ty153 ty154 ty155 ty156 ty157 ty158 ty159 ty160 ty161 ty162 ty163 ty164 ty165 ty167 ty168 ty169 ty170 ty171 ty172 ty173 ty174 ty175 ty176 ty177 ty178 ty179 ty180 ty181 ty182 ty183 ty184 ty185 ty186 ty187 ty188 ty189 ty190 ty191 ty192 ty193 ty194 ty195 ty196 ty197 ty199 ty200 ty201 ty202 ty203 ty204 ty205 ty206 ty207 ty208 ty209 ty210 ty211 ty212 ty214 ty215 ty221 ty224 ty225
attribute [local go_sem] subS canonicalS canon15S firstS
set_option maxRecDepth 100000
set_option maxHeartbeats 4000000
def accT (first : List (List Int)) (d : Int) (n : Int) (_ : Int × Int) : Bool := decide (((first.getD n.toNat []).length : Int) < d)
theorem depthC_ok (first : List (List Int)) (d : Int) (n : Int) (a : Int × Int) (h : 0 ≤ n ∧ n < (first.length : Int)) : CallM Try.prog 54 [.p T3 n, .p T61 a, .bp 1 [] 0, .bp 3 [] 0] [(1, .box 50 false [.p T50 first]), (3, .box 3 false [.p T3 d])] [1, 3] (fun res objs' => res = .p .bool (accT first d n a) ∧ objs' = [(1, .box 50 false [.p T50 first]), (3, .box 3 false [.p T3 d])]) := by
  refine fnM_ok Try.func54 (by kernel_rfl) rfl Try.ntmps54 (by simp only [List.length_cons, List.length_nil]; omega) (by kernel_rfl) rfl rfl (tyTab_ok []) fns_nil ?_
  intro w0 K O0 ρ0 hc hok1 hok2
  simp only [argEnv]
  repeat' (first | exact trivial | refine ev_seq ?_ | refine ev_skip ?_ | refine ev_ret ?_ | refine ev_exit ?_ | refine ev_block ?_ | refine ev_out_seq ?_ | refine ev_exit_seq ?_ | refine ev_ret_seq ?_ | refine ev_out_blk ?_ | refine ev_ret_blk ?_ | refine ev_exit_eq ?_ | refine ev_exit_ne (by decide) ?_ | refine ev_exit_inv ?_ | refine ev_ret_inv ?_ | refine ev_out_inv ?_ | refine rP [0, 1, 2, 3, 6] hc ?_ ?_ | refine rA [0, 1, 2, 3, 6] hc ?_ ?_ | refine rD [0, 1, 2, 3, 6] hc ?_ ?_ | refine rT [0, 1, 2, 3, 6] 1 hc ?_ ?_ | refine rT [0, 1, 2, 3, 6] 2 hc ?_ ?_ | refine rT [0, 1, 2, 3, 6] 3 hc ?_ ?_ | (refine rC (fun hcond => ?_) (fun hcond => ?_) <;> try (cases hcond; done)))
  · exact h
  · refine Ev.ent (σ' := ⟨[(6, .p .bool (accT first d n a))], [(1, .box 50 false [.p T50 first]), (3, .box 3 false [.p T3 d])]⟩) ?_ (ent_match [(1, .nm 1), (3, .nm 3)] rfl rfl ?_ ?_)
    · exact ev_finM hc [.tmp 6] rfl (.inl rfl) (.p .bool (accT first d n a)) (by simp only [retAV, ret1, retAVs, notAT, resV, resLoad, pureOf, go_sem, Nat.reduceEqDiff, reduceCtorEq, Nat.reduceAdd, Nat.reduceSub, Nat.reduceMul, Nat.reduceLeDiff, Nat.reduceLT, Int.reduceLE, Int.reduceToNat, Int.reduceNeg, ↓reduceIte]) ⟨rfl, rfl⟩
    · simp only [go_sem, Nat.reduceEqDiff, reduceCtorEq, Nat.reduceAdd, Nat.reduceSub, Nat.reduceMul, Nat.reduceLeDiff, Nat.reduceLT, Int.reduceLE, Int.reduceToNat, Int.reduceNeg, ↓reduceIte]
    · simp only [go_sem, Nat.reduceEqDiff, reduceCtorEq, Nat.reduceAdd, Nat.reduceSub, Nat.reduceMul, Nat.reduceLeDiff, Nat.reduceLT, Int.reduceLE, Int.reduceToNat, Int.reduceNeg, ↓reduceIte]
      rfl
theorem partT_ok (f : List GNode) (hf : GoodF f) (hs : SrtF f) (h0 : 0 < f.length) (first : List (List Int)) (d : Int) (hfi : first.length = f.length) : CallM Try.prog 47 [.p T25 f, .clo 54 [1, 3]] [(1, .box 50 false [.p T50 first]), (3, .box 3 false [.p T3 d])] [1, 3] (fun res _ => res = .p T25 (partF (accT first d) f)) := by
  refine fnM_ok Try.func47 (by kernel_rfl) rfl Try.ntmps47 (by simp only [List.length_cons, List.length_nil]; omega) (by kernel_rfl) rfl rfl (tyTab_ok [(70, subS)]) (fns_cons sub_ok fns_nil) ?_
  intro w0 K O0 ρ0 hc hok1 hok2
  simp only [argEnv]
  have hfl := hf.1
  repeat' (first | exact trivial | refine ev_seq ?_ | refine ev_skip ?_ | refine ev_ret ?_ | refine ev_exit ?_ | refine ev_block ?_ | refine ev_out_seq ?_ | refine ev_exit_seq ?_ | refine ev_ret_seq ?_ | refine ev_out_blk ?_ | refine ev_ret_blk ?_ | refine ev_exit_eq ?_ | refine ev_exit_ne (by decide) ?_ | refine ev_exit_inv ?_ | refine ev_ret_inv ?_ | refine ev_out_inv ?_ | refine rP [0, 1, 2, 4, 5, 6, 7, 8, 10, 12, 13, 14, 15, 23, 24, 25, 26, 32] hc ?_ ?_ | refine rA [0, 1, 2, 4, 5, 6, 7, 8, 10, 12, 13, 14, 15, 23, 24, 25, 26, 32] hc ?_ ?_ | refine rD [0, 1, 2, 4, 5, 6, 7, 8, 10, 12, 13, 14, 15, 23, 24, 25, 26, 32] hc ?_ ?_ | refine rT [0, 1, 2, 4, 5, 6, 7, 8, 10, 12, 13, 14, 15, 23, 24, 25, 26, 32] 1 hc ?_ ?_ | refine rT [0, 1, 2, 4, 5, 6, 7, 8, 10, 12, 13, 14, 15, 23, 24, 25, 26, 32] 2 hc ?_ ?_ | refine rT [0, 1, 2, 4, 5, 6, 7, 8, 10, 12, 13, 14, 15, 23, 24, 25, 26, 32] 3 hc ?_ ?_ | (refine rC (fun hcond => ?_) (fun hcond => ?_) <;> try (cases hcond; done)))
  refine ev_loop (ι := {i : Nat // i ≤ f.length}) (fun i => ⟨[(1, .clo 54 [1, 3]), (2, .bp 2 [] 0), (4, .bp 4 [] 0), (5, .bp 5 [] 0), (12, .p T23 f), (13, .p (.int .i64) (f.length : Int)), (14, .p (.int .i64) (i.1 : Int))], [(5, .box 25 true [.sr 44 T59 0 i.1]), (4, .box 25 true [.raw (.slice none 0 0)]), (2, .box 25 true [.p T23 f]), (44, .arr 59 T59 (partL (accT first d) f i.1)), (1, .box 50 false [.p T50 first]), (3, .box 3 false [.p T3 d])]⟩) (fun i => f.length - i.1) ⟨0, by omega⟩ (ent_match [(5, .nm 5), (4, .nm 4), (2, .nm 2), (44, .nil), (1, .nm 1), (3, .nm 3)] rfl rfl ?_ ?_) (fun i => ?_)
  · simp only [go_sem, Nat.reduceEqDiff, reduceCtorEq, Nat.reduceAdd, Nat.reduceSub, Nat.reduceMul, Nat.reduceLeDiff, Nat.reduceLT, Int.reduceLE, Int.reduceToNat, Int.reduceNeg, ↓reduceIte]
    rfl
  · simp only [go_sem, Nat.reduceEqDiff, reduceCtorEq, Nat.reduceAdd, Nat.reduceSub, Nat.reduceMul, Nat.reduceLeDiff, Nat.reduceLT, Int.reduceLE, Int.reduceToNat, Int.reduceNeg, ↓reduceIte]
  · obtain ⟨i, hi⟩ := i
    repeat' (first | exact trivial | refine ev_seq ?_ | refine ev_skip ?_ | refine ev_ret ?_ | refine ev_exit ?_ | refine ev_block ?_ | refine ev_out_seq ?_ | refine ev_exit_seq ?_ | refine ev_ret_seq ?_ | refine ev_out_blk ?_ | refine ev_ret_blk ?_ | refine ev_exit_eq ?_ | refine ev_exit_ne (by decide) ?_ | refine ev_exit_inv ?_ | refine ev_ret_inv ?_ | refine ev_out_inv ?_ | refine rP [0, 1, 2, 4, 5, 6, 7, 8, 10, 12, 13, 14, 15, 23, 24, 25, 26, 32] hc ?_ ?_ | refine rA [0, 1, 2, 4, 5, 6, 7, 8, 10, 12, 13, 14, 15, 23, 24, 25, 26, 32] hc ?_ ?_ | refine rD [0, 1, 2, 4, 5, 6, 7, 8, 10, 12, 13, 14, 15, 23, 24, 25, 26, 32] hc ?_ ?_ | refine rT [0, 1, 2, 4, 5, 6, 7, 8, 10, 12, 13, 14, 15, 23, 24, 25, 26, 32] 1 hc ?_ ?_ | refine rT [0, 1, 2, 4, 5, 6, 7, 8, 10, 12, 13, 14, 15, 23, 24, 25, 26, 32] 2 hc ?_ ?_ | refine rT [0, 1, 2, 4, 5, 6, 7, 8, 10, 12, 13, 14, 15, 23, 24, 25, 26, 32] 3 hc ?_ ?_ | (refine rC (fun hcond => ?_) (fun hcond => ?_) <;> try (cases hcond; done)))
    · ((try dsimp only [Ty.den] at *) <;> (repeat' (first | apply And.intro | intro _)) <;> omega)
    · have hif : i < f.length := by ((try dsimp only [Ty.den] at *) <;> (repeat' (first | apply And.intro | intro _)) <;> omega)
      have hx : (f.getD i (0, [])).2.length ≤ 100000 := (hf.2 _ (mem_of_take_succ f (0, []) hif)).1
      have hpn : partN (accT first d) f i = ((f.getD i (0, [])).1, (f.getD i (0, [])).2.filter ((accT first d) (i : Int))) := rfl
      generalize hgx : f.getD i (0, []) = x at *
      obtain ⟨xt, L⟩ := x
      simp only at hx hpn
      refine ev_loop (ι := {k : Nat // k ≤ L.length}) (fun k => ⟨[(1, .clo 54 [1, 3]), (2, .bp 2 [] 0), (4, .bp 4 [] 0), (5, .bp 5 [] 0), (6, .p (.int .i64) (i : Int)), (8, .bp 8 [] 0), (12, .p T23 f), (13, .p (.int .i64) (f.length : Int)), (14, .p (.int .i64) (i : Int)), (23, .p T57 L), (24, .p (.int .i64) (L.length : Int)), (25, .p (.int .i64) (k.1 : Int))], [(8, .box 59 true [.p T3 xt, .sr 37 T61 0 ((L.take k.1).filter ((accT first d) (i : Int))).length]), (37, .arr 61 T61 ((L.take k.1).filter ((accT first d) (i : Int)))), (5, .box 25 true [.sr 44 T59 0 i]), (4, .box 25 true [.raw (.slice none 0 0)]), (2, .box 25 true [.p T23 f]), (44, .arr 59 T59 (partL (accT first d) f i)), (1, .box 50 false [.p T50 first]), (3, .box 3 false [.p T3 d])]⟩) (fun k => L.length - k.1) ⟨0, by omega⟩ (ent_match [(8, .nm 8), (37, .nil), (5, .nm 5), (4, .nm 4), (2, .nm 2), (44, .nm 44), (1, .nm 1), (3, .nm 3)] rfl rfl ?_ ?_) (fun k => ?_)
      · simp only [go_sem, Nat.reduceEqDiff, reduceCtorEq, Nat.reduceAdd, Nat.reduceSub, Nat.reduceMul, Nat.reduceLeDiff, Nat.reduceLT, Int.reduceLE, Int.reduceToNat, Int.reduceNeg, ↓reduceIte]
        exact ⟨rfl, rfl⟩
      · simp only [go_sem, Nat.reduceEqDiff, reduceCtorEq, Nat.reduceAdd, Nat.reduceSub, Nat.reduceMul, Nat.reduceLeDiff, Nat.reduceLT, Int.reduceLE, Int.reduceToNat, Int.reduceNeg, ↓reduceIte]
      · obtain ⟨k, hk⟩ := k
        repeat' (first | exact trivial | refine ev_seq ?_ | refine ev_skip ?_ | refine ev_ret ?_ | refine ev_exit ?_ | refine ev_block ?_ | refine ev_out_seq ?_ | refine ev_exit_seq ?_ | refine ev_ret_seq ?_ | refine ev_out_blk ?_ | refine ev_ret_blk ?_ | refine ev_exit_eq ?_ | refine ev_exit_ne (by decide) ?_ | refine ev_exit_inv ?_ | refine ev_ret_inv ?_ | refine ev_out_inv ?_ | refine rP [0, 1, 2, 4, 5, 6, 7, 8, 10, 12, 13, 14, 15, 23, 24, 25, 26, 32] hc ?_ ?_ | refine rA [0, 1, 2, 4, 5, 6, 7, 8, 10, 12, 13, 14, 15, 23, 24, 25, 26, 32] hc ?_ ?_ | refine rD [0, 1, 2, 4, 5, 6, 7, 8, 10, 12, 13, 14, 15, 23, 24, 25, 26, 32] hc ?_ ?_ | refine rT [0, 1, 2, 4, 5, 6, 7, 8, 10, 12, 13, 14, 15, 23, 24, 25, 26, 32] 1 hc ?_ ?_ | refine rT [0, 1, 2, 4, 5, 6, 7, 8, 10, 12, 13, 14, 15, 23, 24, 25, 26, 32] 2 hc ?_ ?_ | refine rT [0, 1, 2, 4, 5, 6, 7, 8, 10, 12, 13, 14, 15, 23, 24, 25, 26, 32] 3 hc ?_ ?_ | (refine rC (fun hcond => ?_) (fun hcond => ?_) <;> try (cases hcond; done)))
        · ((try dsimp only [Ty.den] at *) <;> (repeat' (first | apply And.intro | intro _)) <;> omega)
        · have hkL : k < L.length := by ((try dsimp only [Ty.den] at *) <;> (repeat' (first | apply And.intro | intro _)) <;> omega)
          have hlf := List.length_filter_le ((accT first d) (i : Int)) (L.take k)
          have hlt := List.length_take_le k L
          have hsn := filter_snoc ((accT first d) (i : Int)) L hkL
          refine cP 3 hc ?_ ?_
          · trivial
          · refine rM hc (depthC_ok first d (i : Int) (L.getD k (0, 0)) ⟨by omega, by omega⟩) [(1, .nm 1), (3, .nm 3)] [] ?_ ?_ ?_
            · simp only [go_sem, Nat.reduceEqDiff, reduceCtorEq, Nat.reduceAdd, Nat.reduceSub, Nat.reduceMul, Nat.reduceLeDiff, Nat.reduceLT, Int.reduceLE, Int.reduceToNat, Int.reduceNeg, ↓reduceIte]
            · simp only [go_sem, Nat.reduceEqDiff, reduceCtorEq, Nat.reduceAdd, Nat.reduceSub, Nat.reduceMul, Nat.reduceLeDiff, Nat.reduceLT, Int.reduceLE, Int.reduceToNat, Int.reduceNeg, ↓reduceIte]
            · rintro _ _ ⟨rfl, rfl⟩
              refine ⟨[(1, .nm 1), (3, .nm 3)], .p .bool ((accT first d) (i : Int) (L.getD k (0, 0))), [(1, .box 50 false [.p T50 first]), (3, .box 3 false [.p T3 d])], rfl, rfl, ?_, ?_, rfl, rfl, evL_end ?_⟩
              · simp only [go_sem, Nat.reduceEqDiff, reduceCtorEq, Nat.reduceAdd, Nat.reduceSub, Nat.reduceMul, Nat.reduceLeDiff, Nat.reduceLT, Int.reduceLE, Int.reduceToNat, Int.reduceNeg, ↓reduceIte]
              · simp only [go_sem, Nat.reduceEqDiff, reduceCtorEq, Nat.reduceAdd, Nat.reduceSub, Nat.reduceMul, Nat.reduceLeDiff, Nat.reduceLT, Int.reduceLE, Int.reduceToNat, Int.reduceNeg, ↓reduceIte]
              · generalize hac : (accT first d) (i : Int) (L.getD k (0, 0)) = ac at *
                repeat' (first | exact trivial | refine ev_seq ?_ | refine ev_skip ?_ | refine ev_ret ?_ | refine ev_exit ?_ | refine ev_block ?_ | refine ev_out_seq ?_ | refine ev_exit_seq ?_ | refine ev_ret_seq ?_ | refine ev_out_blk ?_ | refine ev_ret_blk ?_ | refine ev_exit_eq ?_ | refine ev_exit_ne (by decide) ?_ | refine ev_exit_inv ?_ | refine ev_ret_inv ?_ | refine ev_out_inv ?_ | refine rP [0, 1, 2, 4, 5, 6, 7, 8, 10, 12, 13, 14, 15, 23, 24, 25, 26, 32] hc ?_ ?_ | refine rA [0, 1, 2, 4, 5, 6, 7, 8, 10, 12, 13, 14, 15, 23, 24, 25, 26, 32] hc ?_ ?_ | refine rD [0, 1, 2, 4, 5, 6, 7, 8, 10, 12, 13, 14, 15, 23, 24, 25, 26, 32] hc ?_ ?_ | refine rT [0, 1, 2, 4, 5, 6, 7, 8, 10, 12, 13, 14, 15, 23, 24, 25, 26, 32] 1 hc ?_ ?_ | refine rT [0, 1, 2, 4, 5, 6, 7, 8, 10, 12, 13, 14, 15, 23, 24, 25, 26, 32] 2 hc ?_ ?_ | refine rT [0, 1, 2, 4, 5, 6, 7, 8, 10, 12, 13, 14, 15, 23, 24, 25, 26, 32] 3 hc ?_ ?_ | (refine rC (fun hcond => ?_) (fun hcond => ?_) <;> try (cases hcond; done)))
                · simp only [maxN]
                  omega
                · ((try dsimp only [Ty.den] at *) <;> (repeat' (first | apply And.intro | intro _)) <;> omega)
                · have hcond : ac = true := hcond
                  subst hcond
                  rw [if_pos rfl] at hsn
                  refine ⟨⟨k + 1, by omega⟩, by simp only; omega, ent_match [(8, .nm 8), (37, .nm 37), (5, .nm 5), (4, .nm 4), (2, .nm 2), (44, .nm 44), (1, .nm 1), (3, .nm 3)] rfl rfl ?_ ?_⟩
                  · simp only [hsn]
                    simp only [go_sem, Nat.reduceEqDiff, reduceCtorEq, Nat.reduceAdd, Nat.reduceSub, Nat.reduceMul, Nat.reduceLeDiff, Nat.reduceLT, Int.reduceLE, Int.reduceToNat, Int.reduceNeg, ↓reduceIte]
                  · simp only [go_sem, Nat.reduceEqDiff, reduceCtorEq, Nat.reduceAdd, Nat.reduceSub, Nat.reduceMul, Nat.reduceLeDiff, Nat.reduceLT, Int.reduceLE, Int.reduceToNat, Int.reduceNeg, ↓reduceIte]
                · ((try dsimp only [Ty.den] at *) <;> (repeat' (first | apply And.intro | intro _)) <;> omega)
                · have hcond : ac = false := hcond
                  subst hcond
                  rw [if_neg (by simp)] at hsn
                  rw [List.append_nil] at hsn
                  refine ⟨⟨k + 1, by omega⟩, by simp only; omega, ent_match [(8, .nm 8), (37, .nm 37), (5, .nm 5), (4, .nm 4), (2, .nm 2), (44, .nm 44), (1, .nm 1), (3, .nm 3)] rfl rfl ?_ ?_⟩
                  · simp only [hsn]
                    simp only [go_sem, Nat.reduceEqDiff, reduceCtorEq, Nat.reduceAdd, Nat.reduceSub, Nat.reduceMul, Nat.reduceLeDiff, Nat.reduceLT, Int.reduceLE, Int.reduceToNat, Int.reduceNeg, ↓reduceIte]
                  · simp only [go_sem, Nat.reduceEqDiff, reduceCtorEq, Nat.reduceAdd, Nat.reduceSub, Nat.reduceMul, Nat.reduceLeDiff, Nat.reduceLT, Int.reduceLE, Int.reduceToNat, Int.reduceNeg, ↓reduceIte]
        · simp only [maxN]; omega
        · ((try dsimp only [Ty.den] at *) <;> (repeat' (first | apply And.intro | intro _)) <;> omega)
        · have hkL : L.take k = L := List.take_of_length_le (by ((try dsimp only [Ty.den] at *) <;> (repeat' (first | apply And.intro | intro _)) <;> omega))
          rw [hkL]
          refine ⟨⟨i + 1, by omega⟩, by simp only; omega, ent_match [(5, .nm 5), (4, .nm 4), (2, .nm 2), (44, .nm 44), (1, .nm 1), (3, .nm 3)] rfl rfl ?_ ?_⟩
          · simp only [partL_succ, hpn]
            simp only [go_sem, Nat.reduceEqDiff, reduceCtorEq, Nat.reduceAdd, Nat.reduceSub, Nat.reduceMul, Nat.reduceLeDiff, Nat.reduceLT, Int.reduceLE, Int.reduceToNat, Int.reduceNeg, ↓reduceIte]
            rw [List.take_of_length_le (Nat.le_of_eq (partL_len _ f i))]
          · simp only [go_sem, Nat.reduceEqDiff, reduceCtorEq, Nat.reduceAdd, Nat.reduceSub, Nat.reduceMul, Nat.reduceLeDiff, Nat.reduceLT, Int.reduceLE, Int.reduceToNat, Int.reduceNeg, ↓reduceIte]
    · have hif : i = f.length := by ((try dsimp only [Ty.den] at *) <;> (repeat' (first | apply And.intro | intro _)) <;> omega)
      subst hif
      obtain ⟨hg1, hg2⟩ := part_good hf hs (accT first d)
      have hpl := partL_len (accT first d) f f.length
      have hpf : partF (accT first d) f = canonicalF (partL (accT first d) f f.length) 0 := rfl
      refine Ev.ent ?_ (ent_frz [44] (by simp only [go_sem, Nat.reduceEqDiff, reduceCtorEq, Nat.reduceAdd, Nat.reduceSub, Nat.reduceMul, Nat.reduceLeDiff, Nat.reduceLT, Int.reduceLE, Int.reduceToNat, Int.reduceNeg, ↓reduceIte]; rfl) (fun _ _ h => h))
      have htl : (partL (accT first d) f f.length).take f.length = partL (accT first d) f f.length := List.take_of_length_le (Nat.le_of_eq hpl)
      rw [hpf]
      rw [htl]
      generalize partL (accT first d) f f.length = g at *
      repeat' (first | exact trivial | refine ev_seq ?_ | refine ev_skip ?_ | refine ev_ret ?_ | refine ev_exit ?_ | refine ev_block ?_ | refine ev_out_seq ?_ | refine ev_exit_seq ?_ | refine ev_ret_seq ?_ | refine ev_out_blk ?_ | refine ev_ret_blk ?_ | refine ev_exit_eq ?_ | refine ev_exit_ne (by decide) ?_ | refine ev_exit_inv ?_ | refine ev_ret_inv ?_ | refine ev_out_inv ?_ | refine rP [0, 1, 2, 4, 5, 6, 7, 8, 10, 12, 13, 14, 15, 23, 24, 25, 26, 32] hc ?_ ?_ | refine rA [0, 1, 2, 4, 5, 6, 7, 8, 10, 12, 13, 14, 15, 23, 24, 25, 26, 32] hc ?_ ?_ | refine rD [0, 1, 2, 4, 5, 6, 7, 8, 10, 12, 13, 14, 15, 23, 24, 25, 26, 32] hc ?_ ?_ | refine rT [0, 1, 2, 4, 5, 6, 7, 8, 10, 12, 13, 14, 15, 23, 24, 25, 26, 32] 1 hc ?_ ?_ | refine rT [0, 1, 2, 4, 5, 6, 7, 8, 10, 12, 13, 14, 15, 23, 24, 25, 26, 32] 2 hc ?_ ?_ | refine rT [0, 1, 2, 4, 5, 6, 7, 8, 10, 12, 13, 14, 15, 23, 24, 25, 26, 32] 3 hc ?_ ?_ | (refine rC (fun hcond => ?_) (fun hcond => ?_) <;> try (cases hcond; done)))
      · exact ⟨hg1, hg2, by ((try dsimp only [Ty.den] at *) <;> (repeat' (first | apply And.intro | intro _)) <;> omega)⟩
      · exact ev_finM hc [.cell 4 25] rfl (.inl rfl) (.p T25 (canonicalF g 0)) (by simp only [retAV, ret1, retAVs, notAT, resV, resLoad, pureOf, go_sem, Nat.reduceEqDiff, reduceCtorEq, Nat.reduceAdd, Nat.reduceSub, Nat.reduceMul, Nat.reduceLeDiff, Nat.reduceLT, Int.reduceLE, Int.reduceToNat, Int.reduceNeg, ↓reduceIte]) rfl
def pdepthF (f : List GNode) (d : Int) : List GNode := partF (accT (firstF f) d) f
def pdepthS : Spec := { ins := [T25, T3], pre := fun (f, _, _) => GoodF f ∧ SrtF f ∧ 0 < List.length f, out := fun (f, d, _) => [.p T25 (pdepthF f d)] }
theorem firstF_len {f : List GNode} (hf : GoodF f) (h0 : 0 < f.length) : (firstF f).length = f.length := by
  obtain ⟨n, hj, hn⟩ : ∃ n, (∀ j, j < n → j < (bst f j).2.2.length) ∧ (bst f n).2.2.length ≤ n := by
    have key : ∀ m n, m + n = f.length + 1 → (∀ j, j < n → j < (bst f j).2.2.length) → ∃ n, (∀ j, j < n → j < (bst f j).2.2.length) ∧ (bst f n).2.2.length ≤ n := by
      intro m
      induction m with
      | zero =>
        intro n hn hj
        have h1 := hj f.length (by omega)
        have h2 := (bst_BI hf h0 f.length).ok.cnt
        omega
      | succ m ih =>
        intro n hn hj
        by_cases h : (bst f n).2.2.length ≤ n
        · exact ⟨n, hj, h⟩
        · exact ih (n + 1) (by omega) fun j hj' => (Nat.lt_succ_iff_lt_or_eq.1 hj').elim (hj j) (fun e => by rw [e]; omega)
    exact key (f.length + 1) 0 (by omega) (fun j hj => by omega)
  rw [← coll_first hf h0 hj hn, coll_len]
theorem pdepth_ok : FnOk Try.prog 27 pdepthS := by
  refine fn_ok Try.func27 (by kernel_rfl) rfl Try.ntmps27 (by decide) (by kernel_rfl) (tyTab_ok []) fns_nil ?_
  rintro w0 O0 ⟨f, d, u⟩ hc - ⟨hf, hs, h0⟩
  simp only [pdepthS, entEnv]
  have hfl := firstF_len hf h0
  repeat' (first | exact trivial | refine ev_seq ?_ | refine ev_skip ?_ | refine ev_ret ?_ | refine ev_exit ?_ | refine ev_block ?_ | refine ev_out_seq ?_ | refine ev_exit_seq ?_ | refine ev_ret_seq ?_ | refine ev_out_blk ?_ | refine ev_ret_blk ?_ | refine ev_exit_eq ?_ | refine ev_exit_ne (by decide) ?_ | refine ev_exit_inv ?_ | refine ev_ret_inv ?_ | refine ev_out_inv ?_ | refine rP [0, 1, 2, 3, 4, 5] hc ?_ ?_ | refine rA [0, 1, 2, 3, 4, 5] hc ?_ ?_ | refine rD [0, 1, 2, 3, 4, 5] hc ?_ ?_ | refine rT [0, 1, 2, 3, 4, 5] 1 hc ?_ ?_ | refine rT [0, 1, 2, 3, 4, 5] 2 hc ?_ ?_ | refine rT [0, 1, 2, 3, 4, 5] 3 hc ?_ ?_ | (refine rC (fun hcond => ?_) (fun hcond => ?_) <;> try (cases hcond; done)))
  refine cP 1 hc ?_ ?_
  · trivial
  · refine rM hc (pfirst_ok f hf h0) [] [] ?_ ?_ ?_
    · simp only [go_sem, Nat.reduceEqDiff, reduceCtorEq, Nat.reduceAdd, Nat.reduceSub, Nat.reduceMul, Nat.reduceLeDiff, Nat.reduceLT, Int.reduceLE, Int.reduceToNat, Int.reduceNeg, ↓reduceIte]
    · simp only [go_sem, Nat.reduceEqDiff, reduceCtorEq, Nat.reduceAdd, Nat.reduceSub, Nat.reduceMul, Nat.reduceLeDiff, Nat.reduceLT, Int.reduceLE, Int.reduceToNat, Int.reduceNeg, ↓reduceIte]
    · rintro _ _ ⟨rfl, rfl⟩
      refine ⟨[(9, .nm 9)], .sr 9 T41 0 (List.length f), [(9, .arr 41 T41 (firstF f))], rfl, rfl, ?_, ?_, rfl, rfl, ?_⟩
      · simp only [go_sem, Nat.reduceEqDiff, reduceCtorEq, Nat.reduceAdd, Nat.reduceSub, Nat.reduceMul, Nat.reduceLeDiff, Nat.reduceLT, Int.reduceLE, Int.reduceToNat, Int.reduceNeg, ↓reduceIte]
      · simp only [go_sem, Nat.reduceEqDiff, reduceCtorEq, Nat.reduceAdd, Nat.reduceSub, Nat.reduceMul, Nat.reduceLeDiff, Nat.reduceLT, Int.reduceLE, Int.reduceToNat, Int.reduceNeg, ↓reduceIte]
      · refine rL [2, 3, 4, 5] hc ?_ ?_
        · trivial
        · refine Ev.ent ?_ (ent_frz [9] (by simp only [go_sem, Nat.reduceEqDiff, reduceCtorEq, Nat.reduceAdd, Nat.reduceSub, Nat.reduceMul, Nat.reduceLeDiff, Nat.reduceLT, Int.reduceLE, Int.reduceToNat, Int.reduceNeg, ↓reduceIte]; rfl) (fun _ _ h => h))
          have htk : (firstF f).take (List.length f) = firstF f := List.take_of_length_le (by ((try dsimp only [Ty.den] at *) <;> (repeat' (first | apply And.intro | intro _)) <;> omega))
          rw [htk]
          repeat' (first | exact trivial | refine ev_seq ?_ | refine ev_skip ?_ | refine ev_ret ?_ | refine ev_exit ?_ | refine ev_block ?_ | refine ev_out_seq ?_ | refine ev_exit_seq ?_ | refine ev_ret_seq ?_ | refine ev_out_blk ?_ | refine ev_ret_blk ?_ | refine ev_exit_eq ?_ | refine ev_exit_ne (by decide) ?_ | refine ev_exit_inv ?_ | refine ev_ret_inv ?_ | refine ev_out_inv ?_ | refine rP [0, 1, 2, 3, 4, 5] hc ?_ ?_ | refine rA [0, 1, 2, 3, 4, 5] hc ?_ ?_ | refine rD [0, 1, 2, 3, 4, 5] hc ?_ ?_ | refine rT [0, 1, 2, 3, 4, 5] 1 hc ?_ ?_ | refine rT [0, 1, 2, 3, 4, 5] 2 hc ?_ ?_ | refine rT [0, 1, 2, 3, 4, 5] 3 hc ?_ ?_ | (refine rC (fun hcond => ?_) (fun hcond => ?_) <;> try (cases hcond; done)))
          refine cP 2 hc ?_ ?_
          · trivial
          · refine rM hc (partT_ok f hf hs h0 (firstF f) d hfl) [(1, .nm 5), (3, .nm 3)] [5, 3] ?_ ?_ ?_
            · simp only [go_sem, Nat.reduceEqDiff, reduceCtorEq, Nat.reduceAdd, Nat.reduceSub, Nat.reduceMul, Nat.reduceLeDiff, Nat.reduceLT, Int.reduceLE, Int.reduceToNat, Int.reduceNeg, ↓reduceIte]
            · simp only [go_sem, Nat.reduceEqDiff, reduceCtorEq, Nat.reduceAdd, Nat.reduceSub, Nat.reduceMul, Nat.reduceLeDiff, Nat.reduceLT, Int.reduceLE, Int.reduceToNat, Int.reduceNeg, ↓reduceIte]
            · rintro _ _ rfl
              refine ⟨[], .p T25 (pdepthF f d), [], rfl, rfl, trivial, ?_, rfl, rfl, ?_⟩
              · unfold pdepthF
                simp only [go_sem, Nat.reduceEqDiff, reduceCtorEq, Nat.reduceAdd, Nat.reduceSub, Nat.reduceMul, Nat.reduceLeDiff, Nat.reduceLT, Int.reduceLE, Int.reduceToNat, Int.reduceNeg, ↓reduceIte]
              · refine rL [4] hc ?_ ?_
                · trivial
                · repeat' (first | exact trivial | refine ev_seq ?_ | refine ev_skip ?_ | refine ev_ret ?_ | refine ev_exit ?_ | refine ev_block ?_ | refine ev_out_seq ?_ | refine ev_exit_seq ?_ | refine ev_ret_seq ?_ | refine ev_out_blk ?_ | refine ev_ret_blk ?_ | refine ev_exit_eq ?_ | refine ev_exit_ne (by decide) ?_ | refine ev_exit_inv ?_ | refine ev_ret_inv ?_ | refine ev_out_inv ?_ | refine rP [0, 1, 2, 3, 4, 5] hc ?_ ?_ | refine rA [0, 1, 2, 3, 4, 5] hc ?_ ?_ | refine rD [0, 1, 2, 3, 4, 5] hc ?_ ?_ | refine rT [0, 1, 2, 3, 4, 5] 1 hc ?_ ?_ | refine rT [0, 1, 2, 3, 4, 5] 2 hc ?_ ?_ | refine rT [0, 1, 2, 3, 4, 5] 3 hc ?_ ?_ | (refine rC (fun hcond => ?_) (fun hcond => ?_) <;> try (cases hcond; done)))
                  exact ev_fin hc [.cell 4 25] rfl (.inl rfl) (by simp) (by simp only [retIs, resIs, resV, resLoad, avNames, pureOf, ownOf, go_sem, Nat.reduceEqDiff, reduceCtorEq, Nat.reduceAdd, Nat.reduceSub, Nat.reduceMul, Nat.reduceLeDiff, Nat.reduceLT, Int.reduceLE, Int.reduceToNat, Int.reduceNeg, ↓reduceIte])
end Go.Proofs.Ytfdkpbmofgkaoaa.Fw
