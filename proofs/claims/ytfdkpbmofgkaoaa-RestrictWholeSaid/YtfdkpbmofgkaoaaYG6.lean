/- Functions of graph: canonical, Sub. -/
import Derived.Test.YtfdkpbmofgkaoaaYG5
set_option linter.unusedVariables false
set_option linter.unusedSimpArgs false
namespace Go.Proofs.Ytfdkpbmofgkaoaa.Fw
open Go
attribute [local irreducible] Ev
attribute [local go_sem] cx_tb entEnv List.toList_toArray evSeq evG evK vcK guardOf guardT guardB_true guardB_false step1 step0 stepQ takesIn namesParts namesOf namesStore frzAll frz frz1 fixN frzEnv frzObjs drpEnv drpObjs AV.frz AV.frzs AV.drp AV.drps AV.names AV.namess aq qmap qPick qAlloc qBox qBuild qBuildSlice qBuildSlice2 qLoad qLoadB qLoadB2 qLoadE qLoadE2 qLoadE3 qFieldI qOff qPart qField qIndexA qIndex qIndexS qNil qBin qUn qConv qMake qMake2 qSlice qExtract qLen qAppend qAppend2 qAppend3 qMin qMax qCall qCall2 qCall3 qBuiltin qCallee aloud lStoreD lStore lStoreB lStoreB2 lStoreE lStoreE3 lStoreE4 lCallee lBuiltin lAppend lAppend2 lAppend3 lAppend4 opv lk constAV optAV sliceQ bin binI binS zf1 zfs pfs AV.cells nthOff loadB offB storeB notAg fitsT fitsO Ty.cell1 fieldOk partsT partsAg argsT asT asT1 asTs pairO srT castTo_self getF setF getP setP offP offF fldT rvAV rvObj rvAVs rvObjs resAV RV.flat Ty.flat Ty.size St.add upd del fresh Value.oneCell' refZ Ty.dflt sub_all sub_one sub_take sub_end List.take_succ_cons List.take_zero List.length_cons cast0 castS sub_app take_app sub_app1 take_app1 take_one1 natC zero_le_natC i64_min i64_max u64_min u64_max u8_min u8_max inK_i64 inK_u64 inK_u8 Option.map_some Option.map_none Option.bind_some Option.getD_some Option.getD_none Option.isNone_none Option.isNone_some Bool.and_true Bool.true_and Bool.and_false Bool.false_and Bool.not_true Bool.not_false if_true if_false List.length_cons List.length_nil and_true true_and and_self List.all_cons List.all_nil List.append_nil List.nil_append List.cons_append List.getElem?_cons_zero List.getElem?_cons_succ List.getElem?_nil List.map_cons List.map_nil List.set_cons_zero List.set_cons_succ List.isEmpty_nil List.isEmpty_cons decide_true decide_false beq_self_eq_true bne_self_eq_false Nat.zero_add Nat.add_zero Nat.sub_zero Int.toNat_natCast Int.toNat_zero Int.toNat_one List.take_length List.length_append List.length_singleton true_or or_true or_self false_or or_false Ty.agg.injEq Ty.slice.injEq Ty.prod.injEq Ty.int.injEq Option.some.injEq beq_iff_eq evM evMG evMQ opM isPick viewE viewS viewG opTs opTmp consE guardM guardM1 guardM2 sideM sideM2 pickM pickM2 sufB chEq memB dstOf Op.operands Call.operands List.filterMap_cons List.filterMap_nil List.append_eq Bool.cond_false_right Bool.cond_true_left cond_true cond_false implies_true decide_eq_true_eq beq_true beq_false Bool.or_true Bool.or_false Bool.true_or Bool.false_or Option.isSome_some fieldV namesAg namesAgs capNs qClo qClo2 qMakeMap qMakeMap2 qMakeMap3 qLook qLook2 qLook3 qLook4 keyT keyP eqT inB lMapUp lMapUp2 lMapUp3 namesMap argEnv cm_tb List.drop_zero pruneR prune rem1 afterM addDst fgtEnv AV.fgt AV.fgts Obj.fgt restObjs handed memB calleeOf opvs matchArgs matchArg List.any_cons List.any_nil evF evFO evFQ evFK addQ frOk qs List.flatMap_cons List.flatMap_nil List.cons_append tn appN fgtEN List.take_succ_cons List.drop_succ_cons isYl parEnv rangeSt cY_tb marked_tb renOk renIn matchObjs matchEnv matchE matchAV matchAVs matchF matchO
attribute [local go_sem] ty1 ty2 ty3 ty4 ty5 ty9 ty12 ty21 ty22 ty23 ty24 ty25 ty27 ty28 ty29 ty30 ty31 ty32 ty33 ty35 ty36 ty37 ty38 ty39 ty41 ty43 ty44 ty45 ty46 ty47 ty48 ty49 ty50 ty51 ty52 ty53 ty54 ty55 ty56 ty57 ty58 ty59 ty60 ty61 ty62 ty64 ty65 ty66 ty67 ty68 ty69 ty70 ty71 ty72 ty73 ty74 ty75 ty76 ty77 ty79 ty80 ty81 ty83 ty85 ty86 ty87 ty88 ty89 ty90 ty91 ty92 ty93 ty94 ty95 ty96 ty98 ty99 ty101 ty102 ty103 ty104 ty105 ty106 ty107 ty108 ty109 ty111 ty112 ty113 ty114 ty115 ty116 ty117 ty118 ty121 ty122 ty123 ty124 ty125 ty126 ty127 ty128 ty129 ty130 ty131 ty132 ty134 ty135 ty136 ty137 ty138 ty139 ty140 ty141 ty142 ty143 ty145 ty146 ty147 ty148 ty149 ty150 ty151 ty152 ty153 ty154 ty155 ty156 ty157 ty158 ty159 ty160 ty161 ty162 ty163 ty164 ty165 ty167 ty168 ty169 ty170 ty171 ty172 ty173 ty174 ty175 ty176 ty177 ty178 ty179 ty180 ty181 ty182 ty183 ty184 ty185 ty186 ty187 ty188 ty189 ty190 ty191 ty192 ty193 ty194 ty195 ty196 ty197 ty199 ty200 ty201 ty202 ty203 ty204 ty205 ty206 ty207 ty208 ty209 ty210 ty211 ty212 ty214 ty215 ty221 ty224 ty225
set_option maxRecDepth 100000
set_option maxHeartbeats 4000000
def canonicalS : Spec := { ins := [T25, T3], pre := fun (f, n, _) => GoodF f ∧ SrtF f ∧ 0 ≤ n ∧ n < (List.length f : Int), out := fun (f, n, _) => [.p T25 (canonicalF f n)] }
attribute [local go_sem] canonicalS
theorem fill_step {α β : Type} (g : α → β) (o : List α) (d : α) (z : β) {i : Nat} (h : i < o.length) : ((o.take i).map g ++ List.replicate (o.length - i) z).set i (g (o.getD i d)) = (o.take (i + 1)).map g ++ List.replicate (o.length - (i + 1)) z := by
  obtain ⟨m, hm⟩ : ∃ m, o.length - i = m + 1 := ⟨o.length - i - 1, by omega⟩
  have hm2 : o.length - (i + 1) = m := by omega
  have hl : ((o.take i).map g).length = i := by rw [List.length_map, List.length_take]; omega
  rw [hm, hm2, List.set_append_right _ _ (by omega), hl, Nat.sub_self, List.replicate_succ, List.set_cons_zero, take_snoc o d h, List.map_append]
  simp
theorem canonical_ok : FnOk Try.prog 93 canonicalS := by
  refine fn_ok Try.func93 (by kernel_rfl) rfl Try.ntmps93 (by decide) (by kernel_rfl) (tyTab_ok []) fns_nil ?_
  rintro w0 O0 ⟨f, root, u⟩ hc - ⟨hf, hs, hr0, hr1⟩
  simp only [canonicalS, entEnv]
  have hfl := hf.1
  have hd0 : DOk f [] := ⟨by simp, fun x hx => by cases hx⟩
  obtain ⟨hdo, hpo⟩ := dfs_ok hf f.length [] root hd0 hr0 hr1 (by simp)
  have hcan : canonicalF f root = (dfs f f.length [] root).map (nodeD f (dfs f f.length [] root)) := rfl
  rw [hcan]
  repeat' (first | exact trivial | refine ev_seq ?_ | refine ev_skip ?_ | refine ev_ret ?_ | refine ev_exit ?_ | refine ev_block ?_ | refine ev_out_seq ?_ | refine ev_exit_seq ?_ | refine ev_ret_seq ?_ | refine ev_out_blk ?_ | refine ev_ret_blk ?_ | refine ev_exit_eq ?_ | refine ev_exit_ne (by decide) ?_ | refine ev_exit_inv ?_ | refine ev_ret_inv ?_ | refine ev_out_inv ?_ | refine rP [0, 1, 2, 4, 5, 6, 7, 8, 9, 10, 11, 12, 22, 23, 24, 25, 38, 39, 40] hc ?_ ?_ | refine rA [0, 1, 2, 4, 5, 6, 7, 8, 9, 10, 11, 12, 22, 23, 24, 25, 38, 39, 40] hc ?_ ?_ | refine rD [0, 1, 2, 4, 5, 6, 7, 8, 9, 10, 11, 12, 22, 23, 24, 25, 38, 39, 40] hc ?_ ?_ | refine rT [0, 1, 2, 4, 5, 6, 7, 8, 9, 10, 11, 12, 22, 23, 24, 25, 38, 39, 40] 1 hc ?_ ?_ | refine rT [0, 1, 2, 4, 5, 6, 7, 8, 9, 10, 11, 12, 22, 23, 24, 25, 38, 39, 40] 2 hc ?_ ?_ | refine rT [0, 1, 2, 4, 5, 6, 7, 8, 9, 10, 11, 12, 22, 23, 24, 25, 38, 39, 40] 3 hc ?_ ?_ | (refine rC (fun hcond => ?_) (fun hcond => ?_) <;> try (cases hcond; done)))
  refine cP 2 hc ?_ ?_
  · trivial
  · refine rM hc (visitM_ok f hf hs (List.length f) [] root hd0 hr0 hr1 (by simp) (by simp)) [(1, .nm 6), (2, .nm 5), (3, .nm 2), (4, .nm 7), (5, .nil), (6, .nm 13)] [] ?_ ?_ ?_
    · simp only [go_sem, Nat.reduceEqDiff, reduceCtorEq, Nat.reduceAdd, Nat.reduceSub, Nat.reduceMul, Nat.reduceLeDiff, Nat.reduceLT, Int.reduceLE, Int.reduceToNat, Int.reduceNeg, ↓reduceIte]
    · simp only [vObjs]
      simp only [go_sem, Nat.reduceEqDiff, reduceCtorEq, Nat.reduceAdd, Nat.reduceSub, Nat.reduceMul, Nat.reduceLeDiff, Nat.reduceLT, Int.reduceLE, Int.reduceToNat, Int.reduceNeg, ↓reduceIte]
      rfl
    · rintro _ _ ⟨rfl, rfl⟩
      refine ⟨[(6, .nm 1), (5, .nm 2), (2, .nm 3), (7, .nm 4), (101, .nm 5), (13, .nm 6)], .raw (.tuple #[]), [(6, .box 41 false [.sr 101 T3 0 (dfs f (List.length f) [] root).length]), (5, .box 174 false [.mp 13]), (2, .box 25 true [.p T23 f]), (7, .box 157 false [.clo 117 [6, 5, 2, 7]]), (101, .arr 3 T3 (dfs f (List.length f) [] root)), (13, .mapo T3 T3 (mOf (dfs f (List.length f) [] root)))], rfl, rfl, ?_, ?_, rfl, rfl, evL_end ?_⟩
      · simp only [vObjs]
        simp only [go_sem, Nat.reduceEqDiff, reduceCtorEq, Nat.reduceAdd, Nat.reduceSub, Nat.reduceMul, Nat.reduceLeDiff, Nat.reduceLT, Int.reduceLE, Int.reduceToNat, Int.reduceNeg, ↓reduceIte]
      · simp only [go_sem, Nat.reduceEqDiff, reduceCtorEq, Nat.reduceAdd, Nat.reduceSub, Nat.reduceMul, Nat.reduceLeDiff, Nat.reduceLT, Int.reduceLE, Int.reduceToNat, Int.reduceNeg, ↓reduceIte]
      · generalize dfs f (List.length f) [] root = o at *
        have hol := hdo.len
        repeat' (first | exact trivial | refine ev_seq ?_ | refine ev_skip ?_ | refine ev_ret ?_ | refine ev_exit ?_ | refine ev_block ?_ | refine ev_out_seq ?_ | refine ev_exit_seq ?_ | refine ev_ret_seq ?_ | refine ev_out_blk ?_ | refine ev_ret_blk ?_ | refine ev_exit_eq ?_ | refine ev_exit_ne (by decide) ?_ | refine ev_exit_inv ?_ | refine ev_ret_inv ?_ | refine ev_out_inv ?_ | refine rP [0, 1, 2, 4, 5, 6, 7, 8, 9, 10, 11, 12, 22, 23, 24, 25, 38, 39, 40] hc ?_ ?_ | refine rA [0, 1, 2, 4, 5, 6, 7, 8, 9, 10, 11, 12, 22, 23, 24, 25, 38, 39, 40] hc ?_ ?_ | refine rD [0, 1, 2, 4, 5, 6, 7, 8, 9, 10, 11, 12, 22, 23, 24, 25, 38, 39, 40] hc ?_ ?_ | refine rT [0, 1, 2, 4, 5, 6, 7, 8, 9, 10, 11, 12, 22, 23, 24, 25, 38, 39, 40] 1 hc ?_ ?_ | refine rT [0, 1, 2, 4, 5, 6, 7, 8, 9, 10, 11, 12, 22, 23, 24, 25, 38, 39, 40] 2 hc ?_ ?_ | refine rT [0, 1, 2, 4, 5, 6, 7, 8, 9, 10, 11, 12, 22, 23, 24, 25, 38, 39, 40] 3 hc ?_ ?_ | (refine rC (fun hcond => ?_) (fun hcond => ?_) <;> try (cases hcond; done)))
        · simp only [maxN]; omega
        · refine ev_loop (ι := {i : Nat // i ≤ o.length}) (fun i => ⟨[(2, .bp 2 [] 0), (4, .bp 4 [] 0), (5, .bp 5 [] 0), (8, .bp 8 [] 0), (22, .sr 101 T3 0 o.length), (23, .p (.int .i64) (o.length : Int)), (24, .p (.int .i64) (i.1 : Int))], [(8, .box 25 true [.sr 20 T59 0 o.length]), (20, .arr 59 T59 ((o.take i.1).map (nodeD f o) ++ List.replicate (o.length - i.1) (0, []))), (5, .box 174 false [.mp 13]), (2, .box 25 true [.p T23 f]), (101, .arr 3 T3 o), (13, .mapo T3 T3 (mOf o)), (4, .box 25 true [.raw (.slice none 0 0)])]⟩) (fun i => o.length - i.1) ⟨0, by omega⟩ (ent_match [(8, .nm 8), (20, .nm 20), (5, .nm 5), (2, .nm 2), (101, .nm 101), (13, .nm 13), (4, .nm 4)] rfl rfl ?_ ?_) (fun i => ?_)
          · simp only [go_sem, Nat.reduceEqDiff, reduceCtorEq, Nat.reduceAdd, Nat.reduceSub, Nat.reduceMul, Nat.reduceLeDiff, Nat.reduceLT, Int.reduceLE, Int.reduceToNat, Int.reduceNeg, ↓reduceIte]
          · simp only [go_sem, Nat.reduceEqDiff, reduceCtorEq, Nat.reduceAdd, Nat.reduceSub, Nat.reduceMul, Nat.reduceLeDiff, Nat.reduceLT, Int.reduceLE, Int.reduceToNat, Int.reduceNeg, ↓reduceIte]
          · obtain ⟨i, hi⟩ := i
            repeat' (first | exact trivial | refine ev_seq ?_ | refine ev_skip ?_ | refine ev_ret ?_ | refine ev_exit ?_ | refine ev_block ?_ | refine ev_out_seq ?_ | refine ev_exit_seq ?_ | refine ev_ret_seq ?_ | refine ev_out_blk ?_ | refine ev_ret_blk ?_ | refine ev_exit_eq ?_ | refine ev_exit_ne (by decide) ?_ | refine ev_exit_inv ?_ | refine ev_ret_inv ?_ | refine ev_out_inv ?_ | refine rP [0, 1, 2, 4, 5, 6, 7, 8, 9, 10, 11, 12, 22, 23, 24, 25, 38, 39, 40] hc ?_ ?_ | refine rA [0, 1, 2, 4, 5, 6, 7, 8, 9, 10, 11, 12, 22, 23, 24, 25, 38, 39, 40] hc ?_ ?_ | refine rD [0, 1, 2, 4, 5, 6, 7, 8, 9, 10, 11, 12, 22, 23, 24, 25, 38, 39, 40] hc ?_ ?_ | refine rT [0, 1, 2, 4, 5, 6, 7, 8, 9, 10, 11, 12, 22, 23, 24, 25, 38, 39, 40] 1 hc ?_ ?_ | refine rT [0, 1, 2, 4, 5, 6, 7, 8, 9, 10, 11, 12, 22, 23, 24, 25, 38, 39, 40] 2 hc ?_ ?_ | refine rT [0, 1, 2, 4, 5, 6, 7, 8, 9, 10, 11, 12, 22, 23, 24, 25, 38, 39, 40] 3 hc ?_ ?_ | (refine rC (fun hcond => ?_) (fun hcond => ?_) <;> try (cases hcond; done)))
            · ((try dsimp only [Ty.den] at *) <;> (repeat' (first | apply And.intro | intro _)) <;> omega)
            · have hio : i < o.length := by ((try dsimp only [Ty.den] at *) <;> (repeat' (first | apply And.intro | intro _)) <;> omega)
              have hn := hdo.rng _ (mem_of_take_succ o 0 hio)
              have hnode : nodeD f o (o.getD i 0) = ((f.getD (o.getD i 0).toNat (0, [])).1, (f.getD (o.getD i 0).toNat (0, [])).2.map (renD o)) := rfl
              obtain ⟨hsrt, hl12⟩ := srt_of hs (o.getD i 0)
              refine cP 6 hc ?_ ?_
              · exact hn
              · have hne : List.length f ≤ 100000 := hfl
                generalize hnn : o.getD i 0 = n at *
                generalize hfx : f.getD n.toNat (0, []) = x at *
                obtain ⟨xt, L⟩ := x
                simp only at hsrt hl12 hnode
                refine rM hc (values_ok L) [] [] ?_ ?_ ?_
                · simp only [go_sem, Nat.reduceEqDiff, reduceCtorEq, Nat.reduceAdd, Nat.reduceSub, Nat.reduceMul, Nat.reduceLeDiff, Nat.reduceLT, Int.reduceLE, Int.reduceToNat, Int.reduceNeg, ↓reduceIte]
                · simp only [go_sem, Nat.reduceEqDiff, reduceCtorEq, Nat.reduceAdd, Nat.reduceSub, Nat.reduceMul, Nat.reduceLeDiff, Nat.reduceLT, Int.reduceLE, Int.reduceToNat, Int.reduceNeg, ↓reduceIte]
                · rintro _ _ ⟨rfl, rfl⟩
                  refine ⟨[(50, .nm 1)], .clo 132 [50], [(50, .box 57 false [.p T57 L])], rfl, rfl, ?_, ?_, rfl, rfl, ?_⟩
                  · simp only [go_sem, Nat.reduceEqDiff, reduceCtorEq, Nat.reduceAdd, Nat.reduceSub, Nat.reduceMul, Nat.reduceLeDiff, Nat.reduceLT, Int.reduceLE, Int.reduceToNat, Int.reduceNeg, ↓reduceIte]
                  · simp only [go_sem, Nat.reduceEqDiff, reduceCtorEq, Nat.reduceAdd, Nat.reduceSub, Nat.reduceMul, Nat.reduceLeDiff, Nat.reduceLT, Int.reduceLE, Int.reduceToNat, Int.reduceNeg, ↓reduceIte]
                  · refine rM hc (sortedFunc_ok L hl12 hsrt) [(1, .nm 50)] [50] ?_ ?_ ?_
                    · simp only [go_sem, Nat.reduceEqDiff, reduceCtorEq, Nat.reduceAdd, Nat.reduceSub, Nat.reduceMul, Nat.reduceLeDiff, Nat.reduceLT, Int.reduceLE, Int.reduceToNat, Int.reduceNeg, ↓reduceIte]
                    · simp only [go_sem, Nat.reduceEqDiff, reduceCtorEq, Nat.reduceAdd, Nat.reduceSub, Nat.reduceMul, Nat.reduceLeDiff, Nat.reduceLT, Int.reduceLE, Int.reduceToNat, Int.reduceNeg, ↓reduceIte]
                    · rintro _ _ ⟨rfl, rfl⟩
                      refine ⟨[(51, .nm 7)], .sr 51 T61 0 L.length, [(51, .arr 61 T61 L)], rfl, rfl, ?_, ?_, rfl, rfl, ?_⟩
                      · simp only [go_sem, Nat.reduceEqDiff, reduceCtorEq, Nat.reduceAdd, Nat.reduceSub, Nat.reduceMul, Nat.reduceLeDiff, Nat.reduceLT, Int.reduceLE, Int.reduceToNat, Int.reduceNeg, ↓reduceIte]
                      · simp only [go_sem, Nat.reduceEqDiff, reduceCtorEq, Nat.reduceAdd, Nat.reduceSub, Nat.reduceMul, Nat.reduceLeDiff, Nat.reduceLT, Int.reduceLE, Int.reduceToNat, Int.reduceNeg, ↓reduceIte]
                      · refine evLp_all [2, 4, 5, 8, 9, 10, 11, 22, 23, 24] hc (by simp only [go_sem, Nat.reduceEqDiff, reduceCtorEq, Nat.reduceAdd, Nat.reduceSub, Nat.reduceMul, Nat.reduceLeDiff, Nat.reduceLT, Int.reduceLE, Int.reduceToNat, Int.reduceNeg, ↓reduceIte]; rfl) ?_ ?_
                        · trivial
                        · repeat' (first | exact trivial | refine ev_seq ?_ | refine ev_skip ?_ | refine ev_ret ?_ | refine ev_exit ?_ | refine ev_block ?_ | refine ev_out_seq ?_ | refine ev_exit_seq ?_ | refine ev_ret_seq ?_ | refine ev_out_blk ?_ | refine ev_ret_blk ?_ | refine ev_exit_eq ?_ | refine ev_exit_ne (by decide) ?_ | refine ev_exit_inv ?_ | refine ev_ret_inv ?_ | refine ev_out_inv ?_ | refine rP [0, 1, 2, 4, 5, 6, 7, 8, 9, 10, 11, 12, 22, 23, 24, 25, 38, 39, 40] hc ?_ ?_ | refine rA [0, 1, 2, 4, 5, 6, 7, 8, 9, 10, 11, 12, 22, 23, 24, 25, 38, 39, 40] hc ?_ ?_ | refine rD [0, 1, 2, 4, 5, 6, 7, 8, 9, 10, 11, 12, 22, 23, 24, 25, 38, 39, 40] hc ?_ ?_ | refine rT [0, 1, 2, 4, 5, 6, 7, 8, 9, 10, 11, 12, 22, 23, 24, 25, 38, 39, 40] 1 hc ?_ ?_ | refine rT [0, 1, 2, 4, 5, 6, 7, 8, 9, 10, 11, 12, 22, 23, 24, 25, 38, 39, 40] 2 hc ?_ ?_ | refine rT [0, 1, 2, 4, 5, 6, 7, 8, 9, 10, 11, 12, 22, 23, 24, 25, 38, 39, 40] 3 hc ?_ ?_ | (refine rC (fun hcond => ?_) (fun hcond => ?_) <;> try (cases hcond; done)))
                          refine ev_loop (ι := {k : Nat // k ≤ L.length}) (fun k => ⟨[(2, .bp 2 [] 0), (4, .bp 4 [] 0), (5, .bp 5 [] 0), (8, .bp 8 [] 0), (9, .p (.int .i64) (i : Int)), (10, .p T3 n), (11, .sr 51 T61 0 L.length), (22, .sr 101 T3 0 o.length), (23, .p (.int .i64) (o.length : Int)), (24, .p (.int .i64) (i : Int)), (38, .p (.int .i64) (L.length : Int)), (39, .p (.int .i64) (k.1 : Int))], [(51, .arr 61 T61 ((L.take k.1).map (renD o) ++ L.drop k.1)), (8, .box 25 true [.sr 20 T59 0 o.length]), (20, .arr 59 T59 ((o.take i).map (nodeD f o) ++ List.replicate (o.length - i) (0, []))), (5, .box 174 false [.mp 13]), (2, .box 25 true [.p T23 f]), (101, .arr 3 T3 o), (13, .mapo T3 T3 (mOf o)), (4, .box 25 true [.raw (.slice none 0 0)])]⟩) (fun k => L.length - k.1) ⟨0, by omega⟩ (ent_match [(51, .nm 51), (8, .nm 8), (20, .nm 20), (5, .nm 5), (2, .nm 2), (101, .nm 101), (13, .nm 13), (4, .nm 4)] rfl rfl ?_ ?_) (fun k => ?_)
                          · simp only [go_sem, Nat.reduceEqDiff, reduceCtorEq, Nat.reduceAdd, Nat.reduceSub, Nat.reduceMul, Nat.reduceLeDiff, Nat.reduceLT, Int.reduceLE, Int.reduceToNat, Int.reduceNeg, ↓reduceIte]
                          · simp only [go_sem, Nat.reduceEqDiff, reduceCtorEq, Nat.reduceAdd, Nat.reduceSub, Nat.reduceMul, Nat.reduceLeDiff, Nat.reduceLT, Int.reduceLE, Int.reduceToNat, Int.reduceNeg, ↓reduceIte]
                          · obtain ⟨k, hk⟩ := k
                            repeat' (first | exact trivial | refine ev_seq ?_ | refine ev_skip ?_ | refine ev_ret ?_ | refine ev_exit ?_ | refine ev_block ?_ | refine ev_out_seq ?_ | refine ev_exit_seq ?_ | refine ev_ret_seq ?_ | refine ev_out_blk ?_ | refine ev_ret_blk ?_ | refine ev_exit_eq ?_ | refine ev_exit_ne (by decide) ?_ | refine ev_exit_inv ?_ | refine ev_ret_inv ?_ | refine ev_out_inv ?_ | refine rP [0, 1, 2, 4, 5, 6, 7, 8, 9, 10, 11, 12, 22, 23, 24, 25, 38, 39, 40] hc ?_ ?_ | refine rA [0, 1, 2, 4, 5, 6, 7, 8, 9, 10, 11, 12, 22, 23, 24, 25, 38, 39, 40] hc ?_ ?_ | refine rD [0, 1, 2, 4, 5, 6, 7, 8, 9, 10, 11, 12, 22, 23, 24, 25, 38, 39, 40] hc ?_ ?_ | refine rT [0, 1, 2, 4, 5, 6, 7, 8, 9, 10, 11, 12, 22, 23, 24, 25, 38, 39, 40] 1 hc ?_ ?_ | refine rT [0, 1, 2, 4, 5, 6, 7, 8, 9, 10, 11, 12, 22, 23, 24, 25, 38, 39, 40] 2 hc ?_ ?_ | refine rT [0, 1, 2, 4, 5, 6, 7, 8, 9, 10, 11, 12, 22, 23, 24, 25, 38, 39, 40] 3 hc ?_ ?_ | (refine rC (fun hcond => ?_) (fun hcond => ?_) <;> try (cases hcond; done)))
                            · ((try dsimp only [Ty.den] at *) <;> (repeat' (first | apply And.intro | intro _)) <;> omega)
                            · ((try dsimp only [Ty.den] at *) <;> (repeat' (first | apply And.intro | intro _)) <;> omega)
                            · have hkL : k < L.length := by ((try dsimp only [Ty.den] at *) <;> (repeat' (first | apply And.intro | intro _)) <;> omega)
                              have e := map_part (renD o) (fun b => b) L (0, 0) hkL (renD o)
                              refine ⟨⟨k + 1, by omega⟩, by simp only; omega, ent_match [(51, .nm 51), (8, .nm 8), (20, .nm 20), (5, .nm 5), (2, .nm 2), (101, .nm 101), (13, .nm 13), (4, .nm 4)] rfl rfl ?_ ?_⟩
                              · simp only [go_sem, Nat.reduceEqDiff, reduceCtorEq, Nat.reduceAdd, Nat.reduceSub, Nat.reduceMul, Nat.reduceLeDiff, Nat.reduceLT, Int.reduceLE, Int.reduceToNat, Int.reduceNeg, ↓reduceIte]
                                rw [e.2]
                                rw [← e.1]
                                unfold renD
                                rw [← idxZ_eq]
                              · simp only [go_sem, Nat.reduceEqDiff, reduceCtorEq, Nat.reduceAdd, Nat.reduceSub, Nat.reduceMul, Nat.reduceLeDiff, Nat.reduceLT, Int.reduceLE, Int.reduceToNat, Int.reduceNeg, ↓reduceIte]
                            · exact ⟨hn, by ((try dsimp only [Ty.den] at *) <;> (repeat' (first | apply And.intro | intro _)) <;> omega)⟩
                            · ((try dsimp only [Ty.den] at *) <;> (repeat' (first | apply And.intro | intro _)) <;> omega)
                            · have hkL : L.take k = L := List.take_of_length_le (by ((try dsimp only [Ty.den] at *) <;> (repeat' (first | apply And.intro | intro _)) <;> omega))
                              have hdL : L.drop k = [] := List.drop_eq_nil_of_le (by ((try dsimp only [Ty.den] at *) <;> (repeat' (first | apply And.intro | intro _)) <;> omega))
                              refine ⟨⟨i + 1, by omega⟩, by simp only; omega, ent_match [(8, .nm 8), (20, .nm 20), (5, .nm 5), (2, .nm 2), (101, .nm 101), (13, .nm 13), (4, .nm 4)] rfl rfl ?_ ?_⟩
                              · simp only [go_sem, Nat.reduceEqDiff, reduceCtorEq, Nat.reduceAdd, Nat.reduceSub, Nat.reduceMul, Nat.reduceLeDiff, Nat.reduceLT, Int.reduceLE, Int.reduceToNat, Int.reduceNeg, ↓reduceIte]
                                rw [hkL, hdL, List.append_nil]
                                have e := fill_step (nodeD f o) o 0 (0, []) hio
                                rw [hnn, hnode] at e
                                rw [← e, hfx, List.take_of_length_le (by simp : (L.map (renD o)).length ≤ L.length)]
                              · simp only [go_sem, Nat.reduceEqDiff, reduceCtorEq, Nat.reduceAdd, Nat.reduceSub, Nat.reduceMul, Nat.reduceLeDiff, Nat.reduceLT, Int.reduceLE, Int.reduceToNat, Int.reduceNeg, ↓reduceIte]
            · have hk : o.take i = o := List.take_of_length_le (by ((try dsimp only [Ty.den] at *) <;> (repeat' (first | apply And.intro | intro _)) <;> omega))
              have hz : o.length - i = 0 := by ((try dsimp only [Ty.den] at *) <;> (repeat' (first | apply And.intro | intro _)) <;> omega)
              rw [hk, hz]
              exact ev_fin hc [.cell 4 25] rfl (.inl rfl) (by simp) (by simp only [List.replicate_zero, List.append_nil]; simp only [retIs, resIs, resV, resLoad, avNames, pureOf, ownOf, go_sem, Nat.reduceEqDiff, reduceCtorEq, Nat.reduceAdd, Nat.reduceSub, Nat.reduceMul, Nat.reduceLeDiff, Nat.reduceLT, Int.reduceLE, Int.reduceToNat, Int.reduceNeg, ↓reduceIte]; exact List.take_of_length_le (by rw [List.length_map]; ((try dsimp only [Ty.den] at *) <;> (repeat' (first | apply And.intro | intro _)) <;> omega)))
def subS : Spec := canonicalS
theorem sub_ok : FnOk Try.prog 70 canonicalS := by
  refine fn_ok Try.func70 (by kernel_rfl) rfl Try.ntmps70 (by decide) (by kernel_rfl) (tyTab_ok [(93, canonicalS)]) (fns_cons canonical_ok fns_nil) ?_
  rintro w0 O0 ⟨f, root, u⟩ hc - hp
  simp only [canonicalS, entEnv]
  repeat' (first | exact trivial | refine ev_seq ?_ | refine ev_skip ?_ | refine ev_ret ?_ | refine ev_exit ?_ | refine ev_block ?_ | refine ev_out_seq ?_ | refine ev_exit_seq ?_ | refine ev_ret_seq ?_ | refine ev_out_blk ?_ | refine ev_ret_blk ?_ | refine ev_exit_eq ?_ | refine ev_exit_ne (by decide) ?_ | refine ev_exit_inv ?_ | refine ev_ret_inv ?_ | refine ev_out_inv ?_ | refine rP [0, 1, 2, 4] hc ?_ ?_ | refine rA [0, 1, 2, 4] hc ?_ ?_ | refine rD [0, 1, 2, 4] hc ?_ ?_ | refine rT [0, 1, 2, 4] 1 hc ?_ ?_ | refine rT [0, 1, 2, 4] 2 hc ?_ ?_ | refine rT [0, 1, 2, 4] 3 hc ?_ ?_ | (refine rC (fun hcond => ?_) (fun hcond => ?_) <;> try (cases hcond; done)))
  · exact hp
  · exact ev_fin hc [.cell 4 25] rfl (.inl rfl) (by simp) (by simp only [retIs, resIs, resV, resLoad, avNames, pureOf, ownOf, go_sem, Nat.reduceEqDiff, reduceCtorEq, Nat.reduceAdd, Nat.reduceSub, Nat.reduceMul, Nat.reduceLeDiff, Nat.reduceLT, Int.reduceLE, Int.reduceToNat, Int.reduceNeg, ↓reduceIte])
end Go.Proofs.Ytfdkpbmofgkaoaa.Fw
