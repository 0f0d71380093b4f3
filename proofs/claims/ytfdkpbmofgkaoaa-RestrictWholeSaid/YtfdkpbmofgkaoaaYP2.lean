/- Functions of restrict: Keep. -/
import Derived.Test.YtfdkpbmofgkaoaaYP1
set_option linter.unusedVariables false
set_option linter.unusedSimpArgs false
namespace Go.Proofs.Ytfdkpbmofgkaoaa.Fw
open Go
attribute [local irreducible] Ev
attribute [local go_sem] cx_tb entEnv List.toList_toArray evSeq evG evK vcK guardOf guardT guardB_true guardB_false step1 step0 stepQ takesIn namesParts namesOf namesStore frzAll frz frz1 fixN frzEnv frzObjs drpEnv drpObjs AV.frz AV.frzs AV.drp AV.drps AV.names AV.namess aq qmap qPick qAlloc qBox qBuild qBuildSlice qBuildSlice2 qLoad qLoadB qLoadB2 qLoadE qLoadE2 qLoadE3 qFieldI qOff qPart qField qIndexA qIndex qIndexS qNil qBin qUn qConv qMake qMake2 qSlice qExtract qLen qAppend qAppend2 qAppend3 qMin qMax qCall qCall2 qCall3 qBuiltin qCallee aloud lStoreD lStore lStoreB lStoreB2 lStoreE lStoreE3 lStoreE4 lCallee lBuiltin lAppend lAppend2 lAppend3 lAppend4 opv lk constAV optAV sliceQ bin binI binS zf1 zfs pfs AV.cells nthOff loadB offB storeB notAg fitsT fitsO Ty.cell1 fieldOk partsT partsAg argsT asT asT1 asTs pairO srT castTo_self getF setF getP setP offP offF fldT rvAV rvObj rvAVs rvObjs resAV RV.flat Ty.flat Ty.size St.add upd del fresh Value.oneCell' refZ Ty.dflt sub_all sub_one sub_take sub_end List.take_succ_cons List.take_zero List.length_cons cast0 castS sub_app take_app sub_app1 take_app1 take_one1 natC zero_le_natC i64_min i64_max u64_min u64_max u8_min u8_max inK_i64 inK_u64 inK_u8 Option.map_some Option.map_none Option.bind_some Option.getD_some Option.getD_none Option.isNone_none Option.isNone_some Bool.and_true Bool.true_and Bool.and_false Bool.false_and Bool.not_true Bool.not_false if_true if_false List.length_cons List.length_nil and_true true_and and_self List.all_cons List.all_nil List.append_nil List.nil_append List.cons_append List.getElem?_cons_zero List.getElem?_cons_succ List.getElem?_nil List.map_cons List.map_nil List.set_cons_zero List.set_cons_succ List.isEmpty_nil List.isEmpty_cons decide_true decide_false beq_self_eq_true bne_self_eq_false Nat.zero_add Nat.add_zero Nat.sub_zero Int.toNat_natCast Int.toNat_zero Int.toNat_one List.take_length List.length_append List.length_singleton true_or or_true or_self false_or or_false Ty.agg.injEq Ty.slice.injEq Ty.prod.injEq Ty.int.injEq Option.some.injEq beq_iff_eq evM evMG evMQ opM isPick viewE viewS viewG opTs opTmp consE guardM guardM1 guardM2 sideM sideM2 pickM pickM2 sufB chEq memB dstOf Op.operands Call.operands List.filterMap_cons List.filterMap_nil List.append_eq Bool.cond_false_right Bool.cond_true_left cond_true cond_false implies_true decide_eq_true_eq beq_true beq_false Bool.or_true Bool.or_false Bool.true_or Bool.false_or Option.isSome_some fieldV namesAg namesAgs capNs qClo qClo2 qMakeMap qMakeMap2 qMakeMap3 qLook qLook2 qLook3 qLook4 keyT keyP eqT inB lMapUp lMapUp2 lMapUp3 namesMap argEnv cm_tb List.drop_zero pruneR prune rem1 afterM addDst fgtEnv AV.fgt AV.fgts Obj.fgt restObjs handed memB calleeOf opvs matchArgs matchArg List.any_cons List.any_nil evF evFO evFQ evFK addQ frOk qs List.flatMap_cons List.flatMap_nil List.cons_append tn appN fgtEN List.take_succ_cons List.drop_succ_cons isYl parEnv rangeSt cY_tb marked_tb renOk renIn matchObjs matchEnv matchE matchAV matchAVs matchF matchO
attribute [local go_sem] ty1 ty2 ty3 ty4 ty5 ty9 ty12 ty21 ty22 ty23 ty24 ty25 ty27 ty28 ty29 ty30 ty31 ty32 ty33 ty35 ty36 ty37 ty38 ty39 ty41 ty43 ty44 ty45 ty46 ty47 ty48 ty49 ty50 ty51 ty52 ty53 ty54 ty55 ty56 ty57 ty58 ty59 ty60 ty61 ty62 ty64 ty65 ty66 ty67 ty68 ty69 ty70 ty71 ty72 ty73 ty74 ty75 ty76 ty77 ty79 ty80 ty81 ty83 ty85 ty86 ty87 ty88 ty89 ty90 ty91 ty92 ty93 ty94 ty95 ty96 ty98 ty99 ty101 ty102 ty103 ty104 ty105 ty106 ty107 ty108 ty109 ty111 ty112 ty113 ty114 ty115 ty116 ty117 ty118 ty121 ty122 ty123 ty124 ty125 ty126 ty127 ty128 ty129 ty130 ty131 ty132 ty134 ty135 ty136 ty137 ty138 ty139 ty140 ty141 ty142 ty143 ty145 ty146 ty147 ty148 ty149 ty150 ty151 ty152 ty153 ty154 ty155 ty156 ty157 ty158 ty159 ty160 ty161 ty162 ty163 ty164 ty165 ty167 ty168 ty169 ty170 ty171 ty172 ty173 ty174 ty175 ty176 ty177 ty178 ty179 ty180 ty181 ty182 ty183 ty184 ty185 ty186 ty187 ty188 ty189 ty190 ty191 ty192 ty193 ty194 ty195 ty196 ty197 ty199 ty200 ty201 ty202 ty203 ty204 ty205 ty206 ty207 ty208 ty209 ty210 ty211 ty212 ty214 ty215 ty221 ty224 ty225
attribute [local go_sem] subS canonicalS
set_option maxRecDepth 100000
set_option maxHeartbeats 4000000
abbrev KMap := List ((Int × Int) × Bool)
def accK (l : KMap) (n : Int) (a : Int × Int) : Bool := (mfind T93 .bool (n, a.1) l).getD false
theorem keepC_ok (l : KMap) (n : Int) (a : Int × Int) : CallM Try.prog 51 [.p T3 n, .p T61 a, .bp 1 [] 0] [(1, .box 91 false [.mp 3]), (3, .mapo T93 .bool l)] [1, 3] (fun res objs' => res = .p .bool (accK l n a) ∧ objs' = [(1, .box 91 false [.mp 3]), (3, .mapo T93 .bool l)]) := by
  refine fnM_ok Try.func51 (by kernel_rfl) rfl Try.ntmps51 (by simp only [List.length_cons, List.length_nil]; omega) (by kernel_rfl) rfl rfl (tyTab_ok []) fns_nil ?_
  intro w0 K O0 ρ0 hc hok1 hok2
  simp only [argEnv]
  repeat' (first | exact trivial | refine ev_seq ?_ | refine ev_skip ?_ | refine ev_ret ?_ | refine ev_exit ?_ | refine ev_block ?_ | refine ev_out_seq ?_ | refine ev_exit_seq ?_ | refine ev_ret_seq ?_ | refine ev_out_blk ?_ | refine ev_ret_blk ?_ | refine ev_exit_eq ?_ | refine ev_exit_ne (by decide) ?_ | refine ev_exit_inv ?_ | refine ev_ret_inv ?_ | refine ev_out_inv ?_ | refine rP [0, 1, 2, 4, 5] hc ?_ ?_ | refine rA [0, 1, 2, 4, 5] hc ?_ ?_ | refine rD [0, 1, 2, 4, 5] hc ?_ ?_ | refine rT [0, 1, 2, 4, 5] 1 hc ?_ ?_ | refine rT [0, 1, 2, 4, 5] 2 hc ?_ ?_ | refine rT [0, 1, 2, 4, 5] 3 hc ?_ ?_ | (refine rC (fun hcond => ?_) (fun hcond => ?_) <;> try (cases hcond; done)))
  refine Ev.ent (σ' := ⟨[(5, .p .bool (accK l n a))], [(1, .box 91 false [.mp 3]), (3, .mapo T93 .bool l)]⟩) ?_ (ent_match [(1, .nm 1), (3, .nm 3)] rfl rfl ?_ ?_)
  · exact ev_finM hc [.tmp 5] rfl (.inl rfl) (.p .bool (accK l n a)) (by simp only [retAV, ret1, retAVs, notAT, resV, resLoad, pureOf, go_sem, Nat.reduceEqDiff, reduceCtorEq, Nat.reduceAdd, Nat.reduceSub, Nat.reduceMul, Nat.reduceLeDiff, Nat.reduceLT, Int.reduceLE, Int.reduceToNat, Int.reduceNeg, ↓reduceIte]) ⟨rfl, rfl⟩
  · simp only [go_sem, Nat.reduceEqDiff, reduceCtorEq, Nat.reduceAdd, Nat.reduceSub, Nat.reduceMul, Nat.reduceLeDiff, Nat.reduceLT, Int.reduceLE, Int.reduceToNat, Int.reduceNeg, ↓reduceIte]
  · simp only [go_sem, Nat.reduceEqDiff, reduceCtorEq, Nat.reduceAdd, Nat.reduceSub, Nat.reduceMul, Nat.reduceLeDiff, Nat.reduceLT, Int.reduceLE, Int.reduceToNat, Int.reduceNeg, ↓reduceIte]
    rfl
theorem partK_ok (f : List GNode) (hf : GoodF f) (hs : SrtF f) (h0 : 0 < f.length) (l : KMap) : CallM Try.prog 47 [.p T25 f, .clo 51 [1]] [(1, .box 91 false [.mp 3]), (3, .mapo T93 .bool l)] [1, 3] (fun res _ => res = .p T25 (partF (accK l) f)) := by
  refine fnM_ok Try.func47 (by kernel_rfl) rfl Try.ntmps47 (by simp only [List.length_cons, List.length_nil]; omega) (by kernel_rfl) rfl rfl (tyTab_ok [(70, subS)]) (fns_cons sub_ok fns_nil) ?_
  intro w0 K O0 ρ0 hc hok1 hok2
  simp only [argEnv]
  have hfl := hf.1
  repeat' (first | exact trivial | refine ev_seq ?_ | refine ev_skip ?_ | refine ev_ret ?_ | refine ev_exit ?_ | refine ev_block ?_ | refine ev_out_seq ?_ | refine ev_exit_seq ?_ | refine ev_ret_seq ?_ | refine ev_out_blk ?_ | refine ev_ret_blk ?_ | refine ev_exit_eq ?_ | refine ev_exit_ne (by decide) ?_ | refine ev_exit_inv ?_ | refine ev_ret_inv ?_ | refine ev_out_inv ?_ | refine rP [0, 1, 2, 4, 5, 6, 7, 8, 10, 12, 13, 14, 15, 23, 24, 25, 26, 32] hc ?_ ?_ | refine rA [0, 1, 2, 4, 5, 6, 7, 8, 10, 12, 13, 14, 15, 23, 24, 25, 26, 32] hc ?_ ?_ | refine rD [0, 1, 2, 4, 5, 6, 7, 8, 10, 12, 13, 14, 15, 23, 24, 25, 26, 32] hc ?_ ?_ | refine rT [0, 1, 2, 4, 5, 6, 7, 8, 10, 12, 13, 14, 15, 23, 24, 25, 26, 32] 1 hc ?_ ?_ | refine rT [0, 1, 2, 4, 5, 6, 7, 8, 10, 12, 13, 14, 15, 23, 24, 25, 26, 32] 2 hc ?_ ?_ | refine rT [0, 1, 2, 4, 5, 6, 7, 8, 10, 12, 13, 14, 15, 23, 24, 25, 26, 32] 3 hc ?_ ?_ | (refine rC (fun hcond => ?_) (fun hcond => ?_) <;> try (cases hcond; done)))
  refine ev_loop (ι := {i : Nat // i ≤ f.length}) (fun i => ⟨[(1, .clo 51 [1]), (2, .bp 2 [] 0), (4, .bp 4 [] 0), (5, .bp 5 [] 0), (12, .p T23 f), (13, .p (.int .i64) (f.length : Int)), (14, .p (.int .i64) (i.1 : Int))], [(5, .box 25 true [.sr 44 T59 0 i.1]), (4, .box 25 true [.raw (.slice none 0 0)]), (2, .box 25 true [.p T23 f]), (44, .arr 59 T59 (partL (accK l) f i.1)), (1, .box 91 false [.mp 3]), (3, .mapo T93 .bool l)]⟩) (fun i => f.length - i.1) ⟨0, by omega⟩ (ent_match [(5, .nm 5), (4, .nm 4), (2, .nm 2), (44, .nil), (1, .nm 1), (3, .nm 3)] rfl rfl ?_ ?_) (fun i => ?_)
  · simp only [go_sem, Nat.reduceEqDiff, reduceCtorEq, Nat.reduceAdd, Nat.reduceSub, Nat.reduceMul, Nat.reduceLeDiff, Nat.reduceLT, Int.reduceLE, Int.reduceToNat, Int.reduceNeg, ↓reduceIte]
    rfl
  · simp only [go_sem, Nat.reduceEqDiff, reduceCtorEq, Nat.reduceAdd, Nat.reduceSub, Nat.reduceMul, Nat.reduceLeDiff, Nat.reduceLT, Int.reduceLE, Int.reduceToNat, Int.reduceNeg, ↓reduceIte]
  · obtain ⟨i, hi⟩ := i
    repeat' (first | exact trivial | refine ev_seq ?_ | refine ev_skip ?_ | refine ev_ret ?_ | refine ev_exit ?_ | refine ev_block ?_ | refine ev_out_seq ?_ | refine ev_exit_seq ?_ | refine ev_ret_seq ?_ | refine ev_out_blk ?_ | refine ev_ret_blk ?_ | refine ev_exit_eq ?_ | refine ev_exit_ne (by decide) ?_ | refine ev_exit_inv ?_ | refine ev_ret_inv ?_ | refine ev_out_inv ?_ | refine rP [0, 1, 2, 4, 5, 6, 7, 8, 10, 12, 13, 14, 15, 23, 24, 25, 26, 32] hc ?_ ?_ | refine rA [0, 1, 2, 4, 5, 6, 7, 8, 10, 12, 13, 14, 15, 23, 24, 25, 26, 32] hc ?_ ?_ | refine rD [0, 1, 2, 4, 5, 6, 7, 8, 10, 12, 13, 14, 15, 23, 24, 25, 26, 32] hc ?_ ?_ | refine rT [0, 1, 2, 4, 5, 6, 7, 8, 10, 12, 13, 14, 15, 23, 24, 25, 26, 32] 1 hc ?_ ?_ | refine rT [0, 1, 2, 4, 5, 6, 7, 8, 10, 12, 13, 14, 15, 23, 24, 25, 26, 32] 2 hc ?_ ?_ | refine rT [0, 1, 2, 4, 5, 6, 7, 8, 10, 12, 13, 14, 15, 23, 24, 25, 26, 32] 3 hc ?_ ?_ | (refine rC (fun hcond => ?_) (fun hcond => ?_) <;> try (cases hcond; done)))
    · ((try dsimp only [Ty.den] at *) <;> (repeat' (first | apply And.intro | intro _)) <;> omega)
    · have hif : i < f.length := by ((try dsimp only [Ty.den] at *) <;> (repeat' (first | apply And.intro | intro _)) <;> omega)
      have hx : (f.getD i (0, [])).2.length ≤ 100000 := (hf.2 _ (mem_of_take_succ f (0, []) hif)).1
      have hpn : partN (accK l) f i = ((f.getD i (0, [])).1, (f.getD i (0, [])).2.filter ((accK l) (i : Int))) := rfl
      generalize hgx : f.getD i (0, []) = x at *
      obtain ⟨xt, L⟩ := x
      simp only at hx hpn
      refine ev_loop (ι := {k : Nat // k ≤ L.length}) (fun k => ⟨[(1, .clo 51 [1]), (2, .bp 2 [] 0), (4, .bp 4 [] 0), (5, .bp 5 [] 0), (6, .p (.int .i64) (i : Int)), (8, .bp 8 [] 0), (12, .p T23 f), (13, .p (.int .i64) (f.length : Int)), (14, .p (.int .i64) (i : Int)), (23, .p T57 L), (24, .p (.int .i64) (L.length : Int)), (25, .p (.int .i64) (k.1 : Int))], [(8, .box 59 true [.p T3 xt, .sr 37 T61 0 ((L.take k.1).filter ((accK l) (i : Int))).length]), (37, .arr 61 T61 ((L.take k.1).filter ((accK l) (i : Int)))), (5, .box 25 true [.sr 44 T59 0 i]), (4, .box 25 true [.raw (.slice none 0 0)]), (2, .box 25 true [.p T23 f]), (44, .arr 59 T59 (partL (accK l) f i)), (1, .box 91 false [.mp 3]), (3, .mapo T93 .bool l)]⟩) (fun k => L.length - k.1) ⟨0, by omega⟩ (ent_match [(8, .nm 8), (37, .nil), (5, .nm 5), (4, .nm 4), (2, .nm 2), (44, .nm 44), (1, .nm 1), (3, .nm 3)] rfl rfl ?_ ?_) (fun k => ?_)
      · simp only [go_sem, Nat.reduceEqDiff, reduceCtorEq, Nat.reduceAdd, Nat.reduceSub, Nat.reduceMul, Nat.reduceLeDiff, Nat.reduceLT, Int.reduceLE, Int.reduceToNat, Int.reduceNeg, ↓reduceIte]
        exact ⟨rfl, rfl⟩
      · simp only [go_sem, Nat.reduceEqDiff, reduceCtorEq, Nat.reduceAdd, Nat.reduceSub, Nat.reduceMul, Nat.reduceLeDiff, Nat.reduceLT, Int.reduceLE, Int.reduceToNat, Int.reduceNeg, ↓reduceIte]
      · obtain ⟨k, hk⟩ := k
        repeat' (first | exact trivial | refine ev_seq ?_ | refine ev_skip ?_ | refine ev_ret ?_ | refine ev_exit ?_ | refine ev_block ?_ | refine ev_out_seq ?_ | refine ev_exit_seq ?_ | refine ev_ret_seq ?_ | refine ev_out_blk ?_ | refine ev_ret_blk ?_ | refine ev_exit_eq ?_ | refine ev_exit_ne (by decide) ?_ | refine ev_exit_inv ?_ | refine ev_ret_inv ?_ | refine ev_out_inv ?_ | refine rP [0, 1, 2, 4, 5, 6, 7, 8, 10, 12, 13, 14, 15, 23, 24, 25, 26, 32] hc ?_ ?_ | refine rA [0, 1, 2, 4, 5, 6, 7, 8, 10, 12, 13, 14, 15, 23, 24, 25, 26, 32] hc ?_ ?_ | refine rD [0, 1, 2, 4, 5, 6, 7, 8, 10, 12, 13, 14, 15, 23, 24, 25, 26, 32] hc ?_ ?_ | refine rT [0, 1, 2, 4, 5, 6, 7, 8, 10, 12, 13, 14, 15, 23, 24, 25, 26, 32] 1 hc ?_ ?_ | refine rT [0, 1, 2, 4, 5, 6, 7, 8, 10, 12, 13, 14, 15, 23, 24, 25, 26, 32] 2 hc ?_ ?_ | refine rT [0, 1, 2, 4, 5, 6, 7, 8, 10, 12, 13, 14, 15, 23, 24, 25, 26, 32] 3 hc ?_ ?_ | (refine rC (fun hcond => ?_) (fun hcond => ?_) <;> try (cases hcond; done)))
        · ((try dsimp only [Ty.den] at *) <;> (repeat' (first | apply And.intro | intro _)) <;> omega)
        · have hkL : k < L.length := by ((try dsimp only [Ty.den] at *) <;> (repeat' (first | apply And.intro | intro _)) <;> omega)
          have hlf := List.length_filter_le ((accK l) (i : Int)) (L.take k)
          have hlt := List.length_take_le k L
          have hsn := filter_snoc ((accK l) (i : Int)) L hkL
          refine cP 3 hc ?_ ?_
          · trivial
          · refine rM hc (keepC_ok l (i : Int) (L.getD k (0, 0))) [(1, .nm 1), (3, .nm 3)] [] ?_ ?_ ?_
            · simp only [go_sem, Nat.reduceEqDiff, reduceCtorEq, Nat.reduceAdd, Nat.reduceSub, Nat.reduceMul, Nat.reduceLeDiff, Nat.reduceLT, Int.reduceLE, Int.reduceToNat, Int.reduceNeg, ↓reduceIte]
            · simp only [go_sem, Nat.reduceEqDiff, reduceCtorEq, Nat.reduceAdd, Nat.reduceSub, Nat.reduceMul, Nat.reduceLeDiff, Nat.reduceLT, Int.reduceLE, Int.reduceToNat, Int.reduceNeg, ↓reduceIte]
            · rintro _ _ ⟨rfl, rfl⟩
              refine ⟨[(1, .nm 1), (3, .nm 3)], .p .bool ((accK l) (i : Int) (L.getD k (0, 0))), [(1, .box 91 false [.mp 3]), (3, .mapo T93 .bool l)], rfl, rfl, ?_, ?_, rfl, rfl, evL_end ?_⟩
              · simp only [go_sem, Nat.reduceEqDiff, reduceCtorEq, Nat.reduceAdd, Nat.reduceSub, Nat.reduceMul, Nat.reduceLeDiff, Nat.reduceLT, Int.reduceLE, Int.reduceToNat, Int.reduceNeg, ↓reduceIte]
              · simp only [go_sem, Nat.reduceEqDiff, reduceCtorEq, Nat.reduceAdd, Nat.reduceSub, Nat.reduceMul, Nat.reduceLeDiff, Nat.reduceLT, Int.reduceLE, Int.reduceToNat, Int.reduceNeg, ↓reduceIte]
              · generalize hac : (accK l) (i : Int) (L.getD k (0, 0)) = ac at *
                repeat' (first | exact trivial | refine ev_seq ?_ | refine ev_skip ?_ | refine ev_ret ?_ | refine ev_exit ?_ | refine ev_block ?_ | refine ev_out_seq ?_ | refine ev_exit_seq ?_ | refine ev_ret_seq ?_ | refine ev_out_blk ?_ | refine ev_ret_blk ?_ | refine ev_exit_eq ?_ | refine ev_exit_ne (by decide) ?_ | refine ev_exit_inv ?_ | refine ev_ret_inv ?_ | refine ev_out_inv ?_ | refine rP [0, 1, 2, 4, 5, 6, 7, 8, 10, 12, 13, 14, 15, 23, 24, 25, 26, 32] hc ?_ ?_ | refine rA [0, 1, 2, 4, 5, 6, 7, 8, 10, 12, 13, 14, 15, 23, 24, 25, 26, 32] hc ?_ ?_ | refine rD [0, 1, 2, 4, 5, 6, 7, 8, 10, 12, 13, 14, 15, 23, 24, 25, 26, 32] hc ?_ ?_ | refine rT [0, 1, 2, 4, 5, 6, 7, 8, 10, 12, 13, 14, 15, 23, 24, 25, 26, 32] 1 hc ?_ ?_ | refine rT [0, 1, 2, 4, 5, 6, 7, 8, 10, 12, 13, 14, 15, 23, 24, 25, 26, 32] 2 hc ?_ ?_ | refine rT [0, 1, 2, 4, 5, 6, 7, 8, 10, 12, 13, 14, 15, 23, 24, 25, 26, 32] 3 hc ?_ ?_ | (refine rC (fun hcond => ?_) (fun hcond => ?_) <;> try (cases hcond; done)))
                · simp only [maxN]
                  omega
                · ((try dsimp only [Ty.den] at *) <;> (repeat' (first | apply And.intro | intro _)) <;> omega)
                · have hcond : ac = true := hcond
                  subst hcond
                  rw [if_pos rfl] at hsn
                  refine ⟨⟨k + 1, by omega⟩, by simp only; omega, ent_match [(8, .nm 8), (37, .nm 37), (5, .nm 5), (4, .nm 4), (2, .nm 2), (44, .nm 44), (1, .nm 1), (3, .nm 3)] rfl rfl ?_ ?_⟩
                  · simp only [hsn]
                    simp only [go_sem, Nat.reduceEqDiff, reduceCtorEq, Nat.reduceAdd, Nat.reduceSub, Nat.reduceMul, Nat.reduceLeDiff, Nat.reduceLT, Int.reduceLE, Int.reduceToNat, Int.reduceNeg, ↓reduceIte]
                  · simp only [go_sem, Nat.reduceEqDiff, reduceCtorEq, Nat.reduceAdd, Nat.reduceSub, Nat.reduceMul, Nat.reduceLeDiff, Nat.reduceLT, Int.reduceLE, Int.reduceToNat, Int.reduceNeg, ↓reduceIte]
                · ((try dsimp only [Ty.den] at *) <;> (repeat' (first | apply And.intro | intro _)) <;> omega)
                · have hcond : ac = false := hcond
                  subst hcond
                  rw [if_neg (by simp)] at hsn
                  rw [List.append_nil] at hsn
                  refine ⟨⟨k + 1, by omega⟩, by simp only; omega, ent_match [(8, .nm 8), (37, .nm 37), (5, .nm 5), (4, .nm 4), (2, .nm 2), (44, .nm 44), (1, .nm 1), (3, .nm 3)] rfl rfl ?_ ?_⟩
                  · simp only [hsn]
                    simp only [go_sem, Nat.reduceEqDiff, reduceCtorEq, Nat.reduceAdd, Nat.reduceSub, Nat.reduceMul, Nat.reduceLeDiff, Nat.reduceLT, Int.reduceLE, Int.reduceToNat, Int.reduceNeg, ↓reduceIte]
                  · simp only [go_sem, Nat.reduceEqDiff, reduceCtorEq, Nat.reduceAdd, Nat.reduceSub, Nat.reduceMul, Nat.reduceLeDiff, Nat.reduceLT, Int.reduceLE, Int.reduceToNat, Int.reduceNeg, ↓reduceIte]
        · simp only [maxN]; omega
        · ((try dsimp only [Ty.den] at *) <;> (repeat' (first | apply And.intro | intro _)) <;> omega)
        · have hkL : L.take k = L := List.take_of_length_le (by ((try dsimp only [Ty.den] at *) <;> (repeat' (first | apply And.intro | intro _)) <;> omega))
          rw [hkL]
          refine ⟨⟨i + 1, by omega⟩, by simp only; omega, ent_match [(5, .nm 5), (4, .nm 4), (2, .nm 2), (44, .nm 44), (1, .nm 1), (3, .nm 3)] rfl rfl ?_ ?_⟩
          · simp only [partL_succ, hpn]
            simp only [go_sem, Nat.reduceEqDiff, reduceCtorEq, Nat.reduceAdd, Nat.reduceSub, Nat.reduceMul, Nat.reduceLeDiff, Nat.reduceLT, Int.reduceLE, Int.reduceToNat, Int.reduceNeg, ↓reduceIte]
            rw [List.take_of_length_le (Nat.le_of_eq (partL_len _ f i))]
          · simp only [go_sem, Nat.reduceEqDiff, reduceCtorEq, Nat.reduceAdd, Nat.reduceSub, Nat.reduceMul, Nat.reduceLeDiff, Nat.reduceLT, Int.reduceLE, Int.reduceToNat, Int.reduceNeg, ↓reduceIte]
    · have hif : i = f.length := by ((try dsimp only [Ty.den] at *) <;> (repeat' (first | apply And.intro | intro _)) <;> omega)
      subst hif
      obtain ⟨hg1, hg2⟩ := part_good hf hs (accK l)
      have hpl := partL_len (accK l) f f.length
      have hpf : partF (accK l) f = canonicalF (partL (accK l) f f.length) 0 := rfl
      refine Ev.ent ?_ (ent_frz [44] (by simp only [go_sem, Nat.reduceEqDiff, reduceCtorEq, Nat.reduceAdd, Nat.reduceSub, Nat.reduceMul, Nat.reduceLeDiff, Nat.reduceLT, Int.reduceLE, Int.reduceToNat, Int.reduceNeg, ↓reduceIte]; rfl) (fun _ _ h => h))
      have htl : (partL (accK l) f f.length).take f.length = partL (accK l) f f.length := List.take_of_length_le (Nat.le_of_eq hpl)
      rw [hpf]
      rw [htl]
      generalize partL (accK l) f f.length = g at *
      repeat' (first | exact trivial | refine ev_seq ?_ | refine ev_skip ?_ | refine ev_ret ?_ | refine ev_exit ?_ | refine ev_block ?_ | refine ev_out_seq ?_ | refine ev_exit_seq ?_ | refine ev_ret_seq ?_ | refine ev_out_blk ?_ | refine ev_ret_blk ?_ | refine ev_exit_eq ?_ | refine ev_exit_ne (by decide) ?_ | refine ev_exit_inv ?_ | refine ev_ret_inv ?_ | refine ev_out_inv ?_ | refine rP [0, 1, 2, 4, 5, 6, 7, 8, 10, 12, 13, 14, 15, 23, 24, 25, 26, 32] hc ?_ ?_ | refine rA [0, 1, 2, 4, 5, 6, 7, 8, 10, 12, 13, 14, 15, 23, 24, 25, 26, 32] hc ?_ ?_ | refine rD [0, 1, 2, 4, 5, 6, 7, 8, 10, 12, 13, 14, 15, 23, 24, 25, 26, 32] hc ?_ ?_ | refine rT [0, 1, 2, 4, 5, 6, 7, 8, 10, 12, 13, 14, 15, 23, 24, 25, 26, 32] 1 hc ?_ ?_ | refine rT [0, 1, 2, 4, 5, 6, 7, 8, 10, 12, 13, 14, 15, 23, 24, 25, 26, 32] 2 hc ?_ ?_ | refine rT [0, 1, 2, 4, 5, 6, 7, 8, 10, 12, 13, 14, 15, 23, 24, 25, 26, 32] 3 hc ?_ ?_ | (refine rC (fun hcond => ?_) (fun hcond => ?_) <;> try (cases hcond; done)))
      · exact ⟨hg1, hg2, by ((try dsimp only [Ty.den] at *) <;> (repeat' (first | apply And.intro | intro _)) <;> omega)⟩
      · exact ev_finM hc [.cell 4 25] rfl (.inl rfl) (.p T25 (canonicalF g 0)) (by simp only [retAV, ret1, retAVs, notAT, resV, resLoad, pureOf, go_sem, Nat.reduceEqDiff, reduceCtorEq, Nat.reduceAdd, Nat.reduceSub, Nat.reduceMul, Nat.reduceLeDiff, Nat.reduceLT, Int.reduceLE, Int.reduceToNat, Int.reduceNeg, ↓reduceIte]) rfl
def toF (l : List (Int × Int)) (x : Int) : Int := l.foldl (fun t a => if a.1 = x then a.2 else t) (-1)
def kpF (f : List GNode) : KMap → Int → List Int → KMap
  | m, _, [] => m
  | m, n, x :: r => if toF (f.getD n.toNat (0, [])).2 x < 0 then m else kpF f (mput T93 .bool (n, x) true m) (toF (f.getD n.toNat (0, [])).2 x) r
def keptF (f : List GNode) (ps : List (List Int)) : KMap := ps.foldl (fun m p => kpF f m 0 p) []
def pkeepF (f : List GNode) (ps : List (List Int)) : List GNode := partF (accK (keptF f ps)) f
def pkeepS : Spec := { ins := [T25, T50], pre := fun (f, _, _) => GoodF f ∧ SrtF f ∧ 0 < List.length f, out := fun (f, l, _) => [.p T25 (pkeepF f l)] }
theorem toF_or {f : List GNode} (hf : GoodF f) (n x : Int) : toF (f.getD n.toNat (0, [])).2 x < f.length := by
  have key : ∀ (l : List (Int × Int)) (t : Int), (∀ a ∈ l, a.2 < (f.length : Int)) → t < f.length → l.foldl (fun t a => if a.1 = x then a.2 else t) t < f.length := by
    intro l
    induction l with
    | nil => intro t _ h; exact h
    | cons a l ih =>
      intro t hl h
      simp only [List.foldl_cons]
      refine ih _ (fun b hb => hl b (by simp [hb])) ?_
      split
      · exact hl a (by simp)
      · exact h
  exact key _ _ (fun a ha => (arcs_in' hf ha).2) (by omega)
theorem pkeep_ok : FnOk Try.prog 25 pkeepS := by
  refine fn_ok Try.func25 (by kernel_rfl) rfl Try.ntmps25 (by decide) (by kernel_rfl) (tyTab_ok []) fns_nil ?_
  rintro w0 O0 ⟨f, ps, u⟩ hc ⟨hokf, ⟨hlp, hps⟩, -⟩ ⟨hf, hs, h0⟩
  simp only [maxN] at hlp
  have hfl := hf.1
  simp only [pkeepS, entEnv]
  repeat' (first | exact trivial | refine ev_seq ?_ | refine ev_skip ?_ | refine ev_ret ?_ | refine ev_exit ?_ | refine ev_block ?_ | refine ev_out_seq ?_ | refine ev_exit_seq ?_ | refine ev_ret_seq ?_ | refine ev_out_blk ?_ | refine ev_ret_blk ?_ | refine ev_exit_eq ?_ | refine ev_exit_ne (by decide) ?_ | refine ev_exit_inv ?_ | refine ev_ret_inv ?_ | refine ev_out_inv ?_ | refine rP [0, 1, 2, 4, 5, 7, 8, 10, 11, 13, 15, 16, 17, 18, 21, 22, 23, 24, 32, 33, 34, 35, 41, 46] hc ?_ ?_ | refine rA [0, 1, 2, 4, 5, 7, 8, 10, 11, 13, 15, 16, 17, 18, 21, 22, 23, 24, 32, 33, 34, 35, 41, 46] hc ?_ ?_ | refine rD [0, 1, 2, 4, 5, 7, 8, 10, 11, 13, 15, 16, 17, 18, 21, 22, 23, 24, 32, 33, 34, 35, 41, 46] hc ?_ ?_ | refine rT [0, 1, 2, 4, 5, 7, 8, 10, 11, 13, 15, 16, 17, 18, 21, 22, 23, 24, 32, 33, 34, 35, 41, 46] 1 hc ?_ ?_ | refine rT [0, 1, 2, 4, 5, 7, 8, 10, 11, 13, 15, 16, 17, 18, 21, 22, 23, 24, 32, 33, 34, 35, 41, 46] 2 hc ?_ ?_ | refine rT [0, 1, 2, 4, 5, 7, 8, 10, 11, 13, 15, 16, 17, 18, 21, 22, 23, 24, 32, 33, 34, 35, 41, 46] 3 hc ?_ ?_ | (refine rC (fun hcond => ?_) (fun hcond => ?_) <;> try (cases hcond; done)))
  refine ev_loop (ι := {i : Nat // i ≤ ps.length}) (fun i => ⟨[(2, .bp 2 [] 0), (4, .bp 4 [] 0), (5, .bp 5 [] 0), (15, .p T50 ps), (16, .p (.int .i64) (ps.length : Int)), (17, .p (.int .i64) (i.1 : Int))], [(4, .box 25 true [.raw (.slice none 0 0)]), (2, .box 25 true [.p T23 f]), (5, .box 91 false [.mp 14]), (14, .mapo T93 .bool (keptF f (ps.take i.1)))]⟩) (fun i => ps.length - i.1) ⟨0, by omega⟩ (ent_match [(4, .nm 4), (2, .nm 2), (5, .nm 5), (14, .nm 14)] rfl rfl ?_ ?_) (fun i => ?_)
  · simp only [go_sem, Nat.reduceEqDiff, reduceCtorEq, Nat.reduceAdd, Nat.reduceSub, Nat.reduceMul, Nat.reduceLeDiff, Nat.reduceLT, Int.reduceLE, Int.reduceToNat, Int.reduceNeg, ↓reduceIte]
    rfl
  · simp only [go_sem, Nat.reduceEqDiff, reduceCtorEq, Nat.reduceAdd, Nat.reduceSub, Nat.reduceMul, Nat.reduceLeDiff, Nat.reduceLT, Int.reduceLE, Int.reduceToNat, Int.reduceNeg, ↓reduceIte]
  · obtain ⟨i, hi⟩ := i
    have hsn := fun h : i < ps.length => fold_take (fun m p => kpF f m 0 p) ps ([] : List Int) [] h
    repeat' (first | exact trivial | refine ev_seq ?_ | refine ev_skip ?_ | refine ev_ret ?_ | refine ev_exit ?_ | refine ev_block ?_ | refine ev_out_seq ?_ | refine ev_exit_seq ?_ | refine ev_ret_seq ?_ | refine ev_out_blk ?_ | refine ev_ret_blk ?_ | refine ev_exit_eq ?_ | refine ev_exit_ne (by decide) ?_ | refine ev_exit_inv ?_ | refine ev_ret_inv ?_ | refine ev_out_inv ?_ | refine rP [0, 1, 2, 4, 5, 7, 8, 10, 11, 13, 15, 16, 17, 18, 21, 22, 23, 24, 32, 33, 34, 35, 41, 46] hc ?_ ?_ | refine rA [0, 1, 2, 4, 5, 7, 8, 10, 11, 13, 15, 16, 17, 18, 21, 22, 23, 24, 32, 33, 34, 35, 41, 46] hc ?_ ?_ | refine rD [0, 1, 2, 4, 5, 7, 8, 10, 11, 13, 15, 16, 17, 18, 21, 22, 23, 24, 32, 33, 34, 35, 41, 46] hc ?_ ?_ | refine rT [0, 1, 2, 4, 5, 7, 8, 10, 11, 13, 15, 16, 17, 18, 21, 22, 23, 24, 32, 33, 34, 35, 41, 46] 1 hc ?_ ?_ | refine rT [0, 1, 2, 4, 5, 7, 8, 10, 11, 13, 15, 16, 17, 18, 21, 22, 23, 24, 32, 33, 34, 35, 41, 46] 2 hc ?_ ?_ | refine rT [0, 1, 2, 4, 5, 7, 8, 10, 11, 13, 15, 16, 17, 18, 21, 22, 23, 24, 32, 33, 34, 35, 41, 46] 3 hc ?_ ?_ | (refine rC (fun hcond => ?_) (fun hcond => ?_) <;> try (cases hcond; done)))
    · ((try dsimp only [Ty.den] at *) <;> (repeat' (first | apply And.intro | intro _)) <;> omega)
    · have hil : i < ps.length := by ((try dsimp only [Ty.den] at *) <;> (repeat' (first | apply And.intro | intro _)) <;> omega)
      have hpl : (ps.getD i []).length ≤ 140737488355328 := (hps _ (mem_of_take_succ ps [] hil)).1
      have hnx := hsn hil
      generalize ps.getD i [] = p at *
      generalize hm0 : keptF f (ps.take i) = m0 at *
      refine ev_loop (ι := {x : Nat × KMap × Int // x.1 ≤ p.length ∧ 0 ≤ x.2.2 ∧ x.2.2 < f.length ∧ kpF f x.2.1 x.2.2 (p.drop x.1) = kpF f m0 0 p}) (fun x => ⟨[(2, .bp 2 [] 0), (4, .bp 4 [] 0), (5, .bp 5 [] 0), (8, .p T3 x.1.2.2), (15, .p T50 ps), (16, .p (.int .i64) (ps.length : Int)), (17, .p (.int .i64) (i : Int)), (21, .p T41 p), (22, .p (.int .i64) (p.length : Int)), (23, .p (.int .i64) (x.1.1 : Int))], [(4, .box 25 true [.raw (.slice none 0 0)]), (2, .box 25 true [.p T23 f]), (5, .box 91 false [.mp 14]), (14, .mapo T93 .bool x.1.2.1)]⟩) (fun x => p.length - x.1.1) ⟨(0, m0, 0), by simp, by simp, by simp; omega, by simp⟩ (ent_match [(4, .nm 4), (2, .nm 2), (5, .nm 5), (14, .nm 14)] rfl rfl ?_ ?_) (fun x => ?_)
      · simp only [go_sem, Nat.reduceEqDiff, reduceCtorEq, Nat.reduceAdd, Nat.reduceSub, Nat.reduceMul, Nat.reduceLeDiff, Nat.reduceLT, Int.reduceLE, Int.reduceToNat, Int.reduceNeg, ↓reduceIte]
      · simp only [go_sem, Nat.reduceEqDiff, reduceCtorEq, Nat.reduceAdd, Nat.reduceSub, Nat.reduceMul, Nat.reduceLeDiff, Nat.reduceLT, Int.reduceLE, Int.reduceToNat, Int.reduceNeg, ↓reduceIte]
      · obtain ⟨⟨k, m, n⟩, hk, hn0, hn1, hkp⟩ := x
        simp only at hk hn0 hn1 hkp
        simp only
        repeat' (first | exact trivial | refine ev_seq ?_ | refine ev_skip ?_ | refine ev_ret ?_ | refine ev_exit ?_ | refine ev_block ?_ | refine ev_out_seq ?_ | refine ev_exit_seq ?_ | refine ev_ret_seq ?_ | refine ev_out_blk ?_ | refine ev_ret_blk ?_ | refine ev_exit_eq ?_ | refine ev_exit_ne (by decide) ?_ | refine ev_exit_inv ?_ | refine ev_ret_inv ?_ | refine ev_out_inv ?_ | refine rP [0, 1, 2, 4, 5, 7, 8, 10, 11, 13, 15, 16, 17, 18, 21, 22, 23, 24, 32, 33, 34, 35, 41, 46] hc ?_ ?_ | refine rA [0, 1, 2, 4, 5, 7, 8, 10, 11, 13, 15, 16, 17, 18, 21, 22, 23, 24, 32, 33, 34, 35, 41, 46] hc ?_ ?_ | refine rD [0, 1, 2, 4, 5, 7, 8, 10, 11, 13, 15, 16, 17, 18, 21, 22, 23, 24, 32, 33, 34, 35, 41, 46] hc ?_ ?_ | refine rT [0, 1, 2, 4, 5, 7, 8, 10, 11, 13, 15, 16, 17, 18, 21, 22, 23, 24, 32, 33, 34, 35, 41, 46] 1 hc ?_ ?_ | refine rT [0, 1, 2, 4, 5, 7, 8, 10, 11, 13, 15, 16, 17, 18, 21, 22, 23, 24, 32, 33, 34, 35, 41, 46] 2 hc ?_ ?_ | refine rT [0, 1, 2, 4, 5, 7, 8, 10, 11, 13, 15, 16, 17, 18, 21, 22, 23, 24, 32, 33, 34, 35, 41, 46] 3 hc ?_ ?_ | (refine rC (fun hcond => ?_) (fun hcond => ?_) <;> try (cases hcond; done)))
        · ((try dsimp only [Ty.den] at *) <;> (repeat' (first | apply And.intro | intro _)) <;> omega)
        · exact ⟨hn0, hn1⟩
        · have hkp2 : k < p.length := by ((try dsimp only [Ty.den] at *) <;> (repeat' (first | apply And.intro | intro _)) <;> omega)
          have hdrop : p.drop k = p.getD k 0 :: p.drop (k + 1) := by
            rw [List.drop_eq_getElem_cons hkp2, List.getD_eq_getElem?_getD, List.getElem?_eq_getElem hkp2]; rfl
          have hto := toF_or hf n (p.getD k 0)
          have htoF : toF (f.getD n.toNat (0, [])).2 (p.getD k 0) = (f.getD n.toNat (0, [])).2.foldl (fun t a => if a.1 = p.getD k 0 then a.2 else t) (-1) := rfl
          have hLl := arcs_len hf n
          have hkpF : ∀ m n x r, kpF f m n (x :: r) = if toF (f.getD n.toNat (0, [])).2 x < 0 then m else kpF f (mput T93 .bool (n, x) true m) (toF (f.getD n.toNat (0, [])).2 x) r := fun _ _ _ _ => rfl
          rw [hdrop, hkpF] at hkp
          rw [htoF] at hkp hto
          generalize (f.getD n.toNat (0, [])).2 = L at *
          have hsnj := fun (j : Nat) (h : j < L.length) => fold_take (fun (t : Int) (a : Int × Int) => if a.1 = p.getD k 0 then a.2 else t) L (0, 0) (-1 : Int) h
          refine ev_loop (ι := {j : Nat // j ≤ L.length}) (fun j => ⟨[(2, .bp 2 [] 0), (4, .bp 4 [] 0), (5, .bp 5 [] 0), (8, .p T3 n), (10, .p T3 (p.getD k 0)), (11, .p T3 (L.take j.1 |>.foldl (fun t a => if a.1 = p.getD k 0 then a.2 else t) (-1 : Int))), (15, .p T50 ps), (16, .p (.int .i64) (ps.length : Int)), (17, .p (.int .i64) (i : Int)), (21, .p T41 p), (22, .p (.int .i64) (p.length : Int)), (23, .p (.int .i64) (k : Int)), (32, .p T57 L), (33, .p (.int .i64) (L.length : Int)), (34, .p (.int .i64) (j.1 : Int))], [(4, .box 25 true [.raw (.slice none 0 0)]), (2, .box 25 true [.p T23 f]), (5, .box 91 false [.mp 14]), (14, .mapo T93 .bool m)]⟩) (fun j => L.length - j.1) ⟨0, by omega⟩ (ent_match [(4, .nm 4), (2, .nm 2), (5, .nm 5), (14, .nm 14)] rfl rfl ?_ ?_) (fun j => ?_)
          · simp only [go_sem, Nat.reduceEqDiff, reduceCtorEq, Nat.reduceAdd, Nat.reduceSub, Nat.reduceMul, Nat.reduceLeDiff, Nat.reduceLT, Int.reduceLE, Int.reduceToNat, Int.reduceNeg, ↓reduceIte]
          · simp only [go_sem, Nat.reduceEqDiff, reduceCtorEq, Nat.reduceAdd, Nat.reduceSub, Nat.reduceMul, Nat.reduceLeDiff, Nat.reduceLT, Int.reduceLE, Int.reduceToNat, Int.reduceNeg, ↓reduceIte]
            rfl
          · obtain ⟨j, hj⟩ := j
            simp only
            have hnj := hsnj j
            generalize hto0 : (L.take j).foldl (fun (t : Int) (a : Int × Int) => if a.1 = p.getD k 0 then a.2 else t) (-1) = to at *
            repeat' (first | exact trivial | refine ev_seq ?_ | refine ev_skip ?_ | refine ev_ret ?_ | refine ev_exit ?_ | refine ev_block ?_ | refine ev_out_seq ?_ | refine ev_exit_seq ?_ | refine ev_ret_seq ?_ | refine ev_out_blk ?_ | refine ev_ret_blk ?_ | refine ev_exit_eq ?_ | refine ev_exit_ne (by decide) ?_ | refine ev_exit_inv ?_ | refine ev_ret_inv ?_ | refine ev_out_inv ?_ | refine rP [0, 1, 2, 4, 5, 7, 8, 10, 11, 13, 15, 16, 17, 18, 21, 22, 23, 24, 32, 33, 34, 35, 41, 46] hc ?_ ?_ | refine rA [0, 1, 2, 4, 5, 7, 8, 10, 11, 13, 15, 16, 17, 18, 21, 22, 23, 24, 32, 33, 34, 35, 41, 46] hc ?_ ?_ | refine rD [0, 1, 2, 4, 5, 7, 8, 10, 11, 13, 15, 16, 17, 18, 21, 22, 23, 24, 32, 33, 34, 35, 41, 46] hc ?_ ?_ | refine rT [0, 1, 2, 4, 5, 7, 8, 10, 11, 13, 15, 16, 17, 18, 21, 22, 23, 24, 32, 33, 34, 35, 41, 46] 1 hc ?_ ?_ | refine rT [0, 1, 2, 4, 5, 7, 8, 10, 11, 13, 15, 16, 17, 18, 21, 22, 23, 24, 32, 33, 34, 35, 41, 46] 2 hc ?_ ?_ | refine rT [0, 1, 2, 4, 5, 7, 8, 10, 11, 13, 15, 16, 17, 18, 21, 22, 23, 24, 32, 33, 34, 35, 41, 46] 3 hc ?_ ?_ | (refine rC (fun hcond => ?_) (fun hcond => ?_) <;> try (cases hcond; done)))
            · ((try dsimp only [Ty.den] at *) <;> (repeat' (first | apply And.intro | intro _)) <;> omega)
            · ((try dsimp only [Ty.den] at *) <;> (repeat' (first | apply And.intro | intro _)) <;> omega)
            · have hjL : j < L.length := by ((try dsimp only [Ty.den] at *) <;> (repeat' (first | apply And.intro | intro _)) <;> omega)
              refine ⟨⟨j + 1, by omega⟩, by simp only; omega, ent_match [(4, .nm 4), (2, .nm 2), (5, .nm 5), (14, .nm 14)] rfl rfl ?_ ?_⟩
              · simp only [go_sem, Nat.reduceEqDiff, reduceCtorEq, Nat.reduceAdd, Nat.reduceSub, Nat.reduceMul, Nat.reduceLeDiff, Nat.reduceLT, Int.reduceLE, Int.reduceToNat, Int.reduceNeg, ↓reduceIte]
              · simp only [hnj hjL]
                rw [if_pos hcond]
                simp only [go_sem, Nat.reduceEqDiff, reduceCtorEq, Nat.reduceAdd, Nat.reduceSub, Nat.reduceMul, Nat.reduceLeDiff, Nat.reduceLT, Int.reduceLE, Int.reduceToNat, Int.reduceNeg, ↓reduceIte]
            · ((try dsimp only [Ty.den] at *) <;> (repeat' (first | apply And.intro | intro _)) <;> omega)
            · have hjL : j < L.length := by ((try dsimp only [Ty.den] at *) <;> (repeat' (first | apply And.intro | intro _)) <;> omega)
              refine ⟨⟨j + 1, by omega⟩, by simp only; omega, ent_match [(4, .nm 4), (2, .nm 2), (5, .nm 5), (14, .nm 14)] rfl rfl ?_ ?_⟩
              · simp only [go_sem, Nat.reduceEqDiff, reduceCtorEq, Nat.reduceAdd, Nat.reduceSub, Nat.reduceMul, Nat.reduceLeDiff, Nat.reduceLT, Int.reduceLE, Int.reduceToNat, Int.reduceNeg, ↓reduceIte]
              · simp only [hnj hjL]
                rw [if_neg hcond]
                simp only [go_sem, Nat.reduceEqDiff, reduceCtorEq, Nat.reduceAdd, Nat.reduceSub, Nat.reduceMul, Nat.reduceLeDiff, Nat.reduceLT, Int.reduceLE, Int.reduceToNat, Int.reduceNeg, ↓reduceIte]
            · ((try dsimp only [Ty.den] at *) <;> (repeat' (first | apply And.intro | intro _)) <;> omega)
            · have hjL : L.take j = L := List.take_of_length_le (by ((try dsimp only [Ty.den] at *) <;> (repeat' (first | apply And.intro | intro _)) <;> omega))
              rw [hjL] at hto0
              rw [hto0, if_pos hcond] at hkp
              refine ⟨⟨i + 1, by omega⟩, by simp only; omega, ent_match [(4, .nm 4), (2, .nm 2), (5, .nm 5), (14, .nm 14)] rfl rfl ?_ ?_⟩
              · simp only
                unfold keptF
                rw [hnx]
                unfold keptF at hm0
                rw [hm0, ← hkp]
                simp only [go_sem, Nat.reduceEqDiff, reduceCtorEq, Nat.reduceAdd, Nat.reduceSub, Nat.reduceMul, Nat.reduceLeDiff, Nat.reduceLT, Int.reduceLE, Int.reduceToNat, Int.reduceNeg, ↓reduceIte]
              · simp only [go_sem, Nat.reduceEqDiff, reduceCtorEq, Nat.reduceAdd, Nat.reduceSub, Nat.reduceMul, Nat.reduceLeDiff, Nat.reduceLT, Int.reduceLE, Int.reduceToNat, Int.reduceNeg, ↓reduceIte]
            · ((try dsimp only [Ty.den] at *) <;> (repeat' (first | apply And.intro | intro _)) <;> omega)
            · have hjL : L.take j = L := List.take_of_length_le (by ((try dsimp only [Ty.den] at *) <;> (repeat' (first | apply And.intro | intro _)) <;> omega))
              rw [hjL] at hto0
              rw [hto0] at hkp hto
              rw [if_neg (by omega)] at hkp
              refine ⟨⟨(k + 1, mput T93 .bool (n, p.getD k 0) true m, to), by simp only; omega, hcond, hto, hkp⟩, by simp only; omega, ent_match [(4, .nm 4), (2, .nm 2), (5, .nm 5), (14, .nm 14)] rfl rfl ?_ ?_⟩
              · simp only [go_sem, Nat.reduceEqDiff, reduceCtorEq, Nat.reduceAdd, Nat.reduceSub, Nat.reduceMul, Nat.reduceLeDiff, Nat.reduceLT, Int.reduceLE, Int.reduceToNat, Int.reduceNeg, ↓reduceIte]
              · simp only [go_sem, Nat.reduceEqDiff, reduceCtorEq, Nat.reduceAdd, Nat.reduceSub, Nat.reduceMul, Nat.reduceLeDiff, Nat.reduceLT, Int.reduceLE, Int.reduceToNat, Int.reduceNeg, ↓reduceIte]
        · ((try dsimp only [Ty.den] at *) <;> (repeat' (first | apply And.intro | intro _)) <;> omega)
        · have hkL : p.drop k = [] := List.drop_eq_nil_of_le (by ((try dsimp only [Ty.den] at *) <;> (repeat' (first | apply And.intro | intro _)) <;> omega))
          rw [hkL] at hkp
          have hkp : m = kpF f m0 0 p := hkp
          refine ⟨⟨i + 1, by omega⟩, by simp only; omega, ent_match [(4, .nm 4), (2, .nm 2), (5, .nm 5), (14, .nm 14)] rfl rfl ?_ ?_⟩
          · simp only
            unfold keptF
            rw [hnx]
            unfold keptF at hm0
            rw [hm0, ← hkp]
            simp only [go_sem, Nat.reduceEqDiff, reduceCtorEq, Nat.reduceAdd, Nat.reduceSub, Nat.reduceMul, Nat.reduceLeDiff, Nat.reduceLT, Int.reduceLE, Int.reduceToNat, Int.reduceNeg, ↓reduceIte]
          · simp only [go_sem, Nat.reduceEqDiff, reduceCtorEq, Nat.reduceAdd, Nat.reduceSub, Nat.reduceMul, Nat.reduceLeDiff, Nat.reduceLT, Int.reduceLE, Int.reduceToNat, Int.reduceNeg, ↓reduceIte]
    · have hk : ps.take i = ps := List.take_of_length_le (by ((try dsimp only [Ty.den] at *) <;> (repeat' (first | apply And.intro | intro _)) <;> omega))
      rw [hk]
      refine cP 2 hc ?_ ?_
      · trivial
      · refine rM hc (partK_ok f hf hs h0 (keptF f ps)) [(1, .nm 5), (3, .nm 14)] [5, 14] ?_ ?_ ?_
        · simp only [go_sem, Nat.reduceEqDiff, reduceCtorEq, Nat.reduceAdd, Nat.reduceSub, Nat.reduceMul, Nat.reduceLeDiff, Nat.reduceLT, Int.reduceLE, Int.reduceToNat, Int.reduceNeg, ↓reduceIte]
        · simp only [go_sem, Nat.reduceEqDiff, reduceCtorEq, Nat.reduceAdd, Nat.reduceSub, Nat.reduceMul, Nat.reduceLeDiff, Nat.reduceLT, Int.reduceLE, Int.reduceToNat, Int.reduceNeg, ↓reduceIte]
        · rintro _ _ rfl
          refine ⟨[], .p T25 (pkeepF f ps), [], rfl, rfl, trivial, ?_, rfl, rfl, ?_⟩
          · unfold pkeepF
            simp only [go_sem, Nat.reduceEqDiff, reduceCtorEq, Nat.reduceAdd, Nat.reduceSub, Nat.reduceMul, Nat.reduceLeDiff, Nat.reduceLT, Int.reduceLE, Int.reduceToNat, Int.reduceNeg, ↓reduceIte]
          · refine rL [4] hc ?_ ?_
            · trivial
            · repeat' (first | exact trivial | refine ev_seq ?_ | refine ev_skip ?_ | refine ev_ret ?_ | refine ev_exit ?_ | refine ev_block ?_ | refine ev_out_seq ?_ | refine ev_exit_seq ?_ | refine ev_ret_seq ?_ | refine ev_out_blk ?_ | refine ev_ret_blk ?_ | refine ev_exit_eq ?_ | refine ev_exit_ne (by decide) ?_ | refine ev_exit_inv ?_ | refine ev_ret_inv ?_ | refine ev_out_inv ?_ | refine rP [0, 1, 2, 4, 5, 7, 8, 10, 11, 13, 15, 16, 17, 18, 21, 22, 23, 24, 32, 33, 34, 35, 41, 46] hc ?_ ?_ | refine rA [0, 1, 2, 4, 5, 7, 8, 10, 11, 13, 15, 16, 17, 18, 21, 22, 23, 24, 32, 33, 34, 35, 41, 46] hc ?_ ?_ | refine rD [0, 1, 2, 4, 5, 7, 8, 10, 11, 13, 15, 16, 17, 18, 21, 22, 23, 24, 32, 33, 34, 35, 41, 46] hc ?_ ?_ | refine rT [0, 1, 2, 4, 5, 7, 8, 10, 11, 13, 15, 16, 17, 18, 21, 22, 23, 24, 32, 33, 34, 35, 41, 46] 1 hc ?_ ?_ | refine rT [0, 1, 2, 4, 5, 7, 8, 10, 11, 13, 15, 16, 17, 18, 21, 22, 23, 24, 32, 33, 34, 35, 41, 46] 2 hc ?_ ?_ | refine rT [0, 1, 2, 4, 5, 7, 8, 10, 11, 13, 15, 16, 17, 18, 21, 22, 23, 24, 32, 33, 34, 35, 41, 46] 3 hc ?_ ?_ | (refine rC (fun hcond => ?_) (fun hcond => ?_) <;> try (cases hcond; done)))
              exact ev_fin hc [.cell 4 25] rfl (.inl rfl) (by simp) (by simp only [retIs, resIs, resV, resLoad, avNames, pureOf, ownOf, go_sem, Nat.reduceEqDiff, reduceCtorEq, Nat.reduceAdd, Nat.reduceSub, Nat.reduceMul, Nat.reduceLeDiff, Nat.reduceLT, Int.reduceLE, Int.reduceToNat, Int.reduceNeg, ↓reduceIte])
end Go.Proofs.Ytfdkpbmofgkaoaa.Fw
