/- Functions of Go's library under graph.canonical: Values, AppendSeq, Collect, SortFunc, SortedFunc, of what is sorted. -/
import Derived.Test.YtfdkpbmofgkaoaaYG2
import Derived.Test.YtfdkpbmofgkaoaaZI
set_option linter.unusedVariables false
set_option linter.unusedSimpArgs false
namespace Go.Proofs.Ytfdkpbmofgkaoaa.Fw
open Go
attribute [local irreducible] Ev
attribute [local go_sem] cx_tb entEnv List.toList_toArray evSeq evG evK vcK guardOf guardT guardB_true guardB_false step1 step0 stepQ takesIn namesParts namesOf namesStore frzAll frz frz1 fixN frzEnv frzObjs drpEnv drpObjs AV.frz AV.frzs AV.drp AV.drps AV.names AV.namess aq qmap qPick qAlloc qBox qBuild qBuildSlice qBuildSlice2 qLoad qLoadB qLoadB2 qLoadE qLoadE2 qLoadE3 qFieldI qOff qPart qField qIndexA qIndex qIndexS qNil qBin qUn qConv qMake qMake2 qSlice qExtract qLen qAppend qAppend2 qAppend3 qMin qMax qCall qCall2 qCall3 qBuiltin qCallee aloud lStoreD lStore lStoreB lStoreB2 lStoreE lStoreE3 lStoreE4 lCallee lBuiltin lAppend lAppend2 lAppend3 lAppend4 opv lk constAV optAV sliceQ bin binI binS zf1 zfs pfs AV.cells nthOff loadB offB storeB notAg fitsT fitsO Ty.cell1 fieldOk partsT partsAg argsT asT asT1 asTs pairO srT castTo_self getF setF getP setP offP offF fldT rvAV rvObj rvAVs rvObjs resAV RV.flat Ty.flat Ty.size St.add upd del fresh Value.oneCell' refZ Ty.dflt sub_all sub_one sub_take sub_end List.take_succ_cons List.take_zero List.length_cons cast0 castS sub_app take_app sub_app1 take_app1 take_one1 natC zero_le_natC i64_min i64_max u64_min u64_max u8_min u8_max inK_i64 inK_u64 inK_u8 Option.map_some Option.map_none Option.bind_some Option.getD_some Option.getD_none Option.isNone_none Option.isNone_some Bool.and_true Bool.true_and Bool.and_false Bool.false_and Bool.not_true Bool.not_false if_true if_false List.length_cons List.length_nil and_true true_and and_self List.all_cons List.all_nil List.append_nil List.nil_append List.cons_append List.getElem?_cons_zero List.getElem?_cons_succ List.getElem?_nil List.map_cons List.map_nil List.set_cons_zero List.set_cons_succ List.isEmpty_nil List.isEmpty_cons decide_true decide_false beq_self_eq_true bne_self_eq_false Nat.zero_add Nat.add_zero Nat.sub_zero Int.toNat_natCast Int.toNat_zero Int.toNat_one List.take_length List.length_append List.length_singleton true_or or_true or_self false_or or_false Ty.agg.injEq Ty.slice.injEq Ty.prod.injEq Ty.int.injEq Option.some.injEq beq_iff_eq evM evMG evMQ opM isPick viewE viewS viewG opTs opTmp consE guardM guardM1 guardM2 sideM sideM2 pickM pickM2 sufB chEq memB dstOf Op.operands Call.operands List.filterMap_cons List.filterMap_nil List.append_eq Bool.cond_false_right Bool.cond_true_left cond_true cond_false implies_true decide_eq_true_eq beq_true beq_false Bool.or_true Bool.or_false Bool.true_or Bool.false_or Option.isSome_some fieldV namesAg namesAgs capNs qClo qClo2 qMakeMap qMakeMap2 qMakeMap3 qLook qLook2 qLook3 qLook4 keyT keyP eqT inB lMapUp lMapUp2 lMapUp3 namesMap argEnv cm_tb List.drop_zero pruneR prune rem1 afterM addDst fgtEnv AV.fgt AV.fgts Obj.fgt restObjs handed memB calleeOf opvs matchArgs matchArg List.any_cons List.any_nil evF evFO evFQ evFK addQ frOk qs List.flatMap_cons List.flatMap_nil List.cons_append tn appN fgtEN List.take_succ_cons List.drop_succ_cons isYl parEnv rangeSt cY_tb marked_tb renOk renIn matchObjs matchEnv matchE matchAV matchAVs matchF matchO
attribute [local go_sem] ty1 ty2 ty3 ty4 ty5 ty9 ty12 ty21 ty22 ty23 ty24 ty25 ty27 ty28 ty29 ty30 ty31 ty32 ty33 ty35 ty36 ty37 ty38 ty39 ty41 ty43 ty44 ty45 ty46 ty47 ty48 ty49 ty50 ty51 ty52 ty53 ty54 ty55 ty56 ty57 ty58 ty59 ty60 ty61 ty62 ty64 ty65 ty66 ty67 ty68 ty69 ty70 ty71 ty72 ty73 ty74 ty75 ty76 ty77 ty79 ty80 ty81 ty83 ty85 ty86 ty87 ty88 ty89 ty90 ty91 ty92 ty93 ty94 ty95 ty96 ty98 ty99 ty101 ty102 ty103 ty104 ty105 ty106 ty107 ty108 ty109 ty111 ty112 ty113 ty114 ty115 ty116 ty117 ty118 ty121 ty122 ty123 ty124 ty125 ty126 ty127 ty128 ty129 ty130 ty131 ty132 ty134 ty135 ty136 ty137 ty138 ty139 ty140 ty141 ty142 ty143 ty145 ty146 ty147 ty148 ty149 ty150 ty151 ty152 ty153 ty154 ty155 ty156 ty157 ty158 ty159 ty160 ty161 ty162 ty163 ty164 ty165 ty167 ty168 ty169 ty170 ty171 ty172 ty173 ty174 ty175 ty176 ty177 ty178 ty179 ty180 ty181 ty182 ty183 ty184 ty185 ty186 ty187 ty188 ty189 ty190 ty191 ty192 ty193 ty194 ty195 ty196 ty197 ty199 ty200 ty201 ty202 ty203 ty204 ty205 ty206 ty207 ty208 ty209 ty210 ty211 ty212 ty214 ty215 ty221 ty224 ty225
set_option maxRecDepth 100000
set_option maxHeartbeats 4000000
theorem loop_eta {L : Go.Loop} (h1 : L.state = .ready) (h2 : L.pending = none) : { { L with state := .busy } with state := .ready, pending := none } = L := by
  cases L; simp_all
theorem values_ok (l : List (Int × Int)) : CallM Try.prog 119 [.p T57 l] [] [] (fun res objs' => res = .clo 132 [1] ∧ objs' = [(1, .box 57 false [.p T57 l])]) := by
  refine fnM_ok Try.func119 (by kernel_rfl) rfl Try.ntmps119 (by simp only [List.length_cons, List.length_nil]; omega) (by kernel_rfl) rfl rfl (tyTab_ok []) fns_nil ?_
  intro w0 K O0 ρ0 hc hok1 hok2
  simp only [argEnv]
  repeat' (first | exact trivial | refine ev_seq ?_ | refine ev_skip ?_ | refine ev_ret ?_ | refine ev_exit ?_ | refine ev_block ?_ | refine ev_out_seq ?_ | refine ev_exit_seq ?_ | refine ev_ret_seq ?_ | refine ev_out_blk ?_ | refine ev_ret_blk ?_ | refine ev_exit_eq ?_ | refine ev_exit_ne (by decide) ?_ | refine ev_exit_inv ?_ | refine ev_ret_inv ?_ | refine ev_out_inv ?_ | refine rP [0, 1, 2] hc ?_ ?_ | refine rA [0, 1, 2] hc ?_ ?_ | refine rD [0, 1, 2] hc ?_ ?_ | refine rT [0, 1, 2] 1 hc ?_ ?_ | refine rT [0, 1, 2] 2 hc ?_ ?_ | refine rT [0, 1, 2] 3 hc ?_ ?_ | (refine rC (fun hcond => ?_) (fun hcond => ?_) <;> try (cases hcond; done)))
  exact ev_finM hc [.tmp 2] rfl (.inl rfl) (.clo 132 [1]) (by simp only [retAV, ret1, retAVs, notAT, resV, resLoad, pureOf, go_sem, Nat.reduceEqDiff, reduceCtorEq, Nat.reduceAdd, Nat.reduceSub, Nat.reduceMul, Nat.reduceLeDiff, Nat.reduceLT, Int.reduceLE, Int.reduceToNat, Int.reduceNeg, ↓reduceIte]) ⟨rfl, rfl⟩
def seqObjs (l : List (Int × Int)) (L : Go.Loop) (tm : Array Value) (i : Nat) : List (Nat × Obj) := [(1, .box 57 false [.p T57 l]), (101, .loop L), (102, .frame tm [(2, .bp 2 [] 0), (6, .clo 132 [1])]), (2, .box 57 false [.sr 7 T61 0 i]), (7, .arr 61 T61 (l.take i))]
theorem values1_ok (l : List (Int × Int)) (hl : l.length ≤ 100000) (L : Go.Loop) (tm : Array Value) (hY : ∀ i, i < l.length → CallY Try.prog 101 [.p T61 (l.getD i (0, 0))] (seqObjs l L tm i) [1, 101, 102, 2] (fun res objs' => res = .p .bool true ∧ objs' = seqObjs l L tm (i + 1))) :
    CallM Try.prog 132 [.yl 101, .bp 1 [] 0] (seqObjs l L tm 0) [1, 101, 102, 2] (fun res objs' => res = .raw (.tuple #[]) ∧ objs' = seqObjs l L tm l.length) := by
  refine fnM_ok Try.func132 (by kernel_rfl) rfl Try.ntmps132 (by simp only [List.length_cons, List.length_nil]; omega) (by kernel_rfl) rfl rfl (tyTab_ok []) fns_nil ?_
  intro w0 K O0 ρ0 hc hok1 hok2
  simp only [argEnv, seqObjs]
  repeat' (first | exact trivial | refine ev_seq ?_ | refine ev_skip ?_ | refine ev_ret ?_ | refine ev_exit ?_ | refine ev_block ?_ | refine ev_out_seq ?_ | refine ev_exit_seq ?_ | refine ev_ret_seq ?_ | refine ev_out_blk ?_ | refine ev_ret_blk ?_ | refine ev_exit_eq ?_ | refine ev_exit_ne (by decide) ?_ | refine ev_exit_inv ?_ | refine ev_ret_inv ?_ | refine ev_out_inv ?_ | refine rP [0, 1, 4, 5, 6, 7, 8, 14] hc ?_ ?_ | refine rA [0, 1, 4, 5, 6, 7, 8, 14] hc ?_ ?_ | refine rD [0, 1, 4, 5, 6, 7, 8, 14] hc ?_ ?_ | refine rT [0, 1, 4, 5, 6, 7, 8, 14] 1 hc ?_ ?_ | refine rT [0, 1, 4, 5, 6, 7, 8, 14] 2 hc ?_ ?_ | refine rT [0, 1, 4, 5, 6, 7, 8, 14] 3 hc ?_ ?_ | (refine rC (fun hcond => ?_) (fun hcond => ?_) <;> try (cases hcond; done)))
  refine ev_loop (ι := {i : Nat // i ≤ l.length}) (fun i => ⟨[(0, .yl 101), (1, .bp 1 [] 0), (5, .p T57 l), (6, .p (.int .i64) (l.length : Int)), (7, .p (.int .i64) (i.1 : Int))], seqObjs l L tm i.1⟩) (fun i => l.length - i.1) ⟨0, by omega⟩ (ent_match [(1, .nm 1), (101, .nm 101), (102, .nm 102), (2, .nm 2), (7, .nm 7)] rfl rfl ?_ ?_) (fun i => ?_)
  · simp only [seqObjs]
    simp only [go_sem, Nat.reduceEqDiff, reduceCtorEq, Nat.reduceAdd, Nat.reduceSub, Nat.reduceMul, Nat.reduceLeDiff, Nat.reduceLT, Int.reduceLE, Int.reduceToNat, Int.reduceNeg, ↓reduceIte]
  · simp only [go_sem, Nat.reduceEqDiff, reduceCtorEq, Nat.reduceAdd, Nat.reduceSub, Nat.reduceMul, Nat.reduceLeDiff, Nat.reduceLT, Int.reduceLE, Int.reduceToNat, Int.reduceNeg, ↓reduceIte]
  · obtain ⟨i, hi⟩ := i
    simp only [seqObjs]
    repeat' (first | exact trivial | refine ev_seq ?_ | refine ev_skip ?_ | refine ev_ret ?_ | refine ev_exit ?_ | refine ev_block ?_ | refine ev_out_seq ?_ | refine ev_exit_seq ?_ | refine ev_ret_seq ?_ | refine ev_out_blk ?_ | refine ev_ret_blk ?_ | refine ev_exit_eq ?_ | refine ev_exit_ne (by decide) ?_ | refine ev_exit_inv ?_ | refine ev_ret_inv ?_ | refine ev_out_inv ?_ | refine rP [0, 1, 4, 5, 6, 7, 8, 14] hc ?_ ?_ | refine rA [0, 1, 4, 5, 6, 7, 8, 14] hc ?_ ?_ | refine rD [0, 1, 4, 5, 6, 7, 8, 14] hc ?_ ?_ | refine rT [0, 1, 4, 5, 6, 7, 8, 14] 1 hc ?_ ?_ | refine rT [0, 1, 4, 5, 6, 7, 8, 14] 2 hc ?_ ?_ | refine rT [0, 1, 4, 5, 6, 7, 8, 14] 3 hc ?_ ?_ | (refine rC (fun hcond => ?_) (fun hcond => ?_) <;> try (cases hcond; done)))
    · ((try dsimp only [Ty.den] at *) <;> (repeat' (first | apply And.intro | intro _)) <;> omega)
    · have hil : i < l.length := by ((try dsimp only [Ty.den] at *) <;> (repeat' (first | apply And.intro | intro _)) <;> omega)
      refine cP 2 hc ?_ ?_
      · trivial
      · refine rY 101 101 hc (hY i hil) [(1, .nm 1), (101, .nm 101), (102, .nm 102), (2, .nm 2), (7, .nm 7)] [7] ?_ ?_ ?_
        · simp only [go_sem, Nat.reduceEqDiff, reduceCtorEq, Nat.reduceAdd, Nat.reduceSub, Nat.reduceMul, Nat.reduceLeDiff, Nat.reduceLT, Int.reduceLE, Int.reduceToNat, Int.reduceNeg, ↓reduceIte]
        · simp only [seqObjs]
          simp only [go_sem, Nat.reduceEqDiff, reduceCtorEq, Nat.reduceAdd, Nat.reduceSub, Nat.reduceMul, Nat.reduceLeDiff, Nat.reduceLT, Int.reduceLE, Int.reduceToNat, Int.reduceNeg, ↓reduceIte]
        · rintro _ _ ⟨rfl, rfl⟩
          refine ⟨[(1, .nm 1), (101, .nm 101), (102, .nm 102), (2, .nm 2), (7, .nm 7)], .p .bool true, seqObjs l L tm (i + 1), rfl, rfl, ?_, ?_, rfl, rfl, ?_⟩
          · simp only [seqObjs]
            simp only [go_sem, Nat.reduceEqDiff, reduceCtorEq, Nat.reduceAdd, Nat.reduceSub, Nat.reduceMul, Nat.reduceLeDiff, Nat.reduceLT, Int.reduceLE, Int.reduceToNat, Int.reduceNeg, ↓reduceIte]
          · simp only [go_sem, Nat.reduceEqDiff, reduceCtorEq, Nat.reduceAdd, Nat.reduceSub, Nat.reduceMul, Nat.reduceLeDiff, Nat.reduceLT, Int.reduceLE, Int.reduceToNat, Int.reduceNeg, ↓reduceIte]
          · simp only [seqObjs]
            refine evLp_all [0, 1, 5, 6, 7, 14] hc (by simp only [go_sem, Nat.reduceEqDiff, reduceCtorEq, Nat.reduceAdd, Nat.reduceSub, Nat.reduceMul, Nat.reduceLeDiff, Nat.reduceLT, Int.reduceLE, Int.reduceToNat, Int.reduceNeg, ↓reduceIte]; rfl) ?_ ?_
            · trivial
            · repeat' (first | exact trivial | refine ev_seq ?_ | refine ev_skip ?_ | refine ev_ret ?_ | refine ev_exit ?_ | refine ev_block ?_ | refine ev_out_seq ?_ | refine ev_exit_seq ?_ | refine ev_ret_seq ?_ | refine ev_out_blk ?_ | refine ev_ret_blk ?_ | refine ev_exit_eq ?_ | refine ev_exit_ne (by decide) ?_ | refine ev_exit_inv ?_ | refine ev_ret_inv ?_ | refine ev_out_inv ?_ | refine rP [0, 1, 4, 5, 6, 7, 8, 14] hc ?_ ?_ | refine rA [0, 1, 4, 5, 6, 7, 8, 14] hc ?_ ?_ | refine rD [0, 1, 4, 5, 6, 7, 8, 14] hc ?_ ?_ | refine rT [0, 1, 4, 5, 6, 7, 8, 14] 1 hc ?_ ?_ | refine rT [0, 1, 4, 5, 6, 7, 8, 14] 2 hc ?_ ?_ | refine rT [0, 1, 4, 5, 6, 7, 8, 14] 3 hc ?_ ?_ | (refine rC (fun hcond => ?_) (fun hcond => ?_) <;> try (cases hcond; done)))
              · ((try dsimp only [Ty.den] at *) <;> (repeat' (first | apply And.intro | intro _)) <;> omega)
              · refine ⟨⟨i + 1, by omega⟩, by simp only; omega, ent_match [(1, .nm 1), (101, .nm 101), (102, .nm 102), (2, .nm 2), (7, .nm 7)] rfl rfl ?_ ?_⟩
                · simp only [seqObjs]
                  simp only [go_sem, Nat.reduceEqDiff, reduceCtorEq, Nat.reduceAdd, Nat.reduceSub, Nat.reduceMul, Nat.reduceLeDiff, Nat.reduceLT, Int.reduceLE, Int.reduceToNat, Int.reduceNeg, ↓reduceIte]
                · simp only [go_sem, Nat.reduceEqDiff, reduceCtorEq, Nat.reduceAdd, Nat.reduceSub, Nat.reduceMul, Nat.reduceLeDiff, Nat.reduceLT, Int.reduceLE, Int.reduceToNat, Int.reduceNeg, ↓reduceIte]
    · have hil : i = l.length := by ((try dsimp only [Ty.den] at *) <;> (repeat' (first | apply And.intro | intro _)) <;> omega)
      subst hil
      refine ev_finM hc [] rfl (.inr rfl) (.raw (.tuple #[])) rfl ⟨rfl, ?_⟩
      simp only [seqObjs, List.take_length]
theorem appendSeq_ok (l : List (Int × Int)) (hl : l.length ≤ 100000) : CallM Try.prog 135 [.raw (.slice none 0 0), .clo 132 [1]] [(1, .box 57 false [.p T57 l])] [] (fun res objs' => res = .sr 7 T61 0 l.length ∧ objs' = [(7, .arr 61 T61 l)]) := by
  refine fnMR_ok Try.func135 (by kernel_rfl) rfl Try.ntmps135 (by simp only [List.length_cons, List.length_nil]; omega) (by kernel_rfl) rfl rfl (tyTab_ok []) fns_nil ?_
  intro w0 K O0 ρ0 hc hok1 hok2
  simp only [argEnv]
  repeat' (first | exact trivial | refine ev_seq ?_ | refine ev_skip ?_ | refine ev_ret ?_ | refine ev_exit ?_ | refine ev_block ?_ | refine ev_out_seq ?_ | refine ev_exit_seq ?_ | refine ev_ret_seq ?_ | refine ev_out_blk ?_ | refine ev_ret_blk ?_ | refine ev_exit_eq ?_ | refine ev_exit_ne (by decide) ?_ | refine ev_exit_inv ?_ | refine ev_ret_inv ?_ | refine ev_out_inv ?_ | refine rP [0, 1, 2, 4, 5, 6, 7] hc ?_ ?_ | refine rA [0, 1, 2, 4, 5, 6, 7] hc ?_ ?_ | refine rD [0, 1, 2, 4, 5, 6, 7] hc ?_ ?_ | refine rT [0, 1, 2, 4, 5, 6, 7] 1 hc ?_ ?_ | refine rT [0, 1, 2, 4, 5, 6, 7] 2 hc ?_ ?_ | refine rT [0, 1, 2, 4, 5, 6, 7] 3 hc ?_ ?_ | (refine rC (fun hcond => ?_) (fun hcond => ?_) <;> try (cases hcond; done)))
  refine ev_range hc rfl rfl (by simp only [go_sem, Nat.reduceEqDiff, reduceCtorEq, Nat.reduceAdd, Nat.reduceSub, Nat.reduceMul, Nat.reduceLeDiff, Nat.reduceLT, Int.reduceLE, Int.reduceToNat, Int.reduceNeg, ↓reduceIte]; rfl) 101 103 102 rfl rfl rfl rfl ?_
  intro L tm hL1 hL2 hL3 hL4 hL5 hL6 htm
  refine ⟨_, seqObjs l L tm 0, [1, 101, 102, 2], _, [(1, .nm 1), (101, .nm 101), (102, .nm 102), (2, .nm 2), (7, .nil)], [], values1_ok l hl L tm ?_, rfl, rfl, ?_, ?_, rfl, ?_⟩
  · intro i hi
    refine callY_ok (fr := 102) rfl rfl hL1 hL4 hL5 hL6 hL3 htm rfl (by kernel_rfl) (by simp) rfl rfl (by kernel_rfl) (by kernel_rfl) (tyTab_ok []) fns_nil ?_
    intro w1 K1 O1 ρ1 lb hc hok3 hok4 hb
    simp only [seqObjs, parEnv]
    repeat' (first | exact trivial | refine ev_seq ?_ | refine ev_skip ?_ | refine ev_ret ?_ | refine ev_exit ?_ | refine ev_block ?_ | refine ev_out_seq ?_ | refine ev_exit_seq ?_ | refine ev_ret_seq ?_ | refine ev_out_blk ?_ | refine ev_ret_blk ?_ | refine ev_exit_eq ?_ | refine ev_exit_ne (by decide) ?_ | refine ev_exit_inv ?_ | refine ev_ret_inv ?_ | refine ev_out_inv ?_ | refine rP [0, 1, 2, 4, 5, 6, 7] hc ?_ ?_ | refine rA [0, 1, 2, 4, 5, 6, 7] hc ?_ ?_ | refine rD [0, 1, 2, 4, 5, 6, 7] hc ?_ ?_ | refine rT [0, 1, 2, 4, 5, 6, 7] 1 hc ?_ ?_ | refine rT [0, 1, 2, 4, 5, 6, 7] 2 hc ?_ ?_ | refine rT [0, 1, 2, 4, 5, 6, 7] 3 hc ?_ ?_ | (refine rC (fun hcond => ?_) (fun hcond => ?_) <;> try (cases hcond; done)))
    refine ⟨rfl, ?_⟩
    repeat' (first | exact trivial | refine ev_seq ?_ | refine ev_skip ?_ | refine ev_ret ?_ | refine ev_exit ?_ | refine ev_block ?_ | refine ev_out_seq ?_ | refine ev_exit_seq ?_ | refine ev_ret_seq ?_ | refine ev_out_blk ?_ | refine ev_ret_blk ?_ | refine ev_exit_eq ?_ | refine ev_exit_ne (by decide) ?_ | refine ev_exit_inv ?_ | refine ev_ret_inv ?_ | refine ev_out_inv ?_ | refine rP [0, 1, 2, 4, 5, 6, 7] hc ?_ ?_ | refine rA [0, 1, 2, 4, 5, 6, 7] hc ?_ ?_ | refine rD [0, 1, 2, 4, 5, 6, 7] hc ?_ ?_ | refine rT [0, 1, 2, 4, 5, 6, 7] 1 hc ?_ ?_ | refine rT [0, 1, 2, 4, 5, 6, 7] 2 hc ?_ ?_ | refine rT [0, 1, 2, 4, 5, 6, 7] 3 hc ?_ ?_ | (refine rC (fun hcond => ?_) (fun hcond => ?_) <;> try (cases hcond; done)))
    · simp only [maxN]; omega
    · have e : List.take i (List.take i l) ++ [((l.getD i (0, 0)).1, (l.getD i (0, 0)).2)] = l.take (i + 1) := by
        rw [take_snoc l (0, 0) hi, List.take_of_length_le (Nat.le_of_eq (by rw [List.length_take]; omega) : (l.take i).length ≤ i)]
      refine Ev.ent (σ' := ⟨[], [(1, .box 57 false [.p T57 l]), (101, .loop { L with state := .busy }), (102, .frame tm [(2, .bp 2 [] 0), (6, .clo 132 [1])]), (2, .box 57 false [.sr 7 T61 0 (i + 1)]), (7, .arr 61 T61 (l.take (i + 1)))]⟩) ?_ (ent_match [(1, .nm 1), (101, .nm 101), (102, .nm 102), (2, .nm 2), (7, .nm 7)] rfl rfl ?_ ?_)
      · refine ev_roundN hc (yn := 101) rfl rfl (by simp) hb ⟨rfl, ?_⟩
        simp only [seqObjs, go_sem, Nat.reduceEqDiff, reduceCtorEq, Nat.reduceAdd, Nat.reduceSub, Nat.reduceMul, Nat.reduceLeDiff, Nat.reduceLT, Int.reduceLE, Int.reduceToNat, Int.reduceNeg, ↓reduceIte, loop_eta hL1 hL2]
      · simp only [go_sem, Nat.reduceEqDiff, reduceCtorEq, Nat.reduceAdd, Nat.reduceSub, Nat.reduceMul, Nat.reduceLeDiff, Nat.reduceLT, Int.reduceLE, Int.reduceToNat, Int.reduceNeg, ↓reduceIte]
        exact e
      · simp only [go_sem, Nat.reduceEqDiff, reduceCtorEq, Nat.reduceAdd, Nat.reduceSub, Nat.reduceMul, Nat.reduceLeDiff, Nat.reduceLT, Int.reduceLE, Int.reduceToNat, Int.reduceNeg, ↓reduceIte]
  · simp only [rangeSt]
    simp only [go_sem, Nat.reduceEqDiff, reduceCtorEq, Nat.reduceAdd, Nat.reduceSub, Nat.reduceMul, Nat.reduceLeDiff, Nat.reduceLT, Int.reduceLE, Int.reduceToNat, Int.reduceNeg, ↓reduceIte]
  · simp only [rangeSt, seqObjs]
    simp only [go_sem, Nat.reduceEqDiff, reduceCtorEq, Nat.reduceAdd, Nat.reduceSub, Nat.reduceMul, Nat.reduceLeDiff, Nat.reduceLT, Int.reduceLE, Int.reduceToNat, Int.reduceNeg, ↓reduceIte]
  · rintro _ _ ⟨rfl, rfl⟩
    refine ⟨[(1, .nm 1), (101, .nm 101), (102, .nm 102), (2, .nm 2), (7, .nm 7)], seqObjs l L tm l.length, L, rfl, rfl, ?_, rfl, rfl, rfl, by rw [hL1]; rfl, ?_⟩
    · simp only [seqObjs]
      simp only [go_sem, Nat.reduceEqDiff, reduceCtorEq, Nat.reduceAdd, Nat.reduceSub, Nat.reduceMul, Nat.reduceLeDiff, Nat.reduceLT, Int.reduceLE, Int.reduceToNat, Int.reduceNeg, ↓reduceIte]
    · intro b
      rw [hL2]
      simp only [EvJ, seqObjs, rangeSt, go_sem, Nat.reduceEqDiff, reduceCtorEq, Nat.reduceAdd, Nat.reduceSub, Nat.reduceMul, Nat.reduceLeDiff, Nat.reduceLT, Int.reduceLE, Int.reduceToNat, Int.reduceNeg, ↓reduceIte]
      replace hc := marked_ok (dn := 103) (b := b) hc
      repeat' (first | exact trivial | refine ev_seq ?_ | refine ev_skip ?_ | refine ev_ret ?_ | refine ev_exit ?_ | refine ev_block ?_ | refine ev_out_seq ?_ | refine ev_exit_seq ?_ | refine ev_ret_seq ?_ | refine ev_out_blk ?_ | refine ev_ret_blk ?_ | refine ev_exit_eq ?_ | refine ev_exit_ne (by decide) ?_ | refine ev_exit_inv ?_ | refine ev_ret_inv ?_ | refine ev_out_inv ?_ | refine rP [0, 1, 2, 4, 5, 6, 7] hc ?_ ?_ | refine rA [0, 1, 2, 4, 5, 6, 7] hc ?_ ?_ | refine rD [0, 1, 2, 4, 5, 6, 7] hc ?_ ?_ | refine rT [0, 1, 2, 4, 5, 6, 7] 1 hc ?_ ?_ | refine rT [0, 1, 2, 4, 5, 6, 7] 2 hc ?_ ?_ | refine rT [0, 1, 2, 4, 5, 6, 7] 3 hc ?_ ?_ | (refine rC (fun hcond => ?_) (fun hcond => ?_) <;> try (cases hcond; done)))
      refine Ev.ent (σ' := ⟨[(4, .sr 7 T61 0 l.length)], [(7, .arr 61 T61 l), (103, .dfr)]⟩) ?_ (ent_match [(7, .nm 7), (103, .nm 103)] rfl rfl ?_ ?_)
      · exact ev_finMR hc [.tmp 4] rfl (.inl rfl) rfl rfl (.sr 7 T61 0 l.length) (by simp only [retAV, ret1, retAVs, notAT, resV, resLoad, pureOf, go_sem, Nat.reduceEqDiff, reduceCtorEq, Nat.reduceAdd, Nat.reduceSub, Nat.reduceMul, Nat.reduceLeDiff, Nat.reduceLT, Int.reduceLE, Int.reduceToNat, Int.reduceNeg, ↓reduceIte]) ⟨rfl, by simp only [go_sem, Nat.reduceEqDiff, reduceCtorEq, Nat.reduceAdd, Nat.reduceSub, Nat.reduceMul, Nat.reduceLeDiff, Nat.reduceLT, Int.reduceLE, Int.reduceToNat, Int.reduceNeg, ↓reduceIte]⟩
      · simp only [go_sem, Nat.reduceEqDiff, reduceCtorEq, Nat.reduceAdd, Nat.reduceSub, Nat.reduceMul, Nat.reduceLeDiff, Nat.reduceLT, Int.reduceLE, Int.reduceToNat, Int.reduceNeg, ↓reduceIte]
      · simp only [go_sem, Nat.reduceEqDiff, reduceCtorEq, Nat.reduceAdd, Nat.reduceSub, Nat.reduceMul, Nat.reduceLeDiff, Nat.reduceLT, Int.reduceLE, Int.reduceToNat, Int.reduceNeg, ↓reduceIte]
theorem collect_ok (l : List (Int × Int)) (hl : l.length ≤ 100000) : CallM Try.prog 130 [.clo 132 [1]] [(1, .box 57 false [.p T57 l])] [] (fun res objs' => res = .sr 7 T61 0 l.length ∧ objs' = [(7, .arr 61 T61 l)]) := by
  refine fnM_ok Try.func130 (by kernel_rfl) rfl Try.ntmps130 (by simp only [List.length_cons, List.length_nil]; omega) (by kernel_rfl) rfl rfl (tyTab_ok []) fns_nil ?_
  intro w0 K O0 ρ0 hc hok1 hok2
  simp only [argEnv]
  repeat' (first | exact trivial | refine ev_seq ?_ | refine ev_skip ?_ | refine ev_ret ?_ | refine ev_exit ?_ | refine ev_block ?_ | refine ev_out_seq ?_ | refine ev_exit_seq ?_ | refine ev_ret_seq ?_ | refine ev_out_blk ?_ | refine ev_ret_blk ?_ | refine ev_exit_eq ?_ | refine ev_exit_ne (by decide) ?_ | refine ev_exit_inv ?_ | refine ev_ret_inv ?_ | refine ev_out_inv ?_ | refine rP [0, 2] hc ?_ ?_ | refine rA [0, 2] hc ?_ ?_ | refine rD [0, 2] hc ?_ ?_ | refine rT [0, 2] 1 hc ?_ ?_ | refine rT [0, 2] 2 hc ?_ ?_ | refine rT [0, 2] 3 hc ?_ ?_ | (refine rC (fun hcond => ?_) (fun hcond => ?_) <;> try (cases hcond; done)))
  refine cP 1 hc ?_ ?_
  · trivial
  · refine rM hc (appendSeq_ok l hl) [(1, .nm 1)] [1] ?_ ?_ ?_
    · simp only [go_sem, Nat.reduceEqDiff, reduceCtorEq, Nat.reduceAdd, Nat.reduceSub, Nat.reduceMul, Nat.reduceLeDiff, Nat.reduceLT, Int.reduceLE, Int.reduceToNat, Int.reduceNeg, ↓reduceIte]
    · simp only [go_sem, Nat.reduceEqDiff, reduceCtorEq, Nat.reduceAdd, Nat.reduceSub, Nat.reduceMul, Nat.reduceLeDiff, Nat.reduceLT, Int.reduceLE, Int.reduceToNat, Int.reduceNeg, ↓reduceIte]
    · rintro _ _ ⟨rfl, rfl⟩
      refine ⟨[(7, .nm 7)], .sr 7 T61 0 l.length, [(7, .arr 61 T61 l)], rfl, rfl, ?_, ?_, rfl, rfl, ?_⟩
      · simp only [go_sem, Nat.reduceEqDiff, reduceCtorEq, Nat.reduceAdd, Nat.reduceSub, Nat.reduceMul, Nat.reduceLeDiff, Nat.reduceLT, Int.reduceLE, Int.reduceToNat, Int.reduceNeg, ↓reduceIte]
      · simp only [go_sem, Nat.reduceEqDiff, reduceCtorEq, Nat.reduceAdd, Nat.reduceSub, Nat.reduceMul, Nat.reduceLeDiff, Nat.reduceLT, Int.reduceLE, Int.reduceToNat, Int.reduceNeg, ↓reduceIte]
      · refine evLp_all [2] hc (by simp only [go_sem, Nat.reduceEqDiff, reduceCtorEq, Nat.reduceAdd, Nat.reduceSub, Nat.reduceMul, Nat.reduceLeDiff, Nat.reduceLT, Int.reduceLE, Int.reduceToNat, Int.reduceNeg, ↓reduceIte]; rfl) ?_ ?_
        · trivial
        · repeat' (first | exact trivial | refine ev_seq ?_ | refine ev_skip ?_ | refine ev_ret ?_ | refine ev_exit ?_ | refine ev_block ?_ | refine ev_out_seq ?_ | refine ev_exit_seq ?_ | refine ev_ret_seq ?_ | refine ev_out_blk ?_ | refine ev_ret_blk ?_ | refine ev_exit_eq ?_ | refine ev_exit_ne (by decide) ?_ | refine ev_exit_inv ?_ | refine ev_ret_inv ?_ | refine ev_out_inv ?_ | refine rP [0, 2] hc ?_ ?_ | refine rA [0, 2] hc ?_ ?_ | refine rD [0, 2] hc ?_ ?_ | refine rT [0, 2] 1 hc ?_ ?_ | refine rT [0, 2] 2 hc ?_ ?_ | refine rT [0, 2] 3 hc ?_ ?_ | (refine rC (fun hcond => ?_) (fun hcond => ?_) <;> try (cases hcond; done)))
          exact ev_finM hc [.tmp 2] rfl (.inl rfl) (.sr 7 T61 0 l.length) (by simp only [retAV, ret1, retAVs, notAT, resV, resLoad, pureOf, go_sem, Nat.reduceEqDiff, reduceCtorEq, Nat.reduceAdd, Nat.reduceSub, Nat.reduceMul, Nat.reduceLeDiff, Nat.reduceLT, Int.reduceLE, Int.reduceToNat, Int.reduceNeg, ↓reduceIte]) ⟨rfl, rfl⟩
theorem len64_ok (x : Int) (h0 : 0 ≤ x) (h1 : x < 256) : CallM Try.prog 150 [.p (.int .u64) x] [] [] (fun res objs' => (∃ n : Int, res = .p T3 n) ∧ objs' = []) := by
  refine fnM_ok Try.func150 (by kernel_rfl) rfl Try.ntmps150 (by simp only [List.length_cons, List.length_nil]; omega) (by kernel_rfl) rfl rfl (tyTab_ok []) fns_nil ?_
  intro w0 K O0 ρ0 hc hok1 hok2
  simp only [argEnv]
  repeat' (first | exact trivial | refine ev_seq ?_ | refine ev_skip ?_ | refine ev_ret ?_ | refine ev_exit ?_ | refine ev_block ?_ | refine ev_out_seq ?_ | refine ev_exit_seq ?_ | refine ev_ret_seq ?_ | refine ev_out_blk ?_ | refine ev_ret_blk ?_ | refine ev_exit_eq ?_ | refine ev_exit_ne (by decide) ?_ | refine ev_exit_inv ?_ | refine ev_ret_inv ?_ | refine ev_out_inv ?_ | refine rP [0, 2, 4, 8, 14] hc ?_ ?_ | refine rA [0, 2, 4, 8, 14] hc ?_ ?_ | refine rD [0, 2, 4, 8, 14] hc ?_ ?_ | refine rT [0, 2, 4, 8, 14] 1 hc ?_ ?_ | refine rT [0, 2, 4, 8, 14] 2 hc ?_ ?_ | refine rT [0, 2, 4, 8, 14] 3 hc ?_ ?_ | (refine rC (fun hcond => ?_) (fun hcond => ?_) <;> try (cases hcond; done)))
  all_goals first | (exfalso; omega) | skip
  refine evp_regionP [0, 2] hc rfl (by simp only [go_sem, Nat.reduceEqDiff, reduceCtorEq, Nat.reduceAdd, Nat.reduceSub, Nat.reduceMul, Nat.reduceLeDiff, Nat.reduceLT, Int.reduceLE, Int.reduceToNat, Int.reduceNeg, ↓reduceIte, ByteArray.size, List.size_toArray, maxN]; rfl) ?_ ?_
  · have hu : ∀ u : UInt8, ((u.toNat : Nat) : Int) ≤ 255 := fun u => by have := u.toNat_lt; omega
    refine ⟨⟨h0, by omega⟩, ⟨h0, ?_⟩, ⟨?_, ?_⟩, ?_, ?_⟩
    · have h2 : x < ((256 : Nat) : Int) := h1
      exact h2
    · exact Int.le_trans (by decide) (Int.natCast_nonneg _)
    · exact Int.le_trans (hu _) (by decide)
    · rw [Int.zero_add]; exact Int.le_trans (by decide) (Int.natCast_nonneg _)
    · rw [Int.zero_add]; exact Int.le_trans (hu _) (by decide)
  · repeat' (first | exact trivial | refine ev_seq ?_ | refine ev_skip ?_ | refine ev_ret ?_ | refine ev_exit ?_ | refine ev_block ?_ | refine ev_out_seq ?_ | refine ev_exit_seq ?_ | refine ev_ret_seq ?_ | refine ev_out_blk ?_ | refine ev_ret_blk ?_ | refine ev_exit_eq ?_ | refine ev_exit_ne (by decide) ?_ | refine ev_exit_inv ?_ | refine ev_ret_inv ?_ | refine ev_out_inv ?_ | refine rP [0, 2, 4, 8, 14] hc ?_ ?_ | refine rA [0, 2, 4, 8, 14] hc ?_ ?_ | refine rD [0, 2, 4, 8, 14] hc ?_ ?_ | refine rT [0, 2, 4, 8, 14] 1 hc ?_ ?_ | refine rT [0, 2, 4, 8, 14] 2 hc ?_ ?_ | refine rT [0, 2, 4, 8, 14] 3 hc ?_ ?_ | (refine rC (fun hcond => ?_) (fun hcond => ?_) <;> try (cases hcond; done)))
    exact ev_finM hc [.tmp 2] rfl (.inl rfl) (.p T3 _) (by simp only [retAV, ret1, retAVs, notAT, resV, resLoad, pureOf, go_sem, Nat.reduceEqDiff, reduceCtorEq, Nat.reduceAdd, Nat.reduceSub, Nat.reduceMul, Nat.reduceLeDiff, Nat.reduceLT, Int.reduceLE, Int.reduceToNat, Int.reduceNeg, ↓reduceIte]; rfl) ⟨⟨_, rfl⟩, rfl⟩
theorem len_ok (x : Int) (h0 : 0 ≤ x) (h1 : x < 256) : CallM Try.prog 137 [.p (.int .u64) x] [] [] (fun res objs' => (∃ n : Int, res = .p T3 n) ∧ objs' = []) := by
  refine fnM_ok Try.func137 (by kernel_rfl) rfl Try.ntmps137 (by simp only [List.length_cons, List.length_nil]; omega) (by kernel_rfl) rfl rfl (tyTab_ok []) fns_nil ?_
  intro w0 K O0 ρ0 hc hok1 hok2
  simp only [argEnv]
  repeat' (first | exact trivial | refine ev_seq ?_ | refine ev_skip ?_ | refine ev_ret ?_ | refine ev_exit ?_ | refine ev_block ?_ | refine ev_out_seq ?_ | refine ev_exit_seq ?_ | refine ev_ret_seq ?_ | refine ev_out_blk ?_ | refine ev_ret_blk ?_ | refine ev_exit_eq ?_ | refine ev_exit_ne (by decide) ?_ | refine ev_exit_inv ?_ | refine ev_ret_inv ?_ | refine ev_out_inv ?_ | refine rP [0, 2] hc ?_ ?_ | refine rA [0, 2] hc ?_ ?_ | refine rD [0, 2] hc ?_ ?_ | refine rT [0, 2] 1 hc ?_ ?_ | refine rT [0, 2] 2 hc ?_ ?_ | refine rT [0, 2] 3 hc ?_ ?_ | (refine rC (fun hcond => ?_) (fun hcond => ?_) <;> try (cases hcond; done)))
  refine cP 1 hc ?_ ?_
  · trivial
  · refine rM hc (len64_ok x h0 h1) [] [] ?_ ?_ ?_
    · simp only [go_sem, Nat.reduceEqDiff, reduceCtorEq, Nat.reduceAdd, Nat.reduceSub, Nat.reduceMul, Nat.reduceLeDiff, Nat.reduceLT, Int.reduceLE, Int.reduceToNat, Int.reduceNeg, ↓reduceIte]
    · simp only [go_sem, Nat.reduceEqDiff, reduceCtorEq, Nat.reduceAdd, Nat.reduceSub, Nat.reduceMul, Nat.reduceLeDiff, Nat.reduceLT, Int.reduceLE, Int.reduceToNat, Int.reduceNeg, ↓reduceIte]
    · rintro _ _ ⟨⟨n, rfl⟩, rfl⟩
      refine ⟨[], .p T3 n, [], rfl, rfl, ?_, ?_, rfl, rfl, ?_⟩
      · simp only [go_sem, Nat.reduceEqDiff, reduceCtorEq, Nat.reduceAdd, Nat.reduceSub, Nat.reduceMul, Nat.reduceLeDiff, Nat.reduceLT, Int.reduceLE, Int.reduceToNat, Int.reduceNeg, ↓reduceIte]
      · simp only [go_sem, Nat.reduceEqDiff, reduceCtorEq, Nat.reduceAdd, Nat.reduceSub, Nat.reduceMul, Nat.reduceLeDiff, Nat.reduceLT, Int.reduceLE, Int.reduceToNat, Int.reduceNeg, ↓reduceIte]
      · refine evLp_all [2] hc (by simp only [go_sem, Nat.reduceEqDiff, reduceCtorEq, Nat.reduceAdd, Nat.reduceSub, Nat.reduceMul, Nat.reduceLeDiff, Nat.reduceLT, Int.reduceLE, Int.reduceToNat, Int.reduceNeg, ↓reduceIte]; rfl) ?_ ?_
        · trivial
        · repeat' (first | exact trivial | refine ev_seq ?_ | refine ev_skip ?_ | refine ev_ret ?_ | refine ev_exit ?_ | refine ev_block ?_ | refine ev_out_seq ?_ | refine ev_exit_seq ?_ | refine ev_ret_seq ?_ | refine ev_out_blk ?_ | refine ev_ret_blk ?_ | refine ev_exit_eq ?_ | refine ev_exit_ne (by decide) ?_ | refine ev_exit_inv ?_ | refine ev_ret_inv ?_ | refine ev_out_inv ?_ | refine rP [0, 2] hc ?_ ?_ | refine rA [0, 2] hc ?_ ?_ | refine rD [0, 2] hc ?_ ?_ | refine rT [0, 2] 1 hc ?_ ?_ | refine rT [0, 2] 2 hc ?_ ?_ | refine rT [0, 2] 3 hc ?_ ?_ | (refine rC (fun hcond => ?_) (fun hcond => ?_) <;> try (cases hcond; done)))
          exact ev_finM hc [.tmp 2] rfl (.inl rfl) (.p T3 n) (by simp only [retAV, ret1, retAVs, notAT, resV, resLoad, pureOf, go_sem, Nat.reduceEqDiff, reduceCtorEq, Nat.reduceAdd, Nat.reduceSub, Nat.reduceMul, Nat.reduceLeDiff, Nat.reduceLT, Int.reduceLE, Int.reduceToNat, Int.reduceNeg, ↓reduceIte]) ⟨⟨_, rfl⟩, rfl⟩
theorem sortFunc_ok (l : List (Int × Int)) (hl : l.length ≤ 12) (hs : SrtA l) : CallM Try.prog 131 [.sr 1000000 T61 0 l.length, .fn 120] [(1000000, .arr 61 T61 l)] [1000000] (fun res objs' => res = .raw (.tuple #[]) ∧ objs' = [(1000000, .arr 61 T61 l)]) := by
  refine fnM_ok Try.func131 (by kernel_rfl) rfl Try.ntmps131 (by simp only [List.length_cons, List.length_nil]; omega) (by kernel_rfl) rfl rfl (tyTab_ok []) fns_nil ?_
  intro w0 K O0 ρ0 hc hok1 hok2
  simp only [argEnv]
  repeat' (first | exact trivial | refine ev_seq ?_ | refine ev_skip ?_ | refine ev_ret ?_ | refine ev_exit ?_ | refine ev_block ?_ | refine ev_out_seq ?_ | refine ev_exit_seq ?_ | refine ev_ret_seq ?_ | refine ev_out_blk ?_ | refine ev_ret_blk ?_ | refine ev_exit_eq ?_ | refine ev_exit_ne (by decide) ?_ | refine ev_exit_inv ?_ | refine ev_ret_inv ?_ | refine ev_out_inv ?_ | refine rP [0, 1, 4] hc ?_ ?_ | refine rA [0, 1, 4] hc ?_ ?_ | refine rD [0, 1, 4] hc ?_ ?_ | refine rT [0, 1, 4] 1 hc ?_ ?_ | refine rT [0, 1, 4] 2 hc ?_ ?_ | refine rT [0, 1, 4] 3 hc ?_ ?_ | (refine rC (fun hcond => ?_) (fun hcond => ?_) <;> try (cases hcond; done)))
  refine cP 4 hc ?_ ?_
  · ((try dsimp only [Ty.den] at *) <;> (repeat' (first | apply And.intro | intro _)) <;> omega)
  · refine rM hc (len_ok (l.length : Int) (by omega) (by omega)) [] [] ?_ ?_ ?_
    · simp only [go_sem, Nat.reduceEqDiff, reduceCtorEq, Nat.reduceAdd, Nat.reduceSub, Nat.reduceMul, Nat.reduceLeDiff, Nat.reduceLT, Int.reduceLE, Int.reduceToNat, Int.reduceNeg, ↓reduceIte]
    · simp only [go_sem, Nat.reduceEqDiff, reduceCtorEq, Nat.reduceAdd, Nat.reduceSub, Nat.reduceMul, Nat.reduceLeDiff, Nat.reduceLT, Int.reduceLE, Int.reduceToNat, Int.reduceNeg, ↓reduceIte]
    · rintro _ _ ⟨⟨n, rfl⟩, rfl⟩
      refine ⟨[], .p T3 n, [], rfl, rfl, ?_, ?_, rfl, rfl, ?_⟩
      · simp only [go_sem, Nat.reduceEqDiff, reduceCtorEq, Nat.reduceAdd, Nat.reduceSub, Nat.reduceMul, Nat.reduceLeDiff, Nat.reduceLT, Int.reduceLE, Int.reduceToNat, Int.reduceNeg, ↓reduceIte]
      · simp only [go_sem, Nat.reduceEqDiff, reduceCtorEq, Nat.reduceAdd, Nat.reduceSub, Nat.reduceMul, Nat.reduceLeDiff, Nat.reduceLT, Int.reduceLE, Int.reduceToNat, Int.reduceNeg, ↓reduceIte]
      · refine evL_seq hc 1 (by simp only [go_sem, Nat.reduceEqDiff, reduceCtorEq, Nat.reduceAdd, Nat.reduceSub, Nat.reduceMul, Nat.reduceLeDiff, Nat.reduceLT, Int.reduceLE, Int.reduceToNat, Int.reduceNeg, ↓reduceIte]; rfl) ?_ ?_
        · trivial
        · refine rM hc (pdq_ok l n hl hs) [(1000000, .nm 1000000)] [] ?_ ?_ ?_
          · simp only [go_sem, Nat.reduceEqDiff, reduceCtorEq, Nat.reduceAdd, Nat.reduceSub, Nat.reduceMul, Nat.reduceLeDiff, Nat.reduceLT, Int.reduceLE, Int.reduceToNat, Int.reduceNeg, ↓reduceIte]
          · simp only [go_sem, Nat.reduceEqDiff, reduceCtorEq, Nat.reduceAdd, Nat.reduceSub, Nat.reduceMul, Nat.reduceLeDiff, Nat.reduceLT, Int.reduceLE, Int.reduceToNat, Int.reduceNeg, ↓reduceIte]
          · rintro _ _ ⟨rfl, rfl⟩
            refine ⟨[(1000000, .nm 1000000)], .raw (.tuple #[]), [(1000000, .arr 61 T61 l)], rfl, rfl, ?_, ?_, rfl, rfl, evL_end ?_⟩
            · simp only [go_sem, Nat.reduceEqDiff, reduceCtorEq, Nat.reduceAdd, Nat.reduceSub, Nat.reduceMul, Nat.reduceLeDiff, Nat.reduceLT, Int.reduceLE, Int.reduceToNat, Int.reduceNeg, ↓reduceIte]
            · simp only [go_sem, Nat.reduceEqDiff, reduceCtorEq, Nat.reduceAdd, Nat.reduceSub, Nat.reduceMul, Nat.reduceLeDiff, Nat.reduceLT, Int.reduceLE, Int.reduceToNat, Int.reduceNeg, ↓reduceIte]
            · repeat' (first | exact trivial | refine ev_seq ?_ | refine ev_skip ?_ | refine ev_ret ?_ | refine ev_exit ?_ | refine ev_block ?_ | refine ev_out_seq ?_ | refine ev_exit_seq ?_ | refine ev_ret_seq ?_ | refine ev_out_blk ?_ | refine ev_ret_blk ?_ | refine ev_exit_eq ?_ | refine ev_exit_ne (by decide) ?_ | refine ev_exit_inv ?_ | refine ev_ret_inv ?_ | refine ev_out_inv ?_ | refine rP [0, 1, 4] hc ?_ ?_ | refine rA [0, 1, 4] hc ?_ ?_ | refine rD [0, 1, 4] hc ?_ ?_ | refine rT [0, 1, 4] 1 hc ?_ ?_ | refine rT [0, 1, 4] 2 hc ?_ ?_ | refine rT [0, 1, 4] 3 hc ?_ ?_ | (refine rC (fun hcond => ?_) (fun hcond => ?_) <;> try (cases hcond; done)))
              exact ev_finM hc [] rfl (.inr rfl) (.raw (.tuple #[])) rfl ⟨rfl, rfl⟩
theorem sortedFunc_ok (l : List (Int × Int)) (hl : l.length ≤ 12) (hs : SrtA l) : CallM Try.prog 118 [.clo 132 [1], .fn 120] [(1, .box 57 false [.p T57 l])] [] (fun res objs' => res = .sr 7 T61 0 l.length ∧ objs' = [(7, .arr 61 T61 l)]) := by
  refine fnM_ok Try.func118 (by kernel_rfl) rfl Try.ntmps118 (by simp only [List.length_cons, List.length_nil]; omega) (by kernel_rfl) rfl rfl (tyTab_ok []) fns_nil ?_
  intro w0 K O0 ρ0 hc hok1 hok2
  simp only [argEnv]
  repeat' (first | exact trivial | refine ev_seq ?_ | refine ev_skip ?_ | refine ev_ret ?_ | refine ev_exit ?_ | refine ev_block ?_ | refine ev_out_seq ?_ | refine ev_exit_seq ?_ | refine ev_ret_seq ?_ | refine ev_out_blk ?_ | refine ev_ret_blk ?_ | refine ev_exit_eq ?_ | refine ev_exit_ne (by decide) ?_ | refine ev_exit_inv ?_ | refine ev_ret_inv ?_ | refine ev_out_inv ?_ | refine rP [0, 1, 4, 5] hc ?_ ?_ | refine rA [0, 1, 4, 5] hc ?_ ?_ | refine rD [0, 1, 4, 5] hc ?_ ?_ | refine rT [0, 1, 4, 5] 1 hc ?_ ?_ | refine rT [0, 1, 4, 5] 2 hc ?_ ?_ | refine rT [0, 1, 4, 5] 3 hc ?_ ?_ | (refine rC (fun hcond => ?_) (fun hcond => ?_) <;> try (cases hcond; done)))
  refine cP 1 hc ?_ ?_
  · trivial
  · refine rM hc (collect_ok l (by omega)) [(1, .nm 1)] [1] ?_ ?_ ?_
    · simp only [go_sem, Nat.reduceEqDiff, reduceCtorEq, Nat.reduceAdd, Nat.reduceSub, Nat.reduceMul, Nat.reduceLeDiff, Nat.reduceLT, Int.reduceLE, Int.reduceToNat, Int.reduceNeg, ↓reduceIte]
    · simp only [go_sem, Nat.reduceEqDiff, reduceCtorEq, Nat.reduceAdd, Nat.reduceSub, Nat.reduceMul, Nat.reduceLeDiff, Nat.reduceLT, Int.reduceLE, Int.reduceToNat, Int.reduceNeg, ↓reduceIte]
    · rintro _ _ ⟨rfl, rfl⟩
      refine ⟨[(1000000, .nm 7)], .sr 1000000 T61 0 l.length, [(1000000, .arr 61 T61 l)], rfl, rfl, ?_, ?_, rfl, rfl, ?_⟩
      · simp only [go_sem, Nat.reduceEqDiff, reduceCtorEq, Nat.reduceAdd, Nat.reduceSub, Nat.reduceMul, Nat.reduceLeDiff, Nat.reduceLT, Int.reduceLE, Int.reduceToNat, Int.reduceNeg, ↓reduceIte]
      · simp only [go_sem, Nat.reduceEqDiff, reduceCtorEq, Nat.reduceAdd, Nat.reduceSub, Nat.reduceMul, Nat.reduceLeDiff, Nat.reduceLT, Int.reduceLE, Int.reduceToNat, Int.reduceNeg, ↓reduceIte]
      · refine evLp_all [1, 5] hc (by simp only [go_sem, Nat.reduceEqDiff, reduceCtorEq, Nat.reduceAdd, Nat.reduceSub, Nat.reduceMul, Nat.reduceLeDiff, Nat.reduceLT, Int.reduceLE, Int.reduceToNat, Int.reduceNeg, ↓reduceIte]; rfl) ?_ ?_
        · trivial
        · repeat' (first | exact trivial | refine ev_seq ?_ | refine ev_skip ?_ | refine ev_ret ?_ | refine ev_exit ?_ | refine ev_block ?_ | refine ev_out_seq ?_ | refine ev_exit_seq ?_ | refine ev_ret_seq ?_ | refine ev_out_blk ?_ | refine ev_ret_blk ?_ | refine ev_exit_eq ?_ | refine ev_exit_ne (by decide) ?_ | refine ev_exit_inv ?_ | refine ev_ret_inv ?_ | refine ev_out_inv ?_ | refine rP [0, 1, 4, 5] hc ?_ ?_ | refine rA [0, 1, 4, 5] hc ?_ ?_ | refine rD [0, 1, 4, 5] hc ?_ ?_ | refine rT [0, 1, 4, 5] 1 hc ?_ ?_ | refine rT [0, 1, 4, 5] 2 hc ?_ ?_ | refine rT [0, 1, 4, 5] 3 hc ?_ ?_ | (refine rC (fun hcond => ?_) (fun hcond => ?_) <;> try (cases hcond; done)))
          refine cP 2 hc ?_ ?_
          · trivial
          · refine rM hc (sortFunc_ok l hl hs) [(1000000, .nm 1000000)] [] ?_ ?_ ?_
            · simp only [go_sem, Nat.reduceEqDiff, reduceCtorEq, Nat.reduceAdd, Nat.reduceSub, Nat.reduceMul, Nat.reduceLeDiff, Nat.reduceLT, Int.reduceLE, Int.reduceToNat, Int.reduceNeg, ↓reduceIte]
            · simp only [go_sem, Nat.reduceEqDiff, reduceCtorEq, Nat.reduceAdd, Nat.reduceSub, Nat.reduceMul, Nat.reduceLeDiff, Nat.reduceLT, Int.reduceLE, Int.reduceToNat, Int.reduceNeg, ↓reduceIte]
            · rintro _ _ ⟨rfl, rfl⟩
              refine ⟨[(1000000, .nm 1000000)], .raw (.tuple #[]), [(1000000, .arr 61 T61 l)], rfl, rfl, ?_, ?_, rfl, rfl, evL_end ?_⟩
              · simp only [go_sem, Nat.reduceEqDiff, reduceCtorEq, Nat.reduceAdd, Nat.reduceSub, Nat.reduceMul, Nat.reduceLeDiff, Nat.reduceLT, Int.reduceLE, Int.reduceToNat, Int.reduceNeg, ↓reduceIte]
              · simp only [go_sem, Nat.reduceEqDiff, reduceCtorEq, Nat.reduceAdd, Nat.reduceSub, Nat.reduceMul, Nat.reduceLeDiff, Nat.reduceLT, Int.reduceLE, Int.reduceToNat, Int.reduceNeg, ↓reduceIte]
              · repeat' (first | exact trivial | refine ev_seq ?_ | refine ev_skip ?_ | refine ev_ret ?_ | refine ev_exit ?_ | refine ev_block ?_ | refine ev_out_seq ?_ | refine ev_exit_seq ?_ | refine ev_ret_seq ?_ | refine ev_out_blk ?_ | refine ev_ret_blk ?_ | refine ev_exit_eq ?_ | refine ev_exit_ne (by decide) ?_ | refine ev_exit_inv ?_ | refine ev_ret_inv ?_ | refine ev_out_inv ?_ | refine rP [0, 1, 4, 5] hc ?_ ?_ | refine rA [0, 1, 4, 5] hc ?_ ?_ | refine rD [0, 1, 4, 5] hc ?_ ?_ | refine rT [0, 1, 4, 5] 1 hc ?_ ?_ | refine rT [0, 1, 4, 5] 2 hc ?_ ?_ | refine rT [0, 1, 4, 5] 3 hc ?_ ?_ | (refine rC (fun hcond => ?_) (fun hcond => ?_) <;> try (cases hcond; done)))
                refine Ev.ent (σ' := ⟨[(4, .sr 7 T61 0 l.length)], [(7, .arr 61 T61 l)]⟩) ?_ (ent_match [(7, .nm 1000000)] rfl rfl ?_ ?_)
                · exact ev_finM hc [.tmp 4] rfl (.inl rfl) (.sr 7 T61 0 l.length) (by simp only [retAV, ret1, retAVs, notAT, resV, resLoad, pureOf, go_sem, Nat.reduceEqDiff, reduceCtorEq, Nat.reduceAdd, Nat.reduceSub, Nat.reduceMul, Nat.reduceLeDiff, Nat.reduceLT, Int.reduceLE, Int.reduceToNat, Int.reduceNeg, ↓reduceIte]) ⟨rfl, rfl⟩
                · simp only [go_sem, Nat.reduceEqDiff, reduceCtorEq, Nat.reduceAdd, Nat.reduceSub, Nat.reduceMul, Nat.reduceLeDiff, Nat.reduceLT, Int.reduceLE, Int.reduceToNat, Int.reduceNeg, ↓reduceIte]
                · simp only [go_sem, Nat.reduceEqDiff, reduceCtorEq, Nat.reduceAdd, Nat.reduceSub, Nat.reduceMul, Nat.reduceLeDiff, Nat.reduceLT, Int.reduceLE, Int.reduceToNat, Int.reduceNeg, ↓reduceIte]
end Go.Proofs.Ytfdkpbmofgkaoaa.Fw
