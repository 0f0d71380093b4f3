/- Functions of graph: canonical's search. -/
import Derived.Test.YtfdkpbmofgkaoaaYG3
import Derived.Test.YtfdkpbmofgkaoaaYG4
set_option linter.unusedVariables false
set_option linter.unusedSimpArgs false
namespace Go.Proofs.Ytfdkpbmofgkaoaa.Fw
open Go
attribute [local irreducible] Ev
attribute [local go_sem] cx_tb entEnv List.toList_toArray evSeq evG evK vcK guardOf guardT guardB_true guardB_false step1 step0 stepQ takesIn namesParts namesOf namesStore frzAll frz frz1 fixN frzEnv frzObjs drpEnv drpObjs AV.frz AV.frzs AV.drp AV.drps AV.names AV.namess aq qmap qPick qAlloc qBox qBuild qBuildSlice qBuildSlice2 qLoad qLoadB qLoadB2 qLoadE qLoadE2 qLoadE3 qFieldI qOff qPart qField qIndexA qIndex qIndexS qNil qBin qUn qConv qMake qMake2 qSlice qExtract qLen qAppend qAppend2 qAppend3 qMin qMax qCall qCall2 qCall3 qBuiltin qCallee aloud lStoreD lStore lStoreB lStoreB2 lStoreE lStoreE3 lStoreE4 lCallee lBuiltin lAppend lAppend2 lAppend3 lAppend4 opv lk constAV optAV sliceQ bin binI binS zf1 zfs pfs AV.cells nthOff loadB offB storeB notAg fitsT fitsO Ty.cell1 fieldOk partsT partsAg argsT asT asT1 asTs pairO srT castTo_self getF setF getP setP offP offF fldT rvAV rvObj rvAVs rvObjs resAV RV.flat Ty.flat Ty.size St.add upd del fresh Value.oneCell' refZ Ty.dflt sub_all sub_one sub_take sub_end List.take_succ_cons List.take_zero List.length_cons cast0 castS sub_app take_app sub_app1 take_app1 take_one1 natC zero_le_natC i64_min i64_max u64_min u64_max u8_min u8_max inK_i64 inK_u64 inK_u8 Option.map_some Option.map_none Option.bind_some Option.getD_some Option.getD_none Option.isNone_none Option.isNone_some Bool.and_true Bool.true_and Bool.and_false Bool.false_and Bool.not_true Bool.not_false if_true if_false List.length_cons List.length_nil and_true true_and and_self List.all_cons List.all_nil List.append_nil List.nil_append List.cons_append List.getElem?_cons_zero List.getElem?_cons_succ List.getElem?_nil List.map_cons List.map_nil List.set_cons_zero List.set_cons_succ List.isEmpty_nil List.isEmpty_cons decide_true decide_false beq_self_eq_true bne_self_eq_false Nat.zero_add Nat.add_zero Nat.sub_zero Int.toNat_natCast Int.toNat_zero Int.toNat_one List.take_length List.length_append List.length_singleton true_or or_true or_self false_or or_false Ty.agg.injEq Ty.slice.injEq Ty.prod.injEq Ty.int.injEq Option.some.injEq beq_iff_eq evM evMG evMQ opM isPick viewE viewS viewG opTs opTmp consE guardM guardM1 guardM2 sideM sideM2 pickM pickM2 sufB chEq memB dstOf Op.operands Call.operands List.filterMap_cons List.filterMap_nil List.append_eq Bool.cond_false_right Bool.cond_true_left cond_true cond_false implies_true decide_eq_true_eq beq_true beq_false Bool.or_true Bool.or_false Bool.true_or Bool.false_or Option.isSome_some fieldV namesAg namesAgs capNs qClo qClo2 qMakeMap qMakeMap2 qMakeMap3 qLook qLook2 qLook3 qLook4 keyT keyP eqT inB lMapUp lMapUp2 lMapUp3 namesMap argEnv cm_tb List.drop_zero pruneR prune rem1 afterM addDst fgtEnv AV.fgt AV.fgts Obj.fgt restObjs handed memB calleeOf opvs matchArgs matchArg List.any_cons List.any_nil evF evFO evFQ evFK addQ frOk qs List.flatMap_cons List.flatMap_nil List.cons_append tn appN fgtEN List.take_succ_cons List.drop_succ_cons isYl parEnv rangeSt cY_tb marked_tb renOk renIn matchObjs matchEnv matchE matchAV matchAVs matchF matchO
attribute [local go_sem] ty1 ty2 ty3 ty4 ty5 ty9 ty12 ty21 ty22 ty23 ty24 ty25 ty27 ty28 ty29 ty30 ty31 ty32 ty33 ty35 ty36 ty37 ty38 ty39 ty41 ty43 ty44 ty45 ty46 ty47 ty48 ty49 ty50 ty51 ty52 ty53 ty54 ty55 ty56 ty57 ty58 ty59 ty60 ty61 ty62 ty64 ty65 ty66 ty67 ty68 ty69 ty70 ty71 ty72 ty73 ty74 ty75 ty76 ty77 ty79 ty80 ty81 ty83 ty85 ty86 ty87 ty88 ty89 ty90 ty91 ty92 ty93 ty94 ty95 ty96 ty98 ty99 ty101 ty102 ty103 ty104 ty105 ty106 ty107 ty108 ty109 ty111 ty112 ty113 ty114 ty115 ty116 ty117 ty118 ty121 ty122 ty123 ty124 ty125 ty126 ty127 ty128 ty129 ty130 ty131 ty132 ty134 ty135 ty136 ty137 ty138 ty139 ty140 ty141 ty142 ty143 ty145 ty146 ty147 ty148 ty149 ty150 ty151 ty152 ty153 ty154 ty155 ty156 ty157 ty158 ty159 ty160 ty161 ty162 ty163 ty164 ty165 ty167 ty168 ty169 ty170 ty171 ty172 ty173 ty174 ty175 ty176 ty177 ty178 ty179 ty180 ty181 ty182 ty183 ty184 ty185 ty186 ty187 ty188 ty189 ty190 ty191 ty192 ty193 ty194 ty195 ty196 ty197 ty199 ty200 ty201 ty202 ty203 ty204 ty205 ty206 ty207 ty208 ty209 ty210 ty211 ty212 ty214 ty215 ty221 ty224 ty225
set_option maxRecDepth 100000
set_option maxHeartbeats 4000000
/-- The search's objects. -/
def vObjs (f : List GNode) (o : List Int) : List (Nat × Obj) := [(1, .box 41 false [.sr 5 T3 0 o.length]), (2, .box 174 false [.mp 6]), (3, .box 25 true [.p T23 f]), (4, .box 157 false [.clo 117 [1, 2, 3, 4]]), (5, .arr 3 T3 o), (6, .mapo T3 T3 (mOf o))]
theorem visitM_ok (f : List GNode) (hf : GoodF f) (hs : SrtF f) : ∀ (k : Nat) (o : List Int) (n : Int), DOk f o → 0 ≤ n → n < f.length → n ∉ o → f.length - o.length ≤ k →
    CallM Try.prog 117 [.p T3 n, .bp 1 [] 0, .bp 2 [] 0, .bp 3 [] 0, .bp 4 [] 0] (vObjs f o) [1, 2, 3, 4, 6] (fun res objs' => res = .raw (.tuple #[]) ∧ objs' = vObjs f (dfs f k o n)) := by
  intro k
  induction k with
  | zero =>
    intro o n h0 h1 h2 h3 h4
    have := (h0.snoc h1 h2 h3).len
    simp only [List.length_append, List.length_singleton] at this
    omega
  | succ k ih =>
    intro o n hd hn0 hn1 hno hk
    have hd1 := hd.snoc hn0 hn1 hno
    have hlen := hd1.len
    simp only [List.length_append, List.length_singleton] at hlen
    have hfl := hf.1
    refine fnM_ok Try.func117 (by kernel_rfl) rfl Try.ntmps117 (by simp only [List.length_cons, List.length_nil]; omega) (by kernel_rfl) rfl rfl (tyTab_ok []) fns_nil ?_
    intro w0 K O0 ρ0 hc hok1 hok2
    simp only [vObjs, argEnv]
    repeat' (first | exact trivial | refine ev_seq ?_ | refine ev_skip ?_ | refine ev_ret ?_ | refine ev_exit ?_ | refine ev_block ?_ | refine ev_out_seq ?_ | refine ev_exit_seq ?_ | refine ev_ret_seq ?_ | refine ev_out_blk ?_ | refine ev_ret_blk ?_ | refine ev_exit_eq ?_ | refine ev_exit_ne (by decide) ?_ | refine ev_exit_inv ?_ | refine ev_ret_inv ?_ | refine ev_out_inv ?_ | refine rP [0, 1, 2, 3, 4, 7, 9, 25, 26, 27, 28, 39] hc ?_ ?_ | refine rA [0, 1, 2, 3, 4, 7, 9, 25, 26, 27, 28, 39] hc ?_ ?_ | refine rD [0, 1, 2, 3, 4, 7, 9, 25, 26, 27, 28, 39] hc ?_ ?_ | refine rT [0, 1, 2, 3, 4, 7, 9, 25, 26, 27, 28, 39] 1 hc ?_ ?_ | refine rT [0, 1, 2, 3, 4, 7, 9, 25, 26, 27, 28, 39] 2 hc ?_ ?_ | refine rT [0, 1, 2, 3, 4, 7, 9, 25, 26, 27, 28, 39] 3 hc ?_ ?_ | (refine rC (fun hcond => ?_) (fun hcond => ?_) <;> try (cases hcond; done)))
    · simp only [maxN]; omega
    · rw [mput_mOf hno]
      obtain ⟨hsrt, hl12⟩ := srt_of hs n
      have harcs := fun a (ha : a ∈ (f.getD n.toNat (0, [])).2) => arcs_in' hf ha
      have hdfs : dfs f (k + 1) o n = (f.getD n.toNat (0, [])).2.foldl (stepD f k) (o ++ [n]) := dfs_succ f k o n
      refine cP 6 hc ?_ ?_
      · exact ⟨hn0, hn1⟩
      · generalize (f.getD n.toNat (0, [])).2 = L at *
        refine rM hc (values_ok L) [] [] ?_ ?_ ?_
        · simp only [go_sem, Nat.reduceEqDiff, reduceCtorEq, Nat.reduceAdd, Nat.reduceSub, Nat.reduceMul, Nat.reduceLeDiff, Nat.reduceLT, Int.reduceLE, Int.reduceToNat, Int.reduceNeg, ↓reduceIte]
        · simp only [go_sem, Nat.reduceEqDiff, reduceCtorEq, Nat.reduceAdd, Nat.reduceSub, Nat.reduceMul, Nat.reduceLeDiff, Nat.reduceLT, Int.reduceLE, Int.reduceToNat, Int.reduceNeg, ↓reduceIte]
        · rintro _ _ ⟨rfl, rfl⟩
          refine ⟨[(50, .nm 1)], .clo 132 [50], [(50, .box 57 false [.p T57 L])], rfl, rfl, ?_, ?_, rfl, rfl, ?_⟩
          · simp only [go_sem, Nat.reduceEqDiff, reduceCtorEq, Nat.reduceAdd, Nat.reduceSub, Nat.reduceMul, Nat.reduceLeDiff, Nat.reduceLT, Int.reduceLE, Int.reduceToNat, Int.reduceNeg, ↓reduceIte]
          · simp only [go_sem, Nat.reduceEqDiff, reduceCtorEq, Nat.reduceAdd, Nat.reduceSub, Nat.reduceMul, Nat.reduceLeDiff, Nat.reduceLT, Int.reduceLE, Int.reduceToNat, Int.reduceNeg, ↓reduceIte]
          · refine rM hc (sortedFunc_ok L hl12 hsrt) [(1, .nm 50)] [50] ?_ ?_ ?_
            · simp only [go_sem, Nat.reduceEqDiff, reduceCtorEq, Nat.reduceAdd, Nat.reduceSub, Nat.reduceMul, Nat.reduceLeDiff, Nat.reduceLT, Int.reduceLE, Int.reduceToNat, Int.reduceNeg, ↓reduceIte]
            · simp only [go_sem, Nat.reduceEqDiff, reduceCtorEq, Nat.reduceAdd, Nat.reduceSub, Nat.reduceMul, Nat.reduceLeDiff, Nat.reduceLT, Int.reduceLE, Int.reduceToNat, Int.reduceNeg, ↓reduceIte]
            · rintro _ _ ⟨rfl, rfl⟩
              refine ⟨[(51, .nm 7)], .sr 51 T61 0 L.length, [(51, .arr 61 T61 L)], rfl, rfl, ?_, ?_, rfl, rfl, ?_⟩
              · simp only [go_sem, Nat.reduceEqDiff, reduceCtorEq, Nat.reduceAdd, Nat.reduceSub, Nat.reduceMul, Nat.reduceLeDiff, Nat.reduceLT, Int.reduceLE, Int.reduceToNat, Int.reduceNeg, ↓reduceIte]
              · simp only [go_sem, Nat.reduceEqDiff, reduceCtorEq, Nat.reduceAdd, Nat.reduceSub, Nat.reduceMul, Nat.reduceLeDiff, Nat.reduceLT, Int.reduceLE, Int.reduceToNat, Int.reduceNeg, ↓reduceIte]
              · refine evLp_all [0, 1, 2, 3, 4, 25, 26, 27] hc (by simp only [go_sem, Nat.reduceEqDiff, reduceCtorEq, Nat.reduceAdd, Nat.reduceSub, Nat.reduceMul, Nat.reduceLeDiff, Nat.reduceLT, Int.reduceLE, Int.reduceToNat, Int.reduceNeg, ↓reduceIte]; rfl) ?_ ?_
                · trivial
                · have hs1 : ∀ i, DOk f ((L.take i).foldl (stepD f k) (o ++ [n])) ∧ o ++ [n] <+: (L.take i).foldl (stepD f k) (o ++ [n]) := fun i => foldD_ok (dfs_ok hf k) _ _ (fun a ha => harcs a (List.mem_of_mem_take ha)) hd1
                  generalize ho1 : o ++ [n] = o1 at *
                  have hol : o1.length = o.length + 1 := by rw [← ho1]; simp
                  rw [← hol]
                  repeat' (first | exact trivial | refine ev_seq ?_ | refine ev_skip ?_ | refine ev_ret ?_ | refine ev_exit ?_ | refine ev_block ?_ | refine ev_out_seq ?_ | refine ev_exit_seq ?_ | refine ev_ret_seq ?_ | refine ev_out_blk ?_ | refine ev_ret_blk ?_ | refine ev_exit_eq ?_ | refine ev_exit_ne (by decide) ?_ | refine ev_exit_inv ?_ | refine ev_ret_inv ?_ | refine ev_out_inv ?_ | refine rP [0, 1, 2, 3, 4, 7, 9, 25, 26, 27, 28, 39] hc ?_ ?_ | refine rA [0, 1, 2, 3, 4, 7, 9, 25, 26, 27, 28, 39] hc ?_ ?_ | refine rD [0, 1, 2, 3, 4, 7, 9, 25, 26, 27, 28, 39] hc ?_ ?_ | refine rT [0, 1, 2, 3, 4, 7, 9, 25, 26, 27, 28, 39] 1 hc ?_ ?_ | refine rT [0, 1, 2, 3, 4, 7, 9, 25, 26, 27, 28, 39] 2 hc ?_ ?_ | refine rT [0, 1, 2, 3, 4, 7, 9, 25, 26, 27, 28, 39] 3 hc ?_ ?_ | (refine rC (fun hcond => ?_) (fun hcond => ?_) <;> try (cases hcond; done)))
                  refine ev_loop (ι := {i : Nat // i ≤ L.length}) (fun i => ⟨[(0, .p T3 n), (1, .bp 1 [] 0), (2, .bp 2 [] 0), (3, .bp 3 [] 0), (4, .bp 4 [] 0), (25, .p T57 L), (26, .p (.int .i64) (L.length : Int)), (27, .p (.int .i64) (i.1 : Int))], vObjs f ((L.take i.1).foldl (stepD f k) o1)⟩) (fun i => L.length - i.1) ⟨0, by omega⟩ (ent_frz [51] (by simp only [go_sem, Nat.reduceEqDiff, reduceCtorEq, Nat.reduceAdd, Nat.reduceSub, Nat.reduceMul, Nat.reduceLeDiff, Nat.reduceLT, Int.reduceLE, Int.reduceToNat, Int.reduceNeg, ↓reduceIte]; rfl) (ent_match [(1, .nm 1), (2, .nm 2), (3, .nm 3), (4, .nm 4), (5, .nm 5), (6, .nm 6)] rfl rfl ?_ ?_)) (fun i => ?_)
                  · simp only [vObjs, List.take_zero, List.foldl_nil]
                    simp only [go_sem, Nat.reduceEqDiff, reduceCtorEq, Nat.reduceAdd, Nat.reduceSub, Nat.reduceMul, Nat.reduceLeDiff, Nat.reduceLT, Int.reduceLE, Int.reduceToNat, Int.reduceNeg, ↓reduceIte]
                  · simp only [go_sem, Nat.reduceEqDiff, reduceCtorEq, Nat.reduceAdd, Nat.reduceSub, Nat.reduceMul, Nat.reduceLeDiff, Nat.reduceLT, Int.reduceLE, Int.reduceToNat, Int.reduceNeg, ↓reduceIte]
                  · obtain ⟨i, hi⟩ := i
                    obtain ⟨hdi, hpi⟩ := hs1 i
                    have hnext := fun (h : i < L.length) => fold_take (stepD f k) L (0, 0) o1 h
                    have hlei := hpi.length_le
                    generalize hoi : (L.take i).foldl (stepD f k) o1 = oi at hdi hpi hnext hlei
                    simp only [vObjs]
                    repeat' (first | exact trivial | refine ev_seq ?_ | refine ev_skip ?_ | refine ev_ret ?_ | refine ev_exit ?_ | refine ev_block ?_ | refine ev_out_seq ?_ | refine ev_exit_seq ?_ | refine ev_ret_seq ?_ | refine ev_out_blk ?_ | refine ev_ret_blk ?_ | refine ev_exit_eq ?_ | refine ev_exit_ne (by decide) ?_ | refine ev_exit_inv ?_ | refine ev_ret_inv ?_ | refine ev_out_inv ?_ | refine rP [0, 1, 2, 3, 4, 7, 9, 25, 26, 27, 28, 39] hc ?_ ?_ | refine rA [0, 1, 2, 3, 4, 7, 9, 25, 26, 27, 28, 39] hc ?_ ?_ | refine rD [0, 1, 2, 3, 4, 7, 9, 25, 26, 27, 28, 39] hc ?_ ?_ | refine rT [0, 1, 2, 3, 4, 7, 9, 25, 26, 27, 28, 39] 1 hc ?_ ?_ | refine rT [0, 1, 2, 3, 4, 7, 9, 25, 26, 27, 28, 39] 2 hc ?_ ?_ | refine rT [0, 1, 2, 3, 4, 7, 9, 25, 26, 27, 28, 39] 3 hc ?_ ?_ | (refine rC (fun hcond => ?_) (fun hcond => ?_) <;> try (cases hcond; done)))
                    · ((try dsimp only [Ty.den] at *) <;> (repeat' (first | apply And.intro | intro _)) <;> omega)
                    · have hiL : i < L.length := by ((try dsimp only [Ty.den] at *) <;> (repeat' (first | apply And.intro | intro _)) <;> omega)
                      have hr := harcs _ (mem_of_take_succ L (0, 0) hiL)
                      have hno2 : (L.getD i (0, 0)).2 ∉ oi := by rw [isSome_mOf] at hcond; simpa using hcond
                      refine cP 3 hc ?_ ?_
                      · trivial
                      · refine rM hc (ih oi (L.getD i (0, 0)).2 hdi hr.1 hr.2 hno2 (by omega)) [(1, .nm 1), (2, .nm 2), (3, .nm 3), (4, .nm 4), (5, .nm 5), (6, .nm 6)] [5] ?_ ?_ ?_
                        · simp only [go_sem, Nat.reduceEqDiff, reduceCtorEq, Nat.reduceAdd, Nat.reduceSub, Nat.reduceMul, Nat.reduceLeDiff, Nat.reduceLT, Int.reduceLE, Int.reduceToNat, Int.reduceNeg, ↓reduceIte]
                        · simp only [vObjs]
                          simp only [go_sem, Nat.reduceEqDiff, reduceCtorEq, Nat.reduceAdd, Nat.reduceSub, Nat.reduceMul, Nat.reduceLeDiff, Nat.reduceLT, Int.reduceLE, Int.reduceToNat, Int.reduceNeg, ↓reduceIte]
                        · rintro _ _ ⟨rfl, rfl⟩
                          refine ⟨[(1, .nm 1), (2, .nm 2), (3, .nm 3), (4, .nm 4), (5, .nm 5), (6, .nm 6)], .raw (.tuple #[]), vObjs f (dfs f k oi (L.getD i (0, 0)).2), rfl, rfl, ?_, ?_, rfl, rfl, evL_end ?_⟩
                          · simp only [vObjs]
                            simp only [go_sem, Nat.reduceEqDiff, reduceCtorEq, Nat.reduceAdd, Nat.reduceSub, Nat.reduceMul, Nat.reduceLeDiff, Nat.reduceLT, Int.reduceLE, Int.reduceToNat, Int.reduceNeg, ↓reduceIte]
                          · simp only [go_sem, Nat.reduceEqDiff, reduceCtorEq, Nat.reduceAdd, Nat.reduceSub, Nat.reduceMul, Nat.reduceLeDiff, Nat.reduceLT, Int.reduceLE, Int.reduceToNat, Int.reduceNeg, ↓reduceIte]
                          · simp only [vObjs]
                            repeat' (first | exact trivial | refine ev_seq ?_ | refine ev_skip ?_ | refine ev_ret ?_ | refine ev_exit ?_ | refine ev_block ?_ | refine ev_out_seq ?_ | refine ev_exit_seq ?_ | refine ev_ret_seq ?_ | refine ev_out_blk ?_ | refine ev_ret_blk ?_ | refine ev_exit_eq ?_ | refine ev_exit_ne (by decide) ?_ | refine ev_exit_inv ?_ | refine ev_ret_inv ?_ | refine ev_out_inv ?_ | refine rP [0, 1, 2, 3, 4, 7, 9, 25, 26, 27, 28, 39] hc ?_ ?_ | refine rA [0, 1, 2, 3, 4, 7, 9, 25, 26, 27, 28, 39] hc ?_ ?_ | refine rD [0, 1, 2, 3, 4, 7, 9, 25, 26, 27, 28, 39] hc ?_ ?_ | refine rT [0, 1, 2, 3, 4, 7, 9, 25, 26, 27, 28, 39] 1 hc ?_ ?_ | refine rT [0, 1, 2, 3, 4, 7, 9, 25, 26, 27, 28, 39] 2 hc ?_ ?_ | refine rT [0, 1, 2, 3, 4, 7, 9, 25, 26, 27, 28, 39] 3 hc ?_ ?_ | (refine rC (fun hcond => ?_) (fun hcond => ?_) <;> try (cases hcond; done)))
                            · ((try dsimp only [Ty.den] at *) <;> (repeat' (first | apply And.intro | intro _)) <;> omega)
                            · have e : stepD f k oi (L.getD i (0, 0)) = dfs f k oi (L.getD i (0, 0)).2 := if_neg hno2
                              refine ⟨⟨i + 1, by omega⟩, by simp only; omega, ent_match [(1, .nm 1), (2, .nm 2), (3, .nm 3), (4, .nm 4), (5, .nm 5), (6, .nm 6)] rfl rfl ?_ ?_⟩
                              · simp only [hnext hiL, e]
                                simp only [go_sem, Nat.reduceEqDiff, reduceCtorEq, Nat.reduceAdd, Nat.reduceSub, Nat.reduceMul, Nat.reduceLeDiff, Nat.reduceLT, Int.reduceLE, Int.reduceToNat, Int.reduceNeg, ↓reduceIte]
                              · simp only [go_sem, Nat.reduceEqDiff, reduceCtorEq, Nat.reduceAdd, Nat.reduceSub, Nat.reduceMul, Nat.reduceLeDiff, Nat.reduceLT, Int.reduceLE, Int.reduceToNat, Int.reduceNeg, ↓reduceIte]
                    · ((try dsimp only [Ty.den] at *) <;> (repeat' (first | apply And.intro | intro _)) <;> omega)
                    · have hiL : i < L.length := by ((try dsimp only [Ty.den] at *) <;> (repeat' (first | apply And.intro | intro _)) <;> omega)
                      have hno2 : (L.getD i (0, 0)).2 ∈ oi := by rw [isSome_mOf] at hcond; simpa using hcond
                      have e : stepD f k oi (L.getD i (0, 0)) = oi := if_pos hno2
                      refine ⟨⟨i + 1, by omega⟩, by simp only; omega, ent_match [(1, .nm 1), (2, .nm 2), (3, .nm 3), (4, .nm 4), (5, .nm 5), (6, .nm 6)] rfl rfl ?_ ?_⟩
                      · simp only [hnext hiL, e]
                        simp only [go_sem, Nat.reduceEqDiff, reduceCtorEq, Nat.reduceAdd, Nat.reduceSub, Nat.reduceMul, Nat.reduceLeDiff, Nat.reduceLT, Int.reduceLE, Int.reduceToNat, Int.reduceNeg, ↓reduceIte]
                      · simp only [go_sem, Nat.reduceEqDiff, reduceCtorEq, Nat.reduceAdd, Nat.reduceSub, Nat.reduceMul, Nat.reduceLeDiff, Nat.reduceLT, Int.reduceLE, Int.reduceToNat, Int.reduceNeg, ↓reduceIte]
                    · have hk : L.take i = L := List.take_of_length_le (by ((try dsimp only [Ty.den] at *) <;> (repeat' (first | apply And.intro | intro _)) <;> omega))
                      rw [hk] at hoi
                      rw [hdfs, hoi]
                      exact ev_finM hc [] rfl (.inr rfl) (.raw (.tuple #[])) rfl ⟨rfl, rfl⟩
end Go.Proofs.Ytfdkpbmofgkaoaa.Fw
