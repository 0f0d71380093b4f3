/- Functions of path: firsts, First. -/
import Derived.Test.YtfdkpbmofgkaoaaYP3
set_option linter.unusedVariables false
set_option linter.unusedSimpArgs false
namespace Go.Proofs.Ytfdkpbmofgkaoaa.Fw
open Go
attribute [local irreducible] Ev
attribute [local go_sem] cx_tb entEnv List.toList_toArray evSeq evG evK vcK guardOf guardT guardB_true guardB_false step1 step0 stepQ takesIn namesParts namesOf namesStore frzAll frz frz1 fixN frzEnv frzObjs drpEnv drpObjs AV.frz AV.frzs AV.drp AV.drps AV.names AV.namess aq qmap qPick qAlloc qBox qBuild qBuildSlice qBuildSlice2 qLoad qLoadB qLoadB2 qLoadE qLoadE2 qLoadE3 qFieldI qOff qPart qField qIndexA qIndex qIndexS qNil qBin qUn qConv qMake qMake2 qSlice qExtract qLen qAppend qAppend2 qAppend3 qMin qMax qCall qCall2 qCall3 qBuiltin qCallee aloud lStoreD lStore lStoreB lStoreB2 lStoreE lStoreE3 lStoreE4 lCallee lBuiltin lAppend lAppend2 lAppend3 lAppend4 opv lk constAV optAV sliceQ bin binI binS zf1 zfs pfs AV.cells nthOff loadB offB storeB notAg fitsT fitsO Ty.cell1 fieldOk partsT partsAg argsT asT asT1 asTs pairO srT castTo_self getF setF getP setP offP offF fldT rvAV rvObj rvAVs rvObjs resAV RV.flat Ty.flat Ty.size St.add upd del fresh Value.oneCell' refZ Ty.dflt sub_all sub_one sub_take sub_end List.take_succ_cons List.take_zero List.length_cons cast0 castS sub_app take_app sub_app1 take_app1 take_one1 natC zero_le_natC i64_min i64_max u64_min u64_max u8_min u8_max inK_i64 inK_u64 inK_u8 Option.map_some Option.map_none Option.bind_some Option.getD_some Option.getD_none Option.isNone_none Option.isNone_some Bool.and_true Bool.true_and Bool.and_false Bool.false_and Bool.not_true Bool.not_false if_true if_false List.length_cons List.length_nil and_true true_and and_self List.all_cons List.all_nil List.append_nil List.nil_append List.cons_append List.getElem?_cons_zero List.getElem?_cons_succ List.getElem?_nil List.map_cons List.map_nil List.set_cons_zero List.set_cons_succ List.isEmpty_nil List.isEmpty_cons decide_true decide_false beq_self_eq_true bne_self_eq_false Nat.zero_add Nat.add_zero Nat.sub_zero Int.toNat_natCast Int.toNat_zero Int.toNat_one List.take_length List.length_append List.length_singleton true_or or_true or_self false_or or_false Ty.agg.injEq Ty.slice.injEq Ty.prod.injEq Ty.int.injEq Option.some.injEq beq_iff_eq evM evMG evMQ opM isPick viewE viewS viewG opTs opTmp consE guardM guardM1 guardM2 sideM sideM2 pickM pickM2 sufB chEq memB dstOf Op.operands Call.operands List.filterMap_cons List.filterMap_nil List.append_eq Bool.cond_false_right Bool.cond_true_left cond_true cond_false implies_true decide_eq_true_eq beq_true beq_false Bool.or_true Bool.or_false Bool.true_or Bool.false_or Option.isSome_some fieldV namesAg namesAgs capNs qClo qClo2 qMakeMap qMakeMap2 qMakeMap3 qLook qLook2 qLook3 qLook4 keyT keyP eqT inB lMapUp lMapUp2 lMapUp3 namesMap argEnv cm_tb List.drop_zero pruneR prune rem1 afterM addDst fgtEnv AV.fgt AV.fgts Obj.fgt restObjs handed memB calleeOf opvs matchArgs matchArg List.any_cons List.any_nil evF evFO evFQ evFK addQ frOk qs List.flatMap_cons List.flatMap_nil List.cons_append tn appN fgtEN List.take_succ_cons List.drop_succ_cons isYl parEnv rangeSt cY_tb marked_tb renOk renIn matchObjs matchEnv matchE matchAV matchAVs matchF matchO
attribute [local go_sem] ty1 ty2 ty3 ty4 ty5 ty9 ty12 ty21 ty22 ty23 ty24 ty25 ty27 ty28 ty29 ty30 ty31 ty32 ty33 ty35 ty36 ty37 ty38 ty39 ty41 ty43 ty44 ty45 ty46 ty47 ty48 ty49 ty50 ty51 ty52 ty53 ty54 ty55 ty56 ty57 ty58 ty59 ty60 ty61 ty62 ty64 ty65 ty66 ty67 ty68 ty69 ty70 ty71 ty72 ty73 ty74 ty75 ty76 ty77 ty79 ty80 ty81 ty83 ty85 ty86 ty87 ty88 ty89 ty90 ty91 ty92 ty93 ty94 ty95 ty96 ty98 ty99 ty101 ty102 ty103 ty104 ty105 ty106 ty107 ty108 ty109 ty111 ty112 ty113 ty114 ty115 ty116 ty117 ty118 ty121 ty122 ty123 ty124 ty125 ty126 ty127 ty128 ty129 ty130 ty131 ty132 ty134 ty135 ty136 ty137 ty138 ty139 ty140 ty141 ty142 ty143 ty145 ty146 ty147 ty148 ty149 ty150 ty151 ty152 ty153 ty154 ty155 ty156 ty157 ty158 ty159 ty160 ty161 ty162 ty163 ty164 ty165 ty167 ty168 ty169 ty170 ty171 ty172 ty173 ty174 ty175 ty176 ty177 ty178 ty179 ty180 ty181 ty182 ty183 ty184 ty185 ty186 ty187 ty188 ty189 ty190 ty191 ty192 ty193 ty194 ty195 ty196 ty197 ty199 ty200 ty201 ty202 ty203 ty204 ty205 ty206 ty207 ty208 ty209 ty210 ty211 ty212 ty214 ty215 ty221 ty224 ty225
attribute [local go_sem] cloneS
set_option maxRecDepth 100000
set_option maxHeartbeats 4000000
theorem firsts_ok (f : List GNode) : CallM Try.prog 71 [.p T25 f] [] [] (fun res objs' => res = .clo 94 [1] ∧ objs' = [(1, .box 25 true [.p T23 f])]) := by
  refine fnM_ok Try.func71 (by kernel_rfl) rfl Try.ntmps71 (by simp only [List.length_cons, List.length_nil]; omega) (by kernel_rfl) rfl rfl (tyTab_ok []) fns_nil ?_
  intro w0 K O0 ρ0 hc hok1 hok2
  simp only [argEnv]
  repeat' (first | exact trivial | refine ev_seq ?_ | refine ev_skip ?_ | refine ev_ret ?_ | refine ev_exit ?_ | refine ev_block ?_ | refine ev_out_seq ?_ | refine ev_exit_seq ?_ | refine ev_ret_seq ?_ | refine ev_out_blk ?_ | refine ev_ret_blk ?_ | refine ev_exit_eq ?_ | refine ev_exit_ne (by decide) ?_ | refine ev_exit_inv ?_ | refine ev_ret_inv ?_ | refine ev_out_inv ?_ | refine rP [0, 1, 2] hc ?_ ?_ | refine rA [0, 1, 2] hc ?_ ?_ | refine rD [0, 1, 2] hc ?_ ?_ | refine rT [0, 1, 2] 1 hc ?_ ?_ | refine rT [0, 1, 2] 2 hc ?_ ?_ | refine rT [0, 1, 2] 3 hc ?_ ?_ | (refine rC (fun hcond => ?_) (fun hcond => ?_) <;> try (cases hcond; done)))
  exact ev_finM hc [.tmp 2] rfl (.inl rfl) (.clo 94 [1]) (by simp only [retAV, ret1, retAVs, notAT, resV, resLoad, pureOf, go_sem, Nat.reduceEqDiff, reduceCtorEq, Nat.reduceAdd, Nat.reduceSub, Nat.reduceMul, Nat.reduceLeDiff, Nat.reduceLT, Int.reduceLE, Int.reduceToNat, Int.reduceNeg, ↓reduceIte]) ⟨rfl, rfl⟩
def fObjs (f : List GNode) (L : Go.Loop) (tm : Array Value) (i : Nat) : List (Nat × Obj) := [(50, .box 25 true [.p T23 f]), (101, .loop L), (102, .frame tm [(3, .bp 3 [] 0)]), (3, .box 50 false [.sr 9 T41 0 f.length]), (9, .arr 41 T41 (coll f i))]
/-- The paths of the nodes, in their order. -/
def pathsOf (s : Bfs) : List (List Int) := s.2.2.map fun n => s.1.getD n.toNat []
theorem pathsOf_len (s : Bfs) : (pathsOf s).length = s.2.2.length := by simp [pathsOf]
theorem pathsOf_get {s : Bfs} {i : Nat} (h : i < s.2.2.length) : (pathsOf s).getD i [] = s.1.getD (s.2.2.getD i 0).toNat [] := by
  simp [pathsOf, List.getD_eq_getElem?_getD, h]
theorem firsts1_ok (f : List GNode) (hf : GoodF f) (h0 : 0 < f.length) (L : Go.Loop) (tm : Array Value)
    (hY : ∀ i, i < (bst f i).2.2.length → CallY Try.prog 101 [.p T3 (nodeI f i), .p T41 (pathI f i)] (fObjs f L tm i) [50, 101, 102, 3] (fun res objs' => res = .p .bool true ∧ objs' = fObjs f L tm (i + 1))) :
    CallM Try.prog 94 [.yl 101, .bp 50 [] 0] (fObjs f L tm 0) [50, 101, 102, 3] (fun res objs' => res = .raw (.tuple #[]) ∧ ∃ N, objs' = fObjs f L tm N ∧ coll f N = firstF f) := by
  refine fnM_ok Try.func94 (by kernel_rfl) rfl Try.ntmps94 (by simp only [List.length_cons, List.length_nil]; omega) (by kernel_rfl) rfl rfl (tyTab_ok [(95, cloneS)]) (fns_cons clone_ok fns_nil) ?_
  intro w0 K O0 ρ0 hc hok1 hok2
  simp only [argEnv, fObjs]
  have hfl := hf.1
  repeat' (first | exact trivial | refine ev_seq ?_ | refine ev_skip ?_ | refine ev_ret ?_ | refine ev_exit ?_ | refine ev_block ?_ | refine ev_out_seq ?_ | refine ev_exit_seq ?_ | refine ev_ret_seq ?_ | refine ev_out_blk ?_ | refine ev_ret_blk ?_ | refine ev_exit_eq ?_ | refine ev_exit_ne (by decide) ?_ | refine ev_exit_inv ?_ | refine ev_ret_inv ?_ | refine ev_out_inv ?_ | refine rP [0, 1, 3, 4, 5, 6, 8, 20, 33, 42, 43, 44, 45, 53] hc ?_ ?_ | refine rA [0, 1, 3, 4, 5, 6, 8, 20, 33, 42, 43, 44, 45, 53] hc ?_ ?_ | refine rD [0, 1, 3, 4, 5, 6, 8, 20, 33, 42, 43, 44, 45, 53] hc ?_ ?_ | refine rT [0, 1, 3, 4, 5, 6, 8, 20, 33, 42, 43, 44, 45, 53] 1 hc ?_ ?_ | refine rT [0, 1, 3, 4, 5, 6, 8, 20, 33, 42, 43, 44, 45, 53] 2 hc ?_ ?_ | refine rT [0, 1, 3, 4, 5, 6, 8, 20, 33, 42, 43, 44, 45, 53] 3 hc ?_ ?_ | (refine rC (fun hcond => ?_) (fun hcond => ?_) <;> try (cases hcond; done)))
  · simp only [maxN]; omega
  · ((try dsimp only [Ty.den] at *) <;> (repeat' (first | apply And.intro | intro _)) <;> omega)
  · have hbi := fun i => bst_BI hf h0 i
    have hy := hY
    clear hY
    refine ev_loop (ι := {i : Nat // ∀ j, j < i → j < (bst f j).2.2.length}) (fun i => ⟨[(0, .yl 101), (1, .bp 50 [] 0), (3, .sr 12 T4 0 (bst f i.1).2.1.length), (4, .sr 15 T3 0 (bst f i.1).2.2.length), (5, .sr 16 T41 0 (pathsOf (bst f i.1)).length), (6, .p (.int .i64) (i.1 : Int))], (12, .arr 4 T4 (bst f i.1).2.1) :: (15, .arr 3 T3 (bst f i.1).2.2) :: (16, .arr 41 T41 (pathsOf (bst f i.1))) :: fObjs f L tm i.1⟩) (fun i => f.length + 1 - i.1) ⟨0, fun j hj => by omega⟩ (ent_match [(12, .nm 12), (15, .nm 15), (16, .nm 16), (50, .nm 50), (101, .nm 101), (102, .nm 102), (3, .nm 3), (9, .nm 9)] rfl rfl ?_ ?_) (fun i => ?_)
    · simp only [fObjs, bst, bfs0, pathsOf]
      simp only [go_sem, Nat.reduceEqDiff, reduceCtorEq, Nat.reduceAdd, Nat.reduceSub, Nat.reduceMul, Nat.reduceLeDiff, Nat.reduceLT, Int.reduceLE, Int.reduceToNat, Int.reduceNeg, ↓reduceIte]
      simp [List.getD_eq_getElem?_getD, List.getElem?_replicate, h0]
    · simp only [bst, bfs0, pathsOf, List.length_map]
      simp only [go_sem, Nat.reduceEqDiff, reduceCtorEq, Nat.reduceAdd, Nat.reduceSub, Nat.reduceMul, Nat.reduceLeDiff, Nat.reduceLT, Int.reduceLE, Int.reduceToNat, Int.reduceNeg, ↓reduceIte]
      simp
    · obtain ⟨i, hi⟩ := i
      have hib : i ≤ f.length := by
        cases i with
        | zero => omega
        | succ i =>
          have h1 := hi i (by omega)
          have h2 := (hbi i).ok.cnt
          omega
      have hb := hbi i
      have hyi := hy i
      have hnx : bst f (i + 1) = (f.getD (nodeI f i).toNat (0, [])).2.foldl (bfsA (nodeI f i)) (bst f i) := rfl
      have hnode : nodeI f i = (bst f i).2.2.getD i 0 := rfl
      have hpath : pathI f i = (bst f i).1.getD (nodeI f i).toNat [] := rfl
      generalize hs : bst f i = s at *
      have hpl := pathsOf_len s
      have hcn := hb.ok.cnt
      simp only [fObjs]
      repeat' (first | exact trivial | refine ev_seq ?_ | refine ev_skip ?_ | refine ev_ret ?_ | refine ev_exit ?_ | refine ev_block ?_ | refine ev_out_seq ?_ | refine ev_exit_seq ?_ | refine ev_ret_seq ?_ | refine ev_out_blk ?_ | refine ev_ret_blk ?_ | refine ev_exit_eq ?_ | refine ev_exit_ne (by decide) ?_ | refine ev_exit_inv ?_ | refine ev_ret_inv ?_ | refine ev_out_inv ?_ | refine rP [0, 1, 3, 4, 5, 6, 8, 20, 33, 42, 43, 44, 45, 53] hc ?_ ?_ | refine rA [0, 1, 3, 4, 5, 6, 8, 20, 33, 42, 43, 44, 45, 53] hc ?_ ?_ | refine rD [0, 1, 3, 4, 5, 6, 8, 20, 33, 42, 43, 44, 45, 53] hc ?_ ?_ | refine rT [0, 1, 3, 4, 5, 6, 8, 20, 33, 42, 43, 44, 45, 53] 1 hc ?_ ?_ | refine rT [0, 1, 3, 4, 5, 6, 8, 20, 33, 42, 43, 44, 45, 53] 2 hc ?_ ?_ | refine rT [0, 1, 3, 4, 5, 6, 8, 20, 33, 42, 43, 44, 45, 53] 3 hc ?_ ?_ | (refine rC (fun hcond => ?_) (fun hcond => ?_) <;> try (cases hcond; done)))
      · have hil : i < s.2.2.length := by ((try dsimp only [Ty.den] at *) <;> (repeat' (first | apply And.intro | intro _)) <;> omega)
        refine cD 9 hc ?_ ?_
        · exact ⟨by ((try dsimp only [Ty.den] at *) <;> (repeat' (first | apply And.intro | intro _)) <;> omega), by rw [hpl]; ((try dsimp only [Ty.den] at *) <;> (repeat' (first | apply And.intro | intro _)) <;> omega)⟩
        · rw [pathsOf_get hil, ← hnode, ← hpath]
          refine rY 101 101 hc (hyi hil) [(50, .nm 50), (101, .nm 101), (102, .nm 102), (3, .nm 3), (9, .nm 9)] [9] ?_ ?_ ?_
          · simp only [go_sem, Nat.reduceEqDiff, reduceCtorEq, Nat.reduceAdd, Nat.reduceSub, Nat.reduceMul, Nat.reduceLeDiff, Nat.reduceLT, Int.reduceLE, Int.reduceToNat, Int.reduceNeg, ↓reduceIte]
          · simp only [fObjs]
            simp only [go_sem, Nat.reduceEqDiff, reduceCtorEq, Nat.reduceAdd, Nat.reduceSub, Nat.reduceMul, Nat.reduceLeDiff, Nat.reduceLT, Int.reduceLE, Int.reduceToNat, Int.reduceNeg, ↓reduceIte]
          · rintro _ _ ⟨rfl, rfl⟩
            refine ⟨[(50, .nm 50), (101, .nm 101), (102, .nm 102), (3, .nm 3), (9, .nm 9)], .p .bool true, fObjs f L tm (i + 1), rfl, rfl, ?_, ?_, rfl, rfl, ?_⟩
            · simp only [fObjs]
              simp only [go_sem, Nat.reduceEqDiff, reduceCtorEq, Nat.reduceAdd, Nat.reduceSub, Nat.reduceMul, Nat.reduceLeDiff, Nat.reduceLT, Int.reduceLE, Int.reduceToNat, Int.reduceNeg, ↓reduceIte]
            · simp only [go_sem, Nat.reduceEqDiff, reduceCtorEq, Nat.reduceAdd, Nat.reduceSub, Nat.reduceMul, Nat.reduceLeDiff, Nat.reduceLT, Int.reduceLE, Int.reduceToNat, Int.reduceNeg, ↓reduceIte]
            · simp only [fObjs]
              refine rL [0, 1, 3, 4, 5, 6, 33] hc ?_ ?_
              · trivial
              · have hnm := mem_of_take_succ s.2.2 0 hil
                have hnr := hb.ok.rng _ hnm
                have hpre := fun l => bfsF_pre (n := nodeI f i) (i := i) (l := l) (s := s) hil
                have hLlen := arcs_len hf (nodeI f i)
                have hfold := fun l (hl : ∀ a ∈ l, 0 ≤ a.2 ∧ a.2 < (f.length : Int)) => bfsF_BI (n := nodeI f i) (l := l) hl hb
                have hLin := fun a (ha : a ∈ (f.getD (nodeI f i).toNat (0, [])).2) => arcs_in hf ha
                rw [hnode] at hnx hpre hLlen hfold hLin
                generalize hnn : s.2.2.getD i 0 = n at *
                repeat' (first | exact trivial | refine ev_seq ?_ | refine ev_skip ?_ | refine ev_ret ?_ | refine ev_exit ?_ | refine ev_block ?_ | refine ev_out_seq ?_ | refine ev_exit_seq ?_ | refine ev_ret_seq ?_ | refine ev_out_blk ?_ | refine ev_ret_blk ?_ | refine ev_exit_eq ?_ | refine ev_exit_ne (by decide) ?_ | refine ev_exit_inv ?_ | refine ev_ret_inv ?_ | refine ev_out_inv ?_ | refine rP [0, 1, 3, 4, 5, 6, 8, 20, 33, 42, 43, 44, 45, 53] hc ?_ ?_ | refine rA [0, 1, 3, 4, 5, 6, 8, 20, 33, 42, 43, 44, 45, 53] hc ?_ ?_ | refine rD [0, 1, 3, 4, 5, 6, 8, 20, 33, 42, 43, 44, 45, 53] hc ?_ ?_ | refine rT [0, 1, 3, 4, 5, 6, 8, 20, 33, 42, 43, 44, 45, 53] 1 hc ?_ ?_ | refine rT [0, 1, 3, 4, 5, 6, 8, 20, 33, 42, 43, 44, 45, 53] 2 hc ?_ ?_ | refine rT [0, 1, 3, 4, 5, 6, 8, 20, 33, 42, 43, 44, 45, 53] 3 hc ?_ ?_ | (refine rC (fun hcond => ?_) (fun hcond => ?_) <;> try (cases hcond; done)))
                · exact ⟨by ((try dsimp only [Ty.den] at *) <;> (repeat' (first | apply And.intro | intro _)) <;> omega), by rw [hnn]; exact hnr⟩
                · simp only [hnn]
                  generalize hL2 : (f.getD n.toNat (0, [])).2 = L2 at *
                  have hpl := pathsOf_len s
                  refine ev_loop (ι := {k : Nat // k ≤ L2.length}) (fun k => ⟨[(0, .yl 101), (1, .bp 50 [] 0), (3, .sr 12 T4 0 ((L2.take k.1).foldl (bfsA n) s).2.1.length), (4, .sr 15 T3 0 ((L2.take k.1).foldl (bfsA n) s).2.2.length), (5, .sr 16 T41 0 (pathsOf ((L2.take k.1).foldl (bfsA n) s)).length), (6, .p (.int .i64) (i : Int)), (42, .p T57 L2), (43, .p (.int .i64) (L2.length : Int)), (44, .p (.int .i64) (k.1 : Int))], (12, .arr 4 T4 ((L2.take k.1).foldl (bfsA n) s).2.1) :: (15, .arr 3 T3 ((L2.take k.1).foldl (bfsA n) s).2.2) :: (16, .arr 41 T41 (pathsOf ((L2.take k.1).foldl (bfsA n) s))) :: fObjs f L tm (i + 1)⟩) (fun k => L2.length - k.1) ⟨0, by omega⟩ (ent_match [(12, .nm 12), (15, .nm 15), (16, .nm 16), (50, .nm 50), (101, .nm 101), (102, .nm 102), (3, .nm 3), (9, .nm 9)] rfl rfl ?_ ?_) (fun k => ?_)
                  · simp only [fObjs, List.take_zero, List.foldl_nil]
                    simp only [go_sem, Nat.reduceEqDiff, reduceCtorEq, Nat.reduceAdd, Nat.reduceSub, Nat.reduceMul, Nat.reduceLeDiff, Nat.reduceLT, Int.reduceLE, Int.reduceToNat, Int.reduceNeg, ↓reduceIte]
                  · simp only [List.take_zero, List.foldl_nil]
                    simp only [go_sem, Nat.reduceEqDiff, reduceCtorEq, Nat.reduceAdd, Nat.reduceSub, Nat.reduceMul, Nat.reduceLeDiff, Nat.reduceLT, Int.reduceLE, Int.reduceToNat, Int.reduceNeg, ↓reduceIte]
                  · obtain ⟨k, hk⟩ := k
                    obtain ⟨hbk, hpk2, hok2⟩ := hfold (L2.take k) (fun a ha => hLin a (List.mem_of_mem_take ha))
                    have hpk := hpre (L2.take k)
                    have hnext := fun (h : k < L2.length) => fold_take (bfsA n) L2 (0, 0) s h
                    simp only
                    generalize hsk : (L2.take k).foldl (bfsA n) s = sk at *
                    have hplk := pathsOf_len sk
                    have hcnk := hbk.ok.cnt
                    have hto : ∀ (h : k < L2.length), 0 ≤ (L2.getD k (0, 0)).2 ∧ (L2.getD k (0, 0)).2 < (sk.2.1.length : Int) := fun h => by
                      have h1 := hLin _ (mem_of_take_succ L2 (0, 0) h)
                      have h2 := hbk.ok.l2
                      omega
                    simp only [fObjs]
                    repeat' (first | exact trivial | refine ev_seq ?_ | refine ev_skip ?_ | refine ev_ret ?_ | refine ev_exit ?_ | refine ev_block ?_ | refine ev_out_seq ?_ | refine ev_exit_seq ?_ | refine ev_ret_seq ?_ | refine ev_out_blk ?_ | refine ev_ret_blk ?_ | refine ev_exit_eq ?_ | refine ev_exit_ne (by decide) ?_ | refine ev_exit_inv ?_ | refine ev_ret_inv ?_ | refine ev_out_inv ?_ | refine rP [0, 1, 3, 4, 5, 6, 8, 20, 33, 42, 43, 44, 45, 53] hc ?_ ?_ | refine rA [0, 1, 3, 4, 5, 6, 8, 20, 33, 42, 43, 44, 45, 53] hc ?_ ?_ | refine rD [0, 1, 3, 4, 5, 6, 8, 20, 33, 42, 43, 44, 45, 53] hc ?_ ?_ | refine rT [0, 1, 3, 4, 5, 6, 8, 20, 33, 42, 43, 44, 45, 53] 1 hc ?_ ?_ | refine rT [0, 1, 3, 4, 5, 6, 8, 20, 33, 42, 43, 44, 45, 53] 2 hc ?_ ?_ | refine rT [0, 1, 3, 4, 5, 6, 8, 20, 33, 42, 43, 44, 45, 53] 3 hc ?_ ?_ | (refine rC (fun hcond => ?_) (fun hcond => ?_) <;> try (cases hcond; done)))
                    · ((try dsimp only [Ty.den] at *) <;> (repeat' (first | apply And.intro | intro _)) <;> omega)
                    · exact hto (by ((try dsimp only [Ty.den] at *) <;> (repeat' (first | apply And.intro | intro _)) <;> omega))
                    · exact hto (by ((try dsimp only [Ty.den] at *) <;> (repeat' (first | apply And.intro | intro _)) <;> omega))
                    · simp only [maxN]; omega
                    · have hkL : k < L2.length := by ((try dsimp only [Ty.den] at *) <;> (repeat' (first | apply And.intro | intro _)) <;> omega)
                      have hst : (L2.take (k + 1)).foldl (bfsA n) s = (sk.1.set (L2.getD k (0, 0)).2.toNat (sk.1.getD n.toNat [] ++ [(L2.getD k (0, 0)).1]), sk.2.1.set (L2.getD k (0, 0)).2.toNat true, sk.2.2 ++ [(L2.getD k (0, 0)).2]) := by
                        rw [hnext hkL]
                        unfold bfsA
                        rw [if_neg (by rw [hcond]; simp)]
                      have hna : (L2.getD k (0, 0)).2 ∉ sk.2.2 := fun hm => by
                        have h1 := hto hkL
                        have h2 := hbk.ok.l2
                        have h3 := (hbk.mem (L2.getD k (0, 0)).2.toNat (by omega)).2 (by rw [show (((L2.getD k (0, 0)).2.toNat : Nat) : Int) = (L2.getD k (0, 0)).2 by omega]; exact hm)
                        rw [hcond] at h3
                        cases h3
                      have hget : (pathsOf sk).getD i [] = sk.1.getD n.toNat [] := by
                        rw [pathsOf_get hpk.1, hpk.2]
                      have hgl := getD_len hbk.ok.pl n.toNat
                      have hps : pathsOf ((L2.take (k + 1)).foldl (bfsA n) s) = pathsOf sk ++ [sk.1.getD n.toNat [] ++ [(L2.getD k (0, 0)).1]] := by
                        rw [hst]
                        unfold pathsOf
                        simp only [List.map_append, List.map_cons, List.map_nil]
                        congr 1
                        · refine List.map_congr_left fun x hx => ?_
                          have h1 := hbk.ok.rng x hx
                          have h2 : ¬ (L2.getD k (0, 0)).2 = x := fun e => hna (by rw [e]; exact hx)
                          have h3 := hto hkL
                          rw [getD_set_ne _ _ _ (by omega)]
                        · have h1 := hto hkL
                          have h2 := hbk.ok.l2
                          have h3 := hbk.ok.l1
                          rw [getD_set_self _ _ _ (by omega)]
                      refine ev_mix drawsAny hc 12 [([1, 2, 3, 4, 5, 6, 7, 8], 9), ([], 10), ([0], 11)] [] (by kernel_rfl) (mix_step (by simp only [go_sem, Nat.reduceEqDiff, reduceCtorEq, Nat.reduceAdd, Nat.reduceSub, Nat.reduceMul, Nat.reduceLeDiff, Nat.reduceLT, Int.reduceLE, Int.reduceToNat, Int.reduceNeg, ↓reduceIte]; rfl) ?_ rfl rfl (by simp only [go_sem, Nat.reduceEqDiff, reduceCtorEq, Nat.reduceAdd, Nat.reduceSub, Nat.reduceMul, Nat.reduceLeDiff, Nat.reduceLT, Int.reduceLE, Int.reduceToNat, Int.reduceNeg, ↓reduceIte]; rfl) (by simp only [go_sem, Nat.reduceEqDiff, reduceCtorEq, Nat.reduceAdd, Nat.reduceSub, Nat.reduceMul, Nat.reduceLeDiff, Nat.reduceLT, Int.reduceLE, Int.reduceToNat, Int.reduceNeg, ↓reduceIte]; rfl) ?_)
                      · rw [hget, hplk]
                        exact ⟨Int.ofNat_lt.2 hpk.1, Nat.le_trans hgl (by omega)⟩
                      · refine loud_step hc [68] (by simp only [go_sem, Nat.reduceEqDiff, reduceCtorEq, Nat.reduceAdd, Nat.reduceSub, Nat.reduceMul, Nat.reduceLeDiff, Nat.reduceLT, Int.reduceLE, Int.reduceToNat, Int.reduceNeg, ↓reduceIte]; rfl) (by simp only [go_sem, Nat.reduceEqDiff, reduceCtorEq, Nat.reduceAdd, Nat.reduceSub, Nat.reduceMul, Nat.reduceLeDiff, Nat.reduceLT, Int.reduceLE, Int.reduceToNat, Int.reduceNeg, ↓reduceIte]) rfl rfl rfl (by simp only [go_sem, Nat.reduceEqDiff, reduceCtorEq, Nat.reduceAdd, Nat.reduceSub, Nat.reduceMul, Nat.reduceLeDiff, Nat.reduceLT, Int.reduceLE, Int.reduceToNat, Int.reduceNeg, ↓reduceIte]) rfl ?_ ?_
                        · rw [hget]
                          simp only [maxN]; omega
                        · refine mix_step (by simp only [go_sem, Nat.reduceEqDiff, reduceCtorEq, Nat.reduceAdd, Nat.reduceSub, Nat.reduceMul, Nat.reduceLeDiff, Nat.reduceLT, Int.reduceLE, Int.reduceToNat, Int.reduceNeg, ↓reduceIte]; rfl) ?_ rfl rfl (by simp only [go_sem, Nat.reduceEqDiff, reduceCtorEq, Nat.reduceAdd, Nat.reduceSub, Nat.reduceMul, Nat.reduceLeDiff, Nat.reduceLT, Int.reduceLE, Int.reduceToNat, Int.reduceNeg, ↓reduceIte]; rfl) (by simp only [go_sem, Nat.reduceEqDiff, reduceCtorEq, Nat.reduceAdd, Nat.reduceSub, Nat.reduceMul, Nat.reduceLeDiff, Nat.reduceLT, Int.reduceLE, Int.reduceToNat, Int.reduceNeg, ↓reduceIte]; rfl) ?_
                          · trivial
                          · refine loud_step hc [68] (by simp only [go_sem, Nat.reduceEqDiff, reduceCtorEq, Nat.reduceAdd, Nat.reduceSub, Nat.reduceMul, Nat.reduceLeDiff, Nat.reduceLT, Int.reduceLE, Int.reduceToNat, Int.reduceNeg, ↓reduceIte]; rfl) (by simp only [go_sem, Nat.reduceEqDiff, reduceCtorEq, Nat.reduceAdd, Nat.reduceSub, Nat.reduceMul, Nat.reduceLeDiff, Nat.reduceLT, Int.reduceLE, Int.reduceToNat, Int.reduceNeg, ↓reduceIte]) rfl rfl rfl (by simp only [go_sem, Nat.reduceEqDiff, reduceCtorEq, Nat.reduceAdd, Nat.reduceSub, Nat.reduceMul, Nat.reduceLeDiff, Nat.reduceLT, Int.reduceLE, Int.reduceToNat, Int.reduceNeg, ↓reduceIte]) rfl ?_ ?_
                            · trivial
                            · refine mix_step (by simp only [go_sem, Nat.reduceEqDiff, reduceCtorEq, Nat.reduceAdd, Nat.reduceSub, Nat.reduceMul, Nat.reduceLeDiff, Nat.reduceLT, Int.reduceLE, Int.reduceToNat, Int.reduceNeg, ↓reduceIte]; rfl) ?_ rfl rfl (by simp only [go_sem, Nat.reduceEqDiff, reduceCtorEq, Nat.reduceAdd, Nat.reduceSub, Nat.reduceMul, Nat.reduceLeDiff, Nat.reduceLT, Int.reduceLE, Int.reduceToNat, Int.reduceNeg, ↓reduceIte]; rfl) (by simp only [go_sem, Nat.reduceEqDiff, reduceCtorEq, Nat.reduceAdd, Nat.reduceSub, Nat.reduceMul, Nat.reduceLeDiff, Nat.reduceLT, Int.reduceLE, Int.reduceToNat, Int.reduceNeg, ↓reduceIte]; rfl) ?_
                              · trivial
                              · refine loud_step hc [16] (by simp only [go_sem, Nat.reduceEqDiff, reduceCtorEq, Nat.reduceAdd, Nat.reduceSub, Nat.reduceMul, Nat.reduceLeDiff, Nat.reduceLT, Int.reduceLE, Int.reduceToNat, Int.reduceNeg, ↓reduceIte]; rfl) (by simp only [go_sem, Nat.reduceEqDiff, reduceCtorEq, Nat.reduceAdd, Nat.reduceSub, Nat.reduceMul, Nat.reduceLeDiff, Nat.reduceLT, Int.reduceLE, Int.reduceToNat, Int.reduceNeg, ↓reduceIte]) rfl rfl rfl (by simp only [go_sem, Nat.reduceEqDiff, reduceCtorEq, Nat.reduceAdd, Nat.reduceSub, Nat.reduceMul, Nat.reduceLeDiff, Nat.reduceLT, Int.reduceLE, Int.reduceToNat, Int.reduceNeg, ↓reduceIte]) rfl ?_ ?_
                                · simp only [maxN]; omega
                                · refine mix_last (by simp only [go_sem, Nat.reduceEqDiff, reduceCtorEq, Nat.reduceAdd, Nat.reduceSub, Nat.reduceMul, Nat.reduceLeDiff, Nat.reduceLT, Int.reduceLE, Int.reduceToNat, Int.reduceNeg, ↓reduceIte]; rfl) ?_ rfl (evLp_all [0, 1, 3, 4, 5, 6, 8, 20, 33, 42, 43, 44, 45, 53] hc (by simp only [go_sem, Nat.reduceEqDiff, reduceCtorEq, Nat.reduceAdd, Nat.reduceSub, Nat.reduceMul, Nat.reduceLeDiff, Nat.reduceLT, Int.reduceLE, Int.reduceToNat, Int.reduceNeg, ↓reduceIte]; rfl) ?_ ?_)
                                  · trivial
                                  · trivial
                                  · repeat' (first | exact trivial | refine ev_seq ?_ | refine ev_skip ?_ | refine ev_ret ?_ | refine ev_exit ?_ | refine ev_block ?_ | refine ev_out_seq ?_ | refine ev_exit_seq ?_ | refine ev_ret_seq ?_ | refine ev_out_blk ?_ | refine ev_ret_blk ?_ | refine ev_exit_eq ?_ | refine ev_exit_ne (by decide) ?_ | refine ev_exit_inv ?_ | refine ev_ret_inv ?_ | refine ev_out_inv ?_ | refine rP [0, 1, 3, 4, 5, 6, 8, 20, 33, 42, 43, 44, 45, 53] hc ?_ ?_ | refine rA [0, 1, 3, 4, 5, 6, 8, 20, 33, 42, 43, 44, 45, 53] hc ?_ ?_ | refine rD [0, 1, 3, 4, 5, 6, 8, 20, 33, 42, 43, 44, 45, 53] hc ?_ ?_ | refine rT [0, 1, 3, 4, 5, 6, 8, 20, 33, 42, 43, 44, 45, 53] 1 hc ?_ ?_ | refine rT [0, 1, 3, 4, 5, 6, 8, 20, 33, 42, 43, 44, 45, 53] 2 hc ?_ ?_ | refine rT [0, 1, 3, 4, 5, 6, 8, 20, 33, 42, 43, 44, 45, 53] 3 hc ?_ ?_ | (refine rC (fun hcond => ?_) (fun hcond => ?_) <;> try (cases hcond; done)))
                                    · ((try dsimp only [Ty.den] at *) <;> (repeat' (first | apply And.intro | intro _)) <;> omega)
                                    · refine ⟨⟨k + 1, by omega⟩, by simp only; omega, ent_match [(12, .nm 12), (15, .nm 15), (16, .nm 16), (50, .nm 50), (101, .nm 101), (102, .nm 102), (3, .nm 3), (9, .nm 9)] rfl rfl ?_ ?_⟩
                                      · simp only [hps]
                                        rw [hst]
                                        simp only [go_sem, Nat.reduceEqDiff, reduceCtorEq, Nat.reduceAdd, Nat.reduceSub, Nat.reduceMul, Nat.reduceLeDiff, Nat.reduceLT, Int.reduceLE, Int.reduceToNat, Int.reduceNeg, ↓reduceIte]
                                        rw [hget]
                                      · simp only [hps]
                                        rw [hst]
                                        simp only [go_sem, Nat.reduceEqDiff, reduceCtorEq, Nat.reduceAdd, Nat.reduceSub, Nat.reduceMul, Nat.reduceLeDiff, Nat.reduceLT, Int.reduceLE, Int.reduceToNat, Int.reduceNeg, ↓reduceIte]
                                        simp
                    · ((try dsimp only [Ty.den] at *) <;> (repeat' (first | apply And.intro | intro _)) <;> omega)
                    · have hkL : k < L2.length := by ((try dsimp only [Ty.den] at *) <;> (repeat' (first | apply And.intro | intro _)) <;> omega)
                      have hst : (L2.take (k + 1)).foldl (bfsA n) s = sk := by
                        rw [hnext hkL]
                        unfold bfsA
                        rw [if_pos (by rw [hcond])]
                      refine ⟨⟨k + 1, by omega⟩, by simp only; omega, ent_match [(12, .nm 12), (15, .nm 15), (16, .nm 16), (50, .nm 50), (101, .nm 101), (102, .nm 102), (3, .nm 3), (9, .nm 9)] rfl rfl ?_ ?_⟩
                      · simp only
                        rw [hst]
                        simp only [go_sem, Nat.reduceEqDiff, reduceCtorEq, Nat.reduceAdd, Nat.reduceSub, Nat.reduceMul, Nat.reduceLeDiff, Nat.reduceLT, Int.reduceLE, Int.reduceToNat, Int.reduceNeg, ↓reduceIte]
                      · simp only
                        rw [hst]
                        simp only [go_sem, Nat.reduceEqDiff, reduceCtorEq, Nat.reduceAdd, Nat.reduceSub, Nat.reduceMul, Nat.reduceLeDiff, Nat.reduceLT, Int.reduceLE, Int.reduceToNat, Int.reduceNeg, ↓reduceIte]
                    · ((try dsimp only [Ty.den] at *) <;> (repeat' (first | apply And.intro | intro _)) <;> omega)
                    · have hkL : L2.take k = L2 := List.take_of_length_le (by ((try dsimp only [Ty.den] at *) <;> (repeat' (first | apply And.intro | intro _)) <;> omega))
                      rw [hkL] at hsk
                      rw [hsk] at hnx
                      have hil2 : i < (bst f i).2.2.length := by rw [hs]; exact hil
                      refine ⟨⟨i + 1, fun j hj => (Nat.lt_succ_iff_lt_or_eq.1 hj).elim (hi j) (fun e => by rw [e]; exact hil2)⟩, by simp only; omega, ent_match [(12, .nm 12), (15, .nm 15), (16, .nm 16), (50, .nm 50), (101, .nm 101), (102, .nm 102), (3, .nm 3), (9, .nm 9)] rfl rfl ?_ ?_⟩
                      · simp only [hnx, fObjs]
                        simp only [go_sem, Nat.reduceEqDiff, reduceCtorEq, Nat.reduceAdd, Nat.reduceSub, Nat.reduceMul, Nat.reduceLeDiff, Nat.reduceLT, Int.reduceLE, Int.reduceToNat, Int.reduceNeg, ↓reduceIte]
                      · simp only [hnx]
                        simp only [go_sem, Nat.reduceEqDiff, reduceCtorEq, Nat.reduceAdd, Nat.reduceSub, Nat.reduceMul, Nat.reduceLeDiff, Nat.reduceLT, Int.reduceLE, Int.reduceToNat, Int.reduceNeg, ↓reduceIte]
      · refine Ev.ent (σ' := ⟨[], fObjs f L tm i⟩) ?_ (ent_match [(50, .nm 50), (101, .nm 101), (102, .nm 102), (3, .nm 3), (9, .nm 9)] rfl rfl ?_ ?_)
        · exact ev_finM hc [] rfl (.inr rfl) (.raw (.tuple #[])) rfl ⟨rfl, i, rfl, coll_first hf h0 hi (by rw [hs]; ((try dsimp only [Ty.den] at *) <;> (repeat' (first | apply And.intro | intro _)) <;> omega))⟩
        · simp only [fObjs]
          simp only [go_sem, Nat.reduceEqDiff, reduceCtorEq, Nat.reduceAdd, Nat.reduceSub, Nat.reduceMul, Nat.reduceLeDiff, Nat.reduceLT, Int.reduceLE, Int.reduceToNat, Int.reduceNeg, ↓reduceIte]
        · simp only [go_sem, Nat.reduceEqDiff, reduceCtorEq, Nat.reduceAdd, Nat.reduceSub, Nat.reduceMul, Nat.reduceLeDiff, Nat.reduceLT, Int.reduceLE, Int.reduceToNat, Int.reduceNeg, ↓reduceIte]
theorem pfirst_ok (f : List GNode) (hf : GoodF f) (h0 : 0 < f.length) : CallM Try.prog 53 [.p T25 f] [] [] (fun res objs' => res = .sr 9 T41 0 f.length ∧ objs' = [(9, .arr 41 T41 (firstF f))]) := by
  refine fnMR_ok Try.func53 (by kernel_rfl) rfl Try.ntmps53 (by simp only [List.length_cons, List.length_nil]; omega) (by kernel_rfl) rfl rfl (tyTab_ok []) fns_nil ?_
  intro w0 K O0 ρ0 hc hok1 hok2
  simp only [argEnv]
  have hfl := hf.1
  repeat' (first | exact trivial | refine ev_seq ?_ | refine ev_skip ?_ | refine ev_ret ?_ | refine ev_exit ?_ | refine ev_block ?_ | refine ev_out_seq ?_ | refine ev_exit_seq ?_ | refine ev_ret_seq ?_ | refine ev_out_blk ?_ | refine ev_ret_blk ?_ | refine ev_exit_eq ?_ | refine ev_exit_ne (by decide) ?_ | refine ev_exit_inv ?_ | refine ev_ret_inv ?_ | refine ev_out_inv ?_ | refine rP [0, 1, 2, 3, 4, 5, 11, 12, 13] hc ?_ ?_ | refine rA [0, 1, 2, 3, 4, 5, 11, 12, 13] hc ?_ ?_ | refine rD [0, 1, 2, 3, 4, 5, 11, 12, 13] hc ?_ ?_ | refine rT [0, 1, 2, 3, 4, 5, 11, 12, 13] 1 hc ?_ ?_ | refine rT [0, 1, 2, 3, 4, 5, 11, 12, 13] 2 hc ?_ ?_ | refine rT [0, 1, 2, 3, 4, 5, 11, 12, 13] 3 hc ?_ ?_ | (refine rC (fun hcond => ?_) (fun hcond => ?_) <;> try (cases hcond; done)))
  · simp only [maxN]; omega
  · refine cP 1 hc ?_ ?_
    · trivial
    · refine rM hc (firsts_ok f) [] [] ?_ ?_ ?_
      · simp only [go_sem, Nat.reduceEqDiff, reduceCtorEq, Nat.reduceAdd, Nat.reduceSub, Nat.reduceMul, Nat.reduceLeDiff, Nat.reduceLT, Int.reduceLE, Int.reduceToNat, Int.reduceNeg, ↓reduceIte]
      · simp only [go_sem, Nat.reduceEqDiff, reduceCtorEq, Nat.reduceAdd, Nat.reduceSub, Nat.reduceMul, Nat.reduceLeDiff, Nat.reduceLT, Int.reduceLE, Int.reduceToNat, Int.reduceNeg, ↓reduceIte]
      · rintro _ _ ⟨rfl, rfl⟩
        refine ⟨[(50, .nm 1)], .clo 94 [50], [(50, .box 25 true [.p T23 f])], rfl, rfl, ?_, ?_, rfl, rfl, evL_end ?_⟩
        · simp only [go_sem, Nat.reduceEqDiff, reduceCtorEq, Nat.reduceAdd, Nat.reduceSub, Nat.reduceMul, Nat.reduceLeDiff, Nat.reduceLT, Int.reduceLE, Int.reduceToNat, Int.reduceNeg, ↓reduceIte]
        · simp only [go_sem, Nat.reduceEqDiff, reduceCtorEq, Nat.reduceAdd, Nat.reduceSub, Nat.reduceMul, Nat.reduceLeDiff, Nat.reduceLT, Int.reduceLE, Int.reduceToNat, Int.reduceNeg, ↓reduceIte]
        · repeat' (first | exact trivial | refine ev_seq ?_ | refine ev_skip ?_ | refine ev_ret ?_ | refine ev_exit ?_ | refine ev_block ?_ | refine ev_out_seq ?_ | refine ev_exit_seq ?_ | refine ev_ret_seq ?_ | refine ev_out_blk ?_ | refine ev_ret_blk ?_ | refine ev_exit_eq ?_ | refine ev_exit_ne (by decide) ?_ | refine ev_exit_inv ?_ | refine ev_ret_inv ?_ | refine ev_out_inv ?_ | refine rP [0, 1, 2, 3, 4, 5, 11, 12, 13] hc ?_ ?_ | refine rA [0, 1, 2, 3, 4, 5, 11, 12, 13] hc ?_ ?_ | refine rD [0, 1, 2, 3, 4, 5, 11, 12, 13] hc ?_ ?_ | refine rT [0, 1, 2, 3, 4, 5, 11, 12, 13] 1 hc ?_ ?_ | refine rT [0, 1, 2, 3, 4, 5, 11, 12, 13] 2 hc ?_ ?_ | refine rT [0, 1, 2, 3, 4, 5, 11, 12, 13] 3 hc ?_ ?_ | (refine rC (fun hcond => ?_) (fun hcond => ?_) <;> try (cases hcond; done)))
          refine ev_range hc rfl rfl (by simp only [go_sem, Nat.reduceEqDiff, reduceCtorEq, Nat.reduceAdd, Nat.reduceSub, Nat.reduceMul, Nat.reduceLeDiff, Nat.reduceLT, Int.reduceLE, Int.reduceToNat, Int.reduceNeg, ↓reduceIte]; rfl) 101 103 102 rfl rfl rfl rfl ?_
          intro L tm hL1 hL2 hL3 hL4 hL5 hL6 htm
          refine ⟨_, fObjs f L tm 0, [50, 101, 102, 3], _, [(50, .nm 50), (101, .nm 101), (102, .nm 102), (3, .nm 3), (9, .nm 9)], [9], firsts1_ok f hf h0 L tm ?_, rfl, rfl, ?_, ?_, rfl, ?_⟩
          · intro i hi
            have hb := bst_BI hf h0 i
            have hnr := hb.ok.rng (nodeI f i) (mem_of_take_succ _ 0 hi)
            have hcl := coll_len f i
            have hcs : coll f (i + 1) = (coll f i).set (nodeI f i).toNat (pathI f i) := rfl
            refine callY_ok (fr := 102) rfl rfl hL1 hL4 hL5 hL6 hL3 htm rfl (by kernel_rfl) (by simp) rfl rfl (by kernel_rfl) (by kernel_rfl) (tyTab_ok []) fns_nil ?_
            intro w1 K1 O1 ρ1 lb hc hok3 hok4 hb
            simp only [fObjs, parEnv]
            repeat' (first | exact trivial | refine ev_seq ?_ | refine ev_skip ?_ | refine ev_ret ?_ | refine ev_exit ?_ | refine ev_block ?_ | refine ev_out_seq ?_ | refine ev_exit_seq ?_ | refine ev_ret_seq ?_ | refine ev_out_blk ?_ | refine ev_ret_blk ?_ | refine ev_exit_eq ?_ | refine ev_exit_ne (by decide) ?_ | refine ev_exit_inv ?_ | refine ev_ret_inv ?_ | refine ev_out_inv ?_ | refine rP [0, 1, 2, 3, 4, 5, 11, 12, 13] hc ?_ ?_ | refine rA [0, 1, 2, 3, 4, 5, 11, 12, 13] hc ?_ ?_ | refine rD [0, 1, 2, 3, 4, 5, 11, 12, 13] hc ?_ ?_ | refine rT [0, 1, 2, 3, 4, 5, 11, 12, 13] 1 hc ?_ ?_ | refine rT [0, 1, 2, 3, 4, 5, 11, 12, 13] 2 hc ?_ ?_ | refine rT [0, 1, 2, 3, 4, 5, 11, 12, 13] 3 hc ?_ ?_ | (refine rC (fun hcond => ?_) (fun hcond => ?_) <;> try (cases hcond; done)))
            refine ⟨rfl, ?_⟩
            repeat' (first | exact trivial | refine ev_seq ?_ | refine ev_skip ?_ | refine ev_ret ?_ | refine ev_exit ?_ | refine ev_block ?_ | refine ev_out_seq ?_ | refine ev_exit_seq ?_ | refine ev_ret_seq ?_ | refine ev_out_blk ?_ | refine ev_ret_blk ?_ | refine ev_exit_eq ?_ | refine ev_exit_ne (by decide) ?_ | refine ev_exit_inv ?_ | refine ev_ret_inv ?_ | refine ev_out_inv ?_ | refine rP [0, 1, 2, 3, 4, 5, 11, 12, 13] hc ?_ ?_ | refine rA [0, 1, 2, 3, 4, 5, 11, 12, 13] hc ?_ ?_ | refine rD [0, 1, 2, 3, 4, 5, 11, 12, 13] hc ?_ ?_ | refine rT [0, 1, 2, 3, 4, 5, 11, 12, 13] 1 hc ?_ ?_ | refine rT [0, 1, 2, 3, 4, 5, 11, 12, 13] 2 hc ?_ ?_ | refine rT [0, 1, 2, 3, 4, 5, 11, 12, 13] 3 hc ?_ ?_ | (refine rC (fun hcond => ?_) (fun hcond => ?_) <;> try (cases hcond; done)))
            · exact hnr
            · refine Ev.ent (σ' := ⟨[], [(50, .box 25 true [.p T23 f]), (101, .loop { L with state := .busy }), (102, .frame tm [(3, .bp 3 [] 0)]), (3, .box 50 false [.sr 9 T41 0 f.length]), (9, .arr 41 T41 (coll f (i + 1)))]⟩) ?_ (ent_match [(50, .nm 50), (101, .nm 101), (102, .nm 102), (3, .nm 3), (9, .nm 9)] rfl rfl ?_ ?_)
              · refine ev_roundN hc (yn := 101) rfl rfl (by simp) hb ⟨rfl, ?_⟩
                simp only [fObjs, go_sem, Nat.reduceEqDiff, reduceCtorEq, Nat.reduceAdd, Nat.reduceSub, Nat.reduceMul, Nat.reduceLeDiff, Nat.reduceLT, Int.reduceLE, Int.reduceToNat, Int.reduceNeg, ↓reduceIte, loop_eta hL1 hL2]
              · rw [hcs]
                simp only [go_sem, Nat.reduceEqDiff, reduceCtorEq, Nat.reduceAdd, Nat.reduceSub, Nat.reduceMul, Nat.reduceLeDiff, Nat.reduceLT, Int.reduceLE, Int.reduceToNat, Int.reduceNeg, ↓reduceIte]
              · simp only [go_sem, Nat.reduceEqDiff, reduceCtorEq, Nat.reduceAdd, Nat.reduceSub, Nat.reduceMul, Nat.reduceLeDiff, Nat.reduceLT, Int.reduceLE, Int.reduceToNat, Int.reduceNeg, ↓reduceIte]
          · simp only [rangeSt]
            simp only [go_sem, Nat.reduceEqDiff, reduceCtorEq, Nat.reduceAdd, Nat.reduceSub, Nat.reduceMul, Nat.reduceLeDiff, Nat.reduceLT, Int.reduceLE, Int.reduceToNat, Int.reduceNeg, ↓reduceIte]
          · simp only [rangeSt, fObjs]
            simp only [go_sem, Nat.reduceEqDiff, reduceCtorEq, Nat.reduceAdd, Nat.reduceSub, Nat.reduceMul, Nat.reduceLeDiff, Nat.reduceLT, Int.reduceLE, Int.reduceToNat, Int.reduceNeg, ↓reduceIte]
            rfl
          · rintro _ _ ⟨rfl, N, rfl, hN⟩
            refine ⟨[(50, .nm 50), (101, .nm 101), (102, .nm 102), (3, .nm 3), (9, .nm 9)], fObjs f L tm N, L, rfl, rfl, ?_, rfl, rfl, rfl, by rw [hL1]; rfl, ?_⟩
            · simp only [fObjs]
              simp only [go_sem, Nat.reduceEqDiff, reduceCtorEq, Nat.reduceAdd, Nat.reduceSub, Nat.reduceMul, Nat.reduceLeDiff, Nat.reduceLT, Int.reduceLE, Int.reduceToNat, Int.reduceNeg, ↓reduceIte]
            · intro b
              rw [hL2]
              simp only [EvJ, fObjs, rangeSt, go_sem, Nat.reduceEqDiff, reduceCtorEq, Nat.reduceAdd, Nat.reduceSub, Nat.reduceMul, Nat.reduceLeDiff, Nat.reduceLT, Int.reduceLE, Int.reduceToNat, Int.reduceNeg, ↓reduceIte]
              replace hc := marked_ok (dn := 103) (b := b) hc
              rw [hN]
              repeat' (first | exact trivial | refine ev_seq ?_ | refine ev_skip ?_ | refine ev_ret ?_ | refine ev_exit ?_ | refine ev_block ?_ | refine ev_out_seq ?_ | refine ev_exit_seq ?_ | refine ev_ret_seq ?_ | refine ev_out_blk ?_ | refine ev_ret_blk ?_ | refine ev_exit_eq ?_ | refine ev_exit_ne (by decide) ?_ | refine ev_exit_inv ?_ | refine ev_ret_inv ?_ | refine ev_out_inv ?_ | refine rP [0, 1, 2, 3, 4, 5, 11, 12, 13] hc ?_ ?_ | refine rA [0, 1, 2, 3, 4, 5, 11, 12, 13] hc ?_ ?_ | refine rD [0, 1, 2, 3, 4, 5, 11, 12, 13] hc ?_ ?_ | refine rT [0, 1, 2, 3, 4, 5, 11, 12, 13] 1 hc ?_ ?_ | refine rT [0, 1, 2, 3, 4, 5, 11, 12, 13] 2 hc ?_ ?_ | refine rT [0, 1, 2, 3, 4, 5, 11, 12, 13] 3 hc ?_ ?_ | (refine rC (fun hcond => ?_) (fun hcond => ?_) <;> try (cases hcond; done)))
              refine Ev.ent (σ' := ⟨[(2, .sr 9 T41 0 f.length)], [(9, .arr 41 T41 (firstF f)), (103, .dfr)]⟩) ?_ (ent_match [(9, .nm 9), (103, .nm 103)] rfl rfl ?_ ?_)
              · exact ev_finMR hc [.tmp 2] rfl (.inl rfl) rfl rfl (.sr 9 T41 0 f.length) (by simp only [retAV, ret1, retAVs, notAT, resV, resLoad, pureOf, go_sem, Nat.reduceEqDiff, reduceCtorEq, Nat.reduceAdd, Nat.reduceSub, Nat.reduceMul, Nat.reduceLeDiff, Nat.reduceLT, Int.reduceLE, Int.reduceToNat, Int.reduceNeg, ↓reduceIte]) ⟨rfl, by simp only [go_sem, Nat.reduceEqDiff, reduceCtorEq, Nat.reduceAdd, Nat.reduceSub, Nat.reduceMul, Nat.reduceLeDiff, Nat.reduceLT, Int.reduceLE, Int.reduceToNat, Int.reduceNeg, ↓reduceIte]⟩
              · simp only [go_sem, Nat.reduceEqDiff, reduceCtorEq, Nat.reduceAdd, Nat.reduceSub, Nat.reduceMul, Nat.reduceLeDiff, Nat.reduceLT, Int.reduceLE, Int.reduceToNat, Int.reduceNeg, ↓reduceIte]
              · simp only [go_sem, Nat.reduceEqDiff, reduceCtorEq, Nat.reduceAdd, Nat.reduceSub, Nat.reduceMul, Nat.reduceLeDiff, Nat.reduceLT, Int.reduceLE, Int.reduceToNat, Int.reduceNeg, ↓reduceIte]
end Go.Proofs.Ytfdkpbmofgkaoaa.Fw
