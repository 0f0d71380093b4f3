/- Functions of grammarlabref15: Canonical. -/
import Derived.Test.YtfdkpbmofgkaoaaYR07a
import Derived.Test.YtfdkpbmofgkaoaaYR07h
import Derived.Test.YtfdkpbmofgkaoaaYR15a
set_option linter.unusedVariables false
set_option linter.unusedSimpArgs false
namespace Go.Proofs.Ytfdkpbmofgkaoaa.Fw
open Go
attribute [local irreducible] Ev
attribute [local go_sem] cx_tb entEnv List.toList_toArray evSeq evG evK vcK guardOf guardT guardB_true guardB_false step1 step0 stepQ takesIn namesParts namesOf namesStore frzAll frz frz1 fixN frzEnv frzObjs drpEnv drpObjs AV.frz AV.frzs AV.drp AV.drps AV.names AV.namess aq qmap qPick qAlloc qBox qBuild qBuildSlice qBuildSlice2 qLoad qLoadB qLoadB2 qLoadE qLoadE2 qLoadE3 qFieldI qOff qPart qField qIndexA qIndex qIndexS qNil qBin qUn qConv qMake qMake2 qSlice qExtract qLen qAppend qAppend2 qAppend3 qMin qMax qCall qCall2 qCall3 qBuiltin qCallee aloud lStoreD lStore lStoreB lStoreB2 lStoreE lStoreE3 lStoreE4 lCallee lBuiltin lAppend lAppend2 lAppend3 lAppend4 opv lk constAV optAV sliceQ bin binI binS zf1 zfs pfs AV.cells nthOff loadB offB storeB notAg fitsT fitsO Ty.cell1 fieldOk partsT partsAg argsT asT asT1 asTs pairO srT castTo_self getF setF getP setP offP offF fldT rvAV rvObj rvAVs rvObjs resAV RV.flat Ty.flat Ty.size St.add upd del fresh Value.oneCell' refZ Ty.dflt sub_all sub_one sub_take sub_end List.take_succ_cons List.take_zero List.length_cons cast0 castS sub_app take_app sub_app1 take_app1 take_one1 natC zero_le_natC i64_min i64_max u64_min u64_max u8_min u8_max inK_i64 inK_u64 inK_u8 Option.map_some Option.map_none Option.bind_some Option.getD_some Option.getD_none Option.isNone_none Option.isNone_some Bool.and_true Bool.true_and Bool.and_false Bool.false_and Bool.not_true Bool.not_false if_true if_false List.length_cons List.length_nil and_true true_and and_self List.all_cons List.all_nil List.append_nil List.nil_append List.cons_append List.getElem?_cons_zero List.getElem?_cons_succ List.getElem?_nil List.map_cons List.map_nil List.set_cons_zero List.set_cons_succ List.isEmpty_nil List.isEmpty_cons decide_true decide_false beq_self_eq_true bne_self_eq_false Nat.zero_add Nat.add_zero Nat.sub_zero Int.toNat_natCast Int.toNat_zero Int.toNat_one List.take_length List.length_append List.length_singleton true_or or_true or_self false_or or_false Ty.agg.injEq Ty.slice.injEq Ty.prod.injEq Ty.int.injEq Option.some.injEq beq_iff_eq evM evMG evMQ opM isPick viewE viewS viewG opTs opTmp consE guardM guardM1 guardM2 sideM sideM2 pickM pickM2 sufB chEq memB dstOf Op.operands Call.operands List.filterMap_cons List.filterMap_nil List.append_eq Bool.cond_false_right Bool.cond_true_left cond_true cond_false implies_true decide_eq_true_eq beq_true beq_false Bool.or_true Bool.or_false Bool.true_or Bool.false_or Option.isSome_some fieldV namesAg namesAgs capNs qClo qClo2 qMakeMap qMakeMap2 qMakeMap3 qLook qLook2 qLook3 qLook4 keyT keyP eqT inB lMapUp lMapUp2 lMapUp3 namesMap argEnv cm_tb List.drop_zero pruneR prune rem1 afterM addDst fgtEnv AV.fgt AV.fgts Obj.fgt restObjs handed memB calleeOf opvs matchArgs matchArg List.any_cons List.any_nil evF evFO evFQ evFK addQ frOk qs List.flatMap_cons List.flatMap_nil List.cons_append tn appN fgtEN List.take_succ_cons List.drop_succ_cons isYl parEnv rangeSt cY_tb marked_tb renOk renIn matchObjs matchEnv matchE matchAV matchAVs matchF matchO
attribute [local go_sem] ty1 ty2 ty3 ty4 ty5 ty9 ty12 ty21 ty22 ty23 ty24 ty25 ty27 ty28 ty29 ty30 ty31 ty32 ty33 ty35 ty36 ty37 ty38 ty39 ty41 ty43 ty44 ty45 ty46 ty47 ty48 ty49 ty50 ty51 ty52 ty53 ty54 ty55 ty56 ty57 ty58 ty59 ty60 ty61 ty62 ty64 ty65 ty66 ty67 ty68 ty69 ty70 ty71 ty72 ty73 ty74 ty75 ty76 ty77 ty79 ty80 ty81 ty83 ty85 ty86 ty87 ty88 ty89 ty90 ty91 ty92 ty93 ty94 ty95 ty96 ty98 ty99 ty101 ty102 ty103 ty104 ty105 ty106 ty107 ty108 ty109 ty111 ty112 ty113 ty114 ty115 ty116 ty117 ty118 ty121 ty122 ty123 ty124 ty125 ty126 ty127 ty128 ty129 ty130 ty131 ty132 ty134 ty135 ty136 ty137 ty138 ty139 ty140 ty141 ty142 ty143 ty145 ty146 ty147 ty148 ty149 ty150 ty151 ty152 ty153 ty154 ty155 ty156 ty157 ty158 ty159 ty160 ty161 ty162 ty163 ty164 ty165 ty167 ty168 ty169 ty170 ty171 ty172 ty173 ty174 ty175 ty176 ty177 ty178 ty179 ty180 ty181 ty182 ty183 ty184 ty185 ty186 ty187 ty188 ty189 ty190 ty191 ty192 ty193 ty194 ty195 ty196 ty197 ty199 ty200 ty201 ty202 ty203 ty204 ty205 ty206 ty207 ty208 ty209 ty210 ty211 ty212 ty214 ty215 ty221 ty224 ty225
attribute [local go_sem] lightS canonS equalS
set_option maxRecDepth 100000
set_option maxHeartbeats 4000000
def ftB (a : Int × Int) : Bool := decide (a.1 < 64)
def ndB (x : GNode) : Bool := decide (x.1 < 256) && x.2.all ftB
def canonicalB (f : List GNode) : Bool := lightF f && f.all ndB && ((canonF f).2 == 0 && (compareF (canonF f).1 f == 0))
def canonical15S : Spec := { ins := [T25], pre := fun _ => True, out := fun (f, _) => [.p .bool (canonicalB f)] }
theorem light_small {f : List GNode} (h : lightF f = true) : f.length ≤ 12 ∧ ∀ x ∈ f, x.2.length ≤ 12 := by
  unfold lightF at h
  simp only [Bool.and_eq_true, decide_eq_true_eq, List.all_eq_true] at h
  exact h
theorem small_from {f : List GNode} (hf : GoodF f) {n : Int} (h0 : 0 ≤ n) (h1 : n < f.length) : SmallF (fromF f n) := by
  obtain ⟨⟨g1, g2⟩, _⟩ := trav_ok hf h0 h1
  have hfl := hf.1
  refine ⟨?_, fun x hx => ?_⟩
  · unfold fromF
    rw [List.length_map]
    omega
  · obtain ⟨m, _, rfl⟩ := List.mem_map.1 hx
    unfold nodeF
    simp only [List.length_map, sortedF_len]
    exact arcs_len hf m
theorem small_canon {f : List GNode} (hs : SmallA f) : SmallF (canonF f).1 := by
  unfold canonF
  split
  · rename_i h
    obtain ⟨h1, h2⟩ := formF_good h hs
    exact small_from h1 (by omega) (by omega)
  · exact ⟨by simp, fun x hx => by cases hx⟩
theorem canonical15_ok : FnOk Try.prog 20 canonical15S := by
  refine fn_ok Try.func20 (by kernel_rfl) rfl Try.ntmps20 (by decide) (by kernel_rfl) (tyTab_ok [(32, lightS), (46, canonS), (16, equalS)]) (fns_cons light_ok (fns_cons canon_ok (fns_cons equal_ok fns_nil))) ?_
  rintro w0 O0 ⟨f, u⟩ hc - -
  simp only [canonical15S, entEnv]
  repeat' (first | exact trivial | refine ev_seq ?_ | refine ev_skip ?_ | refine ev_ret ?_ | refine ev_exit ?_ | refine ev_block ?_ | refine ev_out_seq ?_ | refine ev_exit_seq ?_ | refine ev_ret_seq ?_ | refine ev_out_blk ?_ | refine ev_ret_blk ?_ | refine ev_exit_eq ?_ | refine ev_exit_ne (by decide) ?_ | refine ev_exit_inv ?_ | refine ev_ret_inv ?_ | refine ev_out_inv ?_ | refine rP [0, 1, 2, 3, 4, 5, 6, 9, 14, 23, 32, 45] hc ?_ ?_ | refine rA [0, 1, 2, 3, 4, 5, 6, 9, 14, 23, 32, 45] hc ?_ ?_ | refine rD [0, 1, 2, 3, 4, 5, 6, 9, 14, 23, 32, 45] hc ?_ ?_ | refine rT [0, 1, 2, 3, 4, 5, 6, 9, 14, 23, 32, 45] 1 hc ?_ ?_ | refine rT [0, 1, 2, 3, 4, 5, 6, 9, 14, 23, 32, 45] 2 hc ?_ ?_ | refine rT [0, 1, 2, 3, 4, 5, 6, 9, 14, 23, 32, 45] 3 hc ?_ ?_ | (refine rC (fun hcond => ?_) (fun hcond => ?_) <;> try (cases hcond; done)))
  · have e : canonicalB f = false := by unfold canonicalB; rw [hcond]; rfl
    exact ev_fin hc [.tmp 2] rfl (.inl rfl) (by simp) (by rw [e]; simp only [retIs, resIs, resV, resLoad, avNames, pureOf, ownOf, go_sem, Nat.reduceEqDiff, reduceCtorEq, Nat.reduceAdd, Nat.reduceSub, Nat.reduceMul, Nat.reduceLeDiff, Nat.reduceLT, Int.reduceLE, Int.reduceToNat, Int.reduceNeg, ↓reduceIte])
  · have hlight := hcond
    obtain ⟨hl, hla⟩ := light_small hlight
    refine ev_loop (ι := {i : Nat // i ≤ f.length ∧ (f.take i).all ndB = true}) (fun i => ⟨[(1, .bp 1 [] 0), (3, .p (.int .i64) (i.1 : Int))], [(1, .box 25 true [.p T23 f])]⟩) (fun i => f.length - i.1) ⟨0, by simp⟩ (ent_match [(1, .nm 1)] rfl rfl ?_ ?_) (fun i => ?_)
    · simp only [go_sem, Nat.reduceEqDiff, reduceCtorEq, Nat.reduceAdd, Nat.reduceSub, Nat.reduceMul, Nat.reduceLeDiff, Nat.reduceLT, Int.reduceLE, Int.reduceToNat, Int.reduceNeg, ↓reduceIte]
    · simp only [go_sem, Nat.reduceEqDiff, reduceCtorEq, Nat.reduceAdd, Nat.reduceSub, Nat.reduceMul, Nat.reduceLeDiff, Nat.reduceLT, Int.reduceLE, Int.reduceToNat, Int.reduceNeg, ↓reduceIte]
    · obtain ⟨i, hi, hall⟩ := i
      repeat' (first | exact trivial | refine ev_seq ?_ | refine ev_skip ?_ | refine ev_ret ?_ | refine ev_exit ?_ | refine ev_block ?_ | refine ev_out_seq ?_ | refine ev_exit_seq ?_ | refine ev_ret_seq ?_ | refine ev_out_blk ?_ | refine ev_ret_blk ?_ | refine ev_exit_eq ?_ | refine ev_exit_ne (by decide) ?_ | refine ev_exit_inv ?_ | refine ev_ret_inv ?_ | refine ev_out_inv ?_ | refine rP [0, 1, 2, 3, 4, 5, 6, 9, 14, 23, 32, 45] hc ?_ ?_ | refine rA [0, 1, 2, 3, 4, 5, 6, 9, 14, 23, 32, 45] hc ?_ ?_ | refine rD [0, 1, 2, 3, 4, 5, 6, 9, 14, 23, 32, 45] hc ?_ ?_ | refine rT [0, 1, 2, 3, 4, 5, 6, 9, 14, 23, 32, 45] 1 hc ?_ ?_ | refine rT [0, 1, 2, 3, 4, 5, 6, 9, 14, 23, 32, 45] 2 hc ?_ ?_ | refine rT [0, 1, 2, 3, 4, 5, 6, 9, 14, 23, 32, 45] 3 hc ?_ ?_ | (refine rC (fun hcond => ?_) (fun hcond => ?_) <;> try (cases hcond; done)))
      · ((try dsimp only [Ty.den] at *) <;> (repeat' (first | apply And.intro | intro _)) <;> omega)
      · have hif : i < f.length := by ((try dsimp only [Ty.den] at *) <;> (repeat' (first | apply And.intro | intro _)) <;> omega)
        have e : canonicalB f = false := by
          have hm := mem_of_take_succ f (0, []) hif
          have hz : ndB (f.getD i (0, [])) = false := by
            unfold ndB
            rw [decide_eq_false (by omega)]
            rfl
          unfold canonicalB
          rw [List.all_eq_false.2 ⟨_, hm, by rw [hz]; simp⟩]
          simp
        exact ev_fin hc [.tmp 2] rfl (.inl rfl) (by simp) (by rw [e]; simp only [retIs, resIs, resV, resLoad, avNames, pureOf, ownOf, go_sem, Nat.reduceEqDiff, reduceCtorEq, Nat.reduceAdd, Nat.reduceSub, Nat.reduceMul, Nat.reduceLeDiff, Nat.reduceLT, Int.reduceLE, Int.reduceToNat, Int.reduceNeg, ↓reduceIte])
      · have hif : i < f.length := by ((try dsimp only [Ty.den] at *) <;> (repeat' (first | apply And.intro | intro _)) <;> omega)
        have hx := hla _ (mem_of_take_succ f (0, []) hif)
        have hm := mem_of_take_succ f (0, []) hif
        have hsn : (f.take (i + 1)).all ndB = ((f.take i).all ndB && ndB (f.getD i (0, []))) := by
          rw [take_snoc f (0, []) hif, List.all_append]; simp
        have hnd : ndB (f.getD i (0, [])) = (f.getD i (0, [])).2.all ftB := by
          unfold ndB
          rw [decide_eq_true (by omega)]
          rfl
        refine ev_loop (ι := {k : Nat // k ≤ (f.getD i (0, [])).2.length ∧ ((f.getD i (0, [])).2.take k).all ftB = true}) (fun k => ⟨[(1, .bp 1 [] 0), (3, .p (.int .i64) (i : Int)), (4, .p (.int .i64) (k.1 : Int))], [(1, .box 25 true [.p T23 f])]⟩) (fun k => (f.getD i (0, [])).2.length - k.1) ⟨0, by simp⟩ (ent_match [(1, .nm 1)] rfl rfl ?_ ?_) (fun k => ?_)
        · simp only [go_sem, Nat.reduceEqDiff, reduceCtorEq, Nat.reduceAdd, Nat.reduceSub, Nat.reduceMul, Nat.reduceLeDiff, Nat.reduceLT, Int.reduceLE, Int.reduceToNat, Int.reduceNeg, ↓reduceIte]
        · simp only [go_sem, Nat.reduceEqDiff, reduceCtorEq, Nat.reduceAdd, Nat.reduceSub, Nat.reduceMul, Nat.reduceLeDiff, Nat.reduceLT, Int.reduceLE, Int.reduceToNat, Int.reduceNeg, ↓reduceIte]
        · obtain ⟨k, hk, hall2⟩ := k
          have hsn2 := fun (h : k < (f.getD i (0, [])).2.length) => take_snoc (f.getD i (0, [])).2 (0, 0) h
          repeat' (first | exact trivial | refine ev_seq ?_ | refine ev_skip ?_ | refine ev_ret ?_ | refine ev_exit ?_ | refine ev_block ?_ | refine ev_out_seq ?_ | refine ev_exit_seq ?_ | refine ev_ret_seq ?_ | refine ev_out_blk ?_ | refine ev_ret_blk ?_ | refine ev_exit_eq ?_ | refine ev_exit_ne (by decide) ?_ | refine ev_exit_inv ?_ | refine ev_ret_inv ?_ | refine ev_out_inv ?_ | refine rP [0, 1, 2, 3, 4, 5, 6, 9, 14, 23, 32, 45] hc ?_ ?_ | refine rA [0, 1, 2, 3, 4, 5, 6, 9, 14, 23, 32, 45] hc ?_ ?_ | refine rD [0, 1, 2, 3, 4, 5, 6, 9, 14, 23, 32, 45] hc ?_ ?_ | refine rT [0, 1, 2, 3, 4, 5, 6, 9, 14, 23, 32, 45] 1 hc ?_ ?_ | refine rT [0, 1, 2, 3, 4, 5, 6, 9, 14, 23, 32, 45] 2 hc ?_ ?_ | refine rT [0, 1, 2, 3, 4, 5, 6, 9, 14, 23, 32, 45] 3 hc ?_ ?_ | (refine rC (fun hcond => ?_) (fun hcond => ?_) <;> try (cases hcond; done)))
          · ((try dsimp only [Ty.den] at *) <;> (repeat' (first | apply And.intro | intro _)) <;> omega)
          · ((try dsimp only [Ty.den] at *) <;> (repeat' (first | apply And.intro | intro _)) <;> omega)
          · have hkL : k < (f.getD i (0, [])).2.length := by ((try dsimp only [Ty.den] at *) <;> (repeat' (first | apply And.intro | intro _)) <;> omega)
            have e : canonicalB f = false := by
              have hm2 := mem_of_take_succ (f.getD i (0, [])).2 (0, 0) hkL
              unfold canonicalB
              rw [List.all_eq_false.2 ⟨_, hm, by rw [hnd, List.all_eq_false.2 ⟨_, hm2, by unfold ftB; rw [decide_eq_false (by omega)]; simp⟩]; simp⟩]
              simp
            exact ev_fin hc [.tmp 2] rfl (.inl rfl) (by simp) (by rw [e]; simp only [retIs, resIs, resV, resLoad, avNames, pureOf, ownOf, go_sem, Nat.reduceEqDiff, reduceCtorEq, Nat.reduceAdd, Nat.reduceSub, Nat.reduceMul, Nat.reduceLeDiff, Nat.reduceLT, Int.reduceLE, Int.reduceToNat, Int.reduceNeg, ↓reduceIte])
          · ((try dsimp only [Ty.den] at *) <;> (repeat' (first | apply And.intro | intro _)) <;> omega)
          · have hkL : k < (f.getD i (0, [])).2.length := by ((try dsimp only [Ty.den] at *) <;> (repeat' (first | apply And.intro | intro _)) <;> omega)
            refine ⟨⟨k + 1, by omega, ?_⟩, by simp only; ((try dsimp only [Ty.den] at *) <;> (repeat' (first | apply And.intro | intro _)) <;> omega), ent_match [(1, .nm 1)] rfl rfl ?_ ?_⟩
            · rw [hsn2 hkL, List.all_append, hall2]
              simp only [List.all_cons, List.all_nil, Bool.and_true, Bool.true_and]
              unfold ftB
              exact decide_eq_true hcond
            · simp only [go_sem, Nat.reduceEqDiff, reduceCtorEq, Nat.reduceAdd, Nat.reduceSub, Nat.reduceMul, Nat.reduceLeDiff, Nat.reduceLT, Int.reduceLE, Int.reduceToNat, Int.reduceNeg, ↓reduceIte]
            · simp only [go_sem, Nat.reduceEqDiff, reduceCtorEq, Nat.reduceAdd, Nat.reduceSub, Nat.reduceMul, Nat.reduceLeDiff, Nat.reduceLT, Int.reduceLE, Int.reduceToNat, Int.reduceNeg, ↓reduceIte]
          · ((try dsimp only [Ty.den] at *) <;> (repeat' (first | apply And.intro | intro _)) <;> omega)
          · have hkL : (f.getD i (0, [])).2.take k = (f.getD i (0, [])).2 := List.take_of_length_le (by ((try dsimp only [Ty.den] at *) <;> (repeat' (first | apply And.intro | intro _)) <;> omega))
            rw [hkL] at hall2
            refine ⟨⟨i + 1, by omega, ?_⟩, by simp only; omega, ent_match [(1, .nm 1)] rfl rfl ?_ ?_⟩
            · rw [hsn, hall, hnd, hall2]; rfl
            · simp only [go_sem, Nat.reduceEqDiff, reduceCtorEq, Nat.reduceAdd, Nat.reduceSub, Nat.reduceMul, Nat.reduceLeDiff, Nat.reduceLT, Int.reduceLE, Int.reduceToNat, Int.reduceNeg, ↓reduceIte]
            · simp only [go_sem, Nat.reduceEqDiff, reduceCtorEq, Nat.reduceAdd, Nat.reduceSub, Nat.reduceMul, Nat.reduceLeDiff, Nat.reduceLT, Int.reduceLE, Int.reduceToNat, Int.reduceNeg, ↓reduceIte]
      · intro x hx
        exact Nat.le_trans (hla x hx) (by omega)
      · intro _
        have hsa : SmallA f := fun x hx => Nat.le_trans (hla x hx) (by omega)
        exact ⟨small_canon hsa, by omega, fun x hx => Nat.le_trans (hla x hx) (by omega)⟩
      · have hif : f.take i = f := List.take_of_length_le (by ((try dsimp only [Ty.den] at *) <;> (repeat' (first | apply And.intro | intro _)) <;> omega))
        rw [hif] at hall
        have e : canonicalB f = ((canonF f).2 == 0 && (compareF (canonF f).1 f == 0)) := by
          unfold canonicalB
          rw [hlight, hall]
          rfl
        exact ev_fin hc [.tmp 2] rfl (.inl rfl) (by simp) (by rw [e]; simp only [retIs, resIs, resV, resLoad, avNames, pureOf, ownOf, go_sem, Nat.reduceEqDiff, reduceCtorEq, Nat.reduceAdd, Nat.reduceSub, Nat.reduceMul, Nat.reduceLeDiff, Nat.reduceLT, Int.reduceLE, Int.reduceToNat, Int.reduceNeg, ↓reduceIte])
end Go.Proofs.Ytfdkpbmofgkaoaa.Fw
