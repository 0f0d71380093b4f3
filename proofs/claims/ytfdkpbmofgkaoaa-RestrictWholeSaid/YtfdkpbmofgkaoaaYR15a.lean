/- Functions of grammarlabref15: in, arc, LightPaths; grammarlabref07.Atom. -/
import Derived.Test.YtfdkpbmofgkaoaaZJ
set_option linter.unusedVariables false
set_option linter.unusedSimpArgs false
namespace Go.Proofs.Ytfdkpbmofgkaoaa.Fw
open Go
attribute [local irreducible] Ev
attribute [local go_sem] cx_tb entEnv List.toList_toArray evSeq evG evK vcK guardOf guardT guardB_true guardB_false step1 step0 stepQ takesIn namesParts namesOf namesStore frzAll frz frz1 fixN frzEnv frzObjs drpEnv drpObjs AV.frz AV.frzs AV.drp AV.drps AV.names AV.namess aq qmap qPick qAlloc qBox qBuild qBuildSlice qBuildSlice2 qLoad qLoadB qLoadB2 qLoadE qLoadE2 qLoadE3 qFieldI qOff qPart qField qIndexA qIndex qIndexS qNil qBin qUn qConv qMake qMake2 qSlice qExtract qLen qAppend qAppend2 qAppend3 qMin qMax qCall qCall2 qCall3 qBuiltin qCallee aloud lStoreD lStore lStoreB lStoreB2 lStoreE lStoreE3 lStoreE4 lCallee lBuiltin lAppend lAppend2 lAppend3 lAppend4 opv lk constAV optAV sliceQ bin binI binS zf1 zfs pfs AV.cells nthOff loadB offB storeB notAg fitsT fitsO Ty.cell1 fieldOk partsT partsAg argsT asT asT1 asTs pairO srT castTo_self getF setF getP setP offP offF fldT rvAV rvObj rvAVs rvObjs resAV RV.flat Ty.flat Ty.size St.add upd del fresh Value.oneCell' refZ Ty.dflt sub_all sub_one sub_take sub_end List.take_succ_cons List.take_zero List.length_cons cast0 castS sub_app take_app sub_app1 take_app1 take_one1 natC zero_le_natC i64_min i64_max u64_min u64_max u8_min u8_max inK_i64 inK_u64 inK_u8 Option.map_some Option.map_none Option.bind_some Option.getD_some Option.getD_none Option.isNone_none Option.isNone_some Bool.and_true Bool.true_and Bool.and_false Bool.false_and Bool.not_true Bool.not_false if_true if_false List.length_cons List.length_nil and_true true_and and_self List.all_cons List.all_nil List.append_nil List.nil_append List.cons_append List.getElem?_cons_zero List.getElem?_cons_succ List.getElem?_nil List.map_cons List.map_nil List.set_cons_zero List.set_cons_succ List.isEmpty_nil List.isEmpty_cons decide_true decide_false beq_self_eq_true bne_self_eq_false Nat.zero_add Nat.add_zero Nat.sub_zero Int.toNat_natCast Int.toNat_zero Int.toNat_one List.take_length List.length_append List.length_singleton true_or or_true or_self false_or or_false Ty.agg.injEq Ty.slice.injEq Ty.prod.injEq Ty.int.injEq Option.some.injEq beq_iff_eq evM evMG evMQ opM isPick viewE viewS viewG opTs opTmp consE guardM guardM1 guardM2 sideM sideM2 pickM pickM2 sufB chEq memB dstOf Op.operands Call.operands List.filterMap_cons List.filterMap_nil List.append_eq Bool.cond_false_right Bool.cond_true_left cond_true cond_false implies_true decide_eq_true_eq beq_true beq_false Bool.or_true Bool.or_false Bool.true_or Bool.false_or Option.isSome_some fieldV namesAg namesAgs capNs qClo qClo2 qMakeMap qMakeMap2 qMakeMap3 qLook qLook2 qLook3 qLook4 keyT keyP eqT inB lMapUp lMapUp2 lMapUp3 namesMap argEnv cm_tb List.drop_zero pruneR prune rem1 afterM addDst fgtEnv AV.fgt AV.fgts Obj.fgt restObjs handed memB calleeOf opvs matchArgs matchArg List.any_cons List.any_nil evF evFO evFQ evFK addQ frOk qs List.flatMap_cons List.flatMap_nil List.cons_append tn appN fgtEN List.take_succ_cons List.drop_succ_cons isYl parEnv rangeSt cY_tb marked_tb renOk renIn matchObjs matchEnv matchE matchAV matchAVs matchF matchO
attribute [local go_sem] ty1 ty2 ty3 ty4 ty5 ty9 ty12 ty21 ty22 ty23 ty24 ty25 ty27 ty28 ty29 ty30 ty31 ty32 ty33 ty35 ty36 ty37 ty38 ty39 ty41 ty43 ty44 ty45 ty46 ty47 ty48 ty49 ty50 ty51 ty52 ty53 ty54 ty55 ty56 ty57 ty58 ty59 ty60 ty61 ty62 ty64 ty65 ty66 ty67 ty68 ty69 ty70 ty71 ty72 ty73 ty74 ty75 ty76 ty77 ty79 ty80 ty81 ty83 ty85 ty86 ty87 ty88 ty89 ty90 ty91 ty92 ty93 ty94 ty95 ty96 ty98 ty99 ty101 ty102 ty103 ty104 ty105 ty106 ty107 ty108 ty109 ty111 ty112 ty113 ty114 ty115 ty116 ty117 ty118 ty121 ty122 ty123 ty124 ty125 ty126 ty127 ty128 ty129 ty130 ty131 ty132 ty134 ty135 ty136 ty137 ty138 ty139 ty140 ty141 ty142 ty143 ty145 ty146 ty147 ty148 ty149 ty150 ty151 ty152 ty153 ty154 ty155 ty156 ty157 ty158 ty159 ty160 ty161 ty162 ty163 ty164 ty165 ty167 ty168 ty169 ty170 ty171 ty172 ty173 ty174 ty175 ty176 ty177 ty178 ty179 ty180 ty181 ty182 ty183 ty184 ty185 ty186 ty187 ty188 ty189 ty190 ty191 ty192 ty193 ty194 ty195 ty196 ty197 ty199 ty200 ty201 ty202 ty203 ty204 ty205 ty206 ty207 ty208 ty209 ty210 ty211 ty212 ty214 ty215 ty221 ty224 ty225
set_option maxRecDepth 100000
set_option maxHeartbeats 4000000
def inF (l : List Int) (n : Int) : Bool := l.any fun x => x == n
def inS : Spec := { ins := [T41, T3], pre := fun _ => True, out := fun (l, n, _) => [.p .bool (inF l n)] }
theorem any_take1 {α : Type} (l : List α) (d : α) (p : α → Bool) {k : Nat} (h : k < l.length) : (l.take (k + 1)).any p = ((l.take k).any p || p (l.getD k d)) := by
  rw [take_snoc l d h, List.any_append]; simp
theorem any_of_get {α : Type} (l : List α) (d : α) (p : α → Bool) {k : Nat} (h : k < l.length) (hp : p (l.getD k d) = true) : l.any p = true :=
  List.any_eq_true.2 ⟨_, mem_of_take_succ l d h, hp⟩
theorem in_ok : FnOk Try.prog 49 inS := by
  refine fn_ok Try.func49 (by kernel_rfl) rfl Try.ntmps49 (by decide) (by kernel_rfl) (tyTab_ok []) fns_nil ?_
  rintro w0 O0 ⟨l, n, u⟩ hc ⟨⟨hl, -⟩, -⟩ -
  simp only [maxN] at hl
  simp only [inS, entEnv]
  repeat' (first | exact trivial | refine ev_seq ?_ | refine ev_skip ?_ | refine ev_ret ?_ | refine ev_exit ?_ | refine ev_block ?_ | refine ev_out_seq ?_ | refine ev_exit_seq ?_ | refine ev_ret_seq ?_ | refine ev_out_blk ?_ | refine ev_ret_blk ?_ | refine ev_exit_eq ?_ | refine ev_exit_ne (by decide) ?_ | refine ev_exit_inv ?_ | refine ev_ret_inv ?_ | refine ev_out_inv ?_ | refine rP [0, 1, 4, 5, 9, 17] hc ?_ ?_ | refine rA [0, 1, 4, 5, 9, 17] hc ?_ ?_ | refine rD [0, 1, 4, 5, 9, 17] hc ?_ ?_ | refine rT [0, 1, 4, 5, 9, 17] 1 hc ?_ ?_ | refine rT [0, 1, 4, 5, 9, 17] 2 hc ?_ ?_ | refine rT [0, 1, 4, 5, 9, 17] 3 hc ?_ ?_ | (refine rC (fun hcond => ?_) (fun hcond => ?_) <;> try (cases hcond; done)))
  refine ev_loop (ι := {k : Nat // k ≤ l.length ∧ (l.take k).any (fun x => x == n) = false}) (fun k => ⟨[(0, .p T41 l), (1, .p T3 n), (5, .p (.int .i64) (k.1 : Int))], []⟩) (fun k => l.length - k.1) ⟨0, by simp⟩ (ent_match [] rfl rfl ?_ ?_) (fun k => ?_)
  · simp only [go_sem, Nat.reduceEqDiff, reduceCtorEq, Nat.reduceAdd, Nat.reduceSub, Nat.reduceMul, Nat.reduceLeDiff, Nat.reduceLT, Int.reduceLE, Int.reduceToNat, Int.reduceNeg, ↓reduceIte]
  · simp only [go_sem, Nat.reduceEqDiff, reduceCtorEq, Nat.reduceAdd, Nat.reduceSub, Nat.reduceMul, Nat.reduceLeDiff, Nat.reduceLT, Int.reduceLE, Int.reduceToNat, Int.reduceNeg, ↓reduceIte]
  · obtain ⟨k, hk, hany⟩ := k
    repeat' (first | exact trivial | refine ev_seq ?_ | refine ev_skip ?_ | refine ev_ret ?_ | refine ev_exit ?_ | refine ev_block ?_ | refine ev_out_seq ?_ | refine ev_exit_seq ?_ | refine ev_ret_seq ?_ | refine ev_out_blk ?_ | refine ev_ret_blk ?_ | refine ev_exit_eq ?_ | refine ev_exit_ne (by decide) ?_ | refine ev_exit_inv ?_ | refine ev_ret_inv ?_ | refine ev_out_inv ?_ | refine rP [0, 1, 4, 5, 9, 17] hc ?_ ?_ | refine rA [0, 1, 4, 5, 9, 17] hc ?_ ?_ | refine rD [0, 1, 4, 5, 9, 17] hc ?_ ?_ | refine rT [0, 1, 4, 5, 9, 17] 1 hc ?_ ?_ | refine rT [0, 1, 4, 5, 9, 17] 2 hc ?_ ?_ | refine rT [0, 1, 4, 5, 9, 17] 3 hc ?_ ?_ | (refine rC (fun hcond => ?_) (fun hcond => ?_) <;> try (cases hcond; done)))
    · ((try dsimp only [Ty.den] at *) <;> (repeat' (first | apply And.intro | intro _)) <;> omega)
    · have hkl : k < l.length := by ((try dsimp only [Ty.den] at *) <;> (repeat' (first | apply And.intro | intro _)) <;> omega)
      have h1 : inF l n = true := any_of_get l 0 _ hkl (by simpa using hcond)
      exact ev_fin hc [.tmp 4] rfl (.inl rfl) (by simp) (by rw [h1]; simp only [retIs, resIs, resV, resLoad, avNames, pureOf, ownOf, go_sem, Nat.reduceEqDiff, reduceCtorEq, Nat.reduceAdd, Nat.reduceSub, Nat.reduceMul, Nat.reduceLeDiff, Nat.reduceLT, Int.reduceLE, Int.reduceToNat, Int.reduceNeg, ↓reduceIte])
    · ((try dsimp only [Ty.den] at *) <;> (repeat' (first | apply And.intro | intro _)) <;> omega)
    · have hkl : k < l.length := by ((try dsimp only [Ty.den] at *) <;> (repeat' (first | apply And.intro | intro _)) <;> omega)
      refine ⟨⟨k + 1, by ((try dsimp only [Ty.den] at *) <;> (repeat' (first | apply And.intro | intro _)) <;> omega), ?_⟩, by simp only; ((try dsimp only [Ty.den] at *) <;> (repeat' (first | apply And.intro | intro _)) <;> omega), ent_match [] rfl rfl ?_ ?_⟩
      · rw [any_take1 l 0 _ hkl, hany]; simpa using hcond
      · simp only [go_sem, Nat.reduceEqDiff, reduceCtorEq, Nat.reduceAdd, Nat.reduceSub, Nat.reduceMul, Nat.reduceLeDiff, Nat.reduceLT, Int.reduceLE, Int.reduceToNat, Int.reduceNeg, ↓reduceIte]
      · simp only [go_sem, Nat.reduceEqDiff, reduceCtorEq, Nat.reduceAdd, Nat.reduceSub, Nat.reduceMul, Nat.reduceLeDiff, Nat.reduceLT, Int.reduceLE, Int.reduceToNat, Int.reduceNeg, ↓reduceIte]
    · have hk : l.take k = l := List.take_of_length_le (by ((try dsimp only [Ty.den] at *) <;> (repeat' (first | apply And.intro | intro _)) <;> omega))
      rw [hk] at hany
      have h1 : inF l n = false := hany
      exact ev_fin hc [.tmp 4] rfl (.inl rfl) (by simp) (by rw [h1]; simp only [retIs, resIs, resV, resLoad, avNames, pureOf, ownOf, go_sem, Nat.reduceEqDiff, reduceCtorEq, Nat.reduceAdd, Nat.reduceSub, Nat.reduceMul, Nat.reduceLeDiff, Nat.reduceLT, Int.reduceLE, Int.reduceToNat, Int.reduceNeg, ↓reduceIte])
def arcG (l : List (Int × Int)) (feat : Int) : Nat → Int
  | 0 => -1
  | m + 1 => if (l.getD (l.length - (m + 1)) (0, 0)).1 = feat then ((l.length - (m + 1) : Nat) : Int) else arcG l feat m
/-- The index of the first arc with a feature, or -1. -/
def arcF (l : List (Int × Int)) (feat : Int) : Int := arcG l feat l.length
def arcS : Spec := { ins := [T57, T3], pre := fun _ => True, out := fun (l, n, _) => [.p T3 (arcF l n)] }
theorem arc_ok : FnOk Try.prog 52 arcS := by
  refine fn_ok Try.func52 (by kernel_rfl) rfl Try.ntmps52 (by decide) (by kernel_rfl) (tyTab_ok []) fns_nil ?_
  rintro w0 O0 ⟨l, n, u⟩ hc ⟨⟨hl, -⟩, -⟩ -
  simp only [maxN] at hl
  simp only [arcS, entEnv]
  repeat' (first | exact trivial | refine ev_seq ?_ | refine ev_skip ?_ | refine ev_ret ?_ | refine ev_exit ?_ | refine ev_block ?_ | refine ev_out_seq ?_ | refine ev_exit_seq ?_ | refine ev_ret_seq ?_ | refine ev_out_blk ?_ | refine ev_ret_blk ?_ | refine ev_exit_eq ?_ | refine ev_exit_ne (by decide) ?_ | refine ev_exit_inv ?_ | refine ev_ret_inv ?_ | refine ev_out_inv ?_ | refine rP [0, 1, 4, 5, 9, 18] hc ?_ ?_ | refine rA [0, 1, 4, 5, 9, 18] hc ?_ ?_ | refine rD [0, 1, 4, 5, 9, 18] hc ?_ ?_ | refine rT [0, 1, 4, 5, 9, 18] 1 hc ?_ ?_ | refine rT [0, 1, 4, 5, 9, 18] 2 hc ?_ ?_ | refine rT [0, 1, 4, 5, 9, 18] 3 hc ?_ ?_ | (refine rC (fun hcond => ?_) (fun hcond => ?_) <;> try (cases hcond; done)))
  refine ev_loop (ι := {k : Nat // k ≤ l.length ∧ arcG l n (l.length - k) = arcF l n}) (fun k => ⟨[(0, .p T57 l), (1, .p T3 n), (5, .p (.int .i64) (k.1 : Int))], []⟩) (fun k => l.length - k.1) ⟨0, by simp [arcF]⟩ (ent_match [] rfl rfl ?_ ?_) (fun k => ?_)
  · simp only [go_sem, Nat.reduceEqDiff, reduceCtorEq, Nat.reduceAdd, Nat.reduceSub, Nat.reduceMul, Nat.reduceLeDiff, Nat.reduceLT, Int.reduceLE, Int.reduceToNat, Int.reduceNeg, ↓reduceIte]
  · simp only [go_sem, Nat.reduceEqDiff, reduceCtorEq, Nat.reduceAdd, Nat.reduceSub, Nat.reduceMul, Nat.reduceLeDiff, Nat.reduceLT, Int.reduceLE, Int.reduceToNat, Int.reduceNeg, ↓reduceIte]
  · obtain ⟨k, hk, hg⟩ := k
    have hstep : k < l.length → arcG l n (l.length - k) = if (l.getD k (0, 0)).1 = n then (k : Int) else arcG l n (l.length - (k + 1)) := by
      intro h
      obtain ⟨m, hm⟩ : ∃ m, l.length - k = m + 1 := ⟨l.length - k - 1, by omega⟩
      have e1 : l.length - (m + 1) = k := by omega
      have e2 : l.length - (k + 1) = m := by omega
      rw [hm, e2]
      simp only [arcG]
      rw [e1]
    repeat' (first | exact trivial | refine ev_seq ?_ | refine ev_skip ?_ | refine ev_ret ?_ | refine ev_exit ?_ | refine ev_block ?_ | refine ev_out_seq ?_ | refine ev_exit_seq ?_ | refine ev_ret_seq ?_ | refine ev_out_blk ?_ | refine ev_ret_blk ?_ | refine ev_exit_eq ?_ | refine ev_exit_ne (by decide) ?_ | refine ev_exit_inv ?_ | refine ev_ret_inv ?_ | refine ev_out_inv ?_ | refine rP [0, 1, 4, 5, 9, 18] hc ?_ ?_ | refine rA [0, 1, 4, 5, 9, 18] hc ?_ ?_ | refine rD [0, 1, 4, 5, 9, 18] hc ?_ ?_ | refine rT [0, 1, 4, 5, 9, 18] 1 hc ?_ ?_ | refine rT [0, 1, 4, 5, 9, 18] 2 hc ?_ ?_ | refine rT [0, 1, 4, 5, 9, 18] 3 hc ?_ ?_ | (refine rC (fun hcond => ?_) (fun hcond => ?_) <;> try (cases hcond; done)))
    · ((try dsimp only [Ty.den] at *) <;> (repeat' (first | apply And.intro | intro _)) <;> omega)
    · have hkl : k < l.length := by ((try dsimp only [Ty.den] at *) <;> (repeat' (first | apply And.intro | intro _)) <;> omega)
      have h1 : arcF l n = (k : Int) := by rw [← hg, hstep hkl, if_pos hcond]
      exact ev_fin hc [.tmp 4] rfl (.inl rfl) (by simp) (by rw [h1]; simp only [retIs, resIs, resV, resLoad, avNames, pureOf, ownOf, go_sem, Nat.reduceEqDiff, reduceCtorEq, Nat.reduceAdd, Nat.reduceSub, Nat.reduceMul, Nat.reduceLeDiff, Nat.reduceLT, Int.reduceLE, Int.reduceToNat, Int.reduceNeg, ↓reduceIte])
    · ((try dsimp only [Ty.den] at *) <;> (repeat' (first | apply And.intro | intro _)) <;> omega)
    · have hkl : k < l.length := by ((try dsimp only [Ty.den] at *) <;> (repeat' (first | apply And.intro | intro _)) <;> omega)
      refine ⟨⟨k + 1, by ((try dsimp only [Ty.den] at *) <;> (repeat' (first | apply And.intro | intro _)) <;> omega), ?_⟩, by simp only; ((try dsimp only [Ty.den] at *) <;> (repeat' (first | apply And.intro | intro _)) <;> omega), ent_match [] rfl rfl ?_ ?_⟩
      · rw [← hg, hstep hkl, if_neg (by simpa using hcond)]
      · simp only [go_sem, Nat.reduceEqDiff, reduceCtorEq, Nat.reduceAdd, Nat.reduceSub, Nat.reduceMul, Nat.reduceLeDiff, Nat.reduceLT, Int.reduceLE, Int.reduceToNat, Int.reduceNeg, ↓reduceIte]
      · simp only [go_sem, Nat.reduceEqDiff, reduceCtorEq, Nat.reduceAdd, Nat.reduceSub, Nat.reduceMul, Nat.reduceLeDiff, Nat.reduceLT, Int.reduceLE, Int.reduceToNat, Int.reduceNeg, ↓reduceIte]
    · have hkl : l.length - k = 0 := by have : (l.length : Int) ≤ k := by ((try dsimp only [Ty.den] at *) <;> (repeat' (first | apply And.intro | intro _)) <;> omega)
                                        omega
      have h1 : arcF l n = -1 := by rw [← hg, hkl]; rfl
      exact ev_fin hc [.tmp 4] rfl (.inl rfl) (by simp) (by rw [h1]; simp only [retIs, resIs, resV, resLoad, avNames, pureOf, ownOf, go_sem, Nat.reduceEqDiff, reduceCtorEq, Nat.reduceAdd, Nat.reduceSub, Nat.reduceMul, Nat.reduceLeDiff, Nat.reduceLT, Int.reduceLE, Int.reduceToNat, Int.reduceNeg, ↓reduceIte])
def lightPathsF (l : List (List Int)) : Bool := decide (l.length ≤ 20) && l.all fun p => decide (p.length ≤ 20)
def lightPathsS : Spec := { ins := [T50], pre := fun _ => True, out := fun (l, _) => [.p .bool (lightPathsF l)] }
theorem lightPaths_ok : FnOk Try.prog 24 lightPathsS := by
  refine fn_ok Try.func24 (by kernel_rfl) rfl Try.ntmps24 (by decide) (by kernel_rfl) (tyTab_ok []) fns_nil ?_
  rintro w0 O0 ⟨l, u⟩ hc ⟨⟨hl, -⟩, -⟩ -
  simp only [maxN] at hl
  simp only [lightPathsS, entEnv]
  repeat' (first | exact trivial | refine ev_seq ?_ | refine ev_skip ?_ | refine ev_ret ?_ | refine ev_exit ?_ | refine ev_block ?_ | refine ev_out_seq ?_ | refine ev_exit_seq ?_ | refine ev_ret_seq ?_ | refine ev_out_blk ?_ | refine ev_ret_blk ?_ | refine ev_exit_eq ?_ | refine ev_exit_ne (by decide) ?_ | refine ev_exit_inv ?_ | refine ev_ret_inv ?_ | refine ev_out_inv ?_ | refine rP [0, 2, 3, 6, 10, 18] hc ?_ ?_ | refine rA [0, 2, 3, 6, 10, 18] hc ?_ ?_ | refine rD [0, 2, 3, 6, 10, 18] hc ?_ ?_ | refine rT [0, 2, 3, 6, 10, 18] 1 hc ?_ ?_ | refine rT [0, 2, 3, 6, 10, 18] 2 hc ?_ ?_ | refine rT [0, 2, 3, 6, 10, 18] 3 hc ?_ ?_ | (refine rC (fun hcond => ?_) (fun hcond => ?_) <;> try (cases hcond; done)))
  · have h1 : lightPathsF l = false := by
      have h : ¬ l.length ≤ 20 := by ((try dsimp only [Ty.den] at *) <;> (repeat' (first | apply And.intro | intro _)) <;> omega)
      unfold lightPathsF
      simp [h]
    exact ev_fin hc [.tmp 2] rfl (.inl rfl) (by simp) (by rw [h1]; simp only [retIs, resIs, resV, resLoad, avNames, pureOf, ownOf, go_sem, Nat.reduceEqDiff, reduceCtorEq, Nat.reduceAdd, Nat.reduceSub, Nat.reduceMul, Nat.reduceLeDiff, Nat.reduceLT, Int.reduceLE, Int.reduceToNat, Int.reduceNeg, ↓reduceIte])
  · have h20 : l.length ≤ 20 := by ((try dsimp only [Ty.den] at *) <;> (repeat' (first | apply And.intro | intro _)) <;> omega)
    refine ev_loop (ι := {k : Nat // k ≤ l.length ∧ (l.take k).all (fun p => decide (p.length ≤ 20)) = true}) (fun k => ⟨[(0, .p T50 l), (3, .p (.int .i64) (k.1 : Int))], []⟩) (fun k => l.length - k.1) ⟨0, by simp⟩ (ent_match [] rfl rfl ?_ ?_) (fun k => ?_)
    · simp only [go_sem, Nat.reduceEqDiff, reduceCtorEq, Nat.reduceAdd, Nat.reduceSub, Nat.reduceMul, Nat.reduceLeDiff, Nat.reduceLT, Int.reduceLE, Int.reduceToNat, Int.reduceNeg, ↓reduceIte]
    · simp only [go_sem, Nat.reduceEqDiff, reduceCtorEq, Nat.reduceAdd, Nat.reduceSub, Nat.reduceMul, Nat.reduceLeDiff, Nat.reduceLT, Int.reduceLE, Int.reduceToNat, Int.reduceNeg, ↓reduceIte]
    · obtain ⟨k, hk, hall⟩ := k
      repeat' (first | exact trivial | refine ev_seq ?_ | refine ev_skip ?_ | refine ev_ret ?_ | refine ev_exit ?_ | refine ev_block ?_ | refine ev_out_seq ?_ | refine ev_exit_seq ?_ | refine ev_ret_seq ?_ | refine ev_out_blk ?_ | refine ev_ret_blk ?_ | refine ev_exit_eq ?_ | refine ev_exit_ne (by decide) ?_ | refine ev_exit_inv ?_ | refine ev_ret_inv ?_ | refine ev_out_inv ?_ | refine rP [0, 2, 3, 6, 10, 18] hc ?_ ?_ | refine rA [0, 2, 3, 6, 10, 18] hc ?_ ?_ | refine rD [0, 2, 3, 6, 10, 18] hc ?_ ?_ | refine rT [0, 2, 3, 6, 10, 18] 1 hc ?_ ?_ | refine rT [0, 2, 3, 6, 10, 18] 2 hc ?_ ?_ | refine rT [0, 2, 3, 6, 10, 18] 3 hc ?_ ?_ | (refine rC (fun hcond => ?_) (fun hcond => ?_) <;> try (cases hcond; done)))
      · ((try dsimp only [Ty.den] at *) <;> (repeat' (first | apply And.intro | intro _)) <;> omega)
      · have hkl : k < l.length := by ((try dsimp only [Ty.den] at *) <;> (repeat' (first | apply And.intro | intro _)) <;> omega)
        have h1 : lightPathsF l = false := by
          have hm := mem_of_take_succ l [] hkl
          have h : ¬ (l.getD k []).length ≤ 20 := by
            have : (20 : Int) < ((l.getD k []).length : Int) := hcond
            omega
          unfold lightPathsF
          rw [Bool.and_eq_false_iff]
          right
          rw [List.all_eq_false]
          exact ⟨_, hm, by simpa using h⟩
        exact ev_fin hc [.tmp 2] rfl (.inl rfl) (by simp) (by rw [h1]; simp only [retIs, resIs, resV, resLoad, avNames, pureOf, ownOf, go_sem, Nat.reduceEqDiff, reduceCtorEq, Nat.reduceAdd, Nat.reduceSub, Nat.reduceMul, Nat.reduceLeDiff, Nat.reduceLT, Int.reduceLE, Int.reduceToNat, Int.reduceNeg, ↓reduceIte])
      · ((try dsimp only [Ty.den] at *) <;> (repeat' (first | apply And.intro | intro _)) <;> omega)
      · have hkl : k < l.length := by ((try dsimp only [Ty.den] at *) <;> (repeat' (first | apply And.intro | intro _)) <;> omega)
        refine ⟨⟨k + 1, by ((try dsimp only [Ty.den] at *) <;> (repeat' (first | apply And.intro | intro _)) <;> omega), ?_⟩, by simp only; ((try dsimp only [Ty.den] at *) <;> (repeat' (first | apply And.intro | intro _)) <;> omega), ent_match [] rfl rfl ?_ ?_⟩
        · have h : (l.getD k []).length ≤ 20 := by
            have : ((l.getD k []).length : Int) ≤ 20 := hcond
            omega
          rw [take_snoc l [] hkl, List.all_append, hall]
          simpa using h
        · simp only [go_sem, Nat.reduceEqDiff, reduceCtorEq, Nat.reduceAdd, Nat.reduceSub, Nat.reduceMul, Nat.reduceLeDiff, Nat.reduceLT, Int.reduceLE, Int.reduceToNat, Int.reduceNeg, ↓reduceIte]
        · simp only [go_sem, Nat.reduceEqDiff, reduceCtorEq, Nat.reduceAdd, Nat.reduceSub, Nat.reduceMul, Nat.reduceLeDiff, Nat.reduceLT, Int.reduceLE, Int.reduceToNat, Int.reduceNeg, ↓reduceIte]
      · have hk : l.take k = l := List.take_of_length_le (by ((try dsimp only [Ty.den] at *) <;> (repeat' (first | apply And.intro | intro _)) <;> omega))
        rw [hk] at hall
        have h1 : lightPathsF l = true := by unfold lightPathsF; rw [hall]; simp [h20]
        exact ev_fin hc [.tmp 2] rfl (.inl rfl) (by simp) (by rw [h1]; simp only [retIs, resIs, resV, resLoad, avNames, pureOf, ownOf, go_sem, Nat.reduceEqDiff, reduceCtorEq, Nat.reduceAdd, Nat.reduceSub, Nat.reduceMul, Nat.reduceLeDiff, Nat.reduceLT, Int.reduceLE, Int.reduceToNat, Int.reduceNeg, ↓reduceIte])
def atomS : Spec := { ins := [T3], pre := fun _ => True, out := fun (t, _) => [.p T25 [(t, [])]] }
theorem atom_ok : FnOk Try.prog 15 atomS := by
  refine fn_ok Try.func15 (by kernel_rfl) rfl Try.ntmps15 (by decide) (by kernel_rfl) (tyTab_ok []) fns_nil ?_
  rintro w0 O0 ⟨t, u⟩ hc - -
  simp only [atomS, entEnv]
  repeat' (first | exact trivial | refine ev_seq ?_ | refine ev_skip ?_ | refine ev_ret ?_ | refine ev_exit ?_ | refine ev_block ?_ | refine ev_out_seq ?_ | refine ev_exit_seq ?_ | refine ev_ret_seq ?_ | refine ev_out_blk ?_ | refine ev_ret_blk ?_ | refine ev_exit_eq ?_ | refine ev_exit_ne (by decide) ?_ | refine ev_exit_inv ?_ | refine ev_ret_inv ?_ | refine ev_out_inv ?_ | refine rP [0, 2] hc ?_ ?_ | refine rA [0, 2] hc ?_ ?_ | refine rD [0, 2] hc ?_ ?_ | refine rT [0, 2] 1 hc ?_ ?_ | refine rT [0, 2] 2 hc ?_ ?_ | refine rT [0, 2] 3 hc ?_ ?_ | (refine rC (fun hcond => ?_) (fun hcond => ?_) <;> try (cases hcond; done)))
  exact ev_fin hc [.cell 2 25] rfl (.inl rfl) (by simp) (by simp only [retIs, resIs, resV, resLoad, avNames, pureOf, ownOf, go_sem, Nat.reduceEqDiff, reduceCtorEq, Nat.reduceAdd, Nat.reduceSub, Nat.reduceMul, Nat.reduceLeDiff, Nat.reduceLT, Int.reduceLE, Int.reduceToNat, Int.reduceNeg, ↓reduceIte])
end Go.Proofs.Ytfdkpbmofgkaoaa.Fw
