/- Functions of grammarlabref07: From. -/
import Derived.Test.YtfdkpbmofgkaoaaYR07f
set_option linter.unusedVariables false
set_option linter.unusedSimpArgs false
namespace Go.Proofs.Ytfdkpbmofgkaoaa.Fw
open Go
attribute [local irreducible] Ev
attribute [local go_sem] cx_tb entEnv List.toList_toArray evSeq evG evK vcK guardOf guardT guardB_true guardB_false step1 step0 stepQ takesIn namesParts namesOf namesStore frzAll frz frz1 fixN frzEnv frzObjs drpEnv drpObjs AV.frz AV.frzs AV.drp AV.drps AV.names AV.namess aq qmap qPick qAlloc qBox qBuild qBuildSlice qBuildSlice2 qLoad qLoadB qLoadB2 qLoadE qLoadE2 qLoadE3 qFieldI qOff qPart qField qIndexA qIndex qIndexS qNil qBin qUn qConv qMake qMake2 qSlice qExtract qLen qAppend qAppend2 qAppend3 qMin qMax qCall qCall2 qCall3 qBuiltin qCallee aloud lStoreD lStore lStoreB lStoreB2 lStoreE lStoreE3 lStoreE4 lCallee lBuiltin lAppend lAppend2 lAppend3 lAppend4 opv lk constAV optAV sliceQ bin binI binS zf1 zfs pfs AV.cells nthOff loadB offB storeB notAg fitsT fitsO Ty.cell1 fieldOk partsT partsAg argsT asT asT1 asTs pairO srT castTo_self getF setF getP setP offP offF fldT rvAV rvObj rvAVs rvObjs resAV RV.flat Ty.flat Ty.size St.add upd del fresh Value.oneCell' refZ Ty.dflt sub_all sub_one sub_take sub_end List.take_succ_cons List.take_zero List.length_cons cast0 castS sub_app take_app sub_app1 take_app1 take_one1 natC zero_le_natC i64_min i64_max u64_min u64_max u8_min u8_max inK_i64 inK_u64 inK_u8 Option.map_some Option.map_none Option.bind_some Option.getD_some Option.getD_none Option.isNone_none Option.isNone_some Bool.and_true Bool.true_and Bool.and_false Bool.false_and Bool.not_true Bool.not_false if_true if_false List.length_cons List.length_nil and_true true_and and_self List.all_cons List.all_nil List.append_nil List.nil_append List.cons_append List.getElem?_cons_zero List.getElem?_cons_succ List.getElem?_nil List.map_cons List.map_nil List.set_cons_zero List.set_cons_succ List.isEmpty_nil List.isEmpty_cons decide_true decide_false beq_self_eq_true bne_self_eq_false Nat.zero_add Nat.add_zero Nat.sub_zero Int.toNat_natCast Int.toNat_zero Int.toNat_one List.take_length List.length_append List.length_singleton true_or or_true or_self false_or or_false Ty.agg.injEq Ty.slice.injEq Ty.prod.injEq Ty.int.injEq Option.some.injEq beq_iff_eq evM evMG evMQ opM isPick viewE viewS viewG opTs opTmp consE guardM guardM1 guardM2 sideM sideM2 pickM pickM2 sufB chEq memB dstOf Op.operands Call.operands List.filterMap_cons List.filterMap_nil List.append_eq Bool.cond_false_right Bool.cond_true_left cond_true cond_false implies_true decide_eq_true_eq beq_true beq_false Bool.or_true Bool.or_false Bool.true_or Bool.false_or Option.isSome_some fieldV namesAg namesAgs capNs qClo qClo2 qMakeMap qMakeMap2 qMakeMap3 qLook qLook2 qLook3 qLook4 keyT keyP eqT inB lMapUp lMapUp2 lMapUp3 namesMap argEnv cm_tb List.drop_zero pruneR prune rem1 afterM addDst fgtEnv AV.fgt AV.fgts Obj.fgt restObjs handed memB calleeOf opvs matchArgs matchArg List.any_cons List.any_nil evF evFO evFQ evFK addQ frOk qs List.flatMap_cons List.flatMap_nil List.cons_append tn appN fgtEN List.take_succ_cons List.drop_succ_cons isYl parEnv rangeSt cY_tb marked_tb renOk renIn matchObjs matchEnv matchE matchAV matchAVs matchF matchO
attribute [local go_sem] ty1 ty2 ty3 ty4 ty5 ty9 ty12 ty21 ty22 ty23 ty24 ty25 ty27 ty28 ty29 ty30 ty31 ty32 ty33 ty35 ty36 ty37 ty38 ty39 ty41 ty43 ty44 ty45 ty46 ty47 ty48 ty49 ty50 ty51 ty52 ty53 ty54 ty55 ty56 ty57 ty58 ty59 ty60 ty61 ty62 ty64 ty65 ty66 ty67 ty68 ty69 ty70 ty71 ty72 ty73 ty74 ty75 ty76 ty77 ty79 ty80 ty81 ty83 ty85 ty86 ty87 ty88 ty89 ty90 ty91 ty92 ty93 ty94 ty95 ty96 ty98 ty99 ty101 ty102 ty103 ty104 ty105 ty106 ty107 ty108 ty109 ty111 ty112 ty113 ty114 ty115 ty116 ty117 ty118 ty121 ty122 ty123 ty124 ty125 ty126 ty127 ty128 ty129 ty130 ty131 ty132 ty134 ty135 ty136 ty137 ty138 ty139 ty140 ty141 ty142 ty143 ty145 ty146 ty147 ty148 ty149 ty150 ty151 ty152 ty153 ty154 ty155 ty156 ty157 ty158 ty159 ty160 ty161 ty162 ty163 ty164 ty165 ty167 ty168 ty169 ty170 ty171 ty172 ty173 ty174 ty175 ty176 ty177 ty178 ty179 ty180 ty181 ty182 ty183 ty184 ty185 ty186 ty187 ty188 ty189 ty190 ty191 ty192 ty193 ty194 ty195 ty196 ty197 ty199 ty200 ty201 ty202 ty203 ty204 ty205 ty206 ty207 ty208 ty209 ty210 ty211 ty212 ty214 ty215 ty221 ty224 ty225
attribute [local go_sem] sortedS
set_option maxRecDepth 100000
set_option maxHeartbeats 4000000
/-- The order holds nodes alone. -/
def OrdOk (f : List GNode) (s : List Int × List Int) : Prop := ∀ n ∈ s.2, 0 ≤ n ∧ n < (f.length : Int)
theorem visitF_ord {f : List GNode} (hf : GoodF f) : ∀ (k : Nat) (s : List Int × List Int) (n : Int), OrdOk f s → 0 ≤ n → n < f.length → OrdOk f (visitF f k s n)
  | 0, s, n, h, _, _ => h
  | k + 1, s, n, h, h0, h1 => by
    rw [visitF_succ]
    have key : ∀ (l : List (Int × Int)) (t : List Int × List Int), (∀ a ∈ l, 0 ≤ a.2 ∧ a.2 < (f.length : Int)) → OrdOk f t → OrdOk f (l.foldl (stepV f k) t) := by
      intro l
      induction l with
      | nil => intro t _ ht; exact ht
      | cons a l ih =>
        intro t hl ht
        simp only [List.foldl_cons]
        refine ih _ (fun b hb => hl b (by simp [hb])) ?_
        unfold stepV
        split
        · exact visitF_ord hf k t a.2 ht (hl a (by simp)).1 (hl a (by simp)).2
        · exact ht
    refine key _ _ (fun a ha => arcs_of hf ha) ?_
    intro m hm
    simp only [List.mem_append, List.mem_singleton] at hm
    rcases hm with hm | rfl
    · exact h m hm
    · exact ⟨h0, h1⟩
def travF (f : List GNode) (root : Int) : List Int × List Int := visitF f f.length (List.replicate f.length (-1), []) root
def renA (num : List Int) (a : Int × Int) : Int × Int := (a.1, num.getD a.2.toNat 0)
def nodeF (f : List GNode) (num : List Int) (n : Int) : GNode := ((f.getD n.toNat (0, [])).1, (sortedF (f.getD n.toNat (0, [])).2).map (renA num))
def fromF (f : List GNode) (root : Int) : List GNode := (travF f root).2.map (nodeF f (travF f root).1)
theorem negC_rep (m : Nat) : negC (List.replicate m (-1)) = m := by
  induction m with
  | zero => rfl
  | succ m ih => simp only [negC, List.replicate_succ, List.countP_cons] at ih ⊢; simp [ih]
theorem tr0 (f : List GNode) : TrOk f (List.replicate f.length (-1), []) := ⟨by simp, by simp [negC_rep]⟩
theorem rep_neg {f : List GNode} {n : Int} (h0 : 0 ≤ n) (h1 : n < f.length) : (List.replicate f.length (-1 : Int)).getD n.toNat 0 < 0 := by
  have : n.toNat < f.length := by omega
  simp [List.getD_eq_getElem?_getD, List.getElem?_replicate, this]
theorem trav_ok {f : List GNode} (hf : GoodF f) {n : Int} (h0 : 0 ≤ n) (h1 : n < f.length) : TrOk f (travF f n) ∧ OrdOk f (travF f n) :=
  ⟨(visitF_ok hf _ _ n (tr0 f) h0 h1 (rep_neg h0 h1)).1, visitF_ord hf _ _ n (fun m hm => by simp at hm) h0 h1⟩
theorem map_part {α β : Type} (g : α → β) (h : β → α) (L : List α) (d : α) {k : Nat} (hk : k < L.length) (u : α → α) : ((L.take k).map u ++ L.drop k).set k (u (L.getD k d)) = (L.take (k + 1)).map u ++ L.drop (k + 1) ∧ ((L.take k).map u ++ L.drop k).getD k d = L.getD k d := by
  have h1 : ((L.take k).map u).length = k := by simp; omega
  have h2 : L.drop k = L.getD k d :: L.drop (k + 1) := by
    rw [List.drop_eq_getElem_cons hk, List.getD_eq_getElem?_getD, List.getElem?_eq_getElem hk]; rfl
  constructor
  · rw [take_snoc L d hk, List.set_append_right _ _ (by omega), h1, Nat.sub_self, h2]
    simp
  · rw [List.getD_eq_getElem?_getD, List.getElem?_append_right (by omega), h1, Nat.sub_self, h2]; rfl
def fromS : Spec := { ins := [T25, T3], pre := fun (f, n, _) => GoodF f ∧ 0 ≤ n ∧ n < (List.length f : Int), out := fun (f, n, _) => [.p T25 (fromF f n)] }
theorem from_ok : FnOk Try.prog 69 fromS := by
  refine fn_ok Try.func69 (by kernel_rfl) rfl Try.ntmps69 (by decide) (by kernel_rfl) (tyTab_ok [(92, sortedS)]) (fns_cons sorted_ok fns_nil) ?_
  rintro w0 O0 ⟨f, root, u⟩ hc - ⟨hf, hr0, hr1⟩
  simp only [fromS, entEnv]
  have hfl := hf.1
  repeat' (first | exact trivial | refine ev_seq ?_ | refine ev_skip ?_ | refine ev_ret ?_ | refine ev_exit ?_ | refine ev_block ?_ | refine ev_out_seq ?_ | refine ev_exit_seq ?_ | refine ev_ret_seq ?_ | refine ev_out_blk ?_ | refine ev_ret_blk ?_ | refine ev_exit_eq ?_ | refine ev_exit_ne (by decide) ?_ | refine ev_exit_inv ?_ | refine ev_ret_inv ?_ | refine ev_out_inv ?_ | refine rP [0, 1, 2, 4, 5, 6, 7, 8, 9, 10, 11, 19, 40, 60] hc ?_ ?_ | refine rA [0, 1, 2, 4, 5, 6, 7, 8, 9, 10, 11, 19, 40, 60] hc ?_ ?_ | refine rD [0, 1, 2, 4, 5, 6, 7, 8, 9, 10, 11, 19, 40, 60] hc ?_ ?_ | refine rT [0, 1, 2, 4, 5, 6, 7, 8, 9, 10, 11, 19, 40, 60] 1 hc ?_ ?_ | refine rT [0, 1, 2, 4, 5, 6, 7, 8, 9, 10, 11, 19, 40, 60] 2 hc ?_ ?_ | refine rT [0, 1, 2, 4, 5, 6, 7, 8, 9, 10, 11, 19, 40, 60] 3 hc ?_ ?_ | (refine rC (fun hcond => ?_) (fun hcond => ?_) <;> try (cases hcond; done)))
  refine ev_loop (ι := {i : Nat // i ≤ f.length}) (fun i => ⟨[(1, .p T3 root), (2, .bp 2 [] 0), (4, .bp 4 [] 0), (5, .bp 14 [] 0), (6, .p (.int .i64) (i.1 : Int))], [(2, .box 25 true [.p T23 f]), (4, .box 25 true [.raw (.slice none 0 0)]), (14, .box 156 true [.p T25 f, .sr 10 T3 0 i.1, .raw (.slice none 0 0)]), (10, .arr 3 T3 (List.replicate i.1 (-1)))]⟩) (fun i => f.length - i.1) ⟨0, by omega⟩ (ent_match [(2, .nm 2), (4, .nm 4), (14, .nm 14), (10, .nil)] rfl rfl ?_ ?_) (fun i => ?_)
  · simp only [go_sem, Nat.reduceEqDiff, reduceCtorEq, Nat.reduceAdd, Nat.reduceSub, Nat.reduceMul, Nat.reduceLeDiff, Nat.reduceLT, Int.reduceLE, Int.reduceToNat, Int.reduceNeg, ↓reduceIte]
    rfl
  · simp only [go_sem, Nat.reduceEqDiff, reduceCtorEq, Nat.reduceAdd, Nat.reduceSub, Nat.reduceMul, Nat.reduceLeDiff, Nat.reduceLT, Int.reduceLE, Int.reduceToNat, Int.reduceNeg, ↓reduceIte]
  · obtain ⟨i, hi⟩ := i
    repeat' (first | exact trivial | refine ev_seq ?_ | refine ev_skip ?_ | refine ev_ret ?_ | refine ev_exit ?_ | refine ev_block ?_ | refine ev_out_seq ?_ | refine ev_exit_seq ?_ | refine ev_ret_seq ?_ | refine ev_out_blk ?_ | refine ev_ret_blk ?_ | refine ev_exit_eq ?_ | refine ev_exit_ne (by decide) ?_ | refine ev_exit_inv ?_ | refine ev_ret_inv ?_ | refine ev_out_inv ?_ | refine rP [0, 1, 2, 4, 5, 6, 7, 8, 9, 10, 11, 19, 40, 60] hc ?_ ?_ | refine rA [0, 1, 2, 4, 5, 6, 7, 8, 9, 10, 11, 19, 40, 60] hc ?_ ?_ | refine rD [0, 1, 2, 4, 5, 6, 7, 8, 9, 10, 11, 19, 40, 60] hc ?_ ?_ | refine rT [0, 1, 2, 4, 5, 6, 7, 8, 9, 10, 11, 19, 40, 60] 1 hc ?_ ?_ | refine rT [0, 1, 2, 4, 5, 6, 7, 8, 9, 10, 11, 19, 40, 60] 2 hc ?_ ?_ | refine rT [0, 1, 2, 4, 5, 6, 7, 8, 9, 10, 11, 19, 40, 60] 3 hc ?_ ?_ | (refine rC (fun hcond => ?_) (fun hcond => ?_) <;> try (cases hcond; done)))
    · simp only [maxN]; omega
    · ((try dsimp only [Ty.den] at *) <;> (repeat' (first | apply And.intro | intro _)) <;> omega)
    · have hi : i < List.length f := by ((try dsimp only [Ty.den] at *) <;> (repeat' (first | apply And.intro | intro _)) <;> omega)
      refine ⟨⟨i + 1, by omega⟩, by simp only; omega, ent_match [(2, .nm 2), (4, .nm 4), (14, .nm 14), (10, .nm 10)] rfl rfl ?_ ?_⟩
      · simp only [go_sem, Nat.reduceEqDiff, reduceCtorEq, Nat.reduceAdd, Nat.reduceSub, Nat.reduceMul, Nat.reduceLeDiff, Nat.reduceLT, Int.reduceLE, Int.reduceToNat, Int.reduceNeg, ↓reduceIte]
        rw [List.replicate_succ']
        simp
      · simp only [go_sem, Nat.reduceEqDiff, reduceCtorEq, Nat.reduceAdd, Nat.reduceSub, Nat.reduceMul, Nat.reduceLeDiff, Nat.reduceLT, Int.reduceLE, Int.reduceToNat, Int.reduceNeg, ↓reduceIte]
    · have hif : i = List.length f := by ((try dsimp only [Ty.den] at *) <;> (repeat' (first | apply And.intro | intro _)) <;> omega)
      subst hif
      have hvo := trav_ok hf hr0 hr1
      refine cP 2 hc ?_ ?_
      · trivial
      · refine rM hc (visit_ok f hf (List.length f) (List.replicate (List.length f) (-1), []) root (tr0 f) hr0 hr1 (rep_neg hr0 hr1) (by rw [negC_rep]; exact Nat.le_refl _)) [(1, .nm 14), (2, .nm 10), (3, .nil)] [10] ?_ ?_ ?_
        · simp only [go_sem, Nat.reduceEqDiff, reduceCtorEq, Nat.reduceAdd, Nat.reduceSub, Nat.reduceMul, Nat.reduceLeDiff, Nat.reduceLT, Int.reduceLE, Int.reduceToNat, Int.reduceNeg, ↓reduceIte]
        · simp only [wObjs]
          simp only [go_sem, Nat.reduceEqDiff, reduceCtorEq, Nat.reduceAdd, Nat.reduceSub, Nat.reduceMul, Nat.reduceLeDiff, Nat.reduceLT, Int.reduceLE, Int.reduceToNat, Int.reduceNeg, ↓reduceIte]
          simp
        · rintro _ _ ⟨rfl, rfl⟩
          refine ⟨[(14, .nm 1), (101, .nm 2), (102, .nm 3)], .raw (.tuple #[]), [(14, .box 156 true [.p T25 f, .sr 101 T3 0 (travF f root).1.length, .sr 102 T3 0 (travF f root).2.length]), (101, .arr 3 T3 (travF f root).1), (102, .arr 3 T3 (travF f root).2)], rfl, rfl, ?_, ?_, rfl, rfl, evL_end ?_⟩
          · simp only [wObjs, travF]
            simp only [go_sem, Nat.reduceEqDiff, reduceCtorEq, Nat.reduceAdd, Nat.reduceSub, Nat.reduceMul, Nat.reduceLeDiff, Nat.reduceLT, Int.reduceLE, Int.reduceToNat, Int.reduceNeg, ↓reduceIte]
          · simp only [go_sem, Nat.reduceEqDiff, reduceCtorEq, Nat.reduceAdd, Nat.reduceSub, Nat.reduceMul, Nat.reduceLeDiff, Nat.reduceLT, Int.reduceLE, Int.reduceToNat, Int.reduceNeg, ↓reduceIte]
          · have hfrom : fromF f root = (travF f root).2.map (nodeF f (travF f root).1) := rfl
            rw [hfrom]
            generalize travF f root = s at hvo
            obtain ⟨num, ord⟩ := s
            obtain ⟨⟨hn1, hn2⟩, hord⟩ := hvo
            simp only at hn1 hn2
            have hord : ∀ n ∈ ord, 0 ≤ n ∧ n < (List.length f : Int) := hord
            repeat' (first | exact trivial | refine ev_seq ?_ | refine ev_skip ?_ | refine ev_ret ?_ | refine ev_exit ?_ | refine ev_block ?_ | refine ev_out_seq ?_ | refine ev_exit_seq ?_ | refine ev_ret_seq ?_ | refine ev_out_blk ?_ | refine ev_ret_blk ?_ | refine ev_exit_eq ?_ | refine ev_exit_ne (by decide) ?_ | refine ev_exit_inv ?_ | refine ev_ret_inv ?_ | refine ev_out_inv ?_ | refine rP [0, 1, 2, 4, 5, 6, 7, 8, 9, 10, 11, 19, 40, 60] hc ?_ ?_ | refine rA [0, 1, 2, 4, 5, 6, 7, 8, 9, 10, 11, 19, 40, 60] hc ?_ ?_ | refine rD [0, 1, 2, 4, 5, 6, 7, 8, 9, 10, 11, 19, 40, 60] hc ?_ ?_ | refine rT [0, 1, 2, 4, 5, 6, 7, 8, 9, 10, 11, 19, 40, 60] 1 hc ?_ ?_ | refine rT [0, 1, 2, 4, 5, 6, 7, 8, 9, 10, 11, 19, 40, 60] 2 hc ?_ ?_ | refine rT [0, 1, 2, 4, 5, 6, 7, 8, 9, 10, 11, 19, 40, 60] 3 hc ?_ ?_ | (refine rC (fun hcond => ?_) (fun hcond => ?_) <;> try (cases hcond; done)))
            refine ev_loop (ι := {i : Nat // i ≤ ord.length}) (fun i => ⟨[(2, .bp 2 [] 0), (4, .bp 4 [] 0), (5, .bp 14 [] 0), (7, .bp 7 [] 0), (8, .p (.int .i64) (i.1 : Int))], [(2, .box 25 true [.p T23 f]), (4, .box 25 true [.raw (.slice none 0 0)]), (14, .box 156 true [.p T25 f, .sr 101 T3 0 num.length, .sr 102 T3 0 ord.length]), (101, .arr 3 T3 num), (102, .arr 3 T3 ord), (7, .box 25 true [.sr 200 T59 0 i.1]), (200, .arr 59 T59 ((ord.take i.1).map (nodeF f num)))]⟩) (fun i => ord.length - i.1) ⟨0, by omega⟩ (ent_match [(2, .nm 2), (4, .nm 4), (14, .nm 14), (101, .nm 101), (102, .nm 102), (7, .nm 7), (200, .nil)] rfl rfl ?_ ?_) (fun i => ?_)
            · simp only [go_sem, Nat.reduceEqDiff, reduceCtorEq, Nat.reduceAdd, Nat.reduceSub, Nat.reduceMul, Nat.reduceLeDiff, Nat.reduceLT, Int.reduceLE, Int.reduceToNat, Int.reduceNeg, ↓reduceIte]
            · simp only [go_sem, Nat.reduceEqDiff, reduceCtorEq, Nat.reduceAdd, Nat.reduceSub, Nat.reduceMul, Nat.reduceLeDiff, Nat.reduceLT, Int.reduceLE, Int.reduceToNat, Int.reduceNeg, ↓reduceIte]
            · obtain ⟨i, hi⟩ := i
              repeat' (first | exact trivial | refine ev_seq ?_ | refine ev_skip ?_ | refine ev_ret ?_ | refine ev_exit ?_ | refine ev_block ?_ | refine ev_out_seq ?_ | refine ev_exit_seq ?_ | refine ev_ret_seq ?_ | refine ev_out_blk ?_ | refine ev_ret_blk ?_ | refine ev_exit_eq ?_ | refine ev_exit_ne (by decide) ?_ | refine ev_exit_inv ?_ | refine ev_ret_inv ?_ | refine ev_out_inv ?_ | refine rP [0, 1, 2, 4, 5, 6, 7, 8, 9, 10, 11, 19, 40, 60] hc ?_ ?_ | refine rA [0, 1, 2, 4, 5, 6, 7, 8, 9, 10, 11, 19, 40, 60] hc ?_ ?_ | refine rD [0, 1, 2, 4, 5, 6, 7, 8, 9, 10, 11, 19, 40, 60] hc ?_ ?_ | refine rT [0, 1, 2, 4, 5, 6, 7, 8, 9, 10, 11, 19, 40, 60] 1 hc ?_ ?_ | refine rT [0, 1, 2, 4, 5, 6, 7, 8, 9, 10, 11, 19, 40, 60] 2 hc ?_ ?_ | refine rT [0, 1, 2, 4, 5, 6, 7, 8, 9, 10, 11, 19, 40, 60] 3 hc ?_ ?_ | (refine rC (fun hcond => ?_) (fun hcond => ?_) <;> try (cases hcond; done)))
              · have hi : i < ord.length := by ((try dsimp only [Ty.den] at *) <;> (repeat' (first | apply And.intro | intro _)) <;> omega)
                exact ⟨by ((try dsimp only [Ty.den] at *) <;> (repeat' (first | apply And.intro | intro _)) <;> omega), hord _ (mem_of_take_succ ord 0 hi)⟩
              · exact Nat.le_trans (arcs_len hf _) (by omega)
              · have hi : i < ord.length := by ((try dsimp only [Ty.den] at *) <;> (repeat' (first | apply And.intro | intro _)) <;> omega)
                have harcs := fun a (ha : a ∈ sortedF (f.getD (Int.toNat (ord.getD i 0)) (0, [])).2) => arcs_of hf ha
                have hnode : nodeF f num (ord.getD i 0) = ((f.getD (Int.toNat (ord.getD i 0)) (0, [])).1, (sortedF (f.getD (Int.toNat (ord.getD i 0)) (0, [])).2).map (renA num)) := rfl
                have hxl := arcs_len hf (ord.getD i 0)
                generalize List.getD f (Int.toNat (ord.getD i 0)) (0, []) = x at *
                obtain ⟨xt, xa⟩ := x
                simp only at harcs hnode hxl
                have hLl := sortedF_len xa
                generalize sortedF xa = L at *
                refine ev_loop (ι := {k : Nat // k ≤ L.length}) (fun k => ⟨[(2, .bp 2 [] 0), (4, .bp 4 [] 0), (5, .bp 14 [] 0), (7, .bp 7 [] 0), (8, .p (.int .i64) (i : Int)), (9, .bp 9 [] 0), (10, .sr 56 T61 0 L.length), (11, .p (.int .i64) (k.1 : Int))], [(56, .arr 61 T61 ((L.take k.1).map (renA num) ++ L.drop k.1)), (9, .box 59 true [.p T3 xt, .p T57 xa]), (2, .box 25 true [.p T23 f]), (4, .box 25 true [.raw (.slice none 0 0)]), (14, .box 156 true [.p T25 f, .sr 101 T3 0 num.length, .sr 102 T3 0 ord.length]), (101, .arr 3 T3 num), (102, .arr 3 T3 ord), (7, .box 25 true [.sr 200 T59 0 i]), (200, .arr 59 T59 ((ord.take i).map (nodeF f num)))]⟩) (fun k => L.length - k.1) ⟨0, by omega⟩ (ent_match [(2, .nm 2), (4, .nm 4), (14, .nm 14), (101, .nm 101), (102, .nm 102), (7, .nm 7), (200, .nm 200), (9, .nm 9), (56, .nm 56)] rfl rfl ?_ ?_) (fun k => ?_)
                · simp only [go_sem, Nat.reduceEqDiff, reduceCtorEq, Nat.reduceAdd, Nat.reduceSub, Nat.reduceMul, Nat.reduceLeDiff, Nat.reduceLT, Int.reduceLE, Int.reduceToNat, Int.reduceNeg, ↓reduceIte]
                · simp only [go_sem, Nat.reduceEqDiff, reduceCtorEq, Nat.reduceAdd, Nat.reduceSub, Nat.reduceMul, Nat.reduceLeDiff, Nat.reduceLT, Int.reduceLE, Int.reduceToNat, Int.reduceNeg, ↓reduceIte]
                · obtain ⟨k, hk⟩ := k
                  repeat' (first | exact trivial | refine ev_seq ?_ | refine ev_skip ?_ | refine ev_ret ?_ | refine ev_exit ?_ | refine ev_block ?_ | refine ev_out_seq ?_ | refine ev_exit_seq ?_ | refine ev_ret_seq ?_ | refine ev_out_blk ?_ | refine ev_ret_blk ?_ | refine ev_exit_eq ?_ | refine ev_exit_ne (by decide) ?_ | refine ev_exit_inv ?_ | refine ev_ret_inv ?_ | refine ev_out_inv ?_ | refine rP [0, 1, 2, 4, 5, 6, 7, 8, 9, 10, 11, 19, 40, 60] hc ?_ ?_ | refine rA [0, 1, 2, 4, 5, 6, 7, 8, 9, 10, 11, 19, 40, 60] hc ?_ ?_ | refine rD [0, 1, 2, 4, 5, 6, 7, 8, 9, 10, 11, 19, 40, 60] hc ?_ ?_ | refine rT [0, 1, 2, 4, 5, 6, 7, 8, 9, 10, 11, 19, 40, 60] 1 hc ?_ ?_ | refine rT [0, 1, 2, 4, 5, 6, 7, 8, 9, 10, 11, 19, 40, 60] 2 hc ?_ ?_ | refine rT [0, 1, 2, 4, 5, 6, 7, 8, 9, 10, 11, 19, 40, 60] 3 hc ?_ ?_ | (refine rC (fun hcond => ?_) (fun hcond => ?_) <;> try (cases hcond; done)))
                  · have hkL : k < L.length := by ((try dsimp only [Ty.den] at *) <;> (repeat' (first | apply And.intro | intro _)) <;> omega)
                    have e := (map_part (renA num) (fun b => b) L (0, 0) hkL (renA num)).2
                    rw [e]
                    have := harcs _ (mem_of_take_succ L (0, 0) hkL)
                    rw [hn1]
                    exact ⟨by ((try dsimp only [Ty.den] at *) <;> (repeat' (first | apply And.intro | intro _)) <;> omega), this, by ((try dsimp only [Ty.den] at *) <;> (repeat' (first | apply And.intro | intro _)) <;> omega)⟩
                  · ((try dsimp only [Ty.den] at *) <;> (repeat' (first | apply And.intro | intro _)) <;> omega)
                  · have hkL : k < L.length := by ((try dsimp only [Ty.den] at *) <;> (repeat' (first | apply And.intro | intro _)) <;> omega)
                    have e := map_part (renA num) (fun b => b) L (0, 0) hkL (renA num)
                    refine ⟨⟨k + 1, by omega⟩, by simp only; omega, ent_match [(2, .nm 2), (4, .nm 4), (14, .nm 14), (101, .nm 101), (102, .nm 102), (7, .nm 7), (200, .nm 200), (9, .nm 9), (56, .nm 56)] rfl rfl ?_ ?_⟩
                    · simp only [go_sem, Nat.reduceEqDiff, reduceCtorEq, Nat.reduceAdd, Nat.reduceSub, Nat.reduceMul, Nat.reduceLeDiff, Nat.reduceLT, Int.reduceLE, Int.reduceToNat, Int.reduceNeg, ↓reduceIte]
                      rw [e.2]
                      exact e.1
                    · simp only [go_sem, Nat.reduceEqDiff, reduceCtorEq, Nat.reduceAdd, Nat.reduceSub, Nat.reduceMul, Nat.reduceLeDiff, Nat.reduceLT, Int.reduceLE, Int.reduceToNat, Int.reduceNeg, ↓reduceIte]
                  · simp only [maxN]; have := hn2; omega
                  · ((try dsimp only [Ty.den] at *) <;> (repeat' (first | apply And.intro | intro _)) <;> omega)
                  · have hkL : L.take k = L := List.take_of_length_le (by ((try dsimp only [Ty.den] at *) <;> (repeat' (first | apply And.intro | intro _)) <;> omega))
                    have hdL : L.drop k = [] := List.drop_eq_nil_of_le (by ((try dsimp only [Ty.den] at *) <;> (repeat' (first | apply And.intro | intro _)) <;> omega))
                    refine ⟨⟨i + 1, by omega⟩, by simp only; omega, ent_match [(2, .nm 2), (4, .nm 4), (14, .nm 14), (101, .nm 101), (102, .nm 102), (7, .nm 7), (200, .nm 200)] rfl rfl ?_ ?_⟩
                    · simp only [go_sem, Nat.reduceEqDiff, reduceCtorEq, Nat.reduceAdd, Nat.reduceSub, Nat.reduceMul, Nat.reduceLeDiff, Nat.reduceLT, Int.reduceLE, Int.reduceToNat, Int.reduceNeg, ↓reduceIte]
                      rw [hkL, hdL, List.append_nil, take_snoc ord 0 hi, List.map_append, List.map_cons, List.map_nil, hnode]
                      have t1 : List.take i ((ord.take i).map (nodeF f num)) = (ord.take i).map (nodeF f num) := List.take_of_length_le (by rw [List.length_map, List.length_take]; omega)
                      have t2 : List.take L.length (L.map (renA num)) = L.map (renA num) := List.take_of_length_le (by rw [List.length_map]; omega)
                      rw [t1, t2]
                    · simp only [go_sem, Nat.reduceEqDiff, reduceCtorEq, Nat.reduceAdd, Nat.reduceSub, Nat.reduceMul, Nat.reduceLeDiff, Nat.reduceLT, Int.reduceLE, Int.reduceToNat, Int.reduceNeg, ↓reduceIte]
              · have hk : ord.take i = ord := List.take_of_length_le (by ((try dsimp only [Ty.den] at *) <;> (repeat' (first | apply And.intro | intro _)) <;> omega))
                rw [hk]
                refine ev_fin hc [.cell 4 25] rfl (.inl rfl) (by simp) (by simp only [retIs, resIs, resV, resLoad, avNames, pureOf, ownOf, go_sem, Nat.reduceEqDiff, reduceCtorEq, Nat.reduceAdd, Nat.reduceSub, Nat.reduceMul, Nat.reduceLeDiff, Nat.reduceLT, Int.reduceLE, Int.reduceToNat, Int.reduceNeg, ↓reduceIte]; exact List.take_of_length_le (by rw [List.length_map]; ((try dsimp only [Ty.den] at *) <;> (repeat' (first | apply And.intro | intro _)) <;> omega)))
end Go.Proofs.Ytfdkpbmofgkaoaa.Fw
