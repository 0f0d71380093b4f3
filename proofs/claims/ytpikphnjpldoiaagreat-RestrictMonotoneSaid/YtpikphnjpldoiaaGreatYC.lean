/- The contracts of the program's functions that restrict; what they compute. -/
/- Functions of restrict: part, at its three closures. -/
import Derived.Test.YtpikphnjpldoiaaGreatYB
import Derived.Test.YtpikphnjpldoiaaGreatYA
import Derived.Test.YtpikphnjpldoiaaGreatZJ
set_option linter.unusedVariables false
set_option linter.unusedSimpArgs false
namespace Go.Proofs.YtpikphnjpldoiaaGreat.Fw
open Go
attribute [local irreducible] Ev
attribute [local go_sem] cx_tb entEnv List.toList_toArray evSeq evG evK vcK guardOf guardT guardB_true guardB_false step1 step0 stepQ takesIn namesParts namesOf namesStore frzAll frz frz1 fixN frzEnv frzObjs drpEnv drpObjs AV.frz AV.frzs AV.drp AV.drps AV.names AV.namess aq qmap qPick qAlloc qBox qBuild qBuildSlice qBuildSlice2 qLoad qLoadB qLoadB2 qLoadE qLoadE2 qLoadE3 qFieldI qOff qPart qField qIndexA qIndex qIndexS qNil qBin qUn qConv qMake qMake2 qSlice qExtract qLen qAppend qAppend2 qAppend3 qMin qMax qCall qCall2 qCall3 qBuiltin qCallee aloud lStoreD lStore lStoreB lStoreB2 lStoreE lStoreE3 lStoreE4 lCallee lBuiltin lAppend lAppend2 lAppend3 lAppend4 opv lk constAV optAV sliceQ bin binI binS zf1 zfs pfs AV.cells nthOff loadB offB storeB notAg fitsT fitsO Ty.cell1 fieldOk partsT partsAg argsT asT asT1 asTs pairO srT castTo_self getF setF getP setP offP offF fldT rvAV rvObj rvAVs rvObjs resAV RV.flat Ty.flat Ty.size St.add upd del fresh Value.oneCell' refZ Ty.dflt sub_all sub_one sub_take sub_end List.take_succ_cons List.take_zero List.length_cons cast0 castS sub_app take_app sub_app1 take_app1 take_one1 natC zero_le_natC i64_min i64_max u64_min u64_max u8_min u8_max inK_i64 inK_u64 inK_u8 Option.map_some Option.map_none Option.bind_some Option.getD_some Option.getD_none Option.isNone_none Option.isNone_some Bool.and_true Bool.true_and Bool.and_false Bool.false_and Bool.not_true Bool.not_false if_true if_false List.length_cons List.length_nil and_true true_and and_self List.all_cons List.all_nil List.append_nil List.nil_append List.cons_append List.getElem?_cons_zero List.getElem?_cons_succ List.getElem?_nil List.map_cons List.map_nil List.set_cons_zero List.set_cons_succ List.isEmpty_nil List.isEmpty_cons decide_true decide_false beq_self_eq_true bne_self_eq_false Nat.zero_add Nat.add_zero Nat.sub_zero Int.toNat_natCast Int.toNat_zero Int.toNat_one List.take_length List.length_append List.length_singleton true_or or_true or_self false_or or_false Ty.agg.injEq Ty.slice.injEq Ty.prod.injEq Ty.int.injEq Option.some.injEq beq_iff_eq evM evMG evMQ opM isPick viewE viewS viewG opTs opTmp consE guardM guardM1 guardM2 sideM sideM2 pickM pickM2 sufB chEq_nil chEq_nc chEq_cn chEq_cons memB dstOf Op.operands Call.operands List.filterMap_cons List.filterMap_nil List.append_eq Bool.cond_false_right Bool.cond_true_left cond_true cond_false implies_true decide_eq_true_eq beq_true beq_false Bool.or_true Bool.or_false Bool.true_or Bool.false_or Option.isSome_some fieldV namesAg namesAgs capNs qClo qClo2 qMakeMap qMakeMap2 qMakeMap3 qLook qLook2 qLook3 qLook4 keyT keyP eqT inB lMapUp lMapUp2 lMapUp3 namesMap argEnv cm_tb List.drop_zero pruneR prune rem1 afterM addDst fgtEnv AV.fgt AV.fgts Obj.fgt restObjs handed memB calleeOf opvs matchArgs matchArg List.any_cons List.any_nil evF evFO evFQ evFK addQ frOk qs List.flatMap_cons List.flatMap_nil List.cons_append tn appN fgtEN List.take_succ_cons List.drop_succ_cons isYl parEnv rangeSt cY_tb marked_tb renOk renIn matchObjs matchEnv matchE matchAV matchAVs matchF matchO
attribute [local go_sem] ty1 ty2 ty3 ty4 ty5 ty9 ty12 ty21 ty22 ty23 ty24 ty25 ty26 ty27 ty28 ty29 ty30 ty31 ty32 ty33 ty34 ty35 ty36 ty37 ty38 ty39 ty40 ty41 ty42 ty43 ty44 ty45 ty46 ty47 ty48 ty49 ty50 ty51 ty52 ty53 ty54 ty55 ty56 ty57 ty58 ty60 ty61 ty62 ty64 ty65 ty66 ty67 ty68 ty70 ty71 ty72 ty74 ty75 ty76 ty77 ty78 ty79 ty80 ty81 ty82 ty83 ty84 ty85 ty87 ty89 ty91 ty92 ty93 ty94 ty95 ty96 ty97 ty98 ty99 ty100 ty101 ty102 ty103 ty104 ty105 ty106 ty107 ty108 ty109 ty110 ty111 ty112 ty113 ty114 ty115 ty117 ty118 ty120 ty121 ty122 ty123 ty124 ty125 ty126 ty127 ty128 ty130 ty131 ty132 ty133 ty134 ty135 ty136 ty137 ty138 ty139 ty140 ty141 ty142 ty143 ty144 ty145 ty146 ty147 ty148 ty149 ty150 ty151 ty154 ty155 ty156 ty158 ty159 ty160 ty161 ty162 ty163 ty164 ty165 ty166 ty167 ty169 ty170 ty171 ty172 ty173 ty174 ty175 ty176 ty177 ty178 ty179 ty180 ty181 ty182 ty183 ty184 ty185 ty186 ty187 ty188 ty190 ty191 ty192 ty193 ty194 ty195 ty196 ty197 ty198 ty199 ty200 ty201 ty202 ty203 ty204 ty205 ty207 ty208 ty209 ty210 ty211 ty212 ty213 ty214 ty215 ty216 ty217 ty218 ty219 ty220 ty221 ty222 ty223 ty224 ty225 ty226 ty227 ty228 ty229 ty230 ty231 ty232 ty233 ty234 ty236 ty237 ty238 ty239 ty240 ty241 ty242 ty243 ty244 ty245 ty246 ty247 ty248 ty249 ty250 ty251 ty257 ty260 ty261
set_option maxRecDepth 100000
set_option maxHeartbeats 4000000
section
attribute [local go_sem] subS canonicalS
def partN (acc : Int → Int × Int → Bool) (f : List GNode) (i : Nat) : GNode := ((f.getD i (0, [])).1, (f.getD i (0, [])).2.filter (acc (i : Int)))
def partL (acc : Int → Int × Int → Bool) (f : List GNode) (i : Nat) : List GNode := (List.range i).map (partN acc f)
def partF (acc : Int → Int × Int → Bool) (f : List GNode) : List GNode := canonicalF (partL acc f f.length) 0
theorem partL_len (acc : Int → Int × Int → Bool) (f : List GNode) (i : Nat) : (partL acc f i).length = i := by simp [partL]
theorem partL_succ (acc : Int → Int × Int → Bool) (f : List GNode) (i : Nat) : partL acc f (i + 1) = partL acc f i ++ [partN acc f i] := by simp [partL, List.range_succ]
theorem srtA_iff (l : List (Int × Int)) : SrtA l ↔ l.Pairwise (fun a b => a.1 < b.1) := by
  constructor
  · intro h
    rw [List.pairwise_iff_getElem]
    have key : ∀ d i, i + d + 1 < l.length → (l.getD i (0, 0)).1 < (l.getD (i + d + 1) (0, 0)).1 := by
      intro d
      induction d with
      | zero => intro i hi; exact h i hi
      | succ d ih =>
        intro i hi
        have h1 := ih i (by omega)
        have h2 := h (i + d + 1) (by omega)
        have : i + (d + 1) + 1 = i + d + 1 + 1 := by omega
        rw [this]
        omega
    intro i j hi hj hij
    have h1 := key (j - i - 1) i (by omega)
    rw [show i + (j - i - 1) + 1 = j by omega] at h1
    simpa [List.getD_eq_getElem?_getD, hi, hj] using h1
  · intro h i hi
    rw [List.pairwise_iff_getElem] at h
    have := h i (i + 1) (by omega) hi (by omega)
    simpa [List.getD_eq_getElem?_getD, hi, show i < l.length by omega] using this
theorem srtA_filter {l : List (Int × Int)} (h : SrtA l) (p : Int × Int → Bool) : SrtA (l.filter p) := by
  rw [srtA_iff] at h ⊢
  exact h.sublist List.filter_sublist
theorem part_good {f : List GNode} (hf : GoodF f) (hs : SrtF f) (acc : Int → Int × Int → Bool) : GoodF (partL acc f f.length) ∧ SrtF (partL acc f f.length) := by
  have hget : ∀ i, i < f.length → f.getD i (0, []) ∈ f := fun i hi => mem_of_take_succ f (0, []) hi
  refine ⟨⟨by rw [partL_len]; exact hf.1, fun x hx => ?_⟩, fun x hx => ?_⟩
  · obtain ⟨i, hi, rfl⟩ := List.mem_map.1 hx
    have hi : i < f.length := List.mem_range.1 hi
    obtain ⟨h1, h2⟩ := hf.2 _ (hget i hi)
    rw [partL_len]
    exact ⟨Nat.le_trans (List.length_filter_le _ _) h1, fun a ha => h2 a (List.mem_filter.1 ha).1⟩
  · obtain ⟨i, hi, rfl⟩ := List.mem_map.1 hx
    have hi : i < f.length := List.mem_range.1 hi
    obtain ⟨h1, h2⟩ := hs _ (hget i hi)
    exact ⟨srtA_filter h1 _, Nat.le_trans (List.length_filter_le _ _) h2⟩
theorem filter_snoc (p : Int × Int → Bool) (l : List (Int × Int)) {k : Nat} (h : k < l.length) : (l.take (k + 1)).filter p = (l.take k).filter p ++ (if p (l.getD k (0, 0)) then [l.getD k (0, 0)] else []) := by
  rw [take_snoc l (0, 0) h, List.filter_append]
  congr 1
  rw [List.filter_cons, List.filter_nil]
def accD (l : List (Int × Bool)) (_ : Int) (a : Int × Int) : Bool := !((mfind T3 .bool a.1 l).getD false)
theorem dropC_ok (l : List (Int × Bool)) (n : Int) (a : Int × Int) : CallM Tryz.prog 45 [.p T3 n, .p T77 a, .bp 1 [] 0] [(1, .box 79 false [.mp 3]), (3, .mapo T3 .bool l)] [1, 3] (fun res objs' => res = .p .bool (accD l n a) ∧ objs' = [(1, .box 79 false [.mp 3]), (3, .mapo T3 .bool l)]) := by
  refine fnM_ok Tryz.func45 (by kernel_rfl) rfl Tryz.ntmps45 (by simp only [List.length_cons, List.length_nil]; omega) (by kernel_rfl) rfl rfl (tyTab_ok []) fns_nil ?_
  intro w0 K O0 ρ0 hc hok1 hok2
  simp only [argEnv]
  repeat' (first | exact trivial | refine eS rfl ?_ | refine ev_out_inv ?_ | refine rX [1, 2, 4, 5] hc ?_ ?_ | (refine rC (fun hcond => ?_) (fun hcond => ?_) <;> try (cases hcond; done)))
  refine Ev.ent (σ' := ⟨[(5, .p .bool (accD l n a))], [(1, .box 79 false [.mp 3]), (3, .mapo T3 .bool l)]⟩) ?_ (ent_match [(1, .nm 1), (3, .nm 3)] rfl rfl ?_ ?_)
  · exact ev_finM hc [.tmp 5] rfl (.inl rfl) (.p .bool (accD l n a)) (by simp only [retAV, ret1, retAVs, notAT, resV, resLoad, pureOf, go_sem, Nat.reduceEqDiff, reduceCtorEq, Nat.reduceAdd, Nat.reduceSub, Nat.reduceMul, Nat.reduceLeDiff, Nat.reduceLT, Int.reduceLE, Int.reduceToNat, Int.reduceNeg, ↓reduceIte]) ⟨rfl, rfl⟩
  · first | exact eN | refine eM ?_
  · first | exact eN | refine eM ?_
    rfl
theorem partD_ok (f : List GNode) (hf : GoodF f) (hs : SrtF f) (h0 : 0 < f.length) (l : List (Int × Bool)) : CallM Tryz.prog 44 [.p T25 f, .clo 45 [1]] [(1, .box 79 false [.mp 3]), (3, .mapo T3 .bool l)] [1, 3] (fun res _ => res = .p T25 (partF (accD l) f)) := by
  refine fnM_ok Tryz.func44 (by kernel_rfl) rfl Tryz.ntmps44 (by simp only [List.length_cons, List.length_nil]; omega) (by kernel_rfl) rfl rfl (tyTab_ok [(75, subS)]) (fns_cons sub_ok fns_nil) ?_
  intro w0 K O0 ρ0 hc hok1 hok2
  simp only [argEnv]
  have hfl := hf.1
  repeat' (first | exact trivial | refine eS rfl ?_ | refine ev_out_inv ?_ | refine rX [0, 1, 2, 4, 5, 6, 7, 8, 10, 12, 13, 14, 15, 23, 24, 25, 26, 32] hc ?_ ?_ | (refine rC (fun hcond => ?_) (fun hcond => ?_) <;> try (cases hcond; done)))
  refine ev_loop (ι := {i : Nat // i ≤ f.length}) (fun i => ⟨[(1, .clo 45 [1]), (2, .bp 2 [] 0), (4, .bp 4 [] 0), (5, .bp 5 [] 0), (12, .p T23 f), (13, .p (.int .i64) (f.length : Int)), (14, .p (.int .i64) (i.1 : Int))], [(5, .box 25 true [.sr 44 T45 0 i.1]), (4, .box 25 true [.raw (.slice none 0 0)]), (2, .box 25 true [.p T23 f]), (44, .arr 45 T45 (partL (accD l) f i.1)), (1, .box 79 false [.mp 3]), (3, .mapo T3 .bool l)]⟩) (fun i => f.length - i.1) ⟨0, by omega⟩ (ent_match [(5, .nm 5), (4, .nm 4), (2, .nm 2), (44, .nil), (1, .nm 1), (3, .nm 3)] rfl rfl ?_ ?_) (fun i => ?_)
  · first | exact eN | refine eM ?_
    rfl
  · first | exact eN | refine eM ?_
  · obtain ⟨i, hi⟩ := i
    repeat' (first | exact trivial | refine eS rfl ?_ | refine ev_out_inv ?_ | refine rX [0, 1, 2, 4, 5, 6, 7, 8, 10, 12, 13, 14, 15, 23, 24, 25, 26, 32] hc ?_ ?_ | (refine rC (fun hcond => ?_) (fun hcond => ?_) <;> try (cases hcond; done)))
    · exact eV
    · have hif : i < f.length := by exact eV
      have hx : (f.getD i (0, [])).2.length ≤ 100000 := (hf.2 _ (mem_of_take_succ f (0, []) hif)).1
      have hpn : partN (accD l) f i = ((f.getD i (0, [])).1, (f.getD i (0, [])).2.filter ((accD l) (i : Int))) := rfl
      generalize hgx : f.getD i (0, []) = x at *
      obtain ⟨xt, L⟩ := x
      simp only at hx hpn
      refine ev_loop (ι := {k : Nat // k ≤ L.length}) (fun k => ⟨[(1, .clo 45 [1]), (2, .bp 2 [] 0), (4, .bp 4 [] 0), (5, .bp 5 [] 0), (6, .p (.int .i64) (i : Int)), (8, .bp 8 [] 0), (12, .p T23 f), (13, .p (.int .i64) (f.length : Int)), (14, .p (.int .i64) (i : Int)), (23, .p T43 L), (24, .p (.int .i64) (L.length : Int)), (25, .p (.int .i64) (k.1 : Int))], [(8, .box 45 true [.p T3 xt, .sr 37 T77 0 ((L.take k.1).filter ((accD l) (i : Int))).length]), (37, .arr 77 T77 ((L.take k.1).filter ((accD l) (i : Int)))), (5, .box 25 true [.sr 44 T45 0 i]), (4, .box 25 true [.raw (.slice none 0 0)]), (2, .box 25 true [.p T23 f]), (44, .arr 45 T45 (partL (accD l) f i)), (1, .box 79 false [.mp 3]), (3, .mapo T3 .bool l)]⟩) (fun k => L.length - k.1) ⟨0, by omega⟩ (ent_match [(8, .nm 8), (37, .nil), (5, .nm 5), (4, .nm 4), (2, .nm 2), (44, .nm 44), (1, .nm 1), (3, .nm 3)] rfl rfl ?_ ?_) (fun k => ?_)
      · first | exact eN | refine eM ?_
        exact ⟨rfl, rfl⟩
      · first | exact eN | refine eM ?_
      · obtain ⟨k, hk⟩ := k
        repeat' (first | exact trivial | refine eS rfl ?_ | refine ev_out_inv ?_ | refine rX [0, 1, 2, 4, 5, 6, 7, 8, 10, 12, 13, 14, 15, 23, 24, 25, 26, 32] hc ?_ ?_ | (refine rC (fun hcond => ?_) (fun hcond => ?_) <;> try (cases hcond; done)))
        · exact eV
        · have hkL : k < L.length := by exact eV
          have hlf := List.length_filter_le ((accD l) (i : Int)) (L.take k)
          have hlt := List.length_take_le k L
          have hsn := filter_snoc ((accD l) (i : Int)) L hkL
          refine cP 3 hc ?_ ?_
          · trivial
          · refine rM hc (dropC_ok l (i : Int) (L.getD k (0, 0))) [(1, .nm 1), (3, .nm 3)] [] ?_ ?_ ?_
            · first | exact eN | refine eM ?_
            · first | exact eN | refine eM ?_
            · rintro _ _ ⟨rfl, rfl⟩
              refine ⟨[(1, .nm 1), (3, .nm 3)], .p .bool ((accD l) (i : Int) (L.getD k (0, 0))), [(1, .box 79 false [.mp 3]), (3, .mapo T3 .bool l)], rfl, rfl, ?_, ?_, rfl, rfl, evL_end ?_⟩
              · first | exact eN | refine eM ?_
              · first | exact eN | refine eM ?_
              · generalize hac : (accD l) (i : Int) (L.getD k (0, 0)) = ac at *
                repeat' (first | exact trivial | refine eS rfl ?_ | refine ev_out_inv ?_ | refine rX [0, 1, 2, 4, 5, 6, 7, 8, 10, 12, 13, 14, 15, 23, 24, 25, 26, 32] hc ?_ ?_ | (refine rC (fun hcond => ?_) (fun hcond => ?_) <;> try (cases hcond; done)))
                · simp only [maxN]
                  omega
                · exact eV
                · have hcond : ac = true := hcond
                  subst hcond
                  rw [if_pos rfl] at hsn
                  refine ⟨⟨k + 1, by omega⟩, by simp only; omega, ent_match [(8, .nm 8), (37, .nm 37), (5, .nm 5), (4, .nm 4), (2, .nm 2), (44, .nm 44), (1, .nm 1), (3, .nm 3)] rfl rfl ?_ ?_⟩
                  · simp only [hsn]
                    first | exact eN | refine eM ?_
                  · first | exact eN | refine eM ?_
                · exact eV
                · have hcond : ac = false := hcond
                  subst hcond
                  rw [if_neg (by simp)] at hsn
                  rw [List.append_nil] at hsn
                  refine ⟨⟨k + 1, by omega⟩, by simp only; omega, ent_match [(8, .nm 8), (37, .nm 37), (5, .nm 5), (4, .nm 4), (2, .nm 2), (44, .nm 44), (1, .nm 1), (3, .nm 3)] rfl rfl ?_ ?_⟩
                  · simp only [hsn]
                    first | exact eN | refine eM ?_
                  · first | exact eN | refine eM ?_
        · simp only [maxN]; omega
        · exact eV
        · have hkL : L.take k = L := List.take_of_length_le (by exact eV)
          rw [hkL]
          refine ⟨⟨i + 1, by omega⟩, by simp only; omega, ent_match [(5, .nm 5), (4, .nm 4), (2, .nm 2), (44, .nm 44), (1, .nm 1), (3, .nm 3)] rfl rfl ?_ ?_⟩
          · simp only [partL_succ, hpn]
            first | exact eN | refine eM ?_
            rw [List.take_of_length_le (Nat.le_of_eq (partL_len _ f i))]
          · first | exact eN | refine eM ?_
    · have hif : i = f.length := by exact eV
      subst hif
      obtain ⟨hg1, hg2⟩ := part_good hf hs (accD l)
      have hpl := partL_len (accD l) f f.length
      have hpf : partF (accD l) f = canonicalF (partL (accD l) f f.length) 0 := rfl
      refine Ev.ent ?_ (ent_frz [44] (by simp only [go_sem, Nat.reduceEqDiff, reduceCtorEq, Nat.reduceAdd, Nat.reduceSub, Nat.reduceMul, Nat.reduceLeDiff, Nat.reduceLT, Int.reduceLE, Int.reduceToNat, Int.reduceNeg, ↓reduceIte]; rfl) (fun _ _ h => h))
      have htl : (partL (accD l) f f.length).take f.length = partL (accD l) f f.length := List.take_of_length_le (Nat.le_of_eq hpl)
      rw [hpf]
      rw [htl]
      generalize partL (accD l) f f.length = g at *
      repeat' (first | exact trivial | refine eS rfl ?_ | refine ev_out_inv ?_ | refine rX [0, 1, 2, 4, 5, 6, 7, 8, 10, 12, 13, 14, 15, 23, 24, 25, 26, 32] hc ?_ ?_ | (refine rC (fun hcond => ?_) (fun hcond => ?_) <;> try (cases hcond; done)))
      · exact ⟨hg1, hg2, by exact eV⟩
      · exact ev_finM hc [.cell 4 25] rfl (.inl rfl) (.p T25 (canonicalF g 0)) (by simp only [retAV, ret1, retAVs, notAT, resV, resLoad, pureOf, go_sem, Nat.reduceEqDiff, reduceCtorEq, Nat.reduceAdd, Nat.reduceSub, Nat.reduceMul, Nat.reduceLeDiff, Nat.reduceLT, Int.reduceLE, Int.reduceToNat, Int.reduceNeg, ↓reduceIte]) rfl
def goneF (l : List Int) : List (Int × Bool) := l.foldl (fun m x => mput T3 .bool x true m) []
def pdropF (f : List GNode) (l : List Int) : List GNode := partF (accD (goneF l)) f
def pdropS : Spec := { ins := [T25, T26], pre := fun (f, l, _) => GoodF f ∧ SrtF f ∧ 0 < List.length f ∧ List.length l ≤ 100000, out := fun (f, l, _) => [.p T25 (pdropF f l)] }
theorem pdrop_ok : FnOk Tryz.prog 17 pdropS := by
  refine fn_ok Tryz.func17 (by kernel_rfl) rfl Tryz.ntmps17 (by decide) (by kernel_rfl) (tyTab_ok []) fns_nil ?_
  rintro w0 O0 ⟨f, l, u⟩ hc - ⟨hf, hs, h0, hl⟩
  simp only [pdropS, entEnv]
  repeat' (first | exact trivial | refine eS rfl ?_ | refine ev_out_inv ?_ | refine rX [0, 1, 2, 4, 5, 7, 9, 10, 11, 12] hc ?_ ?_ | (refine rC (fun hcond => ?_) (fun hcond => ?_) <;> try (cases hcond; done)))
  refine ev_loop (ι := {i : Nat // i ≤ l.length}) (fun i => ⟨[(2, .bp 2 [] 0), (4, .bp 4 [] 0), (5, .bp 5 [] 0), (9, .p T26 l), (10, .p (.int .i64) (l.length : Int)), (11, .p (.int .i64) (i.1 : Int))], [(4, .box 25 true [.raw (.slice none 0 0)]), (2, .box 25 true [.p T23 f]), (5, .box 79 false [.mp 8]), (8, .mapo T3 .bool (goneF (l.take i.1)))]⟩) (fun i => l.length - i.1) ⟨0, by omega⟩ (ent_match [(4, .nm 4), (2, .nm 2), (5, .nm 5), (8, .nm 8)] rfl rfl ?_ ?_) (fun i => ?_)
  · first | exact eN | refine eM ?_
    rfl
  · first | exact eN | refine eM ?_
  · obtain ⟨i, hi⟩ := i
    have hsn := fun h : i < l.length => fold_take (fun m x => mput T3 .bool x true m) l (0 : Int) [] h
    repeat' (first | exact trivial | refine eS rfl ?_ | refine ev_out_inv ?_ | refine rX [0, 1, 2, 4, 5, 7, 9, 10, 11, 12] hc ?_ ?_ | (refine rC (fun hcond => ?_) (fun hcond => ?_) <;> try (cases hcond; done)))
    · exact eV
    · exact eV
    · have hil : i < l.length := by exact eV
      refine ⟨⟨i + 1, by omega⟩, by simp only; omega, ent_match [(4, .nm 4), (2, .nm 2), (5, .nm 5), (8, .nm 8)] rfl rfl ?_ ?_⟩
      · first | exact eN | refine eM ?_
        exact (hsn hil).symm
      · first | exact eN | refine eM ?_
    · have hk : l.take i = l := List.take_of_length_le (by exact eV)
      rw [hk]
      refine cP 2 hc ?_ ?_
      · trivial
      · refine rM hc (partD_ok f hf hs h0 (goneF l)) [(1, .nm 5), (3, .nm 8)] [5, 8] ?_ ?_ ?_
        · first | exact eN | refine eM ?_
        · first | exact eN | refine eM ?_
        · rintro _ _ rfl
          refine ⟨[], .p T25 (pdropF f l), [], rfl, rfl, trivial, ?_, rfl, rfl, ?_⟩
          · unfold pdropF
            first | exact eN | refine eM ?_
          · refine rL [4] hc ?_ ?_
            · trivial
            · repeat' (first | exact trivial | refine eS rfl ?_ | refine ev_out_inv ?_ | refine rX [0, 1, 2, 4, 5, 7, 9, 10, 11, 12] hc ?_ ?_ | (refine rC (fun hcond => ?_) (fun hcond => ?_) <;> try (cases hcond; done)))
              exact ev_fin hc [.cell 4 25] rfl (.inl rfl) (by simp) (by first | exact eR | refine eRM ?_)
theorem mfind_mput {vt : Ty} (x k : Int) (v : vt.den) (m : List (Int × vt.den)) : mfind T3 vt x (mput T3 vt k v m) = if x = k then some v else mfind T3 vt x m := by
  induction m with
  | nil => simp [mput, mfind, eqT]
  | cons y m ih =>
    simp only [mput]
    by_cases hy : eqT T3 k y.1 = true
    · rw [if_pos hy]
      have hky : k = y.1 := by simpa [eqT] using hy
      simp only [mfind, eqT, beq_iff_eq]
      by_cases hx : x = k
      · rw [if_pos hx, if_pos hx]
      · rw [if_neg hx, if_neg hx, if_neg (by rw [← hky]; exact hx)]
    · rw [if_neg hy]
      have hky : ¬ k = y.1 := by simpa [eqT] using hy
      simp only [mfind]
      by_cases hx : eqT T3 x y.1 = true
      · have hxy : x = y.1 := by simpa [eqT] using hx
        rw [if_pos hx, if_pos hx, if_neg (by rw [hxy]; exact fun e => hky e.symm)]
      · rw [if_neg hx, if_neg hx, ih]
theorem gone_in (l : List Int) (x : Int) : (mfind T3 .bool x (goneF l)).getD false = inF l x := by
  induction l using list_snoc_ind with
  | h0 => rfl
  | h1 l a ih =>
    have e : goneF (l ++ [a]) = mput T3 .bool a true (goneF l) := by simp [goneF]
    rw [e, mfind_mput]
    by_cases hx : x = a
    · rw [if_pos hx]; subst hx; simp [inF]
    · rw [if_neg hx, ih]
      simp only [inF, List.any_append, List.any_cons, List.any_nil, Bool.or_false]
      have : (a == x) = false := by simpa using fun e => hx e.symm
      rw [this, Bool.or_false]
end
/- Functions of restrict: Keep. -/
section
attribute [local go_sem] subS canonicalS
abbrev KMap := List ((Int × Int) × Bool)
def accK (l : KMap) (n : Int) (a : Int × Int) : Bool := (mfind T84 .bool (n, a.1) l).getD false
theorem keepC_ok (l : KMap) (n : Int) (a : Int × Int) : CallM Tryz.prog 46 [.p T3 n, .p T77 a, .bp 1 [] 0] [(1, .box 82 false [.mp 3]), (3, .mapo T84 .bool l)] [1, 3] (fun res objs' => res = .p .bool (accK l n a) ∧ objs' = [(1, .box 82 false [.mp 3]), (3, .mapo T84 .bool l)]) := by
  refine fnM_ok Tryz.func46 (by kernel_rfl) rfl Tryz.ntmps46 (by simp only [List.length_cons, List.length_nil]; omega) (by kernel_rfl) rfl rfl (tyTab_ok []) fns_nil ?_
  intro w0 K O0 ρ0 hc hok1 hok2
  simp only [argEnv]
  repeat' (first | exact trivial | refine eS rfl ?_ | refine ev_out_inv ?_ | refine rX [0, 1, 2, 4, 5] hc ?_ ?_ | (refine rC (fun hcond => ?_) (fun hcond => ?_) <;> try (cases hcond; done)))
  refine Ev.ent (σ' := ⟨[(5, .p .bool (accK l n a))], [(1, .box 82 false [.mp 3]), (3, .mapo T84 .bool l)]⟩) ?_ (ent_match [(1, .nm 1), (3, .nm 3)] rfl rfl ?_ ?_)
  · exact ev_finM hc [.tmp 5] rfl (.inl rfl) (.p .bool (accK l n a)) (by simp only [retAV, ret1, retAVs, notAT, resV, resLoad, pureOf, go_sem, Nat.reduceEqDiff, reduceCtorEq, Nat.reduceAdd, Nat.reduceSub, Nat.reduceMul, Nat.reduceLeDiff, Nat.reduceLT, Int.reduceLE, Int.reduceToNat, Int.reduceNeg, ↓reduceIte]) ⟨rfl, rfl⟩
  · first | exact eN | refine eM ?_
  · first | exact eN | refine eM ?_
    rfl
theorem partK_ok (f : List GNode) (hf : GoodF f) (hs : SrtF f) (h0 : 0 < f.length) (l : KMap) : CallM Tryz.prog 44 [.p T25 f, .clo 46 [1]] [(1, .box 82 false [.mp 3]), (3, .mapo T84 .bool l)] [1, 3] (fun res _ => res = .p T25 (partF (accK l) f)) := by
  refine fnM_ok Tryz.func44 (by kernel_rfl) rfl Tryz.ntmps44 (by simp only [List.length_cons, List.length_nil]; omega) (by kernel_rfl) rfl rfl (tyTab_ok [(75, subS)]) (fns_cons sub_ok fns_nil) ?_
  intro w0 K O0 ρ0 hc hok1 hok2
  simp only [argEnv]
  have hfl := hf.1
  repeat' (first | exact trivial | refine eS rfl ?_ | refine ev_out_inv ?_ | refine rX [0, 1, 2, 4, 5, 6, 7, 8, 10, 12, 13, 14, 15, 23, 24, 25, 26, 32] hc ?_ ?_ | (refine rC (fun hcond => ?_) (fun hcond => ?_) <;> try (cases hcond; done)))
  refine ev_loop (ι := {i : Nat // i ≤ f.length}) (fun i => ⟨[(1, .clo 46 [1]), (2, .bp 2 [] 0), (4, .bp 4 [] 0), (5, .bp 5 [] 0), (12, .p T23 f), (13, .p (.int .i64) (f.length : Int)), (14, .p (.int .i64) (i.1 : Int))], [(5, .box 25 true [.sr 44 T45 0 i.1]), (4, .box 25 true [.raw (.slice none 0 0)]), (2, .box 25 true [.p T23 f]), (44, .arr 45 T45 (partL (accK l) f i.1)), (1, .box 82 false [.mp 3]), (3, .mapo T84 .bool l)]⟩) (fun i => f.length - i.1) ⟨0, by omega⟩ (ent_match [(5, .nm 5), (4, .nm 4), (2, .nm 2), (44, .nil), (1, .nm 1), (3, .nm 3)] rfl rfl ?_ ?_) (fun i => ?_)
  · first | exact eN | refine eM ?_
    rfl
  · first | exact eN | refine eM ?_
  · obtain ⟨i, hi⟩ := i
    repeat' (first | exact trivial | refine eS rfl ?_ | refine ev_out_inv ?_ | refine rX [0, 1, 2, 4, 5, 6, 7, 8, 10, 12, 13, 14, 15, 23, 24, 25, 26, 32] hc ?_ ?_ | (refine rC (fun hcond => ?_) (fun hcond => ?_) <;> try (cases hcond; done)))
    · exact eV
    · have hif : i < f.length := by exact eV
      have hx : (f.getD i (0, [])).2.length ≤ 100000 := (hf.2 _ (mem_of_take_succ f (0, []) hif)).1
      have hpn : partN (accK l) f i = ((f.getD i (0, [])).1, (f.getD i (0, [])).2.filter ((accK l) (i : Int))) := rfl
      generalize hgx : f.getD i (0, []) = x at *
      obtain ⟨xt, L⟩ := x
      simp only at hx hpn
      refine ev_loop (ι := {k : Nat // k ≤ L.length}) (fun k => ⟨[(1, .clo 46 [1]), (2, .bp 2 [] 0), (4, .bp 4 [] 0), (5, .bp 5 [] 0), (6, .p (.int .i64) (i : Int)), (8, .bp 8 [] 0), (12, .p T23 f), (13, .p (.int .i64) (f.length : Int)), (14, .p (.int .i64) (i : Int)), (23, .p T43 L), (24, .p (.int .i64) (L.length : Int)), (25, .p (.int .i64) (k.1 : Int))], [(8, .box 45 true [.p T3 xt, .sr 37 T77 0 ((L.take k.1).filter ((accK l) (i : Int))).length]), (37, .arr 77 T77 ((L.take k.1).filter ((accK l) (i : Int)))), (5, .box 25 true [.sr 44 T45 0 i]), (4, .box 25 true [.raw (.slice none 0 0)]), (2, .box 25 true [.p T23 f]), (44, .arr 45 T45 (partL (accK l) f i)), (1, .box 82 false [.mp 3]), (3, .mapo T84 .bool l)]⟩) (fun k => L.length - k.1) ⟨0, by omega⟩ (ent_match [(8, .nm 8), (37, .nil), (5, .nm 5), (4, .nm 4), (2, .nm 2), (44, .nm 44), (1, .nm 1), (3, .nm 3)] rfl rfl ?_ ?_) (fun k => ?_)
      · first | exact eN | refine eM ?_
        exact ⟨rfl, rfl⟩
      · first | exact eN | refine eM ?_
      · obtain ⟨k, hk⟩ := k
        repeat' (first | exact trivial | refine eS rfl ?_ | refine ev_out_inv ?_ | refine rX [0, 1, 2, 4, 5, 6, 7, 8, 10, 12, 13, 14, 15, 23, 24, 25, 26, 32] hc ?_ ?_ | (refine rC (fun hcond => ?_) (fun hcond => ?_) <;> try (cases hcond; done)))
        · exact eV
        · have hkL : k < L.length := by exact eV
          have hlf := List.length_filter_le ((accK l) (i : Int)) (L.take k)
          have hlt := List.length_take_le k L
          have hsn := filter_snoc ((accK l) (i : Int)) L hkL
          refine cP 3 hc ?_ ?_
          · trivial
          · refine rM hc (keepC_ok l (i : Int) (L.getD k (0, 0))) [(1, .nm 1), (3, .nm 3)] [] ?_ ?_ ?_
            · first | exact eN | refine eM ?_
            · first | exact eN | refine eM ?_
            · rintro _ _ ⟨rfl, rfl⟩
              refine ⟨[(1, .nm 1), (3, .nm 3)], .p .bool ((accK l) (i : Int) (L.getD k (0, 0))), [(1, .box 82 false [.mp 3]), (3, .mapo T84 .bool l)], rfl, rfl, ?_, ?_, rfl, rfl, evL_end ?_⟩
              · first | exact eN | refine eM ?_
              · first | exact eN | refine eM ?_
              · generalize hac : (accK l) (i : Int) (L.getD k (0, 0)) = ac at *
                repeat' (first | exact trivial | refine eS rfl ?_ | refine ev_out_inv ?_ | refine rX [0, 1, 2, 4, 5, 6, 7, 8, 10, 12, 13, 14, 15, 23, 24, 25, 26, 32] hc ?_ ?_ | (refine rC (fun hcond => ?_) (fun hcond => ?_) <;> try (cases hcond; done)))
                · simp only [maxN]
                  omega
                · exact eV
                · have hcond : ac = true := hcond
                  subst hcond
                  rw [if_pos rfl] at hsn
                  refine ⟨⟨k + 1, by omega⟩, by simp only; omega, ent_match [(8, .nm 8), (37, .nm 37), (5, .nm 5), (4, .nm 4), (2, .nm 2), (44, .nm 44), (1, .nm 1), (3, .nm 3)] rfl rfl ?_ ?_⟩
                  · simp only [hsn]
                    first | exact eN | refine eM ?_
                  · first | exact eN | refine eM ?_
                · exact eV
                · have hcond : ac = false := hcond
                  subst hcond
                  rw [if_neg (by simp)] at hsn
                  rw [List.append_nil] at hsn
                  refine ⟨⟨k + 1, by omega⟩, by simp only; omega, ent_match [(8, .nm 8), (37, .nm 37), (5, .nm 5), (4, .nm 4), (2, .nm 2), (44, .nm 44), (1, .nm 1), (3, .nm 3)] rfl rfl ?_ ?_⟩
                  · simp only [hsn]
                    first | exact eN | refine eM ?_
                  · first | exact eN | refine eM ?_
        · simp only [maxN]; omega
        · exact eV
        · have hkL : L.take k = L := List.take_of_length_le (by exact eV)
          rw [hkL]
          refine ⟨⟨i + 1, by omega⟩, by simp only; omega, ent_match [(5, .nm 5), (4, .nm 4), (2, .nm 2), (44, .nm 44), (1, .nm 1), (3, .nm 3)] rfl rfl ?_ ?_⟩
          · simp only [partL_succ, hpn]
            first | exact eN | refine eM ?_
            rw [List.take_of_length_le (Nat.le_of_eq (partL_len _ f i))]
          · first | exact eN | refine eM ?_
    · have hif : i = f.length := by exact eV
      subst hif
      obtain ⟨hg1, hg2⟩ := part_good hf hs (accK l)
      have hpl := partL_len (accK l) f f.length
      have hpf : partF (accK l) f = canonicalF (partL (accK l) f f.length) 0 := rfl
      refine Ev.ent ?_ (ent_frz [44] (by simp only [go_sem, Nat.reduceEqDiff, reduceCtorEq, Nat.reduceAdd, Nat.reduceSub, Nat.reduceMul, Nat.reduceLeDiff, Nat.reduceLT, Int.reduceLE, Int.reduceToNat, Int.reduceNeg, ↓reduceIte]; rfl) (fun _ _ h => h))
      have htl : (partL (accK l) f f.length).take f.length = partL (accK l) f f.length := List.take_of_length_le (Nat.le_of_eq hpl)
      rw [hpf]
      rw [htl]
      generalize partL (accK l) f f.length = g at *
      repeat' (first | exact trivial | refine eS rfl ?_ | refine ev_out_inv ?_ | refine rX [0, 1, 2, 4, 5, 6, 7, 8, 10, 12, 13, 14, 15, 23, 24, 25, 26, 32] hc ?_ ?_ | (refine rC (fun hcond => ?_) (fun hcond => ?_) <;> try (cases hcond; done)))
      · exact ⟨hg1, hg2, by exact eV⟩
      · exact ev_finM hc [.cell 4 25] rfl (.inl rfl) (.p T25 (canonicalF g 0)) (by simp only [retAV, ret1, retAVs, notAT, resV, resLoad, pureOf, go_sem, Nat.reduceEqDiff, reduceCtorEq, Nat.reduceAdd, Nat.reduceSub, Nat.reduceMul, Nat.reduceLeDiff, Nat.reduceLT, Int.reduceLE, Int.reduceToNat, Int.reduceNeg, ↓reduceIte]) rfl
def toF (l : List (Int × Int)) (x : Int) : Int := l.foldl (fun t a => if a.1 = x then a.2 else t) (-1)
def kpF (f : List GNode) : KMap → Int → List Int → KMap
  | m, _, [] => m
  | m, n, x :: r => if toF (f.getD n.toNat (0, [])).2 x < 0 then m else kpF f (mput T84 .bool (n, x) true m) (toF (f.getD n.toNat (0, [])).2 x) r
def keptF (f : List GNode) (ps : List (List Int)) : KMap := ps.foldl (fun m p => kpF f m 0 p) []
def pkeepF (f : List GNode) (ps : List (List Int)) : List GNode := partF (accK (keptF f ps)) f
def pkeepS : Spec := { ins := [T25, T27], pre := fun (f, _, _) => GoodF f ∧ SrtF f ∧ 0 < List.length f, out := fun (f, l, _) => [.p T25 (pkeepF f l)] }
theorem toF_or {f : List GNode} (hf : GoodF f) (n x : Int) : toF (f.getD n.toNat (0, [])).2 x < f.length := by
  have key : ∀ (l : List (Int × Int)) (t : Int), (∀ a ∈ l, a.2 < (f.length : Int)) → t < f.length → l.foldl (fun t a => if a.1 = x then a.2 else t) t < f.length := by
    intro l
    induction l with
    | nil => intro t _ h; exact h
    | cons a l ih =>
      intro t hl h
      simp only [List.foldl_cons]
      refine ih _ (fun b hb => hl b (by simp [hb])) ?_
      split
      · exact hl a (by simp)
      · exact h
  exact key _ _ (fun a ha => (arcs_in' hf ha).2) (by omega)
theorem pkeep_ok : FnOk Tryz.prog 18 pkeepS := by
  refine fn_ok Tryz.func18 (by kernel_rfl) rfl Tryz.ntmps18 (by decide) (by kernel_rfl) (tyTab_ok []) fns_nil ?_
  rintro w0 O0 ⟨f, ps, u⟩ hc ⟨hokf, ⟨hlp, hps⟩, -⟩ ⟨hf, hs, h0⟩
  simp only [maxN] at hlp
  have hfl := hf.1
  simp only [pkeepS, entEnv]
  repeat' (first | exact trivial | refine eS rfl ?_ | refine ev_out_inv ?_ | refine rX [0, 1, 2, 4, 5, 7, 8, 10, 11, 13, 15, 16, 17, 18, 21, 22, 23, 24, 32, 33, 34, 35, 41, 46] hc ?_ ?_ | (refine rC (fun hcond => ?_) (fun hcond => ?_) <;> try (cases hcond; done)))
  refine ev_loop (ι := {i : Nat // i ≤ ps.length}) (fun i => ⟨[(2, .bp 2 [] 0), (4, .bp 4 [] 0), (5, .bp 5 [] 0), (15, .p T27 ps), (16, .p (.int .i64) (ps.length : Int)), (17, .p (.int .i64) (i.1 : Int))], [(4, .box 25 true [.raw (.slice none 0 0)]), (2, .box 25 true [.p T23 f]), (5, .box 82 false [.mp 14]), (14, .mapo T84 .bool (keptF f (ps.take i.1)))]⟩) (fun i => ps.length - i.1) ⟨0, by omega⟩ (ent_match [(4, .nm 4), (2, .nm 2), (5, .nm 5), (14, .nm 14)] rfl rfl ?_ ?_) (fun i => ?_)
  · first | exact eN | refine eM ?_
    rfl
  · first | exact eN | refine eM ?_
  · obtain ⟨i, hi⟩ := i
    have hsn := fun h : i < ps.length => fold_take (fun m p => kpF f m 0 p) ps ([] : List Int) [] h
    repeat' (first | exact trivial | refine eS rfl ?_ | refine ev_out_inv ?_ | refine rX [0, 1, 2, 4, 5, 7, 8, 10, 11, 13, 15, 16, 17, 18, 21, 22, 23, 24, 32, 33, 34, 35, 41, 46] hc ?_ ?_ | (refine rC (fun hcond => ?_) (fun hcond => ?_) <;> try (cases hcond; done)))
    · exact eV
    · have hil : i < ps.length := by exact eV
      have hpl : (ps.getD i []).length ≤ 140737488355328 := (hps _ (mem_of_take_succ ps [] hil)).1
      have hnx := hsn hil
      generalize ps.getD i [] = p at *
      generalize hm0 : keptF f (ps.take i) = m0 at *
      refine ev_loop (ι := {x : Nat × KMap × Int // x.1 ≤ p.length ∧ 0 ≤ x.2.2 ∧ x.2.2 < f.length ∧ kpF f x.2.1 x.2.2 (p.drop x.1) = kpF f m0 0 p}) (fun x => ⟨[(2, .bp 2 [] 0), (4, .bp 4 [] 0), (5, .bp 5 [] 0), (8, .p T3 x.1.2.2), (15, .p T27 ps), (16, .p (.int .i64) (ps.length : Int)), (17, .p (.int .i64) (i : Int)), (21, .p T26 p), (22, .p (.int .i64) (p.length : Int)), (23, .p (.int .i64) (x.1.1 : Int))], [(4, .box 25 true [.raw (.slice none 0 0)]), (2, .box 25 true [.p T23 f]), (5, .box 82 false [.mp 14]), (14, .mapo T84 .bool x.1.2.1)]⟩) (fun x => p.length - x.1.1) ⟨(0, m0, 0), by simp, by simp, by simp; omega, by simp⟩ (ent_match [(4, .nm 4), (2, .nm 2), (5, .nm 5), (14, .nm 14)] rfl rfl ?_ ?_) (fun x => ?_)
      · first | exact eN | refine eM ?_
      · first | exact eN | refine eM ?_
      · obtain ⟨⟨k, m, n⟩, hk, hn0, hn1, hkp⟩ := x
        simp only at hk hn0 hn1 hkp
        simp only
        repeat' (first | exact trivial | refine eS rfl ?_ | refine ev_out_inv ?_ | refine rX [0, 1, 2, 4, 5, 7, 8, 10, 11, 13, 15, 16, 17, 18, 21, 22, 23, 24, 32, 33, 34, 35, 41, 46] hc ?_ ?_ | (refine rC (fun hcond => ?_) (fun hcond => ?_) <;> try (cases hcond; done)))
        · exact eV
        · exact ⟨hn0, hn1⟩
        · have hkp2 : k < p.length := by exact eV
          have hdrop : p.drop k = p.getD k 0 :: p.drop (k + 1) := by
            rw [List.drop_eq_getElem_cons hkp2, List.getD_eq_getElem?_getD, List.getElem?_eq_getElem hkp2]; rfl
          have hto := toF_or hf n (p.getD k 0)
          have htoF : toF (f.getD n.toNat (0, [])).2 (p.getD k 0) = (f.getD n.toNat (0, [])).2.foldl (fun t a => if a.1 = p.getD k 0 then a.2 else t) (-1) := rfl
          have hLl := arcs_len hf n
          have hkpF : ∀ m n x r, kpF f m n (x :: r) = if toF (f.getD n.toNat (0, [])).2 x < 0 then m else kpF f (mput T84 .bool (n, x) true m) (toF (f.getD n.toNat (0, [])).2 x) r := fun _ _ _ _ => rfl
          rw [hdrop, hkpF] at hkp
          rw [htoF] at hkp hto
          generalize (f.getD n.toNat (0, [])).2 = L at *
          have hsnj := fun (j : Nat) (h : j < L.length) => fold_take (fun (t : Int) (a : Int × Int) => if a.1 = p.getD k 0 then a.2 else t) L (0, 0) (-1 : Int) h
          refine ev_loop (ι := {j : Nat // j ≤ L.length}) (fun j => ⟨[(2, .bp 2 [] 0), (4, .bp 4 [] 0), (5, .bp 5 [] 0), (8, .p T3 n), (10, .p T3 (p.getD k 0)), (11, .p T3 (L.take j.1 |>.foldl (fun t a => if a.1 = p.getD k 0 then a.2 else t) (-1 : Int))), (15, .p T27 ps), (16, .p (.int .i64) (ps.length : Int)), (17, .p (.int .i64) (i : Int)), (21, .p T26 p), (22, .p (.int .i64) (p.length : Int)), (23, .p (.int .i64) (k : Int)), (32, .p T43 L), (33, .p (.int .i64) (L.length : Int)), (34, .p (.int .i64) (j.1 : Int))], [(4, .box 25 true [.raw (.slice none 0 0)]), (2, .box 25 true [.p T23 f]), (5, .box 82 false [.mp 14]), (14, .mapo T84 .bool m)]⟩) (fun j => L.length - j.1) ⟨0, by omega⟩ (ent_match [(4, .nm 4), (2, .nm 2), (5, .nm 5), (14, .nm 14)] rfl rfl ?_ ?_) (fun j => ?_)
          · first | exact eN | refine eM ?_
          · first | exact eN | refine eM ?_
            rfl
          · obtain ⟨j, hj⟩ := j
            simp only
            have hnj := hsnj j
            generalize hto0 : (L.take j).foldl (fun (t : Int) (a : Int × Int) => if a.1 = p.getD k 0 then a.2 else t) (-1) = to at *
            repeat' (first | exact trivial | refine eS rfl ?_ | refine ev_out_inv ?_ | refine rX [0, 1, 2, 4, 5, 7, 8, 10, 11, 13, 15, 16, 17, 18, 21, 22, 23, 24, 32, 33, 34, 35, 41, 46] hc ?_ ?_ | (refine rC (fun hcond => ?_) (fun hcond => ?_) <;> try (cases hcond; done)))
            · exact eV
            · exact eV
            · have hjL : j < L.length := by exact eV
              refine ⟨⟨j + 1, by omega⟩, by simp only; omega, ent_match [(4, .nm 4), (2, .nm 2), (5, .nm 5), (14, .nm 14)] rfl rfl ?_ ?_⟩
              · first | exact eN | refine eM ?_
              · simp only [hnj hjL]
                rw [if_pos hcond]
                first | exact eN | refine eM ?_
            · exact eV
            · have hjL : j < L.length := by exact eV
              refine ⟨⟨j + 1, by omega⟩, by simp only; omega, ent_match [(4, .nm 4), (2, .nm 2), (5, .nm 5), (14, .nm 14)] rfl rfl ?_ ?_⟩
              · first | exact eN | refine eM ?_
              · simp only [hnj hjL]
                rw [if_neg hcond]
                first | exact eN | refine eM ?_
            · exact eV
            · have hjL : L.take j = L := List.take_of_length_le (by exact eV)
              rw [hjL] at hto0
              rw [hto0, if_pos hcond] at hkp
              refine ⟨⟨i + 1, by omega⟩, by simp only; omega, ent_match [(4, .nm 4), (2, .nm 2), (5, .nm 5), (14, .nm 14)] rfl rfl ?_ ?_⟩
              · simp only
                unfold keptF
                rw [hnx]
                unfold keptF at hm0
                rw [hm0, ← hkp]
                first | exact eN | refine eM ?_
              · first | exact eN | refine eM ?_
            · exact eV
            · have hjL : L.take j = L := List.take_of_length_le (by exact eV)
              rw [hjL] at hto0
              rw [hto0] at hkp hto
              rw [if_neg (by omega)] at hkp
              refine ⟨⟨(k + 1, mput T84 .bool (n, p.getD k 0) true m, to), by simp only; omega, hcond, hto, hkp⟩, by simp only; omega, ent_match [(4, .nm 4), (2, .nm 2), (5, .nm 5), (14, .nm 14)] rfl rfl ?_ ?_⟩
              · first | exact eN | refine eM ?_
              · first | exact eN | refine eM ?_
        · exact eV
        · have hkL : p.drop k = [] := List.drop_eq_nil_of_le (by exact eV)
          rw [hkL] at hkp
          have hkp : m = kpF f m0 0 p := hkp
          refine ⟨⟨i + 1, by omega⟩, by simp only; omega, ent_match [(4, .nm 4), (2, .nm 2), (5, .nm 5), (14, .nm 14)] rfl rfl ?_ ?_⟩
          · simp only
            unfold keptF
            rw [hnx]
            unfold keptF at hm0
            rw [hm0, ← hkp]
            first | exact eN | refine eM ?_
          · first | exact eN | refine eM ?_
    · have hk : ps.take i = ps := List.take_of_length_le (by exact eV)
      rw [hk]
      refine cP 2 hc ?_ ?_
      · trivial
      · refine rM hc (partK_ok f hf hs h0 (keptF f ps)) [(1, .nm 5), (3, .nm 14)] [5, 14] ?_ ?_ ?_
        · first | exact eN | refine eM ?_
        · first | exact eN | refine eM ?_
        · rintro _ _ rfl
          refine ⟨[], .p T25 (pkeepF f ps), [], rfl, rfl, trivial, ?_, rfl, rfl, ?_⟩
          · unfold pkeepF
            first | exact eN | refine eM ?_
          · refine rL [4] hc ?_ ?_
            · trivial
            · repeat' (first | exact trivial | refine eS rfl ?_ | refine ev_out_inv ?_ | refine rX [0, 1, 2, 4, 5, 7, 8, 10, 11, 13, 15, 16, 17, 18, 21, 22, 23, 24, 32, 33, 34, 35, 41, 46] hc ?_ ?_ | (refine rC (fun hcond => ?_) (fun hcond => ?_) <;> try (cases hcond; done)))
              exact ev_fin hc [.cell 4 25] rfl (.inl rfl) (by simp) (by first | exact eR | refine eRM ?_)
end
/- Functions of path: Clone, firsts, First. -/
section
def cloneS : Spec := { ins := [T26], pre := fun (l, _) => List.length l ≤ 100000, out := fun (l, _) => [.own 3 T3 l] }
theorem clone_ok : FnOk Tryz.prog 113 cloneS := by
  refine fn_ok Tryz.func113 (by kernel_rfl) rfl Tryz.ntmps113 (by decide) (by kernel_rfl) (tyTab_ok []) fns_nil ?_
  rintro w0 O0 ⟨l, u⟩ hc - hl
  have hl : List.length l ≤ 100000 := hl
  simp only [cloneS, entEnv]
  repeat' (first | exact trivial | refine eS rfl ?_ | refine ev_out_inv ?_ | refine rX [0, 2, 4] hc ?_ ?_ | (refine rC (fun hcond => ?_) (fun hcond => ?_) <;> try (cases hcond; done)))
  refine cP 1 hc ?_ ?_
  · trivial
  · refine evL_isnil hc false rfl rfl ?_
    intro b hb
    refine rL [0, 4] hc ?_ ?_
    · trivial
    · repeat' (first | exact trivial | refine eS rfl ?_ | refine ev_out_inv ?_ | refine rX [0, 2, 4] hc ?_ ?_ | (refine rC (fun hcond => ?_) (fun hcond => ?_) <;> try (cases hcond; done)))
      · have hl0 : l = [] := hb hcond
        subst hl0
        refine Ev.ent (σ' := ⟨[(2, .sr 5 T3 0 0)], [(5, .arr 3 T3 [])]⟩) ?_ (ent_match [(5, .nil)] rfl rfl ?_ ?_)
        · exact ev_fin_own hc (.inl rfl) (rv := .tmp 2) rfl (by simp only [resIs, resV, ownOf, go_sem, Nat.reduceEqDiff, reduceCtorEq, Nat.reduceAdd, Nat.reduceSub, Nat.reduceMul, Nat.reduceLeDiff, Nat.reduceLT, Int.reduceLE, Int.reduceToNat, Int.reduceNeg, ↓reduceIte])
        · first | exact eN | refine eM ?_
        · first | exact eN | refine eM ?_
      · simp only [maxN]; omega
      · exact ev_fin_own hc (.inl rfl) (rv := .tmp 2) rfl (by simp only [resIs, resV, ownOf, go_sem, Nat.reduceEqDiff, reduceCtorEq, Nat.reduceAdd, Nat.reduceSub, Nat.reduceMul, Nat.reduceLeDiff, Nat.reduceLT, Int.reduceLE, Int.reduceToNat, Int.reduceNeg, ↓reduceIte])
/-! The plain law -/
def bst (f : List GNode) : Nat → Bfs
  | 0 => bfs0 f.length
  | i + 1 => bfsN f (bst f i) ((bst f i).2.2.getD i 0)
def nodeI (f : List GNode) (i : Nat) : Int := (bst f i).2.2.getD i 0
def pathI (f : List GNode) (i : Nat) : List Int := (bst f i).1.getD (nodeI f i).toNat []
def coll (f : List GNode) : Nat → List (List Int)
  | 0 => List.replicate f.length []
  | i + 1 => (coll f i).set (nodeI f i).toNat (pathI f i)
structure BI (f : List GNode) (s : Bfs) : Prop where
  ok : BOk f s
  mem : ∀ x, x < f.length → (s.2.1.getD x false = true ↔ (x : Int) ∈ s.2.2)
  emp : ∀ x : Nat, (x : Int) ∉ s.2.2 → s.1.getD x [] = []
theorem getD_set_ne {α : Type} (l : List α) (d v : α) {i j : Nat} (h : i ≠ j) : (l.set i v).getD j d = l.getD j d := by
  simp only [List.getD_eq_getElem?_getD]; rw [List.getElem?_set_ne h]
theorem getD_set_self {α : Type} (l : List α) (d v : α) {i : Nat} (h : i < l.length) : (l.set i v).getD i d = v := by
  simp only [List.getD_eq_getElem?_getD]; rw [List.getElem?_set_self h]; rfl
theorem bfsA_BI {f : List GNode} {s : Bfs} (h : BI f s) {n : Int} {a : Int × Int} (h0 : 0 ≤ a.2) (h1 : a.2 < f.length) :
    BI f (bfsA n s a) ∧ s.2.2 <+: (bfsA n s a).2.2 ∧ ∀ x ∈ s.2.2, (bfsA n s a).1.getD x.toNat [] = s.1.getD x.toNat [] := by
  have hok := bfsA_ok (n := n) h.ok h0 h1
  have hl1 := h.ok.l1
  have hl2 := h.ok.l2
  unfold bfsA at hok ⊢
  split at hok
  · rename_i hc
    rw [if_pos hc]
    exact ⟨h, List.prefix_refl _, fun _ _ => rfl⟩
  · rename_i hc
    rw [if_neg hc]
    have hna : a.2 ∉ s.2.2 := fun hm => hc ((h.mem a.2.toNat (by omega)).2 (by rw [show ((a.2.toNat : Nat) : Int) = a.2 by omega]; exact hm))
    refine ⟨⟨hok, fun x hx => ?_, fun x hx => ?_⟩, List.prefix_append _ _, fun x hx => ?_⟩
    · by_cases e : a.2.toNat = x
      · subst e
        simp only
        rw [getD_set_self _ _ _ (by omega)]
        constructor
        · intro _; rw [show ((a.2.toNat : Nat) : Int) = a.2 by omega]; simp
        · intro _; rfl
      · simp only
        rw [getD_set_ne _ _ _ e, h.mem x hx]
        have : ¬ (x : Int) = a.2 := by omega
        simp [this]
    · have hx1 : (x : Int) ∉ s.2.2 ∧ ¬ (x : Int) = a.2 := by simpa using hx
      simp only
      rw [getD_set_ne _ _ _ (by omega)]
      exact h.emp x hx1.1
    · have hr := h.ok.rng x hx
      have : ¬ a.2 = x := fun e => hna (by rw [e]; exact hx)
      simp only
      rw [getD_set_ne _ _ _ (by omega)]
theorem bfsF_BI {f : List GNode} {n : Int} : ∀ {l : List (Int × Int)} {s : Bfs}, (∀ a ∈ l, 0 ≤ a.2 ∧ a.2 < (f.length : Int)) → BI f s →
    BI f (l.foldl (bfsA n) s) ∧ s.2.2 <+: (l.foldl (bfsA n) s).2.2 ∧ ∀ x ∈ s.2.2, (l.foldl (bfsA n) s).1.getD x.toNat [] = s.1.getD x.toNat []
  | [], _, _, h => ⟨h, List.prefix_refl _, fun _ _ => rfl⟩
  | a :: l, s, hl, h => by
    have q := hl a (by simp)
    obtain ⟨g1, g2, g3⟩ := bfsA_BI (n := n) h q.1 q.2
    obtain ⟨i1, i2, i3⟩ := bfsF_BI (n := n) (l := l) (fun b hb => hl b (by simp [hb])) g1
    exact ⟨i1, g2.trans i2, fun x hx => (i3 x (g2.subset hx)).trans (g3 x hx)⟩
theorem bfs0_BI {f : List GNode} (h : 0 < f.length) : BI f (bfs0 f.length) := by
  refine ⟨bfs0_ok h, fun x hx => ?_, fun x _ => ?_⟩
  · by_cases e : x = 0
    · subst e
      simp only [bfs0]
      rw [getD_set_self _ _ _ (by simpa using h)]
      simp
    · simp only [bfs0]
      rw [getD_set_ne _ _ _ (fun e' => e e'.symm)]
      have : ¬ (x : Int) = 0 := by omega
      simp [List.getD_eq_getElem?_getD, List.getElem?_replicate, hx, this, e]
  · simp only [bfs0, List.getD_eq_getElem?_getD, List.getElem?_replicate]
    split <;> rfl
theorem bst_BI {f : List GNode} (hf : GoodF f) (h0 : 0 < f.length) : ∀ i, BI f (bst f i)
  | 0 => bfs0_BI h0
  | i + 1 => (bfsF_BI (fun a ha => arcs_in hf ha) (bst_BI hf h0 i)).1
theorem coll_len (f : List GNode) : ∀ i, (coll f i).length = f.length
  | 0 => by simp [coll]
  | i + 1 => by simp [coll, coll_len f i]
theorem coll_get {f : List GNode} (hf : GoodF f) (h0 : 0 < f.length) : ∀ i, (∀ j, j < i → j < (bst f j).2.2.length) → ∀ x : Nat, (coll f i).getD x [] = if (x : Int) ∈ (bst f i).2.2.take i then (bst f i).1.getD x [] else []
  | 0, _, x => by
    simp only [coll, List.take_zero, List.not_mem_nil, if_false, List.getD_eq_getElem?_getD, List.getElem?_replicate]
    split <;> rfl
  | i + 1, hj, x => by
    have ih := coll_get hf h0 i (fun j hji => hj j (by omega)) x
    have hi := hj i (by omega)
    have hbi := bst_BI hf h0 i
    obtain ⟨g1, g2, g3⟩ := bfsF_BI (n := nodeI f i) (l := (f.getD (nodeI f i).toNat (0, [])).2) (fun a ha => arcs_in hf ha) hbi
    have e1 : bst f (i + 1) = (f.getD (nodeI f i).toNat (0, [])).2.foldl (bfsA (nodeI f i)) (bst f i) := rfl
    rw [← e1] at g1 g2 g3
    have htk : (bst f (i + 1)).2.2.take (i + 1) = (bst f i).2.2.take i ++ [nodeI f i] := by
      obtain ⟨t, ht⟩ := g2
      rw [← ht, List.take_append_of_le_length (by omega), take_snoc _ (0 : Int) hi]
      rfl
    have hmem : nodeI f i ∈ (bst f i).2.2 := mem_of_take_succ _ 0 hi
    have hr := hbi.ok.rng _ hmem
    rw [htk]
    simp only [coll]
    by_cases e : (nodeI f i).toNat = x
    · subst e
      rw [getD_set_self _ _ _ (by rw [coll_len]; omega), show (((nodeI f i).toNat : Nat) : Int) = nodeI f i by omega, if_pos (by simp), g3 _ hmem]
      rfl
    · rw [getD_set_ne _ _ _ e, ih]
      have hne : ¬ (x : Int) = nodeI f i := by omega
      by_cases hx : (x : Int) ∈ (bst f i).2.2.take i
      · rw [if_pos hx, if_pos (by simp [hx])]
        have := g3 _ (List.mem_of_mem_take hx)
        rw [show ((x : Int)).toNat = x by omega] at this
        exact this.symm
      · rw [if_neg hx, if_neg (by simp [hx, hne])]
theorem bst_bfs {f : List GNode} (hf : GoodF f) (h0 : 0 < f.length) : ∀ i, (∀ j, j < i → j < (bst f j).2.2.length) → bfs f (f.length - i) i (bst f i) = bfs f f.length 0 (bfs0 f.length)
  | 0, _ => rfl
  | i + 1, hj => by
    rw [← bst_bfs hf h0 i (fun j hji => hj j (by omega))]
    have hb := (bst_BI hf h0 i).ok
    have := hb.cnt
    exact (bfs_next (hj i (by omega)) (by omega)).symm
/-- What the program collects is the reference's answer. -/
theorem coll_first {f : List GNode} (hf : GoodF f) (h0 : 0 < f.length) {n : Nat} (hj : ∀ j, j < n → j < (bst f j).2.2.length) (hn : (bst f n).2.2.length ≤ n) : coll f n = firstF f := by
  have e : firstF f = (bst f n).1 := by
    unfold firstF
    rw [← bst_bfs hf h0 n hj, bfs_end hn]
  have hb := bst_BI hf h0 n
  rw [e]
  apply List.ext_getElem
  · rw [coll_len, hb.ok.l1]
  · intro x h1 h2
    have hg := coll_get hf h0 n hj x
    rw [List.take_of_length_le hn] at hg
    have e1 : (coll f n).getD x [] = (coll f n)[x] := by simp [List.getD_eq_getElem?_getD, h1]
    have e2 : (bst f n).1.getD x [] = (bst f n).1[x] := by simp [List.getD_eq_getElem?_getD, h2]
    rw [← e1, ← e2, hg]
    split
    · rfl
    · rename_i hx; exact (hb.emp x hx).symm
end
/- Functions of path: firsts, First. -/
section
attribute [local go_sem] cloneS
theorem firsts_ok (f : List GNode) : CallM Tryz.prog 77 [.p T25 f] [] [] (fun res objs' => res = .clo 112 [1] ∧ objs' = [(1, .box 25 true [.p T23 f])]) := by
  refine fnM_ok Tryz.func77 (by kernel_rfl) rfl Tryz.ntmps77 (by simp only [List.length_cons, List.length_nil]; omega) (by kernel_rfl) rfl rfl (tyTab_ok []) fns_nil ?_
  intro w0 K O0 ρ0 hc hok1 hok2
  simp only [argEnv]
  repeat' (first | exact trivial | refine eS rfl ?_ | refine ev_out_inv ?_ | refine rX [0, 1, 2] hc ?_ ?_ | (refine rC (fun hcond => ?_) (fun hcond => ?_) <;> try (cases hcond; done)))
  exact ev_finM hc [.tmp 2] rfl (.inl rfl) (.clo 112 [1]) (by simp only [retAV, ret1, retAVs, notAT, resV, resLoad, pureOf, go_sem, Nat.reduceEqDiff, reduceCtorEq, Nat.reduceAdd, Nat.reduceSub, Nat.reduceMul, Nat.reduceLeDiff, Nat.reduceLT, Int.reduceLE, Int.reduceToNat, Int.reduceNeg, ↓reduceIte]) ⟨rfl, rfl⟩
def fObjs (f : List GNode) (L : Go.Loop) (tm : Array Value) (i : Nat) : List (Nat × Obj) := [(50, .box 25 true [.p T23 f]), (101, .loop L), (102, .frame tm [(3, .bp 3 [] 0)]), (3, .box 27 false [.sr 9 T26 0 f.length]), (9, .arr 26 T26 (coll f i))]
/-- The paths of the nodes, in their order. -/
def pathsOf (s : Bfs) : List (List Int) := s.2.2.map fun n => s.1.getD n.toNat []
theorem pathsOf_len (s : Bfs) : (pathsOf s).length = s.2.2.length := by simp [pathsOf]
theorem pathsOf_get {s : Bfs} {i : Nat} (h : i < s.2.2.length) : (pathsOf s).getD i [] = s.1.getD (s.2.2.getD i 0).toNat [] := by
  simp [pathsOf, List.getD_eq_getElem?_getD, h]
theorem firsts1_ok (f : List GNode) (hf : GoodF f) (h0 : 0 < f.length) (L : Go.Loop) (tm : Array Value)
    (hY : ∀ i, i < (bst f i).2.2.length → CallY Tryz.prog 101 [.p T3 (nodeI f i), .p T26 (pathI f i)] (fObjs f L tm i) [50, 101, 102, 3] (fun res objs' => res = .p .bool true ∧ objs' = fObjs f L tm (i + 1))) :
    CallM Tryz.prog 112 [.yl 101, .bp 50 [] 0] (fObjs f L tm 0) [50, 101, 102, 3] (fun res objs' => res = .raw (.tuple #[]) ∧ ∃ N, objs' = fObjs f L tm N ∧ coll f N = firstF f) := by
  refine fnM_ok Tryz.func112 (by kernel_rfl) rfl Tryz.ntmps112 (by simp only [List.length_cons, List.length_nil]; omega) (by kernel_rfl) rfl rfl (tyTab_ok [(113, cloneS)]) (fns_cons clone_ok fns_nil) ?_
  intro w0 K O0 ρ0 hc hok1 hok2
  simp only [argEnv, fObjs]
  have hfl := hf.1
  repeat' (first | exact trivial | refine eS rfl ?_ | refine ev_out_inv ?_ | refine rX [0, 1, 3, 4, 5, 6, 8, 20, 33, 42, 43, 44, 45, 53] hc ?_ ?_ | (refine rC (fun hcond => ?_) (fun hcond => ?_) <;> try (cases hcond; done)))
  · simp only [maxN]; omega
  · exact eV
  · have hbi := fun i => bst_BI hf h0 i
    have hy := hY
    clear hY
    refine ev_loop (ι := {i : Nat // ∀ j, j < i → j < (bst f j).2.2.length}) (fun i => ⟨[(0, .yl 101), (1, .bp 50 [] 0), (3, .sr 12 T4 0 (bst f i.1).2.1.length), (4, .sr 15 T3 0 (bst f i.1).2.2.length), (5, .sr 16 T26 0 (pathsOf (bst f i.1)).length), (6, .p (.int .i64) (i.1 : Int))], (12, .arr 4 T4 (bst f i.1).2.1) :: (15, .arr 3 T3 (bst f i.1).2.2) :: (16, .arr 26 T26 (pathsOf (bst f i.1))) :: fObjs f L tm i.1⟩) (fun i => f.length + 1 - i.1) ⟨0, fun j hj => by omega⟩ (ent_match [(12, .nm 12), (15, .nm 15), (16, .nm 16), (50, .nm 50), (101, .nm 101), (102, .nm 102), (3, .nm 3), (9, .nm 9)] rfl rfl ?_ ?_) (fun i => ?_)
    · simp only [fObjs, bst, bfs0, pathsOf]
      first | exact eN | refine eM ?_
      simp [List.getD_eq_getElem?_getD, List.getElem?_replicate, h0]
    · simp only [bst, bfs0, pathsOf, List.length_map]
      first | exact eN | refine eM ?_
      simp
    · obtain ⟨i, hi⟩ := i
      have hib : i ≤ f.length := by
        cases i with
        | zero => omega
        | succ i =>
          have h1 := hi i (by omega)
          have h2 := (hbi i).ok.cnt
          omega
      have hb := hbi i
      have hyi := hy i
      have hnx : bst f (i + 1) = (f.getD (nodeI f i).toNat (0, [])).2.foldl (bfsA (nodeI f i)) (bst f i) := rfl
      have hnode : nodeI f i = (bst f i).2.2.getD i 0 := rfl
      have hpath : pathI f i = (bst f i).1.getD (nodeI f i).toNat [] := rfl
      generalize hs : bst f i = s at *
      have hpl := pathsOf_len s
      have hcn := hb.ok.cnt
      simp only [fObjs]
      repeat' (first | exact trivial | refine eS rfl ?_ | refine ev_out_inv ?_ | refine rX [0, 1, 3, 4, 5, 6, 8, 20, 33, 42, 43, 44, 45, 53] hc ?_ ?_ | (refine rC (fun hcond => ?_) (fun hcond => ?_) <;> try (cases hcond; done)))
      · have hil : i < s.2.2.length := by exact eV
        refine cD 9 hc ?_ ?_
        · exact ⟨by exact eV, by rw [hpl]; exact eV⟩
        · rw [pathsOf_get hil, ← hnode, ← hpath]
          refine rY 101 101 hc (hyi hil) [(50, .nm 50), (101, .nm 101), (102, .nm 102), (3, .nm 3), (9, .nm 9)] [9] ?_ ?_ ?_
          · first | exact eN | refine eM ?_
          · simp only [fObjs]
            first | exact eN | refine eM ?_
          · rintro _ _ ⟨rfl, rfl⟩
            refine ⟨[(50, .nm 50), (101, .nm 101), (102, .nm 102), (3, .nm 3), (9, .nm 9)], .p .bool true, fObjs f L tm (i + 1), rfl, rfl, ?_, ?_, rfl, rfl, ?_⟩
            · simp only [fObjs]
              first | exact eN | refine eM ?_
            · first | exact eN | refine eM ?_
            · simp only [fObjs]
              refine rL [0, 1, 3, 4, 5, 6, 33] hc ?_ ?_
              · trivial
              · have hnm := mem_of_take_succ s.2.2 0 hil
                have hnr := hb.ok.rng _ hnm
                have hpre := fun l => bfsF_pre (n := nodeI f i) (i := i) (l := l) (s := s) hil
                have hLlen := arcs_len hf (nodeI f i)
                have hfold := fun l (hl : ∀ a ∈ l, 0 ≤ a.2 ∧ a.2 < (f.length : Int)) => bfsF_BI (n := nodeI f i) (l := l) hl hb
                have hLin := fun a (ha : a ∈ (f.getD (nodeI f i).toNat (0, [])).2) => arcs_in hf ha
                rw [hnode] at hnx hpre hLlen hfold hLin
                generalize hnn : s.2.2.getD i 0 = n at *
                repeat' (first | exact trivial | refine eS rfl ?_ | refine ev_out_inv ?_ | refine rX [0, 1, 3, 4, 5, 6, 8, 20, 33, 42, 43, 44, 45, 53] hc ?_ ?_ | (refine rC (fun hcond => ?_) (fun hcond => ?_) <;> try (cases hcond; done)))
                · exact ⟨by exact eV, by rw [hnn]; exact hnr⟩
                · simp only [hnn]
                  generalize hL2 : (f.getD n.toNat (0, [])).2 = L2 at *
                  have hpl := pathsOf_len s
                  refine ev_loop (ι := {k : Nat // k ≤ L2.length}) (fun k => ⟨[(0, .yl 101), (1, .bp 50 [] 0), (3, .sr 12 T4 0 ((L2.take k.1).foldl (bfsA n) s).2.1.length), (4, .sr 15 T3 0 ((L2.take k.1).foldl (bfsA n) s).2.2.length), (5, .sr 16 T26 0 (pathsOf ((L2.take k.1).foldl (bfsA n) s)).length), (6, .p (.int .i64) (i : Int)), (42, .p T43 L2), (43, .p (.int .i64) (L2.length : Int)), (44, .p (.int .i64) (k.1 : Int))], (12, .arr 4 T4 ((L2.take k.1).foldl (bfsA n) s).2.1) :: (15, .arr 3 T3 ((L2.take k.1).foldl (bfsA n) s).2.2) :: (16, .arr 26 T26 (pathsOf ((L2.take k.1).foldl (bfsA n) s))) :: fObjs f L tm (i + 1)⟩) (fun k => L2.length - k.1) ⟨0, by omega⟩ (ent_match [(12, .nm 12), (15, .nm 15), (16, .nm 16), (50, .nm 50), (101, .nm 101), (102, .nm 102), (3, .nm 3), (9, .nm 9)] rfl rfl ?_ ?_) (fun k => ?_)
                  · simp only [fObjs, List.take_zero, List.foldl_nil]
                    first | exact eN | refine eM ?_
                  · simp only [List.take_zero, List.foldl_nil]
                    first | exact eN | refine eM ?_
                  · obtain ⟨k, hk⟩ := k
                    obtain ⟨hbk, hpk2, hok2⟩ := hfold (L2.take k) (fun a ha => hLin a (List.mem_of_mem_take ha))
                    have hpk := hpre (L2.take k)
                    have hnext := fun (h : k < L2.length) => fold_take (bfsA n) L2 (0, 0) s h
                    simp only
                    generalize hsk : (L2.take k).foldl (bfsA n) s = sk at *
                    have hplk := pathsOf_len sk
                    have hcnk := hbk.ok.cnt
                    have hto : ∀ (h : k < L2.length), 0 ≤ (L2.getD k (0, 0)).2 ∧ (L2.getD k (0, 0)).2 < (sk.2.1.length : Int) := fun h => by
                      have h1 := hLin _ (mem_of_take_succ L2 (0, 0) h)
                      have h2 := hbk.ok.l2
                      omega
                    simp only [fObjs]
                    repeat' (first | exact trivial | refine eS rfl ?_ | refine ev_out_inv ?_ | refine rX [0, 1, 3, 4, 5, 6, 8, 20, 33, 42, 43, 44, 45, 53] hc ?_ ?_ | (refine rC (fun hcond => ?_) (fun hcond => ?_) <;> try (cases hcond; done)))
                    · exact eV
                    · exact hto (by exact eV)
                    · exact hto (by exact eV)
                    · simp only [maxN]; omega
                    · have hkL : k < L2.length := by exact eV
                      have hst : (L2.take (k + 1)).foldl (bfsA n) s = (sk.1.set (L2.getD k (0, 0)).2.toNat (sk.1.getD n.toNat [] ++ [(L2.getD k (0, 0)).1]), sk.2.1.set (L2.getD k (0, 0)).2.toNat true, sk.2.2 ++ [(L2.getD k (0, 0)).2]) := by
                        rw [hnext hkL]
                        unfold bfsA
                        rw [if_neg (by rw [hcond]; simp)]
                      have hna : (L2.getD k (0, 0)).2 ∉ sk.2.2 := fun hm => by
                        have h1 := hto hkL
                        have h2 := hbk.ok.l2
                        have h3 := (hbk.mem (L2.getD k (0, 0)).2.toNat (by omega)).2 (by rw [show (((L2.getD k (0, 0)).2.toNat : Nat) : Int) = (L2.getD k (0, 0)).2 by omega]; exact hm)
                        rw [hcond] at h3
                        cases h3
                      have hget : (pathsOf sk).getD i [] = sk.1.getD n.toNat [] := by
                        rw [pathsOf_get hpk.1, hpk.2]
                      have hgl := getD_len hbk.ok.pl n.toNat
                      have hps : pathsOf ((L2.take (k + 1)).foldl (bfsA n) s) = pathsOf sk ++ [sk.1.getD n.toNat [] ++ [(L2.getD k (0, 0)).1]] := by
                        rw [hst]
                        unfold pathsOf
                        simp only [List.map_append, List.map_cons, List.map_nil]
                        congr 1
                        · refine List.map_congr_left fun x hx => ?_
                          have h1 := hbk.ok.rng x hx
                          have h2 : ¬ (L2.getD k (0, 0)).2 = x := fun e => hna (by rw [e]; exact hx)
                          have h3 := hto hkL
                          rw [getD_set_ne _ _ _ (by omega)]
                        · have h1 := hto hkL
                          have h2 := hbk.ok.l2
                          have h3 := hbk.ok.l1
                          rw [getD_set_self _ _ _ (by omega)]
                      refine ev_mix drawsAny hc 12 [([1, 2, 3, 4, 5, 6, 7, 8], 9), ([], 10), ([0], 11)] [] (by kernel_rfl) (mix_step (by simp only [go_sem, Nat.reduceEqDiff, reduceCtorEq, Nat.reduceAdd, Nat.reduceSub, Nat.reduceMul, Nat.reduceLeDiff, Nat.reduceLT, Int.reduceLE, Int.reduceToNat, Int.reduceNeg, ↓reduceIte]; rfl) ?_ rfl rfl (by simp only [go_sem, Nat.reduceEqDiff, reduceCtorEq, Nat.reduceAdd, Nat.reduceSub, Nat.reduceMul, Nat.reduceLeDiff, Nat.reduceLT, Int.reduceLE, Int.reduceToNat, Int.reduceNeg, ↓reduceIte]; rfl) (by simp only [go_sem, Nat.reduceEqDiff, reduceCtorEq, Nat.reduceAdd, Nat.reduceSub, Nat.reduceMul, Nat.reduceLeDiff, Nat.reduceLT, Int.reduceLE, Int.reduceToNat, Int.reduceNeg, ↓reduceIte]; rfl) ?_)
                      · rw [hget, hplk]
                        exact ⟨Int.ofNat_lt.2 hpk.1, Nat.le_trans hgl (by omega)⟩
                      · refine loud_step hc [68] (by simp only [go_sem, Nat.reduceEqDiff, reduceCtorEq, Nat.reduceAdd, Nat.reduceSub, Nat.reduceMul, Nat.reduceLeDiff, Nat.reduceLT, Int.reduceLE, Int.reduceToNat, Int.reduceNeg, ↓reduceIte]; rfl) (by simp only [go_sem, Nat.reduceEqDiff, reduceCtorEq, Nat.reduceAdd, Nat.reduceSub, Nat.reduceMul, Nat.reduceLeDiff, Nat.reduceLT, Int.reduceLE, Int.reduceToNat, Int.reduceNeg, ↓reduceIte]) rfl rfl rfl (by simp only [go_sem, Nat.reduceEqDiff, reduceCtorEq, Nat.reduceAdd, Nat.reduceSub, Nat.reduceMul, Nat.reduceLeDiff, Nat.reduceLT, Int.reduceLE, Int.reduceToNat, Int.reduceNeg, ↓reduceIte]) rfl ?_ ?_
                        · rw [hget]
                          simp only [maxN]; omega
                        · refine mix_step (by simp only [go_sem, Nat.reduceEqDiff, reduceCtorEq, Nat.reduceAdd, Nat.reduceSub, Nat.reduceMul, Nat.reduceLeDiff, Nat.reduceLT, Int.reduceLE, Int.reduceToNat, Int.reduceNeg, ↓reduceIte]; rfl) ?_ rfl rfl (by simp only [go_sem, Nat.reduceEqDiff, reduceCtorEq, Nat.reduceAdd, Nat.reduceSub, Nat.reduceMul, Nat.reduceLeDiff, Nat.reduceLT, Int.reduceLE, Int.reduceToNat, Int.reduceNeg, ↓reduceIte]; rfl) (by simp only [go_sem, Nat.reduceEqDiff, reduceCtorEq, Nat.reduceAdd, Nat.reduceSub, Nat.reduceMul, Nat.reduceLeDiff, Nat.reduceLT, Int.reduceLE, Int.reduceToNat, Int.reduceNeg, ↓reduceIte]; rfl) ?_
                          · trivial
                          · refine loud_step hc [68] (by simp only [go_sem, Nat.reduceEqDiff, reduceCtorEq, Nat.reduceAdd, Nat.reduceSub, Nat.reduceMul, Nat.reduceLeDiff, Nat.reduceLT, Int.reduceLE, Int.reduceToNat, Int.reduceNeg, ↓reduceIte]; rfl) (by simp only [go_sem, Nat.reduceEqDiff, reduceCtorEq, Nat.reduceAdd, Nat.reduceSub, Nat.reduceMul, Nat.reduceLeDiff, Nat.reduceLT, Int.reduceLE, Int.reduceToNat, Int.reduceNeg, ↓reduceIte]) rfl rfl rfl (by simp only [go_sem, Nat.reduceEqDiff, reduceCtorEq, Nat.reduceAdd, Nat.reduceSub, Nat.reduceMul, Nat.reduceLeDiff, Nat.reduceLT, Int.reduceLE, Int.reduceToNat, Int.reduceNeg, ↓reduceIte]) rfl ?_ ?_
                            · trivial
                            · refine mix_step (by simp only [go_sem, Nat.reduceEqDiff, reduceCtorEq, Nat.reduceAdd, Nat.reduceSub, Nat.reduceMul, Nat.reduceLeDiff, Nat.reduceLT, Int.reduceLE, Int.reduceToNat, Int.reduceNeg, ↓reduceIte]; rfl) ?_ rfl rfl (by simp only [go_sem, Nat.reduceEqDiff, reduceCtorEq, Nat.reduceAdd, Nat.reduceSub, Nat.reduceMul, Nat.reduceLeDiff, Nat.reduceLT, Int.reduceLE, Int.reduceToNat, Int.reduceNeg, ↓reduceIte]; rfl) (by simp only [go_sem, Nat.reduceEqDiff, reduceCtorEq, Nat.reduceAdd, Nat.reduceSub, Nat.reduceMul, Nat.reduceLeDiff, Nat.reduceLT, Int.reduceLE, Int.reduceToNat, Int.reduceNeg, ↓reduceIte]; rfl) ?_
                              · trivial
                              · refine loud_step hc [16] (by simp only [go_sem, Nat.reduceEqDiff, reduceCtorEq, Nat.reduceAdd, Nat.reduceSub, Nat.reduceMul, Nat.reduceLeDiff, Nat.reduceLT, Int.reduceLE, Int.reduceToNat, Int.reduceNeg, ↓reduceIte]; rfl) (by simp only [go_sem, Nat.reduceEqDiff, reduceCtorEq, Nat.reduceAdd, Nat.reduceSub, Nat.reduceMul, Nat.reduceLeDiff, Nat.reduceLT, Int.reduceLE, Int.reduceToNat, Int.reduceNeg, ↓reduceIte]) rfl rfl rfl (by simp only [go_sem, Nat.reduceEqDiff, reduceCtorEq, Nat.reduceAdd, Nat.reduceSub, Nat.reduceMul, Nat.reduceLeDiff, Nat.reduceLT, Int.reduceLE, Int.reduceToNat, Int.reduceNeg, ↓reduceIte]) rfl ?_ ?_
                                · simp only [maxN]; omega
                                · refine mix_last (by simp only [go_sem, Nat.reduceEqDiff, reduceCtorEq, Nat.reduceAdd, Nat.reduceSub, Nat.reduceMul, Nat.reduceLeDiff, Nat.reduceLT, Int.reduceLE, Int.reduceToNat, Int.reduceNeg, ↓reduceIte]; rfl) ?_ rfl (evLp_all [0, 1, 3, 4, 5, 6, 8, 20, 33, 42, 43, 44, 45, 53] hc (by simp only [go_sem, Nat.reduceEqDiff, reduceCtorEq, Nat.reduceAdd, Nat.reduceSub, Nat.reduceMul, Nat.reduceLeDiff, Nat.reduceLT, Int.reduceLE, Int.reduceToNat, Int.reduceNeg, ↓reduceIte]; rfl) ?_ ?_)
                                  · trivial
                                  · trivial
                                  · repeat' (first | exact trivial | refine eS rfl ?_ | refine ev_out_inv ?_ | refine rX [0, 1, 3, 4, 5, 6, 8, 20, 33, 42, 43, 44, 45, 53] hc ?_ ?_ | (refine rC (fun hcond => ?_) (fun hcond => ?_) <;> try (cases hcond; done)))
                                    · exact eV
                                    · refine ⟨⟨k + 1, by omega⟩, by simp only; omega, ent_match [(12, .nm 12), (15, .nm 15), (16, .nm 16), (50, .nm 50), (101, .nm 101), (102, .nm 102), (3, .nm 3), (9, .nm 9)] rfl rfl ?_ ?_⟩
                                      · simp only [hps]
                                        rw [hst]
                                        first | exact eN | refine eM ?_
                                        rw [hget]
                                      · simp only [hps]
                                        rw [hst]
                                        first | exact eN | refine eM ?_
                                        simp
                    · exact eV
                    · have hkL : k < L2.length := by exact eV
                      have hst : (L2.take (k + 1)).foldl (bfsA n) s = sk := by
                        rw [hnext hkL]
                        unfold bfsA
                        rw [if_pos (by rw [hcond])]
                      refine ⟨⟨k + 1, by omega⟩, by simp only; omega, ent_match [(12, .nm 12), (15, .nm 15), (16, .nm 16), (50, .nm 50), (101, .nm 101), (102, .nm 102), (3, .nm 3), (9, .nm 9)] rfl rfl ?_ ?_⟩
                      · simp only
                        rw [hst]
                        first | exact eN | refine eM ?_
                      · simp only
                        rw [hst]
                        first | exact eN | refine eM ?_
                    · exact eV
                    · have hkL : L2.take k = L2 := List.take_of_length_le (by exact eV)
                      rw [hkL] at hsk
                      rw [hsk] at hnx
                      have hil2 : i < (bst f i).2.2.length := by rw [hs]; exact hil
                      refine ⟨⟨i + 1, fun j hj => (Nat.lt_succ_iff_lt_or_eq.1 hj).elim (hi j) (fun e => by rw [e]; exact hil2)⟩, by simp only; omega, ent_match [(12, .nm 12), (15, .nm 15), (16, .nm 16), (50, .nm 50), (101, .nm 101), (102, .nm 102), (3, .nm 3), (9, .nm 9)] rfl rfl ?_ ?_⟩
                      · simp only [hnx, fObjs]
                        first | exact eN | refine eM ?_
                      · simp only [hnx]
                        first | exact eN | refine eM ?_
      · refine Ev.ent (σ' := ⟨[], fObjs f L tm i⟩) ?_ (ent_match [(50, .nm 50), (101, .nm 101), (102, .nm 102), (3, .nm 3), (9, .nm 9)] rfl rfl ?_ ?_)
        · exact ev_finM hc [] rfl (.inr rfl) (.raw (.tuple #[])) rfl ⟨rfl, i, rfl, coll_first hf h0 hi (by rw [hs]; exact eV)⟩
        · simp only [fObjs]
          first | exact eN | refine eM ?_
        · first | exact eN | refine eM ?_
theorem pfirst_ok (f : List GNode) (hf : GoodF f) (h0 : 0 < f.length) : CallM Tryz.prog 48 [.p T25 f] [] [] (fun res objs' => res = .sr 9 T26 0 f.length ∧ objs' = [(9, .arr 26 T26 (firstF f))]) := by
  refine fnMR_ok Tryz.func48 (by kernel_rfl) rfl Tryz.ntmps48 (by simp only [List.length_cons, List.length_nil]; omega) (by kernel_rfl) rfl rfl (tyTab_ok []) fns_nil ?_
  intro w0 K O0 ρ0 hc hok1 hok2
  simp only [argEnv]
  have hfl := hf.1
  repeat' (first | exact trivial | refine eS rfl ?_ | refine ev_out_inv ?_ | refine rX [0, 1, 2, 3, 4, 5, 11, 12, 13] hc ?_ ?_ | (refine rC (fun hcond => ?_) (fun hcond => ?_) <;> try (cases hcond; done)))
  · simp only [maxN]; omega
  · refine cP 1 hc ?_ ?_
    · trivial
    · refine rM hc (firsts_ok f) [] [] ?_ ?_ ?_
      · first | exact eN | refine eM ?_
      · first | exact eN | refine eM ?_
      · rintro _ _ ⟨rfl, rfl⟩
        refine ⟨[(50, .nm 1)], .clo 112 [50], [(50, .box 25 true [.p T23 f])], rfl, rfl, ?_, ?_, rfl, rfl, evL_end ?_⟩
        · first | exact eN | refine eM ?_
        · first | exact eN | refine eM ?_
        · repeat' (first | exact trivial | refine eS rfl ?_ | refine ev_out_inv ?_ | refine rX [0, 1, 2, 3, 4, 5, 11, 12, 13] hc ?_ ?_ | (refine rC (fun hcond => ?_) (fun hcond => ?_) <;> try (cases hcond; done)))
          refine ev_range hc rfl rfl (by simp only [go_sem, Nat.reduceEqDiff, reduceCtorEq, Nat.reduceAdd, Nat.reduceSub, Nat.reduceMul, Nat.reduceLeDiff, Nat.reduceLT, Int.reduceLE, Int.reduceToNat, Int.reduceNeg, ↓reduceIte]; rfl) 101 103 102 rfl rfl rfl rfl ?_
          intro L tm hL1 hL2 hL3 hL4 hL5 hL6 htm
          refine ⟨_, fObjs f L tm 0, [50, 101, 102, 3], _, [(50, .nm 50), (101, .nm 101), (102, .nm 102), (3, .nm 3), (9, .nm 9)], [9], firsts1_ok f hf h0 L tm ?_, rfl, rfl, ?_, ?_, rfl, ?_⟩
          · intro i hi
            have hb := bst_BI hf h0 i
            have hnr := hb.ok.rng (nodeI f i) (mem_of_take_succ _ 0 hi)
            have hcl := coll_len f i
            have hcs : coll f (i + 1) = (coll f i).set (nodeI f i).toNat (pathI f i) := rfl
            refine callY_ok (fr := 102) rfl rfl hL1 hL4 hL5 hL6 hL3 htm rfl (by kernel_rfl) (by simp) rfl rfl (by kernel_rfl) (by kernel_rfl) (tyTab_ok []) fns_nil ?_
            intro w1 K1 O1 ρ1 lb hc hok3 hok4 hb
            simp only [fObjs, parEnv]
            repeat' (first | exact trivial | refine eS rfl ?_ | refine ev_out_inv ?_ | refine rX [0, 1, 2, 3, 4, 5, 11, 12, 13] hc ?_ ?_ | (refine rC (fun hcond => ?_) (fun hcond => ?_) <;> try (cases hcond; done)))
            refine ⟨rfl, ?_⟩
            repeat' (first | exact trivial | refine eS rfl ?_ | refine ev_out_inv ?_ | refine rX [0, 1, 2, 3, 4, 5, 11, 12, 13] hc ?_ ?_ | (refine rC (fun hcond => ?_) (fun hcond => ?_) <;> try (cases hcond; done)))
            · exact hnr
            · refine Ev.ent (σ' := ⟨[], [(50, .box 25 true [.p T23 f]), (101, .loop { L with state := .busy }), (102, .frame tm [(3, .bp 3 [] 0)]), (3, .box 27 false [.sr 9 T26 0 f.length]), (9, .arr 26 T26 (coll f (i + 1)))]⟩) ?_ (ent_match [(50, .nm 50), (101, .nm 101), (102, .nm 102), (3, .nm 3), (9, .nm 9)] rfl rfl ?_ ?_)
              · refine ev_roundN hc (yn := 101) rfl rfl (by simp) hb ⟨rfl, ?_⟩
                simp only [fObjs, go_sem, Nat.reduceEqDiff, reduceCtorEq, Nat.reduceAdd, Nat.reduceSub, Nat.reduceMul, Nat.reduceLeDiff, Nat.reduceLT, Int.reduceLE, Int.reduceToNat, Int.reduceNeg, ↓reduceIte, loop_eta hL1 hL2]
              · rw [hcs]
                first | exact eN | refine eM ?_
              · first | exact eN | refine eM ?_
          · simp only [rangeSt]
            first | exact eN | refine eM ?_
          · simp only [rangeSt, fObjs]
            first | exact eN | refine eM ?_
            rfl
          · rintro _ _ ⟨rfl, N, rfl, hN⟩
            refine ⟨[(50, .nm 50), (101, .nm 101), (102, .nm 102), (3, .nm 3), (9, .nm 9)], fObjs f L tm N, L, rfl, rfl, ?_, rfl, rfl, rfl, by rw [hL1]; rfl, ?_⟩
            · simp only [fObjs]
              first | exact eN | refine eM ?_
            · intro b
              rw [hL2]
              simp only [EvJ, fObjs, rangeSt, go_sem, Nat.reduceEqDiff, reduceCtorEq, Nat.reduceAdd, Nat.reduceSub, Nat.reduceMul, Nat.reduceLeDiff, Nat.reduceLT, Int.reduceLE, Int.reduceToNat, Int.reduceNeg, ↓reduceIte]
              replace hc := marked_ok (dn := 103) (b := b) hc
              rw [hN]
              repeat' (first | exact trivial | refine eS rfl ?_ | refine ev_out_inv ?_ | refine rX [0, 1, 2, 3, 4, 5, 11, 12, 13] hc ?_ ?_ | (refine rC (fun hcond => ?_) (fun hcond => ?_) <;> try (cases hcond; done)))
              refine Ev.ent (σ' := ⟨[(2, .sr 9 T26 0 f.length)], [(9, .arr 26 T26 (firstF f)), (103, .dfr)]⟩) ?_ (ent_match [(9, .nm 9), (103, .nm 103)] rfl rfl ?_ ?_)
              · exact ev_finMR hc [.tmp 2] rfl (.inl rfl) rfl rfl (.sr 9 T26 0 f.length) (by simp only [retAV, ret1, retAVs, notAT, resV, resLoad, pureOf, go_sem, Nat.reduceEqDiff, reduceCtorEq, Nat.reduceAdd, Nat.reduceSub, Nat.reduceMul, Nat.reduceLeDiff, Nat.reduceLT, Int.reduceLE, Int.reduceToNat, Int.reduceNeg, ↓reduceIte]) ⟨rfl, by simp only [go_sem, Nat.reduceEqDiff, reduceCtorEq, Nat.reduceAdd, Nat.reduceSub, Nat.reduceMul, Nat.reduceLeDiff, Nat.reduceLT, Int.reduceLE, Int.reduceToNat, Int.reduceNeg, ↓reduceIte]⟩
              · first | exact eN | refine eM ?_
              · first | exact eN | refine eM ?_
end
/- Functions of restrict: Depth. -/
section
attribute [local go_sem] subS canonicalS
def accT (first : List (List Int)) (d : Int) (n : Int) (_ : Int × Int) : Bool := decide (((first.getD n.toNat []).length : Int) < d)
theorem depthC_ok (first : List (List Int)) (d : Int) (n : Int) (a : Int × Int) (h : 0 ≤ n ∧ n < (first.length : Int)) : CallM Tryz.prog 49 [.p T3 n, .p T77 a, .bp 1 [] 0, .bp 3 [] 0] [(1, .box 27 false [.p T27 first]), (3, .box 3 false [.p T3 d])] [1, 3] (fun res objs' => res = .p .bool (accT first d n a) ∧ objs' = [(1, .box 27 false [.p T27 first]), (3, .box 3 false [.p T3 d])]) := by
  refine fnM_ok Tryz.func49 (by kernel_rfl) rfl Tryz.ntmps49 (by simp only [List.length_cons, List.length_nil]; omega) (by kernel_rfl) rfl rfl (tyTab_ok []) fns_nil ?_
  intro w0 K O0 ρ0 hc hok1 hok2
  simp only [argEnv]
  repeat' (first | exact trivial | refine eS rfl ?_ | refine ev_out_inv ?_ | refine rX [0, 1, 2, 3, 6] hc ?_ ?_ | (refine rC (fun hcond => ?_) (fun hcond => ?_) <;> try (cases hcond; done)))
  · exact h
  · refine Ev.ent (σ' := ⟨[(6, .p .bool (accT first d n a))], [(1, .box 27 false [.p T27 first]), (3, .box 3 false [.p T3 d])]⟩) ?_ (ent_match [(1, .nm 1), (3, .nm 3)] rfl rfl ?_ ?_)
    · exact ev_finM hc [.tmp 6] rfl (.inl rfl) (.p .bool (accT first d n a)) (by simp only [retAV, ret1, retAVs, notAT, resV, resLoad, pureOf, go_sem, Nat.reduceEqDiff, reduceCtorEq, Nat.reduceAdd, Nat.reduceSub, Nat.reduceMul, Nat.reduceLeDiff, Nat.reduceLT, Int.reduceLE, Int.reduceToNat, Int.reduceNeg, ↓reduceIte]) ⟨rfl, rfl⟩
    · first | exact eN | refine eM ?_
    · first | exact eN | refine eM ?_
      rfl
theorem partT_ok (f : List GNode) (hf : GoodF f) (hs : SrtF f) (h0 : 0 < f.length) (first : List (List Int)) (d : Int) (hfi : first.length = f.length) : CallM Tryz.prog 44 [.p T25 f, .clo 49 [1, 3]] [(1, .box 27 false [.p T27 first]), (3, .box 3 false [.p T3 d])] [1, 3] (fun res _ => res = .p T25 (partF (accT first d) f)) := by
  refine fnM_ok Tryz.func44 (by kernel_rfl) rfl Tryz.ntmps44 (by simp only [List.length_cons, List.length_nil]; omega) (by kernel_rfl) rfl rfl (tyTab_ok [(75, subS)]) (fns_cons sub_ok fns_nil) ?_
  intro w0 K O0 ρ0 hc hok1 hok2
  simp only [argEnv]
  have hfl := hf.1
  repeat' (first | exact trivial | refine eS rfl ?_ | refine ev_out_inv ?_ | refine rX [0, 1, 2, 4, 5, 6, 7, 8, 10, 12, 13, 14, 15, 23, 24, 25, 26, 32] hc ?_ ?_ | (refine rC (fun hcond => ?_) (fun hcond => ?_) <;> try (cases hcond; done)))
  refine ev_loop (ι := {i : Nat // i ≤ f.length}) (fun i => ⟨[(1, .clo 49 [1, 3]), (2, .bp 2 [] 0), (4, .bp 4 [] 0), (5, .bp 5 [] 0), (12, .p T23 f), (13, .p (.int .i64) (f.length : Int)), (14, .p (.int .i64) (i.1 : Int))], [(5, .box 25 true [.sr 44 T45 0 i.1]), (4, .box 25 true [.raw (.slice none 0 0)]), (2, .box 25 true [.p T23 f]), (44, .arr 45 T45 (partL (accT first d) f i.1)), (1, .box 27 false [.p T27 first]), (3, .box 3 false [.p T3 d])]⟩) (fun i => f.length - i.1) ⟨0, by omega⟩ (ent_match [(5, .nm 5), (4, .nm 4), (2, .nm 2), (44, .nil), (1, .nm 1), (3, .nm 3)] rfl rfl ?_ ?_) (fun i => ?_)
  · first | exact eN | refine eM ?_
    rfl
  · first | exact eN | refine eM ?_
  · obtain ⟨i, hi⟩ := i
    repeat' (first | exact trivial | refine eS rfl ?_ | refine ev_out_inv ?_ | refine rX [0, 1, 2, 4, 5, 6, 7, 8, 10, 12, 13, 14, 15, 23, 24, 25, 26, 32] hc ?_ ?_ | (refine rC (fun hcond => ?_) (fun hcond => ?_) <;> try (cases hcond; done)))
    · exact eV
    · have hif : i < f.length := by exact eV
      have hx : (f.getD i (0, [])).2.length ≤ 100000 := (hf.2 _ (mem_of_take_succ f (0, []) hif)).1
      have hpn : partN (accT first d) f i = ((f.getD i (0, [])).1, (f.getD i (0, [])).2.filter ((accT first d) (i : Int))) := rfl
      generalize hgx : f.getD i (0, []) = x at *
      obtain ⟨xt, L⟩ := x
      simp only at hx hpn
      refine ev_loop (ι := {k : Nat // k ≤ L.length}) (fun k => ⟨[(1, .clo 49 [1, 3]), (2, .bp 2 [] 0), (4, .bp 4 [] 0), (5, .bp 5 [] 0), (6, .p (.int .i64) (i : Int)), (8, .bp 8 [] 0), (12, .p T23 f), (13, .p (.int .i64) (f.length : Int)), (14, .p (.int .i64) (i : Int)), (23, .p T43 L), (24, .p (.int .i64) (L.length : Int)), (25, .p (.int .i64) (k.1 : Int))], [(8, .box 45 true [.p T3 xt, .sr 37 T77 0 ((L.take k.1).filter ((accT first d) (i : Int))).length]), (37, .arr 77 T77 ((L.take k.1).filter ((accT first d) (i : Int)))), (5, .box 25 true [.sr 44 T45 0 i]), (4, .box 25 true [.raw (.slice none 0 0)]), (2, .box 25 true [.p T23 f]), (44, .arr 45 T45 (partL (accT first d) f i)), (1, .box 27 false [.p T27 first]), (3, .box 3 false [.p T3 d])]⟩) (fun k => L.length - k.1) ⟨0, by omega⟩ (ent_match [(8, .nm 8), (37, .nil), (5, .nm 5), (4, .nm 4), (2, .nm 2), (44, .nm 44), (1, .nm 1), (3, .nm 3)] rfl rfl ?_ ?_) (fun k => ?_)
      · first | exact eN | refine eM ?_
        exact ⟨rfl, rfl⟩
      · first | exact eN | refine eM ?_
      · obtain ⟨k, hk⟩ := k
        repeat' (first | exact trivial | refine eS rfl ?_ | refine ev_out_inv ?_ | refine rX [0, 1, 2, 4, 5, 6, 7, 8, 10, 12, 13, 14, 15, 23, 24, 25, 26, 32] hc ?_ ?_ | (refine rC (fun hcond => ?_) (fun hcond => ?_) <;> try (cases hcond; done)))
        · exact eV
        · have hkL : k < L.length := by exact eV
          have hlf := List.length_filter_le ((accT first d) (i : Int)) (L.take k)
          have hlt := List.length_take_le k L
          have hsn := filter_snoc ((accT first d) (i : Int)) L hkL
          refine cP 3 hc ?_ ?_
          · trivial
          · refine rM hc (depthC_ok first d (i : Int) (L.getD k (0, 0)) ⟨by omega, by omega⟩) [(1, .nm 1), (3, .nm 3)] [] ?_ ?_ ?_
            · first | exact eN | refine eM ?_
            · first | exact eN | refine eM ?_
            · rintro _ _ ⟨rfl, rfl⟩
              refine ⟨[(1, .nm 1), (3, .nm 3)], .p .bool ((accT first d) (i : Int) (L.getD k (0, 0))), [(1, .box 27 false [.p T27 first]), (3, .box 3 false [.p T3 d])], rfl, rfl, ?_, ?_, rfl, rfl, evL_end ?_⟩
              · first | exact eN | refine eM ?_
              · first | exact eN | refine eM ?_
              · generalize hac : (accT first d) (i : Int) (L.getD k (0, 0)) = ac at *
                repeat' (first | exact trivial | refine eS rfl ?_ | refine ev_out_inv ?_ | refine rX [0, 1, 2, 4, 5, 6, 7, 8, 10, 12, 13, 14, 15, 23, 24, 25, 26, 32] hc ?_ ?_ | (refine rC (fun hcond => ?_) (fun hcond => ?_) <;> try (cases hcond; done)))
                · simp only [maxN]
                  omega
                · exact eV
                · have hcond : ac = true := hcond
                  subst hcond
                  rw [if_pos rfl] at hsn
                  refine ⟨⟨k + 1, by omega⟩, by simp only; omega, ent_match [(8, .nm 8), (37, .nm 37), (5, .nm 5), (4, .nm 4), (2, .nm 2), (44, .nm 44), (1, .nm 1), (3, .nm 3)] rfl rfl ?_ ?_⟩
                  · simp only [hsn]
                    first | exact eN | refine eM ?_
                  · first | exact eN | refine eM ?_
                · exact eV
                · have hcond : ac = false := hcond
                  subst hcond
                  rw [if_neg (by simp)] at hsn
                  rw [List.append_nil] at hsn
                  refine ⟨⟨k + 1, by omega⟩, by simp only; omega, ent_match [(8, .nm 8), (37, .nm 37), (5, .nm 5), (4, .nm 4), (2, .nm 2), (44, .nm 44), (1, .nm 1), (3, .nm 3)] rfl rfl ?_ ?_⟩
                  · simp only [hsn]
                    first | exact eN | refine eM ?_
                  · first | exact eN | refine eM ?_
        · simp only [maxN]; omega
        · exact eV
        · have hkL : L.take k = L := List.take_of_length_le (by exact eV)
          rw [hkL]
          refine ⟨⟨i + 1, by omega⟩, by simp only; omega, ent_match [(5, .nm 5), (4, .nm 4), (2, .nm 2), (44, .nm 44), (1, .nm 1), (3, .nm 3)] rfl rfl ?_ ?_⟩
          · simp only [partL_succ, hpn]
            first | exact eN | refine eM ?_
            rw [List.take_of_length_le (Nat.le_of_eq (partL_len _ f i))]
          · first | exact eN | refine eM ?_
    · have hif : i = f.length := by exact eV
      subst hif
      obtain ⟨hg1, hg2⟩ := part_good hf hs (accT first d)
      have hpl := partL_len (accT first d) f f.length
      have hpf : partF (accT first d) f = canonicalF (partL (accT first d) f f.length) 0 := rfl
      refine Ev.ent ?_ (ent_frz [44] (by simp only [go_sem, Nat.reduceEqDiff, reduceCtorEq, Nat.reduceAdd, Nat.reduceSub, Nat.reduceMul, Nat.reduceLeDiff, Nat.reduceLT, Int.reduceLE, Int.reduceToNat, Int.reduceNeg, ↓reduceIte]; rfl) (fun _ _ h => h))
      have htl : (partL (accT first d) f f.length).take f.length = partL (accT first d) f f.length := List.take_of_length_le (Nat.le_of_eq hpl)
      rw [hpf]
      rw [htl]
      generalize partL (accT first d) f f.length = g at *
      repeat' (first | exact trivial | refine eS rfl ?_ | refine ev_out_inv ?_ | refine rX [0, 1, 2, 4, 5, 6, 7, 8, 10, 12, 13, 14, 15, 23, 24, 25, 26, 32] hc ?_ ?_ | (refine rC (fun hcond => ?_) (fun hcond => ?_) <;> try (cases hcond; done)))
      · exact ⟨hg1, hg2, by exact eV⟩
      · exact ev_finM hc [.cell 4 25] rfl (.inl rfl) (.p T25 (canonicalF g 0)) (by simp only [retAV, ret1, retAVs, notAT, resV, resLoad, pureOf, go_sem, Nat.reduceEqDiff, reduceCtorEq, Nat.reduceAdd, Nat.reduceSub, Nat.reduceMul, Nat.reduceLeDiff, Nat.reduceLT, Int.reduceLE, Int.reduceToNat, Int.reduceNeg, ↓reduceIte]) rfl
def pdepthF (f : List GNode) (d : Int) : List GNode := partF (accT (firstF f) d) f
def pdepthS : Spec := { ins := [T25, T3], pre := fun (f, _, _) => GoodF f ∧ SrtF f ∧ 0 < List.length f, out := fun (f, d, _) => [.p T25 (pdepthF f d)] }
theorem firstF_len {f : List GNode} (hf : GoodF f) (h0 : 0 < f.length) : (firstF f).length = f.length := by
  obtain ⟨n, hj, hn⟩ : ∃ n, (∀ j, j < n → j < (bst f j).2.2.length) ∧ (bst f n).2.2.length ≤ n := by
    have key : ∀ m n, m + n = f.length + 1 → (∀ j, j < n → j < (bst f j).2.2.length) → ∃ n, (∀ j, j < n → j < (bst f j).2.2.length) ∧ (bst f n).2.2.length ≤ n := by
      intro m
      induction m with
      | zero =>
        intro n hn hj
        have h1 := hj f.length (by omega)
        have h2 := (bst_BI hf h0 f.length).ok.cnt
        omega
      | succ m ih =>
        intro n hn hj
        by_cases h : (bst f n).2.2.length ≤ n
        · exact ⟨n, hj, h⟩
        · exact ih (n + 1) (by omega) fun j hj' => (Nat.lt_succ_iff_lt_or_eq.1 hj').elim (hj j) (fun e => by rw [e]; omega)
    exact key (f.length + 1) 0 (by omega) (fun j hj => by omega)
  rw [← coll_first hf h0 hj hn, coll_len]
theorem pdepth_ok : FnOk Tryz.prog 20 pdepthS := by
  refine fn_ok Tryz.func20 (by kernel_rfl) rfl Tryz.ntmps20 (by decide) (by kernel_rfl) (tyTab_ok []) fns_nil ?_
  rintro w0 O0 ⟨f, d, u⟩ hc - ⟨hf, hs, h0⟩
  simp only [pdepthS, entEnv]
  have hfl := firstF_len hf h0
  repeat' (first | exact trivial | refine eS rfl ?_ | refine ev_out_inv ?_ | refine rX [0, 1, 2, 3, 4, 5] hc ?_ ?_ | (refine rC (fun hcond => ?_) (fun hcond => ?_) <;> try (cases hcond; done)))
  refine cP 1 hc ?_ ?_
  · trivial
  · refine rM hc (pfirst_ok f hf h0) [] [] ?_ ?_ ?_
    · first | exact eN | refine eM ?_
    · first | exact eN | refine eM ?_
    · rintro _ _ ⟨rfl, rfl⟩
      refine ⟨[(9, .nm 9)], .sr 9 T26 0 (List.length f), [(9, .arr 26 T26 (firstF f))], rfl, rfl, ?_, ?_, rfl, rfl, ?_⟩
      · first | exact eN | refine eM ?_
      · first | exact eN | refine eM ?_
      · refine rL [2, 3, 4, 5] hc ?_ ?_
        · trivial
        · refine Ev.ent ?_ (ent_frz [9] (by simp only [go_sem, Nat.reduceEqDiff, reduceCtorEq, Nat.reduceAdd, Nat.reduceSub, Nat.reduceMul, Nat.reduceLeDiff, Nat.reduceLT, Int.reduceLE, Int.reduceToNat, Int.reduceNeg, ↓reduceIte]; rfl) (fun _ _ h => h))
          have htk : (firstF f).take (List.length f) = firstF f := List.take_of_length_le (by exact eV)
          rw [htk]
          repeat' (first | exact trivial | refine eS rfl ?_ | refine ev_out_inv ?_ | refine rX [0, 1, 2, 3, 4, 5] hc ?_ ?_ | (refine rC (fun hcond => ?_) (fun hcond => ?_) <;> try (cases hcond; done)))
          refine cP 2 hc ?_ ?_
          · trivial
          · refine rM hc (partT_ok f hf hs h0 (firstF f) d hfl) [(1, .nm 5), (3, .nm 3)] [5, 3] ?_ ?_ ?_
            · first | exact eN | refine eM ?_
            · first | exact eN | refine eM ?_
            · rintro _ _ rfl
              refine ⟨[], .p T25 (pdepthF f d), [], rfl, rfl, trivial, ?_, rfl, rfl, ?_⟩
              · unfold pdepthF
                first | exact eN | refine eM ?_
              · refine rL [4] hc ?_ ?_
                · trivial
                · repeat' (first | exact trivial | refine eS rfl ?_ | refine ev_out_inv ?_ | refine rX [0, 1, 2, 3, 4, 5] hc ?_ ?_ | (refine rC (fun hcond => ?_) (fun hcond => ?_) <;> try (cases hcond; done)))
                  exact ev_fin hc [.cell 4 25] rfl (.inl rfl) (by simp) (by first | exact eR | refine eRM ?_)
end
/- Functions of grammarlablaw15: exampleHolds. -/
section
attribute [local go_sem] equalS atomS pdropS pkeepS pdepthS
theorem ex1 : GoodF [(5, [(0, 1), (2, 1)]), (6, [(1, 2)]), (7, [])] ∧ SrtF [(5, [(0, 1), (2, 1)]), (6, [(1, 2)]), (7, [])] := by
  refine ⟨⟨by decide, by decide⟩, fun x hx => ?_⟩
  have : ∀ x ∈ ([(5, [(0, 1), (2, 1)]), (6, [(1, 2)]), (7, [])] : List GNode), x.2.Pairwise (fun a b => a.1 < b.1) ∧ x.2.length ≤ 12 := by decide
  exact ⟨(srtA_iff _).2 (this x hx).1, (this x hx).2⟩
theorem ex2 : GoodF [(3, [(0, 0)])] ∧ SrtF [(3, [(0, 0)])] := by
  refine ⟨⟨by decide, by decide⟩, fun x hx => ?_⟩
  have : ∀ x ∈ ([(3, [(0, 0)])] : List GNode), x.2.Pairwise (fun a b => a.1 < b.1) ∧ x.2.length ≤ 12 := by decide
  exact ⟨(srtA_iff _).2 (this x hx).1, (this x hx).2⟩
def exS : Spec := { ins := [], pre := fun _ => True, out := fun _ => [.p .bool true] }
theorem ex_ok : FnOk Tryz.prog 16 exS := by
  refine fn_ok Tryz.func16 (by kernel_rfl) rfl Tryz.ntmps16 (by decide) (by kernel_rfl) (tyTab_ok [(18, pkeepS), (19, equalS), (20, pdepthS), (17, pdropS), (43, atomS)] [7, 10, 13, 17, 20, 23, 26, 29, 31, 34, 35, 36, 42, 43, 56, 63, 70, 71]) (fns_cons pkeep_ok (fns_cons equal_ok (fns_cons pdepth_ok (fns_cons pdrop_ok (fns_cons atom_ok fns_nil))))) ?_
  rintro w0 O0 u hc - -
  simp only [exS, entEnv]
  repeat' (first | exact trivial | refine eS rfl ?_ | refine ev_out_inv ?_ | refine rX [0, 1, 2, 3, 4] hc ?_ ?_ | (refine rC (fun hcond => ?_) (fun hcond => ?_) <;> try (cases hcond; done)))
  · repeat' (first | exact ex1 | exact ex2 | exact ex1.1 | exact ex1.2 | exact ex2.1 | exact ex2.2 | (refine (?_ : SmallF _); unfold SmallF; decide +kernel) | decide +kernel | intro _ | apply And.intro)
  · refine Ev.ent (σ' := ⟨[(0, .p .bool true)], []⟩) ?_ (ent_match [] rfl rfl ?_ ?_)
    · exact ev_fin hc [.tmp 0] rfl (.inl rfl) (by simp) (by first | exact eR | refine eRM ?_)
    · first | exact eN | refine eM ?_
    · first | exact eN | refine eM ?_
      decide +kernel
end
/- Functions of grammarlabref15: Canonical. -/
section
attribute [local go_sem] lightS canonS equalS
def ftB (a : Int × Int) : Bool := decide (a.1 < 64)
def ndB (x : GNode) : Bool := decide (x.1 < 256) && x.2.all ftB
def canonicalB (f : List GNode) : Bool := lightF f && f.all ndB && ((canonF f).2 == 0 && (compareF (canonF f).1 f == 0))
def canonical15S : Spec := { ins := [T25], pre := fun _ => True, out := fun (f, _) => [.p .bool (canonicalB f)] }
theorem light_small {f : List GNode} (h : lightF f = true) : f.length ≤ 12 ∧ ∀ x ∈ f, x.2.length ≤ 12 := by
  unfold lightF at h
  simp only [Bool.and_eq_true, decide_eq_true_eq, List.all_eq_true] at h
  exact h
theorem small_from {f : List GNode} (hf : GoodF f) {n : Int} (h0 : 0 ≤ n) (h1 : n < f.length) : SmallF (fromF f n) := by
  obtain ⟨⟨g1, g2⟩, _⟩ := trav_ok hf h0 h1
  have hfl := hf.1
  refine ⟨?_, fun x hx => ?_⟩
  · unfold fromF
    rw [List.length_map]
    omega
  · obtain ⟨m, _, rfl⟩ := List.mem_map.1 hx
    unfold nodeF
    simp only [List.length_map, sortedF_len]
    exact arcs_len hf m
theorem small_canon {f : List GNode} (hs : SmallA f) : SmallF (canonF f).1 := by
  unfold canonF
  split
  · rename_i h
    obtain ⟨h1, h2⟩ := formF_good h hs
    exact small_from h1 (by omega) (by omega)
  · exact ⟨by simp, fun x hx => by cases hx⟩
theorem canonical15_ok : FnOk Tryz.prog 22 canonical15S := by
  refine fn_ok Tryz.func22 (by kernel_rfl) rfl Tryz.ntmps22 (by decide) (by kernel_rfl) (tyTab_ok [(51, lightS), (52, canonS), (19, equalS)]) (fns_cons light_ok (fns_cons canon_ok (fns_cons equal_ok fns_nil))) ?_
  rintro w0 O0 ⟨f, u⟩ hc - -
  simp only [canonical15S, entEnv]
  repeat' (first | exact trivial | refine eS rfl ?_ | refine ev_out_inv ?_ | refine rX [0, 1, 2, 3, 4, 5, 6, 9, 14, 23, 32, 45] hc ?_ ?_ | (refine rC (fun hcond => ?_) (fun hcond => ?_) <;> try (cases hcond; done)))
  · have e : canonicalB f = false := by unfold canonicalB; rw [hcond]; rfl
    exact ev_fin hc [.tmp 2] rfl (.inl rfl) (by simp) (by rw [e]; first | exact eR | refine eRM ?_)
  · have hlight := hcond
    obtain ⟨hl, hla⟩ := light_small hlight
    refine ev_loop (ι := {i : Nat // i ≤ f.length ∧ (f.take i).all ndB = true}) (fun i => ⟨[(1, .bp 1 [] 0), (3, .p (.int .i64) (i.1 : Int))], [(1, .box 25 true [.p T23 f])]⟩) (fun i => f.length - i.1) ⟨0, by simp⟩ (ent_match [(1, .nm 1)] rfl rfl ?_ ?_) (fun i => ?_)
    · first | exact eN | refine eM ?_
    · first | exact eN | refine eM ?_
    · obtain ⟨i, hi, hall⟩ := i
      repeat' (first | exact trivial | refine eS rfl ?_ | refine ev_out_inv ?_ | refine rX [0, 1, 2, 3, 4, 5, 6, 9, 14, 23, 32, 45] hc ?_ ?_ | (refine rC (fun hcond => ?_) (fun hcond => ?_) <;> try (cases hcond; done)))
      · exact eV
      · have hif : i < f.length := by exact eV
        have e : canonicalB f = false := by
          have hm := mem_of_take_succ f (0, []) hif
          have hz : ndB (f.getD i (0, [])) = false := by
            unfold ndB
            rw [decide_eq_false (by omega)]
            rfl
          unfold canonicalB
          rw [List.all_eq_false.2 ⟨_, hm, by rw [hz]; simp⟩]
          simp
        exact ev_fin hc [.tmp 2] rfl (.inl rfl) (by simp) (by rw [e]; first | exact eR | refine eRM ?_)
      · have hif : i < f.length := by exact eV
        have hx := hla _ (mem_of_take_succ f (0, []) hif)
        have hm := mem_of_take_succ f (0, []) hif
        have hsn : (f.take (i + 1)).all ndB = ((f.take i).all ndB && ndB (f.getD i (0, []))) := by
          rw [take_snoc f (0, []) hif, List.all_append]; simp
        have hnd : ndB (f.getD i (0, [])) = (f.getD i (0, [])).2.all ftB := by
          unfold ndB
          rw [decide_eq_true (by omega)]
          rfl
        refine ev_loop (ι := {k : Nat // k ≤ (f.getD i (0, [])).2.length ∧ ((f.getD i (0, [])).2.take k).all ftB = true}) (fun k => ⟨[(1, .bp 1 [] 0), (3, .p (.int .i64) (i : Int)), (4, .p (.int .i64) (k.1 : Int))], [(1, .box 25 true [.p T23 f])]⟩) (fun k => (f.getD i (0, [])).2.length - k.1) ⟨0, by simp⟩ (ent_match [(1, .nm 1)] rfl rfl ?_ ?_) (fun k => ?_)
        · first | exact eN | refine eM ?_
        · first | exact eN | refine eM ?_
        · obtain ⟨k, hk, hall2⟩ := k
          have hsn2 := fun (h : k < (f.getD i (0, [])).2.length) => take_snoc (f.getD i (0, [])).2 (0, 0) h
          repeat' (first | exact trivial | refine eS rfl ?_ | refine ev_out_inv ?_ | refine rX [0, 1, 2, 3, 4, 5, 6, 9, 14, 23, 32, 45] hc ?_ ?_ | (refine rC (fun hcond => ?_) (fun hcond => ?_) <;> try (cases hcond; done)))
          · exact eV
          · exact eV
          · have hkL : k < (f.getD i (0, [])).2.length := by exact eV
            have e : canonicalB f = false := by
              have hm2 := mem_of_take_succ (f.getD i (0, [])).2 (0, 0) hkL
              unfold canonicalB
              rw [List.all_eq_false.2 ⟨_, hm, by rw [hnd, List.all_eq_false.2 ⟨_, hm2, by unfold ftB; rw [decide_eq_false (by omega)]; simp⟩]; simp⟩]
              simp
            exact ev_fin hc [.tmp 2] rfl (.inl rfl) (by simp) (by rw [e]; first | exact eR | refine eRM ?_)
          · exact eV
          · have hkL : k < (f.getD i (0, [])).2.length := by exact eV
            refine ⟨⟨k + 1, by omega, ?_⟩, by simp only; exact eV, ent_match [(1, .nm 1)] rfl rfl ?_ ?_⟩
            · rw [hsn2 hkL, List.all_append, hall2]
              simp only [List.all_cons, List.all_nil, Bool.and_true, Bool.true_and]
              unfold ftB
              exact decide_eq_true hcond
            · first | exact eN | refine eM ?_
            · first | exact eN | refine eM ?_
          · exact eV
          · have hkL : (f.getD i (0, [])).2.take k = (f.getD i (0, [])).2 := List.take_of_length_le (by exact eV)
            rw [hkL] at hall2
            refine ⟨⟨i + 1, by omega, ?_⟩, by simp only; omega, ent_match [(1, .nm 1)] rfl rfl ?_ ?_⟩
            · rw [hsn, hall, hnd, hall2]; rfl
            · first | exact eN | refine eM ?_
            · first | exact eN | refine eM ?_
      · intro x hx
        exact Nat.le_trans (hla x hx) (by omega)
      · intro _
        have hsa : SmallA f := fun x hx => Nat.le_trans (hla x hx) (by omega)
        exact ⟨small_canon hsa, by omega, fun x hx => Nat.le_trans (hla x hx) (by omega)⟩
      · have hif : f.take i = f := List.take_of_length_le (by exact eV)
        rw [hif] at hall
        have e : canonicalB f = ((canonF f).2 == 0 && (compareF (canonF f).1 f == 0)) := by
          unfold canonicalB
          rw [hlight, hall]
          rfl
        exact ev_fin hc [.tmp 2] rfl (.inl rfl) (by simp) (by rw [e]; first | exact eR | refine eRM ?_)
end
/- What a canonical feature structure is: its arcs ascend. -/
section
theorem cmpL_cons {x y : Int} {xs ys : List Int} (h : cmpL (x :: xs) (y :: ys) = 0) : x = y ∧ cmpL xs ys = 0 := by
  simp only [cmpL] at h
  split at h
  · cases h
  · split at h
    · cases h
    · exact ⟨by omega, h⟩
theorem cmpL_pairs : ∀ {l m : List (Int × Int)} {r s : List Int}, l.length = m.length → cmpL (l.flatMap (fun a => [a.1, a.2]) ++ r) (m.flatMap (fun a => [a.1, a.2]) ++ s) = 0 → l = m ∧ cmpL r s = 0
  | [], [], _, _, _, h => ⟨rfl, by simpa using h⟩
  | [], _ :: _, _, _, hl, _ => by simp at hl
  | _ :: _, [], _, _, hl, _ => by simp at hl
  | (a1, a2) :: l, (b1, b2) :: m, r, s, hl, h => by
    have h : cmpL (a1 :: a2 :: (l.flatMap (fun a => [a.1, a.2]) ++ r)) (b1 :: b2 :: (m.flatMap (fun a => [a.1, a.2]) ++ s)) = 0 := by simpa using h
    obtain ⟨e1, h3⟩ := cmpL_cons h
    obtain ⟨e2, h4⟩ := cmpL_cons h3
    obtain ⟨e3, h5⟩ := cmpL_pairs (l := l) (m := m) (by simpa using hl) h4
    exact ⟨by rw [e1, e2, e3], h5⟩
theorem cmpL_nodes : ∀ {l m : List GNode} {r s : List Int}, l.length = m.length → cmpL (l.flatMap numN ++ r) (m.flatMap numN ++ s) = 0 → l = m ∧ cmpL r s = 0
  | [], [], _, _, _, h => ⟨rfl, by simpa using h⟩
  | [], _ :: _, _, _, hl, _ => by simp at hl
  | _ :: _, [], _, _, hl, _ => by simp at hl
  | (a1, a2) :: l, (b1, b2) :: m, r, s, hl, h => by
    have h : cmpL (a1 :: (a2.length : Int) :: (a2.flatMap (fun a => [a.1, a.2]) ++ (l.flatMap numN ++ r))) (b1 :: (b2.length : Int) :: (b2.flatMap (fun a => [a.1, a.2]) ++ (m.flatMap numN ++ s))) = 0 := by simpa [numN] using h
    obtain ⟨e1, h3⟩ := cmpL_cons h
    obtain ⟨e2, h4⟩ := cmpL_cons h3
    obtain ⟨e3, h5⟩ := cmpL_pairs (l := a2) (m := b2) (by omega) h4
    obtain ⟨e4, h6⟩ := cmpL_nodes (l := l) (m := m) (by simpa using hl) h5
    exact ⟨by rw [e1, e3, e4], h6⟩
theorem compareF_eq {a b : List GNode} (h : compareF a b = 0) : a = b := by
  unfold compareF numbersF at h
  obtain ⟨h1, h2⟩ := cmpL_cons h
  have := cmpL_nodes (l := a) (m := b) (r := []) (s := []) (by omega) (by simpa using h2)
  exact this.1
theorem cmpL_self : ∀ l : List Int, cmpL l l = 0
  | [] => rfl
  | x :: l => by simp [cmpL, cmpL_self l]
theorem compareF_self (a : List GNode) : compareF a a = 0 := cmpL_self _
/-! The sort ascends -/
theorem posF_spec (x : Int × Int) (s : List (Int × Int)) : ∀ n, (∀ j, posF x s n ≤ j → j < n → x.1 < (s.getD j (0, 0)).1) ∧ (0 < posF x s n → (s.getD (posF x s n - 1) (0, 0)).1 ≤ x.1)
  | 0 => ⟨fun j h1 h2 => by omega, fun h => by simp [posF] at h⟩
  | n + 1 => by
    obtain ⟨h1, h2⟩ := posF_spec x s n
    unfold posF
    split
    · rename_i hc
      refine ⟨fun j g1 g2 => ?_, h2⟩
      by_cases e : j = n
      · subst e; exact hc
      · exact h1 j g1 (by omega)
    · rename_i hc
      exact ⟨fun j g1 g2 => by omega, fun _ => by simp only [Nat.add_sub_cancel]; omega⟩
theorem pw_get {l : List (Int × Int)} (h : l.Pairwise (fun a b => a.1 ≤ b.1)) {i j : Nat} (hij : i ≤ j) (hj : j < l.length) : (l.getD i (0, 0)).1 ≤ (l.getD j (0, 0)).1 := by
  rcases Nat.eq_or_lt_of_le hij with rfl | hlt
  · exact Int.le_refl _
  · rw [List.pairwise_iff_getElem] at h
    have := h i j (by omega) hj hlt
    simpa [List.getD_eq_getElem?_getD, hj, show i < l.length by omega] using this
theorem insF_sorted {s : List (Int × Int)} (h : s.Pairwise (fun a b => a.1 ≤ b.1)) (x : Int × Int) : (insF s x).Pairwise (fun a b => a.1 ≤ b.1) := by
  obtain ⟨h1, h2⟩ := posF_spec x s s.length
  have hp := posF_le x s s.length
  unfold insF
  generalize posF x s s.length = p at *
  rw [List.pairwise_append, List.pairwise_append]
  have hlow : ∀ a ∈ s.take p, a.1 ≤ x.1 := fun a ha => by
    obtain ⟨i, hi, rfl⟩ := List.mem_iff_getElem.1 ha
    rw [List.length_take] at hi
    have h3 := pw_get h (i := i) (j := p - 1) (by omega) (by omega)
    have h4 := h2 (by omega)
    have e : (s.take p)[i].1 = (s.getD i (0, 0)).1 := by simp [List.getD_eq_getElem?_getD, show i < s.length by omega]
    rw [e]
    omega
  have hhigh : ∀ b ∈ s.drop p, x.1 ≤ b.1 := fun b hb => by
    obtain ⟨i, hi, rfl⟩ := List.mem_iff_getElem.1 hb
    rw [List.length_drop] at hi
    have h3 := h1 (p + i) (by omega) (by omega)
    have e : (s.drop p)[i].1 = (s.getD (p + i) (0, 0)).1 := by simp [List.getD_eq_getElem?_getD, show p + i < s.length by omega]
    rw [e]
    omega
  refine ⟨⟨h.sublist (List.take_sublist _ _), by simp, fun a ha b hb => ?_⟩, h.sublist (List.drop_sublist _ _), fun a ha b hb => ?_⟩
  · have : b = x := by simpa using hb
    rw [this]
    exact hlow a ha
  · rcases List.mem_append.1 ha with ha | ha
    · exact Int.le_trans (hlow a ha) (hhigh b hb)
    · have : a = x := by simpa using ha
      rw [this]
      exact hhigh b hb
theorem sortedF_sorted (l : List (Int × Int)) : (sortedF l).Pairwise (fun a b => a.1 ≤ b.1) := by
  induction l using list_snoc_ind with
  | h0 => exact List.Pairwise.nil
  | h1 l a ih => rw [sortedF_snoc]; exact insF_sorted ih a
theorem arcsG_nodup {n : Int} : ∀ {l seen : List (Int × Int)}, arcsG n seen l = 0 → (l.map (·.1)).Nodup ∧ ∀ a ∈ l, ∀ b ∈ seen, b.1 ≠ a.1
  | [], _, _ => ⟨by simp, fun a ha => by cases ha⟩
  | x :: l, seen, h => by
    simp only [arcsG] at h
    split at h
    · cases h
    · split at h
      · cases h
      · rename_i h1 h2
        obtain ⟨g1, g2⟩ := arcsG_nodup h
        have h2 : ∀ b ∈ seen, b.1 ≠ x.1 := fun b hb e => h2 (List.any_eq_true.2 ⟨b, hb, by simp [e]⟩)
        refine ⟨?_, fun a ha b hb => ?_⟩
        · rw [List.map_cons, List.nodup_cons]
          refine ⟨fun hm => ?_, g1⟩
          obtain ⟨a, ha, e⟩ := List.mem_map.1 hm
          exact g2 a ha x (by simp) e.symm
        · rcases List.mem_cons.1 ha with rfl | ha
          · exact h2 b hb
          · exact g2 a ha b (by simp [hb])
theorem formG_arcs {m : Int} : ∀ {f : List GNode}, formG m f = 0 → ∀ x ∈ f, arcsF x.2 m = 0
  | [], _, x, hx => by cases hx
  | y :: f, h, x, hx => by
    simp only [formG] at h
    split at h
    · cases h
    · split at h
      · rename_i h1 h2; exact absurd h h2
      · rename_i h1 h2
        rcases List.mem_cons.1 hx with rfl | hx
        · exact Classical.byContradiction h2
        · exact formG_arcs h x hx
theorem strict_of {l : List (Int × Int)} (h : l.Pairwise (fun a b => a.1 ≤ b.1)) (hn : (l.map (·.1)).Nodup) : l.Pairwise (fun a b => a.1 < b.1) := by
  rw [List.Nodup, List.pairwise_map] at hn
  refine (h.and hn).imp fun {a b} hab => ?_
  have h1 := hab.1
  have h2 : ¬ a.1 = b.1 := hab.2
  omega
theorem canonical_good {f : List GNode} (h : canonicalB f = true) : GoodF f ∧ SrtF f ∧ 0 < f.length ∧ lightF f = true := by
  unfold canonicalB at h
  simp only [Bool.and_eq_true, beq_iff_eq] at h
  obtain ⟨⟨hl, _⟩, hc, he⟩ := h
  obtain ⟨hl1, hl2⟩ := light_small hl
  have hsa : SmallA f := fun x hx => Nat.le_trans (hl2 x hx) (by omega)
  have hform : formF f = 0 := by
    unfold canonF at hc
    split at hc
    · assumption
    · exact hc
  obtain ⟨hg, h0⟩ := formF_good hform hsa
  have hcf : (canonF f).1 = fromF f 0 := by unfold canonF; rw [if_pos hform]
  rw [hcf] at he
  have hfe := compareF_eq he
  refine ⟨hg, fun x hx => ⟨?_, hl2 x hx⟩, h0, hl⟩
  rw [← hfe] at hx
  obtain ⟨n, _, rfl⟩ := List.mem_map.1 hx
  rw [srtA_iff]
  have harcs : ((f.getD n.toNat (0, [])).2.map (·.1)).Nodup := by
    by_cases hlt : n.toNat < f.length
    · have hm : f.getD n.toNat (0, []) ∈ f := mem_of_take_succ f (0, []) hlt
      have hfg : formG f.length f = 0 := by
        unfold formF at hform
        split at hform
        · cases hform
        · split at hform
          · cases hform
          · exact hform
      exact (arcsG_nodup (formG_arcs hfg _ hm)).1
    · rw [List.getD_eq_getElem?_getD, List.getElem?_eq_none (by omega)]
      simp
  have hst := strict_of (sortedF_sorted (f.getD n.toNat (0, [])).2) (((sortedF_perm _).map (·.1)).nodup_iff.2 harcs)
  unfold nodeF
  simp only
  rw [List.pairwise_map]
  exact hst.imp fun hab => hab
end
/- The plain laws under RestrictWhole: the first paths lead to their nodes and are shorter than the nodes are many; all nodes of a canonical feature structure are come to. -/
section
abbrev arcsAt (f : List GNode) (n : Int) : List (Int × Int) := (f.getD n.toNat (0, [])).2
def walkF (f : List GNode) : Int → List Int → Option Int
  | n, [] => some n
  | n, x :: r => if toF (arcsAt f n) x < 0 then none else walkF f (toF (arcsAt f n) x) r
theorem walkF_snoc (f : List GNode) : ∀ (p : List Int) (n m x : Int), walkF f n p = some m → walkF f n (p ++ [x]) = if toF (arcsAt f m) x < 0 then none else some (toF (arcsAt f m) x)
  | [], n, m, x, h => by
    simp only [walkF, Option.some.injEq] at h
    subst h
    rfl
  | y :: p, n, m, x, h => by
    simp only [walkF, List.cons_append] at h ⊢
    split at h
    · cases h
    · rename_i hc
      rw [if_neg hc]
      exact walkF_snoc f p _ m x h
theorem toF_arc {l : List (Int × Int)} (h : l.Pairwise (fun a b => a.1 < b.1)) {a : Int × Int} (ha : a ∈ l) : toF l a.1 = a.2 := by
  have keep : ∀ (l : List (Int × Int)) (t : Int), (∀ b ∈ l, ¬ b.1 = a.1) → l.foldl (fun t b => if b.1 = a.1 then b.2 else t) t = t := by
    intro l
    induction l with
    | nil => intro t _; rfl
    | cons b l ih =>
      intro t hl
      rw [List.foldl_cons, if_neg (hl b (by simp))]
      exact ih t (fun c hc => hl c (by simp [hc]))
  obtain ⟨l1, l2, rfl⟩ := List.append_of_mem ha
  rw [List.pairwise_append, List.pairwise_cons] at h
  obtain ⟨-, ⟨h2, -⟩, -⟩ := h
  unfold toF
  rw [List.foldl_append, List.foldl_cons, if_pos rfl]
  exact keep l2 _ (fun b hb e => by have := h2 b hb; omega)
/-- The search's paths lead where they ought to. -/
structure WI (f : List GNode) (s : Bfs) : Prop where
  walk : ∀ x ∈ s.2.2, walkF f 0 (s.1.getD x.toNat []) = some x
  len : ∀ p ∈ s.1, p.length < s.2.2.length
theorem bfsA_WI {f : List GNode} (hs : SrtF f) {s : Bfs} (h : BI f s) (hw : WI f s) {n : Int} (hn : n ∈ s.2.2) {a : Int × Int} (ha : a ∈ arcsAt f n) (h0 : 0 ≤ a.2) (h1 : a.2 < f.length) : WI f (bfsA n s a) := by
  obtain ⟨-, -, g3⟩ := bfsA_BI (n := n) h h0 h1
  have hl1 := h.ok.l1
  unfold bfsA at g3 ⊢
  split at g3
  · rename_i hc
    rw [if_pos hc]
    exact hw
  · rename_i hc
    rw [if_neg hc]
    have hto := toF_arc ((srtA_iff _).1 (srt_of hs n).1) ha
    refine ⟨fun x hx => ?_, fun p hp => ?_⟩
    · simp only at g3 hx ⊢
      by_cases hxo : x ∈ s.2.2
      · rw [g3 x hxo]
        exact hw.walk x hxo
      · have hxa : x = a.2 := by
          rcases List.mem_append.1 hx with hx | hx
          · exact absurd hx hxo
          · simpa using hx
        subst hxa
        rw [getD_set_self _ _ _ (by omega), walkF_snoc f _ 0 n a.1 (hw.walk n hn), hto, if_neg (by omega)]
    · simp only at hp ⊢
      rw [List.length_append, List.length_singleton]
      rcases List.mem_or_eq_of_mem_set hp with hp | rfl
      · have := hw.len p hp
        omega
      · rw [List.length_append, List.length_singleton]
        have h2 := h.ok.rng n hn
        have h3 : s.1.getD n.toNat [] ∈ s.1 := mem_of_take_succ s.1 [] (by omega)
        have := hw.len _ h3
        omega
theorem bfsF_WI {f : List GNode} (hf : GoodF f) (hs : SrtF f) {n : Int} : ∀ {l : List (Int × Int)} {s : Bfs}, (∀ a ∈ l, a ∈ arcsAt f n) → BI f s → WI f s → n ∈ s.2.2 →
    WI f (l.foldl (bfsA n) s) ∧ ∀ a ∈ l, a.2 ∈ (l.foldl (bfsA n) s).2.2
  | [], _, _, _, h, _ => ⟨h, fun a ha => by cases ha⟩
  | a :: l, s, hl, hb, h, hn => by
    have q := arcs_in hf (hl a (by simp))
    obtain ⟨g1, g2, _⟩ := bfsA_BI (n := n) hb q.1 q.2
    obtain ⟨i1, i2⟩ := bfsF_WI hf hs (n := n) (l := l) (fun b hb => hl b (by simp [hb])) g1 (bfsA_WI hs hb h hn (hl a (by simp)) q.1 q.2) (g2.subset hn)
    obtain ⟨_, j2, _⟩ := bfsF_BI (n := n) (l := l) (fun b hb => arcs_in hf (hl b (by simp [hb]))) g1
    refine ⟨i1, fun b hb' => ?_⟩
    rcases List.mem_cons.1 hb' with rfl | hb'
    · refine j2.subset ?_
      unfold bfsA
      split
      · rename_i hc
        have := (hb.mem b.2.toNat (by omega)).1 hc
        rwa [show ((b.2.toNat : Nat) : Int) = b.2 by omega] at this
      · simp
    · exact i2 b hb'
theorem bst_WI {f : List GNode} (hf : GoodF f) (hs : SrtF f) (h0 : 0 < f.length) : ∀ i, (∀ j, j < i → j < (bst f j).2.2.length) → WI f (bst f i) ∧ (0 : Int) ∈ (bst f i).2.2 ∧
    ∀ j, j < i → ∀ a ∈ arcsAt f ((bst f i).2.2.getD j 0), a.2 ∈ (bst f i).2.2
  | 0, _ => by
    refine ⟨⟨fun x hx => ?_, fun p hp => ?_⟩, by simp [bst, bfs0], fun j hj => by omega⟩
    · have : x = 0 := by simpa [bst, bfs0] using hx
      subst this
      simp only [bst, bfs0, List.getD_eq_getElem?_getD, List.getElem?_replicate]
      split <;> rfl
    · have : p = [] := List.eq_of_mem_replicate (by simpa [bst, bfs0] using hp : p ∈ List.replicate f.length [])
      subst this
      simp [bst, bfs0]
  | i + 1, hj => by
    obtain ⟨g1, g2, g3⟩ := bst_WI hf hs h0 i (fun j hji => hj j (by omega))
    have hb := bst_BI hf h0 i
    have hi := hj i (by omega)
    have hn : (bst f i).2.2.getD i 0 ∈ (bst f i).2.2 := mem_of_take_succ _ 0 hi
    obtain ⟨k1, k2⟩ := bfsF_WI hf hs (n := (bst f i).2.2.getD i 0) (l := arcsAt f ((bst f i).2.2.getD i 0)) (fun a ha => ha) hb g1 hn
    obtain ⟨_, j2, _⟩ := bfsF_BI (n := (bst f i).2.2.getD i 0) (l := arcsAt f ((bst f i).2.2.getD i 0)) (fun a ha => arcs_in hf ha) hb
    have e : bst f (i + 1) = (arcsAt f ((bst f i).2.2.getD i 0)).foldl (bfsA ((bst f i).2.2.getD i 0)) (bst f i) := rfl
    rw [e]
    refine ⟨k1, j2.subset g2, fun j hji a ha => ?_⟩
    have hjl : j < (bst f i).2.2.length := by omega
    have hget : ((arcsAt f ((bst f i).2.2.getD i 0)).foldl (bfsA ((bst f i).2.2.getD i 0)) (bst f i)).2.2.getD j 0 = (bst f i).2.2.getD j 0 := by
      obtain ⟨t, ht⟩ := j2
      rw [← ht]
      simp only [List.getD_eq_getElem?_getD]
      rw [List.getElem?_append_left hjl]
    rw [hget] at ha
    by_cases hji' : j = i
    · subst hji'
      exact k2 a ha
    · exact j2.subset (g3 j (by omega) a ha)
/-- The search's end. -/
theorem first_law {f : List GNode} (hf : GoodF f) (hs : SrtF f) (h0 : 0 < f.length) : ∃ C : List Int, (0 : Int) ∈ C ∧ (∀ x ∈ C, ∀ a ∈ arcsAt f x, a.2 ∈ C) ∧ (∀ x ∈ C, walkF f 0 ((firstF f).getD x.toNat []) = some x) ∧ ∀ p ∈ firstF f, p.length < f.length := by
  obtain ⟨n, hj, hn⟩ : ∃ n, (∀ j, j < n → j < (bst f j).2.2.length) ∧ (bst f n).2.2.length ≤ n := by
    have key : ∀ m n, m + n = f.length + 1 → (∀ j, j < n → j < (bst f j).2.2.length) → ∃ n, (∀ j, j < n → j < (bst f j).2.2.length) ∧ (bst f n).2.2.length ≤ n := by
      intro m
      induction m with
      | zero =>
        intro n hn hj
        have h1 := hj f.length (by omega)
        have h2 := (bst_BI hf h0 f.length).ok.cnt
        omega
      | succ m ih =>
        intro n hn hj
        by_cases h : (bst f n).2.2.length ≤ n
        · exact ⟨n, hj, h⟩
        · exact ih (n + 1) (by omega) fun j hj' => (Nat.lt_succ_iff_lt_or_eq.1 hj').elim (hj j) (fun e => by rw [e]; omega)
    exact key (f.length + 1) 0 (by omega) (fun j hj => by omega)
  have e : firstF f = (bst f n).1 := by
    unfold firstF
    rw [← bst_bfs hf h0 n hj, bfs_end hn]
  obtain ⟨g1, g2, g3⟩ := bst_WI hf hs h0 n hj
  have hc := (bst_BI hf h0 n).ok.cnt
  refine ⟨(bst f n).2.2, g2, fun x hx a ha => ?_, fun x hx => by rw [e]; exact g1.walk x hx, fun p hp => ?_⟩
  · obtain ⟨j, hj', rfl⟩ := List.mem_iff_getElem.1 hx
    have : (bst f n).2.2[j] = (bst f n).2.2.getD j 0 := by simp [List.getD_eq_getElem?_getD, hj']
    rw [this] at ha
    exact g3 j (by omega) a ha
  · rw [e] at hp
    have := g1.len p hp
    omega
theorem dfs_in {f : List GNode} {C : List Int} (hC : ∀ x ∈ C, ∀ a ∈ arcsAt f x, a.2 ∈ C) : ∀ (k : Nat) (o : List Int) (n : Int), (∀ x ∈ o, x ∈ C) → n ∈ C → ∀ x ∈ dfs f k o n, x ∈ C
  | 0, o, n, ho, _ => ho
  | k + 1, o, n, ho, hn => by
    have key : ∀ (l : List (Int × Int)) (t : List Int), (∀ a ∈ l, a.2 ∈ C) → (∀ x ∈ t, x ∈ C) → ∀ x ∈ l.foldl (stepD f k) t, x ∈ C := by
      intro l
      induction l with
      | nil => exact fun t _ ht => ht
      | cons a l ih =>
        intro t hl ht
        rw [List.foldl_cons]
        refine ih _ (fun b hb => hl b (by simp [hb])) ?_
        unfold stepD
        split
        · exact ht
        · exact dfs_in hC k t a.2 ht (hl a (by simp))
    rw [dfs_succ]
    refine key _ _ (fun a ha => hC n hn a ha) (fun x hx => ?_)
    rcases List.mem_append.1 hx with hx | hx
    · exact ho x hx
    · have : x = n := by simpa using hx
      rw [this]; exact hn
/-- A canonical feature structure is its own canonical form. -/
theorem canonical_fix {f : List GNode} (h : canonicalB f = true) : canonicalF f 0 = f := by
  obtain ⟨hg, hs, h0, _⟩ := canonical_good h
  unfold canonicalB at h
  simp only [Bool.and_eq_true, beq_iff_eq] at h
  obtain ⟨_, hc, he⟩ := h
  have hcf : (canonF f).1 = fromF f 0 := by
    unfold canonF at hc ⊢
    split at hc
    · rename_i hh; rw [if_pos hh]
    · rename_i hh; exact absurd hc hh
  rw [hcf] at he
  rw [← from_canonical hg hs (by omega) (by omega)]
  exact compareF_eq he
/-- All its nodes are come to. -/
theorem canonical_all {f : List GNode} (h : canonicalB f = true) {i : Nat} (hi : i < f.length) : walkF f 0 ((firstF f).getD i []) = some (i : Int) := by
  obtain ⟨hg, hs, h0, _⟩ := canonical_good h
  obtain ⟨C, c1, c2, c3, _⟩ := first_law hg hs h0
  have hfix := canonical_fix h
  have hd0 : DOk f [] := ⟨by simp, fun x hx => by cases hx⟩
  have hd := (dfs_ok hg f.length [] 0 hd0 (by omega) (by omega) (by simp)).1
  have hin := dfs_in c2 f.length [] 0 (fun x hx => by cases hx) c1
  have hlen : (dfs f f.length [] 0).length = f.length := by
    have := congrArg List.length hfix
    simpa [canonicalF] using this
  generalize dfs f f.length [] 0 = o at hd hin hlen
  have hmem : (i : Int) ∈ o := by
    refine Classical.byContradiction fun hn => ?_
    have hnd := hd.snoc (n := (i : Int)) (by omega) (by omega) hn
    have := hnd.len
    rw [List.length_append, List.length_singleton] at this
    omega
  have := c3 _ (hin _ hmem)
  simpa using this
/-! The parts -/
theorem partL_self {acc : Int → Int × Int → Bool} {f : List GNode} (h : ∀ i, i < f.length → ∀ a ∈ (f.getD i (0, [])).2, acc (i : Int) a = true) : partL acc f f.length = f := by
  apply List.ext_getElem
  · exact partL_len _ _ _
  · intro i h1 h2
    have e : f.getD i (0, []) = f[i] := by simp [List.getD_eq_getElem?_getD, h2]
    have := h i h2
    simp only [partL, List.getElem_map, List.getElem_range, partN]
    rw [List.filter_eq_self.2 this, e]
theorem partF_self {acc : Int → Int × Int → Bool} {f : List GNode} (hc : canonicalB f = true) (h : ∀ i, i < f.length → ∀ a ∈ (f.getD i (0, [])).2, acc (i : Int) a = true) : partF acc f = f := by
  unfold partF
  rw [partL_self h]
  exact canonical_fix hc
theorem pdrop_nil {f : List GNode} (hc : canonicalB f = true) : pdropF f [] = f := partF_self hc (fun i _ a _ => rfl)
theorem pdepth_all {f : List GNode} (hc : canonicalB f = true) : pdepthF f (f.length : Int) = f := by
  obtain ⟨hg, hs, h0, _⟩ := canonical_good hc
  obtain ⟨C, _, _, _, c4⟩ := first_law hg hs h0
  refine partF_self hc (fun i hi a _ => ?_)
  have h1 : i < (firstF f).length := by rw [firstF_len hg h0]; exact hi
  have := c4 _ (mem_of_take_succ (firstF f) [] h1)
  simp only [accT, Int.toNat_natCast, decide_eq_true_eq]
  omega
theorem pkeep_nil {f : List GNode} (h0 : 0 < f.length) : pkeepF f [] = [((f.getD 0 (0, [])).1, [])] := by
  unfold pkeepF partF keptF
  have hl : partL (accK (List.foldl (fun m p => kpF f m 0 p) [] [])) f f.length = f.map fun x => (x.1, []) := by
    apply List.ext_getElem
    · rw [partL_len, List.length_map]
    · intro i h1 h2
      have h2' : i < f.length := by simpa using h2
      have e : f.getD i (0, []) = f[i] := by simp [List.getD_eq_getElem?_getD, h2']
      simp only [partL, List.getElem_map, List.getElem_range, partN]
      rw [e]
      congr 1
      exact List.filter_eq_nil_iff.2 fun a _ => by simp [accK, mfind]
  rw [hl]
  unfold canonicalF
  have hd : dfs (f.map fun x => (x.1, [])) (f.map fun x => ((x.1, []) : GNode)).length [] 0 = [0] := by
    obtain ⟨k, hk⟩ : ∃ k, (f.map fun x => ((x.1, []) : GNode)).length = k + 1 := ⟨f.length - 1, by rw [List.length_map]; omega⟩
    rw [hk, dfs_succ]
    have : ((f.map fun x => ((x.1, []) : GNode)).getD (0 : Int).toNat (0, [])).2 = [] := by
      simp [List.getD_eq_getElem?_getD, List.getElem?_map]
      cases f[0]? <;> rfl
    rw [this]
    rfl
  rw [hd]
  simp [nodeD, List.getD_eq_getElem?_getD, List.getElem?_map, h0]
/-! Keep all paths -/
theorem eqT93 (x k : Int × Int) : (eqT T84 x k = true) ↔ x = k := by
  simp only [eqT, Bool.and_eq_true, beq_iff_eq]
  exact ⟨fun h => Prod.ext h.1 h.2, fun h => by rw [h]; exact ⟨rfl, rfl⟩⟩
theorem kfind_mput (x k : Int × Int) (m : KMap) : (mfind T84 .bool x (mput T84 .bool k true m)).getD false = (decide (x = k) || (mfind T84 .bool x m).getD false) := by
  induction m with
  | nil =>
    by_cases h : x = k
    · simp only [mput, mfind]
      rw [if_pos ((eqT93 x k).2 h)]
      simp [h]
    · have h' : ¬ eqT T84 x k = true := fun e => h ((eqT93 x k).1 e)
      simp only [mput, mfind]
      rw [if_neg h']
      simp [h]
  | cons y m ih =>
    simp only [mput]
    by_cases hy : eqT T84 k y.1 = true
    · rw [if_pos hy]
      have hky := (eqT93 k y.1).1 hy
      simp only [mfind]
      by_cases h : x = k
      · rw [if_pos ((eqT93 x k).2 h)]
        simp [h]
      · rw [if_neg (fun e => h ((eqT93 x k).1 e)), if_neg (fun e => h (by rw [hky]; exact (eqT93 x y.1).1 e))]
        simp [h]
    · rw [if_neg hy]
      simp only [mfind]
      by_cases hx : eqT T84 x y.1 = true
      · rw [if_pos hx, if_pos hx]
        have hxy := (eqT93 x y.1).1 hx
        have : ¬ x = k := fun e => hy ((eqT93 k y.1).2 (by rw [← e]; exact hxy))
        simp [this]
      · rw [if_neg hx, if_neg hx, ih]
abbrev has (m : KMap) (k : Int × Int) : Prop := (mfind T84 .bool k m).getD false = true
theorem kpF_mono {f : List GNode} {k : Int × Int} : ∀ (p : List Int) (m : KMap) (n : Int), has m k → has (kpF f m n p) k
  | [], _, _, h => h
  | x :: r, m, n, h => by
    simp only [kpF]
    split
    · exact h
    · refine kpF_mono r _ _ ?_
      unfold has
      rw [kfind_mput, h, Bool.or_true]
theorem kpF_last {f : List GNode} {x : Int} {i : Int} (hx : 0 ≤ toF (arcsAt f i) x) : ∀ (p : List Int) (m : KMap) (n : Int), walkF f n p = some i → has (kpF f m n (p ++ [x])) (i, x)
  | [], m, n, h => by
    simp only [walkF, Option.some.injEq] at h
    subst h
    simp only [List.nil_append, kpF]
    rw [if_neg (fun e => by have hx' : 0 ≤ toF (f.getD n.toNat (0, [])).2 x := hx; omega)]
    unfold has
    rw [kfind_mput]
    simp
  | y :: p, m, n, h => by
    simp only [walkF, List.cons_append, kpF] at h ⊢
    split at h
    · cases h
    · rename_i hc
      rw [if_neg hc]
      exact kpF_last hx p _ _ h
theorem kept_has {f : List GNode} {k : Int × Int} : ∀ (ps : List (List Int)) (m : KMap), (has m k ∨ ∃ p ∈ ps, ∀ m, has (kpF f m 0 p) k) → has (ps.foldl (fun m p => kpF f m 0 p) m) k
  | [], m, h => by
    rcases h with h | ⟨p, hp, _⟩
    · exact h
    · cases hp
  | p :: ps, m, h => by
    rw [List.foldl_cons]
    refine kept_has ps _ ?_
    rcases h with h | ⟨q, hq, hk⟩
    · exact .inl (kpF_mono p m 0 h)
    · rcases List.mem_cons.1 hq with rfl | hq
      · exact .inl (hk m)
      · exact .inr ⟨q, hq, hk⟩
def pathsN (f : List GNode) (i : Nat) : List (List Int) := (f.getD i (0, [])).2.map fun a => (firstF f).getD i [] ++ [a.1]
def pathsA (f : List GNode) (i : Nat) : List (List Int) := (List.range i).flatMap (pathsN f)
theorem pathsA_succ (f : List GNode) (i : Nat) : pathsA f (i + 1) = pathsA f i ++ pathsN f i := by simp [pathsA, List.range_succ]
theorem pkeep_all {f : List GNode} (hc : canonicalB f = true) : pkeepF f (pathsA f f.length) = f := by
  obtain ⟨hg, hs, h0, _⟩ := canonical_good hc
  refine partF_self hc (fun i hi a ha => ?_)
  have hto := toF_arc ((srtA_iff _).1 (srt_of hs (i : Int)).1) (a := a) (by simpa using ha)
  have hin := arcs_in hg (n := (i : Int)) (a := a) (by simpa using ha)
  refine kept_has _ _ (.inr ⟨(firstF f).getD i [] ++ [a.1], ?_, fun m => kpF_last (by show 0 ≤ toF (arcsAt f (i : Int)) a.1; rw [hto]; exact hin.1) _ m 0 (canonical_all hc hi)⟩)
  exact List.mem_flatMap.2 ⟨i, List.mem_range.2 hi, List.mem_map.2 ⟨a, ha, rfl⟩⟩
end
end Go.Proofs.YtpikphnjpldoiaaGreat.Fw
