/- The contracts of the reference's functions on graphs. -/
/- The contract of functions of the program: Sorted. -/
import Derived.Test.YtpikphnjpldoiaaGreatZJ
set_option linter.unusedVariables false
set_option linter.unusedSimpArgs false
namespace Go.Proofs.YtpikphnjpldoiaaGreat.Fw
open Go
attribute [local irreducible] Ev
attribute [local go_sem] cx_tb entEnv List.toList_toArray evSeq evG evK vcK guardOf guardT guardB_true guardB_false step1 step0 stepQ takesIn namesParts namesOf namesStore frzAll frz frz1 fixN frzEnv frzObjs drpEnv drpObjs AV.frz AV.frzs AV.drp AV.drps AV.names AV.namess aq qmap qPick qAlloc qBox qBuild qBuildSlice qBuildSlice2 qLoad qLoadB qLoadB2 qLoadE qLoadE2 qLoadE3 qFieldI qOff qPart qField qIndexA qIndex qIndexS qNil qBin qUn qConv qMake qMake2 qSlice qExtract qLen qAppend qAppend2 qAppend3 qMin qMax qCall qCall2 qCall3 qBuiltin qCallee aloud lStoreD lStore lStoreB lStoreB2 lStoreE lStoreE3 lStoreE4 lCallee lBuiltin lAppend lAppend2 lAppend3 lAppend4 opv lk constAV optAV sliceQ bin binI binS zf1 zfs pfs AV.cells nthOff loadB offB storeB notAg fitsT fitsO Ty.cell1 fieldOk partsT partsAg argsT asT asT1 asTs pairO srT castTo_self getF setF getP setP offP offF fldT rvAV rvObj rvAVs rvObjs resAV RV.flat Ty.flat Ty.size St.add upd del fresh Value.oneCell' refZ Ty.dflt sub_all sub_one sub_take sub_end List.take_succ_cons List.take_zero List.length_cons cast0 castS sub_app take_app sub_app1 take_app1 take_one1 natC zero_le_natC i64_min i64_max u64_min u64_max u8_min u8_max inK_i64 inK_u64 inK_u8 Option.map_some Option.map_none Option.bind_some Option.getD_some Option.getD_none Option.isNone_none Option.isNone_some Bool.and_true Bool.true_and Bool.and_false Bool.false_and Bool.not_true Bool.not_false if_true if_false List.length_cons List.length_nil and_true true_and and_self List.all_cons List.all_nil List.append_nil List.nil_append List.cons_append List.getElem?_cons_zero List.getElem?_cons_succ List.getElem?_nil List.map_cons List.map_nil List.set_cons_zero List.set_cons_succ List.isEmpty_nil List.isEmpty_cons decide_true decide_false beq_self_eq_true bne_self_eq_false Nat.zero_add Nat.add_zero Nat.sub_zero Int.toNat_natCast Int.toNat_zero Int.toNat_one List.take_length List.length_append List.length_singleton true_or or_true or_self false_or or_false Ty.agg.injEq Ty.slice.injEq Ty.prod.injEq Ty.int.injEq Option.some.injEq beq_iff_eq evM evMG evMQ opM isPick viewE viewS viewG opTs opTmp consE guardM guardM1 guardM2 sideM sideM2 pickM pickM2 sufB chEq_nil chEq_nc chEq_cn chEq_cons memB dstOf Op.operands Call.operands List.filterMap_cons List.filterMap_nil List.append_eq Bool.cond_false_right Bool.cond_true_left cond_true cond_false implies_true decide_eq_true_eq beq_true beq_false Bool.or_true Bool.or_false Bool.true_or Bool.false_or Option.isSome_some fieldV namesAg namesAgs capNs qClo qClo2 qMakeMap qMakeMap2 qMakeMap3 qLook qLook2 qLook3 qLook4 keyT keyP eqT inB lMapUp lMapUp2 lMapUp3 namesMap argEnv cm_tb List.drop_zero pruneR prune rem1 afterM addDst fgtEnv AV.fgt AV.fgts Obj.fgt restObjs handed memB calleeOf opvs matchArgs matchArg List.any_cons List.any_nil evF evFO evFQ evFK addQ frOk qs List.flatMap_cons List.flatMap_nil List.cons_append tn appN fgtEN List.take_succ_cons List.drop_succ_cons isYl parEnv rangeSt cY_tb marked_tb renOk renIn matchObjs matchEnv matchE matchAV matchAVs matchF matchO
attribute [local go_sem] ty1 ty2 ty3 ty4 ty5 ty9 ty12 ty21 ty22 ty23 ty24 ty25 ty26 ty27 ty28 ty29 ty30 ty31 ty32 ty33 ty34 ty35 ty36 ty37 ty38 ty39 ty40 ty41 ty42 ty43 ty44 ty45 ty46 ty47 ty48 ty49 ty50 ty51 ty52 ty53 ty54 ty55 ty56 ty57 ty58 ty60 ty61 ty62 ty64 ty65 ty66 ty67 ty68 ty70 ty71 ty72 ty74 ty75 ty76 ty77 ty78 ty79 ty80 ty81 ty82 ty83 ty84 ty85 ty87 ty89 ty91 ty92 ty93 ty94 ty95 ty96 ty97 ty98 ty99 ty100 ty101 ty102 ty103 ty104 ty105 ty106 ty107 ty108 ty109 ty110 ty111 ty112 ty113 ty114 ty115 ty117 ty118 ty120 ty121 ty122 ty123 ty124 ty125 ty126 ty127 ty128 ty130 ty131 ty132 ty133 ty134 ty135 ty136 ty137 ty138 ty139 ty140 ty141 ty142 ty143 ty144 ty145 ty146 ty147 ty148 ty149 ty150 ty151 ty154 ty155 ty156 ty158 ty159 ty160 ty161 ty162 ty163 ty164 ty165 ty166 ty167 ty169 ty170 ty171 ty172 ty173 ty174 ty175 ty176 ty177 ty178 ty179 ty180 ty181 ty182 ty183 ty184 ty185 ty186 ty187 ty188 ty190 ty191 ty192 ty193 ty194 ty195 ty196 ty197 ty198 ty199 ty200 ty201 ty202 ty203 ty204 ty205 ty207 ty208 ty209 ty210 ty211 ty212 ty213 ty214 ty215 ty216 ty217 ty218 ty219 ty220 ty221 ty222 ty223 ty224 ty225 ty226 ty227 ty228 ty229 ty230 ty231 ty232 ty233 ty234 ty236 ty237 ty238 ty239 ty240 ty241 ty242 ty243 ty244 ty245 ty246 ty247 ty248 ty249 ty250 ty251 ty257 ty260 ty261
set_option maxRecDepth 100000
set_option maxHeartbeats 4000000
section
def posF (x : Int × Int) (s : List (Int × Int)) : Nat → Nat
  | 0 => 0
  | n + 1 => if x.1 < (s.getD n (0, 0)).1 then posF x s n else n + 1
def insF (s : List (Int × Int)) (x : Int × Int) : List (Int × Int) := s.take (posF x s s.length) ++ [x] ++ s.drop (posF x s s.length)
def sortedF (l : List (Int × Int)) : List (Int × Int) := l.foldl insF []
theorem posF_le (x : Int × Int) (s : List (Int × Int)) : ∀ n, posF x s n ≤ n
  | 0 => Nat.le_refl _
  | n + 1 => by
    unfold posF
    have := posF_le x s n
    split <;> omega
theorem insF_len (s : List (Int × Int)) (x : Int × Int) : (insF s x).length = s.length + 1 := by
  have := posF_le x s s.length
  simp [insF]; omega
theorem sortedF_snoc (l : List (Int × Int)) (x : Int × Int) : sortedF (l ++ [x]) = insF (sortedF l) x := by simp [sortedF]
theorem foldl_insF_len : ∀ (l s : List (Int × Int)), (l.foldl insF s).length = s.length + l.length
  | [], s => by simp
  | x :: l, s => by simp [foldl_insF_len l, insF_len]; omega
theorem sortedF_len (l : List (Int × Int)) : (sortedF l).length = l.length := by simp [sortedF, foldl_insF_len]
def sortedS : Spec := { ins := [T43], pre := fun (l, _) => l.length ≤ 1000000, out := fun (l, _) => [.own 77 T77 (sortedF l)] }
theorem sorted_ok : FnOk Tryz.prog 117 sortedS := by
  refine fn_ok Tryz.func117 (by kernel_rfl) rfl Tryz.ntmps117 (by decide) (by kernel_rfl) (tyTab_ok []) fns_nil ?_
  rintro w0 O0 ⟨l, u⟩ hc hok hpre
  simp only [sortedS] at hpre
  simp only [sortedS, entEnv]
  repeat' (first | exact trivial | refine eS rfl ?_ | refine ev_out_inv ?_ | refine rX [0, 2, 3, 4, 5, 6, 10, 30] hc ?_ ?_ | (refine rC (fun hcond => ?_) (fun hcond => ?_) <;> try (cases hcond; done)))
  refine ev_loop (ι := {p : Nat // p ≤ l.length}) (fun k => ⟨[(0, .p T43 l), (3, .sr 10 T77 0 (sortedF (l.take k.1)).length), (4, .p (.int .i64) (k.1 : Int))], [(10, .arr 77 T77 (sortedF (l.take k.1)))]⟩) (fun k => l.length - k.1) ⟨0, by omega⟩ (ent_match [(10, .nil)] rfl rfl ?_ ?_) (fun k => ?_)
  · first | exact eN | refine eM ?_
    rfl
  · first | exact eN | refine eM ?_
    rfl
  · obtain ⟨k, hI⟩ := k
    have hlen : (sortedF (l.take k)).length = k := by rw [sortedF_len, List.length_take]; exact Nat.min_eq_left hI
    repeat' (first | exact trivial | refine eS rfl ?_ | refine ev_out_inv ?_ | refine rX [0, 2, 3, 4, 5, 6, 10, 30] hc ?_ ?_ | (refine rC (fun hcond => ?_) (fun hcond => ?_) <;> try (cases hcond; done)))
    · refine ev_loop (ι := {q : Nat // q ≤ (sortedF (l.take k)).length ∧ posF (l.getD k (0,0)) (sortedF (l.take k)) q = posF (l.getD k (0,0)) (sortedF (l.take k)) (sortedF (l.take k)).length}) (fun q => ⟨[(0, .p T43 l), (3, .sr 10 T77 0 (sortedF (l.take k)).length), (4, .p (.int .i64) (k : Int)), (5, .p (.int .i64) (q.1 : Int))], [(10, .arr 77 T77 (sortedF (l.take k)))]⟩) (fun q => q.1) ⟨(sortedF (l.take k)).length, by simp⟩ (ent_match [(10, .nm 10)] rfl rfl ?_ ?_) (fun q => ?_)
      · first | exact eN | refine eM ?_
      · first | exact eN | refine eM ?_
      · obtain ⟨q, hq, hp⟩ := q
        have hkl : k < l.length := by omega
        have e1 := l.length_take_le k
        have e2 : (List.take q (sortedF (List.take k l))).length = q := by rw [List.length_take]; exact Nat.min_eq_left hq
        repeat' (first | exact trivial | refine eS rfl ?_ | refine ev_out_inv ?_ | refine rX [0, 2, 3, 4, 5, 6, 10, 30] hc ?_ ?_ | (refine rC (fun hcond => ?_) (fun hcond => ?_) <;> try (cases hcond; done)))
        · exact eV
        · exact eV
        · obtain ⟨h1, h2⟩ := hcond
          obtain ⟨q, rfl⟩ : ∃ r, q = r + 1 := ⟨q - 1, by omega⟩
          have h3 : ((q + 1 : Nat) : Int) - 1 = (q : Int) := by omega
          refine ⟨⟨q, by omega, ?_⟩, Nat.lt_succ_self q, ent_match [(10, .nm 10)] rfl rfl ?_ ?_⟩
          · rw [← hp]
            simp only [posF]
            rw [h3, Int.toNat_natCast] at h2
            rw [if_pos h2]
          · first | exact eN | refine eM ?_
          · first | exact eN | refine eM ?_
            show (q : Int) + 1 - 1 = q
            omega
        · refine ⟨by exact eV, ?_⟩
          rw [e2]; unfold maxN; omega
        · refine ⟨by exact eV, ?_⟩
          rw [e2]; simp only [maxN]; omega
        · refine ⟨by exact eV, ?_⟩
          rw [e2]; simp only [maxN, List.length_drop]; omega
        · exact eV
        · have hpos : posF (l.getD k (0, 0)) (sortedF (l.take k)) q = q := by
            cases q with
            | zero => rfl
            | succ q =>
              have h3 : ((q + 1 : Nat) : Int) - 1 = (q : Int) := by omega
              have := hcond (by omega)
              rw [h3, Int.toNat_natCast] at this
              simp only [posF]
              rw [if_neg (by omega)]
          have h1 := take_snoc l (0, 0) hkl
          have h2 : sortedF (l.take (k + 1)) = _ := (congrArg sortedF h1).trans (sortedF_snoc _ _)
          unfold insF at h2
          rw [← hp, hpos] at h2
          refine ⟨⟨k + 1, by exact eV⟩, by simp only; exact eV, ent_match [(10, .nm 37)] rfl rfl ?_ ?_⟩
          · first | exact eN | refine eM ?_
            exact h2.symm
          · first | exact eN | refine eM ?_
            have h4 := congrArg List.length h2
            rw [List.length_append, List.length_append] at h4
            exact h4.symm
    · have hk : l.take k = l := List.take_of_length_le (by exact eV)
      refine ev_fin_own hc (.inl rfl) (rv := .tmp 2) rfl ?_
      simp only [resIs, resV, ownOf, go_sem, Nat.reduceEqDiff, reduceCtorEq, Nat.reduceAdd, Nat.reduceSub, Nat.reduceMul, Nat.reduceLeDiff, Nat.reduceLT, Int.reduceLE, Int.reduceToNat, Int.reduceNeg, ↓reduceIte]
      rw [hk]
      first | rfl | exact ⟨rfl, rfl⟩ | exact ⟨rfl, rfl, rfl⟩
end
/- Functions of grammarlabref07. -/
section
abbrev NodeL := Int × List (Int × Int)
def lightF (f : List NodeL) : Bool := decide (f.length ≤ 12) && f.all fun n => decide (n.2.length ≤ 12)
def lightS : Spec := { ins := [T25], pre := fun _ => True, out := fun (f, _) => [.p .bool (lightF f)] }
theorem light_ok : FnOk Tryz.prog 51 lightS := by
  refine fn_ok Tryz.func51 (by kernel_rfl) rfl Tryz.ntmps51 (by decide) (by kernel_rfl) (tyTab_ok []) (fun f sp h => by simp [lk] at h) ?_
  rintro w0 O0 ⟨l, u⟩ hc hok hpre
  simp only [lightS, entEnv]
  repeat' (first | exact trivial | refine eS rfl ?_ | refine ev_out_inv ?_ | refine rX [0, 1, 2, 3, 7, 12, 22] hc ?_ ?_ | (refine rC (fun hcond => ?_) (fun hcond => ?_) <;> try (cases hcond; done)))
  · have h1 : lightF l = false := by
      have h : ¬ (List.length l ≤ 12) := by exact eV
      unfold lightF
      rw [decide_eq_false h]; rfl
    exact ev_fin hc [.tmp 2] rfl (.inl rfl) (by simp) (by rw [h1]; first | exact eR | refine eRM ?_)
  · refine ev_loop (ι := {k : Nat // k ≤ l.length ∧ (l.take k).all (fun n => decide (n.2.length ≤ 12)) = true}) (fun k => ⟨[(0, .p T25 l), (1, .bp 1 [] 0), (3, .p (.int .i64) (k.1 : Int))], [(1, .box 25 true [.p T23 l])]⟩) (fun k => l.length - k.1) ⟨0, by simp⟩ (ent_match [(1, .nm 1)] rfl rfl ?_ ?_) (fun k => ?_)
    · first | exact eN | refine eM ?_
    · first | exact eN | refine eM ?_
    · obtain ⟨k, hk, hall⟩ := k
      repeat' (first | exact trivial | refine eS rfl ?_ | refine ev_out_inv ?_ | refine rX [0, 1, 2, 3, 7, 12, 22] hc ?_ ?_ | (refine rC (fun hcond => ?_) (fun hcond => ?_) <;> try (cases hcond; done)))
      · exact eV
      · have h1 : lightF l = false := by
          have hk : k < l.length := by exact eV
          have h := mem_of_take_succ l (0, []) hk
          unfold lightF
          rw [Bool.and_eq_false_iff]
          right
          rw [List.all_eq_false]
          exact ⟨_, h, by simp only [decide_eq_true_eq]; exact eV⟩
        exact ev_fin hc [.tmp 2] rfl (.inl rfl) (by simp) (by rw [h1]; first | exact eR | refine eRM ?_)
      · exact eV
      · have hk : k < l.length := by exact eV
        refine ⟨⟨k + 1, by exact eV, ?_⟩, by simp only; exact eV, ent_match [(1, .nm 1)] rfl rfl ?_ ?_⟩
        · have h1 := take_snoc l (0, []) hk
          have h2 : ((l.take (k + 1)).all fun n => decide (n.2.length ≤ 12)) = _ := congrArg (fun x => List.all x fun n => decide (n.2.length ≤ 12)) h1
          rw [h2, List.all_append, hall]
          simp only [List.all_cons, List.all_nil, Bool.and_true, Bool.true_and, decide_eq_true_eq]
          exact eV
        · first | exact eN | refine eM ?_
        · first | exact eN | refine eM ?_
      · have h1 : lightF l = true := by
          have hk : l.take k = l := List.take_of_length_le (by exact eV)
          rw [hk] at hall
          unfold lightF
          rw [hall, decide_eq_true (by exact eV)]; rfl
        exact ev_fin hc [.tmp 2] rfl (.inl rfl) (by simp) (by rw [h1]; first | exact eR | refine eRM ?_)
end
/- Functions of grammarlabref07: arcs. -/
section
def arcsG (n : Int) (seen : List (Int × Int)) : List (Int × Int) → Int
  | [] => 0
  | x :: r => if x.1 < 0 ∨ x.2 < 0 ∨ n ≤ x.2 then 2 else if (seen.any fun y => y.1 == x.1) = true then 4 else arcsG n (seen ++ [x]) r
def arcsF (l : List (Int × Int)) (n : Int) : Int := arcsG n [] l
def arcsS : Spec := { ins := [T43, T3], pre := fun _ => True, out := fun (l, n, _) => [.p T72 (arcsF l n)] }
theorem arcsG_step (n : Int) (l : List (Int × Int)) {k : Nat} (h : k < l.length) : arcsG n (l.take k) (l.drop k) = if (l.getD k (0, 0)).1 < 0 ∨ (l.getD k (0, 0)).2 < 0 ∨ n ≤ (l.getD k (0, 0)).2 then 2 else if ((l.take k).any fun y => y.1 == (l.getD k (0, 0)).1) = true then 4 else arcsG n (l.take (k + 1)) (l.drop (k + 1)) := by
  rw [take_snoc l (0, 0) h, List.drop_eq_getElem_cons h, List.getD_eq_getElem?_getD, List.getElem?_eq_getElem h]
  rfl
theorem any_take_succ (l : List (Int × Int)) (f : Int) {k : Nat} (h : k < l.length) : ((l.take (k + 1)).any fun y => y.1 == f) = ((l.take k).any (fun y => y.1 == f) || ((l.getD k (0, 0)).1 == f)) := by
  rw [take_snoc l (0, 0) h, List.any_append]; simp
theorem arcs_ok : FnOk Tryz.prog 115 arcsS := by
  refine fn_ok Tryz.func115 (by kernel_rfl) rfl Tryz.ntmps115 (by decide) (by kernel_rfl) (tyTab_ok []) (fun f sp h => by simp [lk] at h) ?_
  rintro w0 O0 ⟨l, n, u⟩ hc ⟨⟨hl, -⟩, -⟩ -
  simp only [maxN] at hl
  simp only [arcsS, entEnv]
  repeat' (first | exact trivial | refine eS rfl ?_ | refine ev_out_inv ?_ | refine rX [0, 1, 4, 5, 6, 10, 35, 38, 51] hc ?_ ?_ | (refine rC (fun hcond => ?_) (fun hcond => ?_) <;> try (cases hcond; done)))
  refine ev_loop (ι := {k : Nat // k ≤ l.length ∧ arcsG n (l.take k) (l.drop k) = arcsF l n}) (fun k => ⟨[(0, .p T43 l), (1, .p T3 n), (5, .p (.int .i64) (k.1 : Int))], []⟩) (fun k => l.length - k.1) ⟨0, by simp [arcsF]⟩ (ent_match [] rfl rfl ?_ ?_) (fun k => ?_)
  · first | exact eN | refine eM ?_
  · first | exact eN | refine eM ?_
  · obtain ⟨k, hk, hall⟩ := k
    repeat' (first | exact trivial | refine eS rfl ?_ | refine ev_out_inv ?_ | refine rX [0, 1, 4, 5, 6, 10, 35, 38, 51] hc ?_ ?_ | (refine rC (fun hcond => ?_) (fun hcond => ?_) <;> try (cases hcond; done)))
    · exact eV
    · have hk : k < l.length := by exact eV
      have h1 : arcsF l n = 2 := by
        rw [← hall, arcsG_step n l hk, if_pos (by rw [← or_assoc]; exact hcond)]
      exact ev_fin hc [.tmp 4] rfl (.inl rfl) (by simp) (by rw [h1]; first | exact eR | refine eRM ?_)
    · have hk : k < l.length := by exact eV
      have hn : ¬ ((l.getD k (0, 0)).1 < 0 ∨ (l.getD k (0, 0)).2 < 0 ∨ n ≤ (l.getD k (0, 0)).2) := by
        have := hcond
        generalize l.getD k (0, 0) = x at this
        exact eV
      rw [arcsG_step n l hk, if_neg hn] at hall
      refine ev_loop (ι := {j : Nat // j ≤ k ∧ ((l.take j).any fun y => y.1 == (l.getD k (0, 0)).1) = false}) (fun j => ⟨[(0, .p T43 l), (1, .p T3 n), (5, .p (.int .i64) (k : Int)), (6, .p (.int .i64) (j.1 : Int))], []⟩) (fun j => k - j.1) ⟨0, by simp⟩ (ent_match [] rfl rfl ?_ ?_) (fun j => ?_)
      · first | exact eN | refine eM ?_
      · first | exact eN | refine eM ?_
      · obtain ⟨j, hj, hany⟩ := j
        repeat' (first | exact trivial | refine eS rfl ?_ | refine ev_out_inv ?_ | refine rX [0, 1, 4, 5, 6, 10, 35, 38, 51] hc ?_ ?_ | (refine rC (fun hcond => ?_) (fun hcond => ?_) <;> try (cases hcond; done)))
        · exact eV
        · have hjl : j < l.length := by exact eV
          have h1 : arcsF l n = 4 := by
            have h2 : ((l.take k).any fun y => y.1 == (l.getD k (0, 0)).1) = true := by
              rw [List.any_eq_true]
              refine ⟨l.getD j (0, 0), ?_, by simpa using hcond⟩
              rw [List.getD_eq_getElem?_getD, List.getElem?_eq_getElem hjl]
              exact List.mem_take_iff_getElem.2 ⟨j, by exact eV, rfl⟩
            rw [← hall, if_pos h2]
          exact ev_fin hc [.tmp 4] rfl (.inl rfl) (by simp) (by rw [h1]; first | exact eR | refine eRM ?_)
        · exact eV
        · have hjl : j < l.length := by exact eV
          refine ⟨⟨j + 1, by exact eV, ?_⟩, by simp only; exact eV, ent_match [] rfl rfl ?_ ?_⟩
          · have h2 := any_take_succ l (l.getD k (0, 0)).1 hjl
            refine h2.trans ?_
            rw [hany]
            simpa using hcond
          · first | exact eN | refine eM ?_
          · first | exact eN | refine eM ?_
        · exact eV
        · have hjk : j = k := by exact eV
          subst hjk
          refine ⟨⟨j + 1, by exact eV, ?_⟩, by simp only; exact eV, ent_match [] rfl rfl ?_ ?_⟩
          · rw [← hall, if_neg (by rw [hany]; simp)]
          · first | exact eN | refine eM ?_
          · first | exact eN | refine eM ?_
    · have h1 : arcsF l n = 0 := by
        have hk : l.length ≤ k := by exact eV
        rw [← hall, List.drop_eq_nil_of_le hk]; rfl
      exact ev_fin hc [.tmp 4] rfl (.inl rfl) (by simp) (by rw [h1]; first | exact eR | refine eRM ?_)
end
/- Functions of grammarlabref07: numbers. -/
section
def numN (n : Int × List (Int × Int)) : List Int := n.1 :: (n.2.length : Int) :: n.2.flatMap fun a => [a.1, a.2]
def numbersF (f : List (Int × List (Int × Int))) : List Int := (f.length : Int) :: f.flatMap numN
def numP (l : List (Int × List (Int × Int))) (k : Nat) : List Int := (l.length : Int) :: (l.take k).flatMap numN
def numQ (l : List (Int × List (Int × Int))) (k j : Nat) : List Int := numP l k ++ [(l.getD k (0, [])).1, ((l.getD k (0, [])).2.length : Int)] ++ ((l.getD k (0, [])).2.take j).flatMap fun a => [a.1, a.2]
theorem pairs_len : ∀ l : List (Int × Int), (l.flatMap fun a => [a.1, a.2]).length = 2 * l.length
  | [] => rfl
  | x :: l => by simp [pairs_len l]; omega
theorem numN_len (n : Int × List (Int × Int)) : (numN n).length = 2 + 2 * n.2.length := by
  have := pairs_len n.2
  simp only [numN, List.length_cons]; omega
theorem flat_len : ∀ l : List (Int × List (Int × Int)), (∀ n ∈ l, n.2.length ≤ 100000) → (l.flatMap numN).length ≤ l.length * 200002
  | [], _ => by simp
  | x :: l, h => by
    have h1 := h x (by simp)
    have h2 := flat_len l (fun n hn => h n (by simp [hn]))
    have h3 := numN_len x
    simp only [List.flatMap_cons, List.length_append, List.length_cons]
    omega
theorem numP_len {l : List (Int × List (Int × Int))} (h : ∀ n ∈ l, n.2.length ≤ 100000) {k : Nat} (hk : k ≤ l.length) : (numP l k).length ≤ 1 + k * 200002 := by
  have h1 := flat_len (l.take k) (fun n hn => h n (List.mem_of_mem_take hn))
  rw [List.length_take, Nat.min_eq_left hk] at h1
  simp only [numP, List.length_cons]
  omega
theorem numQ_len {l : List (Int × List (Int × Int))} (h : ∀ n ∈ l, n.2.length ≤ 100000) {k j : Nat} (hk : k < l.length) (hj : j ≤ (l.getD k (0, [])).2.length) : (numQ l k j).length ≤ 3 + k * 200002 + 2 * j := by
  have h1 := numP_len h (Nat.le_of_lt hk)
  have h2 := pairs_len ((l.getD k (0, [])).2.take j)
  rw [List.length_take, Nat.min_eq_left hj] at h2
  simp only [numQ, List.length_append, List.length_cons, List.length_nil]
  omega
theorem numP_succ {l : List (Int × List (Int × Int))} {k : Nat} (hk : k < l.length) : numP l (k + 1) = numQ l k (l.getD k (0, [])).2.length := by
  unfold numP numQ
  rw [take_snoc l (0, []) hk, List.flatMap_append, List.take_length]
  simp [numN, numP]
theorem numQ_succ {l : List (Int × List (Int × Int))} {k j : Nat} (hj : j < (l.getD k (0, [])).2.length) : numQ l k (j + 1) = numQ l k j ++ [((l.getD k (0, [])).2.getD j (0, 0)).1, ((l.getD k (0, [])).2.getD j (0, 0)).2] := by
  unfold numQ
  rw [take_snoc _ (0, 0) hj, List.flatMap_append]
  simp
def numbersS : Spec := { ins := [T25], pre := fun (f, _) => f.length ≤ 100000 ∧ ∀ n ∈ f, n.2.length ≤ 100000, out := fun (f, _) => [.p T26 (numbersF f)] }
theorem numbers_ok : FnOk Tryz.prog 76 numbersS := by
  refine fn_ok Tryz.func76 (by kernel_rfl) rfl Tryz.ntmps76 (by decide) (by kernel_rfl) (tyTab_ok []) fns_nil ?_
  rintro w0 O0 ⟨l, u⟩ hc ⟨hl, -⟩ ⟨hp1, hp2⟩
  simp only [numbersS, entEnv]
  repeat' (first | exact trivial | refine eS rfl ?_ | refine ev_out_inv ?_ | refine rX [0, 1, 2, 3, 4, 5, 6, 15, 38] hc ?_ ?_ | (refine rC (fun hcond => ?_) (fun hcond => ?_) <;> try (cases hcond; done)))
  refine ev_loop (ι := {k : Nat // k ≤ l.length}) (fun k => ⟨[(0, .p T25 l), (1, .bp 1 [] 0), (3, .sr 10 T3 0 (numP l k.1).length), (4, .p (.int .i64) (k.1 : Int))], [(1, .box 25 true [.p T23 l]), (10, .arr 3 T3 (numP l k.1))]⟩) (fun k => l.length - k.1) ⟨0, by simp⟩ (ent_match [(1, .nm 1), (10, .nm 10)] rfl rfl ?_ ?_) (fun k => ?_)
  · first | exact eN | refine eM ?_
    rfl
  · first | exact eN | refine eM ?_
    rfl
  · obtain ⟨k, hk⟩ := k
    have hn1 := numP_len hp2 hk
    repeat' (first | exact trivial | refine eS rfl ?_ | refine ev_out_inv ?_ | refine rX [0, 1, 2, 3, 4, 5, 6, 15, 38] hc ?_ ?_ | (refine rC (fun hcond => ?_) (fun hcond => ?_) <;> try (cases hcond; done)))
    · exact eV
    · refine ⟨by exact eV, ?_⟩
      simp only [maxN]; exact eV
    · have hkl : k < l.length := by exact eV
      have hp3 := hp2 _ (mem_of_take_succ l (0, []) hkl)
      refine ev_loop (ι := {j : Nat // j ≤ (l.getD k (0, [])).2.length}) (fun j => ⟨[(0, .p T25 l), (1, .bp 1 [] 0), (3, .sr 10 T3 0 (numQ l k j.1).length), (4, .p (.int .i64) (k : Int)), (5, .p T43 (l.getD k (0, [])).2), (6, .p (.int .i64) (j.1 : Int))], [(1, .box 25 true [.p T23 l]), (10, .arr 3 T3 (numQ l k j.1))]⟩) (fun j => (l.getD k (0, [])).2.length - j.1) ⟨0, by simp⟩ (ent_match [(1, .nm 1), (10, .nm 10)] rfl rfl ?_ ?_) (fun j => ?_)
      · first | exact eN | refine eM ?_
        simp [numQ]
      · first | exact eN | refine eM ?_
        simp [numQ]
      · obtain ⟨j, hj⟩ := j
        have hn2 := numQ_len hp2 hkl hj
        repeat' (first | exact trivial | refine eS rfl ?_ | refine ev_out_inv ?_ | refine rX [0, 1, 2, 3, 4, 5, 6, 15, 38] hc ?_ ?_ | (refine rC (fun hcond => ?_) (fun hcond => ?_) <;> try (cases hcond; done)))
        · refine ⟨by exact eV, by exact eV, ?_⟩
          simp only [maxN]; exact eV
        · exact eV
        · have hjl : j < (l.getD k (0, [])).2.length := by exact eV
          refine ⟨⟨j + 1, by exact eV⟩, by simp only; exact eV, ent_match [(1, .nm 1), (10, .nm 10)] rfl rfl ?_ ?_⟩
          · first | exact eN | refine eM ?_
            exact (numQ_succ hjl).symm
          · first | exact eN | refine eM ?_
            have := congrArg List.length (numQ_succ (l := l) hjl)
            rw [List.length_append] at this
            exact this.symm
        · exact eV
        · have hjk : j = (l.getD k (0, [])).2.length := by exact eV
          subst hjk
          refine ⟨⟨k + 1, by exact eV⟩, by simp only; exact eV, ent_match [(1, .nm 1), (10, .nm 10)] rfl rfl ?_ ?_⟩
          · first | exact eN | refine eM ?_
            exact (numP_succ hkl).symm
          · first | exact eN | refine eM ?_
            exact congrArg List.length (numP_succ hkl).symm
    · have hk : l.take k = l := List.take_of_length_le (by exact eV)
      have h1 : numP l k = numbersF l := by unfold numP numbersF; rw [hk]
      exact ev_fin hc [.tmp 2] rfl (.inl rfl) (by simp) (by first | exact eR | refine eRM ?_; exact h1)
end
/- Functions of grammarlabref07: Compare, Equal. -/
section
attribute [local go_sem] numbersS
def cmpL : List Int → List Int → Int
  | x :: xs, y :: ys => if x < y then -1 else if y < x then 1 else cmpL xs ys
  | _, _ => 0
theorem cmpL_step (xs ys : List Int) {k : Nat} (h1 : k < xs.length) (h2 : k < ys.length) : cmpL (xs.drop k) (ys.drop k) = if xs.getD k 0 < ys.getD k 0 then -1 else if ys.getD k 0 < xs.getD k 0 then 1 else cmpL (xs.drop (k + 1)) (ys.drop (k + 1)) := by
  rw [List.drop_eq_getElem_cons h1, List.drop_eq_getElem_cons h2, List.getD_eq_getElem?_getD, List.getElem?_eq_getElem h1, List.getD_eq_getElem?_getD, List.getElem?_eq_getElem h2]
  rfl
theorem cmpL_end (xs ys : List Int) {k : Nat} (h : xs.length ≤ k ∨ ys.length ≤ k) : cmpL (xs.drop k) (ys.drop k) = 0 := by
  rcases h with h | h
  · rw [List.drop_eq_nil_of_le h]; simp [cmpL]
  · rw [List.drop_eq_nil_of_le h]; simp [cmpL]
def compareF (a b : List (Int × List (Int × Int))) : Int := cmpL (numbersF a) (numbersF b)
def SmallF (f : List (Int × List (Int × Int))) : Prop := f.length ≤ 100000 ∧ ∀ n ∈ f, n.2.length ≤ 100000
def compareS : Spec := { ins := [T25, T25], pre := fun (a, b, _) => SmallF a ∧ SmallF b, out := fun (a, b, _) => [.p T3 (compareF a b)] }
theorem numbersF_len {f : List (Int × List (Int × Int))} (h : SmallF f) : (numbersF f).length ≤ 1 + f.length * 200002 := by
  have := flat_len f h.2
  simp only [numbersF, List.length_cons]; omega
theorem compare_ok : FnOk Tryz.prog 47 compareS := by
  refine fn_ok Tryz.func47 (by kernel_rfl) rfl Tryz.ntmps47 (by decide) (by kernel_rfl) (tyTab_ok [(76, numbersS)]) (fns_cons numbers_ok fns_nil) ?_
  rintro w0 O0 ⟨a, b, u⟩ hc - ⟨⟨ha1, ha2⟩, ⟨hb1, hb2⟩⟩
  have hla := numbersF_len ⟨ha1, ha2⟩
  have hlb := numbersF_len ⟨hb1, hb2⟩
  simp only [compareS, entEnv]
  repeat' (first | exact trivial | refine eS rfl ?_ | refine ev_out_inv ?_ | refine rX [0, 1, 2, 3, 4, 5, 6, 7, 21, 32, 41] hc ?_ ?_ | (refine rC (fun hcond => ?_) (fun hcond => ?_) <;> try (cases hcond; done)))
  · exact ⟨ha1, ha2⟩
  · exact ⟨hb1, hb2⟩
  · refine ev_loop (ι := {k : Nat // cmpL ((numbersF a).drop k) ((numbersF b).drop k) = compareF a b}) (fun k => ⟨[(5, .p T26 (numbersF a)), (6, .p T26 (numbersF b)), (7, .p (.int .i64) (k.1 : Int))], []⟩) (fun k => (numbersF a).length - k.1) ⟨0, by simp [compareF]⟩ (ent_match [] rfl rfl ?_ ?_) (fun k => ?_)
    · first | exact eN | refine eM ?_
    · first | exact eN | refine eM ?_
    · obtain ⟨k, hk⟩ := k
      repeat' (first | exact trivial | refine eS rfl ?_ | refine ev_out_inv ?_ | refine rX [0, 1, 2, 3, 4, 5, 6, 7, 21, 32, 41] hc ?_ ?_ | (refine rC (fun hcond => ?_) (fun hcond => ?_) <;> try (cases hcond; done)))
      · exact eV
      · obtain ⟨h1, h2⟩ : k < (numbersF a).length ∧ k < (numbersF b).length := by exact eV
        have h3 : compareF a b = -1 := by rw [← hk, cmpL_step _ _ h1 h2, if_pos hcond]
        exact ev_fin hc [.tmp 4] rfl (.inl rfl) (by simp) (by rw [h3]; first | exact eR | refine eRM ?_)
      · exact eV
      · obtain ⟨h1, h2⟩ : k < (numbersF a).length ∧ k < (numbersF b).length := by exact eV
        have h3 : compareF a b = 1 := by rw [← hk, cmpL_step _ _ h1 h2, if_neg (by exact eV), if_pos hcond]
        exact ev_fin hc [.tmp 4] rfl (.inl rfl) (by simp) (by rw [h3]; first | exact eR | refine eRM ?_)
      · exact eV
      · obtain ⟨h1, h2⟩ : k < (numbersF a).length ∧ k < (numbersF b).length := by exact eV
        refine ⟨⟨k + 1, ?_⟩, by simp only; exact eV, ent_match [] rfl rfl ?_ ?_⟩
        · rw [← hk, cmpL_step _ _ h1 h2, if_neg (by exact eV), if_neg (by exact eV)]
        · first | exact eN | refine eM ?_
        · first | exact eN | refine eM ?_
      · have h3 : compareF a b = 0 := by
          rw [← hk]
          apply cmpL_end
          by_cases h : k < (numbersF a).length
          · right; have := hcond (by exact eV); exact eV
          · left; exact eV
        exact ev_fin hc [.tmp 4] rfl (.inl rfl) (by simp) (by rw [h3]; first | exact eR | refine eRM ?_)
def equalS : Spec := { ins := [T25, T25], pre := fun (a, b, _) => SmallF a ∧ SmallF b, out := fun (a, b, _) => [.p .bool (compareF a b == 0)] }
end
/- Functions of grammarlabref07: Equal, form. -/
section
attribute [local go_sem] compareS arcsS
theorem equal_ok : FnOk Tryz.prog 19 equalS := by
  refine fn_ok Tryz.func19 (by kernel_rfl) rfl Tryz.ntmps19 (by decide) (by kernel_rfl) (tyTab_ok [(47, compareS)]) (fns_cons compare_ok fns_nil) ?_
  rintro w0 O0 ⟨a, b, u⟩ hc - hpre
  simp only [equalS, entEnv]
  repeat' (first | exact trivial | refine eS rfl ?_ | refine ev_out_inv ?_ | refine rX [0, 1, 2, 3, 4] hc ?_ ?_ | (refine rC (fun hcond => ?_) (fun hcond => ?_) <;> try (cases hcond; done)))
  · exact hpre
  · exact ev_fin hc [.tmp 4] rfl (.inl rfl) (by simp) (by first | exact eR | refine eRM ?_)
def formG (m : Int) : List (Int × List (Int × Int)) → Int
  | [] => 0
  | n :: r => if n.1 < 0 then 2 else if arcsF n.2 m ≠ 0 then arcsF n.2 m else formG m r
def formF (f : List (Int × List (Int × Int))) : Int := if f.length = 0 then 1 else if 4096 < f.length then 7 else formG f.length f
def formS : Spec := { ins := [T25], pre := fun _ => True, out := fun (f, _) => [.p T72 (formF f)] }
theorem formG_step (m : Int) (l : List (Int × List (Int × Int))) {k : Nat} (h : k < l.length) : formG m (l.drop k) = if (l.getD k (0, [])).1 < 0 then 2 else if arcsF (l.getD k (0, [])).2 m ≠ 0 then arcsF (l.getD k (0, [])).2 m else formG m (l.drop (k + 1)) := by
  rw [List.drop_eq_getElem_cons h, List.getD_eq_getElem?_getD, List.getElem?_eq_getElem h]
  rfl
theorem form_ok : FnOk Tryz.prog 80 formS := by
  refine fn_ok Tryz.func80 (by kernel_rfl) rfl Tryz.ntmps80 (by decide) (by kernel_rfl) (tyTab_ok [(115, arcsS)]) (fns_cons arcs_ok fns_nil) ?_
  rintro w0 O0 ⟨l, u⟩ hc ⟨hl, -⟩ -
  simp only [formS, entEnv]
  repeat' (first | exact trivial | refine eS rfl ?_ | refine ev_out_inv ?_ | refine rX [0, 1, 2, 3, 4, 8, 12, 17, 26, 38] hc ?_ ?_ | (refine rC (fun hcond => ?_) (fun hcond => ?_) <;> try (cases hcond; done)))
  · have h1 : formF l = 1 := by
      have h : l.length = 0 := by exact eV
      unfold formF
      rw [if_pos h]
    exact ev_fin hc [.tmp 2] rfl (.inl rfl) (by simp) (by rw [h1]; first | exact eR | refine eRM ?_)
  · have h1 : formF l = 7 := by
      have h : ¬ l.length = 0 := by exact eV
      have h' : 4096 < l.length := by exact eV
      unfold formF
      rw [if_neg h, if_pos h']
    exact ev_fin hc [.tmp 2] rfl (.inl rfl) (by simp) (by rw [h1]; first | exact eR | refine eRM ?_)
  · have h1 : formF l = formG l.length l := by
      have h : ¬ l.length = 0 := by exact eV
      have h' : ¬ 4096 < l.length := by exact eV
      unfold formF
      rw [if_neg h, if_neg h']
    refine ev_loop (ι := {k : Nat // k ≤ l.length ∧ formG l.length (l.drop k) = formF l}) (fun k => ⟨[(1, .bp 1 [] 0), (3, .p (.int .i64) (k.1 : Int))], [(1, .box 25 true [.p T23 l])]⟩) (fun k => l.length - k.1) ⟨0, by simp [h1]⟩ (ent_match [(1, .nm 1)] rfl rfl ?_ ?_) (fun k => ?_)
    · first | exact eN | refine eM ?_
    · first | exact eN | refine eM ?_
    · obtain ⟨k, hk, hf⟩ := k
      repeat' (first | exact trivial | refine eS rfl ?_ | refine ev_out_inv ?_ | refine rX [0, 1, 2, 3, 4, 8, 12, 17, 26, 38] hc ?_ ?_ | (refine rC (fun hcond => ?_) (fun hcond => ?_) <;> try (cases hcond; done)))
      · exact eV
      · have hkl : k < l.length := by exact eV
        have h2 : formF l = 2 := by rw [← hf, formG_step _ _ hkl, if_pos hcond]
        exact ev_fin hc [.tmp 2] rfl (.inl rfl) (by simp) (by rw [h2]; first | exact eR | refine eRM ?_)
      · exact eV
      · have hkl : k < l.length := by exact eV
        have h2 : formF l = arcsF (l.getD k (0, [])).2 l.length := by rw [← hf, formG_step _ _ hkl, if_neg (by exact eV), if_pos hcond]
        exact ev_fin hc [.tmp 2] rfl (.inl rfl) (by simp) (by rw [h2]; first | exact eR | refine eRM ?_)
      · exact eV
      · have hkl : k < l.length := by exact eV
        refine ⟨⟨k + 1, by exact eV, ?_⟩, by simp only; exact eV, ent_match [(1, .nm 1)] rfl rfl ?_ ?_⟩
        · rw [← hf, formG_step _ _ hkl, if_neg (by exact eV), if_neg (by simpa using hcond)]
        · first | exact eN | refine eM ?_
        · first | exact eN | refine eM ?_
      · have h2 : formF l = 0 := by
          have hk : l.length ≤ k := by exact eV
          rw [← hf, List.drop_eq_nil_of_le hk]; rfl
        exact ev_fin hc [.tmp 2] rfl (.inl rfl) (by simp) (by rw [h2]; first | exact eR | refine eRM ?_)
end
/- Functions of grammarlabref07: visit. -/
section
attribute [local go_sem] sortedS
abbrev GNode := Int × List (Int × Int)
def visitF (f : List GNode) : Nat → List Int × List Int → Int → List Int × List Int
  | 0, s, _ => s
  | k + 1, s, n => (sortedF (f.getD n.toNat (0, [])).2).foldl (fun s a => if s.1.getD a.2.toNat 0 < 0 then visitF f k s a.2 else s) (s.1.set n.toNat (s.2.length : Int), s.2 ++ [n])
def negC (l : List Int) : Nat := l.countP (fun x => decide (x < 0))
def GoodF (f : List GNode) : Prop := f.length ≤ 100000 ∧ ∀ x ∈ f, x.2.length ≤ 100000 ∧ ∀ a ∈ x.2, 0 ≤ a.2 ∧ a.2 < (f.length : Int)
/-- A traversal's state. -/
def TrOk (f : List GNode) (s : List Int × List Int) : Prop := s.1.length = f.length ∧ s.2.length + negC s.1 ≤ f.length
theorem negC_set {l : List Int} {n : Nat} {v : Int} (hn : n < l.length) (hneg : l.getD n 0 < 0) (hv : 0 ≤ v) : negC (l.set n v) + 1 = negC l := by
  induction l generalizing n with
  | nil => simp at hn
  | cons x r ih =>
    cases n with
    | zero =>
      have hx : x < 0 := by simpa using hneg
      have : ¬ v < 0 := by omega
      simp [negC, List.countP_cons, hx, this]
    | succ n =>
      have h1 := ih (n := n) (by simpa using hn) (by simpa using hneg)
      simp only [negC, List.set_cons_succ, List.countP_cons] at h1 ⊢
      omega
theorem tr_set {f : List GNode} {s : List Int × List Int} {n : Int} (h : TrOk f s) (hn0 : 0 ≤ n) (hn : n < f.length) (hneg : s.1.getD n.toNat 0 < 0) :
    TrOk f (s.1.set n.toNat (s.2.length : Int), s.2 ++ [n]) ∧ negC (s.1.set n.toNat (s.2.length : Int)) + 1 = negC s.1 := by
  obtain ⟨h1, h2⟩ := h
  have h3 := negC_set (l := s.1) (n := n.toNat) (v := (s.2.length : Int)) (by omega) hneg (by omega)
  refine ⟨⟨by simpa using h1, ?_⟩, h3⟩
  simp only [List.length_append, List.length_singleton]
  omega
theorem insF_perm (s : List (Int × Int)) (x : Int × Int) : (insF s x).Perm (x :: s) := by
  unfold insF
  refine (List.perm_append_comm.append_right _).trans ?_
  simp
theorem foldl_insF_perm : ∀ (l s : List (Int × Int)), (l.foldl insF s).Perm (l ++ s)
  | [], s => List.Perm.refl _
  | x :: l, s => by
    refine (foldl_insF_perm l (insF s x)).trans ?_
    refine (List.Perm.append_left l (insF_perm s x)).trans ?_
    exact List.perm_middle
theorem sortedF_perm (l : List (Int × Int)) : (sortedF l).Perm l := by
  have := foldl_insF_perm l []
  simpa [sortedF] using this
theorem arcs_len {f : List GNode} (hf : GoodF f) (n : Int) : List.length (f.getD n.toNat (0, [])).2 ≤ 100000 := by
  by_cases h : n.toNat < f.length
  · have hm : f.getD n.toNat (0, []) ∈ f := by
      rw [List.getD_eq_getElem?_getD, List.getElem?_eq_getElem h]; exact List.getElem_mem h
    exact (hf.2 _ hm).1
  · rw [List.getD_eq_getElem?_getD, List.getElem?_eq_none (by omega)]
    simp
theorem arcs_of {f : List GNode} (hf : GoodF f) {n : Int} {a : Int × Int} (ha : a ∈ sortedF (f.getD n.toNat (0, [])).2) : 0 ≤ a.2 ∧ a.2 < f.length := by
  have ha := (sortedF_perm _).mem_iff.1 ha
  by_cases h : n.toNat < f.length
  · have hm : f.getD n.toNat (0, []) ∈ f := by
      rw [List.getD_eq_getElem?_getD, List.getElem?_eq_getElem h]; exact List.getElem_mem h
    exact (hf.2 _ hm).2 a ha
  · rw [List.getD_eq_getElem?_getD, List.getElem?_eq_none (by omega)] at ha
    simp at ha
def stepV (f : List GNode) (k : Nat) (s : List Int × List Int) (a : Int × Int) : List Int × List Int := if s.1.getD a.2.toNat 0 < 0 then visitF f k s a.2 else s
theorem visitF_succ (f : List GNode) (k : Nat) (s : List Int × List Int) (n : Int) : visitF f (k + 1) s n = (sortedF (f.getD n.toNat (0, [])).2).foldl (stepV f k) (s.1.set n.toNat (s.2.length : Int), s.2 ++ [n]) := rfl
theorem fold_ok {f : List GNode} {k : Nat} (hv : ∀ (s : List Int × List Int) (n : Int), TrOk f s → 0 ≤ n → n < f.length → s.1.getD n.toNat 0 < 0 → TrOk f (visitF f k s n) ∧ negC (visitF f k s n).1 ≤ negC s.1) :
    ∀ (l : List (Int × Int)) (t : List Int × List Int), (∀ a ∈ l, 0 ≤ a.2 ∧ a.2 < (f.length : Int)) → TrOk f t → TrOk f (l.foldl (stepV f k) t) ∧ negC (l.foldl (stepV f k) t).1 ≤ negC t.1
  | [], t, _, ht => ⟨ht, Nat.le_refl _⟩
  | a :: l, t, hl, ht => by
    simp only [List.foldl_cons]
    by_cases hc : t.1.getD a.2.toNat 0 < 0
    · obtain ⟨g1, g2⟩ := hv t a.2 ht (hl a (by simp)).1 (hl a (by simp)).2 hc
      have e : stepV f k t a = visitF f k t a.2 := if_pos hc
      rw [e]
      obtain ⟨g3, g4⟩ := fold_ok hv l _ (fun b hb => hl b (by simp [hb])) g1
      exact ⟨g3, Nat.le_trans g4 g2⟩
    · have e : stepV f k t a = t := if_neg hc
      rw [e]
      exact fold_ok hv l t (fun b hb => hl b (by simp [hb])) ht
theorem visitF_ok {f : List GNode} (hf : GoodF f) : ∀ (k : Nat) (s : List Int × List Int) (n : Int), TrOk f s → 0 ≤ n → n < f.length → s.1.getD n.toNat 0 < 0 → TrOk f (visitF f k s n) ∧ negC (visitF f k s n).1 ≤ negC s.1
  | 0, s, n, h, _, _, _ => ⟨h, Nat.le_refl _⟩
  | k + 1, s, n, h, h0, h1, h2 => by
    obtain ⟨h3, h4⟩ := tr_set h h0 h1 h2
    obtain ⟨g1, g2⟩ := fold_ok (visitF_ok hf k) _ _ (fun a ha => arcs_of hf ha) h3
    rw [visitF_succ]
    exact ⟨g1, by simp only at g2 h4; omega⟩
theorem fold_take {α β : Type} (g : β → α → β) (l : List α) (d : α) (t : β) {i : Nat} (hi : i < l.length) : (l.take (i + 1)).foldl g t = g ((l.take i).foldl g t) (l.getD i d) := by
  rw [take_snoc l d hi, List.foldl_append]; rfl
/-- The traversal's objects. -/
def wObjs (f : List GNode) (s : List Int × List Int) : List (Nat × Obj) := [(1, .box 180 true [.p T25 f, .sr 2 T3 0 s.1.length, .sr 3 T3 0 s.2.length]), (2, .arr 3 T3 s.1), (3, .arr 3 T3 s.2)]
theorem visit_ok (f : List GNode) (hf : GoodF f) : ∀ (k : Nat) (s : List Int × List Int) (n : Int), TrOk f s → 0 ≤ n → n < f.length → s.1.getD n.toNat 0 < 0 → negC s.1 ≤ k →
    CallM Tryz.prog 116 [.bp 1 [] 0, .p T3 n] (wObjs f s) [1] (fun res objs' => res = .raw (.tuple #[]) ∧ objs' = wObjs f (visitF f k s n)) := by
  intro k
  induction k with
  | zero =>
    intro s n h0 h1 h2 h3 h4
    obtain ⟨_, h5⟩ := tr_set h0 h1 h2 h3
    omega
  | succ k ih =>
    intro s n htr hn0 hn1 hneg hk
    obtain ⟨num, ord⟩ := s
    obtain ⟨htr', hcnt⟩ := tr_set htr hn0 hn1 hneg
    obtain ⟨hl1, hl2⟩ := htr
    simp only at hl1 hl2 hneg htr' hcnt hk
    refine fnM_ok Tryz.func116 (by kernel_rfl) rfl Tryz.ntmps116 (by simp only [List.length_cons, List.length_nil]; omega) (by kernel_rfl) rfl rfl (tyTab_ok [(117, sortedS)]) (fns_cons sorted_ok fns_nil) ?_
    intro w0 K O0 ρ0 hc hok1 hok2
    simp only [wObjs, argEnv]
    repeat' (first | exact trivial | refine eS rfl ?_ | refine ev_out_inv ?_ | refine rX [0, 1, 4, 5, 40, 54] hc ?_ ?_ | (refine rC (fun hcond => ?_) (fun hcond => ?_) <;> try (cases hcond; done)))
    · exact eV
    · have := hf.1
      simp only [maxN]; omega
    · have hm := arcs_len hf n
      exact ⟨⟨hn0, hn1⟩, Nat.le_trans hm (by omega)⟩
    · have harcs := fun a (ha : a ∈ sortedF (f.getD n.toNat (0, [])).2) => arcs_of hf ha
      have hLlen : (sortedF (f.getD n.toNat (0, [])).2).length ≤ 100000 := by rw [sortedF_len]; exact arcs_len hf n
      generalize hL : sortedF (f.getD n.toNat (0, [])).2 = L at harcs hLlen
      generalize hs1 : (num.set n.toNat (ord.length : Int), ord ++ [n]) = s1 at htr'
      have hfold : ∀ i, TrOk f ((L.take i).foldl (stepV f k) s1) ∧ negC ((L.take i).foldl (stepV f k) s1).1 ≤ negC s1.1 := fun i => fold_ok (visitF_ok hf k) _ _ (fun a ha => harcs a (List.mem_of_mem_take ha)) htr'
      have hn1 : num.set n.toNat (ord.length : Int) = s1.1 := by rw [← hs1]
      have ho1 : ord ++ [n] = s1.2 := by rw [← hs1]
      rw [hn1] at hcnt
      refine ev_loop (ι := {i : Nat // i ≤ L.length}) (fun i => ⟨[(0, .bp 1 [] 0), (1, .p T3 n), (4, .p T43 L), (5, .p (.int .i64) (i.1 : Int))], wObjs f ((L.take i.1).foldl (stepV f k) s1)⟩) (fun i => L.length - i.1) ⟨0, by omega⟩ (ent_frz [36] (by simp only [go_sem, Nat.reduceEqDiff, reduceCtorEq, Nat.reduceAdd, Nat.reduceSub, Nat.reduceMul, Nat.reduceLeDiff, Nat.reduceLT, Int.reduceLE, Int.reduceToNat, Int.reduceNeg, ↓reduceIte]; rfl) (ent_match [(1, .nm 1), (2, .nm 2), (3, .nm 3)] rfl rfl ?_ ?_)) (fun i => ?_)
      · simp only [wObjs]
        first | exact eN | refine eM ?_
        simp only [List.foldl_nil]
        rw [← hs1]
        simp
      · first | exact eN | refine eM ?_
      · obtain ⟨i, hi⟩ := i
        obtain ⟨hti, hci⟩ := hfold i
        have hnext := fun (h : i < L.length) => fold_take (stepV f k) L (0, 0) s1 h
        generalize hsi : (L.take i).foldl (stepV f k) s1 = si at hti hci hnext
        simp only [wObjs]
        repeat' (first | exact trivial | refine eS rfl ?_ | refine ev_out_inv ?_ | refine rX [0, 1, 4, 5, 40, 54] hc ?_ ?_ | (refine rC (fun hcond => ?_) (fun hcond => ?_) <;> try (cases hcond; done)))
        · have hiL : i < L.length := by exact eV
          have := harcs _ (mem_of_take_succ L (0, 0) hiL)
          obtain ⟨h1, h2⟩ := hti
          refine ⟨by exact eV, this.1, ?_⟩
          rw [h1]
          exact this.2
        · have hiL : i < L.length := by exact eV
          have hr := harcs _ (mem_of_take_succ L (0, 0) hiL)
          refine cP 6 hc ?_ ?_
          · exact eV
          · refine rM hc (ih si (L.getD i (0, 0)).2 hti hr.1 hr.2 (by simpa using hcond) (by omega)) [(1, .nm 1), (2, .nm 2), (3, .nm 3)] [2, 3] ?_ ?_ ?_
            · first | exact eN | refine eM ?_
            · simp only [wObjs]
              first | exact eN | refine eM ?_
            · rintro _ _ ⟨rfl, rfl⟩
              refine ⟨[(1, .nm 1), (2, .nm 2), (3, .nm 3)], .raw (.tuple #[]), wObjs f (visitF f k si (L.getD i (0, 0)).2), rfl, rfl, ?_, ?_, rfl, rfl, evL_end ?_⟩
              · simp only [wObjs]
                first | exact eN | refine eM ?_
              · first | exact eN | refine eM ?_
              · repeat' (first | exact trivial | refine eS rfl ?_ | refine ev_out_inv ?_ | refine rX [0, 1, 4, 5, 40, 54] hc ?_ ?_ | (refine rC (fun hcond => ?_) (fun hcond => ?_) <;> try (cases hcond; done)))
                · exact eV
                · have e : stepV f k si (L.getD i (0, 0)) = visitF f k si (L.getD i (0, 0)).2 := if_pos (by simpa using hcond)
                  refine ⟨⟨i + 1, by omega⟩, by simp only; omega, ent_match [(1, .nm 1), (2, .nm 2), (3, .nm 3)] rfl rfl ?_ ?_⟩
                  · simp only [wObjs, hnext hiL, e]
                    first | exact eN | refine eM ?_
                  · first | exact eN | refine eM ?_
        · exact eV
        · have hiL : i < L.length := by exact eV
          have e : stepV f k si (L.getD i (0, 0)) = si := if_neg (by simpa using hcond)
          refine ⟨⟨i + 1, by omega⟩, by simp only; omega, ent_match [(1, .nm 1), (2, .nm 2), (3, .nm 3)] rfl rfl ?_ ?_⟩
          · simp only [hnext hiL, e]
            first | exact eN | refine eM ?_
          · first | exact eN | refine eM ?_
        · have hk : L.take i = L := List.take_of_length_le (by exact eV)
          rw [hk] at hsi
          have h1 : visitF f (k + 1) (num, ord) n = si := by rw [visitF_succ, hL, ← hsi, ← hs1]
          rw [h1]
          exact ev_finM hc [] rfl (.inr rfl) (.raw (.tuple #[])) rfl ⟨rfl, rfl⟩
end
/- Functions of grammarlabref07: From. -/
section
attribute [local go_sem] sortedS
/-- The order holds nodes alone. -/
def OrdOk (f : List GNode) (s : List Int × List Int) : Prop := ∀ n ∈ s.2, 0 ≤ n ∧ n < (f.length : Int)
theorem visitF_ord {f : List GNode} (hf : GoodF f) : ∀ (k : Nat) (s : List Int × List Int) (n : Int), OrdOk f s → 0 ≤ n → n < f.length → OrdOk f (visitF f k s n)
  | 0, s, n, h, _, _ => h
  | k + 1, s, n, h, h0, h1 => by
    rw [visitF_succ]
    have key : ∀ (l : List (Int × Int)) (t : List Int × List Int), (∀ a ∈ l, 0 ≤ a.2 ∧ a.2 < (f.length : Int)) → OrdOk f t → OrdOk f (l.foldl (stepV f k) t) := by
      intro l
      induction l with
      | nil => intro t _ ht; exact ht
      | cons a l ih =>
        intro t hl ht
        simp only [List.foldl_cons]
        refine ih _ (fun b hb => hl b (by simp [hb])) ?_
        unfold stepV
        split
        · exact visitF_ord hf k t a.2 ht (hl a (by simp)).1 (hl a (by simp)).2
        · exact ht
    refine key _ _ (fun a ha => arcs_of hf ha) ?_
    intro m hm
    simp only [List.mem_append, List.mem_singleton] at hm
    rcases hm with hm | rfl
    · exact h m hm
    · exact ⟨h0, h1⟩
def travF (f : List GNode) (root : Int) : List Int × List Int := visitF f f.length (List.replicate f.length (-1), []) root
def renA (num : List Int) (a : Int × Int) : Int × Int := (a.1, num.getD a.2.toNat 0)
def nodeF (f : List GNode) (num : List Int) (n : Int) : GNode := ((f.getD n.toNat (0, [])).1, (sortedF (f.getD n.toNat (0, [])).2).map (renA num))
def fromF (f : List GNode) (root : Int) : List GNode := (travF f root).2.map (nodeF f (travF f root).1)
theorem negC_rep (m : Nat) : negC (List.replicate m (-1)) = m := by
  induction m with
  | zero => rfl
  | succ m ih => simp only [negC, List.replicate_succ, List.countP_cons] at ih ⊢; simp [ih]
theorem tr0 (f : List GNode) : TrOk f (List.replicate f.length (-1), []) := ⟨by simp, by simp [negC_rep]⟩
theorem rep_neg {f : List GNode} {n : Int} (h0 : 0 ≤ n) (h1 : n < f.length) : (List.replicate f.length (-1 : Int)).getD n.toNat 0 < 0 := by
  have : n.toNat < f.length := by omega
  simp [List.getD_eq_getElem?_getD, List.getElem?_replicate, this]
theorem trav_ok {f : List GNode} (hf : GoodF f) {n : Int} (h0 : 0 ≤ n) (h1 : n < f.length) : TrOk f (travF f n) ∧ OrdOk f (travF f n) :=
  ⟨(visitF_ok hf _ _ n (tr0 f) h0 h1 (rep_neg h0 h1)).1, visitF_ord hf _ _ n (fun m hm => by simp at hm) h0 h1⟩
theorem map_part {α β : Type} (g : α → β) (h : β → α) (L : List α) (d : α) {k : Nat} (hk : k < L.length) (u : α → α) : ((L.take k).map u ++ L.drop k).set k (u (L.getD k d)) = (L.take (k + 1)).map u ++ L.drop (k + 1) ∧ ((L.take k).map u ++ L.drop k).getD k d = L.getD k d := by
  have h1 : ((L.take k).map u).length = k := by simp; omega
  have h2 : L.drop k = L.getD k d :: L.drop (k + 1) := by
    rw [List.drop_eq_getElem_cons hk, List.getD_eq_getElem?_getD, List.getElem?_eq_getElem hk]; rfl
  constructor
  · rw [take_snoc L d hk, List.set_append_right _ _ (by omega), h1, Nat.sub_self, h2]
    simp
  · rw [List.getD_eq_getElem?_getD, List.getElem?_append_right (by omega), h1, Nat.sub_self, h2]; rfl
def fromS : Spec := { ins := [T25, T3], pre := fun (f, n, _) => GoodF f ∧ 0 ≤ n ∧ n < (List.length f : Int), out := fun (f, n, _) => [.p T25 (fromF f n)] }
theorem from_ok : FnOk Tryz.prog 81 fromS := by
  refine fn_ok Tryz.func81 (by kernel_rfl) rfl Tryz.ntmps81 (by decide) (by kernel_rfl) (tyTab_ok [(117, sortedS)]) (fns_cons sorted_ok fns_nil) ?_
  rintro w0 O0 ⟨f, root, u⟩ hc - ⟨hf, hr0, hr1⟩
  simp only [fromS, entEnv]
  have hfl := hf.1
  repeat' (first | exact trivial | refine eS rfl ?_ | refine ev_out_inv ?_ | refine rX [0, 1, 2, 4, 5, 6, 7, 8, 9, 10, 11, 19, 40, 60] hc ?_ ?_ | (refine rC (fun hcond => ?_) (fun hcond => ?_) <;> try (cases hcond; done)))
  refine ev_loop (ι := {i : Nat // i ≤ f.length}) (fun i => ⟨[(1, .p T3 root), (2, .bp 2 [] 0), (4, .bp 4 [] 0), (5, .bp 14 [] 0), (6, .p (.int .i64) (i.1 : Int))], [(2, .box 25 true [.p T23 f]), (4, .box 25 true [.raw (.slice none 0 0)]), (14, .box 180 true [.p T25 f, .sr 10 T3 0 i.1, .raw (.slice none 0 0)]), (10, .arr 3 T3 (List.replicate i.1 (-1)))]⟩) (fun i => f.length - i.1) ⟨0, by omega⟩ (ent_match [(2, .nm 2), (4, .nm 4), (14, .nm 14), (10, .nil)] rfl rfl ?_ ?_) (fun i => ?_)
  · first | exact eN | refine eM ?_
    rfl
  · first | exact eN | refine eM ?_
  · obtain ⟨i, hi⟩ := i
    repeat' (first | exact trivial | refine eS rfl ?_ | refine ev_out_inv ?_ | refine rX [0, 1, 2, 4, 5, 6, 7, 8, 9, 10, 11, 19, 40, 60] hc ?_ ?_ | (refine rC (fun hcond => ?_) (fun hcond => ?_) <;> try (cases hcond; done)))
    · simp only [maxN]; omega
    · exact eV
    · have hi : i < List.length f := by exact eV
      refine ⟨⟨i + 1, by omega⟩, by simp only; omega, ent_match [(2, .nm 2), (4, .nm 4), (14, .nm 14), (10, .nm 10)] rfl rfl ?_ ?_⟩
      · first | exact eN | refine eM ?_
        rw [List.replicate_succ']
        simp
      · first | exact eN | refine eM ?_
    · have hif : i = List.length f := by exact eV
      subst hif
      have hvo := trav_ok hf hr0 hr1
      refine cP 2 hc ?_ ?_
      · trivial
      · refine rM hc (visit_ok f hf (List.length f) (List.replicate (List.length f) (-1), []) root (tr0 f) hr0 hr1 (rep_neg hr0 hr1) (by rw [negC_rep]; exact Nat.le_refl _)) [(1, .nm 14), (2, .nm 10), (3, .nil)] [10] ?_ ?_ ?_
        · first | exact eN | refine eM ?_
        · simp only [wObjs]
          first | exact eN | refine eM ?_
          simp
        · rintro _ _ ⟨rfl, rfl⟩
          refine ⟨[(14, .nm 1), (101, .nm 2), (102, .nm 3)], .raw (.tuple #[]), [(14, .box 180 true [.p T25 f, .sr 101 T3 0 (travF f root).1.length, .sr 102 T3 0 (travF f root).2.length]), (101, .arr 3 T3 (travF f root).1), (102, .arr 3 T3 (travF f root).2)], rfl, rfl, ?_, ?_, rfl, rfl, evL_end ?_⟩
          · simp only [wObjs, travF]
            first | exact eN | refine eM ?_
          · first | exact eN | refine eM ?_
          · have hfrom : fromF f root = (travF f root).2.map (nodeF f (travF f root).1) := rfl
            rw [hfrom]
            generalize travF f root = s at hvo
            obtain ⟨num, ord⟩ := s
            obtain ⟨⟨hn1, hn2⟩, hord⟩ := hvo
            simp only at hn1 hn2
            have hord : ∀ n ∈ ord, 0 ≤ n ∧ n < (List.length f : Int) := hord
            repeat' (first | exact trivial | refine eS rfl ?_ | refine ev_out_inv ?_ | refine rX [0, 1, 2, 4, 5, 6, 7, 8, 9, 10, 11, 19, 40, 60] hc ?_ ?_ | (refine rC (fun hcond => ?_) (fun hcond => ?_) <;> try (cases hcond; done)))
            refine ev_loop (ι := {i : Nat // i ≤ ord.length}) (fun i => ⟨[(2, .bp 2 [] 0), (4, .bp 4 [] 0), (5, .bp 14 [] 0), (7, .bp 7 [] 0), (8, .p (.int .i64) (i.1 : Int))], [(2, .box 25 true [.p T23 f]), (4, .box 25 true [.raw (.slice none 0 0)]), (14, .box 180 true [.p T25 f, .sr 101 T3 0 num.length, .sr 102 T3 0 ord.length]), (101, .arr 3 T3 num), (102, .arr 3 T3 ord), (7, .box 25 true [.sr 200 T45 0 i.1]), (200, .arr 45 T45 ((ord.take i.1).map (nodeF f num)))]⟩) (fun i => ord.length - i.1) ⟨0, by omega⟩ (ent_match [(2, .nm 2), (4, .nm 4), (14, .nm 14), (101, .nm 101), (102, .nm 102), (7, .nm 7), (200, .nil)] rfl rfl ?_ ?_) (fun i => ?_)
            · first | exact eN | refine eM ?_
            · first | exact eN | refine eM ?_
            · obtain ⟨i, hi⟩ := i
              repeat' (first | exact trivial | refine eS rfl ?_ | refine ev_out_inv ?_ | refine rX [0, 1, 2, 4, 5, 6, 7, 8, 9, 10, 11, 19, 40, 60] hc ?_ ?_ | (refine rC (fun hcond => ?_) (fun hcond => ?_) <;> try (cases hcond; done)))
              · have hi : i < ord.length := by exact eV
                exact ⟨by exact eV, hord _ (mem_of_take_succ ord 0 hi)⟩
              · exact Nat.le_trans (arcs_len hf _) (by omega)
              · have hi : i < ord.length := by exact eV
                have harcs := fun a (ha : a ∈ sortedF (f.getD (Int.toNat (ord.getD i 0)) (0, [])).2) => arcs_of hf ha
                have hnode : nodeF f num (ord.getD i 0) = ((f.getD (Int.toNat (ord.getD i 0)) (0, [])).1, (sortedF (f.getD (Int.toNat (ord.getD i 0)) (0, [])).2).map (renA num)) := rfl
                have hxl := arcs_len hf (ord.getD i 0)
                generalize List.getD f (Int.toNat (ord.getD i 0)) (0, []) = x at *
                obtain ⟨xt, xa⟩ := x
                simp only at harcs hnode hxl
                have hLl := sortedF_len xa
                generalize sortedF xa = L at *
                refine ev_loop (ι := {k : Nat // k ≤ L.length}) (fun k => ⟨[(2, .bp 2 [] 0), (4, .bp 4 [] 0), (5, .bp 14 [] 0), (7, .bp 7 [] 0), (8, .p (.int .i64) (i : Int)), (9, .bp 9 [] 0), (10, .sr 56 T77 0 L.length), (11, .p (.int .i64) (k.1 : Int))], [(56, .arr 77 T77 ((L.take k.1).map (renA num) ++ L.drop k.1)), (9, .box 45 true [.p T3 xt, .p T43 xa]), (2, .box 25 true [.p T23 f]), (4, .box 25 true [.raw (.slice none 0 0)]), (14, .box 180 true [.p T25 f, .sr 101 T3 0 num.length, .sr 102 T3 0 ord.length]), (101, .arr 3 T3 num), (102, .arr 3 T3 ord), (7, .box 25 true [.sr 200 T45 0 i]), (200, .arr 45 T45 ((ord.take i).map (nodeF f num)))]⟩) (fun k => L.length - k.1) ⟨0, by omega⟩ (ent_match [(2, .nm 2), (4, .nm 4), (14, .nm 14), (101, .nm 101), (102, .nm 102), (7, .nm 7), (200, .nm 200), (9, .nm 9), (56, .nm 56)] rfl rfl ?_ ?_) (fun k => ?_)
                · first | exact eN | refine eM ?_
                · first | exact eN | refine eM ?_
                · obtain ⟨k, hk⟩ := k
                  repeat' (first | exact trivial | refine eS rfl ?_ | refine ev_out_inv ?_ | refine rX [0, 1, 2, 4, 5, 6, 7, 8, 9, 10, 11, 19, 40, 60] hc ?_ ?_ | (refine rC (fun hcond => ?_) (fun hcond => ?_) <;> try (cases hcond; done)))
                  · have hkL : k < L.length := by exact eV
                    have e := (map_part (renA num) (fun b => b) L (0, 0) hkL (renA num)).2
                    rw [e]
                    have := harcs _ (mem_of_take_succ L (0, 0) hkL)
                    rw [hn1]
                    exact ⟨by exact eV, this, by exact eV⟩
                  · exact eV
                  · have hkL : k < L.length := by exact eV
                    have e := map_part (renA num) (fun b => b) L (0, 0) hkL (renA num)
                    refine ⟨⟨k + 1, by omega⟩, by simp only; omega, ent_match [(2, .nm 2), (4, .nm 4), (14, .nm 14), (101, .nm 101), (102, .nm 102), (7, .nm 7), (200, .nm 200), (9, .nm 9), (56, .nm 56)] rfl rfl ?_ ?_⟩
                    · first | exact eN | refine eM ?_
                      rw [e.2]
                      exact e.1
                    · first | exact eN | refine eM ?_
                  · simp only [maxN]; have := hn2; omega
                  · exact eV
                  · have hkL : L.take k = L := List.take_of_length_le (by exact eV)
                    have hdL : L.drop k = [] := List.drop_eq_nil_of_le (by exact eV)
                    refine ⟨⟨i + 1, by omega⟩, by simp only; omega, ent_match [(2, .nm 2), (4, .nm 4), (14, .nm 14), (101, .nm 101), (102, .nm 102), (7, .nm 7), (200, .nm 200)] rfl rfl ?_ ?_⟩
                    · first | exact eN | refine eM ?_
                      rw [hkL, hdL, List.append_nil, take_snoc ord 0 hi, List.map_append, List.map_cons, List.map_nil, hnode]
                      have t1 : List.take i ((ord.take i).map (nodeF f num)) = (ord.take i).map (nodeF f num) := List.take_of_length_le (by rw [List.length_map, List.length_take]; omega)
                      have t2 : List.take L.length (L.map (renA num)) = L.map (renA num) := List.take_of_length_le (by rw [List.length_map]; omega)
                      rw [t1, t2]
                    · first | exact eN | refine eM ?_
              · have hk : ord.take i = ord := List.take_of_length_le (by exact eV)
                rw [hk]
                refine ev_fin hc [.cell 4 25] rfl (.inl rfl) (by simp) (by first | exact eR | refine eRM ?_; exact List.take_of_length_le (by rw [List.length_map]; exact eV))
end
/- Functions of grammarlabref07: Canon, Sub; grammarlabref15: in, arc, canon. -/
section
attribute [local go_sem] formS fromS
/-- What form takes in bears a traversal. -/
theorem arcsG_zero {n : Int} : ∀ {l seen : List (Int × Int)}, arcsG n seen l = 0 → ∀ a ∈ l, 0 ≤ a.1 ∧ 0 ≤ a.2 ∧ a.2 < n
  | [], _, _, a, ha => by cases ha
  | x :: l, seen, h, a, ha => by
    simp only [arcsG] at h
    split at h
    · cases h
    · split at h
      · cases h
      · rename_i h1 _
        rcases List.mem_cons.1 ha with rfl | ha
        · omega
        · exact arcsG_zero h a ha
theorem formG_zero {m : Int} : ∀ {f : List (Int × List (Int × Int))}, formG m f = 0 → ∀ x ∈ f, 0 ≤ x.1 ∧ ∀ a ∈ x.2, 0 ≤ a.1 ∧ 0 ≤ a.2 ∧ a.2 < m
  | [], _, x, hx => by cases hx
  | y :: f, h, x, hx => by
    simp only [formG] at h
    split at h
    · cases h
    · split at h
      · rename_i h1 h2; exact absurd h h2
      · rename_i h1 h2
        have h2 : arcsF y.2 m = 0 := Classical.byContradiction h2
        rcases List.mem_cons.1 hx with rfl | hx
        · exact ⟨by omega, arcsG_zero h2⟩
        · exact formG_zero h x hx
def SmallA (f : List (Int × List (Int × Int))) : Prop := ∀ x ∈ f, x.2.length ≤ 100000
theorem formF_good {f : List (Int × List (Int × Int))} (h : formF f = 0) (hs : SmallA f) : GoodF f ∧ 0 < f.length := by
  unfold formF at h
  split at h
  · cases h
  · split at h
    · cases h
    · refine ⟨⟨by omega, fun x hx => ⟨hs x hx, fun a ha => ?_⟩⟩, by omega⟩
      have := (formG_zero h x hx).2 a ha
      exact ⟨this.2.1, this.2.2⟩
def canonF (f : List GNode) : List GNode × Int := if formF f = 0 then (fromF f 0, 0) else ([], formF f)
def canonS : Spec := { ins := [T25], pre := fun (f, _) => SmallA f, out := fun (f, _) => [.p T25 (canonF f).1, .p T72 (canonF f).2] }
theorem canon_ok : FnOk Tryz.prog 52 canonS := by
  refine fn_ok Tryz.func52 (by kernel_rfl) rfl Tryz.ntmps52 (by decide) (by kernel_rfl) (tyTab_ok [(80, formS), (81, fromS)]) (fns_cons form_ok (fns_cons from_ok fns_nil)) ?_
  rintro w0 O0 ⟨f, u⟩ hc - hs
  simp only [canonS, entEnv]
  repeat' (first | exact trivial | refine eS rfl ?_ | refine ev_out_inv ?_ | refine rX [0, 1, 2, 3, 4, 8] hc ?_ ?_ | (refine rC (fun hcond => ?_) (fun hcond => ?_) <;> try (cases hcond; done)))
  · have h : ¬ formF f = 0 := by simpa using hcond
    have e : canonF f = ([], formF f) := if_neg h
    exact ev_fin hc [.cell 2 25, .tmp 3] rfl (.inl rfl) (by simp) (by rw [e]; first | exact eR | refine eRM ?_)
  · have h : formF f = 0 := by simpa using hcond
    have := formF_good h hs
    exact ⟨this.1, by exact eV⟩
  · have h : formF f = 0 := by simpa using hcond
    have e : canonF f = (fromF f 0, 0) := if_pos h
    exact ev_fin hc [.cell 2 25, .tmp 3] rfl (.inl rfl) (by simp) (by rw [e]; first | exact eR | refine eRM ?_)
end
/- Functions of grammarlabref15: LightPaths; grammarlabref07.Atom. -/
section
def inF (l : List Int) (n : Int) : Bool := l.any fun x => x == n
def lightPathsF (l : List (List Int)) : Bool := decide (l.length ≤ 20) && l.all fun p => decide (p.length ≤ 20)
def lightPathsS : Spec := { ins := [T27], pre := fun _ => True, out := fun (l, _) => [.p .bool (lightPathsF l)] }
theorem lightPaths_ok : FnOk Tryz.prog 23 lightPathsS := by
  refine fn_ok Tryz.func23 (by kernel_rfl) rfl Tryz.ntmps23 (by decide) (by kernel_rfl) (tyTab_ok []) fns_nil ?_
  rintro w0 O0 ⟨l, u⟩ hc ⟨⟨hl, -⟩, -⟩ -
  simp only [maxN] at hl
  simp only [lightPathsS, entEnv]
  repeat' (first | exact trivial | refine eS rfl ?_ | refine ev_out_inv ?_ | refine rX [0, 2, 3, 6, 10, 18] hc ?_ ?_ | (refine rC (fun hcond => ?_) (fun hcond => ?_) <;> try (cases hcond; done)))
  · have h1 : lightPathsF l = false := by
      have h : ¬ l.length ≤ 20 := by exact eV
      unfold lightPathsF
      simp [h]
    exact ev_fin hc [.tmp 2] rfl (.inl rfl) (by simp) (by rw [h1]; first | exact eR | refine eRM ?_)
  · have h20 : l.length ≤ 20 := by exact eV
    refine ev_loop (ι := {k : Nat // k ≤ l.length ∧ (l.take k).all (fun p => decide (p.length ≤ 20)) = true}) (fun k => ⟨[(0, .p T27 l), (3, .p (.int .i64) (k.1 : Int))], []⟩) (fun k => l.length - k.1) ⟨0, by simp⟩ (ent_match [] rfl rfl ?_ ?_) (fun k => ?_)
    · first | exact eN | refine eM ?_
    · first | exact eN | refine eM ?_
    · obtain ⟨k, hk, hall⟩ := k
      repeat' (first | exact trivial | refine eS rfl ?_ | refine ev_out_inv ?_ | refine rX [0, 2, 3, 6, 10, 18] hc ?_ ?_ | (refine rC (fun hcond => ?_) (fun hcond => ?_) <;> try (cases hcond; done)))
      · exact eV
      · have hkl : k < l.length := by exact eV
        have h1 : lightPathsF l = false := by
          have hm := mem_of_take_succ l [] hkl
          have h : ¬ (l.getD k []).length ≤ 20 := by
            have : (20 : Int) < ((l.getD k []).length : Int) := hcond
            omega
          unfold lightPathsF
          rw [Bool.and_eq_false_iff]
          right
          rw [List.all_eq_false]
          exact ⟨_, hm, by simpa using h⟩
        exact ev_fin hc [.tmp 2] rfl (.inl rfl) (by simp) (by rw [h1]; first | exact eR | refine eRM ?_)
      · exact eV
      · have hkl : k < l.length := by exact eV
        refine ⟨⟨k + 1, by exact eV, ?_⟩, by simp only; exact eV, ent_match [] rfl rfl ?_ ?_⟩
        · have h : (l.getD k []).length ≤ 20 := by
            have : ((l.getD k []).length : Int) ≤ 20 := hcond
            omega
          rw [take_snoc l [] hkl, List.all_append, hall]
          simpa using h
        · first | exact eN | refine eM ?_
        · first | exact eN | refine eM ?_
      · have hk : l.take k = l := List.take_of_length_le (by exact eV)
        rw [hk] at hall
        have h1 : lightPathsF l = true := by unfold lightPathsF; rw [hall]; simp [h20]
        exact ev_fin hc [.tmp 2] rfl (.inl rfl) (by simp) (by rw [h1]; first | exact eR | refine eRM ?_)
def atomS : Spec := { ins := [T3], pre := fun _ => True, out := fun (t, _) => [.p T25 [(t, [])]] }
theorem atom_ok : FnOk Tryz.prog 43 atomS := by
  refine fn_ok Tryz.func43 (by kernel_rfl) rfl Tryz.ntmps43 (by decide) (by kernel_rfl) (tyTab_ok []) fns_nil ?_
  rintro w0 O0 ⟨t, u⟩ hc - -
  simp only [atomS, entEnv]
  repeat' (first | exact trivial | refine eS rfl ?_ | refine ev_out_inv ?_ | refine rX [0, 2] hc ?_ ?_ | (refine rC (fun hcond => ?_) (fun hcond => ?_) <;> try (cases hcond; done)))
  exact ev_fin hc [.cell 2 25] rfl (.inl rfl) (by simp) (by first | exact eR | refine eRM ?_)
end
/- Functions of grammarlabref08: First. -/
section
/-- The breadth-first search: the paths, what has been seen, the nodes in their order. -/
abbrev Bfs := List (List Int) × List Bool × List Int
def bfsA (n : Int) (s : Bfs) (a : Int × Int) : Bfs :=
  if s.2.1.getD a.2.toNat false = true then s else (s.1.set a.2.toNat (s.1.getD n.toNat [] ++ [a.1]), s.2.1.set a.2.toNat true, s.2.2 ++ [a.2])
def bfsN (f : List GNode) (s : Bfs) (n : Int) : Bfs := (f.getD n.toNat (0, [])).2.foldl (bfsA n) s
def bfs (f : List GNode) : Nat → Nat → Bfs → Bfs
  | 0, _, s => s
  | k + 1, i, s => if i < s.2.2.length then bfs f k (i + 1) (bfsN f s (s.2.2.getD i 0)) else s
def bfs0 (m : Nat) : Bfs := (List.replicate m [], (List.replicate m false).set 0 true, [0])
def firstF (f : List GNode) : List (List Int) := (bfs f f.length 0 (bfs0 f.length)).1
def unseen (l : List Bool) : Nat := l.countP (fun b => !b)
structure BOk (f : List GNode) (s : Bfs) : Prop where
  l1 : s.1.length = f.length
  l2 : s.2.1.length = f.length
  cnt : s.2.2.length + unseen s.2.1 ≤ f.length
  rng : ∀ x ∈ s.2.2, 0 ≤ x ∧ x < (f.length : Int)
  pl : ∀ p ∈ s.1, p.length ≤ s.2.2.length
theorem unseen_set {l : List Bool} {n : Nat} (hn : n < l.length) (h : l.getD n false = false) : unseen (l.set n true) + 1 = unseen l := by
  induction l generalizing n with
  | nil => simp at hn
  | cons x r ih =>
    cases n with
    | zero =>
      have hx : x = false := by simpa using h
      simp [unseen, List.countP_cons, hx]
    | succ n =>
      have h1 := ih (n := n) (by simpa using hn) (by simpa using h)
      simp only [unseen, List.set_cons_succ, List.countP_cons] at h1 ⊢
      omega
theorem getD_len {s : List (List Int)} {m : Nat} (h : ∀ p ∈ s, p.length ≤ m) (n : Nat) : (s.getD n []).length ≤ m := by
  by_cases hn : n < s.length
  · rw [List.getD_eq_getElem?_getD, List.getElem?_eq_getElem hn]
    exact h _ (List.getElem_mem hn)
  · rw [List.getD_eq_getElem?_getD, List.getElem?_eq_none (by omega)]
    simp
theorem bfsA_ok {f : List GNode} {s : Bfs} (h : BOk f s) {n : Int} {a : Int × Int} (h0 : 0 ≤ a.2) (h1 : a.2 < f.length) : BOk f (bfsA n s a) := by
  unfold bfsA
  split
  · exact h
  · rename_i hc
    have hc : s.2.1.getD a.2.toNat false = false := by simpa using hc
    have h2 := unseen_set (l := s.2.1) (n := a.2.toNat) (by rw [h.l2]; omega) hc
    have hcn := h.cnt
    refine ⟨by simpa using h.l1, by simpa using h.l2, ?_, fun x hx => ?_, fun p hp => ?_⟩
    · simp only [List.length_append, List.length_singleton]; omega
    · rcases List.mem_append.1 hx with hx | hx
      · exact h.rng x hx
      · have : x = a.2 := by simpa using hx
        subst this; exact ⟨h0, h1⟩
    · simp only [List.length_append, List.length_singleton]
      rcases List.mem_or_eq_of_mem_set hp with hp | rfl
      · exact Nat.le_succ_of_le (h.pl p hp)
      · have := getD_len h.pl n.toNat
        simp only [List.length_append, List.length_singleton]; omega
theorem bfsF_ok {f : List GNode} {n : Int} : ∀ {l : List (Int × Int)} {s : Bfs}, (∀ a ∈ l, 0 ≤ a.2 ∧ a.2 < (f.length : Int)) → BOk f s → BOk f (l.foldl (bfsA n) s)
  | [], _, _, h => h
  | a :: l, s, hl, h => by
    have := hl a (by simp)
    have h2 := bfsF_ok (n := n) (l := l) (fun b hb => hl b (by simp [hb])) (bfsA_ok (n := n) h this.1 this.2)
    exact h2
theorem arcs_in {f : List GNode} (hf : GoodF f) {n : Int} {a : Int × Int} (ha : a ∈ (f.getD n.toNat (0, [])).2) : 0 ≤ a.2 ∧ a.2 < f.length := by
  by_cases h : n.toNat < f.length
  · have hm : f.getD n.toNat (0, []) ∈ f := by
      rw [List.getD_eq_getElem?_getD, List.getElem?_eq_getElem h]; exact List.getElem_mem h
    exact (hf.2 _ hm).2 a ha
  · rw [List.getD_eq_getElem?_getD, List.getElem?_eq_none (by omega)] at ha
    simp at ha
theorem bfs0_ok {f : List GNode} (h : 0 < f.length) : BOk f (bfs0 f.length) := by
  refine ⟨by simp [bfs0], by simp [bfs0], ?_, fun x hx => ?_, fun p hp => ?_⟩
  · have h2 := unseen_set (l := List.replicate f.length false) (n := 0) (by simpa using h) (by simp [List.getD_eq_getElem?_getD, h])
    have h3 : unseen (List.replicate f.length false) = f.length := by simp [unseen, List.countP_replicate]
    simp only [bfs0, List.length_singleton]
    omega
  · have : x = 0 := by simpa [bfs0] using hx
    subst this; omega
  · have : p = [] := by
      have := List.eq_of_mem_replicate (by simpa [bfs0] using hp : p ∈ List.replicate f.length [])
      exact this
    subst this; simp
theorem bfsA_pre {n : Int} {s : Bfs} {a : Int × Int} {i : Nat} (h : i < s.2.2.length) : i < (bfsA n s a).2.2.length ∧ (bfsA n s a).2.2.getD i 0 = s.2.2.getD i 0 := by
  unfold bfsA
  split
  · exact ⟨h, rfl⟩
  · refine ⟨by simp only [List.length_append]; omega, ?_⟩
    simp only [List.getD_eq_getElem?_getD]
    rw [List.getElem?_append_left h]
theorem bfsF_pre {n : Int} {i : Nat} : ∀ {l : List (Int × Int)} {s : Bfs}, i < s.2.2.length → i < (l.foldl (bfsA n) s).2.2.length ∧ (l.foldl (bfsA n) s).2.2.getD i 0 = s.2.2.getD i 0
  | [], _, h => ⟨h, rfl⟩
  | a :: l, s, h => by
    have h1 := bfsA_pre (n := n) (a := a) h
    have h2 := bfsF_pre (n := n) (l := l) h1.1
    exact ⟨h2.1, h2.2.trans h1.2⟩
theorem bfs_end {f : List GNode} {k i : Nat} {s : Bfs} (h : s.2.2.length ≤ i) : bfs f k i s = s := by
  cases k with
  | zero => rfl
  | succ k => simp only [bfs]; rw [if_neg (by omega)]
theorem bfs_next {f : List GNode} {m i : Nat} {s : Bfs} (h : i < s.2.2.length) (hm : s.2.2.length ≤ m) : bfs f (m - i) i s = bfs f (m - (i + 1)) (i + 1) (bfsN f s (s.2.2.getD i 0)) := by
  obtain ⟨k, hk⟩ : ∃ k, m - i = k + 1 := ⟨m - i - 1, by omega⟩
  have e : m - (i + 1) = k := by omega
  rw [hk, e]
  simp only [bfs]
  rw [if_pos h]
def firstS : Spec := { ins := [T25], pre := fun (f, _) => GoodF f ∧ 0 < f.length, out := fun (f, _) => [.p T27 (firstF f)] }
theorem first_ok : FnOk Tryz.prog 38 firstS := by
  refine fn_ok Tryz.func38 (by kernel_rfl) rfl Tryz.ntmps38 (by decide) (by kernel_rfl) (tyTab_ok []) fns_nil ?_
  rintro w0 O0 ⟨f, u⟩ hc - ⟨hs, h0⟩
  simp only [firstS, entEnv]
  have hfl : f.length ≤ 100000 := hs.1
  have hb0 := bfs0_ok h0
  repeat' (first | exact trivial | refine eS rfl ?_ | refine ev_out_inv ?_ | refine rX [0, 1, 2, 3, 4, 5, 6, 7, 8, 23, 38, 49] hc ?_ ?_ | (refine rC (fun hcond => ?_) (fun hcond => ?_) <;> try (cases hcond; done)))
  · simp only [maxN]; omega
  · simp only [maxN]; omega
  · exact eV
  · refine ev_loop (ι := {x : Nat × Bfs // BOk f x.2 ∧ x.1 ≤ x.2.2.2.length ∧ bfs f (f.length - x.1) x.1 x.2 = bfs f f.length 0 (bfs0 f.length)}) (fun x => ⟨[(1, .bp 1 [] 0), (3, .sr 12 T26 0 x.1.2.1.length), (4, .sr 16 T4 0 x.1.2.2.1.length), (5, .sr 19 T3 0 x.1.2.2.2.length), (6, .p (.int .i64) (x.1.1 : Int))], [(1, .box 25 true [.p T23 f]), (12, .arr 26 T26 x.1.2.1), (16, .arr 4 T4 x.1.2.2.1), (19, .arr 3 T3 x.1.2.2.2)]⟩) (fun x => f.length - x.1.1) ⟨(0, bfs0 f.length), hb0, by simp [bfs0], rfl⟩ (ent_match [(1, .nm 1), (12, .nm 12), (16, .nm 16), (19, .nm 19)] rfl rfl ?_ ?_) (fun x => ?_)
    · simp only [bfs0]
      first | exact eN | refine eM ?_
    · simp only [bfs0, List.length_replicate, List.length_set]
      first | exact eN | refine eM ?_
    · obtain ⟨⟨i, s⟩, hb, hi, hbfs⟩ := x
      simp only at hb hi hbfs
      obtain ⟨out, seen, todo⟩ := s
      have hb1 := hb.l1
      have hb2 := hb.l2
      simp only at hb1 hb2 hi
      show Ev _ _ _ _ ⟨[(1, .bp 1 [] 0), (3, .sr 12 T26 0 out.length), (4, .sr 16 T4 0 seen.length), (5, .sr 19 T3 0 todo.length), (6, .p (.int .i64) (i : Int))], [(1, .box 25 true [.p T23 f]), (12, .arr 26 T26 out), (16, .arr 4 T4 seen), (19, .arr 3 T3 todo)]⟩
      repeat' (first | exact trivial | refine eS rfl ?_ | refine ev_out_inv ?_ | refine rX [0, 1, 2, 3, 4, 5, 6, 7, 8, 23, 38, 49] hc ?_ ?_ | (refine rC (fun hcond => ?_) (fun hcond => ?_) <;> try (cases hcond; done)))
      · exact ⟨hcond, hb.rng _ (mem_of_take_succ todo 0 (by exact eV))⟩
      · have hit : i < todo.length := by exact eV
        have hn := hb.rng _ (mem_of_take_succ todo 0 hit)
        have hLlen := arcs_len hs (todo.getD i 0)
        have hLin := fun a (ha : a ∈ (f.getD (todo.getD i 0).toNat (0, [])).2) => arcs_in hs ha
        have hbN : bfs f (f.length - (i + 1)) (i + 1) (bfsN f (out, seen, todo) (todo.getD i 0)) = bfs f f.length 0 (bfs0 f.length) := by
          rw [← hbfs]
          refine (bfs_next (s := (out, seen, todo)) hit ?_).symm
          have := hb.cnt
          simp only at this ⊢
          omega
        have hNN : bfsN f (out, seen, todo) (todo.getD i 0) = (f.getD (todo.getD i 0).toNat (0, [])).2.foldl (bfsA (todo.getD i 0)) (out, seen, todo) := rfl
        rw [hNN] at hbN
        obtain ⟨s0, hs0⟩ : ∃ s0 : Bfs, s0 = (out, seen, todo) := ⟨_, rfl⟩
        have hb' : BOk f s0 := by rw [hs0]; exact hb
        have hpre := fun l => bfsF_pre (n := todo.getD i 0) (i := i) (l := l) (s := s0) (by rw [hs0]; exact hit)
        have ht0 : s0.2.2.getD i 0 = todo.getD i 0 := by rw [hs0]
        rw [ht0] at hpre
        rw [← hs0] at hbN
        clear hNN
        generalize hnd : todo.getD i 0 = n at *
        generalize (f.getD n.toNat (0, [])).2 = L at *
        have hfold := fun k => bfsF_ok (n := n) (l := L.take k) (fun a ha => hLin a (List.mem_of_mem_take ha)) hb'
        refine ev_loop (ι := {k : Nat // k ≤ L.length}) (fun k => ⟨[(1, .bp 1 [] 0), (3, .sr 12 T26 0 ((L.take k.1).foldl (bfsA n) s0).1.length), (4, .sr 16 T4 0 ((L.take k.1).foldl (bfsA n) s0).2.1.length), (5, .sr 19 T3 0 ((L.take k.1).foldl (bfsA n) s0).2.2.length), (6, .p (.int .i64) (i : Int)), (7, .p T43 L), (8, .p (.int .i64) (k.1 : Int))], [(1, .box 25 true [.p T23 f]), (12, .arr 26 T26 ((L.take k.1).foldl (bfsA n) s0).1), (16, .arr 4 T4 ((L.take k.1).foldl (bfsA n) s0).2.1), (19, .arr 3 T3 ((L.take k.1).foldl (bfsA n) s0).2.2)]⟩) (fun k => L.length - k.1) ⟨0, by omega⟩ (ent_match [(1, .nm 1), (12, .nm 12), (16, .nm 16), (19, .nm 19)] rfl rfl ?_ ?_) (fun k => ?_)
        · first | exact eN | refine eM ?_
          simp only [List.foldl_nil]
          rw [hs0]
          exact ⟨rfl, rfl, rfl⟩
        · first | exact eN | refine eM ?_
          simp only [List.foldl_nil]
          rw [hs0]
          exact ⟨rfl, rfl, rfl⟩
        · obtain ⟨k, hk⟩ := k
          have hbk := hfold k
          have hpk := hpre (L.take k)
          have hnext := fun (h : k < L.length) => fold_take (bfsA n) L (0, 0) s0 h
          simp only
          generalize hsk : (L.take k).foldl (bfsA n) s0 = sk at hbk hpk hnext ⊢
          obtain ⟨out1, seen1, todo1⟩ := sk
          simp only at hpk ⊢
          have hl1 := hbk.l1
          have hl2 := hbk.l2
          have hl3 := hbk.cnt
          simp only at hl1 hl2 hl3
          have hto : ∀ (h : k < L.length), 0 ≤ (L.getD k (0, 0)).2 ∧ (L.getD k (0, 0)).2 < (seen1.length : Int) := fun h => by
            have := hLin _ (mem_of_take_succ L (0, 0) h)
            dsimp only [Ty.den] at *
            omega
          have hpl := getD_len hbk.pl n.toNat
          simp only at hpl
          repeat' (first | exact trivial | refine eS rfl ?_ | refine ev_out_inv ?_ | refine rX [0, 1, 2, 3, 4, 5, 6, 7, 8, 23, 38, 49] hc ?_ ?_ | (refine rC (fun hcond => ?_) (fun hcond => ?_) <;> try (cases hcond; done)))
          · exact ⟨hcond, hto (by exact eV)⟩
          · refine ⟨?_, hto ?_⟩ <;> exact eV
          · rename_i hkL _
            have hkL : k < L.length := by dsimp only [Ty.den] at *; omega
            have hst : (L.take (k + 1)).foldl (bfsA n) s0 = (out1.set (L.getD k (0, 0)).2.toNat (out1.getD n.toNat [] ++ [(L.getD k (0, 0)).1]), seen1.set (L.getD k (0, 0)).2.toNat true, todo1 ++ [(L.getD k (0, 0)).2]) := by
              rw [hnext hkL]
              unfold bfsA
              rw [if_neg (by simp only; rw [hcond]; simp)]
            have htk := hto hkL
            refine ev_mix drawsAny hc 22 [([6, 7, 8, 9, 10, 11, 12, 13], 14), ([15, 16, 17, 18, 19, 20], 21)] [0, 1, 2, 3, 4, 5] (by kernel_rfl) (mix_step (by simp only [go_sem, Nat.reduceEqDiff, reduceCtorEq, Nat.reduceAdd, Nat.reduceSub, Nat.reduceMul, Nat.reduceLeDiff, Nat.reduceLT, Int.reduceLE, Int.reduceToNat, Int.reduceNeg, ↓reduceIte]; rfl) ?_ rfl rfl (by simp only [go_sem, Nat.reduceEqDiff, reduceCtorEq, Nat.reduceAdd, Nat.reduceSub, Nat.reduceMul, Nat.reduceLeDiff, Nat.reduceLT, Int.reduceLE, Int.reduceToNat, Int.reduceNeg, ↓reduceIte]; rfl) (by simp only [go_sem, Nat.reduceEqDiff, reduceCtorEq, Nat.reduceAdd, Nat.reduceSub, Nat.reduceMul, Nat.reduceLeDiff, Nat.reduceLT, Int.reduceLE, Int.reduceToNat, Int.reduceNeg, ↓reduceIte]; rfl) ?_)
            · rw [hpk.2]
              dsimp only [Ty.den] at *
              refine ⟨by omega, ⟨by omega, by omega⟩, by omega⟩
            · refine loud_step hc [63] (by simp only [go_sem, Nat.reduceEqDiff, reduceCtorEq, Nat.reduceAdd, Nat.reduceSub, Nat.reduceMul, Nat.reduceLeDiff, Nat.reduceLT, Int.reduceLE, Int.reduceToNat, Int.reduceNeg, ↓reduceIte]; rfl) (by simp only [go_sem, Nat.reduceEqDiff, reduceCtorEq, Nat.reduceAdd, Nat.reduceSub, Nat.reduceMul, Nat.reduceLeDiff, Nat.reduceLT, Int.reduceLE, Int.reduceToNat, Int.reduceNeg, ↓reduceIte]) rfl rfl rfl (by simp only [go_sem, Nat.reduceEqDiff, reduceCtorEq, Nat.reduceAdd, Nat.reduceSub, Nat.reduceMul, Nat.reduceLeDiff, Nat.reduceLT, Int.reduceLE, Int.reduceToNat, Int.reduceNeg, ↓reduceIte]) rfl ?_ ?_
              · rw [hpk.2]
                simp only [maxN]
                dsimp only [Ty.den] at *
                omega
              · refine mix_step (by simp only [go_sem, Nat.reduceEqDiff, reduceCtorEq, Nat.reduceAdd, Nat.reduceSub, Nat.reduceMul, Nat.reduceLeDiff, Nat.reduceLT, Int.reduceLE, Int.reduceToNat, Int.reduceNeg, ↓reduceIte]; rfl) ?_ rfl rfl (by simp only [go_sem, Nat.reduceEqDiff, reduceCtorEq, Nat.reduceAdd, Nat.reduceSub, Nat.reduceMul, Nat.reduceLeDiff, Nat.reduceLT, Int.reduceLE, Int.reduceToNat, Int.reduceNeg, ↓reduceIte]; rfl) (by simp only [go_sem, Nat.reduceEqDiff, reduceCtorEq, Nat.reduceAdd, Nat.reduceSub, Nat.reduceMul, Nat.reduceLeDiff, Nat.reduceLT, Int.reduceLE, Int.reduceToNat, Int.reduceNeg, ↓reduceIte]; rfl) ?_
                · exact eV
                · refine loud_step hc [63] (by simp only [go_sem, Nat.reduceEqDiff, reduceCtorEq, Nat.reduceAdd, Nat.reduceSub, Nat.reduceMul, Nat.reduceLeDiff, Nat.reduceLT, Int.reduceLE, Int.reduceToNat, Int.reduceNeg, ↓reduceIte]; rfl) (by simp only [go_sem, Nat.reduceEqDiff, reduceCtorEq, Nat.reduceAdd, Nat.reduceSub, Nat.reduceMul, Nat.reduceLeDiff, Nat.reduceLT, Int.reduceLE, Int.reduceToNat, Int.reduceNeg, ↓reduceIte]) rfl rfl rfl (by simp only [go_sem, Nat.reduceEqDiff, reduceCtorEq, Nat.reduceAdd, Nat.reduceSub, Nat.reduceMul, Nat.reduceLeDiff, Nat.reduceLT, Int.reduceLE, Int.reduceToNat, Int.reduceNeg, ↓reduceIte]) rfl ?_ ?_
                  · rw [hpk.2]
                    simp only [maxN]
                    dsimp only [Ty.den] at *
                    omega
                  · refine mix_last (by simp only [go_sem, Nat.reduceEqDiff, reduceCtorEq, Nat.reduceAdd, Nat.reduceSub, Nat.reduceMul, Nat.reduceLeDiff, Nat.reduceLT, Int.reduceLE, Int.reduceToNat, Int.reduceNeg, ↓reduceIte]; rfl) ?_ rfl (evLp_all [0, 1, 2, 3, 4, 5, 6, 7, 8, 23, 38, 49] hc (by simp only [go_sem, Nat.reduceEqDiff, reduceCtorEq, Nat.reduceAdd, Nat.reduceSub, Nat.reduceMul, Nat.reduceLeDiff, Nat.reduceLT, Int.reduceLE, Int.reduceToNat, Int.reduceNeg, ↓reduceIte]; rfl) ?_ ?_)
                    · exact eV
                    · dsimp only [Ty.den] at *
                      exact ⟨by omega, by omega⟩
                    · repeat' (first | exact trivial | refine eS rfl ?_ | refine ev_out_inv ?_ | refine rX [0, 1, 2, 3, 4, 5, 6, 7, 8, 23, 38, 49] hc ?_ ?_ | (refine rC (fun hcond => ?_) (fun hcond => ?_) <;> try (cases hcond; done)))
                      · simp only [maxN]
                        dsimp only [Ty.den] at *
                        exact ⟨by omega, by omega⟩
                      · exact eV
                      · refine ⟨⟨k + 1, by omega⟩, by simp only; omega, ent_match [(1, .nm 1), (12, .nm 12), (16, .nm 16), (19, .nm 19)] rfl rfl ?_ ?_⟩
                        · simp only
                          rw [hst]
                          first | exact eN | refine eM ?_
                          rw [hpk.2]
                        · simp only
                          rw [hst]
                          first | exact eN | refine eM ?_
                          simp
          · exact eV
          · rename_i hkL _
            have hkL : k < L.length := by dsimp only [Ty.den] at *; omega
            have hst : (L.take (k + 1)).foldl (bfsA n) s0 = (out1, seen1, todo1) := by
              rw [hnext hkL]
              unfold bfsA
              rw [if_pos (by simp only; rw [hcond])]
            refine ⟨⟨k + 1, by omega⟩, by simp only; omega, ent_match [(1, .nm 1), (12, .nm 12), (16, .nm 16), (19, .nm 19)] rfl rfl ?_ ?_⟩
            · simp only
              rw [hst]
              first | exact eN | refine eM ?_
            · simp only
              rw [hst]
              first | exact eN | refine eM ?_
          · exact eV
          · have hkL : L.take k = L := List.take_of_length_le (by exact eV)
            rw [hkL] at hsk
            rw [hsk] at hbN
            have htl : todo1.length ≤ f.length := by omega
            refine ⟨⟨(i + 1, (out1, seen1, todo1)), hbk, by simp only; omega, hbN⟩, by simp only; dsimp only [Ty.den] at *; omega, ent_match [(1, .nm 1), (12, .nm 12), (16, .nm 16), (19, .nm 19)] rfl rfl ?_ ?_⟩
            · first | exact eN | refine eM ?_
            · first | exact eN | refine eM ?_
      · have h1 : firstF f = out := by
          unfold firstF
          rw [← hbfs, bfs_end (by exact eV)]
        exact ev_fin hc [.tmp 2] rfl (.inl rfl) (by simp) (by rw [h1]; first | exact eR | refine eRM ?_)
end
end Go.Proofs.YtpikphnjpldoiaaGreat.Fw
