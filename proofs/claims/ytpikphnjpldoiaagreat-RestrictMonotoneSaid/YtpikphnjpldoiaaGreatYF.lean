/- Subsumption; what is valid; parts of parts; the statement's function. -/
/- Functions of bits: word, Subset; hier: Subsumes. -/
import Derived.Test.YtpikphnjpldoiaaGreatYE
import Derived.Test.YtpikphnjpldoiaaGreatYA
import Derived.Test.YtpikphnjpldoiaaGreatZI
import Derived.Test.YtpikphnjpldoiaaGreatYC
set_option linter.unusedVariables false
set_option linter.unusedSimpArgs false
namespace Go.Proofs.YtpikphnjpldoiaaGreat.Fw
open Go
attribute [local irreducible] Ev
attribute [local go_sem] cx_tb entEnv List.toList_toArray evSeq evG evK vcK guardOf guardT guardB_true guardB_false step1 step0 stepQ takesIn namesParts namesOf namesStore frzAll frz frz1 fixN frzEnv frzObjs drpEnv drpObjs AV.frz AV.frzs AV.drp AV.drps AV.names AV.namess aq qmap qPick qAlloc qBox qBuild qBuildSlice qBuildSlice2 qLoad qLoadB qLoadB2 qLoadE qLoadE2 qLoadE3 qFieldI qOff qPart qField qIndexA qIndex qIndexS qNil qBin qUn qConv qMake qMake2 qSlice qExtract qLen qAppend qAppend2 qAppend3 qMin qMax qCall qCall2 qCall3 qBuiltin qCallee aloud lStoreD lStore lStoreB lStoreB2 lStoreE lStoreE3 lStoreE4 lCallee lBuiltin lAppend lAppend2 lAppend3 lAppend4 opv lk constAV optAV sliceQ bin binI binS zf1 zfs pfs AV.cells nthOff loadB offB storeB notAg fitsT fitsO Ty.cell1 fieldOk partsT partsAg argsT asT asT1 asTs pairO srT castTo_self getF setF getP setP offP offF fldT rvAV rvObj rvAVs rvObjs resAV RV.flat Ty.flat Ty.size St.add upd del fresh Value.oneCell' refZ Ty.dflt sub_all sub_one sub_take sub_end List.take_succ_cons List.take_zero List.length_cons cast0 castS sub_app take_app sub_app1 take_app1 take_one1 natC zero_le_natC i64_min i64_max u64_min u64_max u8_min u8_max inK_i64 inK_u64 inK_u8 Option.map_some Option.map_none Option.bind_some Option.getD_some Option.getD_none Option.isNone_none Option.isNone_some Bool.and_true Bool.true_and Bool.and_false Bool.false_and Bool.not_true Bool.not_false if_true if_false List.length_cons List.length_nil and_true true_and and_self List.all_cons List.all_nil List.append_nil List.nil_append List.cons_append List.getElem?_cons_zero List.getElem?_cons_succ List.getElem?_nil List.map_cons List.map_nil List.set_cons_zero List.set_cons_succ List.isEmpty_nil List.isEmpty_cons decide_true decide_false beq_self_eq_true bne_self_eq_false Nat.zero_add Nat.add_zero Nat.sub_zero Int.toNat_natCast Int.toNat_zero Int.toNat_one List.take_length List.length_append List.length_singleton true_or or_true or_self false_or or_false Ty.agg.injEq Ty.slice.injEq Ty.prod.injEq Ty.int.injEq Option.some.injEq beq_iff_eq evM evMG evMQ opM isPick viewE viewS viewG opTs opTmp consE guardM guardM1 guardM2 sideM sideM2 pickM pickM2 sufB chEq_nil chEq_nc chEq_cn chEq_cons memB dstOf Op.operands Call.operands List.filterMap_cons List.filterMap_nil List.append_eq Bool.cond_false_right Bool.cond_true_left cond_true cond_false implies_true decide_eq_true_eq beq_true beq_false Bool.or_true Bool.or_false Bool.true_or Bool.false_or Option.isSome_some fieldV namesAg namesAgs capNs qClo qClo2 qMakeMap qMakeMap2 qMakeMap3 qLook qLook2 qLook3 qLook4 keyT keyP eqT inB lMapUp lMapUp2 lMapUp3 namesMap argEnv cm_tb List.drop_zero pruneR prune rem1 afterM addDst fgtEnv AV.fgt AV.fgts Obj.fgt restObjs handed memB calleeOf opvs matchArgs matchArg List.any_cons List.any_nil evF evFO evFQ evFK addQ frOk qs List.flatMap_cons List.flatMap_nil List.cons_append tn appN fgtEN List.take_succ_cons List.drop_succ_cons isYl parEnv rangeSt cY_tb marked_tb renOk renIn matchObjs matchEnv matchE matchAV matchAVs matchF matchO
attribute [local go_sem] ty1 ty2 ty3 ty4 ty5 ty9 ty12 ty21 ty22 ty23 ty24 ty25 ty26 ty27 ty28 ty29 ty30 ty31 ty32 ty33 ty34 ty35 ty36 ty37 ty38 ty39 ty40 ty41 ty42 ty43 ty44 ty45 ty46 ty47 ty48 ty49 ty50 ty51 ty52 ty53 ty54 ty55 ty56 ty57 ty58 ty60 ty61 ty62 ty64 ty65 ty66 ty67 ty68 ty70 ty71 ty72 ty74 ty75 ty76 ty77 ty78 ty79 ty80 ty81 ty82 ty83 ty84 ty85 ty87 ty89 ty91 ty92 ty93 ty94 ty95 ty96 ty97 ty98 ty99 ty100 ty101 ty102 ty103 ty104 ty105 ty106 ty107 ty108 ty109 ty110 ty111 ty112 ty113 ty114 ty115 ty117 ty118 ty120 ty121 ty122 ty123 ty124 ty125 ty126 ty127 ty128 ty130 ty131 ty132 ty133 ty134 ty135 ty136 ty137 ty138 ty139 ty140 ty141 ty142 ty143 ty144 ty145 ty146 ty147 ty148 ty149 ty150 ty151 ty154 ty155 ty156 ty158 ty159 ty160 ty161 ty162 ty163 ty164 ty165 ty166 ty167 ty169 ty170 ty171 ty172 ty173 ty174 ty175 ty176 ty177 ty178 ty179 ty180 ty181 ty182 ty183 ty184 ty185 ty186 ty187 ty188 ty190 ty191 ty192 ty193 ty194 ty195 ty196 ty197 ty198 ty199 ty200 ty201 ty202 ty203 ty204 ty205 ty207 ty208 ty209 ty210 ty211 ty212 ty213 ty214 ty215 ty216 ty217 ty218 ty219 ty220 ty221 ty222 ty223 ty224 ty225 ty226 ty227 ty228 ty229 ty230 ty231 ty232 ty233 ty234 ty236 ty237 ty238 ty239 ty240 ty241 ty242 ty243 ty244 ty245 ty246 ty247 ty248 ty249 ty250 ty251 ty257 ty260 ty261
set_option maxRecDepth 100000
set_option maxHeartbeats 4000000
section
def wordPS : Spec := { ins := [T122, T3], pre := fun (_, i, _) => (0 : Int) ≤ i, out := fun (b, i, _) => [.p T184 (wordF b i)], lend := true }
attribute [local go_sem] wordPS
theorem wordP_ok : FnOk Tryz.prog 163 wordPS := by
  refine fn_ok Tryz.func163 (by kernel_rfl) rfl Tryz.ntmps163 (by decide) (by kernel_rfl) (tyTab_ok []) fns_nil ?_
  rintro w0 O0 ⟨b, i, u⟩ hc - hi
  simp only [wordPS, entEnv]
  repeat' (first | exact trivial | refine eS rfl ?_ | refine ev_out_inv ?_ | refine rX [0, 1, 4, 8] hc ?_ ?_ | (refine rC (fun hcond => ?_) (fun hcond => ?_) <;> try (cases hcond; done)))
  · exact ⟨hi, hcond⟩
  · have h1 : wordF b i = b.getD i.toNat 0 := by unfold wordF; rw [if_pos hcond]
    exact ev_fin hc [.tmp 4] rfl (.inl rfl) (by simp) (by rw [h1]; first | exact eR | refine eRM ?_)
  · have h1 : wordF b i = 0 := by unfold wordF; rw [if_neg (Int.not_lt.2 hcond)]
    exact ev_fin hc [.tmp 4] rfl (.inl rfl) (by simp) (by rw [h1]; first | exact eR | refine eRM ?_)
def subPF (a b : List Int) : Bool := (List.range a.length).all fun i => bitsV .andNot .u64 (a.getD i 0) (wordF b (i : Int)) == 0
def subPG (a b : List Int) (n : Nat) : Bool := (List.range n).all fun i => bitsV .andNot .u64 (a.getD i 0) (wordF b (i : Int)) == 0
theorem subPG_succ (a b : List Int) (n : Nat) : subPG a b (n + 1) = (subPG a b n && bitsV .andNot .u64 (a.getD n 0) (wordF b (n : Int)) == 0) := by
  unfold subPG
  rw [List.range_succ, List.all_append]
  simp
def subsetPS : Spec := { ins := [T122, T122], pre := fun _ => True, out := fun (a, b, _) => [.p .bool (subPF a b)], lend := true }
attribute [local go_sem] subsetPS
theorem subsetP_ok : FnOk Tryz.prog 114 subsetPS := by
  refine fn_ok Tryz.func114 (by kernel_rfl) rfl Tryz.ntmps114 (by decide) (by kernel_rfl) (tyTab_ok [(163, wordPS)]) (fns_cons wordP_ok fns_nil) ?_
  rintro w0 O0 ⟨a, b, u⟩ hc ⟨⟨hal, -⟩, -⟩ -
  simp only [maxN] at hal
  simp only [subsetPS, entEnv]
  repeat' (first | exact trivial | refine eS rfl ?_ | refine ev_out_inv ?_ | refine rX [0, 1, 4, 5, 6, 7, 8, 9, 10, 19] hc ?_ ?_ | (refine rC (fun hcond => ?_) (fun hcond => ?_) <;> try (cases hcond; done)))
  have hfp : subPF a b = subPG a b a.length := rfl
  refine ev_loop (ι := {n : Nat // n ≤ a.length ∧ subPG a b n = true}) (fun n => ⟨[(1, .p T122 b), (7, .p T122 a), (8, .p (.int .i64) (a.length : Int)), (9, .p (.int .i64) (n.1 : Int))], []⟩) (fun n => a.length - n.1) ⟨0, Nat.zero_le _, rfl⟩ (ent_match [] rfl rfl ?_ ?_) (fun n => ?_)
  · first | exact eN | refine eM ?_
  · first | exact eN | refine eM ?_
  · obtain ⟨n, hn, hall⟩ := n
    have hs := subPG_succ a b n
    simp only
    repeat' (first | exact trivial | refine eS rfl ?_ | refine ev_out_inv ?_ | refine rX [0, 1, 4, 5, 6, 7, 8, 9, 10, 19] hc ?_ ?_ | (refine rC (fun hcond => ?_) (fun hcond => ?_) <;> try (cases hcond; done)))
    · exact hcond
    · have hn2 : n < a.length := by exact eV
      have h1 : subPF a b = false := by
        unfold subPF
        rw [List.all_eq_false]
        exact ⟨n, List.mem_range.2 hn2, by simpa using hcond⟩
      exact ev_fin hc [.tmp 4] rfl (.inl rfl) (by simp) (by rw [h1]; first | exact eR | refine eRM ?_)
    · exact eV
    · have hn2 : n < a.length := by exact eV
      refine ⟨⟨n + 1, hn2, ?_⟩, by simp only; omega, ent_match [] rfl rfl ?_ ?_⟩
      · rw [hs, hall]
        simpa using hcond
      · first | exact eN | refine eM ?_
      · first | exact eN | refine eM ?_
    · have hn2 : n = a.length := by exact eV
      subst hn2
      exact ev_fin hc [.tmp 4] rfl (.inl rfl) (by simp) (by rw [hfp, hall]; first | exact eR | refine eRM ?_)
abbrev t0D : TypeD := (ByteArray.empty, [], [], [])
def hsubF (h : HierD) (a b : Int) : Bool := subPF (h.1.getD b.toNat t0D).2.1 (h.1.getD a.toNat t0D).2.1
def hsubS : Spec := { ins := [T33, T3, T3], pre := fun (h, a, b, _) => ((0 : Int) ≤ a ∧ a < (List.length (h : HierD).1 : Int)) ∧ ((0 : Int) ≤ b ∧ b < (List.length (h : HierD).1 : Int)), out := fun (h, a, b, _) => [.p .bool (hsubF h a b)], lend := true }
theorem hsub_ok : FnOk Tryz.prog 78 hsubS := by
  refine fn_ok Tryz.func78 (by kernel_rfl) rfl Tryz.ntmps78 (by decide) (by kernel_rfl) (tyTab_ok [(114, subsetPS)]) (fns_cons subsetP_ok fns_nil) ?_
  rintro w0 O0 ⟨⟨ht, hf⟩, a, b, u⟩ hc - ⟨ha, hb⟩
  simp only [hsubS, entEnv]
  repeat' (first | exact trivial | refine eS rfl ?_ | refine ev_out_inv ?_ | refine rX [0, 1, 2, 3, 6] hc ?_ ?_ | (refine rC (fun hcond => ?_) (fun hcond => ?_) <;> try (cases hcond; done)))
  · exact ⟨hb, ha⟩
  · exact ev_fin hc [.tmp 6] rfl (.inl rfl) (by simp) (by unfold hsubF; first | exact eR | refine eRM ?_)
end
/- Functions of subsume: target, Map, Subsumes. -/
section
attribute [local go_sem] hsubS
def tgtF (l : List (Int × Int)) (e : Int) : Int := match l with
  | [] => -1
  | a :: l => if a.1 = e then a.2 else tgtF l e
theorem tgtF_step (e : Int) (l : List (Int × Int)) {k : Nat} (h : k < l.length) : tgtF (l.drop k) e = if (l.getD k (0, 0)).1 = e then (l.getD k (0, 0)).2 else tgtF (l.drop (k + 1)) e := by
  rw [List.drop_eq_getElem_cons h]
  have e : l.getD k (0, 0) = l[k] := by simp [List.getD_eq_getElem?_getD, h]
  rw [e]
  rfl
def targetS : Spec := { ins := [T45, T3], pre := fun _ => True, out := fun (x, e, _) => [.p T3 (tgtF x.2 e)], lend := true }
attribute [local go_sem] targetS
theorem target_ok : FnOk Tryz.prog 79 targetS := by
  refine fn_ok Tryz.func79 (by kernel_rfl) rfl Tryz.ntmps79 (by decide) (by kernel_rfl) (tyTab_ok []) fns_nil ?_
  rintro w0 O0 ⟨⟨ty, l⟩, e, u⟩ hc ⟨⟨-, hl, -⟩, -⟩ -
  simp only [maxN] at hl
  simp only [targetS, entEnv]
  repeat' (first | exact trivial | refine eS rfl ?_ | refine ev_out_inv ?_ | refine rX [0, 1, 2, 4, 6, 8, 9, 10, 11, 17] hc ?_ ?_ | (refine rC (fun hcond => ?_) (fun hcond => ?_) <;> try (cases hcond; done)))
  refine ev_loop (ι := {k : Nat // k ≤ l.length ∧ tgtF (l.drop k) e = tgtF l e}) (fun k => ⟨[(1, .p T3 e), (8, .p T43 l), (9, .p (.int .i64) (l.length : Int)), (10, .p (.int .i64) (k.1 : Int))], []⟩) (fun k => l.length - k.1) ⟨0, Nat.zero_le _, rfl⟩ (ent_match [] rfl rfl ?_ ?_) (fun k => ?_)
  · first | exact eN | refine eM ?_
  · first | exact eN | refine eM ?_
  · obtain ⟨k, hk, hf⟩ := k
    have hst := fun h : k < l.length => tgtF_step e l h
    simp only
    repeat' (first | exact trivial | refine eS rfl ?_ | refine ev_out_inv ?_ | refine rX [0, 1, 2, 4, 6, 8, 9, 10, 11, 17] hc ?_ ?_ | (refine rC (fun hcond => ?_) (fun hcond => ?_) <;> try (cases hcond; done)))
    · exact hcond
    · have hk2 : k < l.length := by exact eV
      rw [hst hk2, if_pos hcond] at hf
      exact ev_fin hc [.tmp 4] rfl (.inl rfl) (by simp) (by rw [← hf]; first | exact eR | refine eRM ?_)
    · exact eV
    · have hk2 : k < l.length := by exact eV
      rw [hst hk2, if_neg (by simpa using hcond)] at hf
      refine ⟨⟨k + 1, hk2, hf⟩, by simp only; omega, ent_match [] rfl rfl ?_ ?_⟩
      · first | exact eN | refine eM ?_
      · first | exact eN | refine eM ?_
    · have hk2 : l.drop k = [] := List.drop_eq_nil_of_le (by exact eV)
      rw [hk2] at hf
      exact ev_fin hc [.tmp 4] rfl (.inl rfl) (by simp) (by rw [← hf]; first | exact eR | refine eRM ?_; rfl)
end
/- Functions of subsume: Map, Subsumes. -/
section
attribute [local go_sem] hsubS targetS
def fillG (n i : Nat) : List Int := (List.range n).map fun j => if j < i then -1 else 0
theorem fillG_len (n i : Nat) : (fillG n i).length = n := by simp [fillG]
theorem fillG_zero (n : Nat) : fillG n 0 = List.replicate n 0 := by
  apply List.ext_getElem
  · simp [fillG]
  · intro j h1 h2
    simp [fillG]
theorem fillG_set (n i : Nat) : (fillG n i).set i (-1) = fillG n (i + 1) := by
  apply List.ext_getElem
  · simp [fillG]
  · intro j h1 h2
    simp only [fillG, List.getElem_set, List.getElem_map, List.getElem_range]
    split
    · rename_i e; rw [if_pos (by omega)]
    · rename_i e
      by_cases hj : j < i
      · rw [if_pos hj, if_pos (by omega)]
      · rw [if_neg hj, if_neg (by omega)]
theorem fillG_all (n : Nat) : fillG n n = List.replicate n (-1) := by
  apply List.ext_getElem
  · simp [fillG]
  · intro j h1 h2
    simp only [fillG, List.getElem_map, List.getElem_range, List.getElem_replicate]
    rw [if_pos (by simpa [fillG] using h1)]
/-- The map of the arcs of a node. -/
def mapBad (bl : List (Int × Int)) (m : List Int) (x : Int × Int) : Bool := decide (tgtF bl x.1 < 0) || decide (0 ≤ m.getD x.2.toNat 0) && !(m.getD x.2.toNat 0 == tgtF bl x.1)
def mapArcs (bl : List (Int × Int)) : List (Int × Int) → List Int → Option (List Int)
  | [], m => some m
  | x :: l, m => if mapBad bl m x = true then none else mapArcs bl l (m.set x.2.toNat (tgtF bl x.1))
def nodeBad (h : HierD) (b : List GNode) (n : GNode) (k : Int) : Bool := decide (k < 0) || !hsubF h n.1 (b.getD k.toNat (0, [])).1
def mapNodes (h : HierD) (b : List GNode) : List GNode → Nat → List Int → Option (List Int)
  | [], _, m => some m
  | n :: r, i, m => if nodeBad h b n (m.getD i 0) = true then none else match mapArcs (b.getD (m.getD i 0).toNat (0, [])).2 n.2 m with
    | none => none
    | some m' => mapNodes h b r (i + 1) m'
def mapF (h : HierD) (a b : List GNode) : Option (List Int) := mapNodes h b a 0 ((List.replicate a.length (-1)).set 0 0)
theorem mapArcs_step (bl l : List (Int × Int)) (m : List Int) {k : Nat} (h : k < l.length) : mapArcs bl (l.drop k) m = if mapBad bl m (l.getD k (0, 0)) = true then none else mapArcs bl (l.drop (k + 1)) (m.set (l.getD k (0, 0)).2.toNat (tgtF bl (l.getD k (0, 0)).1)) := by
  rw [List.drop_eq_getElem_cons h]
  have e : l.getD k (0, 0) = l[k] := by simp [List.getD_eq_getElem?_getD, h]
  rw [e]
  rfl
theorem mapNodes_step (h : HierD) (b a : List GNode) (m : List Int) {i : Nat} (hi : i < a.length) : mapNodes h b (a.drop i) i m = if nodeBad h b (a.getD i (0, [])) (m.getD i 0) = true then none else match mapArcs (b.getD (m.getD i 0).toNat (0, [])).2 (a.getD i (0, [])).2 m with
    | none => none
    | some m' => mapNodes h b (a.drop (i + 1)) (i + 1) m' := by
  rw [List.drop_eq_getElem_cons hi]
  have e : a.getD i (0, []) = a[i] := by simp [List.getD_eq_getElem?_getD, hi]
  rw [e]
  rfl
/-- A map's form: each number is a node of the other structure, or none. -/
structure MapI (a b : List GNode) (m : List Int) : Prop where
  len : m.length = a.length
  rng : ∀ x ∈ m, x < (b.length : Int)
theorem tgtF_lt {n : Int} (hn : 0 ≤ n) : ∀ {l : List (Int × Int)} (e : Int), (∀ x ∈ l, x.2 < n) → tgtF l e < n
  | [], _, _ => by simp only [tgtF]; omega
  | x :: l, e, h => by
    simp only [tgtF]
    split
    · exact h x (by simp)
    · exact tgtF_lt hn e (fun y hy => h y (by simp [hy]))
theorem MapI.set {a b : List GNode} {m : List Int} (h : MapI a b m) (k : Nat) {v : Int} (hv : v < (b.length : Int)) : MapI a b (m.set k v) := by
  refine ⟨by simp [h.len], fun x hx => ?_⟩
  rcases List.mem_or_eq_of_mem_set hx with hx | hx
  · exact h.rng x hx
  · rw [hx]; exact hv
theorem MapI.get {a b : List GNode} {m : List Int} (h : MapI a b m) (hb : 0 < b.length) (k : Nat) : m.getD k 0 < (b.length : Int) := by
  rw [List.getD_eq_getElem?_getD]
  cases hh : m[k]? with
  | none => show (0 : Int) < _; omega
  | some x => exact h.rng x (List.mem_of_getElem? hh)
def TyOk (h : HierD) (f : List GNode) : Prop := ∀ x ∈ f, 0 ≤ x.1 ∧ x.1 < (h.1.length : Int)
theorem node_rng {f : List GNode} (hf : GoodF f) (k : Nat) : ∀ x ∈ (f.getD k (0, [])).2, 0 ≤ x.2 ∧ x.2 < (f.length : Int) := by
  intro x hx
  by_cases h : k < f.length
  · exact (hf.2 _ (mem_of_take_succ f (0, []) h)).2 x hx
  · rw [List.getD_eq_getElem?_getD, List.getElem?_eq_none (by omega)] at hx
    cases hx
def mapS : Spec := { ins := [T33, T25, T25], pre := fun (h, a, b, _) => GoodF a ∧ 0 < List.length a ∧ GoodF b ∧ 0 < List.length b ∧ TyOk h a ∧ TyOk h b, out := fun (h, a, b, _) => [.p T26 ((mapF h a b).getD []), .p .bool (mapF h a b).isSome] }
attribute [local go_sem] mapS
theorem map_ok : FnOk Tryz.prog 50 mapS := by
  refine fn_ok Tryz.func50 (by kernel_rfl) rfl Tryz.ntmps50 (by decide) (by kernel_rfl) (tyTab_ok [(78, hsubS), (79, targetS)]) (fns_cons hsub_ok (fns_cons target_ok fns_nil)) ?_
  rintro w0 O0 ⟨⟨ht, hf⟩, a, b, u⟩ hc - ⟨hga, ha0, hgb, hb0, hta, htb⟩
  have hal := hga.1
  simp only [mapS, entEnv]
  repeat' (first | exact trivial | refine eS rfl ?_ | refine ev_out_inv ?_ | refine rX [0, 1, 2, 3, 4, 5, 6, 7, 8, 9, 10, 11, 12, 13, 15, 16, 22, 23, 24, 33, 34, 35, 36, 58, 60, 61, 62, 63, 92, 101] hc ?_ ?_ | (refine rC (fun hcond => ?_) (fun hcond => ?_) <;> try (cases hcond; done)))
  refine Ev.ent (σ' := ⟨[(3, .bp 3 [] 0), (4, .bp 4 [] 0), (5, .bp 5 [] 0)], [(3, .box 33 true [.p T30 ht, .p T31 hf]), (4, .box 25 true [.p T23 a]), (5, .box 25 true [.p T23 b])]⟩) ?_ (ent_match [(3, .nm 3), (4, .nm 4), (5, .nm 5)] rfl rfl ?_ ?_)
  · refine ev_scope ret_goto ?_
    repeat' (first | exact trivial | refine eS rfl ?_ | refine ev_out_inv ?_ | refine rX [0, 1, 2, 3, 4, 5, 6, 7, 8, 9, 10, 11, 12, 13, 15, 16, 22, 23, 24, 33, 34, 35, 36, 58, 60, 61, 62, 63, 92, 101] hc ?_ ?_ | (refine rC (fun hcond => ?_) (fun hcond => ?_) <;> try (cases hcond; done)))
    · simp only [maxN]; omega
    · refine ev_loop (ι := {i : Nat // i ≤ a.length}) (fun i => ⟨[(3, .bp 3 [] 0), (4, .bp 4 [] 0), (5, .bp 5 [] 0), (8, .sr 20 T3 0 a.length), (22, .p (.int .i64) (a.length : Int)), (23, .p (.int .i64) (i.1 : Int))], [(3, .box 33 true [.p T30 ht, .p T31 hf]), (4, .box 25 true [.p T23 a]), (5, .box 25 true [.p T23 b]), (20, .arr 3 T3 (fillG a.length i.1))]⟩) (fun i => a.length - i.1) ⟨0, Nat.zero_le _⟩ (ent_match [(3, .nm 3), (4, .nm 4), (5, .nm 5), (20, .nm 20)] rfl rfl ?_ ?_) (fun i => ?_)
      · first | exact eN | refine eM ?_
        rw [fillG_zero]
      · first | exact eN | refine eM ?_
      · obtain ⟨i, hi⟩ := i
        have hfl := fillG_len a.length i
        simp only
        repeat' (first | exact trivial | refine eS rfl ?_ | refine ev_out_inv ?_ | refine rX [0, 1, 2, 3, 4, 5, 6, 7, 8, 9, 10, 11, 12, 13, 15, 16, 22, 23, 24, 33, 34, 35, 36, 58, 60, 61, 62, 63, 92, 101] hc ?_ ?_ | (refine rC (fun hcond => ?_) (fun hcond => ?_) <;> try (cases hcond; done)))
        · exact hcond
        · omega
        · have hi2 : i < a.length := Int.ofNat_lt.1 hcond
          refine ⟨⟨i + 1, hi2⟩, by simp only; omega, ent_match [(3, .nm 3), (4, .nm 4), (5, .nm 5), (20, .nm 20)] rfl rfl ?_ ?_⟩
          · simp only [← fillG_set]
            first | exact eN | refine eM ?_
          · first | exact eN | refine eM ?_
        · exact Int.ofNat_lt.2 ha0
        · have hi2 : i = a.length := by omega
          subst hi2
          rw [fillG_all]
          have hm0 : MapI a b ((List.replicate a.length (-1)).set 0 0) := MapI.set ⟨by simp, fun x hx => by rw [(List.mem_replicate.1 hx).2]; omega⟩ 0 (by omega)
          have hmf : mapF (ht, hf) a b = mapNodes (ht, hf) b (a.drop 0) 0 ((List.replicate a.length (-1)).set 0 0) := rfl
          generalize (List.replicate a.length (-1 : Int)).set 0 0 = m0 at *
          refine ev_label ?_
          repeat' (first | exact trivial | refine eS rfl ?_ | refine ev_out_inv ?_ | refine rX [0, 1, 2, 3, 4, 5, 6, 7, 8, 9, 10, 11, 12, 13, 15, 16, 22, 23, 24, 33, 34, 35, 36, 58, 60, 61, 62, 63, 92, 101] hc ?_ ?_ | (refine rC (fun hcond => ?_) (fun hcond => ?_) <;> try (cases hcond; done)))
          refine ev_loop (ι := {x : Nat × List Int // x.1 ≤ a.length ∧ MapI a b x.2 ∧ mapNodes (ht, hf) b (a.drop x.1) x.1 x.2 = mapF (ht, hf) a b}) (fun x => ⟨[(3, .bp 3 [] 0), (5, .bp 5 [] 0), (8, .sr 20 T3 0 a.length), (10, .p .bool true), (33, .p T23 a), (34, .p (.int .i64) (a.length : Int)), (35, .p (.int .i64) (x.1.1 : Int))], [(3, .box 33 true [.p T30 ht, .p T31 hf]), (5, .box 25 true [.p T23 b]), (20, .arr 3 T3 x.1.2)]⟩) (fun x => a.length - x.1.1) ⟨(0, m0), Nat.zero_le _, hm0, hmf.symm⟩ (ent_match [(3, .nm 3), (5, .nm 5), (20, .nm 20)] rfl rfl ?_ ?_) (fun x => ?_)
          · first | exact eN | refine eM ?_
          · first | exact eN | refine eM ?_
          · obtain ⟨⟨i, m⟩, hi, hmI, hmn⟩ := x
            simp only at hi hmI hmn
            have hml := hmI.len
            have hst := fun h : i < a.length => mapNodes_step (ht, hf) b a m h
            simp only
            repeat' (first | exact trivial | refine eS rfl ?_ | refine ev_out_inv ?_ | refine rX [0, 1, 2, 3, 4, 5, 6, 7, 8, 9, 10, 11, 12, 13, 15, 16, 22, 23, 24, 33, 34, 35, 36, 58, 60, 61, 62, 63, 92, 101] hc ?_ ?_ | (refine rC (fun hcond => ?_) (fun hcond => ?_) <;> try (cases hcond; done)))
            · exact hcond
            · exact hcond
            · have hi2 : i < a.length := Int.ofNat_lt.1 hcond
              have hk := hmI.get hb0 i
              refine ⟨fun h => ⟨by simpa using h, hk⟩, fun h => ⟨hta _ (mem_of_take_succ a (0, []) hi2), htb _ (mem_of_take_succ b (0, []) ?_)⟩⟩
              have : (0 : Int) ≤ m.getD i 0 := by simpa using h
              omega
            · have hi2 : i < a.length := Int.ofNat_lt.1 (by assumption)
              have hbad : nodeBad (ht, hf) b (a.getD i (0, [])) (m.getD i 0) = true := by
                unfold nodeBad
                rw [Bool.or_eq_true, decide_eq_true_eq, Bool.not_eq_true']
                assumption
              rw [hst hi2, if_pos hbad] at hmn
              exact ev_fin hc [.tmp 6, .tmp 7] rfl (.inl rfl) (by simp) (by rw [← hmn]; first | exact eR | refine eRM ?_; first | rfl | exact ⟨rfl, rfl⟩)
            · have hi2 : i < a.length := Int.ofNat_lt.1 (by assumption)
              have hbad : ¬ nodeBad (ht, hf) b (a.getD i (0, [])) (m.getD i 0) = true := by
                unfold nodeBad
                rw [Bool.or_eq_true, decide_eq_true_eq, Bool.not_eq_true']
                rintro (h | h)
                · have := hcond.1; omega
                · rw [show hsubF (ht, hf) (a.getD i (0, [])).1 (b.getD (m.getD i 0).toNat (0, [])).1 = true from hcond.2] at h
                  cases h
              rw [hst hi2, if_neg hbad] at hmn
              have hk0 : (0 : Int) ≤ m.getD i 0 := hcond.1
              have hk1 := hmI.get hb0 i
              have hal2 : (a.getD i (0, [])).2.length ≤ 100000 := (hga.2 _ (mem_of_take_succ a (0, []) hi2)).1
              have hrng := node_rng hga i
              have hbl := node_rng hgb (m.getD i 0).toNat
              have hkb : ((m.getD i 0).toNat : Int) = m.getD i 0 := by omega
              generalize hkd : m.getD i 0 = kk at *
              have hbe : (b.getD kk.toNat (0, [])).2 = (b.getD kk.toNat (0, [])).2 := rfl
              generalize hble : (b.getD kk.toNat (0, [])).2 = bl at hmn hbl
              generalize hae : (a.getD i (0, [])).2 = l at hmn hal2 hrng
              refine ev_loop (ι := {y : Nat × List Int // y.1 ≤ l.length ∧ MapI a b y.2 ∧ mapArcs bl (l.drop y.1) y.2 = mapArcs bl l m}) (fun y => ⟨[(3, .bp 3 [] 0), (5, .bp 5 [] 0), (8, .sr 20 T3 0 a.length), (10, .p .bool true), (13, .p T3 kk), (33, .p T23 a), (34, .p (.int .i64) (a.length : Int)), (35, .p (.int .i64) (i : Int)), (60, .p T43 l), (61, .p (.int .i64) (l.length : Int)), (62, .p (.int .i64) (y.1.1 : Int))], [(3, .box 33 true [.p T30 ht, .p T31 hf]), (5, .box 25 true [.p T23 b]), (20, .arr 3 T3 y.1.2)]⟩) (fun y => l.length - y.1.1) ⟨(0, m), Nat.zero_le _, hmI, rfl⟩ (ent_match [(3, .nm 3), (5, .nm 5), (20, .nm 20)] rfl rfl ?_ ?_) (fun y => ?_)
              · first | exact eN | refine eM ?_
              · first | exact eN | refine eM ?_
              · obtain ⟨⟨j, m2⟩, hj, hmI2, hma⟩ := y
                simp only at hj hmI2 hma
                have hml2 := hmI2.len
                have hst2 := fun h : j < l.length => mapArcs_step bl l m2 h
                have hx := fun h : j < l.length => hrng _ (mem_of_take_succ l (0, 0) h)
                have htl : tgtF bl (l.getD j (0, 0)).1 < (b.length : Int) := tgtF_lt (Int.natCast_nonneg _) _ fun x hx => (hbl x hx).2
                have hmb : mapBad bl m2 (l.getD j (0, 0)) = (decide (tgtF bl (l.getD j (0, 0)).1 < 0) || decide (0 ≤ m2.getD (l.getD j (0, 0)).2.toNat 0) && !(m2.getD (l.getD j (0, 0)).2.toNat 0 == tgtF bl (l.getD j (0, 0)).1)) := rfl
                rw [← hble] at hst2 hmb hma htl
                simp only
                repeat' (first | exact trivial | refine eS rfl ?_ | refine ev_out_inv ?_ | refine rX [0, 1, 2, 3, 4, 5, 6, 7, 8, 9, 10, 11, 12, 13, 15, 16, 22, 23, 24, 33, 34, 35, 36, 58, 60, 61, 62, 63, 92, 101] hc ?_ ?_ | (refine rC (fun hcond => ?_) (fun hcond => ?_) <;> try (cases hcond; done)))
                · exact hcond
                · exact ⟨hk0, hk1⟩
                · have hj2 : j < l.length := Int.ofNat_lt.1 hcond
                  exact ⟨fun _ => hx hj2, fun _ => hx hj2⟩
                · have hj2 : j < l.length := Int.ofNat_lt.1 (by assumption)
                  have hbad2 : mapBad (b.getD kk.toNat (0, [])).2 m2 (l.getD j (0, 0)) = true := by
                    rw [hmb, Bool.or_eq_true, Bool.and_eq_true, decide_eq_true_eq, decide_eq_true_eq, Bool.not_eq_true', beq_eq_false_iff_ne]
                    assumption
                  rw [hst2 hj2, if_pos hbad2] at hma
                  rw [hble] at hma
                  rw [← hma] at hmn
                  have hmn : none = mapF (ht, hf) a b := hmn
                  exact ev_fin hc [.tmp 6, .tmp 7] rfl (.inl rfl) (by simp) (by rw [← hmn]; first | exact eR | refine eRM ?_; first | rfl | exact ⟨rfl, rfl⟩)
                · have hj2 : j < l.length := Int.ofNat_lt.1 (by assumption)
                  exact hx hj2
                · omega
                · have hj2 : j < l.length := Int.ofNat_lt.1 (by assumption)
                  have hbad2 : ¬ mapBad (b.getD kk.toNat (0, [])).2 m2 (l.getD j (0, 0)) = true := by
                    rw [hmb, Bool.or_eq_true, Bool.and_eq_true, decide_eq_true_eq, decide_eq_true_eq, Bool.not_eq_true', beq_eq_false_iff_ne]
                    rintro (h | ⟨h1, h2⟩)
                    · exact absurd hcond.1 (Int.not_le.2 h)
                    · have := hcond.2 h1
                      rw [bne_eq_false_iff_eq] at this
                      exact h2 this
                  rw [hst2 hj2, if_neg hbad2] at hma
                  refine ⟨⟨(j + 1, m2.set (l.getD j (0, 0)).2.toNat (tgtF (b.getD kk.toNat (0, [])).2 (l.getD j (0, 0)).1)), hj2, hmI2.set _ htl, by rw [hble] at hma ⊢; exact hma⟩, by simp only; omega, ent_match [(3, .nm 3), (5, .nm 5), (20, .nm 20)] rfl rfl ?_ ?_⟩
                  · first | exact eN | refine eM ?_
                  · first | exact eN | refine eM ?_
                · omega
                · have hj2 : j = l.length := by omega
                  subst hj2
                  rw [List.drop_length] at hma
                  have hma : some m2 = mapArcs bl l m := by rw [← hble]; exact hma
                  rw [← hma] at hmn
                  refine ⟨⟨(i + 1, m2), hi2, hmI2, hmn⟩, by simp only; omega, ent_match [(3, .nm 3), (5, .nm 5), (20, .nm 20)] rfl rfl ?_ ?_⟩
                  · first | exact eN | refine eM ?_
                  · first | exact eN | refine eM ?_
            · have hi2 : i = a.length := by exact eV
              subst hi2
              rw [List.drop_length] at hmn
              have hmn : some m = mapF (ht, hf) a b := hmn
              refine Ev.ent ?_ (ent_frz [20] (by simp only [go_sem, Nat.reduceEqDiff, reduceCtorEq, Nat.reduceAdd, Nat.reduceSub, Nat.reduceMul, Nat.reduceLeDiff, Nat.reduceLT, Int.reduceLE, Int.reduceToNat, Int.reduceNeg, ↓reduceIte]; rfl) (fun _ _ h => h))
              exact ev_fin hc [.tmp 6, .tmp 7] rfl (.inl rfl) (by simp) (by rw [← hmn]; first | exact eR | refine eRM ?_; exact List.take_of_length_le (by rw [hml]; exact Nat.le_refl _))
  · first | exact eN | refine eM ?_
  · first | exact eN | refine eM ?_
def gsubF (h : HierD) (a b : List GNode) : Bool := (mapF h a b).isSome
def gsubS : Spec := { ins := [T33, T25, T25], pre := fun (h, a, b, _) => GoodF a ∧ 0 < List.length a ∧ GoodF b ∧ 0 < List.length b ∧ TyOk h a ∧ TyOk h b, out := fun (h, a, b, _) => [.p .bool (gsubF h a b)], lend := true }
theorem gsub_ok : FnOk Tryz.prog 21 gsubS := by
  refine fn_ok Tryz.func21 (by kernel_rfl) rfl Tryz.ntmps21 (by decide) (by kernel_rfl) (tyTab_ok [(50, mapS)]) (fns_cons map_ok fns_nil) ?_
  rintro w0 O0 ⟨⟨ht, hf⟩, a, b, u⟩ hc - hp
  simp only [gsubS, entEnv]
  repeat' (first | exact trivial | refine eS rfl ?_ | refine ev_out_inv ?_ | refine rX [0, 1, 2, 3, 4, 5, 6, 8] hc ?_ ?_ | (refine rC (fun hcond => ?_) (fun hcond => ?_) <;> try (cases hcond; done)))
  · exact hp
  · exact ev_fin hc [.tmp 6] rfl (.inl rfl) (by simp) (by unfold gsubF; first | exact eR | refine eRM ?_)
end
/- Functions of grammarlabref07: Check. -/
section
attribute [local go_sem] canonS equalS
def ftR (h : HierD) (a : Int × Int) : Bool := decide (a.1 < (h.2.length : Int))
def ndR (h : HierD) (x : GNode) : Bool := decide (x.1 < (h.1.length : Int)) && x.2.all (ftR h)
def check7F (h : HierD) (f : List GNode) : Int := if (canonF f).2 ≠ 0 then (canonF f).2 else if f.all (ndR h) = false then 2 else if (compareF f (canonF f).1 == 0) = false then 3 else 0
def check7S : Spec := { ins := [T33, T25], pre := fun (_, f, _) => SmallF f, out := fun (h, f, _) => [.p T72 (check7F h f)] }
theorem check7_ok : FnOk Tryz.prog 57 check7S := by
  refine fn_ok Tryz.func57 (by kernel_rfl) rfl Tryz.ntmps57 (by decide) (by kernel_rfl) (tyTab_ok [(52, canonS), (19, equalS)]) (fns_cons canon_ok (fns_cons equal_ok fns_nil)) ?_
  rintro w0 O0 ⟨⟨ht, hf⟩, f, u⟩ hc - hs
  have hs : SmallF f := hs
  simp only [check7S, entEnv]
  repeat' (first | exact trivial | refine eS rfl ?_ | refine ev_out_inv ?_ | refine rX [0, 1, 2, 3, 4, 5, 6, 7, 8, 9, 16, 22, 35, 40, 52, 56] hc ?_ ?_ | (refine rC (fun hcond => ?_) (fun hcond => ?_) <;> try (cases hcond; done)))
  · exact hs.2
  · have h1 : check7F (ht, hf) f = (canonF f).2 := by unfold check7F; rw [if_pos hcond]
    exact ev_fin hc [.tmp 4] rfl (.inl rfl) (by simp) (by rw [h1]; first | exact eR | refine eRM ?_)
  · have hz : (canonF f).2 = 0 := by simpa using hcond
    have hsc := small_canon hs.2
    have hfl := hs.1
    have hr : check7F (ht, hf) f = if f.all (ndR (ht, hf)) = false then 2 else if (compareF f (canonF f).1 == 0) = false then 3 else 0 := by unfold check7F; rw [if_neg (by rw [hz]; simp)]
    refine ev_loop (ι := {i : Nat // i ≤ f.length ∧ (f.take i).all (ndR (ht, hf)) = true}) (fun i => ⟨[(2, .bp 2 [] 0), (3, .bp 3 [] 0), (5, .bp 5 [] 0), (7, .p (.int .i64) (i.1 : Int))], [(2, .box 33 true [.p T30 ht, .p T31 hf]), (3, .box 25 true [.p T23 f]), (5, .box 25 true [.p T23 (canonF f).1])]⟩) (fun i => f.length - i.1) ⟨0, by simp⟩ (ent_match [(2, .nm 2), (3, .nm 3), (5, .nm 5)] rfl rfl ?_ ?_) (fun i => ?_)
    · first | exact eN | refine eM ?_
    · first | exact eN | refine eM ?_
    · obtain ⟨i, hi, hall⟩ := i
      have hsn := fun h : i < f.length => all_take1 f (0, []) (ndR (ht, hf)) h
      simp only
      repeat' (first | exact trivial | refine eS rfl ?_ | refine ev_out_inv ?_ | refine rX [0, 1, 2, 3, 4, 5, 6, 7, 8, 9, 16, 22, 35, 40, 52, 56] hc ?_ ?_ | (refine rC (fun hcond => ?_) (fun hcond => ?_) <;> try (cases hcond; done)))
      · exact hcond
      · have hif : i < f.length := Int.ofNat_lt.1 (by assumption)
        have e : f.all (ndR (ht, hf)) = false := by
          rw [List.all_eq_false]
          refine ⟨_, mem_of_take_succ f (0, []) hif, ?_⟩
          unfold ndR
          rw [decide_eq_false (Int.not_lt.2 hcond)]
          simp
        rw [if_pos e] at hr
        exact ev_fin hc [.tmp 4] rfl (.inl rfl) (by simp) (by rw [hr]; first | exact eR | refine eRM ?_)
      · have hif : i < f.length := Int.ofNat_lt.1 (by assumption)
        have hm := mem_of_take_succ f (0, []) hif
        have hnd : ndR (ht, hf) (f.getD i (0, [])) = (f.getD i (0, [])).2.all (ftR (ht, hf)) := by
          unfold ndR
          rw [decide_eq_true (show (f.getD i (0, [])).1 < (ht.length : Int) from hcond)]
          rfl
        have hal : (f.getD i (0, [])).2.length ≤ 100000 := hs.2 _ hm
        refine ev_loop (ι := {k : Nat // k ≤ (f.getD i (0, [])).2.length ∧ ((f.getD i (0, [])).2.take k).all (ftR (ht, hf)) = true}) (fun k => ⟨[(2, .bp 2 [] 0), (3, .bp 3 [] 0), (5, .bp 5 [] 0), (7, .p (.int .i64) (i : Int)), (8, .bp 8 [] 0), (9, .p (.int .i64) (k.1 : Int))], [(2, .box 33 true [.p T30 ht, .p T31 hf]), (3, .box 25 true [.p T23 f]), (5, .box 25 true [.p T23 (canonF f).1]), (8, .box 45 true [.p T3 (f.getD i (0, [])).1, .p T43 (f.getD i (0, [])).2])]⟩) (fun k => (f.getD i (0, [])).2.length - k.1) ⟨0, by simp⟩ (ent_match [(2, .nm 2), (3, .nm 3), (5, .nm 5), (8, .nm 8)] rfl rfl ?_ ?_) (fun k => ?_)
        · first | exact eN | refine eM ?_
        · first | exact eN | refine eM ?_
        · obtain ⟨k, hk, hall2⟩ := k
          have hsn2 := fun h : k < (f.getD i (0, [])).2.length => all_take1 (f.getD i (0, [])).2 (0, 0) (ftR (ht, hf)) h
          simp only
          repeat' (first | exact trivial | refine eS rfl ?_ | refine ev_out_inv ?_ | refine rX [0, 1, 2, 3, 4, 5, 6, 7, 8, 9, 16, 22, 35, 40, 52, 56] hc ?_ ?_ | (refine rC (fun hcond => ?_) (fun hcond => ?_) <;> try (cases hcond; done)))
          · exact hcond
          · have hkL : k < (f.getD i (0, [])).2.length := Int.ofNat_lt.1 (by assumption)
            have e : f.all (ndR (ht, hf)) = false := by
              rw [List.all_eq_false]
              refine ⟨_, hm, ?_⟩
              rw [hnd, List.all_eq_false.2 ⟨_, mem_of_take_succ (f.getD i (0, [])).2 (0, 0) hkL, by unfold ftR; rw [decide_eq_false (Int.not_lt.2 hcond)]; simp⟩]
              simp
            rw [if_pos e] at hr
            exact ev_fin hc [.tmp 4] rfl (.inl rfl) (by simp) (by rw [hr]; first | exact eR | refine eRM ?_)
          · exact eV
          · have hkL : k < (f.getD i (0, [])).2.length := Int.ofNat_lt.1 (by assumption)
            refine ⟨⟨k + 1, hkL, ?_⟩, by simp only; omega, ent_match [(2, .nm 2), (3, .nm 3), (5, .nm 5), (8, .nm 8)] rfl rfl ?_ ?_⟩
            · rw [hsn2 hkL, hall2]
              unfold ftR
              exact decide_eq_true hcond
            · first | exact eN | refine eM ?_
            · first | exact eN | refine eM ?_
          · exact eV
          · have hkL : (f.getD i (0, [])).2.take k = (f.getD i (0, [])).2 := List.take_of_length_le (Int.ofNat_le.1 hcond)
            rw [hkL] at hall2
            refine ⟨⟨i + 1, hif, ?_⟩, by simp only; omega, ent_match [(2, .nm 2), (3, .nm 3), (5, .nm 5)] rfl rfl ?_ ?_⟩
            · rw [hsn hif, hall, hnd, hall2]
              rfl
            · first | exact eN | refine eM ?_
            · first | exact eN | refine eM ?_
      · exact ⟨hs, hsc⟩
      · have hif : f.take i = f := List.take_of_length_le (Int.ofNat_le.1 (by assumption))
        rw [hif] at hall
        rw [if_neg (by rw [hall]; simp), if_pos (by simpa using hcond)] at hr
        exact ev_fin hc [.tmp 4] rfl (.inl rfl) (by simp) (by rw [hr]; first | exact eR | refine eRM ?_)
      · have hif : f.take i = f := List.take_of_length_le (Int.ofNat_le.1 (by assumption))
        rw [hif] at hall
        rw [if_neg (by rw [hall]; simp), if_neg (by rw [hcond]; simp)] at hr
        exact ev_fin hc [.tmp 4] rfl (.inl rfl) (by simp) (by rw [hr]; first | exact eR | refine eRM ?_)
end
/- Functions of grammarlabref15: Valid. -/
section
attribute [local go_sem] lightS check7S
def validB (h : HierD) (f : List GNode) : Bool := lightF f && check7F h f == 0
def validS : Spec := { ins := [T33, T25], pre := fun _ => True, out := fun (h, f, _) => [.p .bool (validB h f)], lend := true }
theorem valid_ok : FnOk Tryz.prog 31 validS := by
  refine fn_ok Tryz.func31 (by kernel_rfl) rfl Tryz.ntmps31 (by decide) (by kernel_rfl) (tyTab_ok [(51, lightS), (57, check7S)]) (fns_cons light_ok (fns_cons check7_ok fns_nil)) ?_
  rintro w0 O0 ⟨⟨ht, hf⟩, f, u⟩ hc - -
  simp only [validS, entEnv]
  repeat' (first | exact trivial | refine eS rfl ?_ | refine ev_out_inv ?_ | refine rX [0, 1, 2, 3, 4] hc ?_ ?_ | (refine rC (fun hcond => ?_) (fun hcond => ?_) <;> try (cases hcond; done)))
  · intro h
    obtain ⟨h1, h2⟩ := light_small h
    exact ⟨Nat.le_trans h1 (by decide), fun x hx => Nat.le_trans (h2 x hx) (by decide)⟩
  · exact ev_fin hc [.tmp 4] rfl (.inl rfl) (by simp) (by unfold validB; first | exact eR | refine eRM ?_)
end
/- Plain: structures that differ in their nodes' names alone have one canonical form; a part of a part is a part. -/
section
theorem dfs_more {f : List GNode} (hf : GoodF f) : ∀ (k : Nat) (o : List Int) (n : Int), DOk f o → 0 ≤ n → n < f.length → n ∉ o → f.length - o.length ≤ k → dfs f (k + 1) o n = dfs f k o n
  | 0, o, n, h, h0, h1, h2, hk => by
    have := (h.snoc h0 h1 h2).len
    simp only [List.length_append, List.length_singleton] at this
    omega
  | k + 1, o, n, h, h0, h1, h2, hk => by
    rw [dfs_succ, dfs_succ]
    have key : ∀ (l : List (Int × Int)) (t : List Int), (∀ a ∈ l, 0 ≤ a.2 ∧ a.2 < (f.length : Int)) → DOk f t → f.length - t.length ≤ k → l.foldl (stepD f (k + 1)) t = l.foldl (stepD f k) t := by
      intro l
      induction l with
      | nil => intros; rfl
      | cons a l ih =>
        intro t hl ht hlen
        have hq := hl a (by simp)
        have hs : stepD f (k + 1) t a = stepD f k t a := by
          unfold stepD
          split
          · rfl
          · rename_i hn
            exact dfs_more hf k t a.2 ht hq.1 hq.2 hn hlen
        have h3 : DOk f (stepD f k t a) ∧ t <+: stepD f k t a := by
          unfold stepD
          split
          · exact ⟨ht, List.prefix_refl _⟩
          · rename_i hn
            exact dfs_ok hf k t a.2 ht hq.1 hq.2 hn
        rw [List.foldl_cons, List.foldl_cons, hs]
        have := h3.2.length_le
        exact ih _ (fun b hb => hl b (by simp [hb])) h3.1 (by omega)
    exact key _ _ (fun a ha => arcs_in' hf ha) (h.snoc h0 h1 h2) (by simp only [List.length_append, List.length_singleton]; omega)
theorem dOk_nil (f : List GNode) : DOk f [] := ⟨by simp, fun x hx => by cases hx⟩
theorem dfs_fuel {f : List GNode} (hf : GoodF f) {n : Int} (h0 : 0 ≤ n) (h1 : n < f.length) : ∀ m, dfs f (f.length + m) [] n = dfs f f.length [] n
  | 0 => rfl
  | m + 1 => by
    rw [← Nat.add_assoc, dfs_more hf _ [] n (dOk_nil f) h0 h1 (by simp) (by simp only [List.length_nil]; omega)]
    exact dfs_fuel hf h0 h1 m
/-- R bears, at the names ψ, what Q bears. -/
structure Iso (Q R : List GNode) (ψ : Int → Int) (C : Int → Prop) : Prop where
  arc : ∀ i, C i → arcsAt R (ψ i) = (arcsAt Q i).map fun a => (a.1, ψ a.2)
  cl : ∀ i, C i → ∀ a ∈ arcsAt Q i, C a.2
  inj : ∀ i j, C i → C j → ψ i = ψ j → i = j
theorem dfs_iso {Q R : List GNode} {ψ : Int → Int} {C : Int → Prop} (h : Iso Q R ψ C) : ∀ (k : Nat) (t : List Int) (i : Int), (∀ x ∈ t, C x) → C i → dfs R k (t.map ψ) (ψ i) = (dfs Q k t i).map ψ ∧ ∀ x ∈ dfs Q k t i, C x
  | 0, t, i, ht, hi => ⟨rfl, ht⟩
  | k + 1, t, i, ht, hi => by
    have key : ∀ (l : List (Int × Int)) (t : List Int), (∀ a ∈ l, C a.2) → (∀ x ∈ t, C x) →
        (l.map fun a => (a.1, ψ a.2)).foldl (stepD R k) (t.map ψ) = (l.foldl (stepD Q k) t).map ψ ∧ ∀ x ∈ l.foldl (stepD Q k) t, C x := by
      intro l
      induction l with
      | nil => intro t _ ht; exact ⟨rfl, ht⟩
      | cons a l ih =>
        intro t hl ht
        have ha := hl a (by simp)
        have hs : stepD R k (t.map ψ) (a.1, ψ a.2) = (stepD Q k t a).map ψ ∧ ∀ x ∈ stepD Q k t a, C x := by
          unfold stepD
          by_cases hm : a.2 ∈ t
          · rw [if_pos hm, if_pos (List.mem_map.2 ⟨_, hm, rfl⟩)]
            exact ⟨rfl, ht⟩
          · have hm2 : ¬ ψ a.2 ∈ t.map ψ := by
              intro hh
              obtain ⟨x, hx, e⟩ := List.mem_map.1 hh
              exact hm (h.inj x a.2 (ht x hx) ha e ▸ hx)
            rw [if_neg hm]
            simp only [if_neg hm2]
            exact dfs_iso h k t a.2 ht ha
        rw [List.map_cons, List.foldl_cons, List.foldl_cons, hs.1]
        exact ih _ (fun b hb => hl b (by simp [hb])) hs.2
    rw [dfs_succ, dfs_succ]
    have e : t.map ψ ++ [ψ i] = (t ++ [i]).map ψ := by simp
    have ea : (R.getD (ψ i).toNat (0, [])).2 = (arcsAt Q i).map fun a => (a.1, ψ a.2) := h.arc i hi
    rw [ea, e]
    refine key _ _ (h.cl i hi) fun x hx => ?_
    rcases List.mem_append.1 hx with hx | hx
    · exact ht x hx
    · have : x = i := by simpa using hx
      rw [this]; exact hi
theorem idxZ_map {o : List Int} {ψ : Int → Int} {x : Int} (h : ∀ y ∈ o, ψ y = ψ x → y = x) : idxZ (o.map ψ) (ψ x) = idxZ o x := by
  have hi : (o.map ψ).idxOf (ψ x) = o.idxOf x := by
    induction o with
    | nil => rfl
    | cons y o ih =>
      rw [List.map_cons, List.idxOf_cons, List.idxOf_cons]
      have hy := h y (by simp)
      by_cases e : y = x
      · subst e; simp
      · have e2 : ¬ ψ y = ψ x := fun hh => e (hy hh)
        have b1 : (y == x) = false := by simpa using e
        have b2 : (ψ y == ψ x) = false := by simpa using e2
        rw [b1, b2, ih (fun z hz => h z (by simp [hz]))]
  unfold idxZ
  by_cases hm : x ∈ o
  · rw [if_pos hm, if_pos (List.mem_map.2 ⟨x, hm, rfl⟩), hi]
  · rw [if_neg hm, if_neg]
    intro hh
    obtain ⟨y, hy, e⟩ := List.mem_map.1 hh
    exact hm (h y hy e ▸ hy)
theorem canonical_iso {Q R : List GNode} {ψ : Int → Int} {C : Int → Prop} (h : Iso Q R ψ C) (hQ : GoodF Q) (hC0 : C 0) (h0 : ψ 0 = 0) (hQ0 : 0 < Q.length) (hlen : Q.length ≤ R.length)
    (hty : ∀ i, C i → (R.getD (ψ i).toNat (0, [])).1 = (Q.getD i.toNat (0, [])).1) : canonicalF R 0 = canonicalF Q 0 := by
  have hd : dfs R R.length [] 0 = (dfs Q Q.length [] 0).map ψ ∧ ∀ x ∈ dfs Q Q.length [] 0, C x := by
    have h1 := dfs_iso h R.length [] 0 (fun x hx => by cases hx) hC0
    rw [h0] at h1
    have h2 := dfs_fuel hQ (n := 0) (by omega) (by omega) (R.length - Q.length)
    rw [show Q.length + (R.length - Q.length) = R.length by omega] at h2
    rw [h2] at h1
    exact h1
  unfold canonicalF
  rw [hd.1]
  generalize dfs Q Q.length [] 0 = o at *
  rw [List.map_map]
  refine List.map_congr_left fun i hi => ?_
  have hci := hd.2 i hi
  show nodeD R (o.map ψ) (ψ i) = nodeD Q o i
  unfold nodeD
  have ea : (R.getD (ψ i).toNat (0, [])).2 = (arcsAt Q i).map fun a => (a.1, ψ a.2) := h.arc i hci
  rw [hty i hci, ea, List.map_map]
  refine congrArg _ (List.map_congr_left fun a ha => ?_)
  show (a.1, idxZ (o.map ψ) (ψ a.2)) = (a.1, idxZ o a.2)
  rw [idxZ_map fun y hy e => h.inj y a.2 (hd.2 y hy) (h.cl i hci a ha) e]
/-! Nodes come to -/
structure Ord (f : List GNode) (o : List Int) : Prop where
  ok : DOk f o
  zero : o.getD 0 0 = 0 ∧ 0 < o.length
  cl : ∀ n ∈ o, ∀ a ∈ arcsAt f n, a.2 ∈ o
theorem dfs_head {f : List GNode} (hf : GoodF f) (h0 : 0 < f.length) : [0] <+: dfs f f.length [] 0 := by
  obtain ⟨k, hk⟩ : ∃ k, f.length = k + 1 := ⟨f.length - 1, by omega⟩
  rw [hk, dfs_succ]
  exact (foldD_ok (dfs_ok hf k) _ _ (fun a ha => arcs_in' hf ha) ((dOk_nil f).snoc (by omega) (by omega) (by simp))).2
theorem ord_of {f : List GNode} (hf : GoodF f) (h0 : 0 < f.length) : Ord f (dfs f f.length [] 0) := by
  have h1 := dfs_ok hf f.length [] 0 (dOk_nil f) (by omega) (by omega) (by simp)
  have h2 := dfs_closed hf f.length [] 0 (dOk_nil f) (by omega) (by omega) (by simp) (by simp)
  have h3 := dfs_head hf h0
  refine ⟨h1.1, ?_, fun n hn a ha => ?_⟩
  · obtain ⟨t, ht⟩ := h3
    rw [← ht]
    exact ⟨rfl, by simp⟩
  · rcases h2.2 n hn with h | h
    · cases h
    · exact h a ha
theorem Ord.mem0 {f : List GNode} {o : List Int} (h : Ord f o) : (0 : Int) ∈ o := by
  have := getD_mem' (l := o) (d := 0) h.zero.2
  rw [h.zero.1] at this
  exact this
where
  getD_mem' {l : List Int} {d : Int} {k : Nat} (h : k < l.length) : l.getD k d ∈ l := by
    rw [List.getD_eq_getElem?_getD, List.getElem?_eq_getElem h]
    exact List.getElem_mem h
theorem idxZ_get {o : List Int} (hn : o.Nodup) {i : Nat} (hi : i < o.length) : idxZ o (o.getD i 0) = (i : Int) := by
  have e : o.getD i 0 = o[i] := by rw [List.getD_eq_getElem?_getD, List.getElem?_eq_getElem hi]; rfl
  rw [e]
  unfold idxZ
  rw [if_pos (List.getElem_mem hi), hn.idxOf_getElem i hi]
theorem get_idxZ {o : List Int} {x : Int} (h : x ∈ o) : 0 ≤ idxZ o x ∧ idxZ o x < (o.length : Int) ∧ o.getD (idxZ o x).toNat 0 = x := by
  unfold idxZ
  rw [if_pos h]
  have hl := List.idxOf_lt_length_of_mem h
  refine ⟨by omega, by omega, ?_⟩
  rw [Int.toNat_natCast, List.getD_eq_getElem?_getD, List.getElem?_eq_getElem hl]
  show o[o.idxOf x] = x
  exact List.getElem_idxOf hl
theorem canon_len (f : List GNode) : (canonicalF f 0).length = (dfs f f.length [] 0).length := by simp [canonicalF]
theorem canon_get {f : List GNode} {i : Nat} (hi : i < (dfs f f.length [] 0).length) : (canonicalF f 0).getD i (0, []) = nodeD f (dfs f f.length [] 0) ((dfs f f.length [] 0).getD i 0) := by
  unfold canonicalF
  simp [List.getD_eq_getElem?_getD, hi]
theorem canon_good {f : List GNode} (hf : GoodF f) (hs : SrtF f) (h0 : 0 < f.length) : GoodF (canonicalF f 0) ∧ SrtF (canonicalF f 0) ∧ 0 < (canonicalF f 0).length ∧ (canonicalF f 0).length ≤ f.length := by
  have ho := ord_of hf h0
  have hl := ho.ok.len
  have hcl := canon_len f
  refine ⟨⟨by rw [hcl]; exact Nat.le_trans hl hf.1, fun x hx => ?_⟩, fun x hx => ?_, by rw [hcl]; exact ho.zero.2, by rw [hcl]; exact hl⟩
  · rw [hcl]
    unfold canonicalF at hx
    obtain ⟨n, hn, rfl⟩ := List.mem_map.1 hx
    refine ⟨?_, fun a ha => ?_⟩
    · unfold nodeD
      rw [List.length_map]
      have := (srt_of hs n).2
      omega
    · unfold nodeD at ha
      obtain ⟨b, hb, rfl⟩ := List.mem_map.1 ha
      have := get_idxZ (ho.cl n hn b hb)
      exact ⟨this.1, this.2.1⟩
  · unfold canonicalF at hx
    obtain ⟨n, hn, rfl⟩ := List.mem_map.1 hx
    have h1 := srt_of hs n
    unfold nodeD
    refine ⟨?_, by rw [List.length_map]; exact h1.2⟩
    rw [srtA_iff, List.pairwise_map]
    exact (srtA_iff _).1 h1.1
theorem part_get (acc : Int → Int × Int → Bool) {f : List GNode} {n : Int} (h0 : 0 ≤ n) (h1 : n < f.length) : (partL acc f f.length).getD n.toNat (0, []) = ((f.getD n.toNat (0, [])).1, (arcsAt f n).filter (acc n)) := by
  have hn : n.toNat < f.length := by omega
  have e : ((n.toNat : Nat) : Int) = n := by omega
  unfold partL
  simp only [List.getD_eq_getElem?_getD, List.getElem?_map, List.getElem?_range hn, Option.map_some, Option.getD_some, partN]
  rw [e]
  rfl
/-- A part of a part's canonical form. -/
def acc2 (f : List GNode) (acc bcc : Int → Int × Int → Bool) (n : Int) (a : Int × Int) : Bool :=
  acc n a && bcc (idxZ (dfs (partL acc f f.length) f.length [] 0) n) (renD (dfs (partL acc f f.length) f.length [] 0) a)
theorem part_part {f : List GNode} (hf : GoodF f) (hs : SrtF f) (h0 : 0 < f.length) (acc bcc : Int → Int × Int → Bool) : partF bcc (partF acc f) = partF (acc2 f acc bcc) f := by
  obtain ⟨hPg, hPs⟩ := part_good hf hs acc
  have hPl := partL_len acc f f.length
  have hP0 : 0 < (partL acc f f.length).length := by omega
  have ho := ord_of hPg hP0
  obtain ⟨hcg, hcs, hc0, hcl⟩ := canon_good hPg hPs hP0
  have hlen := canon_len (partL acc f f.length)
  have hget := fun i => canon_get (f := partL acc f f.length) (i := i)
  obtain ⟨hQg, hQs⟩ := part_good hcg hcs bcc
  have hQl := partL_len bcc (partF acc f) (partF acc f).length
  have hR := part_good hf hs (acc2 f acc bcc)
  have hRl := partL_len (acc2 f acc bcc) f f.length
  have hacc : ∀ n a, acc2 f acc bcc n a = (acc n a && bcc (idxZ (dfs (partL acc f f.length) (partL acc f f.length).length [] 0) n) (renD (dfs (partL acc f f.length) (partL acc f f.length).length [] 0) a)) := by
    intro n a
    rw [hPl]
    rfl
  have hpf : partF acc f = canonicalF (partL acc f f.length) 0 := rfl
  rw [hpf] at hQl ⊢
  generalize hod : dfs (partL acc f f.length) (partL acc f f.length).length [] 0 = o at *
  generalize hcd : canonicalF (partL acc f f.length) 0 = c at *
  have hob := fun i (h : i < o.length) => ho.ok.rng (o.getD i 0) (by
    rw [List.getD_eq_getElem?_getD, List.getElem?_eq_getElem h]
    exact List.getElem_mem h)
  show canonicalF (partL bcc c c.length) 0 = canonicalF (partL (acc2 f acc bcc) f f.length) 0
  symm
  have hnode : ∀ i : Int, 0 ≤ i → i < (o.length : Int) → o.getD i.toNat 0 ∈ o ∧ 0 ≤ o.getD i.toNat 0 ∧ o.getD i.toNat 0 < (f.length : Int) ∧ idxZ o (o.getD i.toNat 0) = i := by
    intro i g0 g1
    have hi : i.toNat < o.length := by omega
    have hm : o.getD i.toNat 0 ∈ o := by
      rw [List.getD_eq_getElem?_getD, List.getElem?_eq_getElem hi]
      exact List.getElem_mem hi
    have hr := ho.ok.rng _ hm
    have hx := idxZ_get ho.ok.nd hi
    exact ⟨hm, hr.1, by have := hr.2; rw [hPl] at this; exact this, by rw [hx]; omega⟩
  have hcget : ∀ i : Int, 0 ≤ i → i < (o.length : Int) → c.getD i.toNat (0, []) = ((f.getD (o.getD i.toNat 0).toNat (0, [])).1, ((arcsAt f (o.getD i.toNat 0)).filter (acc (o.getD i.toNat 0))).map (renD o)) := by
    intro i g0 g1
    obtain ⟨hm, hn0, hn1, -⟩ := hnode i g0 g1
    rw [hget i.toNat (by omega)]
    unfold nodeD
    rw [part_get acc hn0 hn1]
  refine canonical_iso (ψ := fun i => o.getD i.toNat 0) (C := fun i => 0 ≤ i ∧ i < (o.length : Int)) ⟨?_, ?_, ?_⟩ hQg ⟨by omega, by have := ho.zero.2; omega⟩ ho.zero.1 (by omega) (by omega) ?_
  · rintro i ⟨g0, g1⟩
    obtain ⟨hm, hn0, hn1, hix⟩ := hnode i g0 g1
    show ((partL (acc2 f acc bcc) f f.length).getD (o.getD i.toNat 0).toNat (0, [])).2 = ((partL bcc c c.length).getD i.toNat (0, [])).2.map _
    rw [part_get _ hn0 hn1, part_get bcc g0 (by omega)]
    show (arcsAt f (o.getD i.toNat 0)).filter (acc2 f acc bcc (o.getD i.toNat 0)) = ((arcsAt c i).filter (bcc i)).map fun a => (a.1, o.getD a.2.toNat 0)
    have hca : arcsAt c i = ((arcsAt f (o.getD i.toNat 0)).filter (acc (o.getD i.toNat 0))).map (renD o) := by rw [arcsAt, hcget i g0 g1]
    have hcl2 : ∀ a ∈ (arcsAt f (o.getD i.toNat 0)).filter (acc (o.getD i.toNat 0)), a.2 ∈ o := by
      intro a ha
      refine ho.cl _ hm a ?_
      rw [arcsAt, part_get acc hn0 hn1]
      exact ha
    have hfun : (acc2 f acc bcc (o.getD i.toNat 0)) = fun a => acc (o.getD i.toNat 0) a && bcc i (renD o a) := by
      funext a
      rw [hacc, hix]
    rw [hca, hfun]
    generalize arcsAt f (o.getD i.toNat 0) = l at *
    rw [List.filter_map, List.map_map]
    have e1 : l.filter (fun a => acc (o.getD i.toNat 0) a && bcc i (renD o a)) = (l.filter (acc (o.getD i.toNat 0))).filter (bcc i ∘ renD o) := by
      rw [List.filter_filter]
      refine List.filter_congr fun a _ => ?_
      simp only [Function.comp]
      rw [Bool.and_comm]
    rw [e1]
    have e2 : ∀ a ∈ (l.filter (acc (o.getD i.toNat 0))).filter (bcc i ∘ renD o), ((fun a : Int × Int => (a.1, o.getD a.2.toNat 0)) ∘ renD o) a = a := by
      intro a ha
      have := get_idxZ (hcl2 a (List.mem_filter.1 ha).1)
      show (a.1, o.getD (idxZ o a.2).toNat 0) = a
      rw [this.2.2]
    rw [List.map_congr_left (g := id) e2, List.map_id]
  · rintro i ⟨g0, g1⟩ a ha
    have := arcs_in' hQg ha
    rw [hQl] at this
    exact ⟨this.1, by omega⟩
  · rintro i j ⟨g0, g1⟩ ⟨g2, g3⟩ e
    have h1 := (hnode i g0 g1).2.2.2
    have h2 := (hnode j g2 g3).2.2.2
    have e : o.getD i.toNat 0 = o.getD j.toNat 0 := e
    rw [e, h2] at h1
    exact h1.symm
  · rintro i ⟨g0, g1⟩
    obtain ⟨hm, hn0, hn1, -⟩ := hnode i g0 g1
    rw [part_get _ hn0 hn1, part_get bcc g0 (by omega), hcget i g0 g1]
theorem part_congr {f : List GNode} (hf : GoodF f) (hs : SrtF f) (h0 : 0 < f.length) {acc bcc : Int → Int × Int → Bool} (h : ∀ n ∈ dfs (partL acc f f.length) f.length [] 0, ∀ a ∈ arcsAt f n, bcc n a = acc n a) : partF bcc f = partF acc f := by
  obtain ⟨hPg, hPs⟩ := part_good hf hs acc
  have hPl := partL_len acc f f.length
  have hRl := partL_len bcc f f.length
  have hP0 : 0 < (partL acc f f.length).length := by omega
  have ho := ord_of hPg hP0
  rw [hPl] at ho
  have hr : ∀ n ∈ dfs (partL acc f f.length) f.length [] 0, 0 ≤ n ∧ n < (f.length : Int) := fun n hn => by
    have := ho.ok.rng n hn
    rw [hPl] at this
    exact this
  have hpa : ∀ n ∈ dfs (partL acc f f.length) f.length [] 0, (partL bcc f f.length).getD n.toNat (0, []) = (partL acc f f.length).getD n.toNat (0, []) := by
    intro n hn
    obtain ⟨g0, g1⟩ := hr n hn
    rw [part_get _ g0 g1, part_get _ g0 g1]
    exact congrArg _ (List.filter_congr fun a ha => h n hn a ha)
  unfold partF
  refine canonical_iso (ψ := id) (C := fun i => i ∈ dfs (partL acc f f.length) f.length [] 0) ⟨?_, ho.cl, fun i j _ _ e => e⟩ hPg ho.mem0 rfl hP0 (by omega) ?_
  · intro i hi
    show ((partL bcc f f.length).getD i.toNat (0, [])).2 = _
    rw [hpa i hi]
    simp [arcsAt]
  · intro i hi
    show ((partL bcc f f.length).getD i.toNat (0, [])).1 = _
    rw [hpa i hi]
theorem part_good2 {f : List GNode} (hf : GoodF f) (hs : SrtF f) (h0 : 0 < f.length) (acc : Int → Int × Int → Bool) : GoodF (partF acc f) ∧ SrtF (partF acc f) ∧ 0 < (partF acc f).length ∧ (partF acc f).length ≤ f.length := by
  obtain ⟨hPg, hPs⟩ := part_good hf hs acc
  have hPl := partL_len acc f f.length
  have := canon_good hPg hPs (by omega)
  rw [hPl] at this
  exact this
theorem inF_app (A B : List Int) (x : Int) : inF (A ++ B) x = (inF A x || inF B x) := by unfold inF; rw [List.any_append]
theorem pdrop_twice {f : List GNode} (hf : GoodF f) (hs : SrtF f) (h0 : 0 < f.length) (A B : List Int) : pdropF (pdropF f A) B = pdropF f (A ++ B) ∧ pdropF (pdropF f B) A = pdropF f (A ++ B) := by
  unfold pdropF
  rw [part_part hf hs h0, part_part hf hs h0]
  have key : ∀ A B : List Int, acc2 f (accD (goneF A)) (accD (goneF B)) = fun _ a => !(inF A a.1 || inF B a.1) := by
    intro A B
    funext n a
    show (!((mfind T3 .bool a.1 (goneF A)).getD false) && !((mfind T3 .bool a.1 (goneF B)).getD false)) = _
    rw [gone_in, gone_in, Bool.not_or]
  have kab : accD (goneF (A ++ B)) = fun _ a => !(inF A a.1 || inF B a.1) := by
    funext n a
    unfold accD
    rw [gone_in, inF_app]
  rw [key, key, kab]
  refine ⟨rfl, ?_⟩
  congr 1
  funext n a
  rw [Bool.or_comm]
end
/- Plain: what Keep keeps; Keep twice is Keep. -/
section
theorem kpF_fwd {f : List GNode} {e y : Int} (hx : 0 ≤ toF (arcsAt f y) e) (q : List Int) : ∀ (p : List Int) (m : KMap) (n : Int), walkF f n p = some y → has (kpF f m n (p ++ e :: q)) (y, e)
  | [], m, n, h => by
    simp only [walkF, Option.some.injEq] at h
    subst h
    simp only [List.nil_append, kpF]
    rw [if_neg (fun h => by have hx' : 0 ≤ toF (f.getD n.toNat (0, [])).2 e := hx; omega)]
    refine kpF_mono q _ _ ?_
    unfold has
    rw [kfind_mput]
    simp
  | z :: p, m, n, h => by
    simp only [walkF, List.cons_append, kpF] at h ⊢
    split at h
    · cases h
    · rename_i hc
      rw [if_neg hc]
      exact kpF_fwd hx q p _ _ h
theorem kpF_bwd {f : List GNode} {e y : Int} : ∀ (p : List Int) (m : KMap) (n : Int), has (kpF f m n p) (y, e) → has m (y, e) ∨ ∃ p1 q, p = p1 ++ e :: q ∧ walkF f n p1 = some y ∧ 0 ≤ toF (arcsAt f y) e
  | [], m, n, h => .inl h
  | x :: r, m, n, h => by
    simp only [kpF] at h
    split at h
    · exact .inl h
    · rename_i hc
      rcases kpF_bwd r _ _ h with h | ⟨p1, q, e1, e2, e3⟩
      · unfold has at h
        rw [kfind_mput, Bool.or_eq_true, decide_eq_true_eq] at h
        rcases h with h | h
        · right
          have h1 := (Prod.mk.inj h).1
          have h2 := (Prod.mk.inj h).2
          subst h1
          subst h2
          exact ⟨[], r, rfl, rfl, by show 0 ≤ toF (f.getD y.toNat (0, [])).2 e; omega⟩
        · exact .inl h
      · right
        refine ⟨x :: p1, q, by rw [e1]; rfl, ?_, e3⟩
        simp only [walkF]
        rw [if_neg hc]
        exact e2
/-- The arc e of node y lies on one of the paths. -/
def Kp (f : List GNode) (ps : List (List Int)) (y e : Int) : Prop := ∃ p ∈ ps, ∃ p1 q, p = p1 ++ e :: q ∧ walkF f 0 p1 = some y ∧ 0 ≤ toF (arcsAt f y) e
theorem kept_iff {f : List GNode} {ps : List (List Int)} {y e : Int} : has (keptF f ps) (y, e) ↔ Kp f ps y e := by
  constructor
  · have key : ∀ (l : List (List Int)) (m : KMap), has (l.foldl (fun m p => kpF f m 0 p) m) (y, e) → has m (y, e) ∨ Kp f l y e := by
      intro l
      induction l with
      | nil => intro m h; exact .inl h
      | cons p l ih =>
        intro m h
        rw [List.foldl_cons] at h
        rcases ih _ h with h | ⟨p', hp, r⟩
        · rcases kpF_bwd p m 0 h with h | ⟨p1, q, r⟩
          · exact .inl h
          · exact .inr ⟨p, by simp, p1, q, r⟩
        · exact .inr ⟨p', by simp [hp], r⟩
    intro h
    rcases key ps [] h with h | h
    · cases h
    · exact h
  · rintro ⟨p, hp, p1, q, e1, e2, e3⟩
    refine kept_has ps [] (.inr ⟨p, hp, fun m => ?_⟩)
    rw [e1]
    exact kpF_fwd e3 q p1 m 0 e2
theorem accK_iff {f : List GNode} {ps : List (List Int)} {n : Int} {a : Int × Int} : accK (keptF f ps) n a = true ↔ Kp f ps n a.1 := kept_iff
theorem toF_mem (l : List (Int × Int)) (x : Int) : toF l x = -1 ∨ ∃ a ∈ l, a.1 = x ∧ a.2 = toF l x := by
  have key : ∀ (l : List (Int × Int)) (t : Int), l.foldl (fun t a => if a.1 = x then a.2 else t) t = t ∨ ∃ a ∈ l, a.1 = x ∧ a.2 = l.foldl (fun t a => if a.1 = x then a.2 else t) t := by
    intro l
    induction l with
    | nil => intro t; exact .inl rfl
    | cons b l ih =>
      intro t
      rw [List.foldl_cons]
      by_cases h : b.1 = x
      · rw [if_pos h]
        rcases ih b.2 with e | ⟨a, ha, e⟩
        · exact .inr ⟨b, by simp, h, e.symm⟩
        · exact .inr ⟨a, by simp [ha], e⟩
      · rw [if_neg h]
        rcases ih t with e | ⟨a, ha, e⟩
        · exact .inl e
        · exact .inr ⟨a, by simp [ha], e⟩
  exact key l (-1)
theorem toF_some {l : List (Int × Int)} {x : Int} (h : 0 ≤ toF l x) : ∃ a ∈ l, a.1 = x ∧ a.2 = toF l x := by
  rcases toF_mem l x with e | h1
  · omega
  · exact h1
theorem srt_arcs {f : List GNode} (hs : SrtF f) (n : Int) : (arcsAt f n).Pairwise (fun a b => a.1 < b.1) := (srtA_iff _).1 (srt_of hs n).1
theorem toF_in {f : List GNode} (hs : SrtF f) {n : Int} {a : Int × Int} (ha : a ∈ arcsAt f n) : toF (arcsAt f n) a.1 = a.2 := toF_arc (srt_arcs hs n) ha
/-- The arcs of a part's canonical form. -/
theorem part_arcs {f : List GNode} (hf : GoodF f) (hs : SrtF f) (h0 : 0 < f.length) (acc : Int → Int × Int → Bool) {n : Int} (hn : n ∈ dfs (partL acc f f.length) f.length [] 0) :
    arcsAt (partF acc f) (idxZ (dfs (partL acc f f.length) f.length [] 0) n) = ((arcsAt f n).filter (acc n)).map (renD (dfs (partL acc f f.length) f.length [] 0)) := by
  obtain ⟨hPg, hPs⟩ := part_good hf hs acc
  have hPl := partL_len acc f f.length
  have ho := ord_of hPg (by omega)
  have hg := fun i => canon_get (f := partL acc f f.length) (i := i)
  rw [hPl] at ho hg
  obtain ⟨g0, g1, g2⟩ := get_idxZ hn
  have hr := ho.ok.rng n hn
  rw [hPl] at hr
  show ((partF acc f).getD _ (0, [])).2 = _
  have : partF acc f = canonicalF (partL acc f f.length) 0 := rfl
  rw [this, hg _ (by omega), g2]
  unfold nodeD
  rw [part_get acc hr.1 hr.2]
/-- What a part keeps on a path leads there in its canonical form. -/
theorem part_walk {f : List GNode} (hf : GoodF f) (hs : SrtF f) (h0 : 0 < f.length) (acc : Int → Int × Int → Bool) : ∀ (p : List Int) (y : Int),
    (∀ p1 e q, p = p1 ++ e :: q → ∀ x, walkF f 0 p1 = some x → ∀ a ∈ arcsAt f x, a.1 = e → acc x a = true) → walkF f 0 p = some y →
    y ∈ dfs (partL acc f f.length) f.length [] 0 ∧ walkF (partF acc f) 0 p = some (idxZ (dfs (partL acc f f.length) f.length [] 0) y) := by
  obtain ⟨hPg, hPs⟩ := part_good hf hs acc
  have hPl := partL_len acc f f.length
  have ho := ord_of hPg (by omega)
  obtain ⟨-, hcs, -, -⟩ := part_good2 hf hs h0 acc
  rw [hPl] at ho
  intro p
  induction p using list_snoc_ind with
  | h0 =>
    intro y _ hw
    simp only [walkF, Option.some.injEq] at hw
    subst hw
    refine ⟨ho.mem0, ?_⟩
    simp only [walkF, Option.some.injEq]
    have := idxZ_get ho.ok.nd ho.zero.2
    rw [ho.zero.1] at this
    rw [this]
    rfl
  | h1 p e ih =>
    intro y hk hw
    obtain ⟨x, hx⟩ : ∃ x, walkF f 0 p = some x := by
      cases hh : walkF f 0 p with
      | some x => exact ⟨x, rfl⟩
      | none =>
        exfalso
        have key : ∀ (p : List Int) (n : Int) (z : List Int), walkF f n p = none → walkF f n (p ++ z) = none := by
          intro p
          induction p with
          | nil => intro n z h; cases h
          | cons x p ih =>
            intro n z h
            simp only [walkF, List.cons_append] at h ⊢
            split
            · rfl
            · rename_i hc
              rw [if_neg hc] at h
              exact ih _ z h
        rw [key p 0 [e] hh] at hw
        cases hw
    have hw2 := walkF_snoc f p 0 x e hx
    rw [hw] at hw2
    split at hw2
    · cases hw2
    · rename_i hc
      have hy : y = toF (arcsAt f x) e := Option.some.inj hw2
      obtain ⟨a, ha, e1, e2⟩ := toF_some (l := arcsAt f x) (x := e) (by omega)
      obtain ⟨hxo, hwc⟩ := ih x (fun p1 e' q hp => hk p1 e' (q ++ [e]) (by rw [hp]; simp)) hx
      have hacc := hk p e [] rfl x hx a ha e1
      have hr := ho.ok.rng x hxo
      rw [hPl] at hr
      have hyo : y ∈ dfs (partL acc f f.length) f.length [] 0 := by
        have := ho.cl x hxo a (by rw [arcsAt, part_get acc hr.1 hr.2]; exact List.mem_filter.2 ⟨ha, hacc⟩)
        rw [e2, ← hy] at this
        exact this
      refine ⟨hyo, ?_⟩
      have har := part_arcs hf hs h0 acc hxo
      have hm : renD (dfs (partL acc f f.length) f.length [] 0) a ∈ arcsAt (partF acc f) (idxZ (dfs (partL acc f f.length) f.length [] 0) x) := by
        rw [har]
        exact List.mem_map.2 ⟨a, List.mem_filter.2 ⟨ha, hacc⟩, rfl⟩
      have ht := toF_in hcs hm
      have hws := walkF_snoc (partF acc f) p 0 _ e hwc
      rw [hws]
      have he : (renD (dfs (partL acc f f.length) f.length [] 0) a).1 = e := e1
      rw [he] at ht
      rw [ht]
      have hz : (renD (dfs (partL acc f f.length) f.length [] 0) a).2 = idxZ (dfs (partL acc f f.length) f.length [] 0) y := by
        show idxZ _ a.2 = _
        rw [e2, ← hy]
      rw [hz, if_neg]
      have := (get_idxZ hyo).1
      omega
theorem pkeep_twice {f : List GNode} (hf : GoodF f) (hs : SrtF f) (h0 : 0 < f.length) (ps : List (List Int)) : pkeepF (pkeepF f ps) ps = pkeepF f ps := by
  have hPl := partL_len (accK (keptF f ps)) f f.length
  obtain ⟨-, hcs, -, -⟩ := part_good2 hf hs h0 (accK (keptF f ps))
  have hk : pkeepF (pkeepF f ps) ps = partF (accK (keptF (partF (accK (keptF f ps)) f) ps)) (partF (accK (keptF f ps)) f) := rfl
  rw [hk, part_part hf hs h0]
  refine part_congr hf hs h0 fun n hn a ha => ?_
  unfold acc2
  cases hacc : accK (keptF f ps) n a with
  | false => rfl
  | true =>
    rw [Bool.true_and]
    obtain ⟨p, hp, p1, q, e1, e2, e3⟩ := accK_iff.1 hacc
    rw [accK_iff]
    obtain ⟨-, hw⟩ := part_walk hf hs h0 (accK (keptF f ps)) p1 n (fun p2 e' q' hpp x hx b hb hbe => by
      rw [accK_iff]
      refine ⟨p, hp, p2, q' ++ a.1 :: q, by rw [e1, hpp, ← hbe]; simp, hx, ?_⟩
      rw [toF_in hs hb]
      exact (arcs_in' hf hb).1) e2
    refine ⟨p, hp, p1, q, e1, hw, ?_⟩
    have har := part_arcs hf hs h0 (accK (keptF f ps)) hn
    have hm : renD (dfs (partL (accK (keptF f ps)) f f.length) f.length [] 0) a ∈ arcsAt (partF (accK (keptF f ps)) f) (idxZ (dfs (partL (accK (keptF f ps)) f f.length) f.length [] 0) n) := by
      rw [har]
      exact List.mem_map.2 ⟨a, List.mem_filter.2 ⟨ha, hacc⟩, rfl⟩
    have ht := toF_in hcs hm
    have he : (renD (dfs (partL (accK (keptF f ps)) f f.length) f.length [] 0) a).1 = a.1 := rfl
    rw [he] at ht
    show 0 ≤ toF _ a.1
    rw [ht]
    have hg := (part_good2 hf hs h0 (accK (keptF f ps))).1
    exact (arcs_in' hg hm).1
end
/- Plain: the first paths are shortest; Depth twice is the lesser Depth. -/
section
def Lb (s : Bfs) (x : Int) : Nat := (s.1.getD x.toNat []).length
structure DI (s : Bfs) (d : Nat) : Prop where
  mono : ∀ j k, j ≤ k → k < s.2.2.length → Lb s (s.2.2.getD j 0) ≤ Lb s (s.2.2.getD k 0)
  top : ∀ x ∈ s.2.2, Lb s x ≤ d + 1
theorem bfsA_DI {f : List GNode} {s : Bfs} (h : BI f s) {d : Nat} (hd : DI s d) {n : Int} (hn : n ∈ s.2.2) (hnd : Lb s n = d) {a : Int × Int} (h0 : 0 ≤ a.2) (h1 : a.2 < f.length) : DI (bfsA n s a) d := by
  obtain ⟨-, -, g3⟩ := bfsA_BI (n := n) h h0 h1
  have hl1 := h.ok.l1
  unfold bfsA at g3 ⊢
  split at g3
  · rename_i hc
    rw [if_pos hc]
    exact hd
  · rename_i hc
    rw [if_neg hc]
    simp only at g3
    have hold : ∀ x ∈ s.2.2, Lb (s.1.set a.2.toNat (s.1.getD n.toNat [] ++ [a.1]), s.2.1.set a.2.toNat true, s.2.2 ++ [a.2]) x = Lb s x := fun x hx => by
      unfold Lb
      simp only
      rw [g3 x hx]
    have hnew : Lb (s.1.set a.2.toNat (s.1.getD n.toNat [] ++ [a.1]), s.2.1.set a.2.toNat true, s.2.2 ++ [a.2]) a.2 = d + 1 := by
      unfold Lb
      simp only
      rw [getD_set_self _ _ _ (by omega), List.length_append, List.length_singleton]
      unfold Lb at hnd
      omega
    have hleft : ∀ j, j < s.2.2.length → (s.2.2 ++ [a.2]).getD j 0 = s.2.2.getD j 0 := fun j hj => by
      simp only [List.getD_eq_getElem?_getD]
      rw [List.getElem?_append_left hj]
    have hmem : ∀ j, j < s.2.2.length → s.2.2.getD j 0 ∈ s.2.2 := fun j hj => mem_of_take_succ _ 0 hj
    have hlast : (s.2.2 ++ [a.2]).getD s.2.2.length 0 = a.2 := by simp [List.getD_eq_getElem?_getD]
    refine ⟨fun j k hjk hk => ?_, fun x hx => ?_⟩
    · simp only [List.length_append, List.length_singleton] at hk
      simp only
      by_cases hk2 : k < s.2.2.length
      · rw [hleft j (by omega), hleft k hk2, hold _ (hmem j (by omega)), hold _ (hmem k hk2)]
        exact hd.mono j k hjk hk2
      · have hk3 : k = s.2.2.length := by omega
        subst hk3
        rw [hlast, hnew]
        by_cases hj2 : j < s.2.2.length
        · rw [hleft j hj2, hold _ (hmem j hj2)]
          exact hd.top _ (hmem j hj2)
        · have hj3 : j = s.2.2.length := by omega
          subst hj3
          rw [hlast, hnew]
          exact Nat.le_refl _
    · rcases List.mem_append.1 hx with hx | hx
      · rw [hold x hx]
        exact hd.top x hx
      · have : x = a.2 := by simpa using hx
        rw [this, hnew]
        exact Nat.le_refl _
theorem bfsF_DI {f : List GNode} {d : Nat} {n : Int} : ∀ {l : List (Int × Int)} {s : Bfs}, (∀ a ∈ l, 0 ≤ a.2 ∧ a.2 < (f.length : Int)) → BI f s → DI s d → n ∈ s.2.2 → Lb s n = d → DI (l.foldl (bfsA n) s) d
  | [], _, _, _, h, _, _ => h
  | a :: l, s, hl, hb, h, hn, hnd => by
    have q := hl a (by simp)
    obtain ⟨g1, g2, g3⟩ := bfsA_BI (n := n) hb q.1 q.2
    rw [List.foldl_cons]
    refine bfsF_DI (fun b hb => hl b (by simp [hb])) g1 (bfsA_DI hb h hn hnd q.1 q.2) (g2.subset hn) ?_
    unfold Lb at hnd ⊢
    rw [g3 n hn]
    exact hnd
theorem bst_DI {f : List GNode} (hf : GoodF f) (hs : SrtF f) (h0 : 0 < f.length) : ∀ i, (∀ j, j < i → j < (bst f j).2.2.length) →
    (∀ j k, j ≤ k → k < (bst f i).2.2.length → Lb (bst f i) ((bst f i).2.2.getD j 0) ≤ Lb (bst f i) ((bst f i).2.2.getD k 0)) ∧
    (i < (bst f i).2.2.length → ∀ x ∈ (bst f i).2.2, Lb (bst f i) x ≤ Lb (bst f i) ((bst f i).2.2.getD i 0) + 1) ∧
    (∀ j, j < i → ∀ a ∈ arcsAt f ((bst f i).2.2.getD j 0), Lb (bst f i) a.2 ≤ Lb (bst f i) ((bst f i).2.2.getD j 0) + 1) ∧ Lb (bst f i) 0 = 0
  | 0, _ => by
    have hz : ∀ x : Int, Lb (bst f 0) x = 0 := fun x => by
      unfold Lb
      simp only [bst, bfs0, List.getD_eq_getElem?_getD, List.getElem?_replicate]
      split <;> rfl
    exact ⟨fun j k _ _ => by rw [hz, hz]; exact Nat.le_refl _, fun _ x _ => by rw [hz]; omega, fun j hj => by omega, hz 0⟩
  | i + 1, hj => by
    obtain ⟨m1, m2, m3, m4⟩ := bst_DI hf hs h0 i (fun j hji => hj j (by omega))
    obtain ⟨w1, w2, w3⟩ := bst_WI hf hs h0 i (fun j hji => hj j (by omega))
    have hb := bst_BI hf h0 i
    have hi := hj i (by omega)
    have hn : (bst f i).2.2.getD i 0 ∈ (bst f i).2.2 := mem_of_take_succ _ 0 hi
    have hd0 : DI (bst f i) (Lb (bst f i) ((bst f i).2.2.getD i 0)) := ⟨m1, m2 hi⟩
    have hd := bfsF_DI (f := f) (n := (bst f i).2.2.getD i 0) (l := arcsAt f ((bst f i).2.2.getD i 0)) (fun a ha => arcs_in hf ha) hb hd0 hn rfl
    obtain ⟨_, k2⟩ := bfsF_WI hf hs (n := (bst f i).2.2.getD i 0) (l := arcsAt f ((bst f i).2.2.getD i 0)) (fun a ha => ha) hb w1 hn
    obtain ⟨_, j2, j3⟩ := bfsF_BI (n := (bst f i).2.2.getD i 0) (l := arcsAt f ((bst f i).2.2.getD i 0)) (fun a ha => arcs_in hf ha) hb
    have e : bst f (i + 1) = (arcsAt f ((bst f i).2.2.getD i 0)).foldl (bfsA ((bst f i).2.2.getD i 0)) (bst f i) := rfl
    rw [e]
    generalize hs' : (arcsAt f ((bst f i).2.2.getD i 0)).foldl (bfsA ((bst f i).2.2.getD i 0)) (bst f i) = s' at *
    have hL : ∀ x ∈ (bst f i).2.2, Lb s' x = Lb (bst f i) x := fun x hx => by unfold Lb; rw [j3 x hx]
    have hget : ∀ j, j < (bst f i).2.2.length → s'.2.2.getD j 0 = (bst f i).2.2.getD j 0 := fun j hjl => by
      obtain ⟨t, ht⟩ := j2
      rw [← ht]
      simp only [List.getD_eq_getElem?_getD]
      rw [List.getElem?_append_left hjl]
    refine ⟨hd.mono, fun hi2 x hx => ?_, fun j hji a ha => ?_, ?_⟩
    · have h1 := hd.top x hx
      have h2 := hd.mono i (i + 1) (by omega) hi2
      rw [hget i hi, hL _ hn] at h2
      omega
    · rw [hget j (by omega)] at ha ⊢
      have hjm : (bst f i).2.2.getD j 0 ∈ (bst f i).2.2 := mem_of_take_succ _ 0 (by omega)
      rw [hL _ hjm]
      by_cases hji' : j = i
      · subst hji'
        exact hd.top a.2 (k2 a ha)
      · rw [hL _ (w3 j (by omega) a ha)]
        exact m3 j (by omega) a ha
    · rw [hL 0 w2]
      exact m4
/-- How far a node lies from the root. -/
def Ln (f : List GNode) (x : Int) : Nat := ((firstF f).getD x.toNat []).length
theorem first_step {f : List GNode} (hf : GoodF f) (hs : SrtF f) (h0 : 0 < f.length) : ∃ C : List Int, (0 : Int) ∈ C ∧ (∀ x ∈ C, ∀ a ∈ arcsAt f x, a.2 ∈ C) ∧ (∀ x ∈ C, walkF f 0 ((firstF f).getD x.toNat []) = some x) ∧
    (∀ x ∈ C, ∀ a ∈ arcsAt f x, Ln f a.2 ≤ Ln f x + 1) ∧ Ln f 0 = 0 := by
  obtain ⟨n, hj, hn⟩ : ∃ n, (∀ j, j < n → j < (bst f j).2.2.length) ∧ (bst f n).2.2.length ≤ n := by
    have key : ∀ m n, m + n = f.length + 1 → (∀ j, j < n → j < (bst f j).2.2.length) → ∃ n, (∀ j, j < n → j < (bst f j).2.2.length) ∧ (bst f n).2.2.length ≤ n := by
      intro m
      induction m with
      | zero =>
        intro n hn hj
        have h1 := hj f.length (by omega)
        have h2 := (bst_BI hf h0 f.length).ok.cnt
        omega
      | succ m ih =>
        intro n hn hj
        by_cases h : (bst f n).2.2.length ≤ n
        · exact ⟨n, hj, h⟩
        · exact ih (n + 1) (by omega) fun j hj' => (Nat.lt_succ_iff_lt_or_eq.1 hj').elim (hj j) (fun e => by rw [e]; omega)
    exact key (f.length + 1) 0 (by omega) (fun j hj => by omega)
  have e : firstF f = (bst f n).1 := by
    unfold firstF
    rw [← bst_bfs hf h0 n hj, bfs_end hn]
  obtain ⟨g1, g2, g3⟩ := bst_WI hf hs h0 n hj
  obtain ⟨-, -, m3, m4⟩ := bst_DI hf hs h0 n hj
  have hLn : ∀ x, Ln f x = Lb (bst f n) x := fun x => by unfold Ln Lb; rw [e]
  have hget : ∀ x ∈ (bst f n).2.2, ∃ j, j < n ∧ (bst f n).2.2.getD j 0 = x := fun x hx => by
    obtain ⟨j, hj', rfl⟩ := List.mem_iff_getElem.1 hx
    exact ⟨j, by omega, by simp [List.getD_eq_getElem?_getD, hj']⟩
  refine ⟨(bst f n).2.2, g2, fun x hx a ha => ?_, fun x hx => by rw [e]; exact g1.walk x hx, fun x hx a ha => ?_, by rw [hLn]; exact m4⟩
  · obtain ⟨j, hjn, rfl⟩ := hget x hx
    exact g3 j hjn a ha
  · obtain ⟨j, hjn, rfl⟩ := hget x hx
    rw [hLn, hLn]
    exact m3 j hjn a ha
theorem walk_none {f : List GNode} : ∀ (p : List Int) (n : Int) (z : List Int), walkF f n p = none → walkF f n (p ++ z) = none
  | [], _, _, h => by cases h
  | x :: p, n, z, h => by
    simp only [walkF, List.cons_append] at h ⊢
    split
    · rfl
    · rename_i hc
      rw [if_neg hc] at h
      exact walk_none p _ z h
/-- The last step of a walk. -/
theorem walk_last {f : List GNode} {p : List Int} {e y : Int} (h : walkF f 0 (p ++ [e]) = some y) : ∃ x, walkF f 0 p = some x ∧ ∃ a ∈ arcsAt f x, a.1 = e ∧ a.2 = y := by
  cases hh : walkF f 0 p with
  | none => rw [walk_none p 0 [e] hh] at h; cases h
  | some x =>
    have hw := walkF_snoc f p 0 x e hh
    rw [h] at hw
    split at hw
    · cases hw
    · rename_i hc
      obtain ⟨a, ha, e1, e2⟩ := toF_some (l := arcsAt f x) (x := e) (by omega)
      exact ⟨x, rfl, a, ha, e1, by rw [e2]; exact (Option.some.inj hw).symm⟩
theorem walk_arc {f : List GNode} (hf : GoodF f) (hs : SrtF f) {p : List Int} {x : Int} (h : walkF f 0 p = some x) {a : Int × Int} (ha : a ∈ arcsAt f x) : walkF f 0 (p ++ [a.1]) = some a.2 := by
  rw [walkF_snoc f p 0 x a.1 h, toF_in hs ha, if_neg (by have := (arcs_in' hf ha).1; omega)]
/-- The first path is a shortest one. -/
theorem first_min {f : List GNode} (hf : GoodF f) (hs : SrtF f) (h0 : 0 < f.length) (p : List Int) : ∀ y, walkF f 0 p = some y → walkF f 0 ((firstF f).getD y.toNat []) = some y ∧ Ln f y ≤ p.length := by
  obtain ⟨C, c1, c2, c3, c4, c5⟩ := first_step hf hs h0
  have key : ∀ y, walkF f 0 p = some y → y ∈ C ∧ Ln f y ≤ p.length := by
    induction p using list_snoc_ind with
    | h0 =>
      intro y h
      simp only [walkF, Option.some.injEq] at h
      subst h
      exact ⟨c1, by rw [c5]; exact Nat.zero_le _⟩
    | h1 p e ih =>
      intro y h
      obtain ⟨x, hx, a, ha, e1, e2⟩ := walk_last h
      obtain ⟨i1, i2⟩ := ih x hx
      have h1 := c2 x i1 a ha
      have h2 := c4 x i1 a ha
      rw [e2] at h1 h2
      refine ⟨h1, ?_⟩
      rw [List.length_append, List.length_singleton]
      omega
  intro y h
  obtain ⟨k1, k2⟩ := key y h
  exact ⟨c3 y k1, k2⟩
theorem Ln_zero {f : List GNode} (hf : GoodF f) (hs : SrtF f) (h0 : 0 < f.length) : Ln f 0 = 0 := by
  obtain ⟨C, c1, c2, c3, c4, c5⟩ := first_step hf hs h0
  exact c5
/-- A walk in a part's canonical form is one in the structure. -/
theorem part_back {f : List GNode} (hf : GoodF f) (hs : SrtF f) (h0 : 0 < f.length) (acc : Int → Int × Int → Bool) (p : List Int) : ∀ i, walkF (partF acc f) 0 p = some i →
    ∃ y ∈ dfs (partL acc f f.length) f.length [] 0, i = idxZ (dfs (partL acc f f.length) f.length [] 0) y ∧ walkF f 0 p = some y := by
  obtain ⟨hPg, hPs⟩ := part_good hf hs acc
  have hPl := partL_len acc f f.length
  have ho := ord_of hPg (by omega)
  rw [hPl] at ho
  have hidx0 : idxZ (dfs (partL acc f f.length) f.length [] 0) 0 = 0 := by
    have := idxZ_get ho.ok.nd ho.zero.2
    rw [ho.zero.1] at this
    exact this
  induction p using list_snoc_ind with
  | h0 =>
    intro i h
    simp only [walkF, Option.some.injEq] at h
    subst h
    exact ⟨0, ho.mem0, hidx0.symm, rfl⟩
  | h1 p e ih =>
    intro i h
    obtain ⟨j, hj, b, hb, e1, e2⟩ := walk_last h
    obtain ⟨x, hx, ej, hwx⟩ := ih j hj
    rw [ej, part_arcs hf hs h0 acc hx] at hb
    obtain ⟨a, ha, rfl⟩ := List.mem_map.1 hb
    obtain ⟨ha1, ha2⟩ := List.mem_filter.1 ha
    have hr := ho.ok.rng x hx
    rw [hPl] at hr
    have hin : a.2 ∈ dfs (partL acc f f.length) f.length [] 0 := ho.cl x hx a (by rw [arcsAt, part_get acc hr.1 hr.2]; exact ha)
    have he : a.1 = e := e1
    refine ⟨a.2, hin, e2.symm, ?_⟩
    rw [← he]
    exact walk_arc hf hs hwx ha1
theorem dfs_pred {f : List GNode} {C : Int → Prop} (h0 : C 0) (hC : ∀ i, C i → ∀ a ∈ arcsAt f i, C a.2) (k : Nat) : ∀ x ∈ dfs f k [] 0, C x := by
  have h : Iso f f id C := ⟨fun i _ => by simp, hC, fun i j _ _ e => e⟩
  exact (dfs_iso h k [] 0 (fun x hx => by cases hx) h0).2
theorem accT_iff {f : List GNode} {d n : Int} {a : Int × Int} : accT (firstF f) d n a = true ↔ (Ln f n : Int) < d := by
  unfold accT Ln
  rw [decide_eq_true_eq]
theorem depth_reach {f : List GNode} (hf : GoodF f) (hs : SrtF f) (h0 : 0 < f.length) (d : Int) : ∀ n ∈ dfs (partL (accT (firstF f) d) f f.length) f.length [] 0, ∃ p, walkF f 0 p = some n ∧ (n = 0 ∨ (Ln f n : Int) ≤ d) ∧ 0 ≤ n ∧ n < (f.length : Int) := by
  refine dfs_pred ⟨[], rfl, .inl rfl, by omega, by omega⟩ ?_ f.length
  rintro x ⟨p, hp, hx, g0, g1⟩ a ha
  rw [arcsAt, part_get _ g0 g1] at ha
  obtain ⟨ha1, ha2⟩ := List.mem_filter.1 ha
  have hr := arcs_in' hf ha1
  have hw := walk_arc hf hs hp ha1
  refine ⟨p ++ [a.1], hw, .inr ?_, hr.1, hr.2⟩
  rw [accT_iff] at ha2
  obtain ⟨q1, q2⟩ := first_min hf hs h0 p x hp
  have hw2 := walk_arc hf hs q1 ha1
  have := (first_min hf hs h0 _ _ hw2).2
  rw [List.length_append, List.length_singleton] at this
  have hLx : Ln f x = ((firstF f).getD x.toNat []).length := rfl
  omega
theorem depth_first {f : List GNode} (hf : GoodF f) (hs : SrtF f) (h0 : 0 < f.length) (d : Int) {n : Int} (hn : n ∈ dfs (partL (accT (firstF f) d) f f.length) f.length [] 0) :
    Ln (pdepthF f d) (idxZ (dfs (partL (accT (firstF f) d) f f.length) f.length [] 0) n) = Ln f n := by
  obtain ⟨p0, hp0, hd0, -, -⟩ := depth_reach hf hs h0 d n hn
  obtain ⟨hcg, hcs, hc0, -⟩ := part_good2 hf hs h0 (accT (firstF f) d)
  obtain ⟨q1, q2⟩ := first_min hf hs h0 p0 n hp0
  have hz := Ln_zero hf hs h0
  have hLn : Ln f n = ((firstF f).getD n.toNat []).length := rfl
  obtain ⟨-, hw⟩ := part_walk hf hs h0 (accT (firstF f) d) ((firstF f).getD n.toNat []) n (fun p1 e q hp x hx a ha _ => by
    rw [accT_iff]
    have h1 := (first_min hf hs h0 p1 x hx).2
    have h2 : ((firstF f).getD n.toNat []).length = p1.length + (q.length + 1) := by rw [hp]; simp
    rcases hd0 with rfl | hd0
    · omega
    · omega) q1
  obtain ⟨r1, r2⟩ := first_min hcg hcs hc0 _ _ hw
  obtain ⟨y, hy, ey, hwy⟩ := part_back hf hs h0 (accT (firstF f) d) _ _ r1
  have hyn : y = n := by
    have h1 := (get_idxZ hn).2.2
    have h2 := (get_idxZ hy).2.2
    rw [← ey] at h2
    rw [h1] at h2
    exact h2.symm
  subst hyn
  have h3 := (first_min hf hs h0 _ _ hwy).2
  have h4 : Ln (pdepthF f d) (idxZ (dfs (partL (accT (firstF f) d) f f.length) f.length [] 0) y) = ((firstF (partF (accT (firstF f) d) f)).getD (idxZ (dfs (partL (accT (firstF f) d) f f.length) f.length [] 0) y).toNat []).length := rfl
  have h5 : Ln (partF (accT (firstF f) d) f) (idxZ (dfs (partL (accT (firstF f) d) f f.length) f.length [] 0) y) = ((firstF (partF (accT (firstF f) d) f)).getD (idxZ (dfs (partL (accT (firstF f) d) f f.length) f.length [] 0) y).toNat []).length := rfl
  omega
theorem pdepth_twice {f : List GNode} (hf : GoodF f) (hs : SrtF f) (h0 : 0 < f.length) (d e : Int) : pdepthF (pdepthF f d) e = pdepthF f (if e < d then e else d) := by
  have hk : pdepthF (pdepthF f d) e = partF (accT (firstF (pdepthF f d)) e) (partF (accT (firstF f) d) f) := rfl
  rw [hk, part_part hf hs h0]
  have hmono : ∀ n ∈ dfs (partL (accT (firstF f) (if e < d then e else d)) f f.length) f.length [] 0, n ∈ dfs (partL (accT (firstF f) d) f f.length) f.length [] 0 := by
    obtain ⟨hPg, hPs⟩ := part_good hf hs (accT (firstF f) d)
    have hPl := partL_len (accT (firstF f) d) f f.length
    have ho := ord_of hPg (by omega)
    rw [hPl] at ho
    refine dfs_pred ho.mem0 (fun x hx a ha => ?_) f.length
    have hr := ho.ok.rng x hx
    rw [hPl] at hr
    rw [arcsAt, part_get _ hr.1 hr.2] at ha
    obtain ⟨ha1, ha2⟩ := List.mem_filter.1 ha
    refine ho.cl x hx a ?_
    rw [arcsAt, part_get _ hr.1 hr.2]
    refine List.mem_filter.2 ⟨ha1, ?_⟩
    rw [accT_iff] at ha2 ⊢
    split at ha2 <;> omega
  refine part_congr hf hs h0 fun n hn a ha => ?_
  have hfst := depth_first hf hs h0 d (hmono n hn)
  unfold acc2
  rw [Bool.eq_iff_iff, Bool.and_eq_true, accT_iff, accT_iff, accT_iff, hfst]
  split <;> omega
end
/- Plain: subsume.Map finds a map if there is one; parts subsume, and parts of what subsumes subsume parts. -/
section
structure Hom (h : HierD) (a b : List GNode) (m : Int → Int) : Prop where
  zero : m 0 = 0
  rng : ∀ i, 0 ≤ i → i < (a.length : Int) → 0 ≤ m i ∧ m i < (b.length : Int)
  ty : ∀ i, 0 ≤ i → i < (a.length : Int) → hsubF h (a.getD i.toNat (0, [])).1 (b.getD (m i).toNat (0, [])).1 = true
  arc : ∀ i, 0 ≤ i → i < (a.length : Int) → ∀ x ∈ arcsAt a i, tgtF (arcsAt b (m i)) x.1 = m x.2
theorem tgtF_arc {l : List (Int × Int)} (h : l.Pairwise (fun a b => a.1 < b.1)) {a : Int × Int} (ha : a ∈ l) : tgtF l a.1 = a.2 := by
  induction l with
  | nil => cases ha
  | cons b l ih =>
    obtain ⟨h1, h2⟩ := List.pairwise_cons.1 h
    simp only [tgtF]
    rcases List.mem_cons.1 ha with rfl | ha
    · rw [if_pos rfl]
    · rw [if_neg (by have := h1 a ha; omega)]
      exact ih h2 ha
theorem tgtF_mem {l : List (Int × Int)} {e : Int} (h : 0 ≤ tgtF l e) : ∃ a ∈ l, a.1 = e ∧ a.2 = tgtF l e := by
  induction l with
  | nil => simp only [tgtF] at h; omega
  | cons b l ih =>
    simp only [tgtF] at h ⊢
    split
    · rename_i hb
      exact ⟨b, by simp, hb, rfl⟩
    · rename_i hb
      rw [if_neg hb] at h
      obtain ⟨a, ha, e1, e2⟩ := ih h
      exact ⟨a, by simp [ha], e1, e2⟩
theorem tgt_in {f : List GNode} (hs : SrtF f) {n : Int} {a : Int × Int} (ha : a ∈ arcsAt f n) : tgtF (arcsAt f n) a.1 = a.2 := tgtF_arc (srt_arcs hs n) ha
/-- Each node but the root is led to from a smaller one. -/
def RO (f : List GNode) : Prop := ∀ i : Int, 0 < i → i < (f.length : Int) → ∃ j, 0 ≤ j ∧ j < i ∧ ∃ x ∈ arcsAt f j, x.2 = i
/-! The map is found -/
structure MH (a : List GNode) (m : Int → Int) (M : List Int) : Prop where
  len : M.length = a.length
  val : ∀ k : Nat, k < a.length → M.getD k 0 = -1 ∨ M.getD k 0 = m (k : Int)
theorem set_get {M : List Int} {k j : Nat} {v : Int} (hk : k < M.length) : (M.set k v).getD j 0 = if k = j then v else M.getD j 0 := by
  by_cases h : k = j
  · subst h; rw [if_pos rfl, getD_set_self _ _ _ hk]
  · rw [if_neg h, getD_set_ne _ _ _ h]
theorem arcs_hom {a : List GNode} (ha : GoodF a) {m : Int → Int} {n : Int} (hm : ∀ i, 0 ≤ i → i < (a.length : Int) → 0 ≤ m i) {bl : List (Int × Int)} : ∀ {l : List (Int × Int)} {M : List Int}, (∀ x ∈ l, x ∈ arcsAt a n) → (∀ x ∈ l, tgtF bl x.1 = m x.2) → MH a m M →
    ∃ M', mapArcs bl l M = some M' ∧ MH a m M' ∧ (∀ k : Nat, k < a.length → M.getD k 0 = m (k : Int) → M'.getD k 0 = m (k : Int)) ∧ ∀ x ∈ l, M'.getD x.2.toNat 0 = m x.2
  | [], M, _, _, h => ⟨M, rfl, h, fun _ _ h => h, fun x hx => by cases hx⟩
  | x :: l, M, hl, ht, h => by
    have hr := arcs_in' ha (hl x (by simp))
    have hx := ht x (by simp)
    have hmx := hm x.2 hr.1 hr.2
    have hxl : x.2.toNat < a.length := by omega
    have hxe : ((x.2.toNat : Nat) : Int) = x.2 := by omega
    have hv := h.val x.2.toNat hxl
    rw [hxe] at hv
    have hbad : ¬ mapBad bl M x = true := by
      unfold mapBad
      rw [Bool.or_eq_true, Bool.and_eq_true, decide_eq_true_eq, decide_eq_true_eq, Bool.not_eq_true', beq_eq_false_iff_ne, hx]
      rintro (g | ⟨g1, g2⟩)
      · omega
      · rcases hv with hv | hv
        · omega
        · exact g2 hv
    have h2 : MH a m (M.set x.2.toNat (tgtF bl x.1)) := by
      refine ⟨by rw [List.length_set]; exact h.len, fun k hk => ?_⟩
      rw [set_get (by rw [h.len]; exact hxl)]
      split
      · rename_i e
        right
        rw [hx, ← e, hxe]
      · exact h.val k hk
    obtain ⟨M', e1, e2, e3, e4⟩ := arcs_hom ha hm (l := l) (fun y hy => hl y (by simp [hy])) (fun y hy => ht y (by simp [hy])) h2
    refine ⟨M', ?_, e2, fun k hk hkm => e3 k hk ?_, fun y hy => ?_⟩
    · simp only [mapArcs]
      rw [if_neg hbad]
      exact e1
    · rw [set_get (by rw [h.len]; exact hxl)]
      split
      · rename_i e
        rw [hx, ← e, hxe]
      · exact hkm
    · rcases List.mem_cons.1 hy with rfl | hy
      · have h9 := e3 y.2.toNat hxl (by rw [set_get (by rw [h.len]; exact hxl), if_pos rfl, hx, hxe])
        rw [hxe] at h9
        exact h9
      · exact e4 y hy
theorem nodes_hom {h : HierD} {a b : List GNode} (ha : GoodF a) (hro : RO a) {m : Int → Int} (hm : Hom h a b m) : ∀ (r i : Nat) (M : List Int), r + i = a.length → MH a m M → (0 < a.length → M.getD 0 0 = 0) →
    (∀ k : Nat, k < a.length → (∃ j : Int, 0 ≤ j ∧ j < (i : Int) ∧ ∃ x ∈ arcsAt a j, x.2 = (k : Int)) → M.getD k 0 = m (k : Int)) → ∃ M', mapNodes h b (a.drop i) i M = some M'
  | 0, i, M, hri, _, _, _ => by
    rw [List.drop_eq_nil_of_le (by omega)]
    exact ⟨M, rfl⟩
  | r + 1, i, M, hri, hM, hM0, hMr => by
    have hi : i < a.length := by omega
    have hki : M.getD i 0 = m (i : Int) := by
      cases i with
      | zero =>
        rw [hM0 hi]
        exact hm.zero.symm
      | succ i =>
        obtain ⟨j, j0, j1, x, hx, e⟩ := hro ((i + 1 : Nat) : Int) (by omega) (by omega)
        exact hMr (i + 1) hi ⟨j, j0, j1, x, hx, e⟩
    have hr := hm.rng (i : Int) (by omega) (by omega)
    have hty := hm.ty (i : Int) (by omega) (by omega)
    have harc := hm.arc (i : Int) (by omega) (by omega)
    rw [Int.toNat_natCast] at hty
    have hbad : ¬ nodeBad h b (a.getD i (0, [])) (M.getD i 0) = true := by
      unfold nodeBad
      rw [Bool.or_eq_true, decide_eq_true_eq, Bool.not_eq_true', hki]
      rintro (g | g)
      · omega
      · rw [hty] at g; cases g
    rw [mapNodes_step h b a M hi, if_neg hbad, hki]
    have hai : arcsAt a (i : Int) = (a.getD i (0, [])).2 := by rw [arcsAt, Int.toNat_natCast]
    obtain ⟨M', e1, e2, e3, e4⟩ := arcs_hom (n := (i : Int)) ha (fun k g0 g1 => (hm.rng k g0 g1).1) (bl := (b.getD (m (i : Int)).toNat (0, [])).2) (l := (a.getD i (0, [])).2) (fun x hx => by rw [hai]; exact hx) (fun x hx => harc x (by rw [hai]; exact hx)) hM
    rw [e1]
    simp only
    refine nodes_hom ha hro hm r (i + 1) M' (by omega) e2 (fun g => ?_) (fun k hk hj => ?_)
    · have := e3 0 g (by rw [hM0 g]; exact hm.zero.symm)
      rw [this]
      exact hm.zero
    · obtain ⟨j, j0, j1, x, hx, e⟩ := hj
      by_cases hji : j < (i : Int)
      · exact e3 k hk (hMr k hk ⟨j, j0, hji, x, hx, e⟩)
      · have : j = (i : Int) := by omega
        subst this
        rw [hai] at hx
        have := e4 x hx
        rw [e] at this
        rw [Int.toNat_natCast] at this
        exact this
theorem gsub_of {h : HierD} {a b : List GNode} (ha : GoodF a) (h0 : 0 < a.length) (hro : RO a) {m : Int → Int} (hm : Hom h a b m) : gsubF h a b = true := by
  have hz : ((List.replicate a.length (-1 : Int)).set 0 0).getD 0 0 = 0 := by rw [set_get (by simpa using h0), if_pos rfl]
  obtain ⟨M', e⟩ := nodes_hom ha hro hm a.length 0 ((List.replicate a.length (-1)).set 0 0) (by omega) ⟨by simp, fun k hk => by
    rw [set_get (by simpa using h0)]
    split
    · rename_i e
      right
      rw [← e]
      exact hm.zero.symm
    · left
      simp [List.getD_eq_getElem?_getD, List.getElem?_replicate, hk]⟩ (fun _ => hz) (fun k hk hj => by
    obtain ⟨j, j0, j1, _⟩ := hj
    omega)
  unfold gsubF mapF
  rw [List.drop_zero] at e
  rw [e]
  rfl
/-! What is found is a map -/
theorem arcs_map {b : List GNode} {bl : List (Int × Int)} (hb : 0 < b.length) (hbl : ∀ x ∈ bl, x.2 < (b.length : Int)) {n : Nat} : ∀ {l : List (Int × Int)} {M M' : List Int}, (∀ x ∈ l, 0 ≤ x.2 ∧ x.2 < (n : Int)) → M.length = n → (∀ k, M.getD k 0 < (b.length : Int)) → mapArcs bl l M = some M' →
    M'.length = n ∧ (∀ k, M'.getD k 0 < (b.length : Int)) ∧ (∀ k, 0 ≤ M.getD k 0 → M'.getD k 0 = M.getD k 0) ∧ ∀ x ∈ l, 0 ≤ M'.getD x.2.toNat 0 ∧ tgtF bl x.1 = M'.getD x.2.toNat 0
  | [], M, M', _, hn, hk, h => by
    have : M = M' := Option.some.inj h
    subst this
    exact ⟨hn, hk, fun _ _ => rfl, fun x hx => by cases hx⟩
  | x :: l, M, M', hl, hn, hk, h => by
    simp only [mapArcs] at h
    split at h
    · cases h
    · rename_i hbad
      have hr := hl x (by simp)
      have hxl : x.2.toNat < M.length := by omega
      have htl := tgtF_lt (n := (b.length : Int)) (by omega) (l := bl) x.1 hbl
      obtain ⟨g1, g2, g3, g4⟩ := arcs_map hb hbl (l := l) (fun y hy => hl y (by simp [hy])) (by rw [List.length_set]; exact hn) (fun k => by
        rw [set_get hxl]
        split
        · exact htl
        · exact hk k) h
      have hb2 : 0 ≤ tgtF bl x.1 ∧ (0 ≤ M.getD x.2.toNat 0 → M.getD x.2.toNat 0 = tgtF bl x.1) := by
        unfold mapBad at hbad
        rw [Bool.or_eq_true, Bool.and_eq_true, decide_eq_true_eq, decide_eq_true_eq, Bool.not_eq_true', beq_eq_false_iff_ne] at hbad
        refine ⟨Int.not_lt.1 fun e => hbad (.inl e), fun e => Classical.byContradiction fun e2 => hbad (.inr ⟨e, e2⟩)⟩
      refine ⟨g1, g2, fun k hk0 => ?_, fun y hy => ?_⟩
      · have h1 : (M.set x.2.toNat (tgtF bl x.1)).getD k 0 = M.getD k 0 := by
          rw [set_get hxl]
          split
          · rename_i e
            rw [← e] at hk0 ⊢
            exact (hb2.2 hk0).symm
          · rfl
        rw [g3 k (by rw [h1]; exact hk0), h1]
      · rcases List.mem_cons.1 hy with rfl | hy
        · have h1 : (M.set y.2.toNat (tgtF bl y.1)).getD y.2.toNat 0 = tgtF bl y.1 := by rw [set_get hxl, if_pos rfl]
          have h2 := g3 y.2.toNat (by rw [h1]; exact hb2.1)
          rw [h1] at h2
          exact ⟨by rw [h2]; exact hb2.1, h2.symm⟩
        · exact g4 y hy
theorem nodes_map {hd : HierD} {a b : List GNode} (ha : GoodF a) (hb : GoodF b) (hb0 : 0 < b.length) : ∀ (r i : Nat) (M M' : List Int), r + i = a.length → M.length = a.length → (∀ k, M.getD k 0 < (b.length : Int)) → mapNodes hd b (a.drop i) i M = some M' →
    (∀ k, M'.getD k 0 < (b.length : Int)) ∧ (∀ k, 0 ≤ M.getD k 0 → M'.getD k 0 = M.getD k 0) ∧ ∀ k : Nat, i ≤ k → k < a.length → 0 ≤ M'.getD k 0 ∧ hsubF hd (a.getD k (0, [])).1 (b.getD (M'.getD k 0).toNat (0, [])).1 = true ∧ ∀ x ∈ (a.getD k (0, [])).2, 0 ≤ M'.getD x.2.toNat 0 ∧ tgtF (b.getD (M'.getD k 0).toNat (0, [])).2 x.1 = M'.getD x.2.toNat 0
  | 0, i, M, M', hri, _, hk, h => by
    rw [List.drop_eq_nil_of_le (by omega)] at h
    have : M = M' := Option.some.inj h
    subst this
    exact ⟨hk, fun _ _ => rfl, fun k h1 h2 => by omega⟩
  | r + 1, i, M, M', hri, hn, hk, h => by
    have hi : i < a.length := by omega
    rw [mapNodes_step hd b a M hi] at h
    split at h
    · cases h
    · rename_i hbad
      have hb2 : 0 ≤ M.getD i 0 ∧ hsubF hd (a.getD i (0, [])).1 (b.getD (M.getD i 0).toNat (0, [])).1 = true := by
        unfold nodeBad at hbad
        rw [Bool.or_eq_true, decide_eq_true_eq, Bool.not_eq_true'] at hbad
        refine ⟨Int.not_lt.1 fun e => hbad (.inl e), ?_⟩
        cases hh : hsubF hd (a.getD i (0, [])).1 (b.getD (M.getD i 0).toNat (0, [])).1 with
        | true => rfl
        | false => exact absurd (.inr hh) hbad
      cases hma : mapArcs (b.getD (M.getD i 0).toNat (0, [])).2 (a.getD i (0, [])).2 M with
      | none => rw [hma] at h; cases h
      | some M1 =>
        rw [hma] at h
        simp only at h
        obtain ⟨g1, g2, g3, g4⟩ := arcs_map hb0 (fun x hx => (node_rng hb _ x hx).2) (n := a.length) (fun x hx => node_rng ha i x hx) hn hk hma
        obtain ⟨k1, k2, k3⟩ := nodes_map ha hb hb0 r (i + 1) M1 M' (by omega) g1 g2 h
        have hkeep : ∀ k, 0 ≤ M.getD k 0 → M'.getD k 0 = M.getD k 0 := fun k hk0 => by
          have := g3 k hk0
          rw [k2 k (by rw [this]; exact hk0), this]
        refine ⟨k1, hkeep, fun k h1 h2 => ?_⟩
        by_cases hki : k = i
        · subst hki
          rw [hkeep k hb2.1]
          refine ⟨hb2.1, hb2.2, fun x hx => ?_⟩
          obtain ⟨e1, e2⟩ := g4 x hx
          have := k2 x.2.toNat e1
          rw [this]
          exact ⟨e1, e2⟩
        · exact k3 k (by omega) h2
theorem hom_of {h : HierD} {a b : List GNode} (ha : GoodF a) (ha0 : 0 < a.length) (hb : GoodF b) (hb0 : 0 < b.length) (hg : gsubF h a b = true) : ∃ m, Hom h a b m := by
  unfold gsubF mapF at hg
  cases hm : mapNodes h b a 0 ((List.replicate a.length (-1)).set 0 0) with
  | none => rw [hm] at hg; cases hg
  | some M =>
    have hz : ((List.replicate a.length (-1 : Int)).set 0 0).getD 0 0 = 0 := by rw [set_get (by simpa using ha0), if_pos rfl]
    obtain ⟨k1, k2, k3⟩ := nodes_map ha hb hb0 a.length 0 ((List.replicate a.length (-1)).set 0 0) M (by omega) (by simp) (fun k => by
      rw [set_get (by simpa using ha0)]
      split
      · omega
      · rw [List.getD_eq_getElem?_getD, List.getElem?_replicate]
        split
        · show (-1 : Int) < _; omega
        · show (0 : Int) < _; omega) (by rw [List.drop_zero]; exact hm)
    have hM0 := k2 0 (by rw [hz]; omega)
    rw [hz] at hM0
    refine ⟨fun i => M.getD i.toNat 0, hM0, fun i g0 g1 => ⟨(k3 i.toNat (by omega) (by omega)).1, k1 _⟩, fun i g0 g1 => (k3 i.toNat (by omega) (by omega)).2.1, fun i g0 g1 x hx => ((k3 i.toNat (by omega) (by omega)).2.2 x hx).2⟩
/-! A canonical form is led through in order -/
theorem dfs_lead {f : List GNode} (hf : GoodF f) : ∀ (k : Nat) (t : List Int) (n : Int), DOk f t → 0 ≤ n → n < f.length → n ∉ t →
    ∀ q, t.length < q → q < (dfs f k t n).length → ∃ j, j < q ∧ ∃ a ∈ arcsAt f ((dfs f k t n).getD j 0), a.2 = (dfs f k t n).getD q 0
  | 0, t, n, h, h0, h1, h2, q, hq1, hq2 => by simp only [dfs] at hq2; omega
  | k + 1, t, n, h, h0, h1, h2, q, hq1, hq2 => by
    have key : ∀ (l : List (Int × Int)) (u : List Int), (∀ a ∈ l, a ∈ arcsAt f n) → DOk f u → t ++ [n] <+: u →
        (∀ q, t.length < q → q < u.length → ∃ j, j < q ∧ ∃ a ∈ arcsAt f (u.getD j 0), a.2 = u.getD q 0) →
        ∀ q, t.length < q → q < (l.foldl (stepD f k) u).length → ∃ j, j < q ∧ ∃ a ∈ arcsAt f ((l.foldl (stepD f k) u).getD j 0), a.2 = (l.foldl (stepD f k) u).getD q 0 := by
      intro l
      induction l with
      | nil => intro u _ _ _ hu q g1 g2; exact hu q g1 g2
      | cons a l ih =>
        intro u hl hu hpre hlead
        have ha := hl a (by simp)
        have hr := arcs_in' hf ha
        rw [List.foldl_cons]
        by_cases hm : a.2 ∈ u
        · have hs : stepD f k u a = u := by unfold stepD; rw [if_pos hm]
          rw [hs]
          exact ih u (fun b hb => hl b (by simp [hb])) hu hpre hlead
        · have hs : stepD f k u a = dfs f k u a.2 := by unfold stepD; rw [if_neg hm]
          rw [hs]
          obtain ⟨d1, d2⟩ := dfs_ok hf k u a.2 hu hr.1 hr.2 hm
          have hget : ∀ j, j < u.length → (dfs f k u a.2).getD j 0 = u.getD j 0 := fun j hj => by
            obtain ⟨v, hv⟩ := d2
            rw [← hv]
            simp only [List.getD_eq_getElem?_getD]
            rw [List.getElem?_append_left hj]
          have hun : u.getD t.length 0 = n := by
            obtain ⟨v, hv⟩ := hpre
            rw [← hv]
            simp [List.getD_eq_getElem?_getD]
          have hul : t.length < u.length := by
            have := hpre.length_le
            simp at this
            omega
          refine ih (dfs f k u a.2) (fun b hb => hl b (by simp [hb])) d1 (hpre.trans d2) (fun q g1 g2 => ?_)
          by_cases hq : q < u.length
          · obtain ⟨j, j1, b, hb, e⟩ := hlead q g1 hq
            refine ⟨j, j1, b, ?_, ?_⟩
            · rw [hget j (by omega)]; exact hb
            · rw [hget q hq]; exact e
          · by_cases hq2 : q = u.length
            · subst hq2
              refine ⟨t.length, hul, a, ?_, ?_⟩
              · rw [hget _ hul, hun]; exact ha
              · cases k with
                | zero => simp only [dfs] at g2; omega
                | succ k =>
                  have hp : u ++ [a.2] <+: dfs f (k + 1) u a.2 := by
                    rw [dfs_succ]
                    exact (foldD_ok (dfs_ok hf k) _ _ (fun b hb => arcs_in' hf hb) (hu.snoc hr.1 hr.2 hm)).2
                  obtain ⟨v, hv⟩ := hp
                  rw [← hv]
                  simp [List.getD_eq_getElem?_getD]
            · exact dfs_lead hf k u a.2 hu hr.1 hr.2 hm q (by omega) g2
    rw [dfs_succ] at hq2 ⊢
    exact key _ (t ++ [n]) (fun a ha => ha) (h.snoc h0 h1 h2) (List.prefix_refl _) (fun q g1 g2 => by simp only [List.length_append, List.length_singleton] at g2; omega) q hq1 hq2
theorem part_RO {f : List GNode} (hf : GoodF f) (hs : SrtF f) (h0 : 0 < f.length) (acc : Int → Int × Int → Bool) : RO (partF acc f) := by
  obtain ⟨hPg, hPs⟩ := part_good hf hs acc
  have hPl := partL_len acc f f.length
  have ho := ord_of hPg (by omega)
  have hcl := canon_len (partL acc f f.length)
  have hlead := dfs_lead hPg (partL acc f f.length).length [] 0 (dOk_nil _) (by omega) (by omega) (by simp)
  have har := fun n hn => part_arcs hf hs h0 acc (n := n) hn
  rw [hPl] at ho hcl hlead
  have hpf : (partF acc f).length = (dfs (partL acc f f.length) f.length [] 0).length := hcl
  intro i g0 g1
  rw [hpf] at g1
  generalize dfs (partL acc f f.length) f.length [] 0 = o at *
  obtain ⟨j, j1, a, ha, e⟩ := hlead i.toNat (by simp only [List.length_nil]; omega) (by omega)
  have hjm : o.getD j 0 ∈ o := mem_of_take_succ _ 0 (by omega)
  have hr := ho.ok.rng _ hjm
  rw [hPl] at hr
  rw [arcsAt, part_get acc hr.1 hr.2] at ha
  refine ⟨(j : Int), by omega, by omega, renD o a, ?_, ?_⟩
  · have := har _ hjm
    rw [idxZ_get ho.ok.nd (by omega)] at this
    rw [this]
    exact List.mem_map.2 ⟨a, ha, rfl⟩
  · show idxZ o a.2 = i
    rw [e, idxZ_get ho.ok.nd (by omega)]
    omega
/-! Types -/
theorem subPF_refl (x : List Int) : subPF x x = true := by
  unfold subPF
  rw [List.all_eq_true]
  intro i hi
  rw [wordF_nat, beq_iff_eq]
  exact andNot_self
theorem hsub_refl (h : HierD) (t : Int) : hsubF h t t = true := subPF_refl _
theorem part_node {f : List GNode} (hf : GoodF f) (hs : SrtF f) (h0 : 0 < f.length) (acc : Int → Int × Int → Bool) {i : Int} (g0 : 0 ≤ i) (g1 : i < ((partF acc f).length : Int)) :
    ∃ n ∈ dfs (partL acc f f.length) f.length [] 0, idxZ (dfs (partL acc f f.length) f.length [] 0) n = i ∧ (dfs (partL acc f f.length) f.length [] 0).getD i.toNat 0 = n ∧ 0 ≤ n ∧ n < (f.length : Int) ∧ ((partF acc f).getD i.toNat (0, [])).1 = (f.getD n.toNat (0, [])).1 := by
  obtain ⟨hPg, hPs⟩ := part_good hf hs acc
  have hPl := partL_len acc f f.length
  have ho := ord_of hPg (by omega)
  have hcl := canon_len (partL acc f f.length)
  have hg := fun i => canon_get (f := partL acc f f.length) (i := i)
  rw [hPl] at ho hcl hg
  have hpf : (partF acc f).length = (dfs (partL acc f f.length) f.length [] 0).length := hcl
  rw [hpf] at g1
  have hi : i.toNat < (dfs (partL acc f f.length) f.length [] 0).length := by omega
  have hm : (dfs (partL acc f f.length) f.length [] 0).getD i.toNat 0 ∈ dfs (partL acc f f.length) f.length [] 0 := mem_of_take_succ _ 0 hi
  have hr := ho.ok.rng _ hm
  rw [hPl] at hr
  refine ⟨_, hm, ?_, rfl, hr.1, hr.2, ?_⟩
  · rw [idxZ_get ho.ok.nd hi]; omega
  · have : partF acc f = canonicalF (partL acc f f.length) 0 := rfl
    rw [this, hg _ hi]
    unfold nodeD
    rw [part_get acc hr.1 hr.2]
theorem part_ty {h : HierD} {f : List GNode} (hf : GoodF f) (hs : SrtF f) (h0 : 0 < f.length) (ht : TyOk h f) (acc : Int → Int × Int → Bool) : TyOk h (partF acc f) := by
  intro x hx
  obtain ⟨i, hi, rfl⟩ := mem_getD (0, []) hx
  obtain ⟨n, -, -, -, n0, n1, e⟩ := part_node hf hs h0 acc (i := (i : Int)) (by omega) (by omega)
  rw [Int.toNat_natCast] at e
  rw [e]
  exact ht _ (mem_of_take_succ f (0, []) (by omega))
theorem part_type0 {f : List GNode} (hf : GoodF f) (hs : SrtF f) (h0 : 0 < f.length) (acc : Int → Int × Int → Bool) : ((partF acc f).getD 0 (0, [])).1 = (f.getD 0 (0, [])).1 := by
  obtain ⟨-, -, hc0, -⟩ := part_good2 hf hs h0 acc
  obtain ⟨hPg, hPs⟩ := part_good hf hs acc
  have hPl := partL_len acc f f.length
  have ho := ord_of hPg (by omega)
  rw [hPl] at ho
  obtain ⟨n, -, -, e2, n0, n1, e⟩ := part_node hf hs h0 acc (i := 0) (by omega) (by omega)
  have : n = 0 := by rw [← e2]; exact ho.zero.1
  subst this
  exact e
/-- A part subsumes. -/
theorem part_general {h : HierD} {f : List GNode} (hf : GoodF f) (hs : SrtF f) (h0 : 0 < f.length) (acc : Int → Int × Int → Bool) : gsubF h (partF acc f) f = true := by
  obtain ⟨hcg, hcs, hc0, -⟩ := part_good2 hf hs h0 acc
  have hnode := fun i g0 g1 => part_node hf hs h0 acc (i := i) g0 g1
  have har := fun n hn => part_arcs hf hs h0 acc (n := n) hn
  obtain ⟨hPg, hPs⟩ := part_good hf hs acc
  have hPl := partL_len acc f f.length
  have ho := ord_of hPg (by omega)
  rw [hPl] at ho
  refine gsub_of hcg hc0 (part_RO hf hs h0 acc) (m := fun i => (dfs (partL acc f f.length) f.length [] 0).getD i.toNat 0) ⟨ho.zero.1, fun i g0 g1 => ?_, fun i g0 g1 => ?_, fun i g0 g1 x hx => ?_⟩
  · obtain ⟨n, hn, e1, e2, n0, n1, e3⟩ := hnode i g0 g1
    try simp only
    rw [e2]
    exact ⟨n0, n1⟩
  · obtain ⟨n, hn, e1, e2, n0, n1, e3⟩ := hnode i g0 g1
    try simp only
    rw [e2, e3]
    exact hsub_refl h _
  · obtain ⟨n, hn, e1, e2, n0, n1, e3⟩ := hnode i g0 g1
    try simp only
    rw [e2]
    rw [← e1, har n hn] at hx
    obtain ⟨a, ha, rfl⟩ := List.mem_map.1 hx
    have ha1 := (List.mem_filter.1 ha).1
    show tgtF (arcsAt f n) a.1 = _
    rw [tgt_in hs ha1]
    have hin : a.2 ∈ dfs (partL acc f f.length) f.length [] 0 := ho.cl n hn a (by rw [arcsAt, part_get acc n0 n1]; exact ha)
    exact (get_idxZ hin).2.2.symm
/-- Parts of what subsumes subsume parts. -/
theorem part_mono {h : HierD} {f g : List GNode} (hf : GoodF f) (hs : SrtF f) (h0 : 0 < f.length) (kf : GoodF g) (ks : SrtF g) (k0 : 0 < g.length) {m : Int → Int} (hm : Hom h f g m) (acc bcc : Int → Int × Int → Bool)
    (hab : ∀ n, (∃ p, walkF f 0 p = some n) → 0 ≤ n → n < (f.length : Int) → ∀ a ∈ arcsAt f n, acc n a = true → bcc (m n) (a.1, m a.2) = true) : gsubF h (partF acc f) (partF bcc g) = true := by
  obtain ⟨hcg, hcs, hc0, -⟩ := part_good2 hf hs h0 acc
  obtain ⟨kcg, kcs, kc0, -⟩ := part_good2 kf ks k0 bcc
  have hnode := fun i g0 g1 => part_node hf hs h0 acc (i := i) g0 g1
  have har := fun n hn => part_arcs hf hs h0 acc (n := n) hn
  have kar := fun n hn => part_arcs kf ks k0 bcc (n := n) hn
  obtain ⟨hPg, hPs⟩ := part_good hf hs acc
  have hPl := partL_len acc f f.length
  have ho := ord_of hPg (by omega)
  rw [hPl] at ho
  obtain ⟨kPg, kPs⟩ := part_good kf ks bcc
  have kPl := partL_len bcc g g.length
  have ko := ord_of kPg (by omega)
  rw [kPl] at ko
  have harc : ∀ n, 0 ≤ n → n < (f.length : Int) → ∀ a ∈ arcsAt f n, (a.1, m a.2) ∈ arcsAt g (m n) := by
    intro n n0 n1 a ha
    have h1 := hm.arc n n0 n1 a ha
    have hr := arcs_in' hf ha
    obtain ⟨b, hb, e1, e2⟩ := tgtF_mem (l := arcsAt g (m n)) (e := a.1) (by rw [h1]; exact (hm.rng _ hr.1 hr.2).1)
    rw [h1] at e2
    rw [← e1, ← e2]
    exact hb
  have hreach : ∀ n ∈ dfs (partL acc f f.length) f.length [] 0, (∃ p, walkF f 0 p = some n) ∧ m n ∈ dfs (partL bcc g g.length) g.length [] 0 := by
    have : ∀ n ∈ dfs (partL acc f f.length) f.length [] 0, 0 ≤ n ∧ n < (f.length : Int) ∧ (∃ p, walkF f 0 p = some n) ∧ m n ∈ dfs (partL bcc g g.length) g.length [] 0 := by
      refine dfs_pred ⟨by omega, by omega, ⟨[], rfl⟩, by rw [hm.zero]; exact ko.mem0⟩ ?_ f.length
      rintro x ⟨x0, x1, ⟨p, hp⟩, hx⟩ a ha
      rw [arcsAt, part_get acc x0 x1] at ha
      obtain ⟨ha1, ha2⟩ := List.mem_filter.1 ha
      have hr := arcs_in' hf ha1
      have hmx := hm.rng x x0 x1
      refine ⟨hr.1, hr.2, ⟨_, walk_arc hf hs hp ha1⟩, ?_⟩
      refine ko.cl (m x) hx (a.1, m a.2) ?_
      rw [arcsAt, part_get bcc hmx.1 hmx.2]
      exact List.mem_filter.2 ⟨harc x x0 x1 a ha1, hab x ⟨p, hp⟩ x0 x1 a ha1 ha2⟩
    exact fun n hn => (this n hn).2.2
  have hpf : (partF bcc g).length = (dfs (partL bcc g g.length) g.length [] 0).length := by
    have := canon_len (partL bcc g g.length)
    rw [kPl] at this
    exact this
  refine gsub_of hcg hc0 (part_RO hf hs h0 acc) (m := fun i => idxZ (dfs (partL bcc g g.length) g.length [] 0) (m ((dfs (partL acc f f.length) f.length [] 0).getD i.toNat 0))) ⟨?_, fun i g0 g1 => ?_, fun i g0 g1 => ?_, fun i g0 g1 x hx => ?_⟩
  · show idxZ _ (m ((dfs (partL acc f f.length) f.length [] 0).getD 0 0)) = 0
    rw [ho.zero.1, hm.zero]
    have := idxZ_get ko.ok.nd ko.zero.2
    rw [ko.zero.1] at this
    exact this
  · obtain ⟨n, hn, e1, e2, n0, n1, e3⟩ := hnode i g0 g1
    try simp only
    rw [e2, hpf]
    have := get_idxZ (hreach n hn).2
    exact ⟨this.1, this.2.1⟩
  · obtain ⟨n, hn, e1, e2, n0, n1, e3⟩ := hnode i g0 g1
    try simp only
    rw [e2, e3]
    have hz := get_idxZ (hreach n hn).2
    obtain ⟨n', -, -, e2', -, -, e3'⟩ := part_node kf ks k0 bcc (i := idxZ (dfs (partL bcc g g.length) g.length [] 0) (m n)) hz.1 (by rw [hpf]; exact hz.2.1)
    rw [hz.2.2] at e2'
    rw [e3', ← e2']
    exact hm.ty n n0 n1
  · obtain ⟨n, hn, e1, e2, n0, n1, e3⟩ := hnode i g0 g1
    try simp only
    rw [e2]
    rw [← e1, har n hn] at hx
    obtain ⟨a, ha, rfl⟩ := List.mem_map.1 hx
    obtain ⟨ha1, ha2⟩ := List.mem_filter.1 ha
    have hin : a.2 ∈ dfs (partL acc f f.length) f.length [] 0 := ho.cl n hn a (by rw [arcsAt, part_get acc n0 n1]; exact ha)
    have hz := (get_idxZ hin).2.2
    show tgtF (arcsAt (partF bcc g) (idxZ (dfs (partL bcc g g.length) g.length [] 0) (m n))) a.1 = idxZ _ (m ((dfs (partL acc f f.length) f.length [] 0).getD (idxZ (dfs (partL acc f f.length) f.length [] 0) a.2).toNat 0))
    rw [hz]
    have hb := hab n (hreach n hn).1 n0 n1 a ha1 ha2
    have hin2 : renD (dfs (partL bcc g g.length) g.length [] 0) (a.1, m a.2) ∈ arcsAt (partF bcc g) (idxZ (dfs (partL bcc g g.length) g.length [] 0) (m n)) := by
      rw [kar _ (hreach n hn).2]
      exact List.mem_map.2 ⟨_, List.mem_filter.2 ⟨harc n n0 n1 a ha1, hb⟩, rfl⟩
    exact tgt_in kcs hin2
theorem hom_walk {h : HierD} {f g : List GNode} (hf : GoodF f) (kf : GoodF g) (ks : SrtF g) {m : Int → Int} (hm : Hom h f g m) (h0 : 0 < f.length) (p : List Int) : ∀ n, walkF f 0 p = some n → 0 ≤ n ∧ n < (f.length : Int) ∧ walkF g 0 p = some (m n) := by
  induction p using list_snoc_ind with
  | h0 =>
    intro n h
    simp only [walkF, Option.some.injEq] at h
    subst h
    exact ⟨by omega, by omega, by simp only [walkF]; rw [hm.zero]⟩
  | h1 p e ih =>
    intro n h
    obtain ⟨x, hx, a, ha, e1, e2⟩ := walk_last h
    obtain ⟨x0, x1, hw⟩ := ih x hx
    have hr := arcs_in' hf ha
    have h1 := hm.arc x x0 x1 a ha
    obtain ⟨b, hb, c1, c2⟩ := tgtF_mem (l := arcsAt g (m x)) (e := a.1) (by rw [h1]; exact (hm.rng _ hr.1 hr.2).1)
    have hw2 := walk_arc kf ks hw hb
    rw [c1, e1, c2, h1, e2] at hw2
    rw [e2] at hr
    exact ⟨hr.1, hr.2, hw2⟩
theorem pdrop_mono {h : HierD} {f g : List GNode} (hf : GoodF f) (hs : SrtF f) (h0 : 0 < f.length) (kf : GoodF g) (ks : SrtF g) (k0 : 0 < g.length) {m : Int → Int} (hm : Hom h f g m) (A : List Int) : gsubF h (pdropF f A) (pdropF g A) = true :=
  part_mono hf hs h0 kf ks k0 hm _ _ fun _ _ _ _ _ _ h => h
theorem pkeep_mono {h : HierD} {f g : List GNode} (hf : GoodF f) (hs : SrtF f) (h0 : 0 < f.length) (kf : GoodF g) (ks : SrtF g) (k0 : 0 < g.length) {m : Int → Int} (hm : Hom h f g m) (ps : List (List Int)) : gsubF h (pkeepF f ps) (pkeepF g ps) = true := by
  refine part_mono hf hs h0 kf ks k0 hm _ _ fun n _ n0 n1 a ha hacc => ?_
  rw [accK_iff] at hacc ⊢
  obtain ⟨p, hp, p1, q, e1, e2, e3⟩ := hacc
  refine ⟨p, hp, p1, q, e1, (hom_walk hf kf ks hm h0 p1 n e2).2.2, ?_⟩
  have hr := arcs_in' hf ha
  have h1 := hm.arc n n0 n1 a ha
  obtain ⟨b, hb, c1, c2⟩ := tgtF_mem (l := arcsAt g (m n)) (e := a.1) (by rw [h1]; exact (hm.rng _ hr.1 hr.2).1)
  show 0 ≤ toF (arcsAt g (m n)) a.1
  rw [← c1, toF_in ks hb]
  exact (arcs_in' kf hb).1
theorem pdepth_mono {h : HierD} {f g : List GNode} (hf : GoodF f) (hs : SrtF f) (h0 : 0 < f.length) (kf : GoodF g) (ks : SrtF g) (k0 : 0 < g.length) {m : Int → Int} (hm : Hom h f g m) (d : Int) : gsubF h (pdepthF f d) (pdepthF g d) = true := by
  refine part_mono hf hs h0 kf ks k0 hm _ _ fun n hn n0 n1 a ha hacc => ?_
  rw [accT_iff] at hacc ⊢
  obtain ⟨p, hp⟩ := hn
  obtain ⟨q1, q2⟩ := first_min hf hs h0 p n hp
  have hw := (hom_walk hf kf ks hm h0 _ n q1).2.2
  have := (first_min kf ks k0 _ _ hw).2
  have hL : Ln f n = ((firstF f).getD n.toNat []).length := rfl
  omega
end
/- Plain: what is valid for a hierarchy is canonical. -/
section
theorem compile_bounds (d : List DeclD) : (compileF d).1.1.length ≤ 256 ∧ (compileF d).1.2.length ≤ 64 := by
  unfold compileF
  split
  · exact ⟨by simp, by simp⟩
  · rename_i hv
    have hv : (valuesF d).2 = 0 := Classical.byContradiction hv
    have h5 : check5F d = 0 := by
      unfold valuesF at hv
      split at hv
      · rename_i h; exact absurd hv h
      · rename_i h; exact Classical.byContradiction h
    obtain ⟨hz, hf64, -⟩ := check5_zero h5
    obtain ⟨-, hlen, -⟩ := codesF_zero hz
    refine ⟨?_, ?_⟩
    · show (typeG _ _ _).length ≤ 256
      rw [typeG_len, codesR_len]
      exact hlen
    · show (featuresF d).1.length ≤ 64
      unfold featuresF
      rw [if_neg (by rw [h5]; simp)]
      show ((featsF d).map (featD d)).length ≤ 64
      rw [List.length_map]
      exact hf64
theorem hier_bounds (d : List DeclD) : (hierF d).1.length ≤ 256 ∧ (hierF d).2.length ≤ 64 := by
  unfold hierF
  split
  · exact compile_bounds d
  · exact compile_bounds preludeF
theorem valid_good {d : List DeclD} {f : List GNode} (h : validB (hierF d) f = true) : GoodF f ∧ SrtF f ∧ 0 < f.length ∧ TyOk (hierF d) f ∧ canonicalB f = true ∧ f.length ≤ 12 := by
  obtain ⟨hb1, hb2⟩ := hier_bounds d
  unfold validB at h
  rw [Bool.and_eq_true, beq_iff_eq] at h
  obtain ⟨hl, hc⟩ := h
  unfold check7F at hc
  split at hc
  · rename_i h1; exact absurd hc h1
  · rename_i h1
    split at hc
    · cases hc
    · rename_i h2
      split at hc
      · cases hc
      · rename_i h3
        have h1 : (canonF f).2 = 0 := Classical.byContradiction h1
        have h2 : f.all (ndR (hierF d)) = true := by simpa using h2
        have h3 : compareF f (canonF f).1 = 0 := by simpa using h3
        have hcan : canonicalB f = true := by
          unfold canonicalB
          simp only [Bool.and_eq_true, beq_iff_eq]
          refine ⟨⟨hl, ?_⟩, h1, ?_⟩
          · rw [List.all_eq_true] at h2 ⊢
            intro x hx
            have := h2 x hx
            unfold ndR at this
            rw [Bool.and_eq_true, decide_eq_true_eq, List.all_eq_true] at this
            unfold ndB
            rw [Bool.and_eq_true, decide_eq_true_eq, List.all_eq_true]
            refine ⟨by omega, fun a ha => ?_⟩
            have := this.2 a ha
            unfold ftR at this
            rw [decide_eq_true_eq] at this
            unfold ftB
            rw [decide_eq_true_eq]
            omega
          · rw [← compareF_eq h3]
            exact compareF_self f
        obtain ⟨g1, g2, g3, -⟩ := canonical_good hcan
        refine ⟨g1, g2, g3, fun x hx => ?_, hcan, (light_small hl).1⟩
        have hz : formF f = 0 := by
          unfold canonF at h1
          split at h1
          · rename_i hh; exact hh
          · exact h1
        have h4 : 0 ≤ x.1 := by
          unfold formF at hz
          split at hz
          · cases hz
          · split at hz
            · cases hz
            · exact (formG_zero hz x hx).1
        have h5 := List.all_eq_true.1 h2 x hx
        unfold ndR at h5
        rw [Bool.and_eq_true, decide_eq_true_eq] at h5
        exact ⟨h4, h5.1⟩
theorem small_good {f : List GNode} (hf : GoodF f) : SmallF f := ⟨hf.1, fun x hx => (hf.2 x hx).1⟩
end
/- The law RestrictTwice. -/
section
abbrev CaseD := List DeclD × List GNode × List GNode × List Int × List Int × List (List Int) × Int × Int
def light15F (h : HierD) (c : CaseD) : Bool := validB h c.2.1 && validB h c.2.2.1 && decide ((c.2.2.2.1.length : Int) ≤ 20) && decide ((c.2.2.2.2.1.length : Int) ≤ 20) && lightPathsF c.2.2.2.2.2.1
attribute [local go_sem] hierS validS lightPathsS exS pdropS pkeepS pdepthS equalS
def light15S : Spec := { ins := [T33, T29], pre := fun _ => True, out := fun (h, c, _) => [.p .bool (light15F h c)], lend := true }
attribute [local go_sem] light15S
theorem light15_ok : FnOk Tryz.prog 15 light15S := by
  refine fn_ok Tryz.func15 (by kernel_rfl) rfl Tryz.ntmps15 (by decide) (by kernel_rfl) (tyTab_ok [(31, validS), (23, lightPathsS)]) (fns_cons valid_ok (fns_cons lightPaths_ok fns_nil)) ?_
  rintro w0 O0 ⟨⟨ht, hf⟩, ⟨cd, cf, cg, ca, cb, cp, c1, c2⟩, u⟩ hc - -
  simp only [light15S, entEnv]
  repeat' (first | exact trivial | refine eS rfl ?_ | refine ev_out_inv ?_ | refine rX [0, 1, 2, 3, 4] hc ?_ ?_ | (refine rC (fun hcond => ?_) (fun hcond => ?_) <;> try (cases hcond; done)))
  exact ev_fin hc [.tmp 4] rfl (.inl rfl) (by simp) (by unfold light15F; first | exact eR | refine eRM ?_)
def lawTS : Spec := { ins := [T29], pre := fun _ => True, out := fun _ => [.p .bool true] }
attribute [local go_sem] lawTS
theorem law10_ok : FnOk Tryz.prog 3 lawTS := by
  refine fn_ok Tryz.func3 (by kernel_rfl) rfl Tryz.ntmps3 (by decide) (by kernel_rfl) (tyTab_ok [(14, hierS), (15, light15S), (16, exS), (17, pdropS), (18, pkeepS), (20, pdepthS), (19, equalS)]) (fns_cons hier_ok (fns_cons light15_ok (fns_cons ex_ok (fns_cons pdrop_ok (fns_cons pkeep_ok (fns_cons pdepth_ok (fns_cons equal_ok fns_nil))))))) ?_
  rintro w0 O0 ⟨⟨cd, cf, cg, ca, cb, cp, c1, c2⟩, u⟩ hc - -
  simp only [lawTS, entEnv]
  repeat' (first | exact trivial | refine eS rfl ?_ | refine ev_out_inv ?_ | refine rX [0, 1, 2, 3, 4, 5, 6, 13, 35] hc ?_ ?_ | (refine rC (fun hcond => ?_) (fun hcond => ?_) <;> try (cases hcond; done)))
  · exact ev_fin hc [.tmp 2] rfl (.inl rfl) (by simp) (by first | exact eR | refine eRM ?_)
  · have hli := hcond
    have hli2 : light15F (hierF cd) (cd, cf, cg, ca, cb, cp, c1, c2) = true := hcond
    unfold light15F at hli2
    simp only [Bool.and_eq_true, decide_eq_true_eq] at hli2
    obtain ⟨⟨⟨⟨hvf, hvg⟩, hla⟩, hlb⟩, hlp⟩ := hli2
    obtain ⟨hg, hs, h0, hty, hcan, h12⟩ := valid_good hvf
    have hla : ca.length ≤ 20 := by omega
    have hlb : cb.length ≤ 20 := by omega
    refine ev_mix drawsAny hc 12 [([2, 3, 4], 5), ([6, 7], 8), ([0, 1], 9), ([10], 11)] [] (by kernel_rfl) (mix_step (by simp only [go_sem, Nat.reduceEqDiff, reduceCtorEq, Nat.reduceAdd, Nat.reduceSub, Nat.reduceMul, Nat.reduceLeDiff, Nat.reduceLT, Int.reduceLE, Int.reduceToNat, Int.reduceNeg, ↓reduceIte]; rfl) ?_ rfl rfl (by simp only [go_sem, Nat.reduceEqDiff, reduceCtorEq, Nat.reduceAdd, Nat.reduceSub, Nat.reduceMul, Nat.reduceLeDiff, Nat.reduceLT, Int.reduceLE, Int.reduceToNat, Int.reduceNeg, ↓reduceIte]; rfl) (by simp only [go_sem, Nat.reduceEqDiff, reduceCtorEq, Nat.reduceAdd, Nat.reduceSub, Nat.reduceMul, Nat.reduceLeDiff, Nat.reduceLT, Int.reduceLE, Int.reduceToNat, Int.reduceNeg, ↓reduceIte]; rfl) ?_)
    · trivial
    · refine loud_step hc [17] (by simp only [go_sem, Nat.reduceEqDiff, reduceCtorEq, Nat.reduceAdd, Nat.reduceSub, Nat.reduceMul, Nat.reduceLeDiff, Nat.reduceLT, Int.reduceLE, Int.reduceToNat, Int.reduceNeg, ↓reduceIte]; rfl) (by simp only [go_sem, Nat.reduceEqDiff, reduceCtorEq, Nat.reduceAdd, Nat.reduceSub, Nat.reduceMul, Nat.reduceLeDiff, Nat.reduceLT, Int.reduceLE, Int.reduceToNat, Int.reduceNeg, ↓reduceIte]) rfl rfl rfl (by simp only [go_sem, Nat.reduceEqDiff, reduceCtorEq, Nat.reduceAdd, Nat.reduceSub, Nat.reduceMul, Nat.reduceLeDiff, Nat.reduceLT, Int.reduceLE, Int.reduceToNat, Int.reduceNeg, ↓reduceIte]) rfl ?_ ?_
      · simp only [maxN]; dsimp only [Ty.den] at *; omega
      · refine mix_step (by simp only [go_sem, Nat.reduceEqDiff, reduceCtorEq, Nat.reduceAdd, Nat.reduceSub, Nat.reduceMul, Nat.reduceLeDiff, Nat.reduceLT, Int.reduceLE, Int.reduceToNat, Int.reduceNeg, ↓reduceIte]; rfl) ?_ rfl rfl (by simp only [go_sem, Nat.reduceEqDiff, reduceCtorEq, Nat.reduceAdd, Nat.reduceSub, Nat.reduceMul, Nat.reduceLeDiff, Nat.reduceLT, Int.reduceLE, Int.reduceToNat, Int.reduceNeg, ↓reduceIte]; rfl) (by simp only [go_sem, Nat.reduceEqDiff, reduceCtorEq, Nat.reduceAdd, Nat.reduceSub, Nat.reduceMul, Nat.reduceLeDiff, Nat.reduceLT, Int.reduceLE, Int.reduceToNat, Int.reduceNeg, ↓reduceIte]; rfl) ?_
        · trivial
        · refine loud_frz 17 (loud_step hc [17] (by simp only [go_sem, Nat.reduceEqDiff, reduceCtorEq, Nat.reduceAdd, Nat.reduceSub, Nat.reduceMul, Nat.reduceLeDiff, Nat.reduceLT, Int.reduceLE, Int.reduceToNat, Int.reduceNeg, ↓reduceIte]; rfl) (by simp only [go_sem, Nat.reduceEqDiff, reduceCtorEq, Nat.reduceAdd, Nat.reduceSub, Nat.reduceMul, Nat.reduceLeDiff, Nat.reduceLT, Int.reduceLE, Int.reduceToNat, Int.reduceNeg, ↓reduceIte]) rfl rfl rfl (by simp only [go_sem, Nat.reduceEqDiff, reduceCtorEq, Nat.reduceAdd, Nat.reduceSub, Nat.reduceMul, Nat.reduceLeDiff, Nat.reduceLT, Int.reduceLE, Int.reduceToNat, Int.reduceNeg, ↓reduceIte]) rfl ?_ rfl) rfl (by simp only [go_sem, Nat.reduceEqDiff, reduceCtorEq, Nat.reduceAdd, Nat.reduceSub, Nat.reduceMul, Nat.reduceLeDiff, Nat.reduceLT, Int.reduceLE, Int.reduceToNat, Int.reduceNeg, ↓reduceIte]) (by simp only [go_sem, Nat.reduceEqDiff, reduceCtorEq, Nat.reduceAdd, Nat.reduceSub, Nat.reduceMul, Nat.reduceLeDiff, Nat.reduceLT, Int.reduceLE, Int.reduceToNat, Int.reduceNeg, ↓reduceIte]; rfl) ?_
          · simp only [maxN]; dsimp only [Ty.den] at *; omega
          · refine mix_step (by simp only [go_sem, Nat.reduceEqDiff, reduceCtorEq, Nat.reduceAdd, Nat.reduceSub, Nat.reduceMul, Nat.reduceLeDiff, Nat.reduceLT, Int.reduceLE, Int.reduceToNat, Int.reduceNeg, ↓reduceIte]; rfl) ?_ rfl rfl (by simp only [go_sem, Nat.reduceEqDiff, reduceCtorEq, Nat.reduceAdd, Nat.reduceSub, Nat.reduceMul, Nat.reduceLeDiff, Nat.reduceLT, Int.reduceLE, Int.reduceToNat, Int.reduceNeg, ↓reduceIte]; rfl) (by simp only [go_sem, Nat.reduceEqDiff, reduceCtorEq, Nat.reduceAdd, Nat.reduceSub, Nat.reduceMul, Nat.reduceLeDiff, Nat.reduceLT, Int.reduceLE, Int.reduceToNat, Int.reduceNeg, ↓reduceIte]; rfl) ?_
            · trivial
            · refine loud_step hc [] (by simp only [go_sem, Nat.reduceEqDiff, reduceCtorEq, Nat.reduceAdd, Nat.reduceSub, Nat.reduceMul, Nat.reduceLeDiff, Nat.reduceLT, Int.reduceLE, Int.reduceToNat, Int.reduceNeg, ↓reduceIte]; rfl) (by simp only [go_sem, Nat.reduceEqDiff, reduceCtorEq, Nat.reduceAdd, Nat.reduceSub, Nat.reduceMul, Nat.reduceLeDiff, Nat.reduceLT, Int.reduceLE, Int.reduceToNat, Int.reduceNeg, ↓reduceIte]) rfl rfl rfl (by simp only [go_sem, Nat.reduceEqDiff, reduceCtorEq, Nat.reduceAdd, Nat.reduceSub, Nat.reduceMul, Nat.reduceLeDiff, Nat.reduceLT, Int.reduceLE, Int.reduceToNat, Int.reduceNeg, ↓reduceIte]) rfl ?_ ?_
              · exact ⟨hg, hs, h0, by dsimp only [Ty.den] at *; omega⟩
              · refine mix_step (by simp only [go_sem, Nat.reduceEqDiff, reduceCtorEq, Nat.reduceAdd, Nat.reduceSub, Nat.reduceMul, Nat.reduceLeDiff, Nat.reduceLT, Int.reduceLE, Int.reduceToNat, Int.reduceNeg, ↓reduceIte]; rfl) ?_ rfl rfl (by simp only [go_sem, Nat.reduceEqDiff, reduceCtorEq, Nat.reduceAdd, Nat.reduceSub, Nat.reduceMul, Nat.reduceLeDiff, Nat.reduceLT, Int.reduceLE, Int.reduceToNat, Int.reduceNeg, ↓reduceIte]; rfl) (by simp only [go_sem, Nat.reduceEqDiff, reduceCtorEq, Nat.reduceAdd, Nat.reduceSub, Nat.reduceMul, Nat.reduceLeDiff, Nat.reduceLT, Int.reduceLE, Int.reduceToNat, Int.reduceNeg, ↓reduceIte]; rfl) ?_
                · trivial
                · refine loud_step hc [] (by simp only [go_sem, Nat.reduceEqDiff, reduceCtorEq, Nat.reduceAdd, Nat.reduceSub, Nat.reduceMul, Nat.reduceLeDiff, Nat.reduceLT, Int.reduceLE, Int.reduceToNat, Int.reduceNeg, ↓reduceIte]; rfl) (by simp only [go_sem, Nat.reduceEqDiff, reduceCtorEq, Nat.reduceAdd, Nat.reduceSub, Nat.reduceMul, Nat.reduceLeDiff, Nat.reduceLT, Int.reduceLE, Int.reduceToNat, Int.reduceNeg, ↓reduceIte]) rfl rfl rfl (by simp only [go_sem, Nat.reduceEqDiff, reduceCtorEq, Nat.reduceAdd, Nat.reduceSub, Nat.reduceMul, Nat.reduceLeDiff, Nat.reduceLT, Int.reduceLE, Int.reduceToNat, Int.reduceNeg, ↓reduceIte]) rfl ?_ ?_
                  · trivial
                  · refine mix_last (by simp only [go_sem, Nat.reduceEqDiff, reduceCtorEq, Nat.reduceAdd, Nat.reduceSub, Nat.reduceMul, Nat.reduceLeDiff, Nat.reduceLT, Int.reduceLE, Int.reduceToNat, Int.reduceNeg, ↓reduceIte]; rfl) ?_ rfl (evLp_all [0, 1, 2, 3, 4, 5, 6, 13, 35] hc (by simp only [go_sem, Nat.reduceEqDiff, reduceCtorEq, Nat.reduceAdd, Nat.reduceSub, Nat.reduceMul, Nat.reduceLeDiff, Nat.reduceLT, Int.reduceLE, Int.reduceToNat, Int.reduceNeg, ↓reduceIte]; rfl) ?_ ?_)
                    · trivial
                    · trivial
                    · have hD : ∀ (A : List Int), GoodF (pdropF cf A) ∧ SrtF (pdropF cf A) ∧ 0 < (pdropF cf A).length := fun A => by
                        have := part_good2 hg hs h0 (accD (goneF A))
                        exact ⟨this.1, this.2.1, this.2.2.1⟩
                      have hK := part_good2 hg hs h0 (accK (keptF cf cp))
                      have hT : ∀ (d : Int), GoodF (pdepthF cf d) ∧ SrtF (pdepthF cf d) ∧ 0 < (pdepthF cf d).length := fun d => by
                        have := part_good2 hg hs h0 (accT (firstF cf) d)
                        exact ⟨this.1, this.2.1, this.2.2.1⟩
                      have hK : GoodF (pkeepF cf cp) ∧ SrtF (pkeepF cf cp) ∧ 0 < (pkeepF cf cp).length := ⟨hK.1, hK.2.1, hK.2.2.1⟩
                      obtain ⟨ht1, ht2⟩ := pdrop_twice hg hs h0 ca cb
                      have ht3 := pkeep_twice hg hs h0 cp
                      have ht4 := pdepth_twice hg hs h0 c1 c2
                      have hsD := small_good (hD (ca ++ cb)).1
                      have hsK := small_good hK.1
                      have hsT := fun d => small_good (hT d).1
                      have hla2 : ca.length ≤ 100000 := by omega
                      have hlb2 : cb.length ≤ 100000 := by omega
                      repeat' (first | exact trivial | refine eS rfl ?_ | refine ev_out_inv ?_ | refine rX [0, 1, 2, 3, 4, 5, 6, 13, 35] hc ?_ ?_ | (refine rC (fun hcond => ?_) (fun hcond => ?_) <;> try (cases hcond; done)))
                      · exact ⟨hg, hs, h0⟩
                      · rw [if_pos hcond] at ht4
                        rw [ht1, ht2, ht3, ht4]
                        exact ⟨⟨hg, hs, h0, hla2⟩, ⟨(hD ca).1, (hD ca).2.1, (hD ca).2.2, hlb2⟩, ⟨hsD, hsD⟩, fun _ => ⟨hg, hs, h0, hlb2⟩, fun _ => ⟨(hD cb).1, (hD cb).2.1, (hD cb).2.2, hla2⟩, fun _ => ⟨hsD, hsD⟩, fun _ => hK, fun _ => ⟨hsK, hsK⟩, fun _ => ⟨hg, hs, h0⟩, fun _ => hT c1, fun _ => ⟨hg, hs, h0⟩, fun _ => ⟨hsT c2, hsT c2⟩⟩
                      · rw [if_pos hcond] at ht4
                        rw [ht1, ht2, ht3, ht4, compareF_self, compareF_self, compareF_self]
                        exact ev_fin hc [.tmp 2] rfl (.inl rfl) (by simp) (by first | exact eR | refine eRM ?_)
                      · rw [if_neg (Int.not_lt.2 hcond)] at ht4
                        rw [ht1, ht2, ht3, ht4]
                        exact ⟨⟨hg, hs, h0, hla2⟩, ⟨(hD ca).1, (hD ca).2.1, (hD ca).2.2, hlb2⟩, ⟨hsD, hsD⟩, fun _ => ⟨hg, hs, h0, hlb2⟩, fun _ => ⟨(hD cb).1, (hD cb).2.1, (hD cb).2.2, hla2⟩, fun _ => ⟨hsD, hsD⟩, fun _ => hK, fun _ => ⟨hsK, hsK⟩, fun _ => ⟨hg, hs, h0⟩, fun _ => hT c1, fun _ => ⟨hg, hs, h0⟩, fun _ => ⟨hsT c1, hsT c1⟩⟩
                      · rw [if_neg (Int.not_lt.2 hcond)] at ht4
                        rw [ht1, ht2, ht3, ht4, compareF_self, compareF_self, compareF_self]
                        exact ev_fin hc [.tmp 2] rfl (.inl rfl) (by simp) (by first | exact eR | refine eRM ?_)
end
/- The laws RestrictGeneral, RestrictMonotone. -/
section
attribute [local go_sem] lawTS hierS exS pdropS pkeepS pdepthS gsubS light15S
/-- What the statement asks of a part. -/
structure PartOk (h : HierD) (f g : List GNode) : Prop where
  good : GoodF g
  pos : 0 < g.length
  ty : TyOk h g
  root : (g.getD 0 (0, [])).1 = (f.getD 0 (0, [])).1
  sub : gsubF h g f = true
theorem partOk {h : HierD} {f : List GNode} (hf : GoodF f) (hs : SrtF f) (h0 : 0 < f.length) (ht : TyOk h f) (acc : Int → Int × Int → Bool) : PartOk h f (partF acc f) :=
  ⟨(part_good2 hf hs h0 acc).1, (part_good2 hf hs h0 acc).2.2.1, part_ty hf hs h0 ht acc, part_type0 hf hs h0 acc, part_general hf hs h0 acc⟩
structure LightOk (d : List DeclD) (f g : List GNode) (ca : List Int) : Prop where
  f1 : GoodF f
  f2 : SrtF f
  f3 : 0 < f.length
  f4 : TyOk (hierF d) f
  g1 : GoodF g
  g2 : SrtF g
  g3 : 0 < g.length
  g4 : TyOk (hierF d) g
  la : ca.length ≤ 100000
theorem lightOk {d : List DeclD} {f g : List GNode} {ca cb : List Int} {cp : List (List Int)} {c1 c2 : Int} (h : light15F (hierF d) (d, f, g, ca, cb, cp, c1, c2) = true) : LightOk d f g ca := by
  unfold light15F at h
  simp only [Bool.and_eq_true, decide_eq_true_eq] at h
  obtain ⟨⟨⟨⟨hvf, hvg⟩, hla⟩, hlb⟩, hlp⟩ := h
  obtain ⟨a1, a2, a3, a4, -, -⟩ := valid_good hvf
  obtain ⟨b1, b2, b3, b4, -, -⟩ := valid_good hvg
  exact ⟨a1, a2, a3, a4, b1, b2, b3, b4, by omega⟩
theorem law12_ok : FnOk Tryz.prog 4 lawTS := by
  refine fn_ok Tryz.func4 (by kernel_rfl) rfl Tryz.ntmps4 (by decide) (by kernel_rfl) (tyTab_ok [(14, hierS), (15, light15S), (16, exS), (17, pdropS), (18, pkeepS), (20, pdepthS), (21, gsubS)] [29]) (fns_cons hier_ok (fns_cons light15_ok (fns_cons ex_ok (fns_cons pdrop_ok (fns_cons pkeep_ok (fns_cons pdepth_ok (fns_cons gsub_ok fns_nil))))))) ?_
  rintro w0 O0 ⟨⟨cd, cf, cg, ca, cb, cp, c1, c2⟩, u⟩ hc - -
  simp only [lawTS, entEnv]
  repeat' (first | exact trivial | refine eS rfl ?_ | refine ev_out_inv ?_ | refine rX [0, 1, 2, 3, 4, 5, 12, 33, 70] hc ?_ ?_ | (refine rC (fun hcond => ?_) (fun hcond => ?_) <;> try (cases hcond; done)))
  · exact ev_fin hc [.tmp 2] rfl (.inl rfl) (by simp) (by first | exact eR | refine eRM ?_)
  · have hL := lightOk (d := cd) hcond
    exact ⟨⟨hL.f1, hL.f2, hL.f3, hL.la⟩, hL.f1, hL.f2, hL.f3⟩
  · have hL := lightOk (d := cd) hcond
    have hP : ∀ g ∈ [pdropF cf ca, pkeepF cf cp, pdepthF cf c1], PartOk (hierF cd) cf g := by
      intro g hg
      simp only [List.mem_cons, List.not_mem_nil, or_false] at hg
      rcases hg with rfl | rfl | rfl
      · exact partOk hL.f1 hL.f2 hL.f3 hL.f4 _
      · exact partOk hL.f1 hL.f2 hL.f3 hL.f4 _
      · exact partOk hL.f1 hL.f2 hL.f3 hL.f4 _
    have hl3 : [pdropF cf ca, pkeepF cf cp, pdepthF cf c1].length = 3 := rfl
    generalize [pdropF cf ca, pkeepF cf cp, pdepthF cf c1] = L at *
    refine ev_loop (ι := {i : Nat // i ≤ 3}) (fun i => ⟨[(1, .bp 1 [] 0), (3, .bp 3 [] 0), (4, .p T42 L), (5, .p (.int .i64) (i.1 : Int))], [(1, .box 29 true [.p T22 cd, .p T25 cf, .p T25 cg, .p T26 ca, .p T26 cb, .p T27 cp, .p T3 c1, .p T3 c2]), (3, .box 33 true [.p T30 (hierF cd).1, .p T31 (hierF cd).2])]⟩) (fun i => 3 - i.1) ⟨0, by omega⟩ (ent_match [(1, .nm 1), (3, .nm 3)] rfl rfl ?_ ?_) (fun i => ?_)
    · first | exact eN | refine eM ?_
    · first | exact eN | refine eM ?_
    · obtain ⟨i, hi⟩ := i
      have hQ := fun h : i < L.length => hP _ (mem_of_take_succ L [] h)
      simp only
      repeat' (first | exact trivial | refine eS rfl ?_ | refine ev_out_inv ?_ | refine rX [0, 1, 2, 3, 4, 5, 12, 33, 70] hc ?_ ?_ | (refine rC (fun hcond => ?_) (fun hcond => ?_) <;> try (cases hcond; done)))
      · have hi2 : i < L.length := Int.ofNat_lt.1 (by assumption)
        have q := hQ hi2
        exact ⟨by assumption, fun _ => by assumption, fun _ => Int.ofNat_lt.2 q.pos, fun _ => Int.ofNat_lt.2 hL.f3, fun _ => by assumption, fun _ => ⟨q.good, q.pos, hL.f1, hL.f3, q.ty, hL.f4⟩⟩
      · exfalso
        have hi2 : i < L.length := Int.ofNat_lt.1 (by assumption)
        have q := hQ hi2
        rcases hcond with (h | h) | h
        · have h1 := q.pos
          have h2 : ((L.getD i []).length : Int) = 0 := h
          omega
        · exact h q.root
        · have h1 := q.sub
          rw [show gsubF (hierF cd) (L.getD i []) cf = false from h] at h1
          cases h1
      · omega
      · have hi2 : i < L.length := Int.ofNat_lt.1 (by assumption)
        refine ⟨⟨i + 1, by omega⟩, by simp only; omega, ent_match [(1, .nm 1), (3, .nm 3)] rfl rfl ?_ ?_⟩
        · first | exact eN | refine eM ?_
        · first | exact eN | refine eM ?_
      · exact ev_fin hc [.tmp 2] rfl (.inl rfl) (by simp) (by first | exact eR | refine eRM ?_)
theorem law13_ok : FnOk Tryz.prog 5 lawTS := by
  refine fn_ok Tryz.func5 (by kernel_rfl) rfl Tryz.ntmps5 (by decide) (by kernel_rfl) (tyTab_ok [(14, hierS), (15, light15S), (16, exS), (17, pdropS), (18, pkeepS), (20, pdepthS), (21, gsubS)]) (fns_cons hier_ok (fns_cons light15_ok (fns_cons ex_ok (fns_cons pdrop_ok (fns_cons pkeep_ok (fns_cons pdepth_ok (fns_cons gsub_ok fns_nil))))))) ?_
  rintro w0 O0 ⟨⟨cd, cf, cg, ca, cb, cp, c1, c2⟩, u⟩ hc - -
  simp only [lawTS, entEnv]
  have he : ((hierF cd).1, (hierF cd).2) = hierF cd := rfl
  repeat' (first | exact trivial | refine eS rfl ?_ | refine ev_out_inv ?_ | refine rX [0, 1, 2, 3, 19] hc ?_ ?_ | (refine rC (fun hcond => ?_) (fun hcond => ?_) <;> try (cases hcond; done)))
  · intro h
    rw [he] at h ⊢
    have hL := lightOk (d := cd) (by simpa using h)
    exact ⟨hL.f1, hL.f3, hL.g1, hL.g3, hL.f4, hL.g4⟩
  · exact ev_fin hc [.tmp 2] rfl (.inl rfl) (by simp) (by first | exact eR | refine eRM ?_)
  · rw [he] at hcond ⊢
    have hL := lightOk (d := cd) hcond.1
    have hf : ∀ acc, GoodF (partF acc cf) ∧ SrtF (partF acc cf) ∧ 0 < (partF acc cf).length := fun acc => by
      have := part_good2 hL.f1 hL.f2 hL.f3 acc
      exact ⟨this.1, this.2.1, this.2.2.1⟩
    have hg : ∀ acc, GoodF (partF acc cg) ∧ SrtF (partF acc cg) ∧ 0 < (partF acc cg).length := fun acc => by
      have := part_good2 hL.g1 hL.g2 hL.g3 acc
      exact ⟨this.1, this.2.1, this.2.2.1⟩
    have kf := fun acc => part_ty hL.f1 hL.f2 hL.f3 hL.f4 acc
    have kg := fun acc => part_ty hL.g1 hL.g2 hL.g3 hL.g4 acc
    have q1 : (GoodF cf ∧ SrtF cf ∧ 0 < List.length cf) := ⟨hL.f1, hL.f2, hL.f3⟩
    have q2 : (GoodF cg ∧ SrtF cg ∧ 0 < List.length cg) := ⟨hL.g1, hL.g2, hL.g3⟩
    exact ⟨⟨hL.f1, hL.f2, hL.f3, hL.la⟩, ⟨hL.g1, hL.g2, hL.g3, hL.la⟩, ⟨(hf _).1, (hf _).2.2, (hg _).1, (hg _).2.2, kf _, kg _⟩, fun _ => q1, fun _ => q2, fun _ => ⟨(hf _).1, (hf _).2.2, (hg _).1, (hg _).2.2, kf _, kg _⟩, fun _ => q1, fun _ => q2, fun _ => ⟨(hf _).1, (hf _).2.2, (hg _).1, (hg _).2.2, kf _, kg _⟩⟩
  · rw [he] at hcond ⊢
    have hL := lightOk (d := cd) hcond.1
    obtain ⟨m, hm⟩ := hom_of hL.f1 hL.f3 hL.g1 hL.g3 hcond.2
    rw [pdrop_mono hL.f1 hL.f2 hL.f3 hL.g1 hL.g2 hL.g3 hm, pkeep_mono hL.f1 hL.f2 hL.f3 hL.g1 hL.g2 hL.g3 hm, pdepth_mono hL.f1 hL.f2 hL.f3 hL.g1 hL.g2 hL.g3 hm]
    exact ev_fin hc [.tmp 2] rfl (.inl rfl) (by simp) (by first | exact eR | refine eRM ?_)
end
end Go.Proofs.YtpikphnjpldoiaaGreat.Fw
