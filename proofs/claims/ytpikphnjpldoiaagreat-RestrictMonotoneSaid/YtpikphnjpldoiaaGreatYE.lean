/- The contracts of the reference's functions on codes, features and hierarchies. -/
/- Functions of grammarlabref04: family. -/
import Derived.Test.YtpikphnjpldoiaaGreatYD
set_option linter.unusedVariables false
set_option linter.unusedSimpArgs false
namespace Go.Proofs.YtpikphnjpldoiaaGreat.Fw
open Go
attribute [local irreducible] Ev
attribute [local go_sem] cx_tb entEnv List.toList_toArray evSeq evG evK vcK guardOf guardT guardB_true guardB_false step1 step0 stepQ takesIn namesParts namesOf namesStore frzAll frz frz1 fixN frzEnv frzObjs drpEnv drpObjs AV.frz AV.frzs AV.drp AV.drps AV.names AV.namess aq qmap qPick qAlloc qBox qBuild qBuildSlice qBuildSlice2 qLoad qLoadB qLoadB2 qLoadE qLoadE2 qLoadE3 qFieldI qOff qPart qField qIndexA qIndex qIndexS qNil qBin qUn qConv qMake qMake2 qSlice qExtract qLen qAppend qAppend2 qAppend3 qMin qMax qCall qCall2 qCall3 qBuiltin qCallee aloud lStoreD lStore lStoreB lStoreB2 lStoreE lStoreE3 lStoreE4 lCallee lBuiltin lAppend lAppend2 lAppend3 lAppend4 opv lk constAV optAV sliceQ bin binI binS zf1 zfs pfs AV.cells nthOff loadB offB storeB notAg fitsT fitsO Ty.cell1 fieldOk partsT partsAg argsT asT asT1 asTs pairO srT castTo_self getF setF getP setP offP offF fldT rvAV rvObj rvAVs rvObjs resAV RV.flat Ty.flat Ty.size St.add upd del fresh Value.oneCell' refZ Ty.dflt sub_all sub_one sub_take sub_end List.take_succ_cons List.take_zero List.length_cons cast0 castS sub_app take_app sub_app1 take_app1 take_one1 natC zero_le_natC i64_min i64_max u64_min u64_max u8_min u8_max inK_i64 inK_u64 inK_u8 Option.map_some Option.map_none Option.bind_some Option.getD_some Option.getD_none Option.isNone_none Option.isNone_some Bool.and_true Bool.true_and Bool.and_false Bool.false_and Bool.not_true Bool.not_false if_true if_false List.length_cons List.length_nil and_true true_and and_self List.all_cons List.all_nil List.append_nil List.nil_append List.cons_append List.getElem?_cons_zero List.getElem?_cons_succ List.getElem?_nil List.map_cons List.map_nil List.set_cons_zero List.set_cons_succ List.isEmpty_nil List.isEmpty_cons decide_true decide_false beq_self_eq_true bne_self_eq_false Nat.zero_add Nat.add_zero Nat.sub_zero Int.toNat_natCast Int.toNat_zero Int.toNat_one List.take_length List.length_append List.length_singleton true_or or_true or_self false_or or_false Ty.agg.injEq Ty.slice.injEq Ty.prod.injEq Ty.int.injEq Option.some.injEq beq_iff_eq evM evMG evMQ opM isPick viewE viewS viewG opTs opTmp consE guardM guardM1 guardM2 sideM sideM2 pickM pickM2 sufB chEq_nil chEq_nc chEq_cn chEq_cons memB dstOf Op.operands Call.operands List.filterMap_cons List.filterMap_nil List.append_eq Bool.cond_false_right Bool.cond_true_left cond_true cond_false implies_true decide_eq_true_eq beq_true beq_false Bool.or_true Bool.or_false Bool.true_or Bool.false_or Option.isSome_some fieldV namesAg namesAgs capNs qClo qClo2 qMakeMap qMakeMap2 qMakeMap3 qLook qLook2 qLook3 qLook4 keyT keyP eqT inB lMapUp lMapUp2 lMapUp3 namesMap argEnv cm_tb List.drop_zero pruneR prune rem1 afterM addDst fgtEnv AV.fgt AV.fgts Obj.fgt restObjs handed memB calleeOf opvs matchArgs matchArg List.any_cons List.any_nil evF evFO evFQ evFK addQ frOk qs List.flatMap_cons List.flatMap_nil List.cons_append tn appN fgtEN List.take_succ_cons List.drop_succ_cons isYl parEnv rangeSt cY_tb marked_tb renOk renIn matchObjs matchEnv matchE matchAV matchAVs matchF matchO
attribute [local go_sem] ty1 ty2 ty3 ty4 ty5 ty9 ty12 ty21 ty22 ty23 ty24 ty25 ty26 ty27 ty28 ty29 ty30 ty31 ty32 ty33 ty34 ty35 ty36 ty37 ty38 ty39 ty40 ty41 ty42 ty43 ty44 ty45 ty46 ty47 ty48 ty49 ty50 ty51 ty52 ty53 ty54 ty55 ty56 ty57 ty58 ty60 ty61 ty62 ty64 ty65 ty66 ty67 ty68 ty70 ty71 ty72 ty74 ty75 ty76 ty77 ty78 ty79 ty80 ty81 ty82 ty83 ty84 ty85 ty87 ty89 ty91 ty92 ty93 ty94 ty95 ty96 ty97 ty98 ty99 ty100 ty101 ty102 ty103 ty104 ty105 ty106 ty107 ty108 ty109 ty110 ty111 ty112 ty113 ty114 ty115 ty117 ty118 ty120 ty121 ty122 ty123 ty124 ty125 ty126 ty127 ty128 ty130 ty131 ty132 ty133 ty134 ty135 ty136 ty137 ty138 ty139 ty140 ty141 ty142 ty143 ty144 ty145 ty146 ty147 ty148 ty149 ty150 ty151 ty154 ty155 ty156 ty158 ty159 ty160 ty161 ty162 ty163 ty164 ty165 ty166 ty167 ty169 ty170 ty171 ty172 ty173 ty174 ty175 ty176 ty177 ty178 ty179 ty180 ty181 ty182 ty183 ty184 ty185 ty186 ty187 ty188 ty190 ty191 ty192 ty193 ty194 ty195 ty196 ty197 ty198 ty199 ty200 ty201 ty202 ty203 ty204 ty205 ty207 ty208 ty209 ty210 ty211 ty212 ty213 ty214 ty215 ty216 ty217 ty218 ty219 ty220 ty221 ty222 ty223 ty224 ty225 ty226 ty227 ty228 ty229 ty230 ty231 ty232 ty233 ty234 ty236 ty237 ty238 ty239 ty240 ty241 ty242 ty243 ty244 ty245 ty246 ty247 ty248 ty249 ty250 ty251 ty257 ty260 ty261
set_option maxRecDepth 100000
set_option maxHeartbeats 4000000
section
attribute [local go_sem] inBS andS
def famK (l : List (List Int)) (i k : Nat) : List (List Int) :=
  if (decide (0 < ((andF (l.getD i []) (l.getD k [])).length : Int)) && !inBF l (andF (l.getD i []) (l.getD k []))) = true then l ++ [andF (l.getD i []) (l.getD k [])] else l
def famI (i : Nat) : Nat → Nat → List (List Int) → List (List Int)
  | 0, _, l => l
  | n + 1, k, l => if l.length ≤ 256 then famI i n (k + 1) (famK l i k) else l
def famG : Nat → Nat → List (List Int) → List (List Int)
  | 0, _, l => l
  | n + 1, i, l => if i < l.length ∧ l.length ≤ 256 then famG n (i + 1) (famI i i 0 l) else l
def familyF (c : List (List Int)) : List (List Int) := famG 257 0 c
theorem andF_len (a b : List Int) : (andF a b).length ≤ a.length := by
  unfold andF normalF
  have := zipL_len .and a b a.length
  rw [List.length_take]
  omega
structure FamOk (l : List (List Int)) : Prop where
  len : l.length ≤ 257
  wid : ∀ c ∈ l, c.length ≤ 64
theorem wid_getD {l : List (List Int)} (h : ∀ c ∈ l, c.length ≤ 64) (k : Nat) : (l.getD k []).length ≤ 64 := by
  rw [List.getD_eq_getElem?_getD]
  cases hh : l[k]? with
  | none => simp
  | some x => exact h x (List.mem_of_getElem? hh)
theorem famK_wid {l : List (List Int)} (h : ∀ c ∈ l, c.length ≤ 64) (i k : Nat) : ∀ c ∈ famK l i k, c.length ≤ 64 := by
  unfold famK
  split
  · intro c hc
    rcases List.mem_append.1 hc with hc | hc
    · exact h c hc
    · have : c = andF (l.getD i []) (l.getD k []) := by simpa using hc
      rw [this]
      exact Nat.le_trans (andF_len _ _) (wid_getD h i)
  · exact h
theorem famK_len (l : List (List Int)) (i k : Nat) : l.length ≤ (famK l i k).length ∧ (famK l i k).length ≤ l.length + 1 := by
  unfold famK
  split
  · simp
  · exact ⟨Nat.le_refl _, Nat.le_succ _⟩
def familyS : Spec := { ins := [T162], pre := fun (c, _) => List.length c ≤ 256 ∧ ∀ x ∈ (c : List (List Int)), x.length ≤ 64, out := fun (c, _) => [.p T162 (familyF c)] }
theorem family_ok : FnOk Tryz.prog 105 familyS := by
  refine fn_ok Tryz.func105 (by kernel_rfl) rfl Tryz.ntmps105 (by decide) (by kernel_rfl) (tyTab_ok [(122, andS), (153, inBS)]) (fns_cons and_ok (fns_cons inB_ok fns_nil)) ?_
  rintro w0 O0 ⟨c, u⟩ hc - ⟨hcl, hcw⟩
  have hcl : c.length ≤ 256 := hcl
  simp only [familyS, entEnv]
  repeat' (first | exact trivial | refine eS rfl ?_ | refine ev_out_inv ?_ | refine rX [0, 2, 3, 4, 5, 6, 18, 28, 48] hc ?_ ?_ | (refine rC (fun hcond => ?_) (fun hcond => ?_) <;> try (cases hcond; done)))
  · simp only [maxN]; dsimp only [Ty.den] at *; omega
  · refine ev_loop (ι := {x : Nat × List (List Int) // x.1 ≤ 256 ∧ FamOk x.2 ∧ famG (257 - x.1) x.1 x.2 = familyF c}) (fun x => ⟨[(3, .sr 7 T122 0 x.1.2.length), (4, .p (.int .i64) (x.1.1 : Int))], [(7, .arr 122 T122 x.1.2)]⟩) (fun x => 257 - x.1.1) ⟨(0, c), by simp, ⟨by simp only; omega, hcw⟩, rfl⟩ (ent_match [(7, .nm 7)] rfl rfl ?_ ?_) (fun x => ?_)
    · first | exact eN | refine eM ?_
    · first | exact eN | refine eM ?_
    · obtain ⟨⟨i, l⟩, hi, ⟨hll, hlw⟩, hg⟩ := x
      simp only at hi hll hlw hg
      simp only
      repeat' (first | exact trivial | refine eS rfl ?_ | refine ev_out_inv ?_ | refine rX [0, 2, 3, 4, 5, 6, 18, 28, 48] hc ?_ ?_ | (refine rC (fun hcond => ?_) (fun hcond => ?_) <;> try (cases hcond; done)))
      · have hi2 : i < l.length := by omega
        have hl2 : l.length ≤ 256 := by omega
        have hg2 : famG (256 - i) (i + 1) (famI i i 0 l) = familyF c := by
          have e : 257 - i = (256 - i) + 1 := by omega
          rw [← hg, e]
          show _ = if i < l.length ∧ l.length ≤ 256 then famG (256 - i) (i + 1) (famI i i 0 l) else l
          rw [if_pos ⟨hi2, hl2⟩]
        refine ev_loop (ι := {y : Nat × List (List Int) // y.1 ≤ i ∧ FamOk y.2 ∧ l.length ≤ y.2.length ∧ famI i (i - y.1) y.1 y.2 = famI i i 0 l}) (fun y => ⟨[(3, .sr 7 T122 0 y.1.2.length), (4, .p (.int .i64) (i : Int)), (5, .p (.int .i64) (y.1.1 : Int))], [(7, .arr 122 T122 y.1.2)]⟩) (fun y => i - y.1.1) ⟨(0, l), by simp, ⟨hll, hlw⟩, Nat.le_refl _, rfl⟩ (ent_match [(7, .nm 7)] rfl rfl ?_ ?_) (fun y => ?_)
        · first | exact eN | refine eM ?_
        · first | exact eN | refine eM ?_
        · obtain ⟨⟨k, m⟩, hk, ⟨hml, hmw⟩, hlm, hf⟩ := y
          simp only at hk hml hmw hlm hf
          simp only
          repeat' (first | exact trivial | refine eS rfl ?_ | refine ev_out_inv ?_ | refine rX [0, 2, 3, 4, 5, 6, 18, 28, 48] hc ?_ ?_ | (refine rC (fun hcond => ?_) (fun hcond => ?_) <;> try (cases hcond; done)))
          · exact ⟨by exact eV, by exact eV, Nat.le_trans (wid_getD hmw i) (by decide)⟩
          · simp only [maxN]; omega
          · omega
          · have e : famK m i k = m ++ [andF (m.getD i []) (m.getD k [])] := by
              unfold famK
              rw [if_pos]
              rw [Bool.and_eq_true, decide_eq_true_eq, Bool.not_eq_true']
              exact hcond
            have hw := famK_wid hmw i k
            have h2 := famK_len m i k
            refine ⟨⟨(k + 1, famK m i k), by simp only; omega, ⟨by simp only; omega, hw⟩, by simp only; omega, ?_⟩, by simp only; omega, ent_match [(7, .nm 7)] rfl rfl ?_ ?_⟩
            · simp only
              rw [← hf, show i - k = (i - (k + 1)) + 1 by omega]
              show _ = if m.length ≤ 256 then famI i (i - (k + 1)) (k + 1) (famK m i k) else m
              rw [if_pos (by omega)]
            · simp only [e]
              first | exact eN | refine eM ?_
            · simp only [e]
              first | exact eN | refine eM ?_
          · omega
          · have e : famK m i k = m := by
              unfold famK
              rw [if_neg]
              rw [Bool.and_eq_true, decide_eq_true_eq, Bool.not_eq_true']
              intro h
              rw [hcond h.1] at h
              exact absurd h.2 (by simp)
            refine ⟨⟨(k + 1, m), by simp only; omega, ⟨hml, hmw⟩, hlm, ?_⟩, by simp only; omega, ent_match [(7, .nm 7)] rfl rfl ?_ ?_⟩
            · simp only
              rw [← hf, show i - k = (i - (k + 1)) + 1 by omega]
              show _ = if m.length ≤ 256 then famI i (i - (k + 1)) (k + 1) (famK m i k) else m
              rw [if_pos (by omega), e]
            · first | exact eN | refine eM ?_
            · first | exact eN | refine eM ?_
          · omega
          · have hm2 : m = famI i i 0 l := by
              rw [← hf]
              cases hm : i - k with
              | zero => rfl
              | succ j =>
                show _ = if m.length ≤ 256 then _ else m
                rw [if_neg (by omega)]
            rw [← hm2] at hg2
            refine ⟨⟨(i + 1, m), by simp only; omega, ⟨hml, hmw⟩, ?_⟩, by simp only; omega, ent_match [(7, .nm 7)] rfl rfl ?_ ?_⟩
            · simp only
              rw [show 257 - (i + 1) = 256 - i by omega]
              exact hg2
            · first | exact eN | refine eM ?_
            · first | exact eN | refine eM ?_
      · have hgl : l = familyF c := by
          rw [← hg]
          cases hm : 257 - i with
          | zero => rfl
          | succ m =>
            show _ = if i < l.length ∧ l.length ≤ 256 then _ else l
            rw [if_neg (by omega)]
        rw [← hgl]
        refine Ev.ent ?_ (ent_frz [7] (by simp only [go_sem, Nat.reduceEqDiff, reduceCtorEq, Nat.reduceAdd, Nat.reduceSub, Nat.reduceMul, Nat.reduceLeDiff, Nat.reduceLT, Int.reduceLE, Int.reduceToNat, Int.reduceNeg, ↓reduceIte]; rfl) (fun _ _ h => h))
        exact ev_fin hc [.tmp 2] rfl (.inl rfl) (by simp) (by first | exact eR | refine eRM ?_)
/-- String constants are short. -/
theorem cs0 {α : Type} (x y : α) : (if ({ data := #[] } : ByteArray).size ≤ maxN then x else y) = x := if_pos (by show 0 ≤ maxN; decide)
theorem cs1 {α : Type} (a : UInt8) (x y : α) : (if ({ data := #[a] } : ByteArray).size ≤ maxN then x else y) = x := if_pos (by show 1 ≤ maxN; decide)
theorem cs2 {α : Type} (a b : UInt8) (x y : α) : (if ({ data := #[a, b] } : ByteArray).size ≤ maxN then x else y) = x := if_pos (by show 2 ≤ maxN; decide)
theorem cs3 {α : Type} (a b c : UInt8) (x y : α) : (if ({ data := #[a, b, c] } : ByteArray).size ≤ maxN then x else y) = x := if_pos (by show 3 ≤ maxN; decide)
theorem cs4 {α : Type} (a b c d : UInt8) (x y : α) : (if ({ data := #[a, b, c, d] } : ByteArray).size ≤ maxN then x else y) = x := if_pos (by show 4 ≤ maxN; decide)
theorem cs5 {α : Type} (a b c d e : UInt8) (x y : α) : (if ({ data := #[a, b, c, d, e] } : ByteArray).size ≤ maxN then x else y) = x := if_pos (by show 5 ≤ maxN; decide)
theorem cs6 {α : Type} (a b c d e f : UInt8) (x y : α) : (if ({ data := #[a, b, c, d, e, f] } : ByteArray).size ≤ maxN then x else y) = x := if_pos (by show 6 ≤ maxN; decide)
theorem cs7 {α : Type} (a b c d e f g : UInt8) (x y : α) : (if ({ data := #[a, b, c, d, e, f, g] } : ByteArray).size ≤ maxN then x else y) = x := if_pos (by show 7 ≤ maxN; decide)
theorem cs8 {α : Type} (a b c d e f g h : UInt8) (x y : α) : (if ({ data := #[a, b, c, d, e, f, g, h] } : ByteArray).size ≤ maxN then x else y) = x := if_pos (by show 8 ≤ maxN; decide)
end
/- Functions of grammarlabref04: name. -/
section
attribute [local go_sem] equalBS hasS maximalS cs0 cs1
def nmG (d : List DeclD) (all : List ByteArray) (codes : List (List Int)) (b : List Int) : Nat → Nat → List ByteArray → ByteArray ⊕ List ByteArray
  | 0, _, l => .inr l
  | n + 1, i, l => if equalBF (codes.getD i []) b = true then .inl (all.getD i ByteArray.empty) else nmG d all codes b n (i + 1) (if hasF b (i : Int) = true then l ++ [all.getD i ByteArray.empty] else l)
def joinA (l : List ByteArray) (s : ByteArray) (i : Nat) : ByteArray := (if 0 < (i : Int) then s ++ ByteArray.mk #[38] else s) ++ l.getD i ByteArray.empty
def joinF (l : List ByteArray) : ByteArray := (List.range l.length).foldl (joinA l) ByteArray.empty
def nameF (d : List DeclD) (all : List ByteArray) (codes : List (List Int)) (b : List Int) : ByteArray :=
  match nmG d all codes b all.length 0 [] with
  | .inl s => s
  | .inr l => joinF (maximalF d l)
theorem declaredF_mem {d : List DeclD} {x : ByteArray} : ∀ {l o : List ByteArray}, x ∈ l.foldl (declA d) o → x ∈ o ∨ x ∈ l
  | [], _, h => .inl h
  | y :: l, o, h => by
    rw [List.foldl_cons] at h
    rcases declaredF_mem h with h | h
    · unfold declA at h
      split at h
      · rcases putF_mem h with h | h
        · exact .inl h
        · exact .inr (by simp [h])
      · exact .inl h
    · exact .inr (by simp [h])
theorem maximalF_mem {d : List DeclD} {l : List ByteArray} {x : ByteArray} (h : x ∈ maximalF d l) : x ∈ l := by
  unfold maximalF maxG at h
  obtain ⟨i, hi, rfl⟩ := List.mem_map.1 h
  rw [List.mem_filter, List.mem_range] at hi
  rcases declaredF_mem (getD_mem (d := ByteArray.empty) hi.1) with h | h
  · cases h
  · exact h
theorem maximalF_len (d : List DeclD) (l : List ByteArray) : (maximalF d l).length ≤ l.length := Nat.le_trans (maxG_len _ _ _) (declaredF_len d l)
theorem size32 {l : List ByteArray} (h : ∀ s ∈ l, s.size ≤ 32) (k : Nat) : (l.getD k ByteArray.empty).size ≤ 32 := by
  rw [List.getD_eq_getElem?_getD]
  cases hh : l[k]? with
  | none => simp
  | some x => exact h x (List.mem_of_getElem? hh)
def joinG (l : List ByteArray) (n : Nat) : ByteArray := (List.range n).foldl (joinA l) ByteArray.empty
theorem joinG_succ (l : List ByteArray) (n : Nat) : joinG l (n + 1) = joinA l (joinG l n) n := by
  unfold joinG
  rw [List.range_succ, List.foldl_append]
  rfl
theorem joinG_size {l : List ByteArray} (h : ∀ s ∈ l, s.size ≤ 32) : ∀ n, (joinG l n).size ≤ 33 * n
  | 0 => by simp [joinG]
  | n + 1 => by
    have h1 := joinG_size h n
    have h2 := size32 h n
    rw [joinG_succ]
    unfold joinA
    split
    · rw [ByteArray.size_append, ByteArray.size_append]
      have : (ByteArray.mk #[38]).size = 1 := rfl
      omega
    · rw [ByteArray.size_append]
      omega
def nameOfS : Spec := { ins := [T22, T131, T162, T122], pre := fun (d, all, codes, b, _) => SupOk d ∧ List.length d ≤ 256 ∧ List.length all ≤ 256 ∧ List.length codes = List.length all ∧ (∀ s ∈ (all : List ByteArray), s.size ≤ 32) ∧ (∀ x ∈ (codes : List (List Int)), x.length ≤ 64) ∧ List.length b ≤ 64, out := fun (d, all, codes, b, _) => [.p T9 (nameF d all codes b)] }
theorem nameOf_ok : FnOk Tryz.prog 106 nameOfS := by
  refine fn_ok Tryz.func106 (by kernel_rfl) rfl Tryz.ntmps106 (by decide) (by kernel_rfl) (tyTab_ok [(154, equalBS), (155, hasS), (156, maximalS)]) (fns_cons equalB_ok (fns_cons has_ok (fns_cons maximal_ok fns_nil))) ?_
  rintro w0 O0 ⟨d, all, codes, b, u⟩ hc - ⟨hs, hd, hall, hcd, hsz, hcw, hb⟩
  have hall : all.length ≤ 256 := hall
  have hcd : codes.length = all.length := hcd
  simp only [nameOfS, entEnv]
  repeat' (first | exact trivial | refine eS rfl ?_ | refine ev_out_inv ?_ | refine rX [0, 1, 2, 3, 8, 9, 10, 11, 12, 16, 24, 31, 45, 49] hc ?_ ?_ | (refine rC (fun hcond => ?_) (fun hcond => ?_) <;> try (cases hcond; done)))
  refine ev_loop (ι := {x : Nat × List ByteArray // x.1 ≤ all.length ∧ x.2.length ≤ x.1 ∧ (∀ s ∈ x.2, s.size ≤ 32) ∧ nmG d all codes b (all.length - x.1) x.1 x.2 = nmG d all codes b all.length 0 []}) (fun x => ⟨[(0, .p T22 d), (1, .p T131 all), (2, .p T162 codes), (3, .p T122 b), (9, .sr 38 T9 0 x.1.2.length), (10, .p (.int .i64) (x.1.1 : Int))], [(38, .arr 9 T9 x.1.2)]⟩) (fun x => all.length - x.1.1) ⟨(0, []), by simp, by simp, by simp, rfl⟩ (ent_match [(38, .nil)] rfl rfl ?_ ?_) (fun x => ?_)
  · first | exact eN | refine eM ?_
  · first | exact eN | refine eM ?_
  · obtain ⟨⟨i, l⟩, hi, hli, hls, hg⟩ := x
    simp only at hi hli hls hg
    have hstep : i < all.length → nmG d all codes b (all.length - i) i l = if equalBF (codes.getD i []) b = true then .inl (all.getD i ByteArray.empty) else nmG d all codes b (all.length - (i + 1)) (i + 1) (if hasF b (i : Int) = true then l ++ [all.getD i ByteArray.empty] else l) := by
      intro h
      rw [show all.length - i = (all.length - (i + 1)) + 1 by omega]
      rfl
    simp only
    repeat' (first | exact trivial | refine eS rfl ?_ | refine ev_out_inv ?_ | refine rX [0, 1, 2, 3, 8, 9, 10, 11, 12, 16, 24, 31, 45, 49] hc ?_ ?_ | (refine rC (fun hcond => ?_) (fun hcond => ?_) <;> try (cases hcond; done)))
    · exact ⟨by rw [hcd]; exact hcond, Nat.le_trans (wid_getD hcw i) (by decide), Nat.le_trans hb (by decide)⟩
    · assumption
    · have hi2 : i < all.length := by exact eV
      have hr : nameF d all codes b = all.getD i ByteArray.empty := by
        unfold nameF
        rw [← hg, hstep hi2, if_pos hcond]
      exact ev_fin hc [.tmp 8] rfl (.inl rfl) (by simp) (by rw [hr]; first | exact eR | refine eRM ?_)
    · have hi2 : i < all.length := by exact eV
      exact ⟨Int.ofNat_lt.2 hi2, by simp only [maxN]; omega⟩
    · exact eV
    · have hi2 : i < all.length := by exact eV
      have hn := hstep hi2
      rw [if_neg (by rw [‹equalBF _ _ = false›]; simp), if_pos hcond] at hn
      refine ⟨⟨(i + 1, l ++ [all.getD i ByteArray.empty]), by simp only; omega, by simp only [List.length_append, List.length_singleton]; omega, ?_, hn.symm.trans hg⟩, by simp only; omega, ent_match [(38, .nm 38)] rfl rfl ?_ ?_⟩
      · intro s hs
        rcases List.mem_append.1 hs with hs | hs
        · exact hls s hs
        · have : s = all.getD i ByteArray.empty := by simpa using hs
          rw [this]
          exact size32 hsz i
      · first | exact eN | refine eM ?_
      · first | exact eN | refine eM ?_
    · exact eV
    · have hi2 : i < all.length := by exact eV
      have hn := hstep hi2
      rw [if_neg (by rw [‹equalBF _ _ = false›]; simp), if_neg (by rw [hcond]; simp)] at hn
      refine ⟨⟨(i + 1, l), by simp only; omega, by simp only; omega, hls, hn.symm.trans hg⟩, by simp only; omega, ent_match [(38, .nm 38)] rfl rfl ?_ ?_⟩
      · first | exact eN | refine eM ?_
      · first | exact eN | refine eM ?_
    · have hr : nameF d all codes b = joinF (maximalF d l) := by
        unfold nameF
        rw [← hg]
        have : all.length - i = 0 := by exact eV
        rw [this]
        rfl
      refine Ev.ent ?_ (ent_frz [38] (by simp only [go_sem, Nat.reduceEqDiff, reduceCtorEq, Nat.reduceAdd, Nat.reduceSub, Nat.reduceMul, Nat.reduceLeDiff, Nat.reduceLT, Int.reduceLE, Int.reduceToNat, Int.reduceNeg, ↓reduceIte]; rfl) (fun _ _ h => h))
      repeat' (first | exact trivial | refine eS rfl ?_ | refine ev_out_inv ?_ | refine rX [0, 1, 2, 3, 8, 9, 10, 11, 12, 16, 24, 31, 45, 49] hc ?_ ?_ | (refine rC (fun hcond => ?_) (fun hcond => ?_) <;> try (cases hcond; done)))
      · exact ⟨hs, hd, by omega⟩
      · have hmm : ∀ s ∈ maximalF d l, s.size ≤ 32 := fun s h => hls s (maximalF_mem h)
        have hml := maximalF_len d l
        have hjf : joinF (maximalF d l) = joinG (maximalF d l) (maximalF d l).length := rfl
        rw [hjf] at hr
        generalize maximalF d l = m at *
        refine ev_loop (ι := {k : Nat // k ≤ m.length}) (fun k => ⟨[(9, .p T131 m), (11, .p T9 (joinG m k.1)), (12, .p (.int .i64) (k.1 : Int))], []⟩) (fun k => m.length - k.1) ⟨0, Nat.zero_le _⟩ (ent_match [] rfl rfl ?_ ?_) (fun k => ?_)
        · first | exact eN | refine eM ?_
        · first | exact eN | refine eM ?_
          rfl
        · obtain ⟨k, hk⟩ := k
          have hk : k ≤ m.length := hk
          have hjs := joinG_size hmm k
          have hss := joinG_succ m k
          have hs2 := size32 hmm k
          unfold joinA at hss
          simp only
          repeat' (first | exact trivial | refine eS rfl ?_ | refine ev_out_inv ?_ | refine rX [0, 1, 2, 3, 8, 9, 10, 11, 12, 16, 24, 31, 45, 49] hc ?_ ?_ | (refine rC (fun hcond => ?_) (fun hcond => ?_) <;> try (cases hcond; done)))
          · have h1 : (ByteArray.mk #[38]).size = 1 := rfl
            rw [h1]
            simp only [maxN]
            exact eV
          · refine ⟨by assumption, ?_⟩
            have h1 : (ByteArray.mk #[38]).size = 1 := rfl
            rw [ByteArray.size_append, h1]
            simp only [maxN]
            exact eV
          · exact eV
          · have hk2 : k < m.length := by exact eV
            rw [if_pos hcond] at hss
            refine ⟨⟨k + 1, hk2⟩, by simp only; omega, ent_match [] rfl rfl ?_ ?_⟩
            · first | exact eN | refine eM ?_
            · simp only [hss]
              first | exact eN | refine eM ?_
          · refine ⟨by assumption, ?_⟩
            simp only [maxN]
            exact eV
          · exact eV
          · have hk2 : k < m.length := by exact eV
            rw [if_neg (Int.not_lt.2 hcond)] at hss
            refine ⟨⟨k + 1, hk2⟩, by simp only; omega, ent_match [] rfl rfl ?_ ?_⟩
            · first | exact eN | refine eM ?_
            · simp only [hss]
              first | exact eN | refine eM ?_
          · have hk2 : k = m.length := by exact eV
            rw [← hk2] at hr
            exact ev_fin hc [.tmp 8] rfl (.inl rfl) (by simp) (by rw [hr]; first | exact eR | refine eRM ?_)
end
/- Functions of grammarlabref04: Codes. -/
section
attribute [local go_sem] check3S namesLS codeS familyS nameOfS beforeS
def insAt (x : CodedD) (out : List CodedD) : Nat → Nat
  | 0 => 0
  | n + 1 => if beforeF x (out.getD n c0) = true then insAt x out n else n + 1
def insC (out : List CodedD) (x : CodedD) : List CodedD := out.take (insAt x out out.length) ++ [x] ++ out.drop (insAt x out out.length)
def codesL (d : List DeclD) : List (List Int) := (namesL d).map fun s => codeF d (namesL d) s
def codedB (d : List DeclD) (all : List ByteArray) (codes : List (List Int)) (out : List CodedD) (b : List Int) : List CodedD := insC out (nameF d all codes b, b)
def codedA (d : List DeclD) : List CodedD → List Int → List CodedD := codedB d (namesL d) (codesL d)
theorem codedB_len (d : List DeclD) (all : List ByteArray) (codes : List (List Int)) : ∀ (l : List (List Int)) (o : List CodedD), (l.foldl (codedB d all codes) o).length = o.length + l.length
  | [], o => by simp
  | b :: l, o => by
    rw [List.foldl_cons, codedB_len d all codes l]
    unfold codedB insC
    simp only [List.length_append, List.length_take, List.length_drop, List.length_cons, List.length_nil]
    omega
theorem codedB_wid {d : List DeclD} {all : List ByteArray} {codes : List (List Int)} : ∀ {l : List (List Int)} {o : List CodedD}, (∀ c ∈ l, c.length ≤ 64) → (∀ y ∈ o, y.2.length ≤ 64) → ∀ y ∈ l.foldl (codedB d all codes) o, y.2.length ≤ 64
  | [], _, _, ho => ho
  | b :: l, o, hl, ho => by
    rw [List.foldl_cons]
    refine codedB_wid (fun c hc => hl c (by simp [hc])) (fun y hy => ?_)
    unfold codedB insC at hy
    simp only [List.mem_append, List.mem_singleton] at hy
    rcases hy with (hy | hy) | hy
    · exact ho y (List.mem_of_mem_take hy)
    · rw [hy]; exact hl b (by simp)
    · exact ho y (List.mem_of_mem_drop hy)
theorem insAt_le (x : CodedD) (out : List CodedD) : ∀ n, insAt x out n ≤ n
  | 0 => Nat.le_refl _
  | n + 1 => by
    unfold insAt
    split
    · exact Nat.le_succ_of_le (insAt_le x out n)
    · exact Nat.le_refl _
def codesR (d : List DeclD) : List CodedD := (familyF (codesL d)).foldl (codedA d) []
def codesF (d : List DeclD) : List CodedD × Int :=
  if check3F d ≠ 0 then ([], check3F d) else if 256 < (familyF (codesL d)).length then ([], 7) else (codesR d, 0)
theorem named_size {s : ByteArray} {b : Bool} (h : namedF s b = true) : s.size ≤ 32 := by
  unfold namedF at h
  rw [Bool.and_eq_true] at h
  have h1 := h.1
  unfold namedH at h1
  simp only [Bool.not_eq_true', Bool.or_eq_false_iff, decide_eq_false_iff_not] at h1
  have := h1.1.1.2
  omega
theorem namesL_size {d : List DeclD} (hn : namesF d = 0) : ∀ s ∈ namesL d, s.size ≤ 32 := by
  intro s hs
  obtain ⟨x, hx, rfl⟩ := namesL_mem hs
  obtain ⟨j, hj, rfl⟩ := mem_getD d0 hx
  exact named_size (namesG_zero hn j hj).2
def codesT (d : List DeclD) (n : Nat) : List (List Int) := ((namesL d).take n).map fun s => codeF d (namesL d) s
theorem codesT_len {d : List DeclD} {n : Nat} (h : n ≤ (namesL d).length) : (codesT d n).length = n := by simp [codesT, h]
theorem codesT_succ {d : List DeclD} {n : Nat} (h : n < (namesL d).length) : codesT d (n + 1) = codesT d n ++ [codeF d (namesL d) ((namesL d).getD n ByteArray.empty)] := by
  unfold codesT
  rw [take_snoc _ ByteArray.empty h, List.map_append]
  rfl
theorem codesT_all (d : List DeclD) : codesT d (namesL d).length = codesL d := by simp [codesT, codesL]
theorem codesL_len (d : List DeclD) : (codesL d).length = (namesL d).length := by simp [codesL]
theorem codesL_wid {d : List DeclD} (h : d.length ≤ 256) : ∀ c ∈ codesL d, c.length ≤ 64 := by
  intro c hc
  unfold codesL at hc
  obtain ⟨s, -, rfl⟩ := List.mem_map.1 hc
  have hnl := namesL_len d d.length
  rw [List.take_length] at hnl
  exact (code_bit (d := d) (all := namesL d) (by omega) s 0).2.2
theorem famI_wid {i : Nat} : ∀ {n k : Nat} {l : List (List Int)}, (∀ c ∈ l, c.length ≤ 64) → ∀ c ∈ famI i n k l, c.length ≤ 64
  | 0, _, _, h => h
  | n + 1, k, l, h => by
    unfold famI
    split
    · exact famI_wid (famK_wid h i k)
    · exact h
theorem famG_wid : ∀ {n i : Nat} {l : List (List Int)}, (∀ c ∈ l, c.length ≤ 64) → ∀ c ∈ famG n i l, c.length ≤ 64
  | 0, _, _, h => h
  | n + 1, i, l, h => by
    unfold famG
    split
    · exact famG_wid (famI_wid h)
    · exact h
theorem insC_mem {out : List CodedD} {x y : CodedD} : y ∈ insC out x ↔ y = x ∨ y ∈ out := by
  unfold insC
  rw [List.mem_append, List.mem_append, List.mem_singleton]
  have h := List.mem_append (a := y) (s := out.take (insAt x out out.length)) (t := out.drop (insAt x out out.length))
  rw [List.take_append_drop] at h
  rw [h]
  constructor
  · rintro ((h | h) | h)
    · exact .inr (.inl h)
    · exact .inl h
    · exact .inr (.inr h)
  · rintro (h | h | h)
    · exact .inl (.inr h)
    · exact .inl (.inl h)
    · exact .inr h
theorem insC_len (out : List CodedD) (x : CodedD) : (insC out x).length = out.length + 1 := by
  unfold insC
  simp only [List.length_append, List.length_take, List.length_drop, List.length_singleton]
  omega
def codesS : Spec := { ins := [T22], pre := fun _ => True, out := fun (d, _) => [.p T118 (codesF d).1, .p T72 (codesF d).2] }
theorem codes_ok : FnOk Tryz.prog 71 codesS := by
  refine fn_ok Tryz.func71 (by kernel_rfl) rfl Tryz.ntmps71 (by decide) (by kernel_rfl) (tyTab_ok [(102, check3S), (103, namesLS), (104, codeS), (105, familyS), (106, nameOfS), (107, beforeS)]) (fns_cons check3_ok (fns_cons namesL_ok (fns_cons code_ok (fns_cons family_ok (fns_cons nameOf_ok (fns_cons before_ok fns_nil)))))) ?_
  rintro w0 O0 ⟨d, u⟩ hc - -
  simp only [codesS, entEnv]
  repeat' (first | exact trivial | refine eS rfl ?_ | refine ev_out_inv ?_ | refine rX [0, 2, 3, 4, 5, 6, 7, 8, 9, 10, 11, 12, 13, 17, 24, 41, 45, 73] hc ?_ ?_ | (refine rC (fun hcond => ?_) (fun hcond => ?_) <;> try (cases hcond; done)))
  · have h1 : codesF d = ([], check3F d) := by unfold codesF; rw [if_pos hcond]
    exact ev_fin hc [.tmp 2, .tmp 3] rfl (.inl rfl) (by simp) (by rw [h1]; first | exact eR | refine eRM ?_)
  · have h3 : check3F d = 0 := by simpa using hcond
    obtain ⟨-, h2, -⟩ := check3_zero h3
    exact Nat.le_trans h2 (by decide)
  · have h3 : check3F d = 0 := by simpa using hcond
    obtain ⟨hsup, hd, -, hn, -⟩ := check3_zero h3
    have hal := namesL_len d d.length
    rw [List.take_length] at hal
    have hsz := namesL_size hn
    refine ev_loop (ι := {n : Nat // n ≤ (namesL d).length}) (fun n => ⟨[(0, .p T22 d), (5, .p T131 (namesL d)), (6, .sr 36 T122 0 (codesT d n.1).length), (7, .p (.int .i64) (n.1 : Int))], [(36, .arr 122 T122 (codesT d n.1))]⟩) (fun n => (namesL d).length - n.1) ⟨0, Nat.zero_le _⟩ (ent_match [(36, .nil)] rfl rfl ?_ ?_) (fun n => ?_)
    · first | exact eN | refine eM ?_
      rfl
    · first | exact eN | refine eM ?_
      rfl
    · obtain ⟨n, hnn⟩ := n
      have hcl := codesT_len hnn
      have hs := fun h => codesT_succ (d := d) (n := n) h
      simp only
      repeat' (first | exact trivial | refine eS rfl ?_ | refine ev_out_inv ?_ | refine rX [0, 2, 3, 4, 5, 6, 7, 8, 9, 10, 11, 12, 13, 17, 24, 41, 45, 73] hc ?_ ?_ | (refine rC (fun hcond => ?_) (fun hcond => ?_) <;> try (cases hcond; done)))
      · refine ⟨hcond, ⟨hd, by dsimp only [Ty.den] at *; omega⟩, ?_⟩
        simp only [maxN]
        dsimp only [Ty.den] at *
        omega
      · exact eV
      · have hn2 : n < (namesL d).length := by exact eV
        have e := hs hn2
        refine ⟨⟨n + 1, by omega⟩, by simp only; omega, ent_match [(36, .nm 36)] rfl rfl ?_ ?_⟩
        · simp only [e]
          first | exact eN | refine eM ?_
        · simp only [e]
          first | exact eN | refine eM ?_
      · have hn2 : n = (namesL d).length := by exact eV
        subst hn2
        rw [codesT_all]
        have hcL := codesL_len d
        have hwid := codesL_wid hd
        have hfw : ∀ c ∈ familyF (codesL d), c.length ≤ 64 := famG_wid hwid
        refine Ev.ent ?_ (ent_frz [36] (by simp only [go_sem, Nat.reduceEqDiff, reduceCtorEq, Nat.reduceAdd, Nat.reduceSub, Nat.reduceMul, Nat.reduceLeDiff, Nat.reduceLT, Int.reduceLE, Int.reduceToNat, Int.reduceNeg, ↓reduceIte]; rfl) (fun _ _ h => h))
        repeat' (first | exact trivial | refine eS rfl ?_ | refine ev_out_inv ?_ | refine rX [0, 2, 3, 4, 5, 6, 7, 8, 9, 10, 11, 12, 13, 17, 24, 41, 45, 73] hc ?_ ?_ | (refine rC (fun hcond => ?_) (fun hcond => ?_) <;> try (cases hcond; done)))
        · exact ⟨by omega, hwid⟩
        · have h1 : codesF d = ([], 7) := by
            unfold codesF
            rw [if_neg (by rw [h3]; simp), if_pos (by omega)]
          exact ev_fin hc [.tmp 2, .tmp 3] rfl (.inl rfl) (by simp) (by rw [h1]; first | exact eR | refine eRM ?_)
        · have hr : codesF d = ((familyF (codesL d)).foldl (codedB d (namesL d) (codesL d)) [], 0) := by
            unfold codesF
            rw [if_neg (by rw [h3]; simp), if_neg (by omega)]
            rfl
          generalize familyF (codesL d) = fam at *
          generalize codesL d = codes at *
          generalize namesL d = all at *
          refine ev_loop (ι := {k : Nat // k ≤ fam.length}) (fun k => ⟨[(0, .p T22 d), (5, .p T131 all), (6, .p T162 codes), (8, .p T162 fam), (9, .sr 9 T124 0 ((fam.take k.1).foldl (codedB d all codes) []).length), (10, .p (.int .i64) (k.1 : Int))], [(9, .arr 124 T124 ((fam.take k.1).foldl (codedB d all codes) []))]⟩) (fun k => fam.length - k.1) ⟨0, Nat.zero_le _⟩ (ent_match [(9, .nil)] rfl rfl ?_ ?_) (fun k => ?_)
          · first | exact eN | refine eM ?_
            rfl
          · first | exact eN | refine eM ?_
            rfl
          · obtain ⟨k, hk⟩ := k
            have hol := codedB_len d all codes (fam.take k) []
            have htl : (fam.take k).length = k := by rw [List.length_take]; exact Nat.min_eq_left hk
            have how := codedB_wid (d := d) (all := all) (codes := codes) (l := fam.take k) (o := []) (fun c hc => hfw c (List.mem_of_mem_take hc)) (by simp)
            have hss := fun h : k < fam.length => fold_tk (codedB d all codes) fam [] [] h
            rw [htl] at hol
            simp only [List.length_nil, Nat.zero_add] at hol
            generalize ho : (fam.take k).foldl (codedB d all codes) [] = out at *
            simp only
            repeat' (first | exact trivial | refine eS rfl ?_ | refine ev_out_inv ?_ | refine rX [0, 2, 3, 4, 5, 6, 7, 8, 9, 10, 11, 12, 13, 17, 24, 41, 45, 73] hc ?_ ?_ | (refine rC (fun hcond => ?_) (fun hcond => ?_) <;> try (cases hcond; done)))
            · exact ⟨hcond, ⟨hsup, hd, by omega, hcL, hsz, hwid, wid_getD hfw k⟩, hcond⟩
            · have hk2 : k < fam.length := by exact eV
              have e := hss hk2
              have hbw := wid_getD hfw k
              generalize fam.getD k [] = b at *
              unfold codedB at e
              generalize nameF d all codes b = nm at *
              refine ev_loop (ι := {q : Nat // q ≤ out.length ∧ insAt (nm, b) out q = insAt (nm, b) out out.length}) (fun q => ⟨[(0, .p T22 d), (5, .p T131 all), (6, .p T162 codes), (8, .p T162 fam), (9, .sr 9 T124 0 out.length), (10, .p (.int .i64) (k : Int)), (11, .bp 11 [] 0), (12, .p (.int .i64) (q.1 : Int))], [(9, .arr 124 T124 out), (11, .box 124 true [.p T9 nm, .p T122 b])]⟩) (fun q => q.1) ⟨out.length, Nat.le_refl _, rfl⟩ (ent_match [(9, .nm 9), (11, .nm 11)] rfl rfl ?_ ?_) (fun q => ?_)
              · first | exact eN | refine eM ?_
              · first | exact eN | refine eM ?_
              · obtain ⟨q, hq, hins⟩ := q
                have hq : q ≤ out.length := hq
                simp only
                repeat' (first | exact trivial | refine eS rfl ?_ | refine ev_out_inv ?_ | refine rX [0, 2, 3, 4, 5, 6, 7, 8, 9, 10, 11, 12, 13, 17, 24, 41, 45, 73] hc ?_ ?_ | (refine rC (fun hcond => ?_) (fun hcond => ?_) <;> try (cases hcond; done)))
                · refine ⟨fun h => by omega, fun h => by exact eV, fun h => ⟨Nat.le_trans hbw (by decide), Nat.le_trans (how _ (mem_of_take_succ out c0 (k := ((q : Int) - 1).toNat) (by omega))) (by decide)⟩⟩
                · omega
                · obtain ⟨g1, g2⟩ := hcond
                  obtain ⟨q, rfl⟩ : ∃ r, q = r + 1 := ⟨q - 1, by omega⟩
                  have g3 : ((q + 1 : Nat) : Int) - 1 = (q : Int) := by omega
                  refine ⟨⟨q, by omega, ?_⟩, Nat.lt_succ_self q, ent_match [(9, .nm 9), (11, .nm 11)] rfl rfl ?_ ?_⟩
                  · rw [← hins]
                    rw [g3, Int.toNat_natCast] at g2
                    show _ = if beforeF (nm, b) (out.getD q c0) = true then insAt (nm, b) out q else q + 1
                    rw [if_pos g2]
                  · first | exact eN | refine eM ?_
                  · first | exact eN | refine eM ?_
                    show (q : Int) + 1 - 1 = q
                    omega
                · refine ⟨Int.ofNat_le.2 hq, ?_⟩
                  rw [List.length_take]
                  simp only [maxN]
                  omega
                · rw [List.length_take]
                  simp only [maxN]
                  omega
                · refine ⟨Int.ofNat_le.2 hq, ?_⟩
                  rw [List.length_take, List.length_drop]
                  simp only [maxN]
                  omega
                · omega
                · have hpos : insAt (nm, b) out q = q := by
                    cases q with
                    | zero => rfl
                    | succ q =>
                      have g3 : ((q + 1 : Nat) : Int) - 1 = (q : Int) := by omega
                      have := hcond (by omega)
                      rw [g3, Int.toNat_natCast] at this
                      show (if beforeF (nm, b) (out.getD q c0) = true then insAt (nm, b) out q else q + 1) = q + 1
                      rw [if_neg (by rw [this]; simp)]
                  unfold insC at e
                  rw [← hins, hpos] at e
                  refine ⟨⟨k + 1, by omega⟩, by simp only; omega, ent_match [(9, .nm 80)] rfl rfl ?_ ?_⟩
                  · first | exact eN | refine eM ?_
                    exact e.symm
                  · first | exact eN | refine eM ?_
                    have e2 := congrArg List.length e
                    rw [List.length_append, List.length_append] at e2
                    exact e2.symm
            · have hk2 : k = fam.length := by exact eV
              rw [hk2, List.take_length] at ho
              rw [ho] at hr
              refine Ev.ent ?_ (ent_frz [9] (by simp only [go_sem, Nat.reduceEqDiff, reduceCtorEq, Nat.reduceAdd, Nat.reduceSub, Nat.reduceMul, Nat.reduceLeDiff, Nat.reduceLT, Int.reduceLE, Int.reduceToNat, Int.reduceNeg, ↓reduceIte]; rfl) (fun _ _ h => h))
              exact ev_fin hc [.tmp 2, .tmp 3] rfl (.inl rfl) (by simp) (by rw [hr]; first | exact eR | refine eRM ?_)
end
/- Plain: each declared type has a number among the codes. -/
section
theorem coded_mem {d : List DeclD} : ∀ {l : List (List Int)} {o : List CodedD} {y : CodedD}, y ∈ l.foldl (codedA d) o ↔ y ∈ o ∨ ∃ b ∈ l, y = (nameF d (namesL d) (codesL d) b, b)
  | [], o, y => by simp
  | b :: l, o, y => by
    rw [List.foldl_cons, coded_mem]
    unfold codedA codedB
    rw [insC_mem]
    simp only [List.mem_cons]
    constructor
    · rintro ((h | h) | ⟨c, hc, e⟩)
      · exact .inr ⟨b, .inl rfl, h⟩
      · exact .inl h
      · exact .inr ⟨c, .inr hc, e⟩
    · rintro (h | ⟨c, rfl | hc, e⟩)
      · exact .inl (.inr h)
      · exact .inl (.inl e)
      · exact .inr ⟨c, hc, e⟩
theorem codesR_mem {d : List DeclD} {y : CodedD} : y ∈ codesR d ↔ ∃ b ∈ familyF (codesL d), y = (nameF d (namesL d) (codesL d) b, b) := by
  unfold codesR
  rw [coded_mem]
  simp
theorem codesR_len (d : List DeclD) : (codesR d).length = (familyF (codesL d)).length := by
  have h := codedB_len d (namesL d) (codesL d) (familyF (codesL d)) []
  rw [List.length_nil, Nat.zero_add] at h
  exact h
theorem famK_sub {l : List (List Int)} {i k : Nat} {c : List Int} (h : c ∈ l) : c ∈ famK l i k := by
  unfold famK
  split
  · exact List.mem_append.2 (.inl h)
  · exact h
theorem famI_sub {i : Nat} {c : List Int} : ∀ {n k : Nat} {l : List (List Int)}, c ∈ l → c ∈ famI i n k l
  | 0, _, _, h => h
  | n + 1, k, l, h => by
    unfold famI
    split
    · exact famI_sub (famK_sub h)
    · exact h
theorem famG_sub {c : List Int} : ∀ {n i : Nat} {l : List (List Int)}, c ∈ l → c ∈ famG n i l
  | 0, _, _, h => h
  | n + 1, i, l, h => by
    unfold famG
    split
    · exact famG_sub (famI_sub h)
    · exact h
theorem codesL_getD (d : List DeclD) {i : Nat} (h : i < (namesL d).length) : (codesL d).getD i [] = codeF d (namesL d) ((namesL d).getD i ByteArray.empty) := by
  unfold codesL
  simp [List.getD_eq_getElem?_getD, h]
theorem nmG_hit {d : List DeclD} (hn : namesF d = 0) (hl : d.length ≤ (placedF d).length) (h2 : d.length ≤ 256) {j : Nat} (hj : j < (namesL d).length) : ∀ (m i : Nat) (l : List ByteArray), i + m = (namesL d).length → i ≤ j →
    ∃ s, nmG d (namesL d) (codesL d) ((codesL d).getD j []) m i l = .inl s ∧ strEq s ((namesL d).getD j ByteArray.empty) = true
  | 0, i, l, h, hij => by omega
  | m + 1, i, l, h, hij => by
    unfold nmG
    split
    · rename_i he
      refine ⟨_, rfl, ?_⟩
      rw [codesL_getD d (by omega), codesL_getD d hj] at he
      exact code_inj hn hl h2 (by omega) hj he
    · rename_i he
      have hne : i ≠ j := by
        intro e
        subst e
        exact he (equalB_refl _)
      exact nmG_hit hn hl h2 hj m (i + 1) _ (by omega) (by omega)
theorem numG_lt (s : ByteArray) : ∀ (l : List CodedD) (k : Nat), numG s k l < ((k + l.length : Nat) : Int)
  | [], k => by simp only [numG]; omega
  | x :: l, k => by
    simp only [numG]
    split
    · simp only [List.length_cons]; omega
    · have := numG_lt s l (k + 1)
      simp only [List.length_cons]
      omega
theorem numG_ge (s : ByteArray) : ∀ (l : List CodedD) (k : Nat) (x : CodedD), x ∈ l → strEq x.1 s = true → 0 ≤ numG s k l
  | [], _, _, h, _ => by cases h
  | y :: l, k, x, h, e => by
    simp only [numG]
    split
    · omega
    · rename_i hy
      rcases List.mem_cons.1 h with rfl | h
      · exact absurd e hy
      · exact numG_ge s l (k + 1) x h e
theorem numberF_lt (l : List CodedD) (s : ByteArray) : numberF l s < (l.length : Int) := by
  have := numG_lt s l 0
  rw [Nat.zero_add] at this
  exact this
theorem number_name {d : List DeclD} (h : check3F d = 0) {s : ByteArray} (hs : amongF (namesL d) s = true) : 0 ≤ numberF (codesR d) s := by
  obtain ⟨-, h2, -, hn, hl⟩ := check3_zero h
  obtain ⟨t, ht, e⟩ := List.any_eq_true.1 hs
  obtain ⟨j, hj, rfl⟩ := mem_getD ByteArray.empty ht
  obtain ⟨u, hu, eu⟩ := nmG_hit hn hl h2 hj (namesL d).length 0 [] (by omega) (by omega)
  have hlen : (codesL d).length = (namesL d).length := by simp [codesL]
  refine numG_ge s (codesR d) 0 (u, (codesL d).getD j []) ?_ (strEq_trans eu e)
  rw [codesR_mem]
  refine ⟨(codesL d).getD j [], famG_sub (getD_mem (by omega)), ?_⟩
  unfold nameF
  rw [hu]
theorem number_decl {d : List DeclD} (h : check3F d = 0) {x : DeclD} (hx : x ∈ d) : 0 ≤ numberF (codesR d) x.1 := number_name h (namesL_has hx)
theorem codesF_zero {d : List DeclD} (h : (codesF d).2 = 0) : check3F d = 0 ∧ (familyF (codesL d)).length ≤ 256 ∧ (codesF d).1 = codesR d := by
  unfold codesF at h ⊢
  split at h
  · rename_i h1; exact absurd h h1
  · rename_i h1
    split at h
    · cases h
    · rename_i h2
      exact ⟨Classical.byContradiction h1, by omega, by rw [if_neg h1, if_neg h2]⟩
theorem fam_pos {d : List DeclD} (h : check3F d = 0) : 0 < (codesR d).length := by
  obtain ⟨-, -, hr, -, -⟩ := check3_zero h
  cases d with
  | nil => cases hr
  | cons x d =>
    have := number_decl h (x := x) (by simp)
    have h2 := numberF_lt (codesR (x :: d)) x.1
    omega
end
/- Functions of grammarlabref04: Supers. -/
section
attribute [local go_sem] subsS
def betw (l : List CodedD) (i k : Int) (m : Nat) : Bool := (m : Int) == i || (m : Int) == k || !subsF l k (m : Int) || !subsF l (m : Int) i
def dirA (l : List CodedD) (i k : Int) (n : Nat) : Bool := (List.range n).all (betw l i k)
def supB (l : List CodedD) (i : Int) (k : Nat) : Bool := !((k : Int) == i || !subsF l (k : Int) i) && dirA l i (k : Int) l.length
def supsG (l : List CodedD) (i : Int) (n : Nat) : List Int := ((List.range n).filter fun (k : Nat) => supB l i k).map fun (k : Nat) => (k : Int)
def supsF (l : List CodedD) (i : Int) : List Int := supsG l i l.length
theorem supsG_succ (l : List CodedD) (i : Int) (n : Nat) : supsG l i (n + 1) = supsG l i n ++ if supB l i n = true then [(n : Int)] else [] := by
  unfold supsG
  rw [List.range_succ, List.filter_append, List.map_append]
  congr 1
  rw [List.filter_cons, List.filter_nil]
  split <;> rfl
theorem supsG_len (l : List CodedD) (i : Int) (n : Nat) : (supsG l i n).length ≤ n := by
  unfold supsG
  rw [List.length_map]
  exact Nat.le_trans (List.length_filter_le _ _) (by simp)
theorem dirA_succ (l : List CodedD) (i k : Int) (n : Nat) : dirA l i k (n + 1) = (dirA l i k n && betw l i k n) := by
  unfold dirA
  rw [List.range_succ, List.all_append]
  simp
def supsS : Spec := { ins := [T118, T3], pre := fun (l, i, _) => ((0 : Int) ≤ i ∧ i < (List.length l : Int)) ∧ List.length l ≤ 256 ∧ (∀ x ∈ (l : List CodedD), x.2.length ≤ 64), out := fun (l, i, _) => [.p T26 (supsF l i)] }
theorem sups_ok : FnOk Tryz.prog 72 supsS := by
  refine fn_ok Tryz.func72 (by kernel_rfl) rfl Tryz.ntmps72 (by decide) (by kernel_rfl) (tyTab_ok [(108, subsS)]) (fns_cons subs_ok fns_nil) ?_
  rintro w0 O0 ⟨l, i, u⟩ hc - ⟨hi, hl, hx⟩
  have hl : l.length ≤ 256 := hl
  have hx2 : ∀ x ∈ (l : List CodedD), x.2.length ≤ 100000 := fun x h => Nat.le_trans (hx x h) (by decide)
  simp only [supsS, entEnv]
  repeat' (first | exact trivial | refine eS rfl ?_ | refine ev_out_inv ?_ | refine rX [0, 1, 4, 5, 6, 7, 8, 12, 24, 28, 56] hc ?_ ?_ | (refine rC (fun hcond => ?_) (fun hcond => ?_) <;> try (cases hcond; done)))
  refine ev_loop (ι := {k : Nat // k ≤ l.length}) (fun k => ⟨[(0, .p T118 l), (1, .p T3 i), (5, .sr 60 T3 0 (supsG l i k.1).length), (6, .p (.int .i64) (k.1 : Int))], [(60, .arr 3 T3 (supsG l i k.1))]⟩) (fun k => l.length - k.1) ⟨0, Nat.zero_le _⟩ (ent_match [(60, .nil)] rfl rfl ?_ ?_) (fun k => ?_)
  · first | exact eN | refine eM ?_
    rfl
  · first | exact eN | refine eM ?_
    rfl
  · obtain ⟨k, hk⟩ := k
    have hk : k ≤ l.length := hk
    have hz := supsG_len l i k
    have hs := supsG_succ l i k
    simp only
    repeat' (first | exact trivial | refine eS rfl ?_ | refine ev_out_inv ?_ | refine rX [0, 1, 4, 5, 6, 7, 8, 12, 24, 28, 56] hc ?_ ?_ | (refine rC (fun hcond => ?_) (fun hcond => ?_) <;> try (cases hcond; done)))
    · intro h
      exact ⟨by assumption, hi, hx2⟩
    · exact eV
    · have hk2 : k < l.length := by exact eV
      have hb : supB l i k = false := by
        unfold supB
        rw [Bool.and_eq_false_iff]
        left
        rw [Bool.not_eq_false', Bool.or_eq_true, beq_iff_eq, Bool.not_eq_true']
        exact hcond
      rw [hb, if_neg (by simp), List.append_nil] at hs
      refine ⟨⟨k + 1, by omega⟩, by simp only; omega, ent_match [(60, .nm 60)] rfl rfl ?_ ?_⟩
      · simp only [hs]
        first | exact eN | refine eM ?_
      · simp only [hs]
        first | exact eN | refine eM ?_
    · have hk2 : k < l.length := by exact eV
      have hb : supB l i k = dirA l i (k : Int) l.length := by
        unfold supB
        rw [show ((k : Int) == i || !subsF l (k : Int) i) = false by
          rw [Bool.or_eq_false_iff, beq_eq_false_iff_ne, Bool.not_eq_false']; exact hcond]
        rfl
      refine ev_loop (ι := {m : Nat // m ≤ l.length}) (fun m => ⟨[(0, .p T118 l), (1, .p T3 i), (5, .sr 60 T3 0 (supsG l i k).length), (6, .p (.int .i64) (k : Int)), (7, .p .bool (dirA l i (k : Int) m.1)), (8, .p (.int .i64) (m.1 : Int))], [(60, .arr 3 T3 (supsG l i k))]⟩) (fun m => l.length - m.1) ⟨0, Nat.zero_le _⟩ (ent_match [(60, .nm 60)] rfl rfl ?_ ?_) (fun m => ?_)
      · first | exact eN | refine eM ?_
      · first | exact eN | refine eM ?_
        rfl
      · obtain ⟨m, hm⟩ := m
        have hm : m ≤ l.length := hm
        have hds := dirA_succ l i (k : Int) m
        simp only
        repeat' (first | exact trivial | refine eS rfl ?_ | refine ev_out_inv ?_ | refine rX [0, 1, 4, 5, 6, 7, 8, 12, 24, 28, 56] hc ?_ ?_ | (refine rC (fun hcond => ?_) (fun hcond => ?_) <;> try (cases hcond; done)))
        · exact ⟨fun h => ⟨by assumption, hcond, hx2⟩, fun h => ⟨hcond, hi, hx2⟩⟩
        · exact eV
        · have hm2 : m < l.length := by exact eV
          refine ⟨⟨m + 1, by omega⟩, by simp only; omega, ent_match [(60, .nm 60)] rfl rfl ?_ ?_⟩
          · first | exact eN | refine eM ?_
          · simp only [hds]
            unfold betw
            first | exact eN | refine eM ?_
        · simp only [maxN]; dsimp only [Ty.den] at *; omega
        · exact eV
        · have hm2 : m = l.length := by exact eV
          subst hm2
          rw [hb, if_pos hcond] at hs
          refine ⟨⟨k + 1, by omega⟩, by simp only; omega, ent_match [(60, .nm 60)] rfl rfl ?_ ?_⟩
          · simp only [hs]
            first | exact eN | refine eM ?_
          · simp only [hs]
            first | exact eN | refine eM ?_
        · exact eV
        · have hm2 : m = l.length := by exact eV
          subst hm2
          rw [hb, if_neg (by rw [hcond]; simp), List.append_nil] at hs
          refine ⟨⟨k + 1, by omega⟩, by simp only; omega, ent_match [(60, .nm 60)] rfl rfl ?_ ?_⟩
          · simp only [hs]
            first | exact eN | refine eM ?_
          · simp only [hs]
            first | exact eN | refine eM ?_
    · have hk2 : k = l.length := by exact eV
      subst hk2
      refine Ev.ent ?_ (ent_frz [60] (by simp only [go_sem, Nat.reduceEqDiff, reduceCtorEq, Nat.reduceAdd, Nat.reduceSub, Nat.reduceMul, Nat.reduceLeDiff, Nat.reduceLT, Int.reduceLE, Int.reduceToNat, Int.reduceNeg, ↓reduceIte]; rfl) (fun _ _ h => h))
      exact ev_fin hc [.tmp 4] rfl (.inl rfl) (by simp) (by unfold supsF; first | exact eR | refine eRM ?_)
end
/- Functions of grammarlabref05: declarations. -/
section
attribute [local go_sem] namesLS featureS amongS
abbrev FV := ByteArray × ByteArray
abbrev f0V : FV := (ByteArray.empty, ByteArray.empty)
def dcG (all : List ByteArray) (l : List FV) : Nat → List FV → Int
  | _, [] => 0
  | k, x :: r => if namedF x.1 true = false then 1 else if ((l.take k).any fun y => strEq y.1 x.1) = true then 4 else if amongF all x.2 = false then 5 else dcG all l (k + 1) r
def dcsG (all : List ByteArray) : List DeclD → Int
  | [] => 0
  | x :: l => if dcG all x.2.2 0 x.2.2 ≠ 0 then dcG all x.2.2 0 x.2.2 else dcsG all l
def declsF (d : List DeclD) : Int := dcsG (namesL d) d
theorem dcG_step (all : List ByteArray) (l : List FV) {k : Nat} (h : k < l.length) : dcG all l k (l.drop k) = if namedF (l.getD k f0V).1 true = false then 1 else if ((l.take k).any fun y => strEq y.1 (l.getD k f0V).1) = true then 4 else if amongF all (l.getD k f0V).2 = false then 5 else dcG all l (k + 1) (l.drop (k + 1)) := by
  rw [List.drop_eq_getElem_cons h]
  have e : l.getD k f0V = l[k] := by simp [List.getD_eq_getElem?_getD, h]
  rw [e]
  rfl
theorem dcsG_step (all : List ByteArray) (l : List DeclD) {k : Nat} (h : k < l.length) : dcsG all (l.drop k) = if dcG all (l.getD k d0).2.2 0 (l.getD k d0).2.2 ≠ 0 then dcG all (l.getD k d0).2.2 0 (l.getD k d0).2.2 else dcsG all (l.drop (k + 1)) := by
  rw [List.drop_eq_getElem_cons h]
  have e : l.getD k d0 = l[k] := by simp [List.getD_eq_getElem?_getD, h]
  rw [e]
  rfl
def declsS : Spec := { ins := [T22], pre := fun (d, _) => List.length d ≤ 256, out := fun (d, _) => [.p T72 (declsF d)] }
theorem decls_ok : FnOk Tryz.prog 141 declsS := by
  refine fn_ok Tryz.func141 (by kernel_rfl) rfl Tryz.ntmps141 (by decide) (by kernel_rfl) (tyTab_ok [(103, namesLS), (173, featureS), (151, amongS)]) (fns_cons namesL_ok (fns_cons feature_ok (fns_cons among_ok fns_nil))) ?_
  rintro w0 O0 ⟨d, u⟩ hc ⟨⟨hdl, hall⟩, -⟩ hd
  have hd : d.length ≤ 256 := hd
  simp only [declsS, entEnv]
  repeat' (first | exact trivial | refine eS rfl ?_ | refine ev_out_inv ?_ | refine rX [0, 2, 3, 4, 5, 6, 7, 13, 24, 33, 36, 49, 57] hc ?_ ?_ | (refine rC (fun hcond => ?_) (fun hcond => ?_) <;> try (cases hcond; done)))
  · exact Nat.le_trans hd (by decide)
  · have hdf : declsF d = dcsG (namesL d) d := rfl
    rw [hdf]
    generalize namesL d = all at *
    refine ev_loop (ι := {i : Nat // i ≤ d.length ∧ dcsG all (d.drop i) = dcsG all d}) (fun i => ⟨[(0, .p T22 d), (3, .p T131 all), (4, .p (.int .i64) (i.1 : Int))], []⟩) (fun i => d.length - i.1) ⟨0, Nat.zero_le _, rfl⟩ (ent_match [] rfl rfl ?_ ?_) (fun i => ?_)
    · first | exact eN | refine eM ?_
    · first | exact eN | refine eM ?_
    · obtain ⟨i, hi, hf⟩ := i
      simp only
      repeat' (first | exact trivial | refine eS rfl ?_ | refine ev_out_inv ?_ | refine rX [0, 2, 3, 4, 5, 6, 7, 13, 24, 33, 36, 49, 57] hc ?_ ?_ | (refine rC (fun hcond => ?_) (fun hcond => ?_) <;> try (cases hcond; done)))
      · exact hcond
      · have hi2 : i < d.length := by exact eV
        rw [dcsG_step all d hi2] at hf
        have hfl : (d.getD i d0).2.2.length ≤ maxN := (hall _ (mem_of_take_succ d d0 hi2)).2.2.1
        have hfe : (List.getD d i (ByteArray.empty, [], [])).2.2 = (d.getD i d0).2.2 := rfl
        rw [hfe]
        generalize (d.getD i d0).2.2 = l at *
        simp only [maxN] at hfl
        refine ev_loop (ι := {k : Nat // k ≤ l.length ∧ dcG all l k (l.drop k) = dcG all l 0 l}) (fun k => ⟨[(0, .p T22 d), (3, .p T131 all), (4, .p (.int .i64) (i : Int)), (5, .p T132 l), (6, .p (.int .i64) (k.1 : Int))], []⟩) (fun k => l.length - k.1) ⟨0, Nat.zero_le _, rfl⟩ (ent_match [] rfl rfl ?_ ?_) (fun k => ?_)
        · first | exact eN | refine eM ?_
        · first | exact eN | refine eM ?_
        · obtain ⟨k, hk, hg⟩ := k
          have hstep := fun h : k < l.length => dcG_step all l h
          simp only
          repeat' (first | exact trivial | refine eS rfl ?_ | refine ev_out_inv ?_ | refine rX [0, 2, 3, 4, 5, 6, 7, 13, 24, 33, 36, 49, 57] hc ?_ ?_ | (refine rC (fun hcond => ?_) (fun hcond => ?_) <;> try (cases hcond; done)))
          · exact hcond
          · have hk2 : k < l.length := by exact eV
            rw [hstep hk2, if_pos hcond] at hg
            rw [← hg, if_pos (by decide)] at hf
            exact ev_fin hc [.tmp 2] rfl (.inl rfl) (by simp) (by rw [← hf]; first | exact eR | refine eRM ?_)
          · have hk2 : k < l.length := by exact eV
            have hkI : (k : Int) < (l.length : Int) := Int.ofNat_lt.2 hk2
            rw [hstep hk2, if_neg (by rw [hcond]; simp)] at hg
            refine ev_loop (ι := {m : Nat // m ≤ k ∧ ((l.take m).any fun y => strEq y.1 (l.getD k f0V).1) = false}) (fun m => ⟨[(0, .p T22 d), (3, .p T131 all), (4, .p (.int .i64) (i : Int)), (5, .p T132 l), (6, .p (.int .i64) (k : Int)), (7, .p (.int .i64) (m.1 : Int))], []⟩) (fun m => k - m.1) ⟨0, Nat.zero_le _, rfl⟩ (ent_match [] rfl rfl ?_ ?_) (fun m => ?_)
            · first | exact eN | refine eM ?_
            · first | exact eN | refine eM ?_
            · obtain ⟨m, hm, hany⟩ := m
              have hstep2 := fun h : m < l.length => any_take2 l f0V (fun y => strEq y.1 (l.getD k f0V).1) h
              simp only
              repeat' (first | exact trivial | refine eS rfl ?_ | refine ev_out_inv ?_ | refine rX [0, 2, 3, 4, 5, 6, 7, 13, 24, 33, 36, 49, 57] hc ?_ ?_ | (refine rC (fun hcond => ?_) (fun hcond => ?_) <;> try (cases hcond; done)))
              · have h1 : (m : Int) < (k : Int) := hcond
                exact ⟨by exact eV, hkI⟩
              · have hm2 : m < k := Int.ofNat_lt.1 (by assumption)
                have h2 := hstep2 (by omega)
                have h3 : ((l.take k).any fun y => strEq y.1 (l.getD k f0V).1) = true := by
                  rw [List.any_eq_true]
                  exact ⟨l.getD m f0V, by
                    rw [List.mem_take_iff_getElem]
                    refine ⟨m, by omega, ?_⟩
                    simp [List.getD_eq_getElem?_getD, show m < l.length by omega], hcond⟩
                rw [if_pos h3] at hg
                rw [← hg, if_pos (by decide)] at hf
                exact ev_fin hc [.tmp 2] rfl (.inl rfl) (by simp) (by rw [← hf]; first | exact eR | refine eRM ?_)
              · omega
              · have hm2 : m < k := Int.ofNat_lt.1 (by assumption)
                have h2 := hstep2 (by omega)
                refine ⟨⟨m + 1, by omega, ?_⟩, by simp only; omega, ent_match [] rfl rfl ?_ ?_⟩
                · rw [h2, hany]
                  exact hcond
                · first | exact eN | refine eM ?_
                · first | exact eN | refine eM ?_
              · exact hkI
              · have hm2 : m = k := by omega
                subst hm2
                rw [if_neg (by rw [hany]; simp), if_pos hcond] at hg
                rw [← hg, if_pos (by decide)] at hf
                exact ev_fin hc [.tmp 2] rfl (.inl rfl) (by simp) (by rw [← hf]; first | exact eR | refine eRM ?_)
              · have := hdl
                simp only [maxN] at this
                omega
              · have hm2 : m = k := by omega
                subst hm2
                rw [if_neg (by rw [hany]; simp), if_neg (by rw [hcond]; simp)] at hg
                refine ⟨⟨m + 1, by omega, hg⟩, by simp only; omega, ent_match [] rfl rfl ?_ ?_⟩
                · first | exact eN | refine eM ?_
                · first | exact eN | refine eM ?_
          · omega
          · have hk2 : l.drop k = [] := List.drop_eq_nil_of_le (Int.ofNat_le.1 hcond)
            rw [hk2] at hg
            rw [← hg, if_neg (by simp [dcG])] at hf
            refine ⟨⟨i + 1, by omega, hf⟩, by simp only; omega, ent_match [] rfl rfl ?_ ?_⟩
            · first | exact eN | refine eM ?_
            · first | exact eN | refine eM ?_
      · have hk2 : d.drop i = [] := List.drop_eq_nil_of_le (by exact eV)
        rw [hk2] at hf
        exact ev_fin hc [.tmp 2] rfl (.inl rfl) (by simp) (by rw [← hf]; first | exact eR | refine eRM ?_; rfl)
end
/- Functions of grammarlabref05: intro. -/
section
attribute [local go_sem] valueS putS maximalS cs0
def userA (s : ByteArray) (o : List ByteArray) (x : DeclD) : List ByteArray := if (valueF x s).2 = true then putF o x.1 else o
def usersF (d : List DeclD) (s : ByteArray) : List ByteArray := d.foldl (userA s) []
theorem usersF_len (s : ByteArray) (d : List DeclD) (k : Nat) : (usersF (d.take k) s).length ≤ k := by
  have key : ∀ (l : List DeclD) (o : List ByteArray), (l.foldl (userA s) o).length ≤ o.length + l.length := by
    intro l
    induction l with
    | nil => intro o; simp
    | cons x l ih =>
      intro o
      have h1 := ih (userA s o x)
      have h2 : (userA s o x).length ≤ o.length + 1 := by
        unfold userA
        split
        · exact putF_len o x.1
        · omega
      simp only [List.foldl_cons, List.length_cons]
      omega
  have h1 := key (d.take k) []
  have h2 := List.length_take_le k d
  unfold usersF
  simp only [List.length_nil] at h1
  omega
def introF (d : List DeclD) (s : ByteArray) : ByteArray × Bool := if (maximalF d (usersF d s)).length = 1 then ((maximalF d (usersF d s)).getD 0 ByteArray.empty, true) else (ByteArray.empty, false)
def introS : Spec := { ins := [T22, T9], pre := fun (d, _, _) => SupOk d ∧ List.length d ≤ 256, out := fun (d, s, _) => [.p T9 (introF d s).1, .p .bool (introF d s).2] }
theorem intro_ok : FnOk Tryz.prog 109 introS := by
  refine fn_ok Tryz.func109 (by kernel_rfl) rfl Tryz.ntmps109 (by decide) (by kernel_rfl) (tyTab_ok [(143, valueS), (142, putS), (156, maximalS)]) (fns_cons value_ok (fns_cons put_ok (fns_cons maximal_ok fns_nil))) ?_
  rintro w0 O0 ⟨d, s, u⟩ hc - ⟨hsup, hd⟩
  have hd : d.length ≤ 256 := hd
  simp only [introS, entEnv]
  repeat' (first | exact trivial | refine eS rfl ?_ | refine ev_out_inv ?_ | refine rX [0, 1, 4, 5, 6, 7, 9, 10, 14, 26, 39] hc ?_ ?_ | (refine rC (fun hcond => ?_) (fun hcond => ?_) <;> try (cases hcond; done)))
  refine ev_loop (ι := {i : Nat // i ≤ d.length}) (fun i => ⟨[(0, .p T22 d), (1, .p T9 s), (6, .p T131 (usersF (d.take i.1) s)), (7, .p (.int .i64) (i.1 : Int))], []⟩) (fun i => d.length - i.1) ⟨0, Nat.zero_le _⟩ (ent_match [] rfl rfl ?_ ?_) (fun i => ?_)
  · first | exact eN | refine eM ?_
  · first | exact eN | refine eM ?_
    rfl
  · obtain ⟨i, hi⟩ := i
    have hi : i ≤ d.length := hi
    have hn := usersF_len s d i
    have hs := fun h : i < d.length => fold_tk (userA s) d d0 [] h
    have hfe : ∀ e, usersF e s = e.foldl (userA s) [] := fun _ => rfl
    rw [← hfe, ← hfe] at hs
    unfold userA at hs
    simp only
    repeat' (first | exact trivial | refine eS rfl ?_ | refine ev_out_inv ?_ | refine rX [0, 1, 4, 5, 6, 7, 9, 10, 14, 26, 39] hc ?_ ?_ | (refine rC (fun hcond => ?_) (fun hcond => ?_) <;> try (cases hcond; done)))
    · exact hcond
    · exact ⟨by assumption, by omega⟩
    · exact eV
    · have hi2 : i < d.length := by exact eV
      have e := hs hi2
      rw [if_pos hcond] at e
      refine ⟨⟨i + 1, by omega⟩, by simp only; omega, ent_match [] rfl rfl ?_ ?_⟩
      · first | exact eN | refine eM ?_
      · simp only [e]
        first | exact eN | refine eM ?_
    · exact eV
    · have hi2 : i < d.length := by exact eV
      have e := hs hi2
      rw [if_neg (by rw [hcond]; simp)] at e
      refine ⟨⟨i + 1, by omega⟩, by simp only; omega, ent_match [] rfl rfl ?_ ?_⟩
      · first | exact eN | refine eM ?_
      · simp only [e]
        first | exact eN | refine eM ?_
    · exact ⟨hsup, hd, by omega⟩
    · have hi2 : d.take i = d := List.take_of_length_le (by exact eV)
      rw [hi2] at hcond ⊢
      have h1 : introF d s = (ByteArray.empty, false) := by
        unfold introF
        rw [if_neg (by omega)]
      exact ev_fin hc [.tmp 4, .tmp 5] rfl (.inl rfl) (by simp) (by rw [h1]; first | exact eR | refine eRM ?_; first | rfl | exact ⟨rfl, rfl⟩)
    · have h2 : ((maximalF d (usersF (d.take i) s)).length : Int) = 1 := by simpa using hcond
      have h3 : (0 : Int) < ((maximalF d (usersF (d.take i) s)).length : Int) := by rw [h2]; decide
      exact h3
    · have hi2 : d.take i = d := List.take_of_length_le (by exact eV)
      rw [hi2] at hcond ⊢
      have h2 : ((maximalF d (usersF d s)).length : Int) = 1 := by simpa using hcond
      have h1 : introF d s = ((maximalF d (usersF d s)).getD 0 ByteArray.empty, true) := by
        unfold introF
        rw [if_pos (by omega)]
      exact ev_fin hc [.tmp 4, .tmp 5] rfl (.inl rfl) (by simp) (by rw [h1]; first | exact eR | refine eRM ?_)
end
/- Functions of grammarlabref05: inherited. -/
section
attribute [local go_sem] valueS numberS subsS andS
def inhA (l : List CodedD) (t : Int) (s : ByteArray) (o : List Int × Bool) (x : DeclD) : List Int × Bool :=
  if (!(valueF x s).2 || !subsF l (numberF l x.1) t) = true then o else (andF o.1 (l.getD (numberF l (valueF x s).1).toNat c0).2, true)
def inhF (d : List DeclD) (l : List CodedD) (t : Int) (s : ByteArray) : List Int × Bool := d.foldl (inhA l t s) ((l.getD 0 c0).2, false)
/-- Each declared type, and each type of a value, has a number. -/
def NrOk (d : List DeclD) (l : List CodedD) : Prop := (∀ x ∈ d, 0 ≤ numberF l x.1) ∧ ∀ x ∈ d, ∀ y ∈ x.2.2, 0 ≤ numberF l y.2
theorem valG_mem (s : ByteArray) : ∀ (l : List (ByteArray × ByteArray)), (valG s l).2 = true → ∃ y ∈ l, y.2 = (valG s l).1
  | [], h => by cases h
  | x :: l, h => by
    simp only [valG] at h ⊢
    split at h
    · rename_i h1
      rw [if_pos h1]
      exact ⟨x, by simp, rfl⟩
    · rename_i h1
      rw [if_neg h1]
      obtain ⟨y, hy, e⟩ := valG_mem s l h
      exact ⟨y, by simp [hy], e⟩
theorem NrOk.value {d : List DeclD} {l : List CodedD} (h : NrOk d l) {x : DeclD} (hx : x ∈ d) {s : ByteArray} (hv : (valueF x s).2 = true) : 0 ≤ numberF l (valueF x s).1 := by
  obtain ⟨y, hy, e⟩ := valG_mem s x.2.2 hv
  have := h.2 x hx y hy
  rw [e] at this
  exact this
theorem inhA_len {l : List CodedD} (t : Int) (s : ByteArray) (x : DeclD) {o : List Int × Bool} (h : o.1.length ≤ 64) : (inhA l t s o x).1.length ≤ 64 := by
  unfold inhA
  split
  · exact h
  · exact Nat.le_trans (andF_len _ _) h
theorem inhs_len {l : List CodedD} (t : Int) (s : ByteArray) : ∀ (d : List DeclD) {o : List Int × Bool}, o.1.length ≤ 64 → (d.foldl (inhA l t s) o).1.length ≤ 64
  | [], _, h => h
  | x :: d, _, h => by rw [List.foldl_cons]; exact inhs_len t s d (inhA_len t s x h)
theorem numG_lt1 (s : ByteArray) : ∀ (l : List CodedD) (k : Nat), numG s k l < ((k + l.length : Nat) : Int)
  | [], k => by simp only [numG]; omega
  | x :: l, k => by
    simp only [numG]
    split
    · simp only [List.length_cons]; omega
    · have := numG_lt1 s l (k + 1)
      simp only [List.length_cons]
      omega
theorem numberF_lt1 (l : List CodedD) (s : ByteArray) : numberF l s < (l.length : Int) := by
  have := numG_lt1 s l 0
  rw [Nat.zero_add] at this
  exact this
def inhS : Spec := { ins := [T22, T118, T3, T9], pre := fun (d, l, t, _, _) => NrOk d l ∧ ((0 : Int) ≤ t ∧ t < (List.length l : Int)) ∧ List.length l ≤ 256 ∧ (∀ x ∈ (l : List CodedD), x.2.length ≤ 64), out := fun (d, l, t, s, _) => [.p T122 (inhF d l t s).1, .p .bool (inhF d l t s).2] }
theorem inh_ok : FnOk Tryz.prog 100 inhS := by
  refine fn_ok Tryz.func100 (by kernel_rfl) rfl Tryz.ntmps100 (by decide) (by kernel_rfl) (tyTab_ok [(143, valueS), (110, numberS), (108, subsS), (122, andS)]) (fns_cons value_ok (fns_cons number_ok (fns_cons subs_ok (fns_cons and_ok fns_nil)))) ?_
  rintro w0 O0 ⟨d, l, t, s, u⟩ hc ⟨⟨hdl, hall⟩, -⟩ ⟨hnum, ht, hl, hx⟩
  have hl : l.length ≤ 256 := hl
  have hx2 : ∀ x ∈ (l : List CodedD), x.2.length ≤ 100000 := fun x h => Nat.le_trans (hx x h) (by decide)
  have hlp : 0 < List.length l := Int.ofNat_lt.1 (Int.lt_of_le_of_lt ht.1 ht.2)
  simp only [maxN] at hdl
  simp only [inhS, entEnv]
  repeat' (first | exact trivial | refine eS rfl ?_ | refine ev_out_inv ?_ | refine rX [0, 1, 2, 3, 8, 9, 10, 11, 12, 13, 14, 22, 48] hc ?_ ?_ | (refine rC (fun hcond => ?_) (fun hcond => ?_) <;> try (cases hcond; done)))
  · exact Int.ofNat_lt.2 hlp
  · have hif : inhF d l t s = d.foldl (inhA l t s) ((l.getD 0 c0).2, false) := rfl
    have hc0 : (l.getD 0 c0).2.length ≤ 64 := hx _ (mem_of_take_succ l c0 hlp)
    have hc1 : (List.getD l 0 (ByteArray.empty, [])).2 = (l.getD 0 c0).2 := rfl
    rw [hc1]
    generalize (l.getD 0 c0).2 = b0 at *
    refine ev_loop (ι := {i : Nat // i ≤ d.length}) (fun i => ⟨[(0, .p T22 d), (1, .p T118 l), (2, .p T3 t), (3, .p T9 s), (10, .p .bool ((d.take i.1).foldl (inhA l t s) (b0, false)).2), (11, .p T122 ((d.take i.1).foldl (inhA l t s) (b0, false)).1), (12, .p (.int .i64) (i.1 : Int))], []⟩) (fun i => d.length - i.1) ⟨0, Nat.zero_le _⟩ (ent_match [] rfl rfl ?_ ?_) (fun i => ?_)
    · first | exact eN | refine eM ?_
    · first | exact eN | refine eM ?_
      exact ⟨rfl, rfl⟩
    · obtain ⟨i, hi⟩ := i
      have hi : i ≤ d.length := hi
      have hlen := inhs_len (l := l) t s (d.take i) (o := (b0, false)) hc0
      have hs := fun h : i < d.length => fold_tk (inhA l t s) d d0 (b0, false) h
      have hnx := fun h : i < d.length => hnum.1 _ (mem_of_take_succ d d0 h)
      have hnv := fun (h : i < d.length) (g : (valueF (d.getD i d0) s).2 = true) => hnum.value (mem_of_take_succ d d0 h) g
      have hia : ∀ o x, inhA l t s o x = (if (!(valueF x s).2 || !subsF l (numberF l x.1) t) = true then o else (andF o.1 (l.getD (numberF l (valueF x s).1).toNat c0).2, true)) := fun _ _ => rfl
      generalize ho : (d.take i).foldl (inhA l t s) (b0, false) = o at *
      simp only
      repeat' (first | exact trivial | refine eS rfl ?_ | refine ev_out_inv ?_ | refine rX [0, 1, 2, 3, 8, 9, 10, 11, 12, 13, 14, 22, 48] hc ?_ ?_ | (refine rC (fun hcond => ?_) (fun hcond => ?_) <;> try (cases hcond; done)))
      · exact hcond
      · have hi2 : i < d.length := Int.ofNat_lt.1 hcond
        exact ⟨fun _ => hcond, fun _ => ⟨⟨hnx hi2, numberF_lt1 _ _⟩, ht, hx2⟩⟩
      · exact eV
      · have hi2 : i < d.length := Int.ofNat_lt.1 (by assumption)
        have e := hs hi2
        rw [hia, if_pos (by rw [Bool.or_eq_true, Bool.not_eq_true', Bool.not_eq_true']; exact hcond)] at e
        refine ⟨⟨i + 1, by omega⟩, by simp only; omega, ent_match [] rfl rfl ?_ ?_⟩
        · first | exact eN | refine eM ?_
        · first | exact eN | refine eM ?_
          rw [e]
          exact ⟨rfl, rfl⟩
      · have hi2 : i < d.length := Int.ofNat_lt.1 (by assumption)
        exact ⟨⟨hnv hi2 hcond.1, numberF_lt1 _ _⟩, Nat.le_trans hlen (by decide)⟩
      · exact eV
      · have hi2 : i < d.length := Int.ofNat_lt.1 (by assumption)
        have e := hs hi2
        have hneg : ¬ (!(valueF (d.getD i d0) s).2 || !subsF l (numberF l (d.getD i d0).1) t) = true := by
          rw [Bool.or_eq_true, Bool.not_eq_true', Bool.not_eq_true']
          rintro (h | h)
          · rw [show (valueF (d.getD i d0) s).2 = true from hcond.1] at h; cases h
          · rw [show subsF l (numberF l (d.getD i d0).1) t = true from hcond.2] at h; cases h
        rw [hia, if_neg hneg] at e
        refine ⟨⟨i + 1, by omega⟩, by simp only; omega, ent_match [] rfl rfl ?_ ?_⟩
        · first | exact eN | refine eM ?_
        · first | exact eN | refine eM ?_
          rw [e]
          exact ⟨rfl, rfl⟩
      · have hi2 : d.take i = d := List.take_of_length_le (Int.ofNat_le.1 hcond)
        rw [hi2] at ho
        rw [ho] at hif
        exact ev_fin hc [.tmp 8, .tmp 9] rfl (.inl rfl) (by simp) (by rw [hif]; first | exact eR | refine eRM ?_)
end
/- Plain: what passes grammarlabref04.Codes and the checks of grammarlabref05. -/
section
theorem sizesG_zero : ∀ {l : List DeclD}, sizesG l = 0 → ∀ x ∈ l, x.2.1.length ≤ 256 ∧ x.2.2.length ≤ 256
  | [], _, x, hx => by cases hx
  | y :: l, h, x, hx => by
    simp only [sizesG] at h
    split at h
    · cases h
    · rename_i h1
      rcases List.mem_cons.1 hx with rfl | hx
      · exact ⟨by omega, by omega⟩
      · exact sizesG_zero h x hx
theorem check3_sizes {d : List DeclD} (h : check3F d = 0) : ∀ x ∈ d, x.2.1.length ≤ 256 ∧ x.2.2.length ≤ 256 := by
  have h1 : sizesF d = 0 := by
    unfold check3F at h
    split at h
    · rename_i h1; exact absurd h h1
    · rename_i h1; exact Classical.byContradiction h1
  unfold sizesF at h1
  split at h1
  · cases h1
  · exact sizesG_zero h1
theorem codesR_wid {d : List DeclD} (h : check3F d = 0) : ∀ x ∈ codesR d, x.2.length ≤ 64 := by
  intro x hx
  obtain ⟨-, h2, -⟩ := check3_zero h
  obtain ⟨b, hb, rfl⟩ := codesR_mem.1 hx
  exact famG_wid (codesL_wid h2) b hb
theorem dcG_zero {all : List ByteArray} {l : List FV} : ∀ {r : List FV} {k : Nat}, dcG all l k r = 0 → ∀ y ∈ r, amongF all y.2 = true
  | [], _, _, y, hy => by cases hy
  | x :: r, k, h, y, hy => by
    simp only [dcG] at h
    split at h
    · cases h
    · split at h
      · cases h
      · split at h
        · cases h
        · rename_i h3
          rcases List.mem_cons.1 hy with rfl | hy
          · simpa using h3
          · exact dcG_zero h y hy
theorem dcsG_zero {all : List ByteArray} : ∀ {l : List DeclD}, dcsG all l = 0 → ∀ x ∈ l, ∀ y ∈ x.2.2, amongF all y.2 = true
  | [], _, x, hx => by cases hx
  | z :: l, h, x, hx => by
    simp only [dcsG] at h
    split at h
    · rename_i h1; exact absurd h h1
    · rename_i h1
      rcases List.mem_cons.1 hx with rfl | hx
      · exact dcG_zero (Classical.byContradiction h1)
      · exact dcsG_zero h x hx
theorem nrOk_of {d : List DeclD} (h : check3F d = 0) (h2 : declsF d = 0) : NrOk d (codesR d) :=
  ⟨fun x hx => number_decl h hx, fun x hx y hy => number_name h (dcsG_zero h2 x hx y hy)⟩
theorem featsF_len {d : List DeclD} (h : check3F d = 0) : (featsF d).length ≤ 65536 := by
  obtain ⟨-, h2, -⟩ := check3_zero h
  have h3 := featsA_len (d := d) (fun x hx => (check3_sizes h x hx).2) d (fun _ h => h) []
  have h4 : featsF d = d.foldl featsA [] := rfl
  rw [← h4] at h3
  simp only [List.length_nil] at h3
  omega
end
/- Functions of grammarlabref05: Check. -/
section
attribute [local go_sem] codesS featsS declsS introS inhS
def inhBad (d : List DeclD) (l : List CodedD) (t : Nat) (s : ByteArray) : Bool := (inhF d l (t : Int) s).2 && ((inhF d l (t : Int) s).1.length : Int) == 0
def inhBads (d : List DeclD) (l : List CodedD) (f : List ByteArray) (t : Nat) : Bool := f.any (inhBad d l t)
def valBad (d : List DeclD) (l : List CodedD) (f : List ByteArray) (n : Nat) : Bool := (List.range n).any (inhBads d l f)
theorem valBad_succ (d : List DeclD) (l : List CodedD) (f : List ByteArray) (n : Nat) : valBad d l f (n + 1) = (valBad d l f n || inhBads d l f n) := by
  unfold valBad
  rw [List.range_succ, List.any_append]
  simp
def check5F (d : List DeclD) : Int :=
  if (codesF d).2 ≠ 0 then (codesF d).2 else if 64 < (featsF d).length then 7 else if declsF d ≠ 0 then declsF d else
  if ((featsF d).all fun s => (introF d s).2) = false then 10 else if valBad d (codesF d).1 (featsF d) (codesF d).1.length = true then 11 else 0
def check5S : Spec := { ins := [T22], pre := fun _ => True, out := fun (d, _) => [.p T72 (check5F d)] }
theorem check5_ok : FnOk Tryz.prog 98 check5S := by
  refine fn_ok Tryz.func98 (by kernel_rfl) rfl Tryz.ntmps98 (by decide) (by kernel_rfl) (tyTab_ok [(71, codesS), (99, featsS), (141, declsS), (109, introS), (100, inhS)]) (fns_cons codes_ok (fns_cons feats_ok (fns_cons decls_ok (fns_cons intro_ok (fns_cons inh_ok fns_nil))))) ?_
  rintro w0 O0 ⟨d, u⟩ hc - -
  simp only [check5S, entEnv]
  repeat' (first | exact trivial | refine eS rfl ?_ | refine ev_out_inv ?_ | refine rX [0, 2, 3, 4, 5, 6, 7, 9, 10, 11, 12, 13, 20, 26, 30, 35, 48, 52, 58, 77] hc ?_ ?_ | (refine rC (fun hcond => ?_) (fun hcond => ?_) <;> try (cases hcond; done)))
  · have h1 : check5F d = (codesF d).2 := by unfold check5F; rw [if_pos hcond]
    exact ev_fin hc [.tmp 2] rfl (.inl rfl) (by simp) (by rw [h1]; first | exact eR | refine eRM ?_)
  · have hz : (codesF d).2 = 0 := by simpa using hcond
    obtain ⟨h3, -, -⟩ := codesF_zero hz
    obtain ⟨-, hd, -⟩ := check3_zero h3
    exact ⟨hd, fun x hx => (check3_sizes h3 x hx).2⟩
  · have hz : (codesF d).2 = 0 := by simpa using ‹((codesF d).2 != 0) = false›
    have h1 : check5F d = 7 := by
      unfold check5F
      rw [if_neg (by rw [hz]; simp), if_pos (by omega)]
    exact ev_fin hc [.tmp 2] rfl (.inl rfl) (by simp) (by rw [h1]; first | exact eR | refine eRM ?_)
  · have hz : (codesF d).2 = 0 := by simpa using ‹((codesF d).2 != 0) = false›
    obtain ⟨h3, -, -⟩ := codesF_zero hz
    exact (check3_zero h3).2.1
  · have hz : (codesF d).2 = 0 := by simpa using ‹((codesF d).2 != 0) = false›
    have h1 : check5F d = declsF d := by
      unfold check5F
      rw [if_neg (by rw [hz]; simp), if_neg (by omega), if_pos hcond]
    exact ev_fin hc [.tmp 2] rfl (.inl rfl) (by simp) (by rw [h1]; first | exact eR | refine eRM ?_)
  · have hz : (codesF d).2 = 0 := by simpa using ‹((codesF d).2 != 0) = false›
    have hdz : declsF d = 0 := by simpa using hcond
    obtain ⟨h3, hlen, hl⟩ := codesF_zero hz
    obtain ⟨hsup, hd, -⟩ := check3_zero h3
    have hnr := nrOk_of h3 hdz
    have hwid := codesR_wid h3
    have hpos := fam_pos h3
    have hll : (codesR d).length ≤ 256 := by rw [codesR_len]; exact hlen
    have hc5 : check5F d = if ((featsF d).all fun s => (introF d s).2) = false then 10 else if valBad d (codesF d).1 (featsF d) (codesF d).1.length = true then 11 else 0 := by
      unfold check5F
      rw [if_neg (by rw [hz]; simp), if_neg (by omega), if_neg (by rw [hdz]; simp)]
    rw [hl] at hc5 ⊢
    generalize codesR d = l at *
    generalize featsF d = f at *
    refine ev_loop (ι := {i : Nat // i ≤ f.length ∧ ((f.take i).all fun s => (introF d s).2) = true}) (fun i => ⟨[(0, .p T22 d), (3, .p T118 l), (5, .p T131 f), (7, .p (.int .i64) (i.1 : Int))], []⟩) (fun i => f.length - i.1) ⟨0, Nat.zero_le _, rfl⟩ (ent_match [] rfl rfl ?_ ?_) (fun i => ?_)
    · first | exact eN | refine eM ?_
    · first | exact eN | refine eM ?_
    · obtain ⟨i, hi, hall⟩ := i
      have hstep := fun h : i < f.length => all_take1 f ByteArray.empty (fun s => (introF d s).2) h
      simp only
      repeat' (first | exact trivial | refine eS rfl ?_ | refine ev_out_inv ?_ | refine rX [0, 2, 3, 4, 5, 6, 7, 9, 10, 11, 12, 13, 20, 26, 30, 35, 48, 52, 58, 77] hc ?_ ?_ | (refine rC (fun hcond => ?_) (fun hcond => ?_) <;> try (cases hcond; done)))
      · exact ⟨hcond, hsup, hd⟩
      · have hi2 : i < f.length := Int.ofNat_lt.1 (by assumption)
        have h2 : (f.all fun s => (introF d s).2) = false := by
          rw [Bool.eq_false_iff]
          intro h
          have := List.all_eq_true.1 h _ (mem_of_take_succ f ByteArray.empty hi2)
          rw [show (introF d (f.getD i ByteArray.empty)).2 = false from hcond] at this
          cases this
        rw [if_pos h2] at hc5
        exact ev_fin hc [.tmp 2] rfl (.inl rfl) (by simp) (by rw [hc5]; first | exact eR | refine eRM ?_)
      · omega
      · have hi2 : i < f.length := Int.ofNat_lt.1 (by assumption)
        refine ⟨⟨i + 1, hi2, ?_⟩, by simp only; omega, ent_match [] rfl rfl ?_ ?_⟩
        · rw [hstep hi2, hall]
          exact hcond
        · first | exact eN | refine eM ?_
        · first | exact eN | refine eM ?_
      · have hi2 : f.take i = f := List.take_of_length_le (Int.ofNat_le.1 hcond)
        rw [hi2] at hall
        rw [if_neg (by rw [hall]; simp)] at hc5
        refine ev_loop (ι := {t : Nat // t ≤ l.length ∧ valBad d l f t = false}) (fun t => ⟨[(0, .p T22 d), (3, .p T118 l), (5, .p T131 f), (10, .p (.int .i64) (t.1 : Int))], []⟩) (fun t => l.length - t.1) ⟨0, Nat.zero_le _, rfl⟩ (ent_match [] rfl rfl ?_ ?_) (fun t => ?_)
        · first | exact eN | refine eM ?_
        · first | exact eN | refine eM ?_
        · obtain ⟨t, ht, hvb⟩ := t
          have hvs := valBad_succ d l f t
          simp only
          repeat' (first | exact trivial | refine eS rfl ?_ | refine ev_out_inv ?_ | refine rX [0, 2, 3, 4, 5, 6, 7, 9, 10, 11, 12, 13, 20, 26, 30, 35, 48, 52, 58, 77] hc ?_ ?_ | (refine rC (fun hcond => ?_) (fun hcond => ?_) <;> try (cases hcond; done)))
          · have htl : t < l.length := Int.ofNat_lt.1 hcond
            refine ev_loop (ι := {k : Nat // k ≤ f.length ∧ (f.take k).any (inhBad d l t) = false}) (fun k => ⟨[(0, .p T22 d), (3, .p T118 l), (5, .p T131 f), (10, .p (.int .i64) (t : Int)), (11, .p (.int .i64) (k.1 : Int))], []⟩) (fun k => f.length - k.1) ⟨0, Nat.zero_le _, rfl⟩ (ent_match [] rfl rfl ?_ ?_) (fun k => ?_)
            · first | exact eN | refine eM ?_
            · first | exact eN | refine eM ?_
            · obtain ⟨k, hk, hany⟩ := k
              have hst := fun h : k < f.length => any_take2 f ByteArray.empty (inhBad d l t) h
              simp only
              repeat' (first | exact trivial | refine eS rfl ?_ | refine ev_out_inv ?_ | refine rX [0, 2, 3, 4, 5, 6, 7, 9, 10, 11, 12, 13, 20, 26, 30, 35, 48, 52, 58, 77] hc ?_ ?_ | (refine rC (fun hcond => ?_) (fun hcond => ?_) <;> try (cases hcond; done)))
              · exact ⟨hcond, hnr, by assumption, hll, hwid⟩
              · have hk2 : k < f.length := Int.ofNat_lt.1 (by assumption)
                have hb : inhBad d l t (f.getD k ByteArray.empty) = true := by
                  unfold inhBad
                  rw [Bool.and_eq_true, beq_iff_eq]
                  exact hcond
                have hB : valBad d l f l.length = true := by
                  unfold valBad
                  rw [List.any_eq_true]
                  exact ⟨t, List.mem_range.2 htl, any_of_get2 f ByteArray.empty _ hk2 hb⟩
                rw [if_pos hB] at hc5
                exact ev_fin hc [.tmp 2] rfl (.inl rfl) (by simp) (by rw [hc5]; first | exact eR | refine eRM ?_)
              · omega
              · have hk2 : k < f.length := Int.ofNat_lt.1 (by assumption)
                have hb : inhBad d l t (f.getD k ByteArray.empty) = false := by
                  rw [Bool.eq_false_iff]
                  unfold inhBad
                  intro h
                  rw [Bool.and_eq_true, beq_iff_eq] at h
                  exact hcond h.1 h.2
                refine ⟨⟨k + 1, hk2, ?_⟩, by simp only; omega, ent_match [] rfl rfl ?_ ?_⟩
                · rw [hst hk2, hany, hb]
                  rfl
                · first | exact eN | refine eM ?_
                · first | exact eN | refine eM ?_
              · omega
              · have hk2 : f.take k = f := List.take_of_length_le (Int.ofNat_le.1 hcond)
                rw [hk2] at hany
                refine ⟨⟨t + 1, htl, ?_⟩, by simp only; omega, ent_match [] rfl rfl ?_ ?_⟩
                · rw [hvs, hvb]
                  exact hany
                · first | exact eN | refine eM ?_
                · first | exact eN | refine eM ?_
          · have ht2 : t = l.length := by exact eV
            subst ht2
            rw [if_neg (by rw [hvb]; simp)] at hc5
            exact ev_fin hc [.tmp 2] rfl (.inl rfl) (by simp) (by rw [hc5]; first | exact eR | refine eRM ?_)
end
/- Functions of grammarlabref05: Features. -/
section
attribute [local go_sem] check5S codesS featsS introS numberS
abbrev FeatD := ByteArray × Int
theorem check5_zero {d : List DeclD} (h : check5F d = 0) : (codesF d).2 = 0 ∧ (featsF d).length ≤ 64 ∧ declsF d = 0 := by
  unfold check5F at h
  split at h
  · rename_i h1; exact absurd h h1
  · rename_i h1
    split at h
    · cases h
    · rename_i h2
      split at h
      · rename_i h3; exact absurd h h3
      · rename_i h3
        exact ⟨Classical.byContradiction h1, by omega, Classical.byContradiction h3⟩
def featD (d : List DeclD) (s : ByteArray) : FeatD := (s, numberF (codesR d) (introF d s).1)
def featuresF (d : List DeclD) : List FeatD × Int := if check5F d ≠ 0 then ([], check5F d) else ((featsF d).map (featD d), 0)
theorem map_take_succ {α β : Type} (f : α → β) (l : List α) (d : α) {k : Nat} (h : k < l.length) : (l.take (k + 1)).map f = (l.take k).map f ++ [f (l.getD k d)] := by
  rw [take_snoc l d h, List.map_append]
  rfl
theorem map_take_len {α β : Type} (f : α → β) (l : List α) {k : Nat} (h : k ≤ l.length) : ((l.take k).map f).length = k := by simp [h]
def featuresS : Spec := { ins := [T22], pre := fun _ => True, out := fun (d, _) => [.p T31 (featuresF d).1, .p T72 (featuresF d).2] }
theorem features_ok : FnOk Tryz.prog 73 featuresS := by
  refine fn_ok Tryz.func73 (by kernel_rfl) rfl Tryz.ntmps73 (by decide) (by kernel_rfl) (tyTab_ok [(98, check5S), (71, codesS), (99, featsS), (109, introS), (110, numberS)]) (fns_cons check5_ok (fns_cons codes_ok (fns_cons feats_ok (fns_cons intro_ok (fns_cons number_ok fns_nil))))) ?_
  rintro w0 O0 ⟨d, u⟩ hc - -
  simp only [featuresS, entEnv]
  repeat' (first | exact trivial | refine eS rfl ?_ | refine ev_out_inv ?_ | refine rX [0, 2, 3, 4, 5, 7, 8, 9, 10, 15, 27] hc ?_ ?_ | (refine rC (fun hcond => ?_) (fun hcond => ?_) <;> try (cases hcond; done)))
  · have h1 : featuresF d = ([], check5F d) := by unfold featuresF; rw [if_pos hcond]
    exact ev_fin hc [.tmp 2, .tmp 3] rfl (.inl rfl) (by simp) (by rw [h1]; first | exact eR | refine eRM ?_)
  · have h5 : check5F d = 0 := by simpa using hcond
    obtain ⟨hz, -, -⟩ := check5_zero h5
    obtain ⟨h3, -, -⟩ := codesF_zero hz
    exact ⟨(check3_zero h3).2.1, fun x hx => (check3_sizes h3 x hx).2⟩
  · have h5 : check5F d = 0 := by simpa using hcond
    obtain ⟨hz, hf64, -⟩ := check5_zero h5
    obtain ⟨h3, -, hl⟩ := codesF_zero hz
    obtain ⟨hsup, hd, -⟩ := check3_zero h3
    have hr : featuresF d = ((featsF d).map (featD d), 0) := by unfold featuresF; rw [if_neg (by rw [h5]; simp)]
    rw [hl]
    generalize featsF d = f at *
    refine ev_loop (ι := {i : Nat // i ≤ f.length}) (fun i => ⟨[(0, .p T22 d), (5, .p T118 (codesR d)), (7, .p T131 f), (8, .sr 49 T172 0 ((f.take i.1).map (featD d)).length), (9, .p (.int .i64) (i.1 : Int))], [(49, .arr 172 T172 ((f.take i.1).map (featD d)))]⟩) (fun i => f.length - i.1) ⟨0, Nat.zero_le _⟩ (ent_match [(49, .nil)] rfl rfl ?_ ?_) (fun i => ?_)
    · first | exact eN | refine eM ?_
    · first | exact eN | refine eM ?_
    · obtain ⟨i, hi⟩ := i
      have hlen := map_take_len (featD d) f hi
      have hs := fun h : i < f.length => map_take_succ (featD d) f ByteArray.empty h
      simp only
      repeat' (first | exact trivial | refine eS rfl ?_ | refine ev_out_inv ?_ | refine rX [0, 2, 3, 4, 5, 7, 8, 9, 10, 15, 27] hc ?_ ?_ | (refine rC (fun hcond => ?_) (fun hcond => ?_) <;> try (cases hcond; done)))
      · exact ⟨hcond, hsup, hd⟩
      · refine ⟨hcond, ?_⟩
        rw [hlen]
        simp only [maxN]
        omega
      · omega
      · have hi2 : i < f.length := Int.ofNat_lt.1 hcond
        have e := hs hi2
        refine ⟨⟨i + 1, hi2⟩, by simp only; omega, ent_match [(49, .nm 49)] rfl rfl ?_ ?_⟩
        · simp only [e]
          first | exact eN | refine eM ?_
          rfl
        · simp only [e]
          first | exact eN | refine eM ?_
      · have hi2 : f.take i = f := List.take_of_length_le (Int.ofNat_le.1 hcond)
        rw [hi2]
        refine Ev.ent ?_ (ent_frz [49] (by simp only [go_sem, Nat.reduceEqDiff, reduceCtorEq, Nat.reduceAdd, Nat.reduceSub, Nat.reduceMul, Nat.reduceLeDiff, Nat.reduceLT, Int.reduceLE, Int.reduceToNat, Int.reduceNeg, ↓reduceIte]; rfl) (fun _ _ h => h))
        exact ev_fin hc [.tmp 2, .tmp 3] rfl (.inl rfl) (by simp) (by rw [hr]; first | exact eR | refine eRM ?_)
end
/- Functions of grammarlabref05: Values. -/
section
attribute [local go_sem] check5S codesS featsS inhS findCS
def oneG (d : List DeclD) (l : List CodedD) (f : List ByteArray) (t : Nat) (n : Nat) : List (Int × Int) :=
  ((List.range n).filter fun (i : Nat) => (inhF d l (t : Int) (f.getD i ByteArray.empty)).2).map fun (i : Nat) => ((i : Int), findCF l (inhF d l (t : Int) (f.getD i ByteArray.empty)).1)
def valsG (d : List DeclD) (l : List CodedD) (f : List ByteArray) (n : Nat) : List (List (Int × Int)) := (List.range n).map fun t => oneG d l f t f.length
def valuesF (d : List DeclD) : List (List (Int × Int)) × Int := if check5F d ≠ 0 then ([], check5F d) else (valsG d (codesR d) (featsF d) (codesR d).length, 0)
theorem oneG_succ (d : List DeclD) (l : List CodedD) (f : List ByteArray) (t n : Nat) : oneG d l f t (n + 1) = oneG d l f t n ++ if (inhF d l (t : Int) (f.getD n ByteArray.empty)).2 = true then [((n : Int), findCF l (inhF d l (t : Int) (f.getD n ByteArray.empty)).1)] else [] := by
  unfold oneG
  rw [List.range_succ, List.filter_append, List.map_append]
  congr 1
  rw [List.filter_cons, List.filter_nil]
  split <;> rfl
theorem oneG_len (d : List DeclD) (l : List CodedD) (f : List ByteArray) (t n : Nat) : (oneG d l f t n).length ≤ n := by
  unfold oneG
  rw [List.length_map]
  exact Nat.le_trans (List.length_filter_le _ _) (by simp)
theorem valsG_succ (d : List DeclD) (l : List CodedD) (f : List ByteArray) (n : Nat) : valsG d l f (n + 1) = valsG d l f n ++ [oneG d l f n f.length] := by simp [valsG, List.range_succ]
theorem valsG_len (d : List DeclD) (l : List CodedD) (f : List ByteArray) (n : Nat) : (valsG d l f n).length = n := by simp [valsG]
theorem inhF_wid {d : List DeclD} {l : List CodedD} (h : ∀ x ∈ l, x.2.length ≤ 64) (t : Int) (s : ByteArray) : (inhF d l t s).1.length ≤ 64 := by
  unfold inhF
  refine inhs_len t s d ?_
  rw [List.getD_eq_getElem?_getD]
  cases hh : l[0]? with
  | none => simp
  | some x => exact h x (List.mem_of_getElem? hh)
def values5S : Spec := { ins := [T22], pre := fun _ => True, out := fun (d, _) => [.p T115 (valuesF d).1, .p T72 (valuesF d).2] }
theorem values5_ok : FnOk Tryz.prog 70 values5S := by
  refine fn_ok Tryz.func70 (by kernel_rfl) rfl Tryz.ntmps70 (by decide) (by kernel_rfl) (tyTab_ok [(98, check5S), (71, codesS), (99, featsS), (100, inhS), (101, findCS)]) (fns_cons check5_ok (fns_cons codes_ok (fns_cons feats_ok (fns_cons inh_ok (fns_cons findC_ok fns_nil))))) ?_
  rintro w0 O0 ⟨d, u⟩ hc - -
  simp only [values5S, entEnv]
  repeat' (first | exact trivial | refine eS rfl ?_ | refine ev_out_inv ?_ | refine rX [0, 2, 3, 4, 5, 7, 8, 9, 10, 11, 12, 13, 17, 29, 35, 49] hc ?_ ?_ | (refine rC (fun hcond => ?_) (fun hcond => ?_) <;> try (cases hcond; done)))
  · have h1 : valuesF d = ([], check5F d) := by unfold valuesF; rw [if_pos hcond]
    exact ev_fin hc [.tmp 2, .tmp 3] rfl (.inl rfl) (by simp) (by rw [h1]; first | exact eR | refine eRM ?_)
  · have h5 : check5F d = 0 := by simpa using hcond
    obtain ⟨hz, -, -⟩ := check5_zero h5
    obtain ⟨h3, -, -⟩ := codesF_zero hz
    exact ⟨(check3_zero h3).2.1, fun x hx => (check3_sizes h3 x hx).2⟩
  · have h5 : check5F d = 0 := by simpa using hcond
    obtain ⟨hz, hf64, hdz⟩ := check5_zero h5
    obtain ⟨h3, hlen, hl⟩ := codesF_zero hz
    obtain ⟨hsup, hd, -⟩ := check3_zero h3
    have hr : valuesF d = (valsG d (codesR d) (featsF d) (codesR d).length, 0) := by unfold valuesF; rw [if_neg (by rw [h5]; simp)]
    have hnr := nrOk_of h3 hdz
    have hwid := codesR_wid h3
    have hll : (codesR d).length ≤ 256 := by rw [codesR_len]; exact hlen
    rw [hl]
    generalize codesR d = l at *
    generalize featsF d = f at *
    have hiw := fun t s => inhF_wid (d := d) hwid t s
    refine ev_loop (ι := {t : Nat // t ≤ l.length}) (fun t => ⟨[(0, .p T22 d), (5, .p T118 l), (7, .p T131 f), (8, .sr 61 T126 0 (valsG d l f t.1).length), (9, .p (.int .i64) (t.1 : Int))], [(61, .arr 126 T126 (valsG d l f t.1))]⟩) (fun t => l.length - t.1) ⟨0, Nat.zero_le _⟩ (ent_match [(61, .nil)] rfl rfl ?_ ?_) (fun t => ?_)
    · first | exact eN | refine eM ?_
      rfl
    · first | exact eN | refine eM ?_
      rfl
    · obtain ⟨t, ht⟩ := t
      have hlen := valsG_len d l f t
      have hs := valsG_succ d l f t
      simp only
      repeat' (first | exact trivial | refine eS rfl ?_ | refine ev_out_inv ?_ | refine rX [0, 2, 3, 4, 5, 7, 8, 9, 10, 11, 12, 13, 17, 29, 35, 49] hc ?_ ?_ | (refine rC (fun hcond => ?_) (fun hcond => ?_) <;> try (cases hcond; done)))
      · refine ev_loop (ι := {i : Nat // i ≤ f.length}) (fun i => ⟨[(0, .p T22 d), (5, .p T118 l), (7, .p T131 f), (8, .sr 61 T126 0 (valsG d l f t).length), (9, .p (.int .i64) (t : Int)), (10, .sr 57 T161 0 (oneG d l f t i.1).length), (11, .p (.int .i64) (i.1 : Int))], [(61, .arr 126 T126 (valsG d l f t)), (57, .arr 161 T161 (oneG d l f t i.1))]⟩) (fun i => f.length - i.1) ⟨0, Nat.zero_le _⟩ (ent_match [(61, .nm 61), (57, .nil)] rfl rfl ?_ ?_) (fun i => ?_)
        · first | exact eN | refine eM ?_
          rfl
        · first | exact eN | refine eM ?_
          rfl
        · obtain ⟨i, hi⟩ := i
          have hol := oneG_len d l f t i
          have hos := oneG_succ d l f t i
          simp only
          repeat' (first | exact trivial | refine eS rfl ?_ | refine ev_out_inv ?_ | refine rX [0, 2, 3, 4, 5, 7, 8, 9, 10, 11, 12, 13, 17, 29, 35, 49] hc ?_ ?_ | (refine rC (fun hcond => ?_) (fun hcond => ?_) <;> try (cases hcond; done)))
          · exact ⟨hcond, hnr, by assumption, hll, hwid⟩
          · refine ⟨Nat.le_trans (hiw _ _) (by decide), ?_⟩
            simp only [maxN]
            omega
          · omega
          · have hi2 : i < f.length := Int.ofNat_lt.1 (by assumption)
            rw [if_pos hcond] at hos
            refine ⟨⟨i + 1, hi2⟩, by simp only; omega, ent_match [(61, .nm 61), (57, .nm 57)] rfl rfl ?_ ?_⟩
            · simp only [hos]
              first | exact eN | refine eM ?_
            · simp only [hos]
              first | exact eN | refine eM ?_
          · omega
          · have hi2 : i < f.length := Int.ofNat_lt.1 (by assumption)
            rw [if_neg (by rw [hcond]; simp), List.append_nil] at hos
            refine ⟨⟨i + 1, hi2⟩, by simp only; omega, ent_match [(61, .nm 61), (57, .nm 57)] rfl rfl ?_ ?_⟩
            · simp only [hos]
              first | exact eN | refine eM ?_
            · simp only [hos]
              first | exact eN | refine eM ?_
          · rw [hlen]
            simp only [maxN]
            omega
          · omega
          · have ht2 : t < l.length := Int.ofNat_lt.1 (by assumption)
            have hi2 : i = f.length := by omega
            subst hi2
            refine ⟨⟨t + 1, ht2⟩, by simp only; omega, ent_match [(61, .nm 61)] rfl rfl ?_ ?_⟩
            · simp only [hs]
              first | exact eN | refine eM ?_
            · simp only [hs]
              first | exact eN | refine eM ?_
      · have ht2 : t = l.length := by omega
        subst ht2
        refine Ev.ent ?_ (ent_frz [61] (by simp only [go_sem, Nat.reduceEqDiff, reduceCtorEq, Nat.reduceAdd, Nat.reduceSub, Nat.reduceMul, Nat.reduceLeDiff, Nat.reduceLT, Int.reduceLE, Int.reduceToNat, Int.reduceNeg, ↓reduceIte]; rfl) (fun _ _ h => h))
        exact ev_fin hc [.tmp 2, .tmp 3] rfl (.inl rfl) (by simp) (by rw [hr]; first | exact eR | refine eRM ?_)
end
/- Functions of grammarlabref06: decl. -/
section
attribute [local go_sem] cs0
def pairG (l : List ByteArray) (n : Nat) : List FV := (List.range n).map fun k => (l.getD (2 * k) ByteArray.empty, l.getD (2 * k + 1) ByteArray.empty)
theorem pairG_succ (l : List ByteArray) (n : Nat) : pairG l (n + 1) = pairG l n ++ [(l.getD (2 * n) ByteArray.empty, l.getD (2 * n + 1) ByteArray.empty)] := by simp [pairG, List.range_succ]
theorem pairG_len (l : List ByteArray) (n : Nat) : (pairG l n).length = n := by simp [pairG]
def declSup (s : ByteArray) : List ByteArray := if strEq s ByteArray.empty = true then [] else [s]
def declF (n s : ByteArray) (l : List ByteArray) : DeclD := (n, declSup s, pairG l (l.length / 2))
def declS : Spec := { ins := [T9, T9, T131], pre := fun (_, _, l, _) => List.length l ≤ 1000, out := fun (n, s, l, _) => [.p T134 (declF n s l)] }
theorem decl_ok : FnOk Tryz.prog 74 declS := by
  refine fn_ok Tryz.func74 (by kernel_rfl) rfl Tryz.ntmps74 (by decide) (by kernel_rfl) (tyTab_ok []) fns_nil ?_
  rintro w0 O0 ⟨n, s, l, u⟩ hc - hl
  have hl : l.length ≤ 1000 := hl
  simp only [declS, entEnv]
  repeat' (first | exact trivial | refine eS rfl ?_ | refine ev_out_inv ?_ | refine rX [0, 1, 2, 6, 7, 8, 12, 20] hc ?_ ?_ | (refine rC (fun hcond => ?_) (fun hcond => ?_) <;> try (cases hcond; done)))
  · have hcd := hcond
    refine Ev.ent ?_ (ent_frz [14] (by simp only [go_sem, Nat.reduceEqDiff, reduceCtorEq, Nat.reduceAdd, Nat.reduceSub, Nat.reduceMul, Nat.reduceLeDiff, Nat.reduceLT, Int.reduceLE, Int.reduceToNat, Int.reduceNeg, ↓reduceIte]; rfl) (fun _ _ h => h))
    refine ev_loop (ι := {k : Nat // 2 * k ≤ l.length}) (fun k => ⟨[(2, .p T131 l), (6, .bp 6 [] 0), (7, .bp 7 [] 0), (8, .p (.int .i64) ((2 * k.1 : Nat) : Int))], [(6, .box 134 true [.p T9 ByteArray.empty, .raw (.slice none 0 0), .raw (.slice none 0 0)]), (7, .box 134 true [.p T9 n, .p T131 [s], .sr 36 T174 0 (pairG l k.1).length]), (36, .arr 174 T174 (pairG l k.1))]⟩) (fun k => l.length - 2 * k.1) ⟨0, Nat.zero_le _⟩ (ent_match [(6, .nm 6), (7, .nm 7), (36, .nil)] rfl rfl ?_ ?_) (fun k => ?_)
    · first | exact eN | refine eM ?_
      exact ⟨rfl, rfl⟩
    · first | exact eN | refine eM ?_
    · obtain ⟨k, hk⟩ := k
      have hpl := pairG_len l k
      have hps := pairG_succ l k
      simp only
      repeat' (first | exact trivial | refine eS rfl ?_ | refine ev_out_inv ?_ | refine rX [0, 1, 2, 6, 7, 8, 12, 20] hc ?_ ?_ | (refine rC (fun hcond => ?_) (fun hcond => ?_) <;> try (cases hcond; done)))
      · exact eV
      · refine ⟨by exact eV, ⟨by exact eV, by exact eV⟩, ⟨by exact eV, by exact eV⟩, ?_⟩
        rw [hpl]
        simp only [maxN]
        exact eV
      · exact eV
      · have hk2 : 2 * k + 1 < l.length := by exact eV
        have e1 : ((2 * k : Nat) : Int) + 1 = ((2 * k + 1 : Nat) : Int) := by omega
        refine ⟨⟨k + 1, by omega⟩, by simp only; omega, ent_match [(6, .nm 6), (7, .nm 7), (36, .nm 36)] rfl rfl ?_ ?_⟩
        · simp only [hps]
          first | exact eN | refine eM ?_
          rw [e1]
          rfl
        · simp only [hps]
          first | exact eN | refine eM ?_
          show ((2 * k : Nat) : Int) + 2 = ((2 * (k + 1) : Nat) : Int)
          omega
      · have hk2 : k = l.length / 2 := by exact eV
        refine Ev.ent ?_ (ent_frz [36] (by simp only [go_sem, Nat.reduceEqDiff, reduceCtorEq, Nat.reduceAdd, Nat.reduceSub, Nat.reduceMul, Nat.reduceLeDiff, Nat.reduceLT, Int.reduceLE, Int.reduceToNat, Int.reduceNeg, ↓reduceIte]; rfl) (fun _ _ h => h))
        have hr : declF n s l = (n, [s], pairG l k) := by
          unfold declF declSup
          rw [← hk2, if_neg (by rw [show strEq s ByteArray.empty = false from hcd]; simp)]
        exact ev_fin hc [.cell 6 134] rfl (.inl rfl) (by simp) (by rw [hr]; first | exact eR | refine eRM ?_)
  · have hcd := hcond
    refine ev_loop (ι := {k : Nat // 2 * k ≤ l.length}) (fun k => ⟨[(2, .p T131 l), (6, .bp 6 [] 0), (7, .bp 7 [] 0), (8, .p (.int .i64) ((2 * k.1 : Nat) : Int))], [(6, .box 134 true [.p T9 ByteArray.empty, .raw (.slice none 0 0), .raw (.slice none 0 0)]), (7, .box 134 true [.p T9 n, .p T131 ([] : List ByteArray), .sr 36 T174 0 (pairG l k.1).length]), (36, .arr 174 T174 (pairG l k.1))]⟩) (fun k => l.length - 2 * k.1) ⟨0, Nat.zero_le _⟩ (ent_match [(6, .nm 6), (7, .nm 7), (36, .nil)] rfl rfl ?_ ?_) (fun k => ?_)
    · first | exact eN | refine eM ?_
      exact ⟨rfl, rfl⟩
    · first | exact eN | refine eM ?_
    · obtain ⟨k, hk⟩ := k
      have hpl := pairG_len l k
      have hps := pairG_succ l k
      simp only
      repeat' (first | exact trivial | refine eS rfl ?_ | refine ev_out_inv ?_ | refine rX [0, 1, 2, 6, 7, 8, 12, 20] hc ?_ ?_ | (refine rC (fun hcond => ?_) (fun hcond => ?_) <;> try (cases hcond; done)))
      · exact eV
      · refine ⟨by exact eV, ⟨by exact eV, by exact eV⟩, ⟨by exact eV, by exact eV⟩, ?_⟩
        rw [hpl]
        simp only [maxN]
        exact eV
      · exact eV
      · have hk2 : 2 * k + 1 < l.length := by exact eV
        have e1 : ((2 * k : Nat) : Int) + 1 = ((2 * k + 1 : Nat) : Int) := by omega
        refine ⟨⟨k + 1, by omega⟩, by simp only; omega, ent_match [(6, .nm 6), (7, .nm 7), (36, .nm 36)] rfl rfl ?_ ?_⟩
        · simp only [hps]
          first | exact eN | refine eM ?_
          rw [e1]
          rfl
        · simp only [hps]
          first | exact eN | refine eM ?_
          show ((2 * k : Nat) : Int) + 2 = ((2 * (k + 1) : Nat) : Int)
          omega
      · have hk2 : k = l.length / 2 := by exact eV
        refine Ev.ent ?_ (ent_frz [36] (by simp only [go_sem, Nat.reduceEqDiff, reduceCtorEq, Nat.reduceAdd, Nat.reduceSub, Nat.reduceMul, Nat.reduceLeDiff, Nat.reduceLT, Int.reduceLE, Int.reduceToNat, Int.reduceNeg, ↓reduceIte]; rfl) (fun _ _ h => h))
        have hr : declF n s l = (n, ([] : List ByteArray), pairG l k) := by
          unfold declF declSup
          rw [← hk2, if_pos (show strEq s ByteArray.empty = true from hcd)]
        exact ev_fin hc [.cell 6 134] rfl (.inl rfl) (by simp) (by rw [hr]; first | exact eR | refine eRM ?_)
end
/- Functions of grammarlabref06: Prelude. -/
section
attribute [local go_sem] declS cs0 cs1 cs2 cs3 cs4 cs5 cs6 cs7 cs8
def preludeF : List DeclD := [
  declF { data := #[116, 111, 112] } { data := #[] } [], 
  declF { data := #[108, 105, 115, 116] } { data := #[116, 111, 112] } [], 
  declF { data := #[99, 111, 110, 115] } { data := #[108, 105, 115, 116] } [{ data := #[70, 73, 82, 83, 84] }, { data := #[116, 111, 112] }, { data := #[82, 69, 83, 84] }, { data := #[108, 105, 115, 116] }], 
  declF { data := #[110, 117, 108, 108] } { data := #[108, 105, 115, 116] } [], 
  declF { data := #[100, 108, 105, 115, 116] } { data := #[116, 111, 112] } [{ data := #[76, 73, 83, 84] }, { data := #[108, 105, 115, 116] }, { data := #[76, 65, 83, 84] }, { data := #[108, 105, 115, 116] }], 
  declF { data := #[105, 110, 100, 101, 120] } { data := #[116, 111, 112] } [], 
  declF { data := #[104, 97, 110, 100, 108, 101] } { data := #[105, 110, 100, 101, 120] } [], 
  declF { data := #[101, 118, 101, 110, 116] } { data := #[105, 110, 100, 101, 120] } [], 
  declF { data := #[101, 110, 116, 105, 116, 121] } { data := #[105, 110, 100, 101, 120] } [], 
  declF { data := #[114, 101, 108] } { data := #[116, 111, 112] } [{ data := #[76, 65, 66, 69, 76] }, { data := #[104, 97, 110, 100, 108, 101] }], 
  declF { data := #[113, 101, 113] } { data := #[116, 111, 112] } [{ data := #[72, 73, 71, 72] }, { data := #[104, 97, 110, 100, 108, 101] }, { data := #[76, 79, 87] }, { data := #[104, 97, 110, 100, 108, 101] }], 
  declF { data := #[115, 101, 109] } { data := #[116, 111, 112] } [{ data := #[84, 79, 80] }, { data := #[104, 97, 110, 100, 108, 101] }, { data := #[73, 78, 68, 69, 88] }, { data := #[105, 110, 100, 101, 120] }, { data := #[82, 69, 76, 83] }, { data := #[100, 108, 105, 115, 116] }, { data := #[67, 79, 78, 83] }, { data := #[100, 108, 105, 115, 116] }], 
  declF { data := #[115, 105, 103, 110] } { data := #[116, 111, 112] } [{ data := #[83, 69, 77] }, { data := #[115, 101, 109] }, { data := #[65, 82, 71, 83] }, { data := #[108, 105, 115, 116] }]]
def preludeS : Spec := { ins := [], pre := fun _ => True, out := fun _ => [.p T22 preludeF] }
theorem prelude_ok : FnOk Tryz.prog 42 preludeS := by
  refine fn_ok Tryz.func42 (by kernel_rfl) rfl Tryz.ntmps42 (by decide) (by kernel_rfl) (tyTab_ok [(74, declS)] [3, 6, 12, 14, 16, 18, 20]) (fns_cons decl_ok fns_nil) ?_
  rintro w0 O0 u hc - -
  simp only [preludeS, entEnv]
  repeat' (first | exact trivial | refine eS rfl ?_ | refine ev_out_inv ?_ | refine rX [0] hc ?_ ?_ | (refine rC (fun hcond => ?_) (fun hcond => ?_) <;> try (cases hcond; done)))
  exact ev_fin hc [.tmp 0] rfl (.inl rfl) (by simp) (by unfold preludeF; first | exact eR | refine eRM ?_)
end
/- Functions of grammarlabref06: Compile. -/
section
attribute [local go_sem] values5S codesS supsS featuresS
abbrev TypeD := ByteArray × List Int × List Int × List (Int × Int)
abbrev HierD := List TypeD × List FeatD
def typeG (l : List CodedD) (v : List (List (Int × Int))) (n : Nat) : List TypeD := (List.range n).map fun i => ((l.getD i c0).1, (l.getD i c0).2, supsF l (i : Int), v.getD i [])
theorem typeG_succ (l : List CodedD) (v : List (List (Int × Int))) (n : Nat) : typeG l v (n + 1) = typeG l v n ++ [((l.getD n c0).1, (l.getD n c0).2, supsF l (n : Int), v.getD n [])] := by simp [typeG, List.range_succ]
theorem typeG_len (l : List CodedD) (v : List (List (Int × Int))) (n : Nat) : (typeG l v n).length = n := by simp [typeG]
def hierV (d : List DeclD) : HierD := (typeG (codesR d) (valuesF d).1 (codesR d).length, (featuresF d).1)
def compileF (d : List DeclD) : HierD × Int := if (valuesF d).2 ≠ 0 then (([], []), (valuesF d).2) else (hierV d, 0)
def compileS : Spec := { ins := [T22], pre := fun _ => True, out := fun (d, _) => [.p T33 (compileF d).1, .p T72 (compileF d).2] }
theorem compile_ok : FnOk Tryz.prog 41 compileS := by
  refine fn_ok Tryz.func41 (by kernel_rfl) rfl Tryz.ntmps41 (by decide) (by kernel_rfl) (tyTab_ok [(70, values5S), (71, codesS), (72, supsS), (73, featuresS)]) (fns_cons values5_ok (fns_cons codes_ok (fns_cons sups_ok (fns_cons features_ok fns_nil)))) ?_
  rintro w0 O0 ⟨d, u⟩ hc - -
  simp only [compileS, entEnv]
  repeat' (first | exact trivial | refine eS rfl ?_ | refine ev_out_inv ?_ | refine rX [0, 2, 3, 4, 5, 6, 8, 9, 10, 18, 29] hc ?_ ?_ | (refine rC (fun hcond => ?_) (fun hcond => ?_) <;> try (cases hcond; done)))
  · have h1 : compileF d = (([], []), (valuesF d).2) := by unfold compileF; rw [if_pos hcond]
    exact ev_fin hc [.cell 2 33, .tmp 3] rfl (.inl rfl) (by simp) (by rw [h1]; first | exact eR | refine eRM ?_)
  · have hv : (valuesF d).2 = 0 := by simpa using hcond
    have h5 : check5F d = 0 := by
      unfold valuesF at hv
      split at hv
      · rename_i h; exact absurd hv h
      · rename_i h; exact Classical.byContradiction h
    obtain ⟨hz, hf64, hdz⟩ := check5_zero h5
    obtain ⟨h3, hlen, hl⟩ := codesF_zero hz
    have hr : compileF d = (hierV d, 0) := by unfold compileF; rw [if_neg (by rw [hv]; simp)]
    have hvl : (valuesF d).1.length = (codesR d).length := by
      unfold valuesF
      rw [if_neg (by rw [h5]; simp)]
      exact valsG_len _ _ _ _
    have hwid := codesR_wid h3
    have hll : (codesR d).length ≤ 256 := by rw [codesR_len]; exact hlen
    unfold hierV at hr
    rw [hl]
    generalize codesR d = l at *
    generalize (valuesF d).1 = v at *
    refine ev_loop (ι := {n : Nat // n ≤ l.length}) (fun n => ⟨[(0, .p T22 d), (2, .bp 2 [] 0), (4, .p T115 v), (6, .p T118 l), (8, .bp 8 [] 0), (9, .p (.int .i64) (n.1 : Int))], [(2, .box 33 true [.raw (.slice none 0 0), .raw (.slice none 0 0)]), (8, .box 33 true [.sr 53 T128 0 (typeG l v n.1).length, .raw (.slice none 0 0)]), (53, .arr 128 T128 (typeG l v n.1))]⟩) (fun n => l.length - n.1) ⟨0, Nat.zero_le _⟩ (ent_match [(2, .nm 2), (8, .nm 8), (53, .nil)] rfl rfl ?_ ?_) (fun n => ?_)
    · first | exact eN | refine eM ?_
      exact ⟨rfl, rfl⟩
    · first | exact eN | refine eM ?_
    · obtain ⟨n, hn⟩ := n
      have htl := typeG_len l v n
      have hts := typeG_succ l v n
      simp only
      repeat' (first | exact trivial | refine eS rfl ?_ | refine ev_out_inv ?_ | refine rX [0, 2, 3, 4, 5, 6, 8, 9, 10, 18, 29] hc ?_ ?_ | (refine rC (fun hcond => ?_) (fun hcond => ?_) <;> try (cases hcond; done)))
      · refine ⟨hcond, hcond, ⟨hcond, hll, hwid⟩, by rw [hvl]; exact hcond, ?_⟩
        rw [htl]
        simp only [maxN]
        omega
      · omega
      · have hn2 : n < l.length := Int.ofNat_lt.1 hcond
        refine ⟨⟨n + 1, hn2⟩, by simp only; omega, ent_match [(2, .nm 2), (8, .nm 8), (53, .nm 53)] rfl rfl ?_ ?_⟩
        · simp only [hts]
          first | exact eN | refine eM ?_
        · simp only [hts]
          first | exact eN | refine eM ?_
      · have hn2 : n = l.length := by omega
        subst hn2
        refine Ev.ent ?_ (ent_frz [53] (by simp only [go_sem, Nat.reduceEqDiff, reduceCtorEq, Nat.reduceAdd, Nat.reduceSub, Nat.reduceMul, Nat.reduceLeDiff, Nat.reduceLT, Int.reduceLE, Int.reduceToNat, Int.reduceNeg, ↓reduceIte]; rfl) (fun _ _ h => h))
        exact ev_fin hc [.cell 2 33, .tmp 3] rfl (.inl rfl) (by simp) (by rw [hr]; first | exact eR | refine eRM ?_)
end
/- Functions of grammarlabref15: Hier. -/
section
attribute [local go_sem] compileS preludeS
def hierF (d : List DeclD) : HierD := if d.length ≤ 20 ∧ (compileF d).2 = 0 then (compileF d).1 else (compileF preludeF).1
def hierS : Spec := { ins := [T22], pre := fun _ => True, out := fun (d, _) => [.p T33 (hierF d)] }
theorem hier_ok : FnOk Tryz.prog 14 hierS := by
  refine fn_ok Tryz.func14 (by kernel_rfl) rfl Tryz.ntmps14 (by decide) (by kernel_rfl) (tyTab_ok [(41, compileS), (42, preludeS)]) (fns_cons compile_ok (fns_cons prelude_ok fns_nil)) ?_
  rintro w0 O0 ⟨d, u⟩ hc - -
  simp only [hierS, entEnv]
  repeat' (first | exact trivial | refine eS rfl ?_ | refine ev_out_inv ?_ | refine rX [0, 2, 3, 4, 5, 9, 16] hc ?_ ?_ | (refine rC (fun hcond => ?_) (fun hcond => ?_) <;> try (cases hcond; done)))
  · have h1 : hierF d = (compileF d).1 := by unfold hierF; rw [if_pos ⟨by exact eV, hcond⟩]
    exact ev_fin hc [.cell 2 33] rfl (.inl rfl) (by simp) (by rw [h1]; first | exact eR | refine eRM ?_)
  · have h1 : hierF d = (compileF preludeF).1 := by unfold hierF; rw [if_neg (fun h => hcond h.2)]
    exact ev_fin hc [.cell 2 33] rfl (.inl rfl) (by simp) (by rw [h1]; first | exact eR | refine eRM ?_)
  · have h1 : hierF d = (compileF preludeF).1 := by
      unfold hierF
      rw [if_neg]
      intro h
      have := h.1
      exact eV
    exact ev_fin hc [.cell 2 33] rfl (.inl rfl) (by simp) (by rw [h1]; first | exact eR | refine eRM ?_)
end
end Go.Proofs.YtpikphnjpldoiaaGreat.Fw
